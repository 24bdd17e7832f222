/- Merged of several texts of this session's by merge.py. -/
import Derived.Test.YtoiockmmlanimaaDoorMp3
import Derived.Test.YtoiockmmlanimaaDoorMp4
import Derived.IntWalk
import Derived.KernelRfl
section
namespace Go.Proofs.YtoiockmmlanimaaDoor.Op
open Go.RowKit Go.Proofs.YtoiockmmlanimaaDoorW.PrintWords Go.Proofs.YtoiockmmlanimaaDoorW.PrintLast Go.Proofs.YtoiockmmlanimaaDoorW.PrintMore
attribute [local go_sem] max2_int min2_int max_two min_two max_three min_three max_four min_four
set_option linter.unusedVariables false
set_option linter.unusedSimpArgs false
def stowagelaw14_zeros.l0 : Nat → List Int → Int → Option (ByteArray)
 | 0, _, _ => none
 | k + 1, x1, x2 => if x2 < 64 then (if 0 ≤ x2 then (if x2 < (x1.length : Int) then (stowagelaw14_zeros.l0 k (x1.set (x2 : Int).toNat 48) (wrap64 (x2 + 1))) else (none)) else (none)) else (some (strOfNums x1))
def stowagelaw14_zeros.f (k : Nat)  : Option (ByteArray) := if 64 ≤ 281474976710656 then (stowagelaw14_zeros.l0 k (List.replicate 64 0) 0) else (none)
theorem stowagelaw14_zeros.mono_l : ∀ k, (∀ y0 y1, LeO (stowagelaw14_zeros.l0 k y0 y1) (stowagelaw14_zeros.l0 (k + 1) y0 y1))
 | 0 => fun _ _ r h => by simp [stowagelaw14_zeros.l0] at h
 | k + 1 => by
  have ih0 := stowagelaw14_zeros.mono_l k
  ·
   intro y0 y1
   unfold stowagelaw14_zeros.l0
   repeat' (with_reducible first | exact ih0 _ _ | exact LeO.refl _ | exact LeO.none _ | refine LeO.ite ?_ ?_ | refine LeO.bind ?_ (fun _ => ?_))
theorem stowagelaw14_zeros.mono : ∀ k, LeO (stowagelaw14_zeros.f k ) (stowagelaw14_zeros.f (k + 1) ) := by
 intro  k
 have ih0 := stowagelaw14_zeros.mono_l k
 unfold stowagelaw14_zeros.f
 repeat' (with_reducible first | exact ih0 _ _ | exact LeO.refl _ | exact LeO.none _ | refine LeO.ite ?_ ?_ | refine LeO.bind ?_ (fun _ => ?_))
set_option maxHeartbeats 8000000 in
set_option maxRecDepth 100000 in
theorem stowagelaw14_zeros.calls (k : Nat)  (r : ByteArray) (w : World) (h : stowagelaw14_zeros.f k  = some r) :
  Calls Tryd.prog 39 #[] w fun e w' => e = .returned (.string r) ∧ Below w.heap.size w w' := by
 have HB := am (Below.refl w.heap.size w)
 have H := h
 clear h
 unfold stowagelaw14_zeros.f at H
 by_cases c1 : 64 ≤ 281474976710656
 ·
  rw [if_pos c1] at H
  have c1b0 := eq_true c1
  have c1b1 := decide_eq_true c1
  clear c1
  obtain ⟨y157, hy157⟩ : ∃ y_ : List Int, y_ = (List.replicate 64 0) := ⟨_, rfl⟩
  replace H : (stowagelaw14_zeros.l0 k y157 0) = some r := by first | (rw [hy157]; with_reducible exact H) | (have H2_ := (Option.bind_some _ _).symm.trans H; rw [hy157]; with_reducible exact H2_) | (have H2_ := (Option.bind_some _ _).symm.trans H; with_reducible exact H2_) | with_reducible exact H | (rw [hy157]; exact H) | exact H
  have Ny157 := am hy157
  clear hy157
  have H' := am H
  clear H
  go_enter Tryd.func39, Tryd.ntmps39
  go_wp2_with (first | ((with_reducible refine gate_dst (N := 3) rfl ?_); refine Kd.R_make (Kd.int .u8) _ 5 rfl (N := 3) rfl 113 _ _ rfl 64 rfl rfl Tryd.underlying113 (.int .u8 0) 1 info5 rfl (by decide) (by omega) 0 (ok := fun _ => True) (okp := fun _ => True) rfl (fun _ hk => hk) trivial (by omega) (by omega) (Below.refl _ _) (Nat.le_refl _) ?_; intro v158 w2 ho3 hb hg_ hnew_; clear hg_ hnew_; (first | rw [← Ny157.out] at ho3 | (simp only [Int.reduceToNat] at ho3; rw [← Ny157.out] at ho3)); have HO159 := am (Kd.R_lower ho3 (below_size (bw HB.out))); replace HB := am (below_step (bw HB.out) hb); clear hb ho3))
  go_loopg [2] k (fun kq v2 w' => ∃ (x1_1 : List Int) (x2_1 : Int), v2 = .int .i64 x2_1 ∧ Aside0 (stowagelaw14_zeros.l0 kq x1_1 x2_1 = some r) ∧ Aside0 (kq ≤ k) ∧ Aside0 (Kd.R (Kd.int .u8) 5 w' w.heap.size (fun _ => True) v158 x1_1) ∧ Aside0 (Below w.heap.size w w'))
  case atStart => exact ⟨(y157), (0), rs, H', ⟨Nat.le_refl _⟩, ⟨kR HO159.out⟩, ⟨bw HB.out⟩⟩
  case round =>
   clear H'
   try clear c1
   try clear c1b0
   try clear c1b1
   obtain ⟨x1_1, x2_1, rfl, HA, HK1, HO_1, HB⟩ := hrel
   cases gk with
   | zero => exact absurd HA.out (by simp [stowagelaw14_zeros.l0])
   | succ k1 =>
    have H := HA.out
    clear HA
    simp only [stowagelaw14_zeros.l0] at H
    replace H := iteD H
    rcases H with ⟨c4b0, H⟩ | ⟨c4b0, H⟩
    ·
     replace H := iteD H
     rcases H with ⟨c5b0, H⟩ | ⟨_, H⟩
     ·
      replace H := iteD H
      rcases H with ⟨c6b0, H⟩ | ⟨_, H⟩
      ·
       obtain ⟨y160, hy160⟩ : ∃ y_ : List Int, y_ = (x1_1.set (x2_1 : Int).toNat 48) := ⟨_, rfl⟩
       replace H : (stowagelaw14_zeros.l0 k1 y160 (wrap64 (x2_1 + 1))) = some r := by first | (rw [hy160]; with_reducible exact H) | (have H2_ := (Option.bind_some _ _).symm.trans H; rw [hy160]; with_reducible exact H2_) | (have H2_ := (Option.bind_some _ _).symm.trans H; with_reducible exact H2_) | with_reducible exact H | (rw [hy160]; exact H) | exact H
       have Ny160 := am hy160
       clear hy160
       have H' := am H
       clear H
       have p7 : 0 ≤ (x2_1 : Int) := of_decide_eq_true asm
       have q7 : (x2_1 : Int) < ((x1_1.length : Int) : Int) := of_decide_eq_true asm
       obtain ⟨go7, co7, eo7, gb7, gl7, cl7, HG7⟩ := Kd.R_form HO_1.out (by omega)
       (first | cases eo7 | (injection eo7 with ea_ en_ ec_; (first | subst ea_ | (injection ea_ with ea_; subst ea_)); subst ec_; clear en_))
       have GB7 := am gb7
       have GG7 := am HG7
       clear gb7 gl7 HG7
       obtain ⟨hx7_0, hf7_0⟩ := Kd.R_celln 0 HO_1.out (x2_1 : Int) p7 q7
       replace p7 := eq_true p7
       replace q7 := eq_true q7
       have HP8 := Kd.R_putg HO_1.out (x2_1 : Int) 48
       go_wp2_with (first | ((with_reducible refine gate_store (t := 5) (p := 10) rfl ?_); refine store_event (t := 5) (p := 10) (v := ?vo_w9) (w1 := (wr.setCell ⟨go7, (x2_1 : Int).toNat, none⟩ (.int .u8 48))) ?hg ?ho ?hn ?hr ?_; (case ho => rfl); (case hg => rfl); (case hn => rfl); (case hr => first | (go_simp; done) | (go_simp; rfl)); intro w9 hw; have hg : wr.grownBy w9 (some go7) := (by rw [hw]; exact HP8.2); have hp_ : Kd.R (Kd.int .u8) 5 w9 w.heap.size (fun _ => True) (.slice (some ⟨go7, 0, none⟩) x1_1.length co7) y160 := (by rw [hw, Ny160.out]; exact HP8.1); clear HP8; replace HO_1 := am (hp_); replace HB := am ((by rw [hw]; exact below_set (HB.out) GB7.out : Below w.heap.size w w9)); clear hg hw hp_))
       go_roundg k1
       case measure => have := HK1.out; omega
       case rel => exact ⟨(y160), (wrap64 (x2_1 + 1)), rs, H', ⟨by have := HK1.out; omega⟩, ⟨kR HO_1.out⟩, ⟨bw HB.out⟩⟩
      ·
       exact absurd H (by simp)
     ·
      exact absurd H (by simp)
    ·
     obtain rfl := Option.some.inj H
     have hcv10 := own_string (P := Tryd.prog) Tryd.underlying113 Tryd.underlying5 Tryd.underlying9 (Kd.own_of_R HO_1.out)
     go_wp2
     go_ret
     exact ⟨rf, bw HB.out⟩
 ·
  rw [if_neg c1] at H
  exact absurd H (by simp)
def stowagelaw14_one.f (k : Nat) (a0 : Int) (a1 : Int) : Option (Int × Int × ByteArray × (List (S63))) := (stowagelaw14_zeros.f k).bind fun t162 => ((stowagelaw14_zeros.f k).bind fun t163 => (some (a0, a1, t162, (([(⟨t163, a1⟩ : S63)] : List (S63))))))
theorem stowagelaw14_one.mono : ∀ a0 a1 k, LeO (stowagelaw14_one.f k a0 a1) (stowagelaw14_one.f (k + 1) a0 a1) := by
 intro a0 a1 k
 unfold stowagelaw14_one.f
 repeat' (with_reducible first | exact stowagelaw14_zeros.mono _ | exact LeO.refl _ | exact LeO.none _ | refine LeO.ite ?_ ?_ | refine LeO.bind ?_ (fun _ => ?_))
set_option maxHeartbeats 8000000 in
set_option maxRecDepth 100000 in
theorem stowagelaw14_one.calls (k : Nat) (a0 : Int) (a1 : Int) (r1 : Int) (r2 : Int) (r3 : ByteArray) (r4 : List (S63)) (w : World) (h : stowagelaw14_one.f k a0 a1 = some (r1, r2, r3, r4)) :
  Calls Tryd.prog 38 #[.int .i64 a0, .int .i64 a1] w fun e w' => ∃ v3_ : Value, e = .returned (.agg #[.int .i64 r1, .int .i64 r2, .string r3, v3_]) ∧ Kd.R k63 63 w' w.heap.size (fun _ => True) v3_ r4 ∧ Below w.heap.size w w' := by
 have hu46 := Tryd.underlying46
 have hu63 := Tryd.underlying63
 have HB := am (Below.refl w.heap.size w)
 have H := h
 clear h
 unfold stowagelaw14_one.f at H
 replace H := obE H
 obtain ⟨t162, A3, H⟩ := H
 replace H := obE H
 obtain ⟨t163, A4, H⟩ := H
 obtain ⟨y164, hy164⟩ : ∃ y_ : List (S63), y_ = (([(⟨t163, a1⟩ : S63)] : List (S63))) := ⟨_, rfl⟩
 replace H : (some (a0, a1, t162, y164)) = some (r1, r2, r3, r4) := by first | (rw [hy164]; with_reducible exact H) | (have H2_ := (Option.bind_some _ _).symm.trans H; rw [hy164]; with_reducible exact H2_) | (have H2_ := (Option.bind_some _ _).symm.trans H; with_reducible exact H2_) | with_reducible exact H | (rw [hy164]; exact H) | exact H
 have Ny164 := am hy164
 clear hy164
 simp only [Option.some.injEq, Prod.mk.injEq] at H
 obtain ⟨rfl, rfl, rfl, rfl⟩ := H
 go_enter Tryd.func38, Tryd.ntmps38
 go_wp2_with (first | ((with_reducible refine gate_dst (N := 4) rfl ?_); refine bx 4 #[.int .i64 0, .int .i64 0, .string (⟨#[]⟩ : ByteArray), .slice none 0 0] 46 ?_; intro gb161 hg w5 hbox hb; have BK161 := am (hbox); have GW161 := gsz hg HB.out; have GE161 := gsz hg HB.out; replace HB := am (below_step (bw HB.out) hb); clear hb hbox hg) | ((with_reducible refine gate_callee (f := 39) rfl ?_); refine goesL_ (some 7) rfl rfl Tryd.func39 (by kernel_rfl) rfl #[] rfl gl ?_; (with_reducible refine (stowagelaw14_zeros.calls k  t162 _ A3.out).mono ?_); rintro e w6 ⟨rfl, hb⟩; refine ⟨_, rfl, ?_⟩; replace BK161 := bb BK161.out hb; replace HB := am (below_step (bws HB.out) hb); (try clear hb)) | ((with_reducible refine gate_callee (f := 39) rfl ?_); refine goesL_ (some 8) rfl rfl Tryd.func39 (by kernel_rfl) rfl #[] rfl gl ?_; (with_reducible refine (stowagelaw14_zeros.calls k  t163 _ A4.out).mono ?_); rintro e w7 ⟨rfl, hb⟩; refine ⟨_, rfl, ?_⟩; replace BK161 := bb BK161.out hb; replace HB := am (below_step (bws HB.out) hb); (try clear hb)) | ((with_reducible refine gate_dst (N := 11) rfl ?_); refine Kd.R_lit k63 _ 63 ?hg (N := 11) ?hd (xs := ([(⟨t163, a1⟩ : S63)] : List (S63))) (inner := [.string t163, .int .i64 a1]) (ok := fun _ => True) (okp := fun _ => True) ?hr ?hp (fun _ hk => hk) trivial (Below.refl _ _) (Nat.le_refl _) (by simp) ?_; (case hd => rfl); (case hg => rfl); (case hr => first | (go_simp; done) | (go_simp; rfl)); (case hp => exact (Reps.c2 (show Kd.M k63 _ _ _ (⟨t163, a1⟩ : S63) [.string t163, .int .i64 a1] from (k63_mkM _ _ _ (⟨t163, a1⟩ : S63) )) (Reps.none _ _))); intro v165 w8 ho9 hb hg_ hnew_; clear hg_ hnew_; (first | rw [← Ny164.out] at ho9 | (simp only [Int.reduceToNat] at ho9; rw [← Ny164.out] at ho9)); have HO166 := am (Kd.R_lower ho9 (below_size (bws HB.out))); replace BK161 := bb BK161.out hb; replace HB := am (below_step (bws HB.out) hb); clear hb ho9; obtain ⟨Ao10, co10, eo10⟩ := Kd.R_slice HO166.out; subst eo10; obtain ⟨hcz11_0, hcz11_1, hcz11_2, hcz11_3, hfz11_0, hfz11_1, hfz11_2, hfz11_3⟩ := cz4 BK161.out))
 refine bodyPost_ret (results_cell_row rfl _ _ gb161 46 #[.int .i64 a0, .int .i64 a1, .string t162, .slice Ao10 y164.length co10] (0, 0) _ rfl (bkp BK161.out) Tryd.underlying46 rfl (by kernel_rfl)) rfl ?_
 exact ⟨_, rf, by (with_reducible repeat (first | apply Kd.R_alloc | apply Kd.R_drewN | apply Kd.R_drew)); exact Kd.R_mono (Kd.R_far (p := ⟨gb161, 3, none⟩) (Kd.R_far (p := ⟨gb161, 2, none⟩) (Kd.R_far (p := ⟨gb161, 1, none⟩) (Kd.R_far (p := ⟨gb161, 0, none⟩) (Kd.R_types HO166.out BK161.out (by decide)) (fun _ hk => hk.2) (.int .i64 a0)) (fun _ hk => hk.2) (.int .i64 a1)) (fun _ hk => hk.2) (.string t162)) (fun _ hk => hk.2) (.slice Ao10 y164.length co10)) (fun _ hk => trivial), bws HB.out⟩
def stowagelaw14_awake.f (k : Nat)  : Option (Bool) := (stowagelaw14_one.f k 2 1).bind fun bt167 => ((parts_Put.f k ([] : List (S46)) bt167.1 bt167.2.1 bt167.2.2.1 bt167.2.2.2).bind fun bt173 => ((stowagelaw14_one.f k 1 64).bind fun bt177 => ((parts_Put.f k bt173.1 bt177.1 bt177.2.1 bt177.2.2.1 bt177.2.2.2).bind fun bt183 => ((stowagelaw14_zeros.f k).bind fun t187 => ((stowagelaw14_zeros.f k).bind fun t188 => ((parts_Join.f k bt183.1 (([(⟨1, t187⟩ : S61), (⟨2, t188⟩ : S61)] : List (S61)))).bind fun bt192 => (if bt173.2 = 0 then (if bt183.2 = 0 then (if bt192.2.2.2.2.2 = 0 then (if bt192.2.2.1 = 65 then (if (bt192.2.2.2.2.1.length : Int) = 2 then (if 0 < (bt192.2.2.2.2.1.length : Int) then (some (((rd_T63 bt192.2.2.2.2.1 0).f1) == 64)) else (none)) else (some false)) else (some false)) else (some false)) else (some false)) else (some false))))))))
theorem stowagelaw14_awake.mono : ∀ k, LeO (stowagelaw14_awake.f k ) (stowagelaw14_awake.f (k + 1) ) := by
 intro  k
 unfold stowagelaw14_awake.f
 repeat' (with_reducible first | exact parts_Join.mono _ _ _ | exact parts_Put.mono _ _ _ _ _ _ | exact stowagelaw14_one.mono _ _ _ | exact stowagelaw14_zeros.mono _ | exact LeO.refl _ | exact LeO.none _ | refine LeO.ite ?_ ?_ | refine LeO.bind ?_ (fun _ => ?_))
set_option maxHeartbeats 8000000 in
set_option maxRecDepth 100000 in
theorem stowagelaw14_awake.calls (k : Nat)  (r : Bool) (w : World) (h : stowagelaw14_awake.f k  = some r) (hG : GG w) :
  Calls Tryd.prog 13 #[] w fun e w' => e = .returned (.bool r) ∧ Below w.heap.size w w' := by
 have HG := am hG
 clear hG
 have hu61 := Tryd.underlying61
 have hu26 := Tryd.underlying26
 have HB := am (Below.refl w.heap.size w)
 have H := h
 clear h
 unfold stowagelaw14_awake.f at H
 replace H := obE H
 obtain ⟨⟨t167, t168, t169, t170⟩, A1, H⟩ := H
 try dsimp only at H
 replace H := obE H
 obtain ⟨⟨t173, t176⟩, A2, H⟩ := H
 try dsimp only at H
 replace H := obE H
 obtain ⟨⟨t177, t178, t179, t180⟩, A3, H⟩ := H
 try dsimp only at H
 replace H := obE H
 obtain ⟨⟨t183, t186⟩, A4, H⟩ := H
 try dsimp only at H
 replace H := obE H
 obtain ⟨t187, A5, H⟩ := H
 replace H := obE H
 obtain ⟨t188, A6, H⟩ := H
 obtain ⟨y189, hy189⟩ : ∃ y_ : List (S61), y_ = (([(⟨1, t187⟩ : S61), (⟨2, t188⟩ : S61)] : List (S61))) := ⟨_, rfl⟩
 replace H : ((parts_Join.f k t183 y189).bind fun bt192 => (if t176 = 0 then (if t186 = 0 then (if bt192.2.2.2.2.2 = 0 then (if bt192.2.2.1 = 65 then (if (bt192.2.2.2.2.1.length : Int) = 2 then (if 0 < (bt192.2.2.2.2.1.length : Int) then (some (((rd_T63 bt192.2.2.2.2.1 0).f1) == 64)) else (none)) else (some false)) else (some false)) else (some false)) else (some false)) else (some false))) = some r := by first | (rw [hy189]; with_reducible exact H) | (have H2_ := (Option.bind_some _ _).symm.trans H; rw [hy189]; with_reducible exact H2_) | (have H2_ := (Option.bind_some _ _).symm.trans H; with_reducible exact H2_) | with_reducible exact H | (rw [hy189]; exact H) | exact H
 have Ny189 := am hy189
 clear hy189
 replace H := obE H
 obtain ⟨⟨t192, t193, t194, t195, t196, t199⟩, A7, H⟩ := H
 try dsimp only at H
 by_cases c8 : t176 = 0
 ·
  rw [if_pos c8] at H
  have c8b0 := beq_iff_eq.mpr c8
  have c8b1 := bne_eq_false_iff_eq.mpr c8
  clear c8
  by_cases c9 : t186 = 0
  ·
   rw [if_pos c9] at H
   have c9b0 := beq_iff_eq.mpr c9
   have c9b1 := bne_eq_false_iff_eq.mpr c9
   clear c9
   by_cases c10 : t199 = 0
   ·
    rw [if_pos c10] at H
    have c10b0 := beq_iff_eq.mpr c10
    have c10b1 := bne_eq_false_iff_eq.mpr c10
    clear c10
    by_cases c11 : t194 = 65
    ·
     rw [if_pos c11] at H
     have c11b0 := beq_iff_eq.mpr c11
     have c11b1 := bne_eq_false_iff_eq.mpr c11
     clear c11
     by_cases c12 : (t196.length : Int) = 2
     ·
      rw [if_pos c12] at H
      have c12b0 := beq_iff_eq.mpr c12
      have c12b1 := bne_eq_false_iff_eq.mpr c12
      clear c12
      by_cases c13 : 0 < (t196.length : Int)
      ·
       rw [if_pos c13] at H
       have c13b0 := decide_eq_true c13
       have c13b1 : decide (0 < t196.length) = true := decide_eq_true (by omega)
       clear c13
       obtain rfl := Option.some.inj H
       go_enter Tryd.func13, Tryd.ntmps13
       go_wp2_with (first | ((with_reducible refine gate_callee (f := 38) rfl ?_); refine goesL_ (some 8) rfl rfl Tryd.func38 (by kernel_rfl) rfl #[.int .i64 2, .int .i64 1] rfl gl ?_; (with_reducible refine (stowagelaw14_one.calls k 2 1 t167 t168 t169 t170 _ A1.out).mono ?_); rintro e w14 ⟨v171, rfl, ho0, hb⟩; refine ⟨_, rfl, ?_⟩; have HO172 := am (Kd.R_lower ho0 (below_size (bw HB.out))); replace HB := am (below_step (bw HB.out) hb); (try clear hb); (try clear ho0); obtain ⟨Ao15, co15, eo15⟩ := Kd.R_slice HO172.out; subst eo15) | ((with_reducible refine gate_callee (f := 16) rfl ?_); refine goesL_ (some 9) rfl rfl Tryd.func16 (by kernel_rfl) rfl #[.slice none 0 0, .agg #[.int .i64 t167, .int .i64 t168, .string t169, .slice Ao15 t170.length co15]] rfl gl ?_; (refine (parts_Put.calls k _ _ ([] : List (S46)) t167 t168 t169 _ _ t170 t173 t176 _ ?side1 ?side2 ?side3 ?side4 A2.out).mono ?_); (case side1 => exact Kd.C_nil _ _); (case side2 => exact Nat.le_refl _); (case side3 => repeat (first | exact (Kd.R_reads' HO172.out).2.2 | (with_reducible refine Kd.C_alloc ?_ _) | (with_reducible refine Kd.C_drewN ?_ _) | (with_reducible refine Kd.C_drew ?_))); (case side4 => exact (Kd.R_reads' HO172.out).2.1); rintro e w16 ⟨v174, rfl, ho0, hb⟩; refine ⟨_, rfl, ?_⟩; have HO175 := am (Kd.V_lower (Kd.V_mono (ok' := fun k_ => some k_ ≠ (.slice Ao15 t170.length co15 : Value).ownBlock) ho0 (fun k_ hk_ => (Kd.fresh' (Kd.R_lt (kR HO172.out)) k_ hk_))) (below_size (bw HB.out))); replace HO172 := am (Kd.R_below (kR HO172.out) hb); replace HB := am (below_step (bw HB.out) hb); (try clear hb); (try clear ho0)) | ((with_reducible refine gate_callee (f := 38) rfl ?_); refine goesL_ (some 14) rfl rfl Tryd.func38 (by kernel_rfl) rfl #[.int .i64 1, .int .i64 64] rfl gl ?_; (with_reducible refine (stowagelaw14_one.calls k 1 64 t177 t178 t179 t180 _ A3.out).mono ?_); rintro e w17 ⟨v181, rfl, ho0, hb⟩; refine ⟨_, rfl, ?_⟩; have HO182 := am (Kd.R_lower (Kd.R_new' ho0 (Kd.R_lt (kR HO172.out))) (below_size (bw HB.out))); replace HO172 := am (Kd.R_elder' (kR HO172.out) (Kd.R_base ho0) hb); replace HO175 := am (Kd.V_elder' (kV HO175.out) (Kd.R_base ho0) hb); replace HB := am (below_step (bw HB.out) hb); (try clear hb); (try clear ho0); obtain ⟨Ao18, co18, eo18⟩ := Kd.V_slice HO175.out; subst eo18; obtain ⟨Ao19, co19, eo19⟩ := Kd.R_slice HO182.out; subst eo19) | ((with_reducible refine gate_callee (f := 16) rfl ?_); refine goesL_ (some 15) rfl rfl Tryd.func16 (by kernel_rfl) rfl #[.slice Ao18 t173.length co18, .agg #[.int .i64 t177, .int .i64 t178, .string t179, .slice Ao19 t180.length co19]] rfl gl ?_; (with_reducible refine (parts_Put.calls k _ _ t173 t177 t178 t179 _ _ t180 t183 t186 _ ?side1 ?side2 ?side3 ?side4 A4.out).mono ?_); (case side1 => repeat (first | exact (Kd.V_reads' HO175.out).2.2 | (with_reducible refine Kd.C_alloc ?_ _) | (with_reducible refine Kd.C_drewN ?_ _) | (with_reducible refine Kd.C_drew ?_))); (case side2 => exact (Kd.V_reads' HO175.out).2.1); (case side3 => repeat (first | exact (Kd.R_reads' HO182.out).2.2 | (with_reducible refine Kd.C_alloc ?_ _) | (with_reducible refine Kd.C_drewN ?_ _) | (with_reducible refine Kd.C_drew ?_))); (case side4 => exact (Kd.R_reads' HO182.out).2.1); rintro e w20 ⟨v184, rfl, ho0, hb⟩; refine ⟨_, rfl, ?_⟩; have HO185 := am (Kd.V_lower (Kd.V_mono (ok' := fun k_ => some k_ ≠ (.slice Ao15 t170.length co15 : Value).ownBlock ∧ some k_ ≠ (.slice Ao19 t180.length co19 : Value).ownBlock) ho0 (fun k_ hk_ => ⟨(Kd.fresh' (Kd.R_lt (kR HO172.out)) k_ hk_), (Kd.fresh' (Kd.R_lt (kR HO182.out)) k_ hk_)⟩)) (below_size (bw HB.out))); replace HO172 := am (Kd.R_below (kR HO172.out) hb); replace HO175 := am (Kd.V_below (kV HO175.out) hb); replace HO182 := am (Kd.R_below (kR HO182.out) hb); replace HB := am (below_step (bw HB.out) hb); (try clear hb); (try clear ho0)) | ((with_reducible refine gate_callee (f := 39) rfl ?_); refine goesL_ (some 20) rfl rfl Tryd.func39 (by kernel_rfl) rfl #[] rfl gl ?_; (with_reducible refine (stowagelaw14_zeros.calls k  t187 _ A5.out).mono ?_); rintro e w21 ⟨rfl, hb⟩; refine ⟨_, rfl, ?_⟩; replace HO172 := am (Kd.R_below (kR HO172.out) hb); replace HO175 := am (Kd.V_below (kV HO175.out) hb); replace HO182 := am (Kd.R_below (kR HO182.out) hb); replace HO185 := am (Kd.V_below (kV HO185.out) hb); replace HB := am (below_step (bw HB.out) hb); (try clear hb)) | ((with_reducible refine gate_callee (f := 39) rfl ?_); refine goesL_ (some 22) rfl rfl Tryd.func39 (by kernel_rfl) rfl #[] rfl gl ?_; (with_reducible refine (stowagelaw14_zeros.calls k  t188 _ A6.out).mono ?_); rintro e w22 ⟨rfl, hb⟩; refine ⟨_, rfl, ?_⟩; replace HO172 := am (Kd.R_below (kR HO172.out) hb); replace HO175 := am (Kd.V_below (kV HO175.out) hb); replace HO182 := am (Kd.R_below (kR HO182.out) hb); replace HO185 := am (Kd.V_below (kV HO185.out) hb); replace HB := am (below_step (bw HB.out) hb); (try clear hb)) | ((with_reducible refine gate_dst (N := 24) rfl ?_); (try (refine gate_guard (by rfl) ?_; dsimp only)); refine Kd.R_lit k61 _ 61 ?hg (N := 24) ?hd (xs := ([(⟨1, t187⟩ : S61), (⟨2, t188⟩ : S61)] : List (S61))) (inner := [.int .i64 1, .string t187, .int .i64 2, .string t188]) (ok := fun _ => True) (okp := fun _ => True) ?hr ?hp (fun _ hk => hk) trivial (Below.refl _ _) (Nat.le_refl _) (by simp) ?_; (case hd => rfl); (case hg => rfl); (case hr => first | (go_simp; done) | (go_simp; rfl)); (case hp => exact (Reps.c2 (show Kd.M k61 _ _ _ (⟨1, t187⟩ : S61) [.int .i64 1, .string t187] from (k61_mkM _ _ _ (⟨1, t187⟩ : S61) )) (Reps.c2 (show Kd.M k61 _ _ _ (⟨2, t188⟩ : S61) [.int .i64 2, .string t188] from (k61_mkM _ _ _ (⟨2, t188⟩ : S61) )) (Reps.none _ _)))); intro v190 w23 ho24 hb hg_ hnew_; clear hg_ hnew_; (first | rw [← Ny189.out] at ho24 | (simp only [Int.reduceToNat] at ho24; rw [← Ny189.out] at ho24)); replace HO172 := am (Kd.R_below (kR HO172.out) hb); replace HO175 := am (Kd.V_elder' (kV HO175.out) (Kd.R_base ho24) hb); replace HO182 := am (Kd.R_below (kR HO182.out) hb); replace HO185 := am (Kd.V_elder' (kV HO185.out) (Kd.R_base ho24) hb); have HO191 := am (Kd.R_lower ho24 (below_size (bw HB.out))); replace HB := am (below_step (bw HB.out) hb); clear hb ho24; obtain ⟨Ao25, co25, eo25⟩ := Kd.V_slice HO185.out; subst eo25; obtain ⟨Ao26, co26, eo26⟩ := Kd.R_slice HO191.out; subst eo26) | ((with_reducible refine gate_callee (f := 9) rfl ?_); refine goesL_ (some 25) rfl rfl Tryd.func9 (by kernel_rfl) rfl #[.slice Ao25 t183.length co25, .slice Ao26 y189.length co26] rfl gl ?_; (with_reducible refine (parts_Join.calls k _ _ t183 _ _ y189 t192 t193 t194 t195 t196 t199 _ ?side1 ?side2 ?side3 ?side4 A7.out ?sideG).mono ?_); (case sideG => first | exact HG.out | exact gg_below HG.out (bws HB.out)); (case side1 => repeat (first | exact (Kd.V_reads' HO185.out).2.2 | (with_reducible refine Kd.C_alloc ?_ _) | (with_reducible refine Kd.C_drewN ?_ _) | (with_reducible refine Kd.C_drew ?_))); (case side2 => exact (Kd.V_reads' HO185.out).2.1); (case side3 => repeat (first | exact (Kd.R_reads' HO191.out).2.2 | (with_reducible refine Kd.C_alloc ?_ _) | (with_reducible refine Kd.C_drewN ?_ _) | (with_reducible refine Kd.C_drew ?_))); (case side4 => exact (Kd.R_reads' HO191.out).2.1); rintro e w27 ⟨v197, rfl, ho0, hb⟩; refine ⟨_, rfl, ?_⟩; have HO198 := am (Kd.R_lower (Kd.R_new' (Kd.R_new' ho0 (Kd.R_lt (kR HO172.out))) (Kd.R_lt (kR HO182.out))) (below_size (bw HB.out))); replace HO172 := am (Kd.R_elder' (kR HO172.out) (Kd.R_base ho0) hb); replace HO175 := am (Kd.V_elder' (kV HO175.out) (Kd.R_base ho0) hb); replace HO182 := am (Kd.R_elder' (kR HO182.out) (Kd.R_base ho0) hb); replace HO185 := am (Kd.V_elder' (kV HO185.out) (Kd.R_base ho0) hb); replace HO191 := am (Kd.R_below (kR HO191.out) hb); replace HB := am (below_step (bw HB.out) hb); (try clear hb); (try clear ho0)) | ((with_reducible refine gate_dst (N := 5) rfl ?_); (try (refine gate_guard (by rfl) ?_; dsimp only)); refine bx 5 #[.int .i64 0, .bool false, .int .i64 0, .string (⟨#[]⟩ : ByteArray), .slice none 0 0] 26 ?_; intro gb200 hg w28 hbox hb; have BK200 := am (hbox); have GW200 := gsz hg HB.out; have GE200 := gsz hg HB.out; replace HO172 := am (Kd.R_below (kR HO172.out) hb); replace HO175 := am (Kd.V_below (Kd.V_elderB (kV HO175.out) gb200 (Nat.le_of_eq hg.symm)) hb); replace HO182 := am (Kd.R_below (kR HO182.out) hb); replace HO185 := am (Kd.V_below (Kd.V_elderB (kV HO185.out) gb200 (Nat.le_of_eq hg.symm)) hb); replace HO191 := am (Kd.R_below (kR HO191.out) hb); replace HO198 := am (Kd.R_below (kR HO198.out) hb); replace HB := am (below_step (bw HB.out) hb); clear hb hbox hg; obtain ⟨hcz29_0, hcz29_1, hcz29_2, hcz29_3, hcz29_4, hfz29_0, hfz29_1, hfz29_2, hfz29_3, hfz29_4⟩ := cz5 BK200.out; obtain ⟨Ao30, co30, eo30⟩ := Kd.R_slice HO198.out; subst eo30; have p201 : 0 ≤ (0 : Int) := (by omega); have q201 : 0 < (t196.length : Int) := of_decide_eq_true asm; obtain ⟨ad201, e201, hx201_0, hx201_1⟩ := at_T63 (Kd.R_reads' HO198.out).2.2 0 p201 q201; cases e201; have qi201 : (0 < t196.length) = True := eq_true (by omega); (try rw [show ((0 : Int)).toNat = 0 from rfl] at hx201_0); (try rw [show 0 * 2 = 0 from rfl] at hx201_0); (try rw [Addr.add_zero'] at hx201_0); (try rw [show ((0 : Int)).toNat = 0 from rfl] at hx201_1); (try rw [show 0 * 2 = 0 from rfl] at hx201_1); (try rw [Addr.add_zero'] at hx201_1); have hn201_0 : ad201.block ≠ gb200 := Kd.own_blk (Kd.R_ne HO198.out BK200.out (by decide)); have hn201_1 : ad201.block ≠ gb200 := Kd.own_blk (Kd.R_ne HO198.out BK200.out (by decide)); have hn201_2 : ad201.block ≠ gb200 := Kd.own_blk (Kd.R_ne HO198.out BK200.out (by decide)); have hn201_3 : ad201.block ≠ gb200 := Kd.own_blk (Kd.R_ne HO198.out BK200.out (by decide)); have hn201_4 : ad201.block ≠ gb200 := Kd.own_blk (Kd.R_ne HO198.out BK200.out (by decide)); replace hx201_0 := (cell_far (p := ⟨gb200, 0, none⟩) (by first | (rw [add_block]; exact hn201_0) | (show (Addr.add _ _).block ≠ _; rw [add_block]; exact hn201_0) | exact hn201_0) (.int .i64 t192)).trans hx201_0; replace hx201_1 := (cell_far (p := ⟨gb200, 0, none⟩) (by first | (rw [add_block]; exact hn201_0) | (show (Addr.add _ _).block ≠ _; rw [add_block]; exact hn201_0) | exact hn201_0) (.int .i64 t192)).trans hx201_1; replace hx201_0 := (cell_far (p := ⟨gb200, 1, none⟩) (by first | (rw [add_block]; exact hn201_1) | (show (Addr.add _ _).block ≠ _; rw [add_block]; exact hn201_1) | exact hn201_1) (.bool t193)).trans hx201_0; replace hx201_1 := (cell_far (p := ⟨gb200, 1, none⟩) (by first | (rw [add_block]; exact hn201_1) | (show (Addr.add _ _).block ≠ _; rw [add_block]; exact hn201_1) | exact hn201_1) (.bool t193)).trans hx201_1; replace hx201_0 := (cell_far (p := ⟨gb200, 2, none⟩) (by first | (rw [add_block]; exact hn201_2) | (show (Addr.add _ _).block ≠ _; rw [add_block]; exact hn201_2) | exact hn201_2) (.int .i64 t194)).trans hx201_0; replace hx201_1 := (cell_far (p := ⟨gb200, 2, none⟩) (by first | (rw [add_block]; exact hn201_2) | (show (Addr.add _ _).block ≠ _; rw [add_block]; exact hn201_2) | exact hn201_2) (.int .i64 t194)).trans hx201_1; replace hx201_0 := (cell_far (p := ⟨gb200, 3, none⟩) (by first | (rw [add_block]; exact hn201_3) | (show (Addr.add _ _).block ≠ _; rw [add_block]; exact hn201_3) | exact hn201_3) (.string t195)).trans hx201_0; replace hx201_1 := (cell_far (p := ⟨gb200, 3, none⟩) (by first | (rw [add_block]; exact hn201_3) | (show (Addr.add _ _).block ≠ _; rw [add_block]; exact hn201_3) | exact hn201_3) (.string t195)).trans hx201_1; replace hx201_0 := (cell_far (p := ⟨gb200, 4, none⟩) (by first | (rw [add_block]; exact hn201_4) | (show (Addr.add _ _).block ≠ _; rw [add_block]; exact hn201_4) | exact hn201_4) (.slice (some ad201) t196.length co30)).trans hx201_0; replace hx201_1 := (cell_far (p := ⟨gb200, 4, none⟩) (by first | (rw [add_block]; exact hn201_4) | (show (Addr.add _ _).block ≠ _; rw [add_block]; exact hn201_4) | exact hn201_4) (.slice (some ad201) t196.length co30)).trans hx201_1; clear hn201_0; clear hn201_1; clear hn201_2; clear hn201_3; clear hn201_4; replace p201 := eq_true p201; replace q201 := eq_true q201))
       go_ret
       exact ⟨rf, bws HB.out⟩
      ·
       rw [if_neg c13] at H
       exact absurd H (by simp)
     ·
      rw [if_neg c12] at H
      have c12b0 := beq_eq_false_iff_ne.mpr c12
      have c12b1 := bne_iff_ne.mpr c12
      obtain rfl := Option.some.inj H
      go_enter Tryd.func13, Tryd.ntmps13
      go_wp2_with (first | ((with_reducible refine gate_callee (f := 38) rfl ?_); refine goesL_ (some 8) rfl rfl Tryd.func38 (by kernel_rfl) rfl #[.int .i64 2, .int .i64 1] rfl gl ?_; (with_reducible refine (stowagelaw14_one.calls k 2 1 t167 t168 t169 t170 _ A1.out).mono ?_); rintro e w31 ⟨v171, rfl, ho0, hb⟩; refine ⟨_, rfl, ?_⟩; have HO172 := am (Kd.R_lower ho0 (below_size (bw HB.out))); replace HB := am (below_step (bw HB.out) hb); (try clear hb); (try clear ho0); obtain ⟨Ao32, co32, eo32⟩ := Kd.R_slice HO172.out; subst eo32) | ((with_reducible refine gate_callee (f := 16) rfl ?_); refine goesL_ (some 9) rfl rfl Tryd.func16 (by kernel_rfl) rfl #[.slice none 0 0, .agg #[.int .i64 t167, .int .i64 t168, .string t169, .slice Ao32 t170.length co32]] rfl gl ?_; (refine (parts_Put.calls k _ _ ([] : List (S46)) t167 t168 t169 _ _ t170 t173 t176 _ ?side1 ?side2 ?side3 ?side4 A2.out).mono ?_); (case side1 => exact Kd.C_nil _ _); (case side2 => exact Nat.le_refl _); (case side3 => repeat (first | exact (Kd.R_reads' HO172.out).2.2 | (with_reducible refine Kd.C_alloc ?_ _) | (with_reducible refine Kd.C_drewN ?_ _) | (with_reducible refine Kd.C_drew ?_))); (case side4 => exact (Kd.R_reads' HO172.out).2.1); rintro e w33 ⟨v174, rfl, ho0, hb⟩; refine ⟨_, rfl, ?_⟩; have HO175 := am (Kd.V_lower (Kd.V_mono (ok' := fun k_ => some k_ ≠ (.slice Ao32 t170.length co32 : Value).ownBlock) ho0 (fun k_ hk_ => (Kd.fresh' (Kd.R_lt (kR HO172.out)) k_ hk_))) (below_size (bw HB.out))); replace HO172 := am (Kd.R_below (kR HO172.out) hb); replace HB := am (below_step (bw HB.out) hb); (try clear hb); (try clear ho0)) | ((with_reducible refine gate_callee (f := 38) rfl ?_); refine goesL_ (some 14) rfl rfl Tryd.func38 (by kernel_rfl) rfl #[.int .i64 1, .int .i64 64] rfl gl ?_; (with_reducible refine (stowagelaw14_one.calls k 1 64 t177 t178 t179 t180 _ A3.out).mono ?_); rintro e w34 ⟨v181, rfl, ho0, hb⟩; refine ⟨_, rfl, ?_⟩; have HO182 := am (Kd.R_lower (Kd.R_new' ho0 (Kd.R_lt (kR HO172.out))) (below_size (bw HB.out))); replace HO172 := am (Kd.R_elder' (kR HO172.out) (Kd.R_base ho0) hb); replace HO175 := am (Kd.V_elder' (kV HO175.out) (Kd.R_base ho0) hb); replace HB := am (below_step (bw HB.out) hb); (try clear hb); (try clear ho0); obtain ⟨Ao35, co35, eo35⟩ := Kd.V_slice HO175.out; subst eo35; obtain ⟨Ao36, co36, eo36⟩ := Kd.R_slice HO182.out; subst eo36) | ((with_reducible refine gate_callee (f := 16) rfl ?_); refine goesL_ (some 15) rfl rfl Tryd.func16 (by kernel_rfl) rfl #[.slice Ao35 t173.length co35, .agg #[.int .i64 t177, .int .i64 t178, .string t179, .slice Ao36 t180.length co36]] rfl gl ?_; (with_reducible refine (parts_Put.calls k _ _ t173 t177 t178 t179 _ _ t180 t183 t186 _ ?side1 ?side2 ?side3 ?side4 A4.out).mono ?_); (case side1 => repeat (first | exact (Kd.V_reads' HO175.out).2.2 | (with_reducible refine Kd.C_alloc ?_ _) | (with_reducible refine Kd.C_drewN ?_ _) | (with_reducible refine Kd.C_drew ?_))); (case side2 => exact (Kd.V_reads' HO175.out).2.1); (case side3 => repeat (first | exact (Kd.R_reads' HO182.out).2.2 | (with_reducible refine Kd.C_alloc ?_ _) | (with_reducible refine Kd.C_drewN ?_ _) | (with_reducible refine Kd.C_drew ?_))); (case side4 => exact (Kd.R_reads' HO182.out).2.1); rintro e w37 ⟨v184, rfl, ho0, hb⟩; refine ⟨_, rfl, ?_⟩; have HO185 := am (Kd.V_lower (Kd.V_mono (ok' := fun k_ => some k_ ≠ (.slice Ao32 t170.length co32 : Value).ownBlock ∧ some k_ ≠ (.slice Ao36 t180.length co36 : Value).ownBlock) ho0 (fun k_ hk_ => ⟨(Kd.fresh' (Kd.R_lt (kR HO172.out)) k_ hk_), (Kd.fresh' (Kd.R_lt (kR HO182.out)) k_ hk_)⟩)) (below_size (bw HB.out))); replace HO172 := am (Kd.R_below (kR HO172.out) hb); replace HO175 := am (Kd.V_below (kV HO175.out) hb); replace HO182 := am (Kd.R_below (kR HO182.out) hb); replace HB := am (below_step (bw HB.out) hb); (try clear hb); (try clear ho0)) | ((with_reducible refine gate_callee (f := 39) rfl ?_); refine goesL_ (some 20) rfl rfl Tryd.func39 (by kernel_rfl) rfl #[] rfl gl ?_; (with_reducible refine (stowagelaw14_zeros.calls k  t187 _ A5.out).mono ?_); rintro e w38 ⟨rfl, hb⟩; refine ⟨_, rfl, ?_⟩; replace HO172 := am (Kd.R_below (kR HO172.out) hb); replace HO175 := am (Kd.V_below (kV HO175.out) hb); replace HO182 := am (Kd.R_below (kR HO182.out) hb); replace HO185 := am (Kd.V_below (kV HO185.out) hb); replace HB := am (below_step (bw HB.out) hb); (try clear hb)) | ((with_reducible refine gate_callee (f := 39) rfl ?_); refine goesL_ (some 22) rfl rfl Tryd.func39 (by kernel_rfl) rfl #[] rfl gl ?_; (with_reducible refine (stowagelaw14_zeros.calls k  t188 _ A6.out).mono ?_); rintro e w39 ⟨rfl, hb⟩; refine ⟨_, rfl, ?_⟩; replace HO172 := am (Kd.R_below (kR HO172.out) hb); replace HO175 := am (Kd.V_below (kV HO175.out) hb); replace HO182 := am (Kd.R_below (kR HO182.out) hb); replace HO185 := am (Kd.V_below (kV HO185.out) hb); replace HB := am (below_step (bw HB.out) hb); (try clear hb)) | ((with_reducible refine gate_dst (N := 24) rfl ?_); (try (refine gate_guard (by rfl) ?_; dsimp only)); refine Kd.R_lit k61 _ 61 ?hg (N := 24) ?hd (xs := ([(⟨1, t187⟩ : S61), (⟨2, t188⟩ : S61)] : List (S61))) (inner := [.int .i64 1, .string t187, .int .i64 2, .string t188]) (ok := fun _ => True) (okp := fun _ => True) ?hr ?hp (fun _ hk => hk) trivial (Below.refl _ _) (Nat.le_refl _) (by simp) ?_; (case hd => rfl); (case hg => rfl); (case hr => first | (go_simp; done) | (go_simp; rfl)); (case hp => exact (Reps.c2 (show Kd.M k61 _ _ _ (⟨1, t187⟩ : S61) [.int .i64 1, .string t187] from (k61_mkM _ _ _ (⟨1, t187⟩ : S61) )) (Reps.c2 (show Kd.M k61 _ _ _ (⟨2, t188⟩ : S61) [.int .i64 2, .string t188] from (k61_mkM _ _ _ (⟨2, t188⟩ : S61) )) (Reps.none _ _)))); intro v190 w40 ho41 hb hg_ hnew_; clear hg_ hnew_; (first | rw [← Ny189.out] at ho41 | (simp only [Int.reduceToNat] at ho41; rw [← Ny189.out] at ho41)); replace HO172 := am (Kd.R_below (kR HO172.out) hb); replace HO175 := am (Kd.V_elder' (kV HO175.out) (Kd.R_base ho41) hb); replace HO182 := am (Kd.R_below (kR HO182.out) hb); replace HO185 := am (Kd.V_elder' (kV HO185.out) (Kd.R_base ho41) hb); have HO191 := am (Kd.R_lower ho41 (below_size (bw HB.out))); replace HB := am (below_step (bw HB.out) hb); clear hb ho41; obtain ⟨Ao42, co42, eo42⟩ := Kd.V_slice HO185.out; subst eo42; obtain ⟨Ao43, co43, eo43⟩ := Kd.R_slice HO191.out; subst eo43) | ((with_reducible refine gate_callee (f := 9) rfl ?_); refine goesL_ (some 25) rfl rfl Tryd.func9 (by kernel_rfl) rfl #[.slice Ao42 t183.length co42, .slice Ao43 y189.length co43] rfl gl ?_; (with_reducible refine (parts_Join.calls k _ _ t183 _ _ y189 t192 t193 t194 t195 t196 t199 _ ?side1 ?side2 ?side3 ?side4 A7.out ?sideG).mono ?_); (case sideG => first | exact HG.out | exact gg_below HG.out (bws HB.out)); (case side1 => repeat (first | exact (Kd.V_reads' HO185.out).2.2 | (with_reducible refine Kd.C_alloc ?_ _) | (with_reducible refine Kd.C_drewN ?_ _) | (with_reducible refine Kd.C_drew ?_))); (case side2 => exact (Kd.V_reads' HO185.out).2.1); (case side3 => repeat (first | exact (Kd.R_reads' HO191.out).2.2 | (with_reducible refine Kd.C_alloc ?_ _) | (with_reducible refine Kd.C_drewN ?_ _) | (with_reducible refine Kd.C_drew ?_))); (case side4 => exact (Kd.R_reads' HO191.out).2.1); rintro e w44 ⟨v197, rfl, ho0, hb⟩; refine ⟨_, rfl, ?_⟩; have HO198 := am (Kd.R_lower (Kd.R_new' (Kd.R_new' ho0 (Kd.R_lt (kR HO172.out))) (Kd.R_lt (kR HO182.out))) (below_size (bw HB.out))); replace HO172 := am (Kd.R_elder' (kR HO172.out) (Kd.R_base ho0) hb); replace HO175 := am (Kd.V_elder' (kV HO175.out) (Kd.R_base ho0) hb); replace HO182 := am (Kd.R_elder' (kR HO182.out) (Kd.R_base ho0) hb); replace HO185 := am (Kd.V_elder' (kV HO185.out) (Kd.R_base ho0) hb); replace HO191 := am (Kd.R_below (kR HO191.out) hb); replace HB := am (below_step (bw HB.out) hb); (try clear hb); (try clear ho0)) | ((with_reducible refine gate_dst (N := 5) rfl ?_); (try (refine gate_guard (by rfl) ?_; dsimp only)); refine bx 5 #[.int .i64 0, .bool false, .int .i64 0, .string (⟨#[]⟩ : ByteArray), .slice none 0 0] 26 ?_; intro gb200 hg w45 hbox hb; have BK200 := am (hbox); have GW200 := gsz hg HB.out; have GE200 := gsz hg HB.out; replace HO172 := am (Kd.R_below (kR HO172.out) hb); replace HO175 := am (Kd.V_below (Kd.V_elderB (kV HO175.out) gb200 (Nat.le_of_eq hg.symm)) hb); replace HO182 := am (Kd.R_below (kR HO182.out) hb); replace HO185 := am (Kd.V_below (Kd.V_elderB (kV HO185.out) gb200 (Nat.le_of_eq hg.symm)) hb); replace HO191 := am (Kd.R_below (kR HO191.out) hb); replace HO198 := am (Kd.R_below (kR HO198.out) hb); replace HB := am (below_step (bw HB.out) hb); clear hb hbox hg; obtain ⟨hcz46_0, hcz46_1, hcz46_2, hcz46_3, hcz46_4, hfz46_0, hfz46_1, hfz46_2, hfz46_3, hfz46_4⟩ := cz5 BK200.out; obtain ⟨Ao47, co47, eo47⟩ := Kd.R_slice HO198.out; subst eo47))
      go_ret
      exact ⟨rf, bws HB.out⟩
    ·
     rw [if_neg c11] at H
     have c11b0 := beq_eq_false_iff_ne.mpr c11
     have c11b1 := bne_iff_ne.mpr c11
     obtain rfl := Option.some.inj H
     go_enter Tryd.func13, Tryd.ntmps13
     go_wp2_with (first | ((with_reducible refine gate_callee (f := 38) rfl ?_); refine goesL_ (some 8) rfl rfl Tryd.func38 (by kernel_rfl) rfl #[.int .i64 2, .int .i64 1] rfl gl ?_; (with_reducible refine (stowagelaw14_one.calls k 2 1 t167 t168 t169 t170 _ A1.out).mono ?_); rintro e w48 ⟨v171, rfl, ho0, hb⟩; refine ⟨_, rfl, ?_⟩; have HO172 := am (Kd.R_lower ho0 (below_size (bw HB.out))); replace HB := am (below_step (bw HB.out) hb); (try clear hb); (try clear ho0); obtain ⟨Ao49, co49, eo49⟩ := Kd.R_slice HO172.out; subst eo49) | ((with_reducible refine gate_callee (f := 16) rfl ?_); refine goesL_ (some 9) rfl rfl Tryd.func16 (by kernel_rfl) rfl #[.slice none 0 0, .agg #[.int .i64 t167, .int .i64 t168, .string t169, .slice Ao49 t170.length co49]] rfl gl ?_; (refine (parts_Put.calls k _ _ ([] : List (S46)) t167 t168 t169 _ _ t170 t173 t176 _ ?side1 ?side2 ?side3 ?side4 A2.out).mono ?_); (case side1 => exact Kd.C_nil _ _); (case side2 => exact Nat.le_refl _); (case side3 => repeat (first | exact (Kd.R_reads' HO172.out).2.2 | (with_reducible refine Kd.C_alloc ?_ _) | (with_reducible refine Kd.C_drewN ?_ _) | (with_reducible refine Kd.C_drew ?_))); (case side4 => exact (Kd.R_reads' HO172.out).2.1); rintro e w50 ⟨v174, rfl, ho0, hb⟩; refine ⟨_, rfl, ?_⟩; have HO175 := am (Kd.V_lower (Kd.V_mono (ok' := fun k_ => some k_ ≠ (.slice Ao49 t170.length co49 : Value).ownBlock) ho0 (fun k_ hk_ => (Kd.fresh' (Kd.R_lt (kR HO172.out)) k_ hk_))) (below_size (bw HB.out))); replace HO172 := am (Kd.R_below (kR HO172.out) hb); replace HB := am (below_step (bw HB.out) hb); (try clear hb); (try clear ho0)) | ((with_reducible refine gate_callee (f := 38) rfl ?_); refine goesL_ (some 14) rfl rfl Tryd.func38 (by kernel_rfl) rfl #[.int .i64 1, .int .i64 64] rfl gl ?_; (with_reducible refine (stowagelaw14_one.calls k 1 64 t177 t178 t179 t180 _ A3.out).mono ?_); rintro e w51 ⟨v181, rfl, ho0, hb⟩; refine ⟨_, rfl, ?_⟩; have HO182 := am (Kd.R_lower (Kd.R_new' ho0 (Kd.R_lt (kR HO172.out))) (below_size (bw HB.out))); replace HO172 := am (Kd.R_elder' (kR HO172.out) (Kd.R_base ho0) hb); replace HO175 := am (Kd.V_elder' (kV HO175.out) (Kd.R_base ho0) hb); replace HB := am (below_step (bw HB.out) hb); (try clear hb); (try clear ho0); obtain ⟨Ao52, co52, eo52⟩ := Kd.V_slice HO175.out; subst eo52; obtain ⟨Ao53, co53, eo53⟩ := Kd.R_slice HO182.out; subst eo53) | ((with_reducible refine gate_callee (f := 16) rfl ?_); refine goesL_ (some 15) rfl rfl Tryd.func16 (by kernel_rfl) rfl #[.slice Ao52 t173.length co52, .agg #[.int .i64 t177, .int .i64 t178, .string t179, .slice Ao53 t180.length co53]] rfl gl ?_; (with_reducible refine (parts_Put.calls k _ _ t173 t177 t178 t179 _ _ t180 t183 t186 _ ?side1 ?side2 ?side3 ?side4 A4.out).mono ?_); (case side1 => repeat (first | exact (Kd.V_reads' HO175.out).2.2 | (with_reducible refine Kd.C_alloc ?_ _) | (with_reducible refine Kd.C_drewN ?_ _) | (with_reducible refine Kd.C_drew ?_))); (case side2 => exact (Kd.V_reads' HO175.out).2.1); (case side3 => repeat (first | exact (Kd.R_reads' HO182.out).2.2 | (with_reducible refine Kd.C_alloc ?_ _) | (with_reducible refine Kd.C_drewN ?_ _) | (with_reducible refine Kd.C_drew ?_))); (case side4 => exact (Kd.R_reads' HO182.out).2.1); rintro e w54 ⟨v184, rfl, ho0, hb⟩; refine ⟨_, rfl, ?_⟩; have HO185 := am (Kd.V_lower (Kd.V_mono (ok' := fun k_ => some k_ ≠ (.slice Ao49 t170.length co49 : Value).ownBlock ∧ some k_ ≠ (.slice Ao53 t180.length co53 : Value).ownBlock) ho0 (fun k_ hk_ => ⟨(Kd.fresh' (Kd.R_lt (kR HO172.out)) k_ hk_), (Kd.fresh' (Kd.R_lt (kR HO182.out)) k_ hk_)⟩)) (below_size (bw HB.out))); replace HO172 := am (Kd.R_below (kR HO172.out) hb); replace HO175 := am (Kd.V_below (kV HO175.out) hb); replace HO182 := am (Kd.R_below (kR HO182.out) hb); replace HB := am (below_step (bw HB.out) hb); (try clear hb); (try clear ho0)) | ((with_reducible refine gate_callee (f := 39) rfl ?_); refine goesL_ (some 20) rfl rfl Tryd.func39 (by kernel_rfl) rfl #[] rfl gl ?_; (with_reducible refine (stowagelaw14_zeros.calls k  t187 _ A5.out).mono ?_); rintro e w55 ⟨rfl, hb⟩; refine ⟨_, rfl, ?_⟩; replace HO172 := am (Kd.R_below (kR HO172.out) hb); replace HO175 := am (Kd.V_below (kV HO175.out) hb); replace HO182 := am (Kd.R_below (kR HO182.out) hb); replace HO185 := am (Kd.V_below (kV HO185.out) hb); replace HB := am (below_step (bw HB.out) hb); (try clear hb)) | ((with_reducible refine gate_callee (f := 39) rfl ?_); refine goesL_ (some 22) rfl rfl Tryd.func39 (by kernel_rfl) rfl #[] rfl gl ?_; (with_reducible refine (stowagelaw14_zeros.calls k  t188 _ A6.out).mono ?_); rintro e w56 ⟨rfl, hb⟩; refine ⟨_, rfl, ?_⟩; replace HO172 := am (Kd.R_below (kR HO172.out) hb); replace HO175 := am (Kd.V_below (kV HO175.out) hb); replace HO182 := am (Kd.R_below (kR HO182.out) hb); replace HO185 := am (Kd.V_below (kV HO185.out) hb); replace HB := am (below_step (bw HB.out) hb); (try clear hb)) | ((with_reducible refine gate_dst (N := 24) rfl ?_); (try (refine gate_guard (by rfl) ?_; dsimp only)); refine Kd.R_lit k61 _ 61 ?hg (N := 24) ?hd (xs := ([(⟨1, t187⟩ : S61), (⟨2, t188⟩ : S61)] : List (S61))) (inner := [.int .i64 1, .string t187, .int .i64 2, .string t188]) (ok := fun _ => True) (okp := fun _ => True) ?hr ?hp (fun _ hk => hk) trivial (Below.refl _ _) (Nat.le_refl _) (by simp) ?_; (case hd => rfl); (case hg => rfl); (case hr => first | (go_simp; done) | (go_simp; rfl)); (case hp => exact (Reps.c2 (show Kd.M k61 _ _ _ (⟨1, t187⟩ : S61) [.int .i64 1, .string t187] from (k61_mkM _ _ _ (⟨1, t187⟩ : S61) )) (Reps.c2 (show Kd.M k61 _ _ _ (⟨2, t188⟩ : S61) [.int .i64 2, .string t188] from (k61_mkM _ _ _ (⟨2, t188⟩ : S61) )) (Reps.none _ _)))); intro v190 w57 ho58 hb hg_ hnew_; clear hg_ hnew_; (first | rw [← Ny189.out] at ho58 | (simp only [Int.reduceToNat] at ho58; rw [← Ny189.out] at ho58)); replace HO172 := am (Kd.R_below (kR HO172.out) hb); replace HO175 := am (Kd.V_elder' (kV HO175.out) (Kd.R_base ho58) hb); replace HO182 := am (Kd.R_below (kR HO182.out) hb); replace HO185 := am (Kd.V_elder' (kV HO185.out) (Kd.R_base ho58) hb); have HO191 := am (Kd.R_lower ho58 (below_size (bw HB.out))); replace HB := am (below_step (bw HB.out) hb); clear hb ho58; obtain ⟨Ao59, co59, eo59⟩ := Kd.V_slice HO185.out; subst eo59; obtain ⟨Ao60, co60, eo60⟩ := Kd.R_slice HO191.out; subst eo60) | ((with_reducible refine gate_callee (f := 9) rfl ?_); refine goesL_ (some 25) rfl rfl Tryd.func9 (by kernel_rfl) rfl #[.slice Ao59 t183.length co59, .slice Ao60 y189.length co60] rfl gl ?_; (with_reducible refine (parts_Join.calls k _ _ t183 _ _ y189 t192 t193 t194 t195 t196 t199 _ ?side1 ?side2 ?side3 ?side4 A7.out ?sideG).mono ?_); (case sideG => first | exact HG.out | exact gg_below HG.out (bws HB.out)); (case side1 => repeat (first | exact (Kd.V_reads' HO185.out).2.2 | (with_reducible refine Kd.C_alloc ?_ _) | (with_reducible refine Kd.C_drewN ?_ _) | (with_reducible refine Kd.C_drew ?_))); (case side2 => exact (Kd.V_reads' HO185.out).2.1); (case side3 => repeat (first | exact (Kd.R_reads' HO191.out).2.2 | (with_reducible refine Kd.C_alloc ?_ _) | (with_reducible refine Kd.C_drewN ?_ _) | (with_reducible refine Kd.C_drew ?_))); (case side4 => exact (Kd.R_reads' HO191.out).2.1); rintro e w61 ⟨v197, rfl, ho0, hb⟩; refine ⟨_, rfl, ?_⟩; have HO198 := am (Kd.R_lower (Kd.R_new' (Kd.R_new' ho0 (Kd.R_lt (kR HO172.out))) (Kd.R_lt (kR HO182.out))) (below_size (bw HB.out))); replace HO172 := am (Kd.R_elder' (kR HO172.out) (Kd.R_base ho0) hb); replace HO175 := am (Kd.V_elder' (kV HO175.out) (Kd.R_base ho0) hb); replace HO182 := am (Kd.R_elder' (kR HO182.out) (Kd.R_base ho0) hb); replace HO185 := am (Kd.V_elder' (kV HO185.out) (Kd.R_base ho0) hb); replace HO191 := am (Kd.R_below (kR HO191.out) hb); replace HB := am (below_step (bw HB.out) hb); (try clear hb); (try clear ho0)) | ((with_reducible refine gate_dst (N := 5) rfl ?_); (try (refine gate_guard (by rfl) ?_; dsimp only)); refine bx 5 #[.int .i64 0, .bool false, .int .i64 0, .string (⟨#[]⟩ : ByteArray), .slice none 0 0] 26 ?_; intro gb200 hg w62 hbox hb; have BK200 := am (hbox); have GW200 := gsz hg HB.out; have GE200 := gsz hg HB.out; replace HO172 := am (Kd.R_below (kR HO172.out) hb); replace HO175 := am (Kd.V_below (Kd.V_elderB (kV HO175.out) gb200 (Nat.le_of_eq hg.symm)) hb); replace HO182 := am (Kd.R_below (kR HO182.out) hb); replace HO185 := am (Kd.V_below (Kd.V_elderB (kV HO185.out) gb200 (Nat.le_of_eq hg.symm)) hb); replace HO191 := am (Kd.R_below (kR HO191.out) hb); replace HO198 := am (Kd.R_below (kR HO198.out) hb); replace HB := am (below_step (bw HB.out) hb); clear hb hbox hg; obtain ⟨hcz63_0, hcz63_1, hcz63_2, hcz63_3, hcz63_4, hfz63_0, hfz63_1, hfz63_2, hfz63_3, hfz63_4⟩ := cz5 BK200.out; obtain ⟨Ao64, co64, eo64⟩ := Kd.R_slice HO198.out; subst eo64))
     go_ret
     exact ⟨rf, bws HB.out⟩
   ·
    rw [if_neg c10] at H
    have c10b0 := beq_eq_false_iff_ne.mpr c10
    have c10b1 := bne_iff_ne.mpr c10
    obtain rfl := Option.some.inj H
    go_enter Tryd.func13, Tryd.ntmps13
    go_wp2_with (first | ((with_reducible refine gate_callee (f := 38) rfl ?_); refine goesL_ (some 8) rfl rfl Tryd.func38 (by kernel_rfl) rfl #[.int .i64 2, .int .i64 1] rfl gl ?_; (with_reducible refine (stowagelaw14_one.calls k 2 1 t167 t168 t169 t170 _ A1.out).mono ?_); rintro e w65 ⟨v171, rfl, ho0, hb⟩; refine ⟨_, rfl, ?_⟩; have HO172 := am (Kd.R_lower ho0 (below_size (bw HB.out))); replace HB := am (below_step (bw HB.out) hb); (try clear hb); (try clear ho0); obtain ⟨Ao66, co66, eo66⟩ := Kd.R_slice HO172.out; subst eo66) | ((with_reducible refine gate_callee (f := 16) rfl ?_); refine goesL_ (some 9) rfl rfl Tryd.func16 (by kernel_rfl) rfl #[.slice none 0 0, .agg #[.int .i64 t167, .int .i64 t168, .string t169, .slice Ao66 t170.length co66]] rfl gl ?_; (refine (parts_Put.calls k _ _ ([] : List (S46)) t167 t168 t169 _ _ t170 t173 t176 _ ?side1 ?side2 ?side3 ?side4 A2.out).mono ?_); (case side1 => exact Kd.C_nil _ _); (case side2 => exact Nat.le_refl _); (case side3 => repeat (first | exact (Kd.R_reads' HO172.out).2.2 | (with_reducible refine Kd.C_alloc ?_ _) | (with_reducible refine Kd.C_drewN ?_ _) | (with_reducible refine Kd.C_drew ?_))); (case side4 => exact (Kd.R_reads' HO172.out).2.1); rintro e w67 ⟨v174, rfl, ho0, hb⟩; refine ⟨_, rfl, ?_⟩; have HO175 := am (Kd.V_lower (Kd.V_mono (ok' := fun k_ => some k_ ≠ (.slice Ao66 t170.length co66 : Value).ownBlock) ho0 (fun k_ hk_ => (Kd.fresh' (Kd.R_lt (kR HO172.out)) k_ hk_))) (below_size (bw HB.out))); replace HO172 := am (Kd.R_below (kR HO172.out) hb); replace HB := am (below_step (bw HB.out) hb); (try clear hb); (try clear ho0)) | ((with_reducible refine gate_callee (f := 38) rfl ?_); refine goesL_ (some 14) rfl rfl Tryd.func38 (by kernel_rfl) rfl #[.int .i64 1, .int .i64 64] rfl gl ?_; (with_reducible refine (stowagelaw14_one.calls k 1 64 t177 t178 t179 t180 _ A3.out).mono ?_); rintro e w68 ⟨v181, rfl, ho0, hb⟩; refine ⟨_, rfl, ?_⟩; have HO182 := am (Kd.R_lower (Kd.R_new' ho0 (Kd.R_lt (kR HO172.out))) (below_size (bw HB.out))); replace HO172 := am (Kd.R_elder' (kR HO172.out) (Kd.R_base ho0) hb); replace HO175 := am (Kd.V_elder' (kV HO175.out) (Kd.R_base ho0) hb); replace HB := am (below_step (bw HB.out) hb); (try clear hb); (try clear ho0); obtain ⟨Ao69, co69, eo69⟩ := Kd.V_slice HO175.out; subst eo69; obtain ⟨Ao70, co70, eo70⟩ := Kd.R_slice HO182.out; subst eo70) | ((with_reducible refine gate_callee (f := 16) rfl ?_); refine goesL_ (some 15) rfl rfl Tryd.func16 (by kernel_rfl) rfl #[.slice Ao69 t173.length co69, .agg #[.int .i64 t177, .int .i64 t178, .string t179, .slice Ao70 t180.length co70]] rfl gl ?_; (with_reducible refine (parts_Put.calls k _ _ t173 t177 t178 t179 _ _ t180 t183 t186 _ ?side1 ?side2 ?side3 ?side4 A4.out).mono ?_); (case side1 => repeat (first | exact (Kd.V_reads' HO175.out).2.2 | (with_reducible refine Kd.C_alloc ?_ _) | (with_reducible refine Kd.C_drewN ?_ _) | (with_reducible refine Kd.C_drew ?_))); (case side2 => exact (Kd.V_reads' HO175.out).2.1); (case side3 => repeat (first | exact (Kd.R_reads' HO182.out).2.2 | (with_reducible refine Kd.C_alloc ?_ _) | (with_reducible refine Kd.C_drewN ?_ _) | (with_reducible refine Kd.C_drew ?_))); (case side4 => exact (Kd.R_reads' HO182.out).2.1); rintro e w71 ⟨v184, rfl, ho0, hb⟩; refine ⟨_, rfl, ?_⟩; have HO185 := am (Kd.V_lower (Kd.V_mono (ok' := fun k_ => some k_ ≠ (.slice Ao66 t170.length co66 : Value).ownBlock ∧ some k_ ≠ (.slice Ao70 t180.length co70 : Value).ownBlock) ho0 (fun k_ hk_ => ⟨(Kd.fresh' (Kd.R_lt (kR HO172.out)) k_ hk_), (Kd.fresh' (Kd.R_lt (kR HO182.out)) k_ hk_)⟩)) (below_size (bw HB.out))); replace HO172 := am (Kd.R_below (kR HO172.out) hb); replace HO175 := am (Kd.V_below (kV HO175.out) hb); replace HO182 := am (Kd.R_below (kR HO182.out) hb); replace HB := am (below_step (bw HB.out) hb); (try clear hb); (try clear ho0)) | ((with_reducible refine gate_callee (f := 39) rfl ?_); refine goesL_ (some 20) rfl rfl Tryd.func39 (by kernel_rfl) rfl #[] rfl gl ?_; (with_reducible refine (stowagelaw14_zeros.calls k  t187 _ A5.out).mono ?_); rintro e w72 ⟨rfl, hb⟩; refine ⟨_, rfl, ?_⟩; replace HO172 := am (Kd.R_below (kR HO172.out) hb); replace HO175 := am (Kd.V_below (kV HO175.out) hb); replace HO182 := am (Kd.R_below (kR HO182.out) hb); replace HO185 := am (Kd.V_below (kV HO185.out) hb); replace HB := am (below_step (bw HB.out) hb); (try clear hb)) | ((with_reducible refine gate_callee (f := 39) rfl ?_); refine goesL_ (some 22) rfl rfl Tryd.func39 (by kernel_rfl) rfl #[] rfl gl ?_; (with_reducible refine (stowagelaw14_zeros.calls k  t188 _ A6.out).mono ?_); rintro e w73 ⟨rfl, hb⟩; refine ⟨_, rfl, ?_⟩; replace HO172 := am (Kd.R_below (kR HO172.out) hb); replace HO175 := am (Kd.V_below (kV HO175.out) hb); replace HO182 := am (Kd.R_below (kR HO182.out) hb); replace HO185 := am (Kd.V_below (kV HO185.out) hb); replace HB := am (below_step (bw HB.out) hb); (try clear hb)) | ((with_reducible refine gate_dst (N := 24) rfl ?_); (try (refine gate_guard (by rfl) ?_; dsimp only)); refine Kd.R_lit k61 _ 61 ?hg (N := 24) ?hd (xs := ([(⟨1, t187⟩ : S61), (⟨2, t188⟩ : S61)] : List (S61))) (inner := [.int .i64 1, .string t187, .int .i64 2, .string t188]) (ok := fun _ => True) (okp := fun _ => True) ?hr ?hp (fun _ hk => hk) trivial (Below.refl _ _) (Nat.le_refl _) (by simp) ?_; (case hd => rfl); (case hg => rfl); (case hr => first | (go_simp; done) | (go_simp; rfl)); (case hp => exact (Reps.c2 (show Kd.M k61 _ _ _ (⟨1, t187⟩ : S61) [.int .i64 1, .string t187] from (k61_mkM _ _ _ (⟨1, t187⟩ : S61) )) (Reps.c2 (show Kd.M k61 _ _ _ (⟨2, t188⟩ : S61) [.int .i64 2, .string t188] from (k61_mkM _ _ _ (⟨2, t188⟩ : S61) )) (Reps.none _ _)))); intro v190 w74 ho75 hb hg_ hnew_; clear hg_ hnew_; (first | rw [← Ny189.out] at ho75 | (simp only [Int.reduceToNat] at ho75; rw [← Ny189.out] at ho75)); replace HO172 := am (Kd.R_below (kR HO172.out) hb); replace HO175 := am (Kd.V_elder' (kV HO175.out) (Kd.R_base ho75) hb); replace HO182 := am (Kd.R_below (kR HO182.out) hb); replace HO185 := am (Kd.V_elder' (kV HO185.out) (Kd.R_base ho75) hb); have HO191 := am (Kd.R_lower ho75 (below_size (bw HB.out))); replace HB := am (below_step (bw HB.out) hb); clear hb ho75; obtain ⟨Ao76, co76, eo76⟩ := Kd.V_slice HO185.out; subst eo76; obtain ⟨Ao77, co77, eo77⟩ := Kd.R_slice HO191.out; subst eo77) | ((with_reducible refine gate_callee (f := 9) rfl ?_); refine goesL_ (some 25) rfl rfl Tryd.func9 (by kernel_rfl) rfl #[.slice Ao76 t183.length co76, .slice Ao77 y189.length co77] rfl gl ?_; (with_reducible refine (parts_Join.calls k _ _ t183 _ _ y189 t192 t193 t194 t195 t196 t199 _ ?side1 ?side2 ?side3 ?side4 A7.out ?sideG).mono ?_); (case sideG => first | exact HG.out | exact gg_below HG.out (bws HB.out)); (case side1 => repeat (first | exact (Kd.V_reads' HO185.out).2.2 | (with_reducible refine Kd.C_alloc ?_ _) | (with_reducible refine Kd.C_drewN ?_ _) | (with_reducible refine Kd.C_drew ?_))); (case side2 => exact (Kd.V_reads' HO185.out).2.1); (case side3 => repeat (first | exact (Kd.R_reads' HO191.out).2.2 | (with_reducible refine Kd.C_alloc ?_ _) | (with_reducible refine Kd.C_drewN ?_ _) | (with_reducible refine Kd.C_drew ?_))); (case side4 => exact (Kd.R_reads' HO191.out).2.1); rintro e w78 ⟨v197, rfl, ho0, hb⟩; refine ⟨_, rfl, ?_⟩; have HO198 := am (Kd.R_lower (Kd.R_new' (Kd.R_new' ho0 (Kd.R_lt (kR HO172.out))) (Kd.R_lt (kR HO182.out))) (below_size (bw HB.out))); replace HO172 := am (Kd.R_elder' (kR HO172.out) (Kd.R_base ho0) hb); replace HO175 := am (Kd.V_elder' (kV HO175.out) (Kd.R_base ho0) hb); replace HO182 := am (Kd.R_elder' (kR HO182.out) (Kd.R_base ho0) hb); replace HO185 := am (Kd.V_elder' (kV HO185.out) (Kd.R_base ho0) hb); replace HO191 := am (Kd.R_below (kR HO191.out) hb); replace HB := am (below_step (bw HB.out) hb); (try clear hb); (try clear ho0)) | ((with_reducible refine gate_dst (N := 5) rfl ?_); (try (refine gate_guard (by rfl) ?_; dsimp only)); refine bx 5 #[.int .i64 0, .bool false, .int .i64 0, .string (⟨#[]⟩ : ByteArray), .slice none 0 0] 26 ?_; intro gb200 hg w79 hbox hb; have BK200 := am (hbox); have GW200 := gsz hg HB.out; have GE200 := gsz hg HB.out; replace HO172 := am (Kd.R_below (kR HO172.out) hb); replace HO175 := am (Kd.V_below (Kd.V_elderB (kV HO175.out) gb200 (Nat.le_of_eq hg.symm)) hb); replace HO182 := am (Kd.R_below (kR HO182.out) hb); replace HO185 := am (Kd.V_below (Kd.V_elderB (kV HO185.out) gb200 (Nat.le_of_eq hg.symm)) hb); replace HO191 := am (Kd.R_below (kR HO191.out) hb); replace HO198 := am (Kd.R_below (kR HO198.out) hb); replace HB := am (below_step (bw HB.out) hb); clear hb hbox hg; obtain ⟨hcz80_0, hcz80_1, hcz80_2, hcz80_3, hcz80_4, hfz80_0, hfz80_1, hfz80_2, hfz80_3, hfz80_4⟩ := cz5 BK200.out; obtain ⟨Ao81, co81, eo81⟩ := Kd.R_slice HO198.out; subst eo81))
    go_ret
    exact ⟨rf, bws HB.out⟩
  ·
   rw [if_neg c9] at H
   have c9b0 := beq_eq_false_iff_ne.mpr c9
   have c9b1 := bne_iff_ne.mpr c9
   obtain rfl := Option.some.inj H
   go_enter Tryd.func13, Tryd.ntmps13
   go_wp2_with (first | ((with_reducible refine gate_callee (f := 38) rfl ?_); refine goesL_ (some 8) rfl rfl Tryd.func38 (by kernel_rfl) rfl #[.int .i64 2, .int .i64 1] rfl gl ?_; (with_reducible refine (stowagelaw14_one.calls k 2 1 t167 t168 t169 t170 _ A1.out).mono ?_); rintro e w82 ⟨v171, rfl, ho0, hb⟩; refine ⟨_, rfl, ?_⟩; have HO172 := am (Kd.R_lower ho0 (below_size (bw HB.out))); replace HB := am (below_step (bw HB.out) hb); (try clear hb); (try clear ho0); obtain ⟨Ao83, co83, eo83⟩ := Kd.R_slice HO172.out; subst eo83) | ((with_reducible refine gate_callee (f := 16) rfl ?_); refine goesL_ (some 9) rfl rfl Tryd.func16 (by kernel_rfl) rfl #[.slice none 0 0, .agg #[.int .i64 t167, .int .i64 t168, .string t169, .slice Ao83 t170.length co83]] rfl gl ?_; (refine (parts_Put.calls k _ _ ([] : List (S46)) t167 t168 t169 _ _ t170 t173 t176 _ ?side1 ?side2 ?side3 ?side4 A2.out).mono ?_); (case side1 => exact Kd.C_nil _ _); (case side2 => exact Nat.le_refl _); (case side3 => repeat (first | exact (Kd.R_reads' HO172.out).2.2 | (with_reducible refine Kd.C_alloc ?_ _) | (with_reducible refine Kd.C_drewN ?_ _) | (with_reducible refine Kd.C_drew ?_))); (case side4 => exact (Kd.R_reads' HO172.out).2.1); rintro e w84 ⟨v174, rfl, ho0, hb⟩; refine ⟨_, rfl, ?_⟩; have HO175 := am (Kd.V_lower (Kd.V_mono (ok' := fun k_ => some k_ ≠ (.slice Ao83 t170.length co83 : Value).ownBlock) ho0 (fun k_ hk_ => (Kd.fresh' (Kd.R_lt (kR HO172.out)) k_ hk_))) (below_size (bw HB.out))); replace HO172 := am (Kd.R_below (kR HO172.out) hb); replace HB := am (below_step (bw HB.out) hb); (try clear hb); (try clear ho0)) | ((with_reducible refine gate_callee (f := 38) rfl ?_); refine goesL_ (some 14) rfl rfl Tryd.func38 (by kernel_rfl) rfl #[.int .i64 1, .int .i64 64] rfl gl ?_; (with_reducible refine (stowagelaw14_one.calls k 1 64 t177 t178 t179 t180 _ A3.out).mono ?_); rintro e w85 ⟨v181, rfl, ho0, hb⟩; refine ⟨_, rfl, ?_⟩; have HO182 := am (Kd.R_lower (Kd.R_new' ho0 (Kd.R_lt (kR HO172.out))) (below_size (bw HB.out))); replace HO172 := am (Kd.R_elder' (kR HO172.out) (Kd.R_base ho0) hb); replace HO175 := am (Kd.V_elder' (kV HO175.out) (Kd.R_base ho0) hb); replace HB := am (below_step (bw HB.out) hb); (try clear hb); (try clear ho0); obtain ⟨Ao86, co86, eo86⟩ := Kd.V_slice HO175.out; subst eo86; obtain ⟨Ao87, co87, eo87⟩ := Kd.R_slice HO182.out; subst eo87) | ((with_reducible refine gate_callee (f := 16) rfl ?_); refine goesL_ (some 15) rfl rfl Tryd.func16 (by kernel_rfl) rfl #[.slice Ao86 t173.length co86, .agg #[.int .i64 t177, .int .i64 t178, .string t179, .slice Ao87 t180.length co87]] rfl gl ?_; (with_reducible refine (parts_Put.calls k _ _ t173 t177 t178 t179 _ _ t180 t183 t186 _ ?side1 ?side2 ?side3 ?side4 A4.out).mono ?_); (case side1 => repeat (first | exact (Kd.V_reads' HO175.out).2.2 | (with_reducible refine Kd.C_alloc ?_ _) | (with_reducible refine Kd.C_drewN ?_ _) | (with_reducible refine Kd.C_drew ?_))); (case side2 => exact (Kd.V_reads' HO175.out).2.1); (case side3 => repeat (first | exact (Kd.R_reads' HO182.out).2.2 | (with_reducible refine Kd.C_alloc ?_ _) | (with_reducible refine Kd.C_drewN ?_ _) | (with_reducible refine Kd.C_drew ?_))); (case side4 => exact (Kd.R_reads' HO182.out).2.1); rintro e w88 ⟨v184, rfl, ho0, hb⟩; refine ⟨_, rfl, ?_⟩; have HO185 := am (Kd.V_lower (Kd.V_mono (ok' := fun k_ => some k_ ≠ (.slice Ao83 t170.length co83 : Value).ownBlock ∧ some k_ ≠ (.slice Ao87 t180.length co87 : Value).ownBlock) ho0 (fun k_ hk_ => ⟨(Kd.fresh' (Kd.R_lt (kR HO172.out)) k_ hk_), (Kd.fresh' (Kd.R_lt (kR HO182.out)) k_ hk_)⟩)) (below_size (bw HB.out))); replace HO172 := am (Kd.R_below (kR HO172.out) hb); replace HO175 := am (Kd.V_below (kV HO175.out) hb); replace HO182 := am (Kd.R_below (kR HO182.out) hb); replace HB := am (below_step (bw HB.out) hb); (try clear hb); (try clear ho0)) | ((with_reducible refine gate_callee (f := 39) rfl ?_); refine goesL_ (some 20) rfl rfl Tryd.func39 (by kernel_rfl) rfl #[] rfl gl ?_; (with_reducible refine (stowagelaw14_zeros.calls k  t187 _ A5.out).mono ?_); rintro e w89 ⟨rfl, hb⟩; refine ⟨_, rfl, ?_⟩; replace HO172 := am (Kd.R_below (kR HO172.out) hb); replace HO175 := am (Kd.V_below (kV HO175.out) hb); replace HO182 := am (Kd.R_below (kR HO182.out) hb); replace HO185 := am (Kd.V_below (kV HO185.out) hb); replace HB := am (below_step (bw HB.out) hb); (try clear hb)) | ((with_reducible refine gate_callee (f := 39) rfl ?_); refine goesL_ (some 22) rfl rfl Tryd.func39 (by kernel_rfl) rfl #[] rfl gl ?_; (with_reducible refine (stowagelaw14_zeros.calls k  t188 _ A6.out).mono ?_); rintro e w90 ⟨rfl, hb⟩; refine ⟨_, rfl, ?_⟩; replace HO172 := am (Kd.R_below (kR HO172.out) hb); replace HO175 := am (Kd.V_below (kV HO175.out) hb); replace HO182 := am (Kd.R_below (kR HO182.out) hb); replace HO185 := am (Kd.V_below (kV HO185.out) hb); replace HB := am (below_step (bw HB.out) hb); (try clear hb)) | ((with_reducible refine gate_dst (N := 24) rfl ?_); (try (refine gate_guard (by rfl) ?_; dsimp only)); refine Kd.R_lit k61 _ 61 ?hg (N := 24) ?hd (xs := ([(⟨1, t187⟩ : S61), (⟨2, t188⟩ : S61)] : List (S61))) (inner := [.int .i64 1, .string t187, .int .i64 2, .string t188]) (ok := fun _ => True) (okp := fun _ => True) ?hr ?hp (fun _ hk => hk) trivial (Below.refl _ _) (Nat.le_refl _) (by simp) ?_; (case hd => rfl); (case hg => rfl); (case hr => first | (go_simp; done) | (go_simp; rfl)); (case hp => exact (Reps.c2 (show Kd.M k61 _ _ _ (⟨1, t187⟩ : S61) [.int .i64 1, .string t187] from (k61_mkM _ _ _ (⟨1, t187⟩ : S61) )) (Reps.c2 (show Kd.M k61 _ _ _ (⟨2, t188⟩ : S61) [.int .i64 2, .string t188] from (k61_mkM _ _ _ (⟨2, t188⟩ : S61) )) (Reps.none _ _)))); intro v190 w91 ho92 hb hg_ hnew_; clear hg_ hnew_; (first | rw [← Ny189.out] at ho92 | (simp only [Int.reduceToNat] at ho92; rw [← Ny189.out] at ho92)); replace HO172 := am (Kd.R_below (kR HO172.out) hb); replace HO175 := am (Kd.V_elder' (kV HO175.out) (Kd.R_base ho92) hb); replace HO182 := am (Kd.R_below (kR HO182.out) hb); replace HO185 := am (Kd.V_elder' (kV HO185.out) (Kd.R_base ho92) hb); have HO191 := am (Kd.R_lower ho92 (below_size (bw HB.out))); replace HB := am (below_step (bw HB.out) hb); clear hb ho92; obtain ⟨Ao93, co93, eo93⟩ := Kd.V_slice HO185.out; subst eo93; obtain ⟨Ao94, co94, eo94⟩ := Kd.R_slice HO191.out; subst eo94) | ((with_reducible refine gate_callee (f := 9) rfl ?_); refine goesL_ (some 25) rfl rfl Tryd.func9 (by kernel_rfl) rfl #[.slice Ao93 t183.length co93, .slice Ao94 y189.length co94] rfl gl ?_; (with_reducible refine (parts_Join.calls k _ _ t183 _ _ y189 t192 t193 t194 t195 t196 t199 _ ?side1 ?side2 ?side3 ?side4 A7.out ?sideG).mono ?_); (case sideG => first | exact HG.out | exact gg_below HG.out (bws HB.out)); (case side1 => repeat (first | exact (Kd.V_reads' HO185.out).2.2 | (with_reducible refine Kd.C_alloc ?_ _) | (with_reducible refine Kd.C_drewN ?_ _) | (with_reducible refine Kd.C_drew ?_))); (case side2 => exact (Kd.V_reads' HO185.out).2.1); (case side3 => repeat (first | exact (Kd.R_reads' HO191.out).2.2 | (with_reducible refine Kd.C_alloc ?_ _) | (with_reducible refine Kd.C_drewN ?_ _) | (with_reducible refine Kd.C_drew ?_))); (case side4 => exact (Kd.R_reads' HO191.out).2.1); rintro e w95 ⟨v197, rfl, ho0, hb⟩; refine ⟨_, rfl, ?_⟩; have HO198 := am (Kd.R_lower (Kd.R_new' (Kd.R_new' ho0 (Kd.R_lt (kR HO172.out))) (Kd.R_lt (kR HO182.out))) (below_size (bw HB.out))); replace HO172 := am (Kd.R_elder' (kR HO172.out) (Kd.R_base ho0) hb); replace HO175 := am (Kd.V_elder' (kV HO175.out) (Kd.R_base ho0) hb); replace HO182 := am (Kd.R_elder' (kR HO182.out) (Kd.R_base ho0) hb); replace HO185 := am (Kd.V_elder' (kV HO185.out) (Kd.R_base ho0) hb); replace HO191 := am (Kd.R_below (kR HO191.out) hb); replace HB := am (below_step (bw HB.out) hb); (try clear hb); (try clear ho0)) | ((with_reducible refine gate_dst (N := 5) rfl ?_); (try (refine gate_guard (by rfl) ?_; dsimp only)); refine bx 5 #[.int .i64 0, .bool false, .int .i64 0, .string (⟨#[]⟩ : ByteArray), .slice none 0 0] 26 ?_; intro gb200 hg w96 hbox hb; have BK200 := am (hbox); have GW200 := gsz hg HB.out; have GE200 := gsz hg HB.out; replace HO172 := am (Kd.R_below (kR HO172.out) hb); replace HO175 := am (Kd.V_below (Kd.V_elderB (kV HO175.out) gb200 (Nat.le_of_eq hg.symm)) hb); replace HO182 := am (Kd.R_below (kR HO182.out) hb); replace HO185 := am (Kd.V_below (Kd.V_elderB (kV HO185.out) gb200 (Nat.le_of_eq hg.symm)) hb); replace HO191 := am (Kd.R_below (kR HO191.out) hb); replace HO198 := am (Kd.R_below (kR HO198.out) hb); replace HB := am (below_step (bw HB.out) hb); clear hb hbox hg; obtain ⟨hcz97_0, hcz97_1, hcz97_2, hcz97_3, hcz97_4, hfz97_0, hfz97_1, hfz97_2, hfz97_3, hfz97_4⟩ := cz5 BK200.out; obtain ⟨Ao98, co98, eo98⟩ := Kd.R_slice HO198.out; subst eo98))
   go_ret
   exact ⟨rf, bws HB.out⟩
 ·
  rw [if_neg c8] at H
  have c8b0 := beq_eq_false_iff_ne.mpr c8
  have c8b1 := bne_iff_ne.mpr c8
  obtain rfl := Option.some.inj H
  go_enter Tryd.func13, Tryd.ntmps13
  go_wp2_with (first | ((with_reducible refine gate_callee (f := 38) rfl ?_); refine goesL_ (some 8) rfl rfl Tryd.func38 (by kernel_rfl) rfl #[.int .i64 2, .int .i64 1] rfl gl ?_; (with_reducible refine (stowagelaw14_one.calls k 2 1 t167 t168 t169 t170 _ A1.out).mono ?_); rintro e w99 ⟨v171, rfl, ho0, hb⟩; refine ⟨_, rfl, ?_⟩; have HO172 := am (Kd.R_lower ho0 (below_size (bw HB.out))); replace HB := am (below_step (bw HB.out) hb); (try clear hb); (try clear ho0); obtain ⟨Ao100, co100, eo100⟩ := Kd.R_slice HO172.out; subst eo100) | ((with_reducible refine gate_callee (f := 16) rfl ?_); refine goesL_ (some 9) rfl rfl Tryd.func16 (by kernel_rfl) rfl #[.slice none 0 0, .agg #[.int .i64 t167, .int .i64 t168, .string t169, .slice Ao100 t170.length co100]] rfl gl ?_; (refine (parts_Put.calls k _ _ ([] : List (S46)) t167 t168 t169 _ _ t170 t173 t176 _ ?side1 ?side2 ?side3 ?side4 A2.out).mono ?_); (case side1 => exact Kd.C_nil _ _); (case side2 => exact Nat.le_refl _); (case side3 => repeat (first | exact (Kd.R_reads' HO172.out).2.2 | (with_reducible refine Kd.C_alloc ?_ _) | (with_reducible refine Kd.C_drewN ?_ _) | (with_reducible refine Kd.C_drew ?_))); (case side4 => exact (Kd.R_reads' HO172.out).2.1); rintro e w101 ⟨v174, rfl, ho0, hb⟩; refine ⟨_, rfl, ?_⟩; have HO175 := am (Kd.V_lower (Kd.V_mono (ok' := fun k_ => some k_ ≠ (.slice Ao100 t170.length co100 : Value).ownBlock) ho0 (fun k_ hk_ => (Kd.fresh' (Kd.R_lt (kR HO172.out)) k_ hk_))) (below_size (bw HB.out))); replace HO172 := am (Kd.R_below (kR HO172.out) hb); replace HB := am (below_step (bw HB.out) hb); (try clear hb); (try clear ho0)) | ((with_reducible refine gate_callee (f := 38) rfl ?_); refine goesL_ (some 14) rfl rfl Tryd.func38 (by kernel_rfl) rfl #[.int .i64 1, .int .i64 64] rfl gl ?_; (with_reducible refine (stowagelaw14_one.calls k 1 64 t177 t178 t179 t180 _ A3.out).mono ?_); rintro e w102 ⟨v181, rfl, ho0, hb⟩; refine ⟨_, rfl, ?_⟩; have HO182 := am (Kd.R_lower (Kd.R_new' ho0 (Kd.R_lt (kR HO172.out))) (below_size (bw HB.out))); replace HO172 := am (Kd.R_elder' (kR HO172.out) (Kd.R_base ho0) hb); replace HO175 := am (Kd.V_elder' (kV HO175.out) (Kd.R_base ho0) hb); replace HB := am (below_step (bw HB.out) hb); (try clear hb); (try clear ho0); obtain ⟨Ao103, co103, eo103⟩ := Kd.V_slice HO175.out; subst eo103; obtain ⟨Ao104, co104, eo104⟩ := Kd.R_slice HO182.out; subst eo104) | ((with_reducible refine gate_callee (f := 16) rfl ?_); refine goesL_ (some 15) rfl rfl Tryd.func16 (by kernel_rfl) rfl #[.slice Ao103 t173.length co103, .agg #[.int .i64 t177, .int .i64 t178, .string t179, .slice Ao104 t180.length co104]] rfl gl ?_; (with_reducible refine (parts_Put.calls k _ _ t173 t177 t178 t179 _ _ t180 t183 t186 _ ?side1 ?side2 ?side3 ?side4 A4.out).mono ?_); (case side1 => repeat (first | exact (Kd.V_reads' HO175.out).2.2 | (with_reducible refine Kd.C_alloc ?_ _) | (with_reducible refine Kd.C_drewN ?_ _) | (with_reducible refine Kd.C_drew ?_))); (case side2 => exact (Kd.V_reads' HO175.out).2.1); (case side3 => repeat (first | exact (Kd.R_reads' HO182.out).2.2 | (with_reducible refine Kd.C_alloc ?_ _) | (with_reducible refine Kd.C_drewN ?_ _) | (with_reducible refine Kd.C_drew ?_))); (case side4 => exact (Kd.R_reads' HO182.out).2.1); rintro e w105 ⟨v184, rfl, ho0, hb⟩; refine ⟨_, rfl, ?_⟩; have HO185 := am (Kd.V_lower (Kd.V_mono (ok' := fun k_ => some k_ ≠ (.slice Ao100 t170.length co100 : Value).ownBlock ∧ some k_ ≠ (.slice Ao104 t180.length co104 : Value).ownBlock) ho0 (fun k_ hk_ => ⟨(Kd.fresh' (Kd.R_lt (kR HO172.out)) k_ hk_), (Kd.fresh' (Kd.R_lt (kR HO182.out)) k_ hk_)⟩)) (below_size (bw HB.out))); replace HO172 := am (Kd.R_below (kR HO172.out) hb); replace HO175 := am (Kd.V_below (kV HO175.out) hb); replace HO182 := am (Kd.R_below (kR HO182.out) hb); replace HB := am (below_step (bw HB.out) hb); (try clear hb); (try clear ho0)) | ((with_reducible refine gate_callee (f := 39) rfl ?_); refine goesL_ (some 20) rfl rfl Tryd.func39 (by kernel_rfl) rfl #[] rfl gl ?_; (with_reducible refine (stowagelaw14_zeros.calls k  t187 _ A5.out).mono ?_); rintro e w106 ⟨rfl, hb⟩; refine ⟨_, rfl, ?_⟩; replace HO172 := am (Kd.R_below (kR HO172.out) hb); replace HO175 := am (Kd.V_below (kV HO175.out) hb); replace HO182 := am (Kd.R_below (kR HO182.out) hb); replace HO185 := am (Kd.V_below (kV HO185.out) hb); replace HB := am (below_step (bw HB.out) hb); (try clear hb)) | ((with_reducible refine gate_callee (f := 39) rfl ?_); refine goesL_ (some 22) rfl rfl Tryd.func39 (by kernel_rfl) rfl #[] rfl gl ?_; (with_reducible refine (stowagelaw14_zeros.calls k  t188 _ A6.out).mono ?_); rintro e w107 ⟨rfl, hb⟩; refine ⟨_, rfl, ?_⟩; replace HO172 := am (Kd.R_below (kR HO172.out) hb); replace HO175 := am (Kd.V_below (kV HO175.out) hb); replace HO182 := am (Kd.R_below (kR HO182.out) hb); replace HO185 := am (Kd.V_below (kV HO185.out) hb); replace HB := am (below_step (bw HB.out) hb); (try clear hb)) | ((with_reducible refine gate_dst (N := 24) rfl ?_); (try (refine gate_guard (by rfl) ?_; dsimp only)); refine Kd.R_lit k61 _ 61 ?hg (N := 24) ?hd (xs := ([(⟨1, t187⟩ : S61), (⟨2, t188⟩ : S61)] : List (S61))) (inner := [.int .i64 1, .string t187, .int .i64 2, .string t188]) (ok := fun _ => True) (okp := fun _ => True) ?hr ?hp (fun _ hk => hk) trivial (Below.refl _ _) (Nat.le_refl _) (by simp) ?_; (case hd => rfl); (case hg => rfl); (case hr => first | (go_simp; done) | (go_simp; rfl)); (case hp => exact (Reps.c2 (show Kd.M k61 _ _ _ (⟨1, t187⟩ : S61) [.int .i64 1, .string t187] from (k61_mkM _ _ _ (⟨1, t187⟩ : S61) )) (Reps.c2 (show Kd.M k61 _ _ _ (⟨2, t188⟩ : S61) [.int .i64 2, .string t188] from (k61_mkM _ _ _ (⟨2, t188⟩ : S61) )) (Reps.none _ _)))); intro v190 w108 ho109 hb hg_ hnew_; clear hg_ hnew_; (first | rw [← Ny189.out] at ho109 | (simp only [Int.reduceToNat] at ho109; rw [← Ny189.out] at ho109)); replace HO172 := am (Kd.R_below (kR HO172.out) hb); replace HO175 := am (Kd.V_elder' (kV HO175.out) (Kd.R_base ho109) hb); replace HO182 := am (Kd.R_below (kR HO182.out) hb); replace HO185 := am (Kd.V_elder' (kV HO185.out) (Kd.R_base ho109) hb); have HO191 := am (Kd.R_lower ho109 (below_size (bw HB.out))); replace HB := am (below_step (bw HB.out) hb); clear hb ho109; obtain ⟨Ao110, co110, eo110⟩ := Kd.V_slice HO185.out; subst eo110; obtain ⟨Ao111, co111, eo111⟩ := Kd.R_slice HO191.out; subst eo111) | ((with_reducible refine gate_callee (f := 9) rfl ?_); refine goesL_ (some 25) rfl rfl Tryd.func9 (by kernel_rfl) rfl #[.slice Ao110 t183.length co110, .slice Ao111 y189.length co111] rfl gl ?_; (with_reducible refine (parts_Join.calls k _ _ t183 _ _ y189 t192 t193 t194 t195 t196 t199 _ ?side1 ?side2 ?side3 ?side4 A7.out ?sideG).mono ?_); (case sideG => first | exact HG.out | exact gg_below HG.out (bws HB.out)); (case side1 => repeat (first | exact (Kd.V_reads' HO185.out).2.2 | (with_reducible refine Kd.C_alloc ?_ _) | (with_reducible refine Kd.C_drewN ?_ _) | (with_reducible refine Kd.C_drew ?_))); (case side2 => exact (Kd.V_reads' HO185.out).2.1); (case side3 => repeat (first | exact (Kd.R_reads' HO191.out).2.2 | (with_reducible refine Kd.C_alloc ?_ _) | (with_reducible refine Kd.C_drewN ?_ _) | (with_reducible refine Kd.C_drew ?_))); (case side4 => exact (Kd.R_reads' HO191.out).2.1); rintro e w112 ⟨v197, rfl, ho0, hb⟩; refine ⟨_, rfl, ?_⟩; have HO198 := am (Kd.R_lower (Kd.R_new' (Kd.R_new' ho0 (Kd.R_lt (kR HO172.out))) (Kd.R_lt (kR HO182.out))) (below_size (bw HB.out))); replace HO172 := am (Kd.R_elder' (kR HO172.out) (Kd.R_base ho0) hb); replace HO175 := am (Kd.V_elder' (kV HO175.out) (Kd.R_base ho0) hb); replace HO182 := am (Kd.R_elder' (kR HO182.out) (Kd.R_base ho0) hb); replace HO185 := am (Kd.V_elder' (kV HO185.out) (Kd.R_base ho0) hb); replace HO191 := am (Kd.R_below (kR HO191.out) hb); replace HB := am (below_step (bw HB.out) hb); (try clear hb); (try clear ho0)) | ((with_reducible refine gate_dst (N := 5) rfl ?_); (try (refine gate_guard (by rfl) ?_; dsimp only)); refine bx 5 #[.int .i64 0, .bool false, .int .i64 0, .string (⟨#[]⟩ : ByteArray), .slice none 0 0] 26 ?_; intro gb200 hg w113 hbox hb; have BK200 := am (hbox); have GW200 := gsz hg HB.out; have GE200 := gsz hg HB.out; replace HO172 := am (Kd.R_below (kR HO172.out) hb); replace HO175 := am (Kd.V_below (Kd.V_elderB (kV HO175.out) gb200 (Nat.le_of_eq hg.symm)) hb); replace HO182 := am (Kd.R_below (kR HO182.out) hb); replace HO185 := am (Kd.V_below (Kd.V_elderB (kV HO185.out) gb200 (Nat.le_of_eq hg.symm)) hb); replace HO191 := am (Kd.R_below (kR HO191.out) hb); replace HO198 := am (Kd.R_below (kR HO198.out) hb); replace HB := am (below_step (bw HB.out) hb); clear hb hbox hg; obtain ⟨hcz114_0, hcz114_1, hcz114_2, hcz114_3, hcz114_4, hfz114_0, hfz114_1, hfz114_2, hfz114_3, hfz114_4⟩ := cz5 BK200.out; obtain ⟨Ao115, co115, eo115⟩ := Kd.R_slice HO198.out; subst eo115))
  go_ret
  exact ⟨rf, bws HB.out⟩
end Go.Proofs.YtoiockmmlanimaaDoor.Op
end
section
namespace Go.Proofs.YtoiockmmlanimaaDoor.Pure
open Go.RowKit Go.Proofs.YtoiockmmlanimaaDoor.Op Go.Proofs.YtoiockmmlanimaaDoorW.PrintWords Go.Proofs.YtoiockmmlanimaaDoorW.PrintLast Go.Proofs.YtoiockmmlanimaaDoorW.PrintMore
set_option linter.unusedVariables false
set_option linter.unusedSimpArgs false
abbrev Part := S46
abbrev Piece := S63
abbrev Pick := S61
abbrev rdP (l : List Part) (i : Nat) : Part := rd_T46 l (i : Int)
abbrev rdC (l : List Piece) (i : Nat) : Piece := rd_T63 l (i : Int)
abbrev rdK (l : List Pick) (i : Nat) : Pick := rd_T61 l (i : Int)
theorem dropP (l : List Part) (i : Nat) (h : i < l.length) : l.drop i = rdP l i :: l.drop (i + 1) := by
 rw [List.drop_eq_getElem_cons h]
 congr 1
 show l[i] = l.getD (i : Int).toNat _
 rw [Int.toNat_natCast, List.getD_eq_getElem?_getD, List.getElem?_eq_getElem h]
 rfl
theorem dropC (l : List Piece) (i : Nat) (h : i < l.length) : l.drop i = rdC l i :: l.drop (i + 1) := by
 rw [List.drop_eq_getElem_cons h]
 congr 1
 show l[i] = l.getD (i : Int).toNat _
 rw [Int.toNat_natCast, List.getD_eq_getElem?_getD, List.getElem?_eq_getElem h]
 rfl
theorem dropK (l : List Pick) (i : Nat) (h : i < l.length) : l.drop i = rdK l i :: l.drop (i + 1) := by
 rw [List.drop_eq_getElem_cons h]
 congr 1
 show l[i] = l.getD (i : Int).toNat _
 rw [Int.toNat_natCast, List.getD_eq_getElem?_getD, List.getElem?_eq_getElem h]
 rfl
theorem memP (l : List Part) (i : Nat) (h : i < l.length) : rdP l i ∈ l := by
 have : rdP l i ∈ l.drop i := by rw [dropP l i h]; exact List.mem_cons_self
 exact List.mem_of_mem_drop this
theorem memC (l : List Piece) (i : Nat) (h : i < l.length) : rdC l i ∈ l := by
 have : rdC l i ∈ l.drop i := by rw [dropC l i h]; exact List.mem_cons_self
 exact List.mem_of_mem_drop this
theorem memK (l : List Pick) (i : Nat) (h : i < l.length) : rdK l i ∈ l := by
 have : rdK l i ∈ l.drop i := by rw [dropK l i h]; exact List.mem_cons_self
 exact List.mem_of_mem_drop this
theorem w1 (i : Nat) (h : i ≤ 4611686018427387904) : wrap64 ((i : Int) + 1) = ((i + 1 : Nat) : Int) := by
 rw [IntWalk.wrap64_in _ (by omega)]
 omega
theorem len_eq (a : ByteArray) : a.data.toList.length = a.size := Array.length_toList (xs := a.data)
theorem bt_get (a : ByteArray) (i : Nat) (h : i < a.size) : ∃ c, a.data.toList.drop i = c :: a.data.toList.drop (i + 1) ∧ bt a (i : Int) = (c.toNat : Int) := by
 have hl : i < a.data.toList.length := by rw [len_eq]; exact h
 refine ⟨a.data.toList[i], List.drop_eq_getElem_cons hl, ?_⟩
 unfold bt
 rw [dif_pos (by rw [Int.toNat_natCast]; exact h)]
 simp only [Int.toNat_natCast, Array.getElem_toList]
 rfl
def D (a : ByteArray) : Bool := a.data.toList.all Sha.hb && decide (a.size = 64)
theorem digits_go (a : ByteArray) (hs : a.size ≤ 1048576) : ∀ n i k, i + n = a.size → n < k → chain_digits.l0 k a (a.size : Int) (i : Int) = some ((a.data.toList.drop i).all Sha.hb && decide (a.size = 64)) := by
 intro n
 induction n with
 | zero =>
  intro i k hi hk
  obtain ⟨k, rfl⟩ : ∃ j, k = j + 1 := ⟨k - 1, by omega⟩
  rw [chain_digits.l0, if_neg (by omega), List.drop_of_length_le (by rw [len_eq]; omega)]
  simp only [List.all_nil, Bool.true_and]
  congr 1
  by_cases h : a.size = 64
  ·
   simp [h]
  ·
   rw [decide_eq_false h]
   simpa using (show ¬ (a.size : Int) = 64 by omega)
 | succ n ih =>
  intro i k hi hk
  obtain ⟨k, rfl⟩ : ∃ j, k = j + 1 := ⟨k - 1, by omega⟩
  obtain ⟨c, hd, hb⟩ := bt_get a i (by omega)
  rw [chain_digits.l0, if_pos (by omega), if_pos (by omega), if_pos (by omega), hb, hd, List.all_cons, w1 i (by omega), ih (i + 1) k (by omega) (by omega)]
  by_cases h1 : (c.toNat : Int) < 48
  ·
   rw [if_pos h1, if_pos (by omega)]
   have : Sha.hb c = false := by simp [Sha.hb]; omega
   rw [this, Bool.false_and, Bool.false_and]
  ·
   rw [if_neg h1]
   by_cases h2 : (c.toNat : Int) > 57
   ·
    rw [if_pos h2]
    by_cases h3 : (c.toNat : Int) < 97
    ·
     rw [if_pos h3]
     have : Sha.hb c = false := by simp [Sha.hb]; omega
     rw [this, Bool.false_and, Bool.false_and]
    ·
     rw [if_neg h3]
     by_cases h4 : (c.toNat : Int) > 102
     ·
      rw [if_pos h4]
      have : Sha.hb c = false := by simp [Sha.hb]; omega
      rw [this, Bool.false_and, Bool.false_and]
     ·
      rw [if_neg h4]
      have : Sha.hb c = true := by simp [Sha.hb]; omega
      rw [this, Bool.true_and]
   ·
    rw [if_neg h2]
    have : Sha.hb c = true := by simp [Sha.hb]; omega
    rw [this, Bool.true_and]
theorem digits_eq (a : ByteArray) (hs : a.size ≤ 1048576) (k : Nat) (hk : 1048577 ≤ k) : chain_digits.f k a = some (D a) := digits_go a hs a.size 0 k (by omega) (by omega)
def pcs : List Piece → Int → Int × Int
 | [], s => (s, 0)
 | y :: r, s => if D y.f0 = true ∧ 1 ≤ y.f1 ∧ y.f1 ≤ 4096 then pcs r (s + y.f1) else (0, 1)
def Pc (l : List Piece) : Int × Int := if 512 < l.length then (0, 1) else pcs l 0
theorem pieces_go (l : List Piece) (hl : l.length ≤ 512) (hs : ∀ y ∈ l, y.f0.size ≤ 1048576) : ∀ n i k (s : Int), i + n = l.length → n + 1048577 < k → 0 ≤ s → s ≤ 4096 * i → chain_Pieces.l0 k s l (l.length : Int) (i : Int) = some (pcs (l.drop i) s) := by
 intro n
 induction n with
 | zero =>
  intro i k s hi hk h0 h1
  obtain ⟨k, rfl⟩ : ∃ j, k = j + 1 := ⟨k - 1, by omega⟩
  rw [chain_Pieces.l0, if_neg (by omega), List.drop_of_length_le (by omega)]
  rfl
 | succ n ih =>
  intro i k s hi hk h0 h1
  obtain ⟨k, rfl⟩ : ∃ j, k = j + 1 := ⟨k - 1, by omega⟩
  rw [chain_Pieces.l0, if_pos (by omega), if_pos (by omega), if_pos (by omega), digits_eq _ (hs _ (memC l i (by omega))) k (by omega), Option.bind_some, dropC l i (by omega), pcs, w1 i (by omega)]
  show (if D (rdC l i).f0 = true then (if (rdC l i).f1 < 1 then some (0, 1) else (if (rdC l i).f1 > 4096 then some (0, 1) else chain_Pieces.l0 k (wrap64 (s + (rdC l i).f1)) l (l.length : Int) ((i + 1 : Nat) : Int))) else some (0, 1)) = _
  by_cases hd : D (rdC l i).f0 = true
  ·
   rw [if_pos hd]
   by_cases h2 : (rdC l i).f1 < 1
   ·
    rw [if_pos h2, if_neg (by omega)]
   ·
    rw [if_neg h2]
    by_cases h3 : (rdC l i).f1 > 4096
    ·
     rw [if_pos h3, if_neg (by omega)]
    ·
     rw [if_neg h3, if_pos ⟨hd, by omega, by omega⟩, IntWalk.wrap64_in _ (by omega), ih (i + 1) k _ (by omega) (by omega) (by omega) (by omega)]
  ·
   rw [if_neg hd, if_neg (by intro h; exact hd h.1)]
theorem pieces_eq (l : List Piece) (hs : ∀ y ∈ l, y.f0.size ≤ 1048576) (k : Nat) (hk : 1049100 ≤ k) : chain_Pieces.f k l = some (Pc l) := by
 unfold chain_Pieces.f Pc
 by_cases h : 512 < l.length
 ·
  rw [if_pos (by omega), if_pos h]
 ·
  rw [if_neg (by omega), if_neg h]
  exact pieces_go l (by omega) hs l.length 0 k 0 (by omega) (by omega) (by omega) (by omega)
theorem unhex_some : ∀ l : List UInt8, l.length % 2 = 0 → (Sha.unhexL l).isSome = l.all Sha.hb
 | [], _ => rfl
 | [_], h => by simp at h
 | a :: b :: r, h => by
  have ih := unhex_some r (by simp at h; omega)
  rw [Sha.unhexL, List.all_cons, List.all_cons]
  cases h1 : Sha.hb a
  ·
   simp
  ·
   cases h2 : Sha.hb b
   ·
    simp
   ·
    simp [ih]
structure SmallPart (p : Part) : Prop where
 sum : p.f2.size ≤ 1048576
 pcs : ∀ y ∈ p.f3, y.f0.size ≤ 1048576
 len : p.f3.length ≤ 1048576
def chk (p : Part) : Bool := decide (1 ≤ p.f0 ∧ p.f0 ≤ 100 ∧ (Pc p.f3).2 = 0 ∧ (Pc p.f3).1 = p.f1) && D p.f2
theorem j0_true (k : Nat) (a b : Int) (c : ByteArray) (l : List Piece) : parts_Check.j0 (k + 1) true a b c l = some 1 := by rw [parts_Check.j0, if_pos rfl]
theorem check_eq (p : Part) (hp : SmallPart p) (k : Nat) (hk : 1049100 ≤ k) : parts_Check.f k p.f0 p.f1 p.f2 p.f3 = some (if chk p = true then 0 else 1) := by
 obtain ⟨k, rfl⟩ : ∃ j, k = j + 1 := ⟨k - 1, by omega⟩
 unfold parts_Check.f
 rw [pieces_eq p.f3 hp.pcs (k + 1) hk, Option.bind_some, j0_true]
 have hno : ∀ h : ¬ (1 ≤ p.f0 ∧ p.f0 ≤ 100 ∧ (Pc p.f3).2 = 0 ∧ (Pc p.f3).1 = p.f1), (some 1 : Option Int) = some (if chk p = true then 0 else 1) := fun h => by
  have : chk p = false := by unfold chk; rw [decide_eq_false h, Bool.false_and]
  rw [this, if_neg (by decide)]
 by_cases h1 : p.f0 < 1
 ·
  rw [if_pos h1]; exact hno (by omega)
 ·
  rw [if_neg h1]
  by_cases h2 : p.f0 > 100
  ·
   rw [if_pos h2]; exact hno (by omega)
  ·
   rw [if_neg h2]
   by_cases h3 : (Pc p.f3).2 = 0
   ·
    rw [if_pos h3]
    by_cases h4 : (Pc p.f3).1 = p.f1
    ·
     rw [if_pos h4, parts_Check.j0]
     have hc : chk p = D p.f2 := by unfold chk; rw [decide_eq_true ⟨by omega, by omega, h3, h4⟩, Bool.true_and]
     rw [hc]
     by_cases h5 : p.f2.size = 64
     ·
      have e : ((p.f2.size : Int) != 64) = false := by simp [h5]
      rw [e, if_neg (by decide)]
      have hU : digest_Unhex.f p.f2 = some (Sha.unhexR (Sha.unhexL p.f2.data.toList)) := by
       show Sha.unhexF p.f2 = _
       unfold Sha.unhexF
       rw [if_pos (by omega)]
      rw [hU, Option.bind_some]
      have hi := unhex_some p.f2.data.toList (by rw [len_eq, h5])
      unfold D
      rw [← hi, decide_eq_true h5, Bool.and_true]
      cases Sha.unhexL p.f2.data.toList <;> rfl
     ·
      have e : ((p.f2.size : Int) != 64) = true := by simpa using (show ¬ (p.f2.size : Int) = 64 by omega)
      rw [e, if_pos rfl]
      have : D p.f2 = false := by unfold D; rw [decide_eq_false h5, Bool.and_false]
      rw [this, if_neg (by decide)]
    ·
     rw [if_neg h4]; exact hno (fun h => h4 h.2.2.2)
   ·
    rw [if_neg h3]; exact hno (fun h => h3 h.2.2.1)
structure Small (l : List Part) : Prop where
 len : l.length ≤ 1048576
 each : ∀ p ∈ l, SmallPart p
def okN : Option Int → Int → Bool
 | none, _ => true
 | some n, m => decide (n < m)
def rB : Option Int → List Part → Bool
 | _, [] => true
 | o, p :: r => chk p && okN o p.f0 && rB (some p.f0) r
def prev (l : List Part) (i : Nat) : Option Int := if i = 0 then none else some (rdP l (i - 1)).f0
theorem right_go (l : List Part) (hl : Small l) : ∀ n i k, i + n = l.length → n + 1049100 < k → parts_right.l0 k l l (l.length : Int) (i : Int) = some (rB (prev l i) (l.drop i)) := by
 intro n
 induction n with
 | zero =>
  intro i k hi hk
  obtain ⟨k, rfl⟩ : ∃ j, k = j + 1 := ⟨k - 1, by omega⟩
  rw [parts_right.l0, if_neg (by omega), List.drop_of_length_le (by omega)]
  rfl
 | succ n ih =>
  intro i k hi hk
  have hll := hl.len
  obtain ⟨k, rfl⟩ : ∃ j, k = j + 1 := ⟨k - 1, by omega⟩
  rw [parts_right.l0, if_pos (by omega), if_pos (by omega), if_pos (by omega), check_eq (rdP l i) (hl.each _ (memP l i (by omega))) k (by omega), Option.bind_some, dropP l i (by omega), rB, w1 i (by omega), ih (i + 1) k (by omega) (by omega)]
  have hp : prev l (i + 1) = some (rdP l i).f0 := by unfold prev; rw [if_neg (by omega)]; rfl
  rw [hp]
  cases hc : chk (rdP l i)
  ·
   simp
  ·
   simp only [if_true, Bool.true_and]
   by_cases h0 : i = 0
   ·
    subst h0
    rw [if_neg (by omega)]
    simp [prev, okN]
   ·
    obtain ⟨j, rfl⟩ : ∃ j, i = j + 1 := ⟨i - 1, by omega⟩
    have e : wrap64 (((j + 1 : Nat) : Int) - 1) = (j : Int) := by rw [IntWalk.wrap64_in _ (by omega)]; omega
    rw [if_pos (by omega), e, if_pos (by omega), if_pos (by omega)]
    have hp2 : prev l (j + 1) = some (rdP l j).f0 := by unfold prev; rw [if_neg (by omega)]; rfl
    rw [hp2]
    show (if (rdP l (j + 1)).f0 ≤ (rdP l j).f0 then _ else _) = some (decide ((rdP l j).f0 < (rdP l (j + 1)).f0) && _)
    by_cases h2 : (rdP l (j + 1)).f0 ≤ (rdP l j).f0
    ·
     rw [if_pos h2, decide_eq_false (by omega), Bool.false_and]
    ·
     rw [if_neg h2, decide_eq_true (by omega), Bool.true_and]
theorem right_eq (l : List Part) (hl : Small l) (k : Nat) (hk : 2200000 ≤ k) : parts_right.f k l = some (rB none l) := by
 have := hl.len
 exact right_go l hl l.length 0 k (by omega) (by omega)
theorem rB_lt : ∀ (l : List Part) (o : Option Int), rB o l = true → (∀ p ∈ l, chk p = true) ∧ l.Pairwise (fun x y => x.f0 < y.f0) ∧ ∀ n, o = some n → ∀ p ∈ l, n < p.f0
 | [], o, _ => ⟨fun p hp => absurd hp (by simp), List.Pairwise.nil, fun n _ p hp => absurd hp (by simp)⟩
 | p :: r, o, h => by
  rw [rB, Bool.and_eq_true, Bool.and_eq_true] at h
  obtain ⟨⟨h1, h2⟩, h3⟩ := h
  obtain ⟨i1, i2, i3⟩ := rB_lt r (some p.f0) h3
  refine ⟨fun q hq => ?_, List.Pairwise.cons (fun q hq => i3 _ rfl q hq) i2, fun n hn q hq => ?_⟩
  ·
   rcases List.mem_cons.1 hq with rfl | hq
   ·
    exact h1
   ·
    exact i1 q hq
  ·
   subst hn
   have h4 : n < p.f0 := by simpa [okN] using h2
   rcases List.mem_cons.1 hq with rfl | hq
   ·
    exact h4
   ·
    have := i3 _ rfl q hq
    omega
structure Good (l : List Part) : Prop where
 small : Small l
 chk : ∀ p ∈ l, chk p = true
 asc : l.Pairwise (fun x y => x.f0 < y.f0)
theorem Good.of {l : List Part} (hs : Small l) (h : rB none l = true) : Good l := ⟨hs, (rB_lt l none h).1, (rB_lt l none h).2.1⟩
theorem chk_parts {p : Part} (h : chk p = true) : 1 ≤ p.f0 ∧ p.f0 ≤ 100 ∧ (Pc p.f3).2 = 0 ∧ (Pc p.f3).1 = p.f1 ∧ D p.f2 = true := by
 unfold chk at h
 rw [Bool.and_eq_true, decide_eq_true_eq] at h
 exact ⟨h.1.1, h.1.2.1, h.1.2.2.1, h.1.2.2.2, h.2⟩
theorem Good.lt {l : List Part} (h : Good l) (i j : Nat) (hij : i < j) (hj : j < l.length) : (rdP l i).f0 < (rdP l j).f0 := by
 have e : ∀ q, (hq : q < l.length) → rdP l q = l[q] := fun q hq => by
  show l.getD (q : Int).toNat _ = _
  rw [Int.toNat_natCast, List.getD_eq_getElem?_getD, List.getElem?_eq_getElem hq]
  rfl
 rw [e i (by omega), e j hj]
 exact List.pairwise_iff_getElem.1 h.asc i j (by omega) hj hij
theorem bs_spec (l : List Part) (h : Good l) (t : Int) (h1 : 1 ≤ t) (h2 : t ≤ 100) : ∀ n i j, i ≤ j → j ≤ l.length → j - i ≤ n → (∀ m, m < i → (rdP l m).f0 < t) → (∀ m, j ≤ m → m < l.length → t ≤ (rdP l m).f0) →
  parts_find_bs l t n i j ≤ l.length ∧ (∀ m, m < parts_find_bs l t n i j → (rdP l m).f0 < t) ∧ (∀ m, parts_find_bs l t n i j ≤ m → m < l.length → t ≤ (rdP l m).f0) := by
 intro n
 induction n with
 | zero =>
  intro i j hij hj hn hlo hhi
  rw [parts_find_bs]
  exact ⟨by omega, hlo, fun m hm => hhi m (by omega)⟩
 | succ n ih =>
  intro i j hij hj hn hlo hhi
  rw [parts_find_bs]
  by_cases hlt : i < j
  ·
   rw [if_pos hlt]
   have hm : (i + j) / 2 < l.length := by omega
   have hc := chk_parts (h.chk _ (memP l ((i + j) / 2) hm))
   have hw : wrap64 ((rdP l ((i + j) / 2)).f0 - t) = (rdP l ((i + j) / 2)).f0 - t := IntWalk.wrap64_in _ (by omega)
   by_cases hb : wrap64 ((rdP l ((i + j) / 2)).f0 - t) < 0
   ·
    rw [if_pos hb]
    rw [hw] at hb
    refine ih ((i + j) / 2 + 1) j (by omega) hj (by omega) (fun m hm2 => ?_) hhi
    rcases Nat.lt_or_ge m ((i + j) / 2) with h3 | h3
    ·
     have := h.lt m _ h3 hm; omega
    ·
     obtain rfl : m = (i + j) / 2 := by omega
     omega
   ·
    rw [if_neg hb]
    rw [hw] at hb
    refine ih i ((i + j) / 2) (by omega) (by omega) (by omega) hlo (fun m hm2 hm3 => ?_)
    rcases Nat.lt_or_ge ((i + j) / 2) m with h3 | h3
    ·
     have := h.lt _ m h3 hm3; omega
    ·
     obtain rfl : m = (i + j) / 2 := by omega
     omega
  ·
   rw [if_neg hlt]
   exact ⟨by omega, hlo, fun m hm => hhi m (by omega)⟩
def wf (n : Int) : Prop := -9223372036854775808 ≤ n ∧ n ≤ 9223372036854775807
theorem find_no (l : List Part) (h : Good l) (t : Int) (ht : wf t) (hn : ∀ p ∈ l, p.f0 ≠ t) : ∃ i, parts_find.f l t = some (i, false) := by
 have hll := h.small.len
 refine ⟨((parts_find_bs l t l.length 0 l.length : Nat) : Int), ?_⟩
 unfold parts_find.f
 rw [if_pos (by omega)]
 congr 2
 obtain ⟨R, hR⟩ : ∃ R, parts_find_bs l t l.length 0 l.length = R := ⟨_, rfl⟩
 rw [hR]
 by_cases hl : R < l.length
 ·
  rw [decide_eq_true hl, Bool.true_and]
  have h1 := hn _ (memP l R hl)
  have hc := chk_parts (h.chk _ (memP l R hl))
  have h2 : wrap64 ((rdP l R).f0 - t) ≠ 0 := by
   unfold wrap64
   unfold wf at ht
   omega
  show (wrap64 ((rdP l R).f0 - t) == 0) = false
  simpa using h2
 ·
  rw [decide_eq_false hl, Bool.false_and]
theorem find_yes (l : List Part) (h : Good l) (m : Nat) (hm : m < l.length) : parts_find.f l (rdP l m).f0 = some ((m : Int), true) := by
 have hll := h.small.len
 have hc := chk_parts (h.chk _ (memP l m hm))
 obtain ⟨b1, b2, b3⟩ := bs_spec l h (rdP l m).f0 hc.1 hc.2.1 l.length 0 l.length (Nat.zero_le _) (Nat.le_refl _) (Nat.le_refl _) (fun q hq => absurd hq (Nat.not_lt_zero _)) (fun q hq hq2 => absurd hq (by omega))
 have hR : parts_find_bs l (rdP l m).f0 l.length 0 l.length = m := by
  obtain ⟨R, hR⟩ : ∃ R, parts_find_bs l (rdP l m).f0 l.length 0 l.length = R := ⟨_, rfl⟩
  rw [hR] at b1 b2 b3 ⊢
  rcases Nat.lt_trichotomy m R with h3 | h3 | h3
  ·
   have := b2 m h3; omega
  ·
   exact h3.symm
  ·
   have := b3 R (Nat.le_refl _) (by omega)
   have := h.lt R m h3 hm
   omega
 unfold parts_find.f
 rw [if_pos (by omega), hR, decide_eq_true hm, Bool.true_and]
 show some ((m : Int), wrap64 ((rdP l m).f0 - (rdP l m).f0) == 0) = _
 rw [Int.sub_self, show wrap64 0 = 0 from IntWalk.wrap64_in _ (by omega)]
 rfl
def look (l : List Part) (n : Int) : Option Part := l.find? (fun p => decide (p.f0 = n))
theorem look_some {l : List Part} {n : Int} {p : Part} (h : look l n = some p) : p ∈ l ∧ p.f0 = n := ⟨List.mem_of_find?_eq_some h, by simpa using List.find?_some h⟩
theorem look_none {l : List Part} {n : Int} (h : look l n = none) : ∀ p ∈ l, p.f0 ≠ n := fun p hp => by simpa using List.find?_eq_none.1 h p hp
def jn (l : List Part) : List Pick → Int → List Piece → List ByteArray → Bool → Option (Int × List Piece × List ByteArray × Bool)
 | [], s, ps, ss, b => some (s, ps, ss, b)
 | x :: r, s, ps, ss, b => match look l x.f0 with
  | none => none
  | some p => if p.f2.toList = x.f1.toList then jn l r (s + p.f1) (ps ++ p.f3) (ss ++ [p.f2]) (b || (!r.isEmpty && decide (p.f1 < 64))) else none
abbrev JR := Int × Bool × Int × ByteArray × (List Piece) × Int
def bad (e : Int) : JR := (0, false, 0, (⟨#[]⟩ : ByteArray), ([] : List Piece), e)
def sum64 (ss : List ByteArray) : ByteArray := Sha.ofB (Sha.hexL (Sha.ofB (Sha.sha (Sha.tagB (BitVec.ofInt 8 77) ss))).data.toList)
def jfin : Option (Int × List Piece × List ByteArray × Bool) → JR
 | none => bad 140
 | some (s, ps, ss, b) => if b = true then bad 141 else if s > 1048576 ∨ ps.length > 512 then bad 2 else (0, false, s, sum64 ss, ps, 0)
theorem sum_size (ss : List ByteArray) : (Sha.ofB (Sha.sha (Sha.tagB (BitVec.ofInt 8 77) ss))).size = 32 := by
 rw [Sha.ofB_size, Sha.sha, Sha.out_length]
theorem tag_len (p : BitVec 8) : ∀ ss : List ByteArray, (∀ s ∈ ss, s.size = 64) → (Sha.tagB p ss).length = 1 + 72 * ss.length := by
 intro ss h
 unfold Sha.tagB
 rw [List.length_append]
 have H : (ss.flatMap Sha.partB).length = 72 * ss.length := by
  induction ss with
  | nil => rfl
  | cons s ss ih =>
   rw [List.flatMap_cons, List.length_append, ih (fun t ht => h t (List.mem_cons_of_mem _ ht)), Sha.partB_length, h s List.mem_cons_self, List.length_cons]
   omega
 rw [H]
 rfl
theorem tag_eq (ss : List ByteArray) (h : ∀ s ∈ ss, s.size = 64) (hl : ss.length ≤ 1048576) : ((digest_Tagged.f 77 ss).bind fun t => (digest_Hex.f t).bind fun u => some u) = some (sum64 ss) := by
 have h1 : digest_Tagged.f 77 ss = some (Sha.ofB (Sha.sha (Sha.tagB (BitVec.ofInt 8 77) ss))) := by
  show Sha.tagF 77 ss = _
  unfold Sha.tagF
  rw [if_pos ⟨by decide, by decide, by rw [tag_len _ ss h]; omega⟩]
 rw [h1, Option.bind_some]
 have h2 : digest_Hex.f (Sha.ofB (Sha.sha (Sha.tagB (BitVec.ofInt 8 77) ss))) = some (sum64 ss) := by
  show Sha.hexF _ = _
  unfold Sha.hexF
  rw [if_pos (by rw [sum_size]; decide)]
  rfl
 rw [h2, Option.bind_some]
theorem pcs_bound : ∀ (l : List Piece) (s : Int), 0 ≤ s → 0 ≤ (pcs l s).1 ∧ (pcs l s).1 ≤ s + 4096 * l.length
 | [], s, h => ⟨h, by simp [pcs]⟩
 | y :: r, s, h => by
  rw [pcs]
  split
  ·
   rename_i hy
   have := pcs_bound r (s + y.f1) (by omega)
   simp only [List.length_cons]
   omega
  ·
   simp only [List.length_cons]
   omega
theorem part_size {p : Part} (h : chk p = true) : 0 ≤ p.f1 ∧ p.f1 ≤ 2097152 ∧ p.f3.length ≤ 512 ∧ p.f2.size = 64 := by
 obtain ⟨_, _, h3, h4, h5⟩ := chk_parts h
 unfold Pc at h3 h4
 split at h3
 ·
  cases h3
 ·
  rename_i hl
  rw [if_neg hl] at h4
  have := pcs_bound p.f3 0 (by omega)
  unfold D at h5
  rw [Bool.and_eq_true, decide_eq_true_eq] at h5
  refine ⟨by omega, by omega, by omega, h5.2⟩
theorem look_at (l : List Part) (h : Good l) (n : Int) (hn : wf n) : (∃ i, parts_find.f l n = some (i, false) ∧ look l n = none) ∨ (∃ m, m < l.length ∧ parts_find.f l n = some ((m : Int), true) ∧ look l n = some (rdP l m)) := by
 cases hk : look l n with
 | none =>
  obtain ⟨i, hi⟩ := find_no l h n hn (look_none hk)
  exact .inl ⟨i, hi, rfl⟩
 | some p =>
  obtain ⟨hp, rfl⟩ := look_some hk
  obtain ⟨m, hm⟩ := List.mem_iff_getElem?.1 hp
  obtain ⟨hm1, hm2⟩ := List.getElem?_eq_some_iff.1 hm
  have e : rdP l m = p := by
   show l.getD (m : Int).toNat _ = _
   rw [Int.toNat_natCast, List.getD_eq_getElem?_getD, hm]
   rfl
  refine .inr ⟨m, hm1, ?_, by rw [e]⟩
  rw [← e]
  exact find_yes l h m hm1
theorem join_go (l : List Part) (h : Good l) (pk : List Pick) (hpk : pk.length ≤ 1048576) (hw : ∀ x ∈ pk, wf x.f0) : ∀ n i k (s : Int) ps ss b, i + n = pk.length → n + 3 < k → 0 ≤ s → s ≤ 2097152 * i → ps.length ≤ 512 * i → ss.length = i → (∀ t ∈ ss, t.size = 64) →
  parts_Join.l1 k l pk ss b pk (pk.length : Int) (i : Int) 0 false s (⟨#[]⟩ : ByteArray) ps = some (jfin (jn l (pk.drop i) s ps ss b)) := by
 intro n
 induction n with
 | zero =>
  intro i k s ps ss b hi hk h0 h1 h2 h3 h4
  obtain ⟨k, rfl⟩ : ∃ j, k = j + 2 := ⟨k - 2, by omega⟩
  rw [parts_Join.l1, if_neg (by omega), List.drop_of_length_le (by omega), jn]
  cases b
  ·
   simp only [Bool.false_eq_true, if_false, jfin]
   have ht := tag_eq ss h4 (by omega)
   by_cases hs : s > 1048576
   ·
    rw [if_pos hs, if_pos (.inl hs), parts_Join.j3, if_pos rfl]
    rfl
   ·
    rw [if_neg hs]
    by_cases hp : ps.length > 512
    ·
     rw [if_pos (.inr hp), decide_eq_true (by omega), parts_Join.j3, if_pos rfl]
     rfl
    ·
     rw [if_neg (by omega), decide_eq_false (by omega), parts_Join.j3, if_neg (by decide)]
     obtain ⟨t, ht1, ht2⟩ := Option.bind_eq_some_iff.1 ht
     obtain ⟨u, hu1, hu2⟩ := Option.bind_eq_some_iff.1 ht2
     cases hu2
     rw [ht1, Option.bind_some, hu1, Option.bind_some]
  ·
   rfl
 | succ n ih =>
  intro i k s ps ss b hi hk h0 h1 h2 h3 h4
  obtain ⟨k, rfl⟩ : ∃ j, k = j + 1 := ⟨k - 1, by omega⟩
  rw [parts_Join.l1, if_pos (by omega), if_pos (by omega), if_pos (by omega), dropK pk i (by omega), jn]
  rcases look_at l h (rdK pk i).f0 (hw _ (memK pk i (by omega))) with ⟨q, hf, hl⟩ | ⟨m, hm, hf, hl⟩
  ·
   rw [hf, Option.bind_some, hl]
   rfl
  ·
   rw [hf, Option.bind_some, hl]
   have hc := part_size (h.chk _ (memP l m hm))
   show (if true = true then (if (0 : Int) ≤ m then (if (m : Int) < (l.length : Int) then (if (rdP l m).f2.toList = (rdK pk i).f1.toList then _ else _) else _) else _) else _) = _
   rw [if_pos rfl, if_pos (by omega), if_pos (by omega)]
   by_cases he : (rdP l m).f2.toList = (rdK pk i).f1.toList
   ·
    rw [if_pos he]
    show (if ps.length + (rdP l m).f3.length < 5864062014805 then _ else _) = some (jfin (if (rdP l m).f2.toList = (rdK pk i).f1.toList then _ else _))
    rw [if_pos he, if_pos (by omega), Option.bind_some, if_pos (by omega), Option.bind_some, w1 i (by omega)]
    have hw2 : wrap64 (s + (rdP l m).f1) = s + (rdP l m).f1 := IntWalk.wrap64_in _ (by omega)
    have hw3 : wrap64 ((pk.length : Int) - 1) = (pk.length : Int) - 1 := IntWalk.wrap64_in _ (by omega)
    have hrec := fun b => ih (i + 1) k (s + (rdP l m).f1) (ps ++ (rdP l m).f3) (ss ++ [(rdP l m).f2]) b (by omega) (by omega) (by omega) (by omega) (by rw [List.length_append]; omega) (by rw [List.length_append, h3]; rfl) (fun t ht => by
     rcases List.mem_append.1 ht with ht | ht
     ·
      exact h4 t ht
     ·
      simp at ht; subst ht; exact hc.2.2.2)
    have hemp : (pk.drop (i + 1)).isEmpty = !decide (n ≠ 0) := by
     by_cases hn : n = 0
     ·
      rw [List.drop_of_length_le (by omega)]; simp [hn]
     ·
      have : (pk.drop (i + 1)).length ≠ 0 := by rw [List.length_drop]; omega
      rw [decide_eq_true hn]
      cases hd : pk.drop (i + 1) with
      | nil => rw [hd] at this; simp at this
      | cons _ _ => rfl
    rw [hemp, Bool.not_not]
    cases b
    ·
     rw [if_neg (by decide)]
     show (if (i : Int) < wrap64 ((pk.length : Int) - 1) then parts_Join.l1 k l pk _ (decide ((rdP l m).f1 < 64)) pk _ _ _ _ (wrap64 (s + (rdP l m).f1)) _ _ else parts_Join.l1 k l pk _ false pk _ _ _ _ (wrap64 (s + (rdP l m).f1)) _ _) = _
     rw [hw2, hw3]
     by_cases hn : n = 0
     ·
      rw [if_neg (by omega), hrec]
      simp [hn]
     ·
      rw [if_pos (by omega), hrec]
      simp [hn]
    ·
     rw [if_pos rfl]
     show parts_Join.l1 k l pk _ true pk _ _ _ _ (wrap64 (s + (rdP l m).f1)) _ _ = _
     rw [hw2, hrec]
     simp
   ·
    rw [if_neg he]
    show _ = some (jfin (if (rdP l m).f2.toList = (rdK pk i).f1.toList then _ else none))
    rw [if_neg he]
    rfl
def incr : List Pick → Bool
 | [] => true
 | [_] => true
 | x :: y :: r => decide (x.f0 < y.f0) && incr (y :: r)
def jspec (l : List Part) (pk : List Pick) : JR := if rB none l = true ∧ pk ≠ [] then (if incr pk = true then jfin (jn l pk 0 [] [] false) else bad 1) else bad 1
theorem incr_go (l : List Part) (h : Good l) (pk : List Pick) (hpk : pk.length ≤ 1048576) (hw : ∀ x ∈ pk, wf x.f0) : ∀ n i k, i + 1 + n = pk.length → n + pk.length + 5 < k → parts_Join.l0 k l pk ((i + 1 : Nat) : Int) = some (if incr (pk.drop i) = true then jfin (jn l pk 0 [] [] false) else bad 1) := by
 intro n
 induction n with
 | zero =>
  intro i k hi hk
  obtain ⟨k, rfl⟩ : ∃ j, k = j + 1 := ⟨k - 1, by omega⟩
  rw [parts_Join.l0, if_neg (by omega), dropK pk i (by omega), List.drop_of_length_le (by omega), incr, if_pos rfl]
  exact join_go l h pk hpk hw pk.length 0 k 0 [] [] false (by omega) (by omega) (by omega) (by omega) (by simp) rfl (by simp)
 | succ n ih =>
  intro i k hi hk
  obtain ⟨k, rfl⟩ : ∃ j, k = j + 1 := ⟨k - 1, by omega⟩
  have e : wrap64 (((i + 1 : Nat) : Int) - 1) = (i : Int) := by rw [IntWalk.wrap64_in _ (by omega)]; omega
  rw [parts_Join.l0, if_pos (by omega), if_pos (by omega), e, if_pos (by omega), if_pos (by omega), dropK pk i (by omega), dropK pk (i + 1) (by omega), incr, w1 (i + 1) (by omega), ih (i + 1) k (by omega) (by omega), dropK pk (i + 1) (by omega)]
  show (if (rdK pk (i + 1)).f0 ≤ (rdK pk i).f0 then some (bad 1) else _) = _
  by_cases h1 : (rdK pk (i + 1)).f0 ≤ (rdK pk i).f0
  ·
   rw [if_pos h1, decide_eq_false (by omega), Bool.false_and, if_neg (by decide)]
  ·
   rw [if_neg h1, decide_eq_true (by omega), Bool.true_and]
theorem join_eq (l : List Part) (hl : Small l) (pk : List Pick) (hpk : pk.length ≤ 1048576) (hw : ∀ x ∈ pk, wf x.f0) (k : Nat) (hk : 5000000 ≤ k) : parts_Join.f k l pk = some (jspec l pk) := by
 obtain ⟨k, rfl⟩ : ∃ j, k = j + 1 := ⟨k - 1, by omega⟩
 unfold parts_Join.f jspec
 rw [right_eq l hl (k + 1) (by omega), Option.bind_some]
 cases hr : rB none l
 ·
  rw [if_neg (by decide), if_neg (by simp), parts_Join.j0, if_pos rfl]
  rfl
 ·
  rw [if_pos rfl]
  cases pk with
  | nil =>
   rw [if_neg (by simp)]
   show parts_Join.j0 (k + 1) l [] true = _
   rw [parts_Join.j0, if_pos rfl]
   rfl
  | cons x r =>
   have e : (((x :: r).length : Int) == 0) = false := by simp; omega
   rw [if_pos ⟨rfl, by simp⟩, e, parts_Join.j0, if_neg (by decide)]
   exact incr_go l (Good.of hl hr) (x :: r) hpk hw r.length 0 k (by simp; omega) (by simp only [List.length_cons] at hpk ⊢; omega)
end Go.Proofs.YtoiockmmlanimaaDoor.Pure
end
section
namespace Go.Proofs.YtoiockmmlanimaaDoor.Pure
open Go.RowKit Go.Proofs.YtoiockmmlanimaaDoor.Op Go.Proofs.YtoiockmmlanimaaDoorW.PrintWords Go.Proofs.YtoiockmmlanimaaDoorW.PrintLast Go.Proofs.YtoiockmmlanimaaDoorW.PrintMore
set_option linter.unusedVariables false
set_option linter.unusedSimpArgs false
set_option maxRecDepth 100000
theorem up {α : Type} {f : Nat → Option α} (h : ∀ k, LeO (f k) (f (k + 1))) {r : α} {k : Nat} (h0 : f k = some r) : ∀ n, f (k + n) = some r
 | 0 => h0
 | n + 1 => h (k + n) r (up h h0 n)
theorem up_to {α : Type} {f : Nat → Option α} (h : ∀ k, LeO (f k) (f (k + 1))) {r : α} {k m : Nat} (h0 : f k = some r) (hm : k ≤ m) : f m = some r := by
 have := up h h0 (m - k)
 rwa [Nat.add_sub_cancel' hm] at this
def Z : ByteArray := strOfNums (List.replicate 64 48)
theorem zeros0 : stowagelaw14_zeros.f 100 = some Z := by kernel_rfl
theorem put1 : parts_Put.f 100 ([] : List Part) 2 1 Z [⟨Z, 1⟩] = some ([⟨2, 1, Z, [⟨Z, 1⟩]⟩], 0) := by kernel_rfl
theorem put2 : parts_Put.f 100 ([⟨2, 1, Z, [⟨Z, 1⟩]⟩] : List Part) 1 64 Z [⟨Z, 64⟩] = some ([⟨1, 64, Z, [⟨Z, 64⟩]⟩, ⟨2, 1, Z, [⟨Z, 1⟩]⟩], 0) := by kernel_rfl
abbrev AW : List Part := [⟨1, 64, Z, [⟨Z, 64⟩]⟩, ⟨2, 1, Z, [⟨Z, 1⟩]⟩]
theorem Z_small : Z.size ≤ 1048576 := by decide +kernel
theorem aw_small : Small AW := ⟨by decide, fun p hp => by
 rcases List.mem_cons.1 hp with rfl | hp
 ·
  exact ⟨Z_small, fun y hy => by simp at hy; subst hy; exact Z_small, by decide⟩
 ·
  simp at hp
  subst hp
  exact ⟨Z_small, fun y hy => by simp at hy; subst hy; exact Z_small, by decide⟩⟩
theorem aw_right : rB none AW = true := by kernel_rfl
theorem aw_join (k : Nat) (hk : 5000000 ≤ k) : parts_Join.f k AW [⟨1, Z⟩, ⟨2, Z⟩] = some (0, false, 65, sum64 [Z, Z], [⟨Z, 64⟩, ⟨Z, 1⟩], 0) := by
 rw [join_eq AW aw_small _ (by decide) (fun x hx => by
  rcases List.mem_cons.1 hx with rfl | hx
  ·
   exact ⟨by decide, by decide⟩
  ·
   simp at hx
   subst hx
   exact ⟨by decide, by decide⟩) k hk]
 unfold jspec
 rw [if_pos ⟨aw_right, by simp⟩, if_pos (show incr [⟨1, Z⟩, ⟨2, Z⟩] = true from rfl)]
 have hl1 : look AW 1 = some ⟨1, 64, Z, [⟨Z, 64⟩]⟩ := by rfl
 have hl2 : look AW 2 = some ⟨2, 1, Z, [⟨Z, 1⟩]⟩ := by rfl
 rw [jn]
 show some (jfin (match look AW 1 with | none => none | some p => _)) = _
 rw [hl1]
 show some (jfin (if Z.toList = Z.toList then _ else _)) = _
 rw [if_pos rfl, jn]
 show some (jfin (match look AW 2 with | none => none | some p => _)) = _
 rw [hl2]
 show some (jfin (if Z.toList = Z.toList then _ else _)) = _
 rw [if_pos rfl, jn]
 rfl
theorem awake_true (k : Nat) (hk : 5000000 ≤ k) : stowagelaw14_awake.f k = some true := by
 have hz : stowagelaw14_zeros.f k = some Z := up_to (f := fun k => stowagelaw14_zeros.f k) stowagelaw14_zeros.mono zeros0 (by omega)
 have h1 := up_to (f := fun k => parts_Put.f k ([] : List Part) 2 1 Z [⟨Z, 1⟩]) (fun k => parts_Put.mono _ _ _ _ _ k) put1 (show 100 ≤ k by omega)
 have h2 := up_to (f := fun k => parts_Put.f k ([⟨2, 1, Z, [⟨Z, 1⟩]⟩] : List Part) 1 64 Z [⟨Z, 64⟩]) (fun k => parts_Put.mono _ _ _ _ _ k) put2 (show 100 ≤ k by omega)
 have h3 := aw_join k hk
 unfold stowagelaw14_awake.f stowagelaw14_one.f
 simp only [hz, Option.bind_some]
 simp only [h1, Option.bind_some]
 simp only [h2, Option.bind_some]
 simp only [h3, Option.bind_some]
 rfl
end Go.Proofs.YtoiockmmlanimaaDoor.Pure
end
section
namespace Go.Proofs.YtoiockmmlanimaaDoor.Op
open Go.RowKit Go.Proofs.YtoiockmmlanimaaDoorW.PrintWords Go.Proofs.YtoiockmmlanimaaDoorW.PrintLast Go.Proofs.YtoiockmmlanimaaDoorW.PrintMore
attribute [local go_sem] max2_int min2_int max_two min_two max_three min_three max_four min_four
set_option linter.unusedVariables false
set_option linter.unusedSimpArgs false
attribute [local go_sem high] eqA85
mutual
def stowageref13_Same.j0 : Nat → Bool → Int → Bool → Int → ByteArray → List (S85) → Int → Bool → Int → ByteArray → List (S85) → Option (Bool)
 | 0, _, _, _, _, _, _, _, _, _, _, _ => none
 | k + 1, x40, x203000, x203001, x203002, x203003, x203004, x204000, x204001, x204002, x204003, x204004 => if x40 = true then (some false) else (stowageref13_Same.l0 k 0 x203000 x203001 x203002 x203003 x203004 x204000 x204001 x204002 x204003 x204004)
def stowageref13_Same.l0 : Nat → Int → Int → Bool → Int → ByteArray → List (S85) → Int → Bool → Int → ByteArray → List (S85) → Option (Bool)
 | 0, _, _, _, _, _, _, _, _, _, _, _ => none
 | k + 1, x5, x203000, x203001, x203002, x203003, x203004, x204000, x204001, x204002, x204003, x204004 => if x5 < (x203004.length : Int) then (if 0 ≤ x5 then (if x5 < (x204004.length : Int) then (if (!((((rd_T85 x203004 x5).f0).toList) == (((rd_T85 x204004 x5).f0).toList)) || (!(((rd_T85 x203004 x5).f1) == ((rd_T85 x204004 x5).f1)))) = true then (some false) else (stowageref13_Same.l0 k (wrap64 (x5 + 1)) x203000 x203001 x203002 x203003 x203004 x204000 x204001 x204002 x204003 x204004)) else (none)) else (none)) else (some true)
end
def stowageref13_Same.f (k : Nat) (a0_0 : Int) (a0_1 : Bool) (a0_2 : Int) (a0_3 : ByteArray) (l0_4 : List (S85)) (a1_0 : Int) (a1_1 : Bool) (a1_2 : Int) (a1_3 : ByteArray) (l1_4 : List (S85)) : Option (Bool) := if a0_0 = a1_0 then (if (a0_1 != a1_1) = true then (stowageref13_Same.j0 k true a0_0 a0_1 a0_2 a0_3 l0_4 a1_0 a1_1 a1_2 a1_3 l1_4) else (if a0_2 = a1_2 then (if a0_3.toList = a1_3.toList then (stowageref13_Same.j0 k ((l0_4.length : Int) != (l1_4.length : Int)) a0_0 a0_1 a0_2 a0_3 l0_4 a1_0 a1_1 a1_2 a1_3 l1_4) else (stowageref13_Same.j0 k true a0_0 a0_1 a0_2 a0_3 l0_4 a1_0 a1_1 a1_2 a1_3 l1_4)) else (stowageref13_Same.j0 k true a0_0 a0_1 a0_2 a0_3 l0_4 a1_0 a1_1 a1_2 a1_3 l1_4))) else (stowageref13_Same.j0 k true a0_0 a0_1 a0_2 a0_3 l0_4 a1_0 a1_1 a1_2 a1_3 l1_4)
theorem stowageref13_Same.mono_l : ∀ k, (∀ y0 y1 y2 y3 y4 y5 y6 y7 y8 y9 y10, LeO (stowageref13_Same.j0 k y0 y1 y2 y3 y4 y5 y6 y7 y8 y9 y10) (stowageref13_Same.j0 (k + 1) y0 y1 y2 y3 y4 y5 y6 y7 y8 y9 y10)) ∧ (∀ y0 y1 y2 y3 y4 y5 y6 y7 y8 y9 y10, LeO (stowageref13_Same.l0 k y0 y1 y2 y3 y4 y5 y6 y7 y8 y9 y10) (stowageref13_Same.l0 (k + 1) y0 y1 y2 y3 y4 y5 y6 y7 y8 y9 y10))
 | 0 => ⟨fun _ _ _ _ _ _ _ _ _ _ _ r h => by simp [stowageref13_Same.j0] at h, fun _ _ _ _ _ _ _ _ _ _ _ r h => by simp [stowageref13_Same.l0] at h⟩
 | k + 1 => by
  obtain ⟨ih0, ih1⟩ := stowageref13_Same.mono_l k
  refine ⟨?_, ?_⟩
  all_goals intros
  all_goals first | unfold stowageref13_Same.j0 | unfold stowageref13_Same.l0
  all_goals repeat' (with_reducible first | exact ih0 _ _ _ _ _ _ _ _ _ _ _ | exact ih1 _ _ _ _ _ _ _ _ _ _ _ | exact LeO.refl _ | exact LeO.none _ | refine LeO.ite ?_ ?_ | refine LeO.bind ?_ (fun _ => ?_))
theorem stowageref13_Same.mono : ∀ a0 a1 a2 a3 a4 a5 a6 a7 a8 a9 k, LeO (stowageref13_Same.f k a0 a1 a2 a3 a4 a5 a6 a7 a8 a9) (stowageref13_Same.f (k + 1) a0 a1 a2 a3 a4 a5 a6 a7 a8 a9) := by
 intro a0 a1 a2 a3 a4 a5 a6 a7 a8 a9 k
 obtain ⟨ih0, ih1⟩ := stowageref13_Same.mono_l k
 unfold stowageref13_Same.f
 repeat' (with_reducible first | exact ih0 _ _ _ _ _ _ _ _ _ _ _ | exact ih1 _ _ _ _ _ _ _ _ _ _ _ | exact LeO.refl _ | exact LeO.none _ | refine LeO.ite ?_ ?_ | refine LeO.bind ?_ (fun _ => ?_))
set_option maxHeartbeats 8000000 in
set_option maxRecDepth 100000 in
theorem stowageref13_Same.calls (k : Nat) (a0_0 : Int) (a0_1 : Bool) (a0_2 : Int) (a0_3 : ByteArray) (A0_4 : Option Addr) (c0_4 : Nat) (l0_4 : List (S85)) (a1_0 : Int) (a1_1 : Bool) (a1_2 : Int) (a1_3 : ByteArray) (A1_4 : Option Addr) (c1_4 : Nat) (l1_4 : List (S85)) (r : Bool) (w : World) (hr0_4 : Kd.C k85 w A0_4 l0_4.length l0_4) (hc0_4 : l0_4.length ≤ c0_4) (hr1_4 : Kd.C k85 w A1_4 l1_4.length l1_4) (hc1_4 : l1_4.length ≤ c1_4) (h : stowageref13_Same.f k a0_0 a0_1 a0_2 a0_3 l0_4 a1_0 a1_1 a1_2 a1_3 l1_4 = some r) :
  Calls Tryd.prog 14 #[.agg #[.int .i64 a0_0, .bool a0_1, .int .i64 a0_2, .string a0_3, .slice A0_4 l0_4.length c0_4], .agg #[.int .i64 a1_0, .bool a1_1, .int .i64 a1_2, .string a1_3, .slice A1_4 l1_4.length c1_4]] w fun e w' => e = .returned (.bool r) ∧ Below w.heap.size w w' := by
 have hu32 := Tryd.underlying32
 have hu85 := Tryd.underlying85
 have HR0_4 := am hr0_4
 have HC0_4 := am hc0_4
 clear hr0_4 hc0_4
 have HR1_4 := am hr1_4
 have HC1_4 := am hc1_4
 clear hr1_4 hc1_4
 have HB := am (Below.refl w.heap.size w)
 have H := h
 clear h
 unfold stowageref13_Same.f at H
 have HC3 := am H
 clear H
 go_enter Tryd.func14, Tryd.ntmps14
 go_upto_region 1 with (first | ((with_reducible refine gate_dst (N := 2) rfl ?_); (try (refine gate_guard (by rfl) ?_; dsimp only)); refine bx 2 #[.int .i64 a0_0, .bool a0_1, .int .i64 a0_2, .string a0_3, .slice A0_4 l0_4.length c0_4] 32 ?_; intro gb202 hg w4 hbox hb; have BK202 := am (hbox); have GW202 := gsz hg HB.out; have GE202 := gsz hg HB.out; replace HB := am (below_step (bw HB.out) hb); clear hb hbox hg) | ((with_reducible refine gate_dst (N := 3) rfl ?_); (try (refine gate_guard (by rfl) ?_; dsimp only)); refine bx 3 #[.int .i64 a1_0, .bool a1_1, .int .i64 a1_2, .string a1_3, .slice A1_4 l1_4.length c1_4] 32 ?_; intro gb203 hg w5 hbox hb; have BK203 := am (hbox); have GW203 := gsz hg HB.out; have GE203 := gsz hg HB.out; have NB202_203 := nlt (g := gb202) hg BK202.out; have NB203_202 := ngt (g := gb202) hg BK202.out; replace BK202 := bb BK202.out hb; replace HB := am (below_step (bws HB.out) hb); clear hb hbox hg))
 repeat (go_quiet (first | ((with_reducible refine gate_dst (N := 2) rfl ?_); (try (refine gate_guard (by rfl) ?_; dsimp only)); refine bx 2 #[.int .i64 a0_0, .bool a0_1, .int .i64 a0_2, .string a0_3, .slice A0_4 l0_4.length c0_4] 32 ?_; intro gb202 hg w4 hbox hb; have BK202 := am (hbox); have GW202 := gsz hg HB.out; have GE202 := gsz hg HB.out; replace HB := am (below_step (bw HB.out) hb); clear hb hbox hg) | ((with_reducible refine gate_dst (N := 3) rfl ?_); (try (refine gate_guard (by rfl) ?_; dsimp only)); refine bx 3 #[.int .i64 a1_0, .bool a1_1, .int .i64 a1_2, .string a1_3, .slice A1_4 l1_4.length c1_4] 32 ?_; intro gb203 hg w5 hbox hb; have BK203 := am (hbox); have GW203 := gsz hg HB.out; have GE203 := gsz hg HB.out; have NB202_203 := nlt (g := gb202) hg BK202.out; have NB203_202 := ngt (g := gb202) hg BK202.out; replace BK202 := bb BK202.out hb; replace HB := am (below_step (bws HB.out) hb); clear hb hbox hg)); go_upto_region 1 with (first | ((with_reducible refine gate_dst (N := 2) rfl ?_); (try (refine gate_guard (by rfl) ?_; dsimp only)); refine bx 2 #[.int .i64 a0_0, .bool a0_1, .int .i64 a0_2, .string a0_3, .slice A0_4 l0_4.length c0_4] 32 ?_; intro gb202 hg w4 hbox hb; have BK202 := am (hbox); have GW202 := gsz hg HB.out; have GE202 := gsz hg HB.out; replace HB := am (below_step (bw HB.out) hb); clear hb hbox hg) | ((with_reducible refine gate_dst (N := 3) rfl ?_); (try (refine gate_guard (by rfl) ?_; dsimp only)); refine bx 3 #[.int .i64 a1_0, .bool a1_1, .int .i64 a1_2, .string a1_3, .slice A1_4 l1_4.length c1_4] 32 ?_; intro gb203 hg w5 hbox hb; have BK203 := am (hbox); have GW203 := gsz hg HB.out; have GE203 := gsz hg HB.out; have NB202_203 := nlt (g := gb202) hg BK202.out; have NB203_202 := ngt (g := gb202) hg BK202.out; replace BK202 := bb BK202.out hb; replace HB := am (below_step (bws HB.out) hb); clear hb hbox hg)))
 (try simp only [Act.put, List.setIfInBounds_toArray, List.set_cons_zero, List.set_cons_succ])
 go_cut [40] (fun v40 wc => ∃ (kq : Nat) (x40_2 : Bool), v40 = .bool x40_2 ∧ Aside0 (stowageref13_Same.j0 kq x40_2 a0_0 a0_1 a0_2 a0_3 l0_4 a1_0 a1_1 a1_2 a1_3 l1_4 = some r) ∧ Aside0 (kq ≤ k) ∧ Aside0 (wc.heap[gb202]? = some (.cells #[.int .i64 a0_0, .bool a0_1, .int .i64 a0_2, .string a0_3, (.slice A0_4 l0_4.length c0_4)] 32 (0, 0))) ∧ Aside0 (wc.heap[gb203]? = some (.cells #[.int .i64 a1_0, .bool a1_1, .int .i64 a1_2, .string a1_3, (.slice A1_4 l1_4.length c1_4)] 32 (0, 0))) ∧ Aside0 (Below w.heap.size w wc))
 case first =>
  have H := HC3.out
  clear HC3
  by_cases c6 : a0_0 = a1_0
  ·
   rw [if_pos c6] at H
   have c6b0 := beq_iff_eq.mpr c6
   have c6b1 := bne_eq_false_iff_eq.mpr c6
   clear c6
   (first | rw [c6b0] | (simp only [i64_w, i32_w]; rw [c6b0]) | skip)
   by_cases c7 : (a0_1 != a1_1) = true
   ·
    rw [if_pos c7] at H
    have c7b0 : (a0_1 != a1_1) = true := c7
    (try (have c7b1 : decide (a0_1 = a1_1) = false := by simpa using c7))
    (try (have c7b2 : (a0_1 == a1_1) = false := by simpa using c7))
    (try (have c7b3 : ¬ (a0_1 = a1_1) := by simpa using c7))
    clear c7
    have H' := am H
    clear H
    have hnb8 := NB202_203.out
    have hnc8 := NB203_202.out
    obtain ⟨hcz9_0, hcz9_1, hcz9_2, hcz9_3, hcz9_4, hfz9_0, hfz9_1, hfz9_2, hfz9_3, hfz9_4⟩ := cz5 BK202.out
    obtain ⟨hcz10_0, hcz10_1, hcz10_2, hcz10_3, hcz10_4, hfz10_0, hfz10_1, hfz10_2, hfz10_3, hfz10_4⟩ := cz5 BK203.out
    go_wp2
    repeat (go_quiet (fail); try go_wp2)
    go_meet
    case rel => exact ⟨_, (true), rs, H', ⟨om⟩, ⟨bk BK202.out⟩, ⟨bk BK203.out⟩, ⟨bws HB.out⟩⟩
   ·
    rw [if_neg c7] at H
    have c7b0 : (a0_1 != a1_1) = false := by simpa using c7
    (try (have c7b1 : decide (a0_1 = a1_1) = true := by simpa using c7))
    (try (have c7b2 : (a0_1 == a1_1) = true := by simpa using c7))
    clear c7
    by_cases c11 : a0_2 = a1_2
    ·
     rw [if_pos c11] at H
     have c11b0 := beq_iff_eq.mpr c11
     have c11b1 := bne_eq_false_iff_eq.mpr c11
     clear c11
     by_cases c12 : a0_3.toList = a1_3.toList
     ·
      rw [if_pos c12] at H
      have c12b0 := beq_iff_eq.mpr c12
      have c12b1 := bne_eq_false_iff_eq.mpr c12
      clear c12
      have H' := am H
      clear H
      have hnb13 := NB202_203.out
      have hnc13 := NB203_202.out
      obtain ⟨hcz14_0, hcz14_1, hcz14_2, hcz14_3, hcz14_4, hfz14_0, hfz14_1, hfz14_2, hfz14_3, hfz14_4⟩ := cz5 BK202.out
      obtain ⟨hcz15_0, hcz15_1, hcz15_2, hcz15_3, hcz15_4, hfz15_0, hfz15_1, hfz15_2, hfz15_3, hfz15_4⟩ := cz5 BK203.out
      go_wp2
      repeat (go_quiet (fail); try go_wp2)
      go_meet
      case rel => exact ⟨_, (((l0_4.length : Int) != (l1_4.length : Int))), rs, H', ⟨om⟩, ⟨bk BK202.out⟩, ⟨bk BK203.out⟩, ⟨bws HB.out⟩⟩
     ·
      rw [if_neg c12] at H
      have c12b0 := beq_eq_false_iff_ne.mpr c12
      have c12b1 := bne_iff_ne.mpr c12
      have H' := am H
      clear H
      have hnb16 := NB202_203.out
      have hnc16 := NB203_202.out
      obtain ⟨hcz17_0, hcz17_1, hcz17_2, hcz17_3, hcz17_4, hfz17_0, hfz17_1, hfz17_2, hfz17_3, hfz17_4⟩ := cz5 BK202.out
      obtain ⟨hcz18_0, hcz18_1, hcz18_2, hcz18_3, hcz18_4, hfz18_0, hfz18_1, hfz18_2, hfz18_3, hfz18_4⟩ := cz5 BK203.out
      go_wp2
      repeat (go_quiet (fail); try go_wp2)
      go_meet
      case rel => exact ⟨_, (true), rs, H', ⟨om⟩, ⟨bk BK202.out⟩, ⟨bk BK203.out⟩, ⟨bws HB.out⟩⟩
    ·
     rw [if_neg c11] at H
     have c11b0 := beq_eq_false_iff_ne.mpr c11
     have c11b1 := bne_iff_ne.mpr c11
     have H' := am H
     clear H
     have hnb19 := NB202_203.out
     have hnc19 := NB203_202.out
     obtain ⟨hcz20_0, hcz20_1, hcz20_2, hcz20_3, hcz20_4, hfz20_0, hfz20_1, hfz20_2, hfz20_3, hfz20_4⟩ := cz5 BK202.out
     obtain ⟨hcz21_0, hcz21_1, hcz21_2, hcz21_3, hcz21_4, hfz21_0, hfz21_1, hfz21_2, hfz21_3, hfz21_4⟩ := cz5 BK203.out
     go_wp2
     repeat (go_quiet (fail); try go_wp2)
     go_meet
     case rel => exact ⟨_, (true), rs, H', ⟨om⟩, ⟨bk BK202.out⟩, ⟨bk BK203.out⟩, ⟨bws HB.out⟩⟩
  ·
   rw [if_neg c6] at H
   have c6b0 := beq_eq_false_iff_ne.mpr c6
   have c6b1 := bne_iff_ne.mpr c6
   (first | rw [c6b0] | (simp only [i64_w, i32_w]; rw [c6b0]) | skip)
   have H' := am H
   clear H
   have hnb22 := NB202_203.out
   have hnc22 := NB203_202.out
   obtain ⟨hcz23_0, hcz23_1, hcz23_2, hcz23_3, hcz23_4, hfz23_0, hfz23_1, hfz23_2, hfz23_3, hfz23_4⟩ := cz5 BK202.out
   obtain ⟨hcz24_0, hcz24_1, hcz24_2, hcz24_3, hcz24_4, hfz24_0, hfz24_1, hfz24_2, hfz24_3, hfz24_4⟩ := cz5 BK203.out
   go_wp2
   repeat (go_quiet (fail); try go_wp2)
   go_meet
   case rel => exact ⟨_, (true), rs, H', ⟨om⟩, ⟨bk BK202.out⟩, ⟨bk BK203.out⟩, ⟨bws HB.out⟩⟩
 case rest =>
  clear HC3
  obtain ⟨kq, x40_2, rfl, HA, HJ2, BK202, BK203, HB⟩ := hcut
  cases kq with
  | zero => exact absurd HA.out (by simp [stowageref13_Same.j0])
  | succ kj2 =>
   have H := HA.out
   clear HA
   simp only [stowageref13_Same.j0] at H
   by_cases c25 : x40_2 = true
   ·
    subst c25
    rw [if_pos rfl] at H
    obtain rfl := Option.some.inj H
    go_wp2
    repeat (go_quiet (fail); try go_wp2)
    go_ret
    exact ⟨rf, bws HB.out⟩
   ·
    replace c25 := Bool.eq_false_iff.mpr c25
    subst c25
    rw [if_neg (show ¬ (false = true) by decide)] at H
    have H' := am H
    clear H
    go_wp2
    repeat (go_quiet (fail); try go_wp2)
    go_loopg [5] kj2 (fun kq v5 w' => ∃ (x5_2 : Int), v5 = .int .i64 x5_2 ∧ Aside0 (stowageref13_Same.l0 kq x5_2 a0_0 a0_1 a0_2 a0_3 l0_4 a1_0 a1_1 a1_2 a1_3 l1_4 = some r) ∧ Aside0 (kq ≤ kj2) ∧ Aside0 (w'.heap[gb202]? = some (.cells #[.int .i64 a0_0, .bool a0_1, .int .i64 a0_2, .string a0_3, (.slice A0_4 l0_4.length c0_4)] 32 (0, 0))) ∧ Aside0 (w'.heap[gb203]? = some (.cells #[.int .i64 a1_0, .bool a1_1, .int .i64 a1_2, .string a1_3, (.slice A1_4 l1_4.length c1_4)] 32 (0, 0))) ∧ Aside0 (Below w.heap.size w w'))
    case atStart => exact ⟨(0), rs, H', ⟨Nat.le_refl _⟩, ⟨bk BK202.out⟩, ⟨bk BK203.out⟩, ⟨bws HB.out⟩⟩
    case round =>
     clear H'
     try clear c25
     obtain ⟨x5_2, rfl, HA, HK2, BK202, BK203, HB⟩ := hrel
     cases gk with
     | zero => exact absurd HA.out (by simp [stowageref13_Same.l0])
     | succ k2 =>
      have H := HA.out
      clear HA
      simp only [stowageref13_Same.l0] at H
      replace H := iteD H
      rcases H with ⟨c26b0, H⟩ | ⟨c26b0, H⟩
      ·
       replace H := iteD H
       rcases H with ⟨c27b0, H⟩ | ⟨_, H⟩
       ·
        replace H := iteD H
        rcases H with ⟨c28b0, H⟩ | ⟨_, H⟩
        ·
         by_cases c29 : (!((((rd_T85 l0_4 x5_2).f0).toList) == (((rd_T85 l1_4 x5_2).f0).toList)) || (!(((rd_T85 l0_4 x5_2).f1) == ((rd_T85 l1_4 x5_2).f1)))) = true
         ·
          rw [if_pos c29] at H
          have c29b0 : (!((((rd_T85 l0_4 x5_2).f0).toList) == (((rd_T85 l1_4 x5_2).f0).toList)) || (!(((rd_T85 l0_4 x5_2).f1) == ((rd_T85 l1_4 x5_2).f1)))) = true := c29
          clear c29
          obtain rfl := Option.some.inj H
          have hnb30 := NB202_203.out
          have hnc30 := NB203_202.out
          obtain ⟨hcz31_0, hcz31_1, hcz31_2, hcz31_3, hcz31_4, hfz31_0, hfz31_1, hfz31_2, hfz31_3, hfz31_4⟩ := cz5 BK202.out
          have p204 := pz x5_2
          have q204 := pl x5_2 (l0_4.length : Int)
          obtain ⟨ad204, e204, hx204_0, hx204_1⟩ := at_T85 HR0_4.out x5_2 (of_eq_true p204) (of_eq_true q204)
          cases e204
          replace hx204_0 := bc HB.out hx204_0
          replace hx204_1 := bc HB.out hx204_1
          obtain ⟨hcz32_0, hcz32_1, hcz32_2, hcz32_3, hcz32_4, hfz32_0, hfz32_1, hfz32_2, hfz32_3, hfz32_4⟩ := cz5 BK203.out
          have p205 := pz x5_2
          have q205 := pl x5_2 (l1_4.length : Int)
          obtain ⟨ad205, e205, hx205_0, hx205_1⟩ := at_T85 HR1_4.out x5_2 (of_eq_true p205) (of_eq_true q205)
          cases e205
          replace hx205_0 := bc HB.out hx205_0
          replace hx205_1 := bc HB.out hx205_1
          go_wp2
          repeat (go_quiet (fail); try go_wp2)
          go_ret
          exact ⟨rf, bws HB.out⟩
         ·
          rw [if_neg c29] at H
          have c29b0 : (!((((rd_T85 l0_4 x5_2).f0).toList) == (((rd_T85 l1_4 x5_2).f0).toList)) || (!(((rd_T85 l0_4 x5_2).f1) == ((rd_T85 l1_4 x5_2).f1)))) = false := by simpa using c29
          clear c29
          have H' := am H
          clear H
          have hnb33 := NB202_203.out
          have hnc33 := NB203_202.out
          obtain ⟨hcz34_0, hcz34_1, hcz34_2, hcz34_3, hcz34_4, hfz34_0, hfz34_1, hfz34_2, hfz34_3, hfz34_4⟩ := cz5 BK202.out
          have p204 := pz x5_2
          have q204 := pl x5_2 (l0_4.length : Int)
          obtain ⟨ad204, e204, hx204_0, hx204_1⟩ := at_T85 HR0_4.out x5_2 (of_eq_true p204) (of_eq_true q204)
          cases e204
          replace hx204_0 := bc HB.out hx204_0
          replace hx204_1 := bc HB.out hx204_1
          obtain ⟨hcz35_0, hcz35_1, hcz35_2, hcz35_3, hcz35_4, hfz35_0, hfz35_1, hfz35_2, hfz35_3, hfz35_4⟩ := cz5 BK203.out
          have p205 := pz x5_2
          have q205 := pl x5_2 (l1_4.length : Int)
          obtain ⟨ad205, e205, hx205_0, hx205_1⟩ := at_T85 HR1_4.out x5_2 (of_eq_true p205) (of_eq_true q205)
          cases e205
          replace hx205_0 := bc HB.out hx205_0
          replace hx205_1 := bc HB.out hx205_1
          go_wp2
          repeat (go_quiet (fail); try go_wp2)
          go_roundg k2
          case measure => have := HJ2.out; have := HK2.out; omega
          case rel => exact ⟨(wrap64 (x5_2 + 1)), rs, H', ⟨by have := HJ2.out; have := HK2.out; omega⟩, ⟨bk BK202.out⟩, ⟨bk BK203.out⟩, ⟨bws HB.out⟩⟩
        ·
         exact absurd H (by simp)
       ·
        exact absurd H (by simp)
      ·
       obtain rfl := Option.some.inj H
       have hnb36 := NB202_203.out
       have hnc36 := NB203_202.out
       obtain ⟨hcz37_0, hcz37_1, hcz37_2, hcz37_3, hcz37_4, hfz37_0, hfz37_1, hfz37_2, hfz37_3, hfz37_4⟩ := cz5 BK202.out
       go_wp2
       repeat (go_quiet (fail); try go_wp2)
       go_ret
       exact ⟨rf, bws HB.out⟩
end Go.Proofs.YtoiockmmlanimaaDoor.Op
end
section
namespace Go.Proofs.YtoiockmmlanimaaDoor.Op
open Go.RowKit Go.Proofs.YtoiockmmlanimaaDoorW.PrintWords Go.Proofs.YtoiockmmlanimaaDoorW.PrintLast Go.Proofs.YtoiockmmlanimaaDoorW.PrintMore
attribute [local go_sem] max2_int min2_int max_two min_two max_three min_three max_four min_four
set_option linter.unusedVariables false
set_option linter.unusedSimpArgs false
def stowageref14_Same.l0 : Nat → List (S52) → List (S52) → Int → Option (Bool)
 | 0, _, _, _ => none
 | k + 1, x0, x1, x5 => if x5 < (x0.length : Int) then (if 0 ≤ x5 then (if x5 < (x1.length : Int) then ((stowageref13_Same.f k ((rd_T52 x0 x5).f0) false ((rd_T52 x0 x5).f1) ((rd_T52 x0 x5).f2) ((rd_T52 x0 x5).f3) ((rd_T52 x1 x5).f0) false ((rd_T52 x1 x5).f1) ((rd_T52 x1 x5).f2) ((rd_T52 x1 x5).f3)).bind fun t216 => (if t216 = true then (stowageref14_Same.l0 k x0 x1 (wrap64 (x5 + 1))) else (some false))) else (none)) else (none)) else (some true)
def stowageref14_Same.f (k : Nat) (l0 : List (S52)) (l1 : List (S52)) : Option (Bool) := if (l0.length : Int) = (l1.length : Int) then (stowageref14_Same.l0 k l0 l1 0) else (some false)
theorem stowageref14_Same.mono_l : ∀ k, (∀ y0 y1 y2, LeO (stowageref14_Same.l0 k y0 y1 y2) (stowageref14_Same.l0 (k + 1) y0 y1 y2))
 | 0 => fun _ _ _ r h => by simp [stowageref14_Same.l0] at h
 | k + 1 => by
  have ih0 := stowageref14_Same.mono_l k
  ·
   intro y0 y1 y2
   unfold stowageref14_Same.l0
   repeat' (with_reducible first | exact ih0 _ _ _ | exact stowageref13_Same.mono _ _ _ _ _ _ _ _ _ _ _ | exact LeO.refl _ | exact LeO.none _ | refine LeO.ite ?_ ?_ | refine LeO.bind ?_ (fun _ => ?_))
theorem stowageref14_Same.mono : ∀ a0 a1 k, LeO (stowageref14_Same.f k a0 a1) (stowageref14_Same.f (k + 1) a0 a1) := by
 intro a0 a1 k
 have ih0 := stowageref14_Same.mono_l k
 unfold stowageref14_Same.f
 repeat' (with_reducible first | exact ih0 _ _ _ | exact stowageref13_Same.mono _ _ _ _ _ _ _ _ _ _ _ | exact LeO.refl _ | exact LeO.none _ | refine LeO.ite ?_ ?_ | refine LeO.bind ?_ (fun _ => ?_))
def stowageref14_Same.T6 : Bool × List (List Nat × List Nat) := (true, [([], []), ([], []), ([0, 1], [0, 1]), ([2], [2]), ([3], [3]), ([], []), ([], []), ([5, 6], [5, 6]), ([7], [7]), ([8], [8]), ([], []), ([], []), ([10, 11], [10, 11]), ([12], [12]), ([13], [13]), ([], []), ([], []), ([15, 16], [15, 16]), ([17], [17]), ([18], [18]), ([4, 9, 14, 19], [4, 9, 14, 19]), ([], []), ([21, 20, 0, 1, 2, 3, 4, 5, 6, 7, 8, 9, 10, 11, 12, 13, 14, 15, 16, 17, 18, 19, 20, 21], [20, 21])])
def stowageref14_Same.B6 : List Nat := [0, 0, 3, 7, 15, 0, 0, 96, 224, 480, 0, 0, 3072, 7168, 15360, 0, 0, 98304, 229376, 491520, 1048575, 0, 4194303]
theorem stowageref14_Same.tab6 : rtab .any (opsOf Tryd.f17 6) = stowageref14_Same.T6 := by kernel_rfl
theorem stowageref14_Same.bits6 : waitsOk stowageref14_Same.T6.2 stowageref14_Same.B6 = true := by kernel_rfl
def stowageref14_Same.T7 : Bool × List (List Nat × List Nat) := (true, [([], []), ([], []), ([0, 1], [0, 1]), ([2], [2]), ([3], [3]), ([], []), ([], []), ([5, 6], [5, 6]), ([7], [7]), ([8], [8]), ([], []), ([], []), ([10, 11], [10, 11]), ([12], [12]), ([13], [13]), ([], []), ([], []), ([15, 16], [15, 16]), ([17], [17]), ([18], [18]), ([4, 9, 14, 19], [4, 9, 14, 19]), ([], []), ([21, 20, 0, 1, 2, 3, 4, 5, 6, 7, 8, 9, 10, 11, 12, 13, 14, 15, 16, 17, 18, 19, 20, 21], [20, 21])])
def stowageref14_Same.B7 : List Nat := [0, 0, 3, 7, 15, 0, 0, 96, 224, 480, 0, 0, 3072, 7168, 15360, 0, 0, 98304, 229376, 491520, 1048575, 0, 4194303]
theorem stowageref14_Same.tab7 : rtab .any (opsOf Tryd.f17 7) = stowageref14_Same.T7 := by kernel_rfl
theorem stowageref14_Same.bits7 : waitsOk stowageref14_Same.T7.2 stowageref14_Same.B7 = true := by kernel_rfl
set_option maxHeartbeats 8000000 in
set_option maxRecDepth 100000 in
theorem stowageref14_Same.calls (k : Nat) (A0 : Option Addr) (c0 : Nat) (l0 : List (S52)) (A1 : Option Addr) (c1 : Nat) (l1 : List (S52)) (r : Bool) (w : World) (hr0 : Kd.C k52 w A0 l0.length l0) (hc0 : l0.length ≤ c0) (hr1 : Kd.C k52 w A1 l1.length l1) (hc1 : l1.length ≤ c1) (h : stowageref14_Same.f k l0 l1 = some r) :
  Calls Tryd.prog 17 #[.slice A0 l0.length c0, .slice A1 l1.length c1] w fun e w' => e = .returned (.bool r) ∧ Below w.heap.size w w' := by
 have hu32 := Tryd.underlying32
 have HR0 := am hr0
 have HC0 := am hc0
 clear hr0 hc0
 have HR1 := am hr1
 have HC1 := am hc1
 clear hr1 hc1
 have HB := am (Below.refl w.heap.size w)
 have H := h
 clear h
 unfold stowageref14_Same.f at H
 by_cases c3 : (l0.length : Int) = (l1.length : Int)
 ·
  rw [if_pos c3] at H
  have c3b0 := beq_iff_eq.mpr c3
  have c3b1 := bne_eq_false_iff_eq.mpr c3
  have c3b2 : (l0.length == l1.length) = true := by first | simpa using c3 | (simp at c3 ⊢; omega)
  clear c3
  have H' := am H
  clear H
  go_enter Tryd.func17, Tryd.ntmps17
  go_wp2
  go_loopg [5] k (fun kq v5 w' => ∃ (x5_1 : Int), v5 = .int .i64 x5_1 ∧ Aside0 (stowageref14_Same.l0 kq l0 l1 x5_1 = some r) ∧ Aside0 (kq ≤ k) ∧ Aside0 (Below w.heap.size w w'))
  case atStart => exact ⟨(0), rs, H', ⟨Nat.le_refl _⟩, ⟨bw HB.out⟩⟩
  case round =>
   clear H'
   try clear c3
   try clear c3b0
   try clear c3b1
   try clear c3b2
   obtain ⟨x5_1, rfl, HA, HK1, HB⟩ := hrel
   cases gk with
   | zero => exact absurd HA.out (by simp [stowageref14_Same.l0])
   | succ k1 =>
    have H := HA.out
    clear HA
    simp only [stowageref14_Same.l0] at H
    replace H := iteD H
    rcases H with ⟨c4b0, H⟩ | ⟨c4b0, H⟩
    ·
     replace H := iteD H
     rcases H with ⟨c5b0, H⟩ | ⟨_, H⟩
     ·
      replace H := iteD H
      rcases H with ⟨c6b0, H⟩ | ⟨_, H⟩
      ·
       replace H := obE H
       obtain ⟨t216, A7, H⟩ := H
       by_cases c8 : t216 = true
       ·
        subst c8
        rw [if_pos rfl] at H
        have H' := am H
        clear H
        try go_wp2
        replace HB := am (below_drew1 HB.out)
        have p206 := pz x5_1
        have q206 := pl x5_1 (l0.length : Int)
        obtain ⟨ad206, A206_3, c206_3, e206, hw206_0, hw206_1, hw206_2, hw206_3, hl206_3, hi206_3⟩ := at_T52 HR0.out x5_1 (of_eq_true p206) (of_eq_true q206)
        cases e206
        have hx206_0 := bc HB.out hw206_0
        have hx206_1 := bc HB.out hw206_1
        have hx206_2 := bc HB.out hw206_2
        have hx206_3 := bc HB.out hw206_3
        have HR206_3 := am hi206_3
        have HC206_3 := am hl206_3
        clear hi206_3 hl206_3
        have p207 := pz x5_1
        have q207 := pl x5_1 (l0.length : Int)
        obtain ⟨ad207, A207_3, c207_3, e207, hw207_0, hw207_1, hw207_2, hw207_3, hl207_3, hi207_3⟩ := at_T52 HR0.out x5_1 (of_eq_true p207) (of_eq_true q207)
        obtain rfl : ad206 = ad207 := (by injection e207)
        have hx207_0 := bc HB.out hw207_0
        have hx207_1 := bc HB.out hw207_1
        have hx207_2 := bc HB.out hw207_2
        have hx207_3 := bc HB.out hw207_3
        have HR207_3 := am hi207_3
        have HC207_3 := am hl207_3
        clear hi207_3 hl207_3
        have ea_ := Option.some.inj (hx206_3.symm.trans hx207_3)
        injection ea_ with ea_ en_ ec_
        subst ea_
        subst ec_
        clear en_
        have p208 := pz x5_1
        have q208 := pl x5_1 (l0.length : Int)
        obtain ⟨ad208, A208_3, c208_3, e208, hw208_0, hw208_1, hw208_2, hw208_3, hl208_3, hi208_3⟩ := at_T52 HR0.out x5_1 (of_eq_true p208) (of_eq_true q208)
        obtain rfl : ad206 = ad208 := (by injection e208)
        have hx208_0 := bc HB.out hw208_0
        have hx208_1 := bc HB.out hw208_1
        have hx208_2 := bc HB.out hw208_2
        have hx208_3 := bc HB.out hw208_3
        have HR208_3 := am hi208_3
        have HC208_3 := am hl208_3
        clear hi208_3 hl208_3
        have ea_ := Option.some.inj (hx206_3.symm.trans hx208_3)
        injection ea_ with ea_ en_ ec_
        subst ea_
        subst ec_
        clear en_
        have p209 := pz x5_1
        have q209 := pl x5_1 (l0.length : Int)
        obtain ⟨ad209, A209_3, c209_3, e209, hw209_0, hw209_1, hw209_2, hw209_3, hl209_3, hi209_3⟩ := at_T52 HR0.out x5_1 (of_eq_true p209) (of_eq_true q209)
        obtain rfl : ad206 = ad209 := (by injection e209)
        have hx209_0 := bc HB.out hw209_0
        have hx209_1 := bc HB.out hw209_1
        have hx209_2 := bc HB.out hw209_2
        have hx209_3 := bc HB.out hw209_3
        have HR209_3 := am hi209_3
        have HC209_3 := am hl209_3
        clear hi209_3 hl209_3
        have ea_ := Option.some.inj (hx206_3.symm.trans hx209_3)
        injection ea_ with ea_ en_ ec_
        subst ea_
        subst ec_
        clear en_
        refine start_ (n := 23) (S := fun w' => w'.cell? (ad206.add ((x5_1).toNat * 4)) = some (.int .i64 ((rd_T52 l0 x5_1).f0)) ∧ w'.cell? ⟨(ad206.add ((x5_1).toNat * 4)).block, (ad206.add ((x5_1).toNat * 4)).off + 1, none⟩ = some (.int .i64 ((rd_T52 l0 x5_1).f1)) ∧ w'.cell? ⟨(ad206.add ((x5_1).toNat * 4)).block, (ad206.add ((x5_1).toNat * 4)).off + 2, none⟩ = some (.string ((rd_T52 l0 x5_1).f2)) ∧ w'.cell? ⟨(ad206.add ((x5_1).toNat * 4)).block, (ad206.add ((x5_1).toNat * 4)).off + 3, none⟩ = some (.slice A206_3 ((rd_T52 l0 x5_1).f3).length c206_3)) (ds := []) #[false, false, false, false, false, false, false, false, false, false, false, false, false, false, false, false, false, false, false, false, false, false, false] (by kernel_rfl) rfl rfl ⟨(bc HB.out hw206_0), (bc HB.out hw206_1), (bc HB.out hw206_2), (bc HB.out hw206_3)⟩ (fun hHeld => ?_); refine with_tabW stowageref14_Same.tab6 stowageref14_Same.bits6 (fun HT_ HW_ => ?_)
        generalize wr.drew = w9 at HB HR206_3 HR207_3 HR208_3 HR209_3 hx206_0 hx206_1 hx206_2 hx206_3 hx207_0 hx207_1 hx207_2 hx207_3 hx208_0 hx208_1 hx208_2 hx208_3 hx209_0 hx209_1 hx209_2 hx209_3 hHeld ⊢
        refine pu 0 (some 19) HT_.out ?_
        refine pu 1 (some 20) HT_.out ?_
        refine pu 2 (some 21) HT_.out ?_
        refine pu 3 (some 22) HT_.out ?_
        refine pu 5 (some 24) HT_.out ?_
        refine pu 6 (some 25) HT_.out ?_
        refine pu 7 (some 26) HT_.out ?_
        refine pu 8 (some 27) HT_.out ?_
        refine pu 10 (some 29) HT_.out ?_
        refine pu 11 (some 30) HT_.out ?_
        refine pu 12 (some 31) HT_.out ?_
        refine pu 13 (some 32) HT_.out ?_
        refine pu 15 (some 34) HT_.out ?_
        refine pu 16 (some 35) HT_.out ?_
        refine pu 17 (some 36) HT_.out ?_
        refine pu 18 (some 37) HT_.out ?_
        refine tk 4 (some 23) HT_.out HW_.out hHeld ?_
        refine tk 9 (some 28) HT_.out HW_.out hHeld ?_
        refine tk 14 (some 33) HT_.out HW_.out hHeld ?_
        refine tk 19 (some 38) HT_.out HW_.out hHeld ?_
        refine pu 20 (some 39) HT_.out ?_
        refine one_ (i := 21) (N := some 6) #[true, true, true, true, true, true, true, true, true, true, true, true, true, true, true, true, true, true, true, true, true, true, false] rfl rfl (one_of HT_.out (by kernel_rfl)) (by decide) (fun K hK => ?_)
        refine box_step ?hg (N := 6) ?hd (cs := #[.int .i64 0, .bool false, .int .i64 0, .string (⟨#[]⟩ : ByteArray), .slice none 0 0]) (t := 32) ?hr ?_; (case hd => rfl); (case hg => rfl); (case hr => first | (go_simp; done) | (go_simp; rfl))
        intro gb210 hg w10 hbox hb
        have n0_ := am (below_step (bw HB.out) hb)
        have n1_ := am (hbox)
        have n2_ := gsz hg HB.out
        have n3_ := gsz hg HB.out
        clear HB
        have HB := n0_
        have BK210 := n1_
        have GW210 := n2_
        have GE210 := n3_
        clear n0_ n1_ n2_ n3_
        clear hb hbox hg
        refine hK.out _ _ ⟨(bc HB.out hw206_0), (bc HB.out hw206_1), (bc HB.out hw206_2), (bc HB.out hw206_3)⟩ (fun hHeld => ?_)
        clear hK K
        refine norm_ (a' := ?_) ?_ ?_
        rotate_left
        ·
         show Act.put _ (some 6) _ = _
         simp only [Act.put, List.setIfInBounds_toArray, List.set_cons_zero, List.set_cons_succ, i64_w, i32_w]
         rfl
        refine one_ (i := 22) (N := none) #[true, true, true, true, true, true, true, true, true, true, true, true, true, true, true, true, true, true, true, true, true, true, true] rfl rfl (one_of HT_.out (by kernel_rfl)) (by decide) (fun K hK => ?_)
        have hs11 : w10.cell? ⟨gb210, 0, none⟩ = some (.int .i64 0) := (blk_cell BK210.out 0).trans rfl
        have hfs11 := blk_frozen BK210.out 0
        have hs12 : w10.cell? ⟨gb210, 1, none⟩ = some (.bool false) := (blk_cell BK210.out 1).trans rfl
        have hfs12 := blk_frozen BK210.out 1
        have hs13 : w10.cell? ⟨gb210, 2, none⟩ = some (.int .i64 0) := (blk_cell BK210.out 2).trans rfl
        have hfs13 := blk_frozen BK210.out 2
        have hs14 : w10.cell? ⟨gb210, 3, none⟩ = some (.string (⟨#[]⟩ : ByteArray)) := (blk_cell BK210.out 3).trans rfl
        have hfs14 := blk_frozen BK210.out 3
        have hs15 : w10.cell? ⟨gb210, 4, none⟩ = some (.slice none 0 0) := (blk_cell BK210.out 4).trans rfl
        have hfs15 := blk_frozen BK210.out 4
        refine skip_ (w1 := ?_) (by rfl) rfl ?_ ?_
        rotate_left
        ·
         go_simp
         rfl
        refine hK.out _ _ ⟨(cf hw206_0 GW210.out hHeld.1), (cf hw206_1 GW210.out hHeld.2.1), (cf hw206_2 GW210.out hHeld.2.2.1), (cf hw206_3 GW210.out hHeld.2.2.2)⟩ (fun hHeld => ?_)
        clear hK K
        refine done_ (done_of HT_.out (by kernel_rfl)) ?_
        try go_wp2
        have n0_ : Aside0 ((((((w10.setCell ⟨gb210, 0, none⟩ (.int .i64 ((rd_T52 l0 x5_1).f0))).setCell ⟨gb210, 1, none⟩ (.bool false)).setCell ⟨gb210, 2, none⟩ (.int .i64 ((rd_T52 l0 x5_1).f1))).setCell ⟨gb210, 3, none⟩ (.string ((rd_T52 l0 x5_1).f2))).setCell ⟨gb210, 4, none⟩ (.slice A206_3 ((rd_T52 l0 x5_1).f3).length c206_3)).heap[gb210]? = some (.cells #[.int .i64 ((rd_T52 l0 x5_1).f0), .bool false, .int .i64 ((rd_T52 l0 x5_1).f1), .string ((rd_T52 l0 x5_1).f2), .slice A206_3 ((rd_T52 l0 x5_1).f3).length c206_3] 32 (0, 0))) := ⟨bkp BK210.out⟩
        have n1_ : Aside0 (Below w.heap.size w (((((w10.setCell ⟨gb210, 0, none⟩ (.int .i64 ((rd_T52 l0 x5_1).f0))).setCell ⟨gb210, 1, none⟩ (.bool false)).setCell ⟨gb210, 2, none⟩ (.int .i64 ((rd_T52 l0 x5_1).f1))).setCell ⟨gb210, 3, none⟩ (.string ((rd_T52 l0 x5_1).f2))).setCell ⟨gb210, 4, none⟩ (.slice A206_3 ((rd_T52 l0 x5_1).f3).length c206_3))) := ⟨bws HB.out⟩
        (try clear BK210)
        (try clear HB)
        generalize (((((w10.setCell ⟨gb210, 0, none⟩ (.int .i64 ((rd_T52 l0 x5_1).f0))).setCell ⟨gb210, 1, none⟩ (.bool false)).setCell ⟨gb210, 2, none⟩ (.int .i64 ((rd_T52 l0 x5_1).f1))).setCell ⟨gb210, 3, none⟩ (.string ((rd_T52 l0 x5_1).f2))).setCell ⟨gb210, 4, none⟩ (.slice A206_3 ((rd_T52 l0 x5_1).f3).length c206_3)) = w16 at n0_ n1_ ⊢
        have BK210 := n0_
        have HB := n1_
        clear n0_ n1_
        replace BK210 := am (blk_drew BK210.out)
        replace HB := am (below_drew1 HB.out)
        have p211 := pz x5_1
        have q211 := pl x5_1 (l1.length : Int)
        obtain ⟨ad211, A211_3, c211_3, e211, hw211_0, hw211_1, hw211_2, hw211_3, hl211_3, hi211_3⟩ := at_T52 HR1.out x5_1 (of_eq_true p211) (of_eq_true q211)
        cases e211
        have hx211_0 := bc HB.out hw211_0
        have hx211_1 := bc HB.out hw211_1
        have hx211_2 := bc HB.out hw211_2
        have hx211_3 := bc HB.out hw211_3
        have HR211_3 := am hi211_3
        have HC211_3 := am hl211_3
        clear hi211_3 hl211_3
        have p212 := pz x5_1
        have q212 := pl x5_1 (l1.length : Int)
        obtain ⟨ad212, A212_3, c212_3, e212, hw212_0, hw212_1, hw212_2, hw212_3, hl212_3, hi212_3⟩ := at_T52 HR1.out x5_1 (of_eq_true p212) (of_eq_true q212)
        obtain rfl : ad211 = ad212 := (by injection e212)
        have hx212_0 := bc HB.out hw212_0
        have hx212_1 := bc HB.out hw212_1
        have hx212_2 := bc HB.out hw212_2
        have hx212_3 := bc HB.out hw212_3
        have HR212_3 := am hi212_3
        have HC212_3 := am hl212_3
        clear hi212_3 hl212_3
        have ea_ := Option.some.inj (hx211_3.symm.trans hx212_3)
        injection ea_ with ea_ en_ ec_
        subst ea_
        subst ec_
        clear en_
        have p213 := pz x5_1
        have q213 := pl x5_1 (l1.length : Int)
        obtain ⟨ad213, A213_3, c213_3, e213, hw213_0, hw213_1, hw213_2, hw213_3, hl213_3, hi213_3⟩ := at_T52 HR1.out x5_1 (of_eq_true p213) (of_eq_true q213)
        obtain rfl : ad211 = ad213 := (by injection e213)
        have hx213_0 := bc HB.out hw213_0
        have hx213_1 := bc HB.out hw213_1
        have hx213_2 := bc HB.out hw213_2
        have hx213_3 := bc HB.out hw213_3
        have HR213_3 := am hi213_3
        have HC213_3 := am hl213_3
        clear hi213_3 hl213_3
        have ea_ := Option.some.inj (hx211_3.symm.trans hx213_3)
        injection ea_ with ea_ en_ ec_
        subst ea_
        subst ec_
        clear en_
        have p214 := pz x5_1
        have q214 := pl x5_1 (l1.length : Int)
        obtain ⟨ad214, A214_3, c214_3, e214, hw214_0, hw214_1, hw214_2, hw214_3, hl214_3, hi214_3⟩ := at_T52 HR1.out x5_1 (of_eq_true p214) (of_eq_true q214)
        obtain rfl : ad211 = ad214 := (by injection e214)
        have hx214_0 := bc HB.out hw214_0
        have hx214_1 := bc HB.out hw214_1
        have hx214_2 := bc HB.out hw214_2
        have hx214_3 := bc HB.out hw214_3
        have HR214_3 := am hi214_3
        have HC214_3 := am hl214_3
        clear hi214_3 hl214_3
        have ea_ := Option.some.inj (hx211_3.symm.trans hx214_3)
        injection ea_ with ea_ en_ ec_
        subst ea_
        subst ec_
        clear en_
        refine start_ (n := 23) (S := fun w' => w'.cell? (ad211.add ((x5_1).toNat * 4)) = some (.int .i64 ((rd_T52 l1 x5_1).f0)) ∧ w'.cell? ⟨(ad211.add ((x5_1).toNat * 4)).block, (ad211.add ((x5_1).toNat * 4)).off + 1, none⟩ = some (.int .i64 ((rd_T52 l1 x5_1).f1)) ∧ w'.cell? ⟨(ad211.add ((x5_1).toNat * 4)).block, (ad211.add ((x5_1).toNat * 4)).off + 2, none⟩ = some (.string ((rd_T52 l1 x5_1).f2)) ∧ w'.cell? ⟨(ad211.add ((x5_1).toNat * 4)).block, (ad211.add ((x5_1).toNat * 4)).off + 3, none⟩ = some (.slice A211_3 ((rd_T52 l1 x5_1).f3).length c211_3)) (ds := []) #[false, false, false, false, false, false, false, false, false, false, false, false, false, false, false, false, false, false, false, false, false, false, false] (by kernel_rfl) rfl rfl ⟨(bc HB.out hw211_0), (bc HB.out hw211_1), (bc HB.out hw211_2), (bc HB.out hw211_3)⟩ (fun hHeld => ?_); refine with_tabW stowageref14_Same.tab7 stowageref14_Same.bits7 (fun HT_ HW_ => ?_)
        generalize w16.drew = w17 at BK210 HB HR211_3 HR212_3 HR213_3 HR214_3 hx211_0 hx211_1 hx211_2 hx211_3 hx212_0 hx212_1 hx212_2 hx212_3 hx213_0 hx213_1 hx213_2 hx213_3 hx214_0 hx214_1 hx214_2 hx214_3 hHeld ⊢
        refine pu 0 (some 40) HT_.out ?_
        refine pu 1 (some 41) HT_.out ?_
        refine pu 2 (some 42) HT_.out ?_
        refine pu 3 (some 43) HT_.out ?_
        refine pu 5 (some 45) HT_.out ?_
        refine pu 6 (some 46) HT_.out ?_
        refine pu 7 (some 47) HT_.out ?_
        refine pu 8 (some 48) HT_.out ?_
        refine pu 10 (some 50) HT_.out ?_
        refine pu 11 (some 51) HT_.out ?_
        refine pu 12 (some 52) HT_.out ?_
        refine pu 13 (some 53) HT_.out ?_
        refine pu 15 (some 55) HT_.out ?_
        refine pu 16 (some 56) HT_.out ?_
        refine pu 17 (some 57) HT_.out ?_
        refine pu 18 (some 58) HT_.out ?_
        refine tk 4 (some 44) HT_.out HW_.out hHeld ?_
        refine tk 9 (some 49) HT_.out HW_.out hHeld ?_
        refine tk 14 (some 54) HT_.out HW_.out hHeld ?_
        refine tk 19 (some 59) HT_.out HW_.out hHeld ?_
        refine pu 20 (some 60) HT_.out ?_
        refine one_ (i := 21) (N := some 7) #[true, true, true, true, true, true, true, true, true, true, true, true, true, true, true, true, true, true, true, true, true, true, false] rfl rfl (one_of HT_.out (by kernel_rfl)) (by decide) (fun K hK => ?_)
        refine box_step ?hg (N := 7) ?hd (cs := #[.int .i64 0, .bool false, .int .i64 0, .string (⟨#[]⟩ : ByteArray), .slice none 0 0]) (t := 32) ?hr ?_; (case hd => rfl); (case hg => rfl); (case hr => first | (go_simp; done) | (go_simp; rfl))
        intro gb215 hg w18 hbox hb
        have n0_ := bb BK210.out hb
        have n1_ := am (below_step (bws HB.out) hb)
        have n2_ := am (hbox)
        have n3_ := gsz hg HB.out
        have n4_ := gsz hg HB.out
        have n5_ := nlt (g := gb210) hg BK210.out
        have n6_ := ngt (g := gb210) hg BK210.out
        clear BK210
        clear HB
        have BK210 := n0_
        have HB := n1_
        have BK215 := n2_
        have GW215 := n3_
        have GE215 := n4_
        have NB210_215 := n5_
        have NB215_210 := n6_
        clear n0_ n1_ n2_ n3_ n4_ n5_ n6_
        clear hb hbox hg
        refine hK.out _ _ ⟨(bc HB.out hw211_0), (bc HB.out hw211_1), (bc HB.out hw211_2), (bc HB.out hw211_3)⟩ (fun hHeld => ?_)
        clear hK K
        refine norm_ (a' := ?_) ?_ ?_
        rotate_left
        ·
         show Act.put _ (some 7) _ = _
         simp only [Act.put, List.setIfInBounds_toArray, List.set_cons_zero, List.set_cons_succ, i64_w, i32_w]
         rfl
        refine one_ (i := 22) (N := none) #[true, true, true, true, true, true, true, true, true, true, true, true, true, true, true, true, true, true, true, true, true, true, true] rfl rfl (one_of HT_.out (by kernel_rfl)) (by decide) (fun K hK => ?_)
        have hs19 : w18.cell? ⟨gb215, 0, none⟩ = some (.int .i64 0) := (blk_cell BK215.out 0).trans rfl
        have hfs19 := blk_frozen BK215.out 0
        have hns19_0 := NB210_215.out
        have hms19_0 := NB215_210.out
        have hs20 : w18.cell? ⟨gb215, 1, none⟩ = some (.bool false) := (blk_cell BK215.out 1).trans rfl
        have hfs20 := blk_frozen BK215.out 1
        have hns20_0 := NB210_215.out
        have hms20_0 := NB215_210.out
        have hs21 : w18.cell? ⟨gb215, 2, none⟩ = some (.int .i64 0) := (blk_cell BK215.out 2).trans rfl
        have hfs21 := blk_frozen BK215.out 2
        have hns21_0 := NB210_215.out
        have hms21_0 := NB215_210.out
        have hs22 : w18.cell? ⟨gb215, 3, none⟩ = some (.string (⟨#[]⟩ : ByteArray)) := (blk_cell BK215.out 3).trans rfl
        have hfs22 := blk_frozen BK215.out 3
        have hns22_0 := NB210_215.out
        have hms22_0 := NB215_210.out
        have hs23 : w18.cell? ⟨gb215, 4, none⟩ = some (.slice none 0 0) := (blk_cell BK215.out 4).trans rfl
        have hfs23 := blk_frozen BK215.out 4
        have hns23_0 := NB210_215.out
        have hms23_0 := NB215_210.out
        refine skip_ (w1 := ?_) (by rfl) rfl ?_ ?_
        rotate_left
        ·
         go_simp
         rfl
        refine hK.out _ _ ⟨(cf hw211_0 GW215.out hHeld.1), (cf hw211_1 GW215.out hHeld.2.1), (cf hw211_2 GW215.out hHeld.2.2.1), (cf hw211_3 GW215.out hHeld.2.2.2)⟩ (fun hHeld => ?_)
        clear hK K
        refine done_ (done_of HT_.out (by kernel_rfl)) ?_
        have hnb24 := NB210_215.out
        have hnc24 := NB215_210.out
        obtain ⟨hcz25_0, hcz25_1, hcz25_2, hcz25_3, hcz25_4, hfz25_0, hfz25_1, hfz25_2, hfz25_3, hfz25_4⟩ := cz5 BK210.out
        obtain ⟨hcz26_0, hcz26_1, hcz26_2, hcz26_3, hcz26_4, hfz26_0, hfz26_1, hfz26_2, hfz26_3, hfz26_4⟩ := cz5 BK215.out
        try go_wp2_with (first | ((with_reducible refine gate_callee (f := 14) rfl ?_); refine goesL_ (some 63) rfl rfl Tryd.func14 (by kernel_rfl) rfl #[.agg #[.int .i64 ((rd_T52 l0 x5_1).f0), .bool false, .int .i64 ((rd_T52 l0 x5_1).f1), .string ((rd_T52 l0 x5_1).f2), .slice A206_3 ((rd_T52 l0 x5_1).f3).length c206_3], .agg #[.int .i64 ((rd_T52 l1 x5_1).f0), .bool false, .int .i64 ((rd_T52 l1 x5_1).f1), .string ((rd_T52 l1 x5_1).f2), .slice A211_3 ((rd_T52 l1 x5_1).f3).length c211_3]] rfl gl ?_; (with_reducible refine (stowageref13_Same.calls k1 ((rd_T52 l0 x5_1).f0) false ((rd_T52 l0 x5_1).f1) ((rd_T52 l0 x5_1).f2) _ _ ((rd_T52 l0 x5_1).f3) ((rd_T52 l1 x5_1).f0) false ((rd_T52 l1 x5_1).f1) ((rd_T52 l1 x5_1).f2) _ _ ((rd_T52 l1 x5_1).f3) true _ ?side1 ?side2 ?side3 ?side4 A7.out).mono ?_); (case side1 => exact Kd.C_below HR209_3.out (bws HB.out)); (case side2 => exact HC209_3.out); (case side3 => exact Kd.C_below HR214_3.out (bws HB.out)); (case side4 => exact HC214_3.out); rintro e w27 ⟨rfl, hb⟩; refine ⟨_, rfl, ?_⟩; replace BK210 := am (blk_below (g := gb210) (o := .cells #[.int .i64 ((rd_T52 l0 x5_1).f0), .bool false, .int .i64 ((rd_T52 l0 x5_1).f1), .string ((rd_T52 l0 x5_1).f2), .slice A206_3 ((rd_T52 l0 x5_1).f3).length c206_3] 32 (0, 0)) (bkf BK210.out) hb); replace BK215 := am (blk_below (g := gb215) (o := .cells #[.int .i64 ((rd_T52 l1 x5_1).f0), .bool false, .int .i64 ((rd_T52 l1 x5_1).f1), .string ((rd_T52 l1 x5_1).f2), .slice A211_3 ((rd_T52 l1 x5_1).f3).length c211_3] 32 (0, 0)) (bkp BK215.out) hb); replace HB := am (below_step (bws HB.out) hb); (try clear hb)))
        go_roundg k1
        case measure => have := HK1.out; omega
        case rel => exact ⟨(wrap64 (x5_1 + 1)), rs, H', ⟨by have := HK1.out; omega⟩, ⟨bws HB.out⟩⟩
       ·
        replace c8 := Bool.eq_false_iff.mpr c8
        subst c8
        rw [if_neg (show ¬ (false = true) by decide)] at H
        obtain rfl := Option.some.inj H
        try go_wp2
        replace HB := am (below_drew1 HB.out)
        have p206 := pz x5_1
        have q206 := pl x5_1 (l0.length : Int)
        obtain ⟨ad206, A206_3, c206_3, e206, hw206_0, hw206_1, hw206_2, hw206_3, hl206_3, hi206_3⟩ := at_T52 HR0.out x5_1 (of_eq_true p206) (of_eq_true q206)
        cases e206
        have hx206_0 := bc HB.out hw206_0
        have hx206_1 := bc HB.out hw206_1
        have hx206_2 := bc HB.out hw206_2
        have hx206_3 := bc HB.out hw206_3
        have HR206_3 := am hi206_3
        have HC206_3 := am hl206_3
        clear hi206_3 hl206_3
        have p207 := pz x5_1
        have q207 := pl x5_1 (l0.length : Int)
        obtain ⟨ad207, A207_3, c207_3, e207, hw207_0, hw207_1, hw207_2, hw207_3, hl207_3, hi207_3⟩ := at_T52 HR0.out x5_1 (of_eq_true p207) (of_eq_true q207)
        obtain rfl : ad206 = ad207 := (by injection e207)
        have hx207_0 := bc HB.out hw207_0
        have hx207_1 := bc HB.out hw207_1
        have hx207_2 := bc HB.out hw207_2
        have hx207_3 := bc HB.out hw207_3
        have HR207_3 := am hi207_3
        have HC207_3 := am hl207_3
        clear hi207_3 hl207_3
        have ea_ := Option.some.inj (hx206_3.symm.trans hx207_3)
        injection ea_ with ea_ en_ ec_
        subst ea_
        subst ec_
        clear en_
        have p208 := pz x5_1
        have q208 := pl x5_1 (l0.length : Int)
        obtain ⟨ad208, A208_3, c208_3, e208, hw208_0, hw208_1, hw208_2, hw208_3, hl208_3, hi208_3⟩ := at_T52 HR0.out x5_1 (of_eq_true p208) (of_eq_true q208)
        obtain rfl : ad206 = ad208 := (by injection e208)
        have hx208_0 := bc HB.out hw208_0
        have hx208_1 := bc HB.out hw208_1
        have hx208_2 := bc HB.out hw208_2
        have hx208_3 := bc HB.out hw208_3
        have HR208_3 := am hi208_3
        have HC208_3 := am hl208_3
        clear hi208_3 hl208_3
        have ea_ := Option.some.inj (hx206_3.symm.trans hx208_3)
        injection ea_ with ea_ en_ ec_
        subst ea_
        subst ec_
        clear en_
        have p209 := pz x5_1
        have q209 := pl x5_1 (l0.length : Int)
        obtain ⟨ad209, A209_3, c209_3, e209, hw209_0, hw209_1, hw209_2, hw209_3, hl209_3, hi209_3⟩ := at_T52 HR0.out x5_1 (of_eq_true p209) (of_eq_true q209)
        obtain rfl : ad206 = ad209 := (by injection e209)
        have hx209_0 := bc HB.out hw209_0
        have hx209_1 := bc HB.out hw209_1
        have hx209_2 := bc HB.out hw209_2
        have hx209_3 := bc HB.out hw209_3
        have HR209_3 := am hi209_3
        have HC209_3 := am hl209_3
        clear hi209_3 hl209_3
        have ea_ := Option.some.inj (hx206_3.symm.trans hx209_3)
        injection ea_ with ea_ en_ ec_
        subst ea_
        subst ec_
        clear en_
        refine start_ (n := 23) (S := fun w' => w'.cell? (ad206.add ((x5_1).toNat * 4)) = some (.int .i64 ((rd_T52 l0 x5_1).f0)) ∧ w'.cell? ⟨(ad206.add ((x5_1).toNat * 4)).block, (ad206.add ((x5_1).toNat * 4)).off + 1, none⟩ = some (.int .i64 ((rd_T52 l0 x5_1).f1)) ∧ w'.cell? ⟨(ad206.add ((x5_1).toNat * 4)).block, (ad206.add ((x5_1).toNat * 4)).off + 2, none⟩ = some (.string ((rd_T52 l0 x5_1).f2)) ∧ w'.cell? ⟨(ad206.add ((x5_1).toNat * 4)).block, (ad206.add ((x5_1).toNat * 4)).off + 3, none⟩ = some (.slice A206_3 ((rd_T52 l0 x5_1).f3).length c206_3)) (ds := []) #[false, false, false, false, false, false, false, false, false, false, false, false, false, false, false, false, false, false, false, false, false, false, false] (by kernel_rfl) rfl rfl ⟨(bc HB.out hw206_0), (bc HB.out hw206_1), (bc HB.out hw206_2), (bc HB.out hw206_3)⟩ (fun hHeld => ?_); refine with_tabW stowageref14_Same.tab6 stowageref14_Same.bits6 (fun HT_ HW_ => ?_)
        generalize wr.drew = w28 at HB HR206_3 HR207_3 HR208_3 HR209_3 hx206_0 hx206_1 hx206_2 hx206_3 hx207_0 hx207_1 hx207_2 hx207_3 hx208_0 hx208_1 hx208_2 hx208_3 hx209_0 hx209_1 hx209_2 hx209_3 hHeld ⊢
        refine pu 0 (some 19) HT_.out ?_
        refine pu 1 (some 20) HT_.out ?_
        refine pu 2 (some 21) HT_.out ?_
        refine pu 3 (some 22) HT_.out ?_
        refine pu 5 (some 24) HT_.out ?_
        refine pu 6 (some 25) HT_.out ?_
        refine pu 7 (some 26) HT_.out ?_
        refine pu 8 (some 27) HT_.out ?_
        refine pu 10 (some 29) HT_.out ?_
        refine pu 11 (some 30) HT_.out ?_
        refine pu 12 (some 31) HT_.out ?_
        refine pu 13 (some 32) HT_.out ?_
        refine pu 15 (some 34) HT_.out ?_
        refine pu 16 (some 35) HT_.out ?_
        refine pu 17 (some 36) HT_.out ?_
        refine pu 18 (some 37) HT_.out ?_
        refine tk 4 (some 23) HT_.out HW_.out hHeld ?_
        refine tk 9 (some 28) HT_.out HW_.out hHeld ?_
        refine tk 14 (some 33) HT_.out HW_.out hHeld ?_
        refine tk 19 (some 38) HT_.out HW_.out hHeld ?_
        refine pu 20 (some 39) HT_.out ?_
        refine one_ (i := 21) (N := some 6) #[true, true, true, true, true, true, true, true, true, true, true, true, true, true, true, true, true, true, true, true, true, true, false] rfl rfl (one_of HT_.out (by kernel_rfl)) (by decide) (fun K hK => ?_)
        refine box_step ?hg (N := 6) ?hd (cs := #[.int .i64 0, .bool false, .int .i64 0, .string (⟨#[]⟩ : ByteArray), .slice none 0 0]) (t := 32) ?hr ?_; (case hd => rfl); (case hg => rfl); (case hr => first | (go_simp; done) | (go_simp; rfl))
        intro gb210 hg w29 hbox hb
        have n0_ := am (below_step (bw HB.out) hb)
        have n1_ := am (hbox)
        have n2_ := gsz hg HB.out
        have n3_ := gsz hg HB.out
        clear HB
        have HB := n0_
        have BK210 := n1_
        have GW210 := n2_
        have GE210 := n3_
        clear n0_ n1_ n2_ n3_
        clear hb hbox hg
        refine hK.out _ _ ⟨(bc HB.out hw206_0), (bc HB.out hw206_1), (bc HB.out hw206_2), (bc HB.out hw206_3)⟩ (fun hHeld => ?_)
        clear hK K
        refine norm_ (a' := ?_) ?_ ?_
        rotate_left
        ·
         show Act.put _ (some 6) _ = _
         simp only [Act.put, List.setIfInBounds_toArray, List.set_cons_zero, List.set_cons_succ, i64_w, i32_w]
         rfl
        refine one_ (i := 22) (N := none) #[true, true, true, true, true, true, true, true, true, true, true, true, true, true, true, true, true, true, true, true, true, true, true] rfl rfl (one_of HT_.out (by kernel_rfl)) (by decide) (fun K hK => ?_)
        have hs30 : w29.cell? ⟨gb210, 0, none⟩ = some (.int .i64 0) := (blk_cell BK210.out 0).trans rfl
        have hfs30 := blk_frozen BK210.out 0
        have hs31 : w29.cell? ⟨gb210, 1, none⟩ = some (.bool false) := (blk_cell BK210.out 1).trans rfl
        have hfs31 := blk_frozen BK210.out 1
        have hs32 : w29.cell? ⟨gb210, 2, none⟩ = some (.int .i64 0) := (blk_cell BK210.out 2).trans rfl
        have hfs32 := blk_frozen BK210.out 2
        have hs33 : w29.cell? ⟨gb210, 3, none⟩ = some (.string (⟨#[]⟩ : ByteArray)) := (blk_cell BK210.out 3).trans rfl
        have hfs33 := blk_frozen BK210.out 3
        have hs34 : w29.cell? ⟨gb210, 4, none⟩ = some (.slice none 0 0) := (blk_cell BK210.out 4).trans rfl
        have hfs34 := blk_frozen BK210.out 4
        refine skip_ (w1 := ?_) (by rfl) rfl ?_ ?_
        rotate_left
        ·
         go_simp
         rfl
        refine hK.out _ _ ⟨(cf hw206_0 GW210.out hHeld.1), (cf hw206_1 GW210.out hHeld.2.1), (cf hw206_2 GW210.out hHeld.2.2.1), (cf hw206_3 GW210.out hHeld.2.2.2)⟩ (fun hHeld => ?_)
        clear hK K
        refine done_ (done_of HT_.out (by kernel_rfl)) ?_
        try go_wp2
        have n0_ : Aside0 ((((((w29.setCell ⟨gb210, 0, none⟩ (.int .i64 ((rd_T52 l0 x5_1).f0))).setCell ⟨gb210, 1, none⟩ (.bool false)).setCell ⟨gb210, 2, none⟩ (.int .i64 ((rd_T52 l0 x5_1).f1))).setCell ⟨gb210, 3, none⟩ (.string ((rd_T52 l0 x5_1).f2))).setCell ⟨gb210, 4, none⟩ (.slice A206_3 ((rd_T52 l0 x5_1).f3).length c206_3)).heap[gb210]? = some (.cells #[.int .i64 ((rd_T52 l0 x5_1).f0), .bool false, .int .i64 ((rd_T52 l0 x5_1).f1), .string ((rd_T52 l0 x5_1).f2), .slice A206_3 ((rd_T52 l0 x5_1).f3).length c206_3] 32 (0, 0))) := ⟨bkp BK210.out⟩
        have n1_ : Aside0 (Below w.heap.size w (((((w29.setCell ⟨gb210, 0, none⟩ (.int .i64 ((rd_T52 l0 x5_1).f0))).setCell ⟨gb210, 1, none⟩ (.bool false)).setCell ⟨gb210, 2, none⟩ (.int .i64 ((rd_T52 l0 x5_1).f1))).setCell ⟨gb210, 3, none⟩ (.string ((rd_T52 l0 x5_1).f2))).setCell ⟨gb210, 4, none⟩ (.slice A206_3 ((rd_T52 l0 x5_1).f3).length c206_3))) := ⟨bws HB.out⟩
        (try clear BK210)
        (try clear HB)
        generalize (((((w29.setCell ⟨gb210, 0, none⟩ (.int .i64 ((rd_T52 l0 x5_1).f0))).setCell ⟨gb210, 1, none⟩ (.bool false)).setCell ⟨gb210, 2, none⟩ (.int .i64 ((rd_T52 l0 x5_1).f1))).setCell ⟨gb210, 3, none⟩ (.string ((rd_T52 l0 x5_1).f2))).setCell ⟨gb210, 4, none⟩ (.slice A206_3 ((rd_T52 l0 x5_1).f3).length c206_3)) = w35 at n0_ n1_ ⊢
        have BK210 := n0_
        have HB := n1_
        clear n0_ n1_
        replace BK210 := am (blk_drew BK210.out)
        replace HB := am (below_drew1 HB.out)
        have p211 := pz x5_1
        have q211 := pl x5_1 (l1.length : Int)
        obtain ⟨ad211, A211_3, c211_3, e211, hw211_0, hw211_1, hw211_2, hw211_3, hl211_3, hi211_3⟩ := at_T52 HR1.out x5_1 (of_eq_true p211) (of_eq_true q211)
        cases e211
        have hx211_0 := bc HB.out hw211_0
        have hx211_1 := bc HB.out hw211_1
        have hx211_2 := bc HB.out hw211_2
        have hx211_3 := bc HB.out hw211_3
        have HR211_3 := am hi211_3
        have HC211_3 := am hl211_3
        clear hi211_3 hl211_3
        have p212 := pz x5_1
        have q212 := pl x5_1 (l1.length : Int)
        obtain ⟨ad212, A212_3, c212_3, e212, hw212_0, hw212_1, hw212_2, hw212_3, hl212_3, hi212_3⟩ := at_T52 HR1.out x5_1 (of_eq_true p212) (of_eq_true q212)
        obtain rfl : ad211 = ad212 := (by injection e212)
        have hx212_0 := bc HB.out hw212_0
        have hx212_1 := bc HB.out hw212_1
        have hx212_2 := bc HB.out hw212_2
        have hx212_3 := bc HB.out hw212_3
        have HR212_3 := am hi212_3
        have HC212_3 := am hl212_3
        clear hi212_3 hl212_3
        have ea_ := Option.some.inj (hx211_3.symm.trans hx212_3)
        injection ea_ with ea_ en_ ec_
        subst ea_
        subst ec_
        clear en_
        have p213 := pz x5_1
        have q213 := pl x5_1 (l1.length : Int)
        obtain ⟨ad213, A213_3, c213_3, e213, hw213_0, hw213_1, hw213_2, hw213_3, hl213_3, hi213_3⟩ := at_T52 HR1.out x5_1 (of_eq_true p213) (of_eq_true q213)
        obtain rfl : ad211 = ad213 := (by injection e213)
        have hx213_0 := bc HB.out hw213_0
        have hx213_1 := bc HB.out hw213_1
        have hx213_2 := bc HB.out hw213_2
        have hx213_3 := bc HB.out hw213_3
        have HR213_3 := am hi213_3
        have HC213_3 := am hl213_3
        clear hi213_3 hl213_3
        have ea_ := Option.some.inj (hx211_3.symm.trans hx213_3)
        injection ea_ with ea_ en_ ec_
        subst ea_
        subst ec_
        clear en_
        have p214 := pz x5_1
        have q214 := pl x5_1 (l1.length : Int)
        obtain ⟨ad214, A214_3, c214_3, e214, hw214_0, hw214_1, hw214_2, hw214_3, hl214_3, hi214_3⟩ := at_T52 HR1.out x5_1 (of_eq_true p214) (of_eq_true q214)
        obtain rfl : ad211 = ad214 := (by injection e214)
        have hx214_0 := bc HB.out hw214_0
        have hx214_1 := bc HB.out hw214_1
        have hx214_2 := bc HB.out hw214_2
        have hx214_3 := bc HB.out hw214_3
        have HR214_3 := am hi214_3
        have HC214_3 := am hl214_3
        clear hi214_3 hl214_3
        have ea_ := Option.some.inj (hx211_3.symm.trans hx214_3)
        injection ea_ with ea_ en_ ec_
        subst ea_
        subst ec_
        clear en_
        refine start_ (n := 23) (S := fun w' => w'.cell? (ad211.add ((x5_1).toNat * 4)) = some (.int .i64 ((rd_T52 l1 x5_1).f0)) ∧ w'.cell? ⟨(ad211.add ((x5_1).toNat * 4)).block, (ad211.add ((x5_1).toNat * 4)).off + 1, none⟩ = some (.int .i64 ((rd_T52 l1 x5_1).f1)) ∧ w'.cell? ⟨(ad211.add ((x5_1).toNat * 4)).block, (ad211.add ((x5_1).toNat * 4)).off + 2, none⟩ = some (.string ((rd_T52 l1 x5_1).f2)) ∧ w'.cell? ⟨(ad211.add ((x5_1).toNat * 4)).block, (ad211.add ((x5_1).toNat * 4)).off + 3, none⟩ = some (.slice A211_3 ((rd_T52 l1 x5_1).f3).length c211_3)) (ds := []) #[false, false, false, false, false, false, false, false, false, false, false, false, false, false, false, false, false, false, false, false, false, false, false] (by kernel_rfl) rfl rfl ⟨(bc HB.out hw211_0), (bc HB.out hw211_1), (bc HB.out hw211_2), (bc HB.out hw211_3)⟩ (fun hHeld => ?_); refine with_tabW stowageref14_Same.tab7 stowageref14_Same.bits7 (fun HT_ HW_ => ?_)
        generalize w35.drew = w36 at BK210 HB HR211_3 HR212_3 HR213_3 HR214_3 hx211_0 hx211_1 hx211_2 hx211_3 hx212_0 hx212_1 hx212_2 hx212_3 hx213_0 hx213_1 hx213_2 hx213_3 hx214_0 hx214_1 hx214_2 hx214_3 hHeld ⊢
        refine pu 0 (some 40) HT_.out ?_
        refine pu 1 (some 41) HT_.out ?_
        refine pu 2 (some 42) HT_.out ?_
        refine pu 3 (some 43) HT_.out ?_
        refine pu 5 (some 45) HT_.out ?_
        refine pu 6 (some 46) HT_.out ?_
        refine pu 7 (some 47) HT_.out ?_
        refine pu 8 (some 48) HT_.out ?_
        refine pu 10 (some 50) HT_.out ?_
        refine pu 11 (some 51) HT_.out ?_
        refine pu 12 (some 52) HT_.out ?_
        refine pu 13 (some 53) HT_.out ?_
        refine pu 15 (some 55) HT_.out ?_
        refine pu 16 (some 56) HT_.out ?_
        refine pu 17 (some 57) HT_.out ?_
        refine pu 18 (some 58) HT_.out ?_
        refine tk 4 (some 44) HT_.out HW_.out hHeld ?_
        refine tk 9 (some 49) HT_.out HW_.out hHeld ?_
        refine tk 14 (some 54) HT_.out HW_.out hHeld ?_
        refine tk 19 (some 59) HT_.out HW_.out hHeld ?_
        refine pu 20 (some 60) HT_.out ?_
        refine one_ (i := 21) (N := some 7) #[true, true, true, true, true, true, true, true, true, true, true, true, true, true, true, true, true, true, true, true, true, true, false] rfl rfl (one_of HT_.out (by kernel_rfl)) (by decide) (fun K hK => ?_)
        refine box_step ?hg (N := 7) ?hd (cs := #[.int .i64 0, .bool false, .int .i64 0, .string (⟨#[]⟩ : ByteArray), .slice none 0 0]) (t := 32) ?hr ?_; (case hd => rfl); (case hg => rfl); (case hr => first | (go_simp; done) | (go_simp; rfl))
        intro gb215 hg w37 hbox hb
        have n0_ := bb BK210.out hb
        have n1_ := am (below_step (bws HB.out) hb)
        have n2_ := am (hbox)
        have n3_ := gsz hg HB.out
        have n4_ := gsz hg HB.out
        have n5_ := nlt (g := gb210) hg BK210.out
        have n6_ := ngt (g := gb210) hg BK210.out
        clear BK210
        clear HB
        have BK210 := n0_
        have HB := n1_
        have BK215 := n2_
        have GW215 := n3_
        have GE215 := n4_
        have NB210_215 := n5_
        have NB215_210 := n6_
        clear n0_ n1_ n2_ n3_ n4_ n5_ n6_
        clear hb hbox hg
        refine hK.out _ _ ⟨(bc HB.out hw211_0), (bc HB.out hw211_1), (bc HB.out hw211_2), (bc HB.out hw211_3)⟩ (fun hHeld => ?_)
        clear hK K
        refine norm_ (a' := ?_) ?_ ?_
        rotate_left
        ·
         show Act.put _ (some 7) _ = _
         simp only [Act.put, List.setIfInBounds_toArray, List.set_cons_zero, List.set_cons_succ, i64_w, i32_w]
         rfl
        refine one_ (i := 22) (N := none) #[true, true, true, true, true, true, true, true, true, true, true, true, true, true, true, true, true, true, true, true, true, true, true] rfl rfl (one_of HT_.out (by kernel_rfl)) (by decide) (fun K hK => ?_)
        have hs38 : w37.cell? ⟨gb215, 0, none⟩ = some (.int .i64 0) := (blk_cell BK215.out 0).trans rfl
        have hfs38 := blk_frozen BK215.out 0
        have hns38_0 := NB210_215.out
        have hms38_0 := NB215_210.out
        have hs39 : w37.cell? ⟨gb215, 1, none⟩ = some (.bool false) := (blk_cell BK215.out 1).trans rfl
        have hfs39 := blk_frozen BK215.out 1
        have hns39_0 := NB210_215.out
        have hms39_0 := NB215_210.out
        have hs40 : w37.cell? ⟨gb215, 2, none⟩ = some (.int .i64 0) := (blk_cell BK215.out 2).trans rfl
        have hfs40 := blk_frozen BK215.out 2
        have hns40_0 := NB210_215.out
        have hms40_0 := NB215_210.out
        have hs41 : w37.cell? ⟨gb215, 3, none⟩ = some (.string (⟨#[]⟩ : ByteArray)) := (blk_cell BK215.out 3).trans rfl
        have hfs41 := blk_frozen BK215.out 3
        have hns41_0 := NB210_215.out
        have hms41_0 := NB215_210.out
        have hs42 : w37.cell? ⟨gb215, 4, none⟩ = some (.slice none 0 0) := (blk_cell BK215.out 4).trans rfl
        have hfs42 := blk_frozen BK215.out 4
        have hns42_0 := NB210_215.out
        have hms42_0 := NB215_210.out
        refine skip_ (w1 := ?_) (by rfl) rfl ?_ ?_
        rotate_left
        ·
         go_simp
         rfl
        refine hK.out _ _ ⟨(cf hw211_0 GW215.out hHeld.1), (cf hw211_1 GW215.out hHeld.2.1), (cf hw211_2 GW215.out hHeld.2.2.1), (cf hw211_3 GW215.out hHeld.2.2.2)⟩ (fun hHeld => ?_)
        clear hK K
        refine done_ (done_of HT_.out (by kernel_rfl)) ?_
        have hnb43 := NB210_215.out
        have hnc43 := NB215_210.out
        obtain ⟨hcz44_0, hcz44_1, hcz44_2, hcz44_3, hcz44_4, hfz44_0, hfz44_1, hfz44_2, hfz44_3, hfz44_4⟩ := cz5 BK210.out
        obtain ⟨hcz45_0, hcz45_1, hcz45_2, hcz45_3, hcz45_4, hfz45_0, hfz45_1, hfz45_2, hfz45_3, hfz45_4⟩ := cz5 BK215.out
        try go_wp2_with (first | ((with_reducible refine gate_callee (f := 14) rfl ?_); refine goesL_ (some 63) rfl rfl Tryd.func14 (by kernel_rfl) rfl #[.agg #[.int .i64 ((rd_T52 l0 x5_1).f0), .bool false, .int .i64 ((rd_T52 l0 x5_1).f1), .string ((rd_T52 l0 x5_1).f2), .slice A206_3 ((rd_T52 l0 x5_1).f3).length c206_3], .agg #[.int .i64 ((rd_T52 l1 x5_1).f0), .bool false, .int .i64 ((rd_T52 l1 x5_1).f1), .string ((rd_T52 l1 x5_1).f2), .slice A211_3 ((rd_T52 l1 x5_1).f3).length c211_3]] rfl gl ?_; (with_reducible refine (stowageref13_Same.calls k1 ((rd_T52 l0 x5_1).f0) false ((rd_T52 l0 x5_1).f1) ((rd_T52 l0 x5_1).f2) _ _ ((rd_T52 l0 x5_1).f3) ((rd_T52 l1 x5_1).f0) false ((rd_T52 l1 x5_1).f1) ((rd_T52 l1 x5_1).f2) _ _ ((rd_T52 l1 x5_1).f3) false _ ?side1 ?side2 ?side3 ?side4 A7.out).mono ?_); (case side1 => exact Kd.C_below HR209_3.out (bws HB.out)); (case side2 => exact HC209_3.out); (case side3 => exact Kd.C_below HR214_3.out (bws HB.out)); (case side4 => exact HC214_3.out); rintro e w46 ⟨rfl, hb⟩; refine ⟨_, rfl, ?_⟩; replace BK210 := am (blk_below (g := gb210) (o := .cells #[.int .i64 ((rd_T52 l0 x5_1).f0), .bool false, .int .i64 ((rd_T52 l0 x5_1).f1), .string ((rd_T52 l0 x5_1).f2), .slice A206_3 ((rd_T52 l0 x5_1).f3).length c206_3] 32 (0, 0)) (bkf BK210.out) hb); replace BK215 := am (blk_below (g := gb215) (o := .cells #[.int .i64 ((rd_T52 l1 x5_1).f0), .bool false, .int .i64 ((rd_T52 l1 x5_1).f1), .string ((rd_T52 l1 x5_1).f2), .slice A211_3 ((rd_T52 l1 x5_1).f3).length c211_3] 32 (0, 0)) (bkp BK215.out) hb); replace HB := am (below_step (bws HB.out) hb); (try clear hb)))
        go_ret
        exact ⟨rf, bws HB.out⟩
      ·
       exact absurd H (by simp)
     ·
      exact absurd H (by simp)
    ·
     obtain rfl := Option.some.inj H
     go_wp2
     go_ret
     exact ⟨rf, bw HB.out⟩
 ·
  rw [if_neg c3] at H
  have c3b0 := beq_eq_false_iff_ne.mpr c3
  have c3b1 := bne_iff_ne.mpr c3
  have c3b2 : (l0.length == l1.length) = false := by first | simpa using c3 | (simp at c3 ⊢; omega)
  obtain rfl := Option.some.inj H
  go_enter Tryd.func17, Tryd.ntmps17
  go_wp2
  go_ret
  exact ⟨rf, bw HB.out⟩
mutual
def stowageref03_Unhex.l0 : Nat → ByteArray → List Int → Int → Int → Option (ByteArray × Int)
 | 0, _, _, _, _ => none
 | k + 1, x0, x4, x5, x6 => if x6 < (x0.size : Int) then (if 0 ≤ x6 then (if (bt x0 x6) ≥ 48 then (stowageref03_Unhex.j1 k x0 x4 x5 x6 (-1) (decide ((bt x0 x6) ≤ 57))) else (stowageref03_Unhex.j1 k x0 x4 x5 x6 (-1) false)) else (none)) else (some (strOfNums x4, 0))
def stowageref03_Unhex.j1 : Nat → ByteArray → List Int → Int → Int → Int → Bool → Option (ByteArray × Int)
 | 0, _, _, _, _, _, _ => none
 | k + 1, x0, x4, x5, x6, x7, x27 => if x27 = true then (if 0 ≤ x6 then (if x6 < (x0.size : Int) then (stowageref03_Unhex.j2 k x0 x4 x5 x6 (wrap64 ((wrap64 (bt x0 x6)) - 48))) else (none)) else (none)) else (stowageref03_Unhex.j2 k x0 x4 x5 x6 x7)
def stowageref03_Unhex.j2 : Nat → ByteArray → List Int → Int → Int → Int → Option (ByteArray × Int)
 | 0, _, _, _, _, _ => none
 | k + 1, x0, x4, x5, x6, x7 => if 0 ≤ x6 then (if x6 < (x0.size : Int) then (if (bt x0 x6) ≥ 97 then (stowageref03_Unhex.j3 k x0 x4 x5 x6 x7 (decide ((bt x0 x6) ≤ 102))) else (stowageref03_Unhex.j3 k x0 x4 x5 x6 x7 false)) else (none)) else (none)
def stowageref03_Unhex.j3 : Nat → ByteArray → List Int → Int → Int → Int → Bool → Option (ByteArray × Int)
 | 0, _, _, _, _, _, _ => none
 | k + 1, x0, x4, x5, x6, x7, x42 => if x42 = true then (if 0 ≤ x6 then (if x6 < (x0.size : Int) then (stowageref03_Unhex.j4 k x0 x4 x5 x6 (wrap64 ((wrap64 (bt x0 x6)) - 87))) else (none)) else (none)) else (stowageref03_Unhex.j4 k x0 x4 x5 x6 x7)
def stowageref03_Unhex.j4 : Nat → ByteArray → List Int → Int → Int → Int → Option (ByteArray × Int)
 | 0, _, _, _, _, _ => none
 | k + 1, x0, x4, x5, x6, x7 => if x7 < 0 then (some ((⟨#[]⟩ : ByteArray), 3)) else (if (Int.tmod x6 2) = 1 then (if x4.length < 140737488355328 then (stowageref03_Unhex.l0 k x0 (x4 ++ [(wrap64 ((wrap64 ((Int.tmod x5 16) * 16)) + x7)) % 256]) (wrap64 ((wrap64 ((Int.tmod x5 16) * 16)) + x7)) (wrap64 (x6 + 1))) else (none)) else (stowageref03_Unhex.l0 k x0 x4 (wrap64 ((wrap64 ((Int.tmod x5 16) * 16)) + x7)) (wrap64 (x6 + 1))))
end
def stowageref03_Unhex.f (k : Nat) (a0 : ByteArray) : Option (ByteArray × Int) := if ((a0.size : Int) % 2) = 0 then (stowageref03_Unhex.l0 k a0 ([] : List Int) 0 0) else (some ((⟨#[]⟩ : ByteArray), 3))
theorem stowageref03_Unhex.mono_l : ∀ k, (∀ y0 y1 y2 y3, LeO (stowageref03_Unhex.l0 k y0 y1 y2 y3) (stowageref03_Unhex.l0 (k + 1) y0 y1 y2 y3)) ∧ (∀ y0 y1 y2 y3 y4 y5, LeO (stowageref03_Unhex.j1 k y0 y1 y2 y3 y4 y5) (stowageref03_Unhex.j1 (k + 1) y0 y1 y2 y3 y4 y5)) ∧ (∀ y0 y1 y2 y3 y4, LeO (stowageref03_Unhex.j2 k y0 y1 y2 y3 y4) (stowageref03_Unhex.j2 (k + 1) y0 y1 y2 y3 y4)) ∧ (∀ y0 y1 y2 y3 y4 y5, LeO (stowageref03_Unhex.j3 k y0 y1 y2 y3 y4 y5) (stowageref03_Unhex.j3 (k + 1) y0 y1 y2 y3 y4 y5)) ∧ (∀ y0 y1 y2 y3 y4, LeO (stowageref03_Unhex.j4 k y0 y1 y2 y3 y4) (stowageref03_Unhex.j4 (k + 1) y0 y1 y2 y3 y4))
 | 0 => ⟨fun _ _ _ _ r h => by simp [stowageref03_Unhex.l0] at h, fun _ _ _ _ _ _ r h => by simp [stowageref03_Unhex.j1] at h, fun _ _ _ _ _ r h => by simp [stowageref03_Unhex.j2] at h, fun _ _ _ _ _ _ r h => by simp [stowageref03_Unhex.j3] at h, fun _ _ _ _ _ r h => by simp [stowageref03_Unhex.j4] at h⟩
 | k + 1 => by
  obtain ⟨ih0, ih1, ih2, ih3, ih4⟩ := stowageref03_Unhex.mono_l k
  refine ⟨?_, ?_, ?_, ?_, ?_⟩
  all_goals intros
  all_goals first | unfold stowageref03_Unhex.l0 | unfold stowageref03_Unhex.j1 | unfold stowageref03_Unhex.j2 | unfold stowageref03_Unhex.j3 | unfold stowageref03_Unhex.j4
  all_goals repeat' (with_reducible first | exact ih0 _ _ _ _ | exact ih1 _ _ _ _ _ _ | exact ih2 _ _ _ _ _ | exact ih3 _ _ _ _ _ _ | exact ih4 _ _ _ _ _ | exact LeO.refl _ | exact LeO.none _ | refine LeO.ite ?_ ?_ | refine LeO.bind ?_ (fun _ => ?_))
theorem stowageref03_Unhex.mono : ∀ a0 k, LeO (stowageref03_Unhex.f k a0) (stowageref03_Unhex.f (k + 1) a0) := by
 intro a0 k
 obtain ⟨ih0, ih1, ih2, ih3, ih4⟩ := stowageref03_Unhex.mono_l k
 unfold stowageref03_Unhex.f
 repeat' (with_reducible first | exact ih0 _ _ _ _ | exact ih1 _ _ _ _ _ _ | exact ih2 _ _ _ _ _ | exact ih3 _ _ _ _ _ _ | exact ih4 _ _ _ _ _ | exact LeO.refl _ | exact LeO.none _ | refine LeO.ite ?_ ?_ | refine LeO.bind ?_ (fun _ => ?_))
set_option maxHeartbeats 8000000 in
set_option maxRecDepth 100000 in
theorem stowageref03_Unhex.calls (k : Nat) (a0 : ByteArray) (r1 : ByteArray) (r2 : Int) (w : World) (h : stowageref03_Unhex.f k a0 = some (r1, r2)) :
  Calls Tryd.prog 70 #[.string a0] w fun e w' => e = .returned (.tuple #[.string r1, .int .i64 r2]) ∧ Below w.heap.size w w' := by
 have HB := am (Below.refl w.heap.size w)
 have H := h
 clear h
 unfold stowageref03_Unhex.f at H
 by_cases c2 : ((a0.size : Int) % 2) = 0
 ·
  rw [if_pos c2] at H
  have c2b0 := beq_iff_eq.mpr c2
  have c2b1 := bne_eq_false_iff_eq.mpr c2
  clear c2
  have H' := am H
  clear H
  go_enter Tryd.func70, Tryd.ntmps70
  go_wp2
  go_loopg [4, 5, 6] k (fun kq v4 v5 v6 w' => ∃ (x4_1 : List Int) (x5_1 : Int) (x6_1 : Int), v5 = .int .i64 x5_1 ∧ v6 = .int .i64 x6_1 ∧ Aside0 (stowageref03_Unhex.l0 kq a0 x4_1 x5_1 x6_1 = some (r1, r2)) ∧ Aside0 (kq ≤ k) ∧ Aside0 (Kd.R (Kd.int .u8) 5 w' w.heap.size (fun _ => True) v4 x4_1) ∧ Aside0 (Below w.heap.size w w'))
  case atStart => exact ⟨(([] : List Int)), (0), (0), rs, rs, H', ⟨Nat.le_refl _⟩, ⟨niR⟩, ⟨bw HB.out⟩⟩
  case round =>
   clear H'
   try clear c2
   try clear c2b0
   try clear c2b1
   obtain ⟨x4_1, x5_1, x6_1, rfl, rfl, HA, HK1, HO_4, HB⟩ := hrel
   cases gk with
   | zero => exact absurd HA.out (by simp [stowageref03_Unhex.l0])
   | succ k1 =>
    have H := HA.out
    clear HA
    simp only [stowageref03_Unhex.l0] at H
    replace H := iteD H
    rcases H with ⟨c3b0, H⟩ | ⟨c3b0, H⟩
    ·
     have HC4 := am H
     clear H
     go_upto_region 9 with (fail)
     go_cut [27] (fun v27 wc => ∃ (kq : Nat) (x27_3 : Bool), v27 = .bool x27_3 ∧ Aside0 (stowageref03_Unhex.j1 kq a0 x4_1 x5_1 x6_1 (-1) x27_3 = some (r1, r2)) ∧ Aside0 (kq ≤ k1) ∧ Aside0 (Kd.R (Kd.int .u8) 5 wc w.heap.size (fun _ => True) u4 x4_1) ∧ Aside0 (Below w.heap.size w wc))
     case first =>
      have H := HC4.out
      clear HC4
      replace H := iteD H
      rcases H with ⟨c5b0, H⟩ | ⟨_, H⟩
      ·
       (first | rw [c5b0] | (simp only [i64_w, i32_w]; rw [c5b0]) | skip)
       replace H := iteD H
       rcases H with ⟨c7b0, H⟩ | ⟨c7b0, H⟩
       ·
        have H' := am H
        clear H
        have p6 := pz x6_1
        have q6 := pl x6_1 (a0.size : Int)
        have hx6 := bt_at a0 x6_1
        have p8 := pz x6_1
        have q8 := pl x6_1 (a0.size : Int)
        have hx8 := bt_at a0 x6_1
        go_wp2
        go_meet
        case rel => exact ⟨_, (decide ((bt a0 x6_1) ≤ 57)), rs, H', ⟨by have := HK1.out; first | omega | exact Nat.le_refl _⟩, ⟨kR HO_4.out⟩, ⟨bw HB.out⟩⟩
       ·
        have H' := am H
        clear H
        have p6 := pz x6_1
        have q6 := pl x6_1 (a0.size : Int)
        have hx6 := bt_at a0 x6_1
        go_wp2
        go_meet
        case rel => exact ⟨_, (false), rs, H', ⟨by have := HK1.out; first | omega | exact Nat.le_refl _⟩, ⟨kR HO_4.out⟩, ⟨bw HB.out⟩⟩
      ·
       exact absurd H (by simp)
     case rest =>
      clear HC4
      try clear c2
      try clear c2b0
      try clear c2b1
      try clear c3b0
      obtain ⟨kq, x27_3, rfl, HA, HJ3, HO_4, HB⟩ := hcut
      cases kq with
      | zero => exact absurd HA.out (by simp [stowageref03_Unhex.j1])
      | succ kj3 =>
       have H := HA.out
       clear HA
       simp only [stowageref03_Unhex.j1] at H
       have HC9 := am H
       clear H
       go_upto_if 27 with (fail)
       go_cut [7] (fun v7 wc => ∃ (kq : Nat) (x7_8 : Int), v7 = .int .i64 x7_8 ∧ Aside0 (stowageref03_Unhex.j2 kq a0 x4_1 x5_1 x6_1 x7_8 = some (r1, r2)) ∧ Aside0 (kq ≤ kj3) ∧ Aside0 (Kd.R (Kd.int .u8) 5 wc w.heap.size (fun _ => True) u4 x4_1) ∧ Aside0 (Below w.heap.size w wc))
       case first =>
        have H := HC9.out
        clear HC9
        by_cases c10 : x27_3 = true
        ·
         subst c10
         rw [if_pos rfl] at H
         replace H := iteD H
         rcases H with ⟨c11b0, H⟩ | ⟨_, H⟩
         ·
          (first | rw [c11b0] | (simp only [i64_w, i32_w]; rw [c11b0]) | skip)
          replace H := iteD H
          rcases H with ⟨c12b0, H⟩ | ⟨_, H⟩
          ·
           have H' := am H
           clear H
           have p13 := pz x6_1
           have q13 := pl x6_1 (a0.size : Int)
           have hx13 := bt_at a0 x6_1
           go_wp2
           go_meet
           case rel => exact ⟨_, (wrap64 ((wrap64 (bt a0 x6_1)) - 48)), rs, H', ⟨by have := HK1.out; have := HJ3.out; first | omega | exact Nat.le_refl _⟩, ⟨kR HO_4.out⟩, ⟨bw HB.out⟩⟩
          ·
           exact absurd H (by simp)
         ·
          exact absurd H (by simp)
        ·
         replace c10 := Bool.eq_false_iff.mpr c10
         subst c10
         rw [if_neg (show ¬ (false = true) by decide)] at H
         have H' := am H
         clear H
         go_wp2
         go_meet
         case rel => exact ⟨_, ((-1)), rs, H', ⟨by have := HK1.out; have := HJ3.out; first | omega | exact Nat.le_refl _⟩, ⟨kR HO_4.out⟩, ⟨bw HB.out⟩⟩
       case rest =>
        clear HC9
        try clear c2
        try clear c2b0
        try clear c2b1
        try clear c3b0
        obtain ⟨kq, x7_8, rfl, HA, HJ8, HO_4, HB⟩ := hcut
        cases kq with
        | zero => exact absurd HA.out (by simp [stowageref03_Unhex.j2])
        | succ kj8 =>
         have H := HA.out
         clear HA
         simp only [stowageref03_Unhex.j2] at H
         have HC14 := am H
         clear H
         go_upto_region 11 with (fail)
         go_cut [42] (fun v42 wc => ∃ (kq : Nat) (x42_13 : Bool), v42 = .bool x42_13 ∧ Aside0 (stowageref03_Unhex.j3 kq a0 x4_1 x5_1 x6_1 x7_8 x42_13 = some (r1, r2)) ∧ Aside0 (kq ≤ kj8) ∧ Aside0 (Kd.R (Kd.int .u8) 5 wc w.heap.size (fun _ => True) u4 x4_1) ∧ Aside0 (Below w.heap.size w wc))
         case first =>
          have H := HC14.out
          clear HC14
          replace H := iteD H
          rcases H with ⟨c15b0, H⟩ | ⟨_, H⟩
          ·
           (first | rw [c15b0] | (simp only [i64_w, i32_w]; rw [c15b0]) | skip)
           replace H := iteD H
           rcases H with ⟨c16b0, H⟩ | ⟨_, H⟩
           ·
            replace H := iteD H
            rcases H with ⟨c18b0, H⟩ | ⟨c18b0, H⟩
            ·
             have H' := am H
             clear H
             have p17 := pz x6_1
             have q17 := pl x6_1 (a0.size : Int)
             have hx17 := bt_at a0 x6_1
             have p19 := pz x6_1
             have q19 := pl x6_1 (a0.size : Int)
             have hx19 := bt_at a0 x6_1
             go_wp2
             go_meet
             case rel => exact ⟨_, (decide ((bt a0 x6_1) ≤ 102)), rs, H', ⟨by have := HK1.out; have := HJ3.out; have := HJ8.out; first | omega | exact Nat.le_refl _⟩, ⟨kR HO_4.out⟩, ⟨bw HB.out⟩⟩
            ·
             have H' := am H
             clear H
             have p17 := pz x6_1
             have q17 := pl x6_1 (a0.size : Int)
             have hx17 := bt_at a0 x6_1
             go_wp2
             go_meet
             case rel => exact ⟨_, (false), rs, H', ⟨by have := HK1.out; have := HJ3.out; have := HJ8.out; first | omega | exact Nat.le_refl _⟩, ⟨kR HO_4.out⟩, ⟨bw HB.out⟩⟩
           ·
            exact absurd H (by simp)
          ·
           exact absurd H (by simp)
         case rest =>
          clear HC14
          try clear c2
          try clear c2b0
          try clear c2b1
          try clear c3b0
          obtain ⟨kq, x42_13, rfl, HA, HJ13, HO_4, HB⟩ := hcut
          cases kq with
          | zero => exact absurd HA.out (by simp [stowageref03_Unhex.j3])
          | succ kj13 =>
           have H := HA.out
           clear HA
           simp only [stowageref03_Unhex.j3] at H
           have HC20 := am H
           clear H
           go_upto_if 42 with (fail)
           go_cut [7] (fun v7 wc => ∃ (kq : Nat) (x7_19 : Int), v7 = .int .i64 x7_19 ∧ Aside0 (stowageref03_Unhex.j4 kq a0 x4_1 x5_1 x6_1 x7_19 = some (r1, r2)) ∧ Aside0 (kq ≤ kj13) ∧ Aside0 (Kd.R (Kd.int .u8) 5 wc w.heap.size (fun _ => True) u4 x4_1) ∧ Aside0 (Below w.heap.size w wc))
           case first =>
            have H := HC20.out
            clear HC20
            by_cases c21 : x42_13 = true
            ·
             subst c21
             rw [if_pos rfl] at H
             replace H := iteD H
             rcases H with ⟨c22b0, H⟩ | ⟨_, H⟩
             ·
              (first | rw [c22b0] | (simp only [i64_w, i32_w]; rw [c22b0]) | skip)
              replace H := iteD H
              rcases H with ⟨c23b0, H⟩ | ⟨_, H⟩
              ·
               have H' := am H
               clear H
               have p24 := pz x6_1
               have q24 := pl x6_1 (a0.size : Int)
               have hx24 := bt_at a0 x6_1
               go_wp2
               go_meet
               case rel => exact ⟨_, (wrap64 ((wrap64 (bt a0 x6_1)) - 87)), rs, H', ⟨by have := HK1.out; have := HJ3.out; have := HJ8.out; have := HJ13.out; first | omega | exact Nat.le_refl _⟩, ⟨kR HO_4.out⟩, ⟨bw HB.out⟩⟩
              ·
               exact absurd H (by simp)
             ·
              exact absurd H (by simp)
            ·
             replace c21 := Bool.eq_false_iff.mpr c21
             subst c21
             rw [if_neg (show ¬ (false = true) by decide)] at H
             have H' := am H
             clear H
             go_wp2
             go_meet
             case rel => exact ⟨_, (x7_8), rs, H', ⟨by have := HK1.out; have := HJ3.out; have := HJ8.out; have := HJ13.out; first | omega | exact Nat.le_refl _⟩, ⟨kR HO_4.out⟩, ⟨bw HB.out⟩⟩
           case rest =>
            clear HC20
            try clear c2
            try clear c2b0
            try clear c2b1
            try clear c3b0
            obtain ⟨kq, x7_19, rfl, HA, HJ19, HO_4, HB⟩ := hcut
            cases kq with
            | zero => exact absurd HA.out (by simp [stowageref03_Unhex.j4])
            | succ kj19 =>
             have H := HA.out
             clear HA
             simp only [stowageref03_Unhex.j4] at H
             replace H := iteD H
             rcases H with ⟨c25b0, H⟩ | ⟨c25b0, H⟩
             ·
              simp only [Option.some.injEq, Prod.mk.injEq] at H
              obtain ⟨rfl, rfl⟩ := H
              go_wp2
              go_ret2
              exact ⟨rf, bw HB.out⟩
             ·
              by_cases c26 : (Int.tmod x6_1 2) = 1
              ·
               rw [if_pos c26] at H
               have c26b0 := beq_iff_eq.mpr c26
               have c26b1 := bne_eq_false_iff_eq.mpr c26
               clear c26
               by_cases c27 : x4_1.length < 140737488355328
               ·
                rw [if_pos c27] at H
                have LMc27 := am c27
                clear c27
                obtain ⟨y217, hy217⟩ : ∃ y_ : List Int, y_ = (x4_1 ++ [(wrap64 ((wrap64 ((Int.tmod x5_1 16) * 16)) + x7_19)) % 256]) := ⟨_, rfl⟩
                replace H : (stowageref03_Unhex.l0 kj19 a0 y217 (wrap64 ((wrap64 ((Int.tmod x5_1 16) * 16)) + x7_19)) (wrap64 (x6_1 + 1))) = some (r1, r2) := by first | (rw [hy217]; with_reducible exact H) | (have H2_ := (Option.bind_some _ _).symm.trans H; rw [hy217]; with_reducible exact H2_) | (have H2_ := (Option.bind_some _ _).symm.trans H; with_reducible exact H2_) | with_reducible exact H | (rw [hy217]; exact H) | exact H
                have Ny217 := am hy217
                clear hy217
                have H' := am H
                clear H
                go_wp2_with (first | ((with_reducible refine gate_builtin (b := .append) (xs := #[.tmp 58, .tmp 61]) rfl ?_); at_builtin; refine Kd.R_append (Kd.int .u8) (w0 := w) w.heap.size rfl (.tmp 58) (.tmp 61) 113 5 (.int .u8 0) 1 rfl Tryd.underlying113 info5 rfl (by decide) (by omega) u4 x4_1 ((wrap64 ((wrap64 ((Int.tmod x5_1 16) * 16)) + x7_19)) % 256) [.int .u8 ((wrap64 ((wrap64 ((Int.tmod x5_1 16) * 16)) + x7_19)) % 256)] (fun _ => True) (fun _ => False) rfl rfl ?aP (fun _ hk => hk.elim) ?aF ?aO ?aB ?aS ?aL ?_; (case aP => exact rfl); (case aB => exact (bw HB.out)); (case aF => exact (fun _ _ => trivial)); (case aO => exact (kR HO_4.out)); (case aS => exact (below_size (bw HB.out))); (case aL => have := LMc27.out; omega); intro v218 w28 ho hb hg hat; rw [← Ny217.out] at ho; have n0_ := am (hb); have n1_ := am (ho); clear HB; clear HO_4; have HB := n0_; have HO219 := n1_; clear n0_ n1_; clear ho hb hg hat))
                go_roundg kj19
                case measure => have := HK1.out; have := HJ3.out; have := HJ8.out; have := HJ13.out; have := HJ19.out; omega
                case rel => exact ⟨(y217), (wrap64 ((wrap64 ((Int.tmod x5_1 16) * 16)) + x7_19)), (wrap64 (x6_1 + 1)), rs, rs, H', ⟨by have := HK1.out; have := HJ3.out; have := HJ8.out; have := HJ13.out; have := HJ19.out; omega⟩, ⟨kR HO219.out⟩, ⟨bw HB.out⟩⟩
               ·
                rw [if_neg c27] at H
                exact absurd H (by simp)
              ·
               rw [if_neg c26] at H
               have c26b0 := beq_eq_false_iff_ne.mpr c26
               have c26b1 := bne_iff_ne.mpr c26
               have H' := am H
               clear H
               go_wp2
               go_roundg kj19
               case measure => have := HK1.out; have := HJ3.out; have := HJ8.out; have := HJ13.out; have := HJ19.out; omega
               case rel => exact ⟨(x4_1), (wrap64 ((wrap64 ((Int.tmod x5_1 16) * 16)) + x7_19)), (wrap64 (x6_1 + 1)), rs, rs, H', ⟨by have := HK1.out; have := HJ3.out; have := HJ8.out; have := HJ13.out; have := HJ19.out; omega⟩, ⟨kR HO_4.out⟩, ⟨bw HB.out⟩⟩
    ·
     simp only [Option.some.injEq, Prod.mk.injEq] at H
     obtain ⟨rfl, rfl⟩ := H
     have hcv29 := own_string (P := Tryd.prog) Tryd.underlying113 Tryd.underlying5 Tryd.underlying9 (Kd.own_of_R HO_4.out)
     go_wp2
     go_ret2
     exact ⟨rf, bw HB.out⟩
 ·
  rw [if_neg c2] at H
  have c2b0 := beq_eq_false_iff_ne.mpr c2
  have c2b1 := bne_iff_ne.mpr c2
  simp only [Option.some.injEq, Prod.mk.injEq] at H
  obtain ⟨rfl, rfl⟩ := H
  go_enter Tryd.func70, Tryd.ntmps70
  go_wp2
  go_ret2
  exact ⟨rf, bw HB.out⟩
def stowageref06_May.f (k : Nat) (a0 : ByteArray) : Option (Bool) := (stowageref03_Unhex.f k a0).bind fun bt220 => (if bt220.2 = 0 then (some ((a0.size : Int) == 64)) else (some false))
theorem stowageref06_May.mono : ∀ a0 k, LeO (stowageref06_May.f k a0) (stowageref06_May.f (k + 1) a0) := by
 intro a0 k
 unfold stowageref06_May.f
 repeat' (with_reducible first | exact stowageref03_Unhex.mono _ _ | exact LeO.refl _ | exact LeO.none _ | refine LeO.ite ?_ ?_ | refine LeO.bind ?_ (fun _ => ?_))
set_option maxHeartbeats 8000000 in
set_option maxRecDepth 100000 in
theorem stowageref06_May.calls (k : Nat) (a0 : ByteArray) (r : Bool) (w : World) (h : stowageref06_May.f k a0 = some r) :
  Calls Tryd.prog 45 #[.string a0] w fun e w' => e = .returned (.bool r) ∧ Below w.heap.size w w' := by
 have HB := am (Below.refl w.heap.size w)
 have H := h
 clear h
 unfold stowageref06_May.f at H
 replace H := obE H
 obtain ⟨⟨t220, t221⟩, A2, H⟩ := H
 try dsimp only at H
 by_cases c3 : t221 = 0
 ·
  rw [if_pos c3] at H
  have c3b0 := beq_iff_eq.mpr c3
  have c3b1 := bne_eq_false_iff_eq.mpr c3
  clear c3
  obtain rfl := Option.some.inj H
  go_enter Tryd.func45, Tryd.ntmps45
  go_wp2_with (first | ((with_reducible refine gate_callee (f := 70) rfl ?_); refine goesL_ (some 7) rfl rfl Tryd.func70 (by kernel_rfl) rfl #[.string a0] rfl gl ?_; (with_reducible refine (stowageref03_Unhex.calls k a0 t220 t221 _ A2.out).mono ?_); rintro e w4 ⟨rfl, hb⟩; refine ⟨_, rfl, ?_⟩; replace HB := am (below_step (bw HB.out) hb); (try clear hb)))
  go_ret
  exact ⟨rf, bw HB.out⟩
 ·
  rw [if_neg c3] at H
  have c3b0 := beq_eq_false_iff_ne.mpr c3
  have c3b1 := bne_iff_ne.mpr c3
  obtain rfl := Option.some.inj H
  go_enter Tryd.func45, Tryd.ntmps45
  go_wp2_with (first | ((with_reducible refine gate_callee (f := 70) rfl ?_); refine goesL_ (some 7) rfl rfl Tryd.func70 (by kernel_rfl) rfl #[.string a0] rfl gl ?_; (with_reducible refine (stowageref03_Unhex.calls k a0 t220 t221 _ A2.out).mono ?_); rintro e w5 ⟨rfl, hb⟩; refine ⟨_, rfl, ?_⟩; replace HB := am (below_step (bw HB.out) hb); (try clear hb)))
  go_ret
  exact ⟨rf, bw HB.out⟩
def stowageref13_Pieces.l0 : Nat → List (S85) → Int → Int → Option (Int × Int)
 | 0, _, _, _ => none
 | k + 1, x0, x4, x5 => if x5 < (x0.length : Int) then (if 0 ≤ x5 then ((stowageref06_May.f k ((rd_T85 x0 x5).f0)).bind fun t223 => (if t223 = true then (if ((rd_T85 x0 x5).f1) < 1 then (some (0, 1)) else (if ((rd_T85 x0 x5).f1) > 4096 then (some (0, 1)) else (stowageref13_Pieces.l0 k x0 (wrap64 (x4 + ((rd_T85 x0 x5).f1))) (wrap64 (x5 + 1))))) else (some (0, 1)))) else (none)) else (if (x0.length : Int) > 512 then (some (0, 1)) else (some (x4, 0)))
def stowageref13_Pieces.f (k : Nat) (l0 : List (S85)) : Option (Int × Int) := stowageref13_Pieces.l0 k l0 0 0
theorem stowageref13_Pieces.mono_l : ∀ k, (∀ y0 y1 y2, LeO (stowageref13_Pieces.l0 k y0 y1 y2) (stowageref13_Pieces.l0 (k + 1) y0 y1 y2))
 | 0 => fun _ _ _ r h => by simp [stowageref13_Pieces.l0] at h
 | k + 1 => by
  have ih0 := stowageref13_Pieces.mono_l k
  ·
   intro y0 y1 y2
   unfold stowageref13_Pieces.l0
   repeat' (with_reducible first | exact ih0 _ _ _ | exact stowageref06_May.mono _ _ | exact LeO.refl _ | exact LeO.none _ | refine LeO.ite ?_ ?_ | refine LeO.bind ?_ (fun _ => ?_))
theorem stowageref13_Pieces.mono : ∀ a0 k, LeO (stowageref13_Pieces.f k a0) (stowageref13_Pieces.f (k + 1) a0) := by
 intro a0 k
 have ih0 := stowageref13_Pieces.mono_l k
 unfold stowageref13_Pieces.f
 repeat' (with_reducible first | exact ih0 _ _ _ | exact stowageref06_May.mono _ _ | exact LeO.refl _ | exact LeO.none _ | refine LeO.ite ?_ ?_ | refine LeO.bind ?_ (fun _ => ?_))
set_option maxHeartbeats 8000000 in
set_option maxRecDepth 100000 in
theorem stowageref13_Pieces.calls (k : Nat) (A0 : Option Addr) (c0 : Nat) (l0 : List (S85)) (r1 : Int) (r2 : Int) (w : World) (hr0 : Kd.C k85 w A0 l0.length l0) (hc0 : l0.length ≤ c0) (h : stowageref13_Pieces.f k l0 = some (r1, r2)) :
  Calls Tryd.prog 44 #[.slice A0 l0.length c0] w fun e w' => e = .returned (.tuple #[.int .i64 r1, .int .i64 r2]) ∧ Below w.heap.size w w' := by
 have HR0 := am hr0
 have HC0 := am hc0
 clear hr0 hc0
 have HB := am (Below.refl w.heap.size w)
 have H := h
 clear h
 unfold stowageref13_Pieces.f at H
 have H' := am H
 clear H
 go_enter Tryd.func44, Tryd.ntmps44
 go_wp2
 go_loopg [4, 5] k (fun kq v4 v5 w' => ∃ (x4_1 : Int) (x5_1 : Int), v4 = .int .i64 x4_1 ∧ v5 = .int .i64 x5_1 ∧ Aside0 (stowageref13_Pieces.l0 kq l0 x4_1 x5_1 = some (r1, r2)) ∧ Aside0 (kq ≤ k) ∧ Aside0 (Below w.heap.size w w'))
 case atStart => exact ⟨(0), (0), rs, rs, H', ⟨Nat.le_refl _⟩, ⟨bw HB.out⟩⟩
 case round =>
  clear H'
  obtain ⟨x4_1, x5_1, rfl, rfl, HA, HK1, HB⟩ := hrel
  cases gk with
  | zero => exact absurd HA.out (by simp [stowageref13_Pieces.l0])
  | succ k1 =>
   have H := HA.out
   clear HA
   simp only [stowageref13_Pieces.l0] at H
   replace H := iteD H
   rcases H with ⟨c2b0, H⟩ | ⟨c2b0, H⟩
   ·
    replace H := iteD H
    rcases H with ⟨c3b0, H⟩ | ⟨_, H⟩
    ·
     replace H := obE H
     obtain ⟨t223, A4, H⟩ := H
     by_cases c5 : t223 = true
     ·
      subst c5
      rw [if_pos rfl] at H
      replace H := iteD H
      rcases H with ⟨c6b0, H⟩ | ⟨c6b0, H⟩
      ·
       simp only [Option.some.injEq, Prod.mk.injEq] at H
       obtain ⟨rfl, rfl⟩ := H
       have p222 := pz x5_1
       have q222 := pl x5_1 (l0.length : Int)
       obtain ⟨ad222, e222, hx222_0, hx222_1⟩ := at_T85 HR0.out x5_1 (of_eq_true p222) (of_eq_true q222)
       cases e222
       replace hx222_0 := bc HB.out hx222_0
       replace hx222_1 := bc HB.out hx222_1
       go_wp2_with (first | ((with_reducible refine gate_callee (f := 45) rfl ?_); refine goesL_ (some 17) rfl rfl Tryd.func45 (by kernel_rfl) rfl #[.string ((rd_T85 l0 x5_1).f0)] rfl gl ?_; (with_reducible refine (stowageref06_May.calls k1 ((rd_T85 l0 x5_1).f0) true _ A4.out).mono ?_); rintro e w7 ⟨rfl, hb⟩; refine ⟨_, rfl, ?_⟩; replace HB := am (below_step (bw HB.out) hb); (try clear hb); have p224 : 0 ≤ (x5_1 : Int) := of_decide_eq_true asm; have q224 : x5_1 < (l0.length : Int) := of_decide_eq_true asm; obtain ⟨ad224, e224, hx224_0, hx224_1⟩ := at_T85 HR0.out x5_1 p224 q224; obtain rfl : ad222 = ad224 := (by injection e224); replace hx224_0 := bc HB.out hx224_0; replace hx224_1 := bc HB.out hx224_1; replace p224 := eq_true p224; replace q224 := eq_true q224))
       go_ret2
       exact ⟨rf, bw HB.out⟩
      ·
       replace H := iteD H
       rcases H with ⟨c8b0, H⟩ | ⟨c8b0, H⟩
       ·
        simp only [Option.some.injEq, Prod.mk.injEq] at H
        obtain ⟨rfl, rfl⟩ := H
        have p222 := pz x5_1
        have q222 := pl x5_1 (l0.length : Int)
        obtain ⟨ad222, e222, hx222_0, hx222_1⟩ := at_T85 HR0.out x5_1 (of_eq_true p222) (of_eq_true q222)
        cases e222
        replace hx222_0 := bc HB.out hx222_0
        replace hx222_1 := bc HB.out hx222_1
        go_wp2_with (first | ((with_reducible refine gate_callee (f := 45) rfl ?_); refine goesL_ (some 17) rfl rfl Tryd.func45 (by kernel_rfl) rfl #[.string ((rd_T85 l0 x5_1).f0)] rfl gl ?_; (with_reducible refine (stowageref06_May.calls k1 ((rd_T85 l0 x5_1).f0) true _ A4.out).mono ?_); rintro e w9 ⟨rfl, hb⟩; refine ⟨_, rfl, ?_⟩; replace HB := am (below_step (bw HB.out) hb); (try clear hb); have p224 : 0 ≤ (x5_1 : Int) := of_decide_eq_true asm; have q224 : x5_1 < (l0.length : Int) := of_decide_eq_true asm; obtain ⟨ad224, e224, hx224_0, hx224_1⟩ := at_T85 HR0.out x5_1 p224 q224; obtain rfl : ad222 = ad224 := (by injection e224); replace hx224_0 := bc HB.out hx224_0; replace hx224_1 := bc HB.out hx224_1; replace p224 := eq_true p224; replace q224 := eq_true q224; have p225 : 0 ≤ (x5_1 : Int) := of_decide_eq_true asm; have q225 : x5_1 < (l0.length : Int) := of_decide_eq_true asm; obtain ⟨ad225, e225, hx225_0, hx225_1⟩ := at_T85 HR0.out x5_1 p225 q225; obtain rfl : ad222 = ad225 := (by injection e225); replace hx225_0 := bc HB.out hx225_0; replace hx225_1 := bc HB.out hx225_1; replace p225 := eq_true p225; replace q225 := eq_true q225))
        go_ret2
        exact ⟨rf, bw HB.out⟩
       ·
        have H' := am H
        clear H
        have p222 := pz x5_1
        have q222 := pl x5_1 (l0.length : Int)
        obtain ⟨ad222, e222, hx222_0, hx222_1⟩ := at_T85 HR0.out x5_1 (of_eq_true p222) (of_eq_true q222)
        cases e222
        replace hx222_0 := bc HB.out hx222_0
        replace hx222_1 := bc HB.out hx222_1
        go_wp2_with (first | ((with_reducible refine gate_callee (f := 45) rfl ?_); refine goesL_ (some 17) rfl rfl Tryd.func45 (by kernel_rfl) rfl #[.string ((rd_T85 l0 x5_1).f0)] rfl gl ?_; (with_reducible refine (stowageref06_May.calls k1 ((rd_T85 l0 x5_1).f0) true _ A4.out).mono ?_); rintro e w10 ⟨rfl, hb⟩; refine ⟨_, rfl, ?_⟩; replace HB := am (below_step (bw HB.out) hb); (try clear hb); have p224 : 0 ≤ (x5_1 : Int) := of_decide_eq_true asm; have q224 : x5_1 < (l0.length : Int) := of_decide_eq_true asm; obtain ⟨ad224, e224, hx224_0, hx224_1⟩ := at_T85 HR0.out x5_1 p224 q224; obtain rfl : ad222 = ad224 := (by injection e224); replace hx224_0 := bc HB.out hx224_0; replace hx224_1 := bc HB.out hx224_1; replace p224 := eq_true p224; replace q224 := eq_true q224; have p225 : 0 ≤ (x5_1 : Int) := of_decide_eq_true asm; have q225 : x5_1 < (l0.length : Int) := of_decide_eq_true asm; obtain ⟨ad225, e225, hx225_0, hx225_1⟩ := at_T85 HR0.out x5_1 p225 q225; obtain rfl : ad222 = ad225 := (by injection e225); replace hx225_0 := bc HB.out hx225_0; replace hx225_1 := bc HB.out hx225_1; replace p225 := eq_true p225; replace q225 := eq_true q225; have p226 : 0 ≤ (x5_1 : Int) := of_decide_eq_true asm; have q226 : x5_1 < (l0.length : Int) := of_decide_eq_true asm; obtain ⟨ad226, e226, hx226_0, hx226_1⟩ := at_T85 HR0.out x5_1 p226 q226; obtain rfl : ad222 = ad226 := (by injection e226); replace hx226_0 := bc HB.out hx226_0; replace hx226_1 := bc HB.out hx226_1; replace p226 := eq_true p226; replace q226 := eq_true q226))
        go_roundg k1
        case measure => have := HK1.out; omega
        case rel => exact ⟨(wrap64 (x4_1 + ((rd_T85 l0 x5_1).f1))), (wrap64 (x5_1 + 1)), rs, rs, H', ⟨by have := HK1.out; omega⟩, ⟨bw HB.out⟩⟩
     ·
      replace c5 := Bool.eq_false_iff.mpr c5
      subst c5
      rw [if_neg (show ¬ (false = true) by decide)] at H
      simp only [Option.some.injEq, Prod.mk.injEq] at H
      obtain ⟨rfl, rfl⟩ := H
      have p222 := pz x5_1
      have q222 := pl x5_1 (l0.length : Int)
      obtain ⟨ad222, e222, hx222_0, hx222_1⟩ := at_T85 HR0.out x5_1 (of_eq_true p222) (of_eq_true q222)
      cases e222
      replace hx222_0 := bc HB.out hx222_0
      replace hx222_1 := bc HB.out hx222_1
      go_wp2_with (first | ((with_reducible refine gate_callee (f := 45) rfl ?_); refine goesL_ (some 17) rfl rfl Tryd.func45 (by kernel_rfl) rfl #[.string ((rd_T85 l0 x5_1).f0)] rfl gl ?_; (with_reducible refine (stowageref06_May.calls k1 ((rd_T85 l0 x5_1).f0) false _ A4.out).mono ?_); rintro e w11 ⟨rfl, hb⟩; refine ⟨_, rfl, ?_⟩; replace HB := am (below_step (bw HB.out) hb); (try clear hb)))
      go_ret2
      exact ⟨rf, bw HB.out⟩
    ·
     exact absurd H (by simp)
   ·
    by_cases c12 : (l0.length : Int) > 512
    ·
     rw [if_pos c12] at H
     have c12b0 := decide_eq_true c12
     have c12b1 : decide (512 < l0.length) = true := decide_eq_true (by omega)
     clear c12
     simp only [Option.some.injEq, Prod.mk.injEq] at H
     obtain ⟨rfl, rfl⟩ := H
     go_wp2
     go_ret2
     exact ⟨rf, bw HB.out⟩
    ·
     rw [if_neg c12] at H
     have c12b0 := decide_eq_false c12
     have c12b1 : decide (512 < l0.length) = false := decide_eq_false (by omega)
     clear c12
     simp only [Option.some.injEq, Prod.mk.injEq] at H
     obtain ⟨rfl, rfl⟩ := H
     go_wp2
     go_ret2
     exact ⟨rf, bw HB.out⟩
end Go.Proofs.YtoiockmmlanimaaDoor.Op
end
section
namespace Go.Proofs.YtoiockmmlanimaaDoor.Op
open Go.RowKit Go.Proofs.YtoiockmmlanimaaDoorW.PrintWords Go.Proofs.YtoiockmmlanimaaDoorW.PrintLast Go.Proofs.YtoiockmmlanimaaDoorW.PrintMore
attribute [local go_sem] max2_int min2_int max_two min_two max_three min_three max_four min_four
set_option linter.unusedVariables false
set_option linter.unusedSimpArgs false
def stowageref14_Check.f (k : Nat) (a0_0 : Int) (a0_1 : Int) (a0_2 : ByteArray) (l0_3 : List (S85)) : Option (Int) := (stowageref13_Pieces.f k l0_3).bind fun bt228 => (if a0_0 < 1 then (some 1) else (if a0_0 > 100 then (some 1) else (if bt228.2 = 0 then (if bt228.1 = a0_1 then ((stowageref06_May.f k a0_2).bind fun t230 => (if t230 = true then (some 0) else (some 1))) else (some 1)) else (some 1))))
theorem stowageref14_Check.mono : ∀ a0 a1 a2 a3 k, LeO (stowageref14_Check.f k a0 a1 a2 a3) (stowageref14_Check.f (k + 1) a0 a1 a2 a3) := by
 intro a0 a1 a2 a3 k
 unfold stowageref14_Check.f
 repeat' (with_reducible first | exact stowageref06_May.mono _ _ | exact stowageref13_Pieces.mono _ _ | exact LeO.refl _ | exact LeO.none _ | refine LeO.ite ?_ ?_ | refine LeO.bind ?_ (fun _ => ?_))
set_option maxHeartbeats 8000000 in
set_option maxRecDepth 100000 in
theorem stowageref14_Check.calls (k : Nat) (a0_0 : Int) (a0_1 : Int) (a0_2 : ByteArray) (A0_3 : Option Addr) (c0_3 : Nat) (l0_3 : List (S85)) (r : Int) (w : World) (hr0_3 : Kd.C k85 w A0_3 l0_3.length l0_3) (hc0_3 : l0_3.length ≤ c0_3) (h : stowageref14_Check.f k a0_0 a0_1 a0_2 l0_3 = some r) :
  Calls Tryd.prog 20 #[.agg #[.int .i64 a0_0, .int .i64 a0_1, .string a0_2, .slice A0_3 l0_3.length c0_3]] w fun e w' => e = .returned (.int .i64 r) ∧ Below w.heap.size w w' := by
 have hu52 := Tryd.underlying52
 have HR0_3 := am hr0_3
 have HC0_3 := am hc0_3
 clear hr0_3 hc0_3
 have HB := am (Below.refl w.heap.size w)
 have H := h
 clear h
 unfold stowageref14_Check.f at H
 replace H := obE H
 obtain ⟨⟨t228, t229⟩, A2, H⟩ := H
 try dsimp only at H
 replace H := iteD H
 rcases H with ⟨c3b0, H⟩ | ⟨c3b0, H⟩
 ·
  obtain rfl := Option.some.inj H
  go_enter Tryd.func20, Tryd.ntmps20
  go_wp2_with (first | ((with_reducible refine gate_dst (N := 1) rfl ?_); refine bx 1 #[.int .i64 a0_0, .int .i64 a0_1, .string a0_2, .slice A0_3 l0_3.length c0_3] 52 ?_; intro gb227 hg w4 hbox hb; have BK227 := am (hbox); have GW227 := gsz hg HB.out; have GE227 := gsz hg HB.out; replace HB := am (below_step (bw HB.out) hb); clear hb hbox hg; obtain ⟨hcz5_0, hcz5_1, hcz5_2, hcz5_3, hfz5_0, hfz5_1, hfz5_2, hfz5_3⟩ := cz4 BK227.out) | ((with_reducible refine gate_callee (f := 44) rfl ?_); refine goesL_ (some 8) rfl rfl Tryd.func44 (by kernel_rfl) rfl #[.slice A0_3 l0_3.length c0_3] rfl gl ?_; (with_reducible refine (stowageref13_Pieces.calls k _ _ l0_3 t228 t229 _ ?side1 ?side2 A2.out).mono ?_); (case side1 => exact kC (Kd.C_below HR0_3.out HB.out)); (case side2 => exact HC0_3.out); rintro e w6 ⟨rfl, hb⟩; refine ⟨_, rfl, ?_⟩; replace BK227 := bb BK227.out hb; replace HB := am (below_step (bws HB.out) hb); (try clear hb); obtain ⟨hcz7_0, hcz7_1, hcz7_2, hcz7_3, hfz7_0, hfz7_1, hfz7_2, hfz7_3⟩ := cz4 BK227.out))
  go_ret
  exact ⟨rf, bws HB.out⟩
 ·
  replace H := iteD H
  rcases H with ⟨c8b0, H⟩ | ⟨c8b0, H⟩
  ·
   obtain rfl := Option.some.inj H
   go_enter Tryd.func20, Tryd.ntmps20
   go_wp2_with (first | ((with_reducible refine gate_dst (N := 1) rfl ?_); refine bx 1 #[.int .i64 a0_0, .int .i64 a0_1, .string a0_2, .slice A0_3 l0_3.length c0_3] 52 ?_; intro gb227 hg w9 hbox hb; have BK227 := am (hbox); have GW227 := gsz hg HB.out; have GE227 := gsz hg HB.out; replace HB := am (below_step (bw HB.out) hb); clear hb hbox hg; obtain ⟨hcz10_0, hcz10_1, hcz10_2, hcz10_3, hfz10_0, hfz10_1, hfz10_2, hfz10_3⟩ := cz4 BK227.out) | ((with_reducible refine gate_callee (f := 44) rfl ?_); refine goesL_ (some 8) rfl rfl Tryd.func44 (by kernel_rfl) rfl #[.slice A0_3 l0_3.length c0_3] rfl gl ?_; (with_reducible refine (stowageref13_Pieces.calls k _ _ l0_3 t228 t229 _ ?side1 ?side2 A2.out).mono ?_); (case side1 => exact kC (Kd.C_below HR0_3.out HB.out)); (case side2 => exact HC0_3.out); rintro e w11 ⟨rfl, hb⟩; refine ⟨_, rfl, ?_⟩; replace BK227 := bb BK227.out hb; replace HB := am (below_step (bws HB.out) hb); (try clear hb); obtain ⟨hcz12_0, hcz12_1, hcz12_2, hcz12_3, hfz12_0, hfz12_1, hfz12_2, hfz12_3⟩ := cz4 BK227.out))
   go_ret
   exact ⟨rf, bws HB.out⟩
  ·
   by_cases c13 : t229 = 0
   ·
    rw [if_pos c13] at H
    have c13b0 := beq_iff_eq.mpr c13
    have c13b1 := bne_eq_false_iff_eq.mpr c13
    clear c13
    by_cases c14 : t228 = a0_1
    ·
     rw [if_pos c14] at H
     have c14b0 := beq_iff_eq.mpr c14
     have c14b1 := bne_eq_false_iff_eq.mpr c14
     clear c14
     replace H := obE H
     obtain ⟨t230, A15, H⟩ := H
     by_cases c16 : t230 = true
     ·
      subst c16
      rw [if_pos rfl] at H
      obtain rfl := Option.some.inj H
      go_enter Tryd.func20, Tryd.ntmps20
      go_wp2_with (first | ((with_reducible refine gate_dst (N := 1) rfl ?_); refine bx 1 #[.int .i64 a0_0, .int .i64 a0_1, .string a0_2, .slice A0_3 l0_3.length c0_3] 52 ?_; intro gb227 hg w17 hbox hb; have BK227 := am (hbox); have GW227 := gsz hg HB.out; have GE227 := gsz hg HB.out; replace HB := am (below_step (bw HB.out) hb); clear hb hbox hg; obtain ⟨hcz18_0, hcz18_1, hcz18_2, hcz18_3, hfz18_0, hfz18_1, hfz18_2, hfz18_3⟩ := cz4 BK227.out) | ((with_reducible refine gate_callee (f := 44) rfl ?_); refine goesL_ (some 8) rfl rfl Tryd.func44 (by kernel_rfl) rfl #[.slice A0_3 l0_3.length c0_3] rfl gl ?_; (with_reducible refine (stowageref13_Pieces.calls k _ _ l0_3 t228 t229 _ ?side1 ?side2 A2.out).mono ?_); (case side1 => exact kC (Kd.C_below HR0_3.out HB.out)); (case side2 => exact HC0_3.out); rintro e w19 ⟨rfl, hb⟩; refine ⟨_, rfl, ?_⟩; replace BK227 := bb BK227.out hb; replace HB := am (below_step (bws HB.out) hb); (try clear hb); obtain ⟨hcz20_0, hcz20_1, hcz20_2, hcz20_3, hfz20_0, hfz20_1, hfz20_2, hfz20_3⟩ := cz4 BK227.out) | (go_at_call 45; (with_reducible refine (stowageref06_May.calls k a0_2 true _ A15.out).mono ?_); rintro e w21 ⟨rfl, hb⟩; replace BK227 := bb BK227.out hb; replace HB := am (below_step (bws HB.out) hb); (try clear hb)))
      go_ret
      exact ⟨rf, bws HB.out⟩
     ·
      replace c16 := Bool.eq_false_iff.mpr c16
      subst c16
      rw [if_neg (show ¬ (false = true) by decide)] at H
      obtain rfl := Option.some.inj H
      go_enter Tryd.func20, Tryd.ntmps20
      go_wp2_with (first | ((with_reducible refine gate_dst (N := 1) rfl ?_); refine bx 1 #[.int .i64 a0_0, .int .i64 a0_1, .string a0_2, .slice A0_3 l0_3.length c0_3] 52 ?_; intro gb227 hg w22 hbox hb; have BK227 := am (hbox); have GW227 := gsz hg HB.out; have GE227 := gsz hg HB.out; replace HB := am (below_step (bw HB.out) hb); clear hb hbox hg; obtain ⟨hcz23_0, hcz23_1, hcz23_2, hcz23_3, hfz23_0, hfz23_1, hfz23_2, hfz23_3⟩ := cz4 BK227.out) | ((with_reducible refine gate_callee (f := 44) rfl ?_); refine goesL_ (some 8) rfl rfl Tryd.func44 (by kernel_rfl) rfl #[.slice A0_3 l0_3.length c0_3] rfl gl ?_; (with_reducible refine (stowageref13_Pieces.calls k _ _ l0_3 t228 t229 _ ?side1 ?side2 A2.out).mono ?_); (case side1 => exact kC (Kd.C_below HR0_3.out HB.out)); (case side2 => exact HC0_3.out); rintro e w24 ⟨rfl, hb⟩; refine ⟨_, rfl, ?_⟩; replace BK227 := bb BK227.out hb; replace HB := am (below_step (bws HB.out) hb); (try clear hb); obtain ⟨hcz25_0, hcz25_1, hcz25_2, hcz25_3, hfz25_0, hfz25_1, hfz25_2, hfz25_3⟩ := cz4 BK227.out) | (go_at_call 45; (with_reducible refine (stowageref06_May.calls k a0_2 false _ A15.out).mono ?_); rintro e w26 ⟨rfl, hb⟩; replace BK227 := bb BK227.out hb; replace HB := am (below_step (bws HB.out) hb); (try clear hb)))
      go_ret
      exact ⟨rf, bws HB.out⟩
    ·
     rw [if_neg c14] at H
     have c14b0 := beq_eq_false_iff_ne.mpr c14
     have c14b1 := bne_iff_ne.mpr c14
     obtain rfl := Option.some.inj H
     go_enter Tryd.func20, Tryd.ntmps20
     go_wp2_with (first | ((with_reducible refine gate_dst (N := 1) rfl ?_); refine bx 1 #[.int .i64 a0_0, .int .i64 a0_1, .string a0_2, .slice A0_3 l0_3.length c0_3] 52 ?_; intro gb227 hg w27 hbox hb; have BK227 := am (hbox); have GW227 := gsz hg HB.out; have GE227 := gsz hg HB.out; replace HB := am (below_step (bw HB.out) hb); clear hb hbox hg; obtain ⟨hcz28_0, hcz28_1, hcz28_2, hcz28_3, hfz28_0, hfz28_1, hfz28_2, hfz28_3⟩ := cz4 BK227.out) | ((with_reducible refine gate_callee (f := 44) rfl ?_); refine goesL_ (some 8) rfl rfl Tryd.func44 (by kernel_rfl) rfl #[.slice A0_3 l0_3.length c0_3] rfl gl ?_; (with_reducible refine (stowageref13_Pieces.calls k _ _ l0_3 t228 t229 _ ?side1 ?side2 A2.out).mono ?_); (case side1 => exact kC (Kd.C_below HR0_3.out HB.out)); (case side2 => exact HC0_3.out); rintro e w29 ⟨rfl, hb⟩; refine ⟨_, rfl, ?_⟩; replace BK227 := bb BK227.out hb; replace HB := am (below_step (bws HB.out) hb); (try clear hb); obtain ⟨hcz30_0, hcz30_1, hcz30_2, hcz30_3, hfz30_0, hfz30_1, hfz30_2, hfz30_3⟩ := cz4 BK227.out))
     go_ret
     exact ⟨rf, bws HB.out⟩
   ·
    rw [if_neg c13] at H
    have c13b0 := beq_eq_false_iff_ne.mpr c13
    have c13b1 := bne_iff_ne.mpr c13
    obtain rfl := Option.some.inj H
    go_enter Tryd.func20, Tryd.ntmps20
    go_wp2_with (first | ((with_reducible refine gate_dst (N := 1) rfl ?_); refine bx 1 #[.int .i64 a0_0, .int .i64 a0_1, .string a0_2, .slice A0_3 l0_3.length c0_3] 52 ?_; intro gb227 hg w31 hbox hb; have BK227 := am (hbox); have GW227 := gsz hg HB.out; have GE227 := gsz hg HB.out; replace HB := am (below_step (bw HB.out) hb); clear hb hbox hg; obtain ⟨hcz32_0, hcz32_1, hcz32_2, hcz32_3, hfz32_0, hfz32_1, hfz32_2, hfz32_3⟩ := cz4 BK227.out) | ((with_reducible refine gate_callee (f := 44) rfl ?_); refine goesL_ (some 8) rfl rfl Tryd.func44 (by kernel_rfl) rfl #[.slice A0_3 l0_3.length c0_3] rfl gl ?_; (with_reducible refine (stowageref13_Pieces.calls k _ _ l0_3 t228 t229 _ ?side1 ?side2 A2.out).mono ?_); (case side1 => exact kC (Kd.C_below HR0_3.out HB.out)); (case side2 => exact HC0_3.out); rintro e w33 ⟨rfl, hb⟩; refine ⟨_, rfl, ?_⟩; replace BK227 := bb BK227.out hb; replace HB := am (below_step (bws HB.out) hb); (try clear hb); obtain ⟨hcz34_0, hcz34_1, hcz34_2, hcz34_3, hfz34_0, hfz34_1, hfz34_2, hfz34_3⟩ := cz4 BK227.out))
    go_ret
    exact ⟨rf, bws HB.out⟩
def stowageref14_May.l0 : Nat → List (S52) → Int → Option (Bool)
 | 0, _, _ => none
 | k + 1, x0, x3 => if x3 < (x0.length : Int) then (if 0 ≤ x3 then ((stowageref14_Check.f k ((rd_T52 x0 x3).f0) ((rd_T52 x0 x3).f1) ((rd_T52 x0 x3).f2) ((rd_T52 x0 x3).f3)).bind fun t232 => (if t232 = 0 then (if x3 > 0 then (if 0 ≤ (wrap64 (x3 - 1)) then (if (wrap64 (x3 - 1)) < (x0.length : Int) then (if ((rd_T52 x0 (wrap64 (x3 - 1))).f0) ≥ ((rd_T52 x0 x3).f0) then (some false) else (stowageref14_May.l0 k x0 (wrap64 (x3 + 1)))) else (none)) else (none)) else (stowageref14_May.l0 k x0 (wrap64 (x3 + 1)))) else (some false))) else (none)) else (some true)
def stowageref14_May.f (k : Nat) (l0 : List (S52)) : Option (Bool) := stowageref14_May.l0 k l0 0
theorem stowageref14_May.mono_l : ∀ k, (∀ y0 y1, LeO (stowageref14_May.l0 k y0 y1) (stowageref14_May.l0 (k + 1) y0 y1))
 | 0 => fun _ _ r h => by simp [stowageref14_May.l0] at h
 | k + 1 => by
  have ih0 := stowageref14_May.mono_l k
  ·
   intro y0 y1
   unfold stowageref14_May.l0
   repeat' (with_reducible first | exact ih0 _ _ | exact stowageref14_Check.mono _ _ _ _ _ | exact LeO.refl _ | exact LeO.none _ | refine LeO.ite ?_ ?_ | refine LeO.bind ?_ (fun _ => ?_))
theorem stowageref14_May.mono : ∀ a0 k, LeO (stowageref14_May.f k a0) (stowageref14_May.f (k + 1) a0) := by
 intro a0 k
 have ih0 := stowageref14_May.mono_l k
 unfold stowageref14_May.f
 repeat' (with_reducible first | exact ih0 _ _ | exact stowageref14_Check.mono _ _ _ _ _ | exact LeO.refl _ | exact LeO.none _ | refine LeO.ite ?_ ?_ | refine LeO.bind ?_ (fun _ => ?_))
def stowageref14_May.T4 : Bool × List (List Nat × List Nat) := (true, [([], []), ([], []), ([0, 1], [0, 1]), ([2], [2]), ([3], [3]), ([4], [4]), ([5, 4], [5]), ([6], [6]), ([7, 6], [6, 7]), ([8, 6, 6], [6, 8]), ([9], [9]), ([9], [9]), ([11, 9], [9, 11]), ([10, 12, 9], [9, 10, 12]), ([13, 9], [9, 13]), ([14, 9], [9, 14]), ([9], [9]), ([9], [9]), ([16, 17, 9], [9, 16, 17]), ([18, 9], [9, 18]), ([19, 9], [9, 19]), ([15, 20, 9], [9, 15, 20]), ([9, 21, 6], [6, 9, 21]), ([6, 22], [6, 22])])
def stowageref14_May.B4 : List Nat := [0, 0, 3, 7, 15, 31, 63, 127, 255, 511, 1023, 1023, 3071, 8191, 16383, 32767, 1023, 1023, 197631, 459775, 984063, 2097151, 4194303, 8388607]
theorem stowageref14_May.tab4 : rtab .any (opsOf Tryd.f33 4) = stowageref14_May.T4 := by kernel_rfl
theorem stowageref14_May.bits4 : waitsOk stowageref14_May.T4.2 stowageref14_May.B4 = true := by kernel_rfl
set_option maxHeartbeats 8000000 in
set_option maxRecDepth 100000 in
theorem stowageref14_May.calls (k : Nat) (A0 : Option Addr) (c0 : Nat) (l0 : List (S52)) (r : Bool) (w : World) (hr0 : Kd.C k52 w A0 l0.length l0) (hc0 : l0.length ≤ c0) (h : stowageref14_May.f k l0 = some r) :
  Calls Tryd.prog 33 #[.slice A0 l0.length c0] w fun e w' => e = .returned (.bool r) ∧ Below w.heap.size w w' := by
 have hu52 := Tryd.underlying52
 have HR0 := am hr0
 have HC0 := am hc0
 clear hr0 hc0
 have HB := am (Below.refl w.heap.size w)
 have H := h
 clear h
 unfold stowageref14_May.f at H
 have H' := am H
 clear H
 go_enter Tryd.func33, Tryd.ntmps33
 go_wp2
 go_loopg [3] k (fun kq v3 w' => ∃ (x3_1 : Int), v3 = .int .i64 x3_1 ∧ Aside0 (stowageref14_May.l0 kq l0 x3_1 = some r) ∧ Aside0 (kq ≤ k) ∧ Aside0 (Below w.heap.size w w'))
 case atStart => exact ⟨(0), rs, H', ⟨Nat.le_refl _⟩, ⟨bw HB.out⟩⟩
 case round =>
  clear H'
  obtain ⟨x3_1, rfl, HA, HK1, HB⟩ := hrel
  cases gk with
  | zero => exact absurd HA.out (by simp [stowageref14_May.l0])
  | succ k1 =>
   have H := HA.out
   clear HA
   simp only [stowageref14_May.l0] at H
   replace H := iteD H
   rcases H with ⟨c2b0, H⟩ | ⟨c2b0, H⟩
   ·
    replace H := iteD H
    rcases H with ⟨c3b0, H⟩ | ⟨_, H⟩
    ·
     replace H := obE H
     obtain ⟨t232, A4, H⟩ := H
     by_cases c5 : t232 = 0
     ·
      rw [if_pos c5] at H
      have c5b0 := beq_iff_eq.mpr c5
      have c5b1 := bne_eq_false_iff_eq.mpr c5
      clear c5
      replace H := iteD H
      rcases H with ⟨c6b0, H⟩ | ⟨c6b0, H⟩
      ·
       obtain ⟨ji7, hji7⟩ : ∃ j_ : Int, (wrap64 (x3_1 - 1)) = j_ := ⟨_, rfl⟩
       replace H : (if 0 ≤ (ji7) then (if (ji7) < (l0.length : Int) then (if ((rd_T52 l0 (ji7)).f0) ≥ ((rd_T52 l0 x3_1).f0) then (some false) else (stowageref14_May.l0 k1 l0 (wrap64 (x3_1 + 1)))) else (none)) else (none)) = some r := by first | (rw [hji7] at H; exact H) | (simp only [hji7] at H ⊢; exact H)
       (try rw [hji7] at A4)
       have hji7w : (IntKind.i64.wrap (x3_1 - 1)) = ji7 := (i64_w _).trans hji7
       replace H := iteD H
       rcases H with ⟨c8b0, H⟩ | ⟨_, H⟩
       ·
        replace H := iteD H
        rcases H with ⟨c9b0, H⟩ | ⟨_, H⟩
        ·
         replace H := iteD H
         rcases H with ⟨c10b0, H⟩ | ⟨c10b0, H⟩
         ·
          obtain rfl := Option.some.inj H
          try go_wp2
          replace HB := am (below_drew1 HB.out)
          have p231 := pz x3_1
          have q231 := pl x3_1 (l0.length : Int)
          obtain ⟨ad231, A231_3, c231_3, e231, hw231_0, hw231_1, hw231_2, hw231_3, hl231_3, hi231_3⟩ := at_T52 HR0.out x3_1 (of_eq_true p231) (of_eq_true q231)
          cases e231
          have hx231_0 := bc HB.out hw231_0
          have hx231_1 := bc HB.out hw231_1
          have hx231_2 := bc HB.out hw231_2
          have hx231_3 := bc HB.out hw231_3
          have HR231_3 := am hi231_3
          have HC231_3 := am hl231_3
          clear hi231_3 hl231_3
          have p233 := pz (ji7)
          have q233 := pl (ji7) (l0.length : Int)
          obtain ⟨ad233, A233_3, c233_3, e233, hw233_0, hw233_1, hw233_2, hw233_3, hl233_3, hi233_3⟩ := at_T52 HR0.out (ji7) (of_eq_true p233) (of_eq_true q233)
          obtain rfl : ad231 = ad233 := (by injection e233)
          have hx233_0 := bc HB.out hw233_0
          have hx233_1 := bc HB.out hw233_1
          have hx233_2 := bc HB.out hw233_2
          have hx233_3 := bc HB.out hw233_3
          have HR233_3 := am hi233_3
          have HC233_3 := am hl233_3
          clear hi233_3 hl233_3
          have p234 := pz x3_1
          have q234 := pl x3_1 (l0.length : Int)
          obtain ⟨ad234, A234_3, c234_3, e234, hw234_0, hw234_1, hw234_2, hw234_3, hl234_3, hi234_3⟩ := at_T52 HR0.out x3_1 (of_eq_true p234) (of_eq_true q234)
          obtain rfl : ad231 = ad234 := (by injection e234)
          have hx234_0 := bc HB.out hw234_0
          have hx234_1 := bc HB.out hw234_1
          have hx234_2 := bc HB.out hw234_2
          have hx234_3 := bc HB.out hw234_3
          have HR234_3 := am hi234_3
          have HC234_3 := am hl234_3
          clear hi234_3 hl234_3
          refine start_ (n := 24) (S := fun w' => w'.cell? (ad231.add ((x3_1).toNat * 4)) = some (.int .i64 ((rd_T52 l0 x3_1).f0)) ∧ w'.cell? ⟨(ad231.add ((x3_1).toNat * 4)).block, (ad231.add ((x3_1).toNat * 4)).off + 1, none⟩ = some (.int .i64 ((rd_T52 l0 x3_1).f1)) ∧ w'.cell? ⟨(ad231.add ((x3_1).toNat * 4)).block, (ad231.add ((x3_1).toNat * 4)).off + 2, none⟩ = some (.string ((rd_T52 l0 x3_1).f2)) ∧ w'.cell? ⟨(ad231.add ((x3_1).toNat * 4)).block, (ad231.add ((x3_1).toNat * 4)).off + 3, none⟩ = some (.slice A231_3 ((rd_T52 l0 x3_1).f3).length c231_3) ∧ w'.cell? (ad231.add (((ji7)).toNat * 4)) = some (.int .i64 ((rd_T52 l0 (ji7)).f0)) ∧ w'.cell? ⟨(ad231.add (((ji7)).toNat * 4)).block, (ad231.add (((ji7)).toNat * 4)).off + 1, none⟩ = some (.int .i64 ((rd_T52 l0 (ji7)).f1)) ∧ w'.cell? ⟨(ad231.add (((ji7)).toNat * 4)).block, (ad231.add (((ji7)).toNat * 4)).off + 2, none⟩ = some (.string ((rd_T52 l0 (ji7)).f2)) ∧ w'.cell? ⟨(ad231.add (((ji7)).toNat * 4)).block, (ad231.add (((ji7)).toNat * 4)).off + 3, none⟩ = some (.slice A233_3 ((rd_T52 l0 (ji7)).f3).length c233_3) ∧ w'.cell? ⟨(ad231.add ((x3_1).toNat * 4)).block, (ad231.add ((x3_1).toNat * 4)).off + 3, none⟩ = some (.slice A234_3 ((rd_T52 l0 x3_1).f3).length c234_3)) (ds := []) #[false, false, false, false, false, false, false, false, false, false, false, false, false, false, false, false, false, false, false, false, false, false, false, false] (by kernel_rfl) rfl rfl ⟨(bc HB.out hw231_0), (bc HB.out hw231_1), (bc HB.out hw231_2), (bc HB.out hw231_3), (bc HB.out hw233_0), (bc HB.out hw233_1), (bc HB.out hw233_2), (bc HB.out hw233_3), (bc HB.out hw234_3)⟩ (fun hHeld => ?_); refine with_tabW stowageref14_May.tab4 stowageref14_May.bits4 (fun HT_ HW_ => ?_)
          generalize wr.drew = w11 at HB HR231_3 HR233_3 HR234_3 hx231_0 hx231_1 hx231_2 hx231_3 hx233_0 hx233_1 hx233_2 hx233_3 hx234_0 hx234_1 hx234_2 hx234_3 hHeld ⊢
          refine pu 0 (some 10) HT_.out ?_
          refine pu 1 (some 11) HT_.out ?_
          refine pu 2 (some 12) HT_.out ?_
          refine tk 3 (some 13) HT_.out HW_.out hHeld ?_
          refine one_ (i := 4) (N := some 14) #[true, true, true, true, true, false, false, false, false, false, false, false, false, false, false, false, false, false, false, false, false, false, false, false] rfl rfl (one_of HT_.out (by kernel_rfl)) (by decide) (fun K hK => ?_)
          refine goes_ Tryd.func20 (by kernel_rfl) rfl #[.agg #[.int .i64 ((rd_T52 l0 x3_1).f0), .int .i64 ((rd_T52 l0 x3_1).f1), .string ((rd_T52 l0 x3_1).f2), .slice A231_3 ((rd_T52 l0 x3_1).f3).length c231_3]] (by rfl) rfl rfl gl ?_
          with_reducible refine (stowageref14_Check.calls k1 ((rd_T52 l0 x3_1).f0) ((rd_T52 l0 x3_1).f1) ((rd_T52 l0 x3_1).f2) _ _ ((rd_T52 l0 x3_1).f3) t232 _ ?side1 ?side2 A4.out).mono ?_
          (case side1 => exact kC (Kd.C_below HR231_3.out HB.out))
          (case side2 => exact HC231_3.out)
          rintro e w12 ⟨rfl, hb⟩
          refine ⟨_, rfl, ?_⟩
          replace HB := am (below_step (bw HB.out) hb)
          (try clear hb)
          (try clear hb2)
          (try clear hk)
          (try clear hi)
          refine hK.out _ _ ⟨(bc HB.out hw231_0), (bc HB.out hw231_1), (bc HB.out hw231_2), (bc HB.out hw231_3), (bc HB.out hw233_0), (bc HB.out hw233_1), (bc HB.out hw233_2), (bc HB.out hw233_3), (bc HB.out hw234_3)⟩ (fun hHeld => ?_)
          clear hK K
          refine norm_ (a' := ?_) ?_ ?_
          rotate_left
          ·
           show Act.put _ (some 14) _ = _
           simp only [Act.put, List.setIfInBounds_toArray, List.set_cons_zero, List.set_cons_succ, i64_w, i32_w]
           rfl
          refine pu 5 (some 15) HT_.out ?_
          refine pu 6 (some 16) HT_.out ?_
          refine pu 7 (some 17) HT_.out ?_
          refine pu 8 (some 18) HT_.out ?_
          refine pu 9 (some 19) HT_.out ?_
          refine pu 10 (some 20) HT_.out ?_
          refine pu 11 (some 21) HT_.out ?_
          refine pu 12 (some 22) HT_.out ?_
          refine pu 13 (some 23) HT_.out ?_
          refine pu 14 (some 24) HT_.out ?_
          refine pu 16 (some 26) HT_.out ?_
          refine pu 17 (some 27) HT_.out ?_
          refine pu 18 (some 28) HT_.out ?_
          refine pu 19 (some 29) HT_.out ?_
          refine tk 15 (some 25) HT_.out HW_.out hHeld ?_
          refine tk 20 (some 30) HT_.out HW_.out hHeld ?_
          refine pu 21 (some 31) HT_.out ?_
          refine pu 22 (some 32) HT_.out ?_
          refine pu 23 (some 33) HT_.out ?_
          refine done_ (done_of HT_.out (by kernel_rfl)) ?_
          try go_wp2
          go_ret
          exact ⟨by first | rfl | (simp [errW_none, errW_some] <;> rfl) | (simp only [← hji7]; first | rfl | (simp [errW_none, errW_some] <;> rfl)) | (simp [*, errW_none, errW_some] <;> rfl), bw HB.out⟩
         ·
          have H' := am H
          clear H
          try go_wp2
          replace HB := am (below_drew1 HB.out)
          have p231 := pz x3_1
          have q231 := pl x3_1 (l0.length : Int)
          obtain ⟨ad231, A231_3, c231_3, e231, hw231_0, hw231_1, hw231_2, hw231_3, hl231_3, hi231_3⟩ := at_T52 HR0.out x3_1 (of_eq_true p231) (of_eq_true q231)
          cases e231
          have hx231_0 := bc HB.out hw231_0
          have hx231_1 := bc HB.out hw231_1
          have hx231_2 := bc HB.out hw231_2
          have hx231_3 := bc HB.out hw231_3
          have HR231_3 := am hi231_3
          have HC231_3 := am hl231_3
          clear hi231_3 hl231_3
          have p233 := pz (ji7)
          have q233 := pl (ji7) (l0.length : Int)
          obtain ⟨ad233, A233_3, c233_3, e233, hw233_0, hw233_1, hw233_2, hw233_3, hl233_3, hi233_3⟩ := at_T52 HR0.out (ji7) (of_eq_true p233) (of_eq_true q233)
          obtain rfl : ad231 = ad233 := (by injection e233)
          have hx233_0 := bc HB.out hw233_0
          have hx233_1 := bc HB.out hw233_1
          have hx233_2 := bc HB.out hw233_2
          have hx233_3 := bc HB.out hw233_3
          have HR233_3 := am hi233_3
          have HC233_3 := am hl233_3
          clear hi233_3 hl233_3
          have p234 := pz x3_1
          have q234 := pl x3_1 (l0.length : Int)
          obtain ⟨ad234, A234_3, c234_3, e234, hw234_0, hw234_1, hw234_2, hw234_3, hl234_3, hi234_3⟩ := at_T52 HR0.out x3_1 (of_eq_true p234) (of_eq_true q234)
          obtain rfl : ad231 = ad234 := (by injection e234)
          have hx234_0 := bc HB.out hw234_0
          have hx234_1 := bc HB.out hw234_1
          have hx234_2 := bc HB.out hw234_2
          have hx234_3 := bc HB.out hw234_3
          have HR234_3 := am hi234_3
          have HC234_3 := am hl234_3
          clear hi234_3 hl234_3
          refine start_ (n := 24) (S := fun w' => w'.cell? (ad231.add ((x3_1).toNat * 4)) = some (.int .i64 ((rd_T52 l0 x3_1).f0)) ∧ w'.cell? ⟨(ad231.add ((x3_1).toNat * 4)).block, (ad231.add ((x3_1).toNat * 4)).off + 1, none⟩ = some (.int .i64 ((rd_T52 l0 x3_1).f1)) ∧ w'.cell? ⟨(ad231.add ((x3_1).toNat * 4)).block, (ad231.add ((x3_1).toNat * 4)).off + 2, none⟩ = some (.string ((rd_T52 l0 x3_1).f2)) ∧ w'.cell? ⟨(ad231.add ((x3_1).toNat * 4)).block, (ad231.add ((x3_1).toNat * 4)).off + 3, none⟩ = some (.slice A231_3 ((rd_T52 l0 x3_1).f3).length c231_3) ∧ w'.cell? (ad231.add (((ji7)).toNat * 4)) = some (.int .i64 ((rd_T52 l0 (ji7)).f0)) ∧ w'.cell? ⟨(ad231.add (((ji7)).toNat * 4)).block, (ad231.add (((ji7)).toNat * 4)).off + 1, none⟩ = some (.int .i64 ((rd_T52 l0 (ji7)).f1)) ∧ w'.cell? ⟨(ad231.add (((ji7)).toNat * 4)).block, (ad231.add (((ji7)).toNat * 4)).off + 2, none⟩ = some (.string ((rd_T52 l0 (ji7)).f2)) ∧ w'.cell? ⟨(ad231.add (((ji7)).toNat * 4)).block, (ad231.add (((ji7)).toNat * 4)).off + 3, none⟩ = some (.slice A233_3 ((rd_T52 l0 (ji7)).f3).length c233_3) ∧ w'.cell? ⟨(ad231.add ((x3_1).toNat * 4)).block, (ad231.add ((x3_1).toNat * 4)).off + 3, none⟩ = some (.slice A234_3 ((rd_T52 l0 x3_1).f3).length c234_3)) (ds := []) #[false, false, false, false, false, false, false, false, false, false, false, false, false, false, false, false, false, false, false, false, false, false, false, false] (by kernel_rfl) rfl rfl ⟨(bc HB.out hw231_0), (bc HB.out hw231_1), (bc HB.out hw231_2), (bc HB.out hw231_3), (bc HB.out hw233_0), (bc HB.out hw233_1), (bc HB.out hw233_2), (bc HB.out hw233_3), (bc HB.out hw234_3)⟩ (fun hHeld => ?_); refine with_tabW stowageref14_May.tab4 stowageref14_May.bits4 (fun HT_ HW_ => ?_)
          generalize wr.drew = w13 at HB HR231_3 HR233_3 HR234_3 hx231_0 hx231_1 hx231_2 hx231_3 hx233_0 hx233_1 hx233_2 hx233_3 hx234_0 hx234_1 hx234_2 hx234_3 hHeld ⊢
          refine pu 0 (some 10) HT_.out ?_
          refine pu 1 (some 11) HT_.out ?_
          refine pu 2 (some 12) HT_.out ?_
          refine tk 3 (some 13) HT_.out HW_.out hHeld ?_
          refine one_ (i := 4) (N := some 14) #[true, true, true, true, true, false, false, false, false, false, false, false, false, false, false, false, false, false, false, false, false, false, false, false] rfl rfl (one_of HT_.out (by kernel_rfl)) (by decide) (fun K hK => ?_)
          refine goes_ Tryd.func20 (by kernel_rfl) rfl #[.agg #[.int .i64 ((rd_T52 l0 x3_1).f0), .int .i64 ((rd_T52 l0 x3_1).f1), .string ((rd_T52 l0 x3_1).f2), .slice A231_3 ((rd_T52 l0 x3_1).f3).length c231_3]] (by rfl) rfl rfl gl ?_
          with_reducible refine (stowageref14_Check.calls k1 ((rd_T52 l0 x3_1).f0) ((rd_T52 l0 x3_1).f1) ((rd_T52 l0 x3_1).f2) _ _ ((rd_T52 l0 x3_1).f3) t232 _ ?side1 ?side2 A4.out).mono ?_
          (case side1 => exact kC (Kd.C_below HR231_3.out HB.out))
          (case side2 => exact HC231_3.out)
          rintro e w14 ⟨rfl, hb⟩
          refine ⟨_, rfl, ?_⟩
          replace HB := am (below_step (bw HB.out) hb)
          (try clear hb)
          (try clear hb2)
          (try clear hk)
          (try clear hi)
          refine hK.out _ _ ⟨(bc HB.out hw231_0), (bc HB.out hw231_1), (bc HB.out hw231_2), (bc HB.out hw231_3), (bc HB.out hw233_0), (bc HB.out hw233_1), (bc HB.out hw233_2), (bc HB.out hw233_3), (bc HB.out hw234_3)⟩ (fun hHeld => ?_)
          clear hK K
          refine norm_ (a' := ?_) ?_ ?_
          rotate_left
          ·
           show Act.put _ (some 14) _ = _
           simp only [Act.put, List.setIfInBounds_toArray, List.set_cons_zero, List.set_cons_succ, i64_w, i32_w]
           rfl
          refine pu 5 (some 15) HT_.out ?_
          refine pu 6 (some 16) HT_.out ?_
          refine pu 7 (some 17) HT_.out ?_
          refine pu 8 (some 18) HT_.out ?_
          refine pu 9 (some 19) HT_.out ?_
          refine pu 10 (some 20) HT_.out ?_
          refine pu 11 (some 21) HT_.out ?_
          refine pu 12 (some 22) HT_.out ?_
          refine pu 13 (some 23) HT_.out ?_
          refine pu 14 (some 24) HT_.out ?_
          refine pu 16 (some 26) HT_.out ?_
          refine pu 17 (some 27) HT_.out ?_
          refine pu 18 (some 28) HT_.out ?_
          refine pu 19 (some 29) HT_.out ?_
          refine tk 15 (some 25) HT_.out HW_.out hHeld ?_
          refine tk 20 (some 30) HT_.out HW_.out hHeld ?_
          refine pu 21 (some 31) HT_.out ?_
          refine pu 22 (some 32) HT_.out ?_
          refine pu 23 (some 33) HT_.out ?_
          refine done_ (done_of HT_.out (by kernel_rfl)) ?_
          try go_wp2
          go_roundg k1
          case measure => have := HK1.out; omega
          case rel => exact ⟨(wrap64 (x3_1 + 1)), rs, H', ⟨by have := HK1.out; omega⟩, ⟨bw HB.out⟩⟩
        ·
         exact absurd H (by simp)
       ·
        exact absurd H (by simp)
      ·
       have H' := am H
       clear H
       try go_wp2
       replace HB := am (below_drew1 HB.out)
       have p231 := pz x3_1
       have q231 := pl x3_1 (l0.length : Int)
       obtain ⟨ad231, A231_3, c231_3, e231, hw231_0, hw231_1, hw231_2, hw231_3, hl231_3, hi231_3⟩ := at_T52 HR0.out x3_1 (of_eq_true p231) (of_eq_true q231)
       cases e231
       have hx231_0 := bc HB.out hw231_0
       have hx231_1 := bc HB.out hw231_1
       have hx231_2 := bc HB.out hw231_2
       have hx231_3 := bc HB.out hw231_3
       have HR231_3 := am hi231_3
       have HC231_3 := am hl231_3
       clear hi231_3 hl231_3
       refine start_ (n := 24) (S := fun w' => w'.cell? (ad231.add ((x3_1).toNat * 4)) = some (.int .i64 ((rd_T52 l0 x3_1).f0)) ∧ w'.cell? ⟨(ad231.add ((x3_1).toNat * 4)).block, (ad231.add ((x3_1).toNat * 4)).off + 1, none⟩ = some (.int .i64 ((rd_T52 l0 x3_1).f1)) ∧ w'.cell? ⟨(ad231.add ((x3_1).toNat * 4)).block, (ad231.add ((x3_1).toNat * 4)).off + 2, none⟩ = some (.string ((rd_T52 l0 x3_1).f2)) ∧ w'.cell? ⟨(ad231.add ((x3_1).toNat * 4)).block, (ad231.add ((x3_1).toNat * 4)).off + 3, none⟩ = some (.slice A231_3 ((rd_T52 l0 x3_1).f3).length c231_3)) (ds := []) #[false, false, false, false, false, false, false, false, false, false, false, false, false, false, false, false, false, false, false, false, false, false, false, false] (by kernel_rfl) rfl rfl ⟨(bc HB.out hw231_0), (bc HB.out hw231_1), (bc HB.out hw231_2), (bc HB.out hw231_3)⟩ (fun hHeld => ?_); refine with_tabW stowageref14_May.tab4 stowageref14_May.bits4 (fun HT_ HW_ => ?_)
       generalize wr.drew = w15 at HB HR231_3 hx231_0 hx231_1 hx231_2 hx231_3 hHeld ⊢
       refine pu 0 (some 10) HT_.out ?_
       refine pu 1 (some 11) HT_.out ?_
       refine pu 2 (some 12) HT_.out ?_
       refine tk 3 (some 13) HT_.out HW_.out hHeld ?_
       refine one_ (i := 4) (N := some 14) #[true, true, true, true, true, false, false, false, false, false, false, false, false, false, false, false, false, false, false, false, false, false, false, false] rfl rfl (one_of HT_.out (by kernel_rfl)) (by decide) (fun K hK => ?_)
       refine goes_ Tryd.func20 (by kernel_rfl) rfl #[.agg #[.int .i64 ((rd_T52 l0 x3_1).f0), .int .i64 ((rd_T52 l0 x3_1).f1), .string ((rd_T52 l0 x3_1).f2), .slice A231_3 ((rd_T52 l0 x3_1).f3).length c231_3]] (by rfl) rfl rfl gl ?_
       with_reducible refine (stowageref14_Check.calls k1 ((rd_T52 l0 x3_1).f0) ((rd_T52 l0 x3_1).f1) ((rd_T52 l0 x3_1).f2) _ _ ((rd_T52 l0 x3_1).f3) t232 _ ?side1 ?side2 A4.out).mono ?_
       (case side1 => exact kC (Kd.C_below HR231_3.out HB.out))
       (case side2 => exact HC231_3.out)
       rintro e w16 ⟨rfl, hb⟩
       refine ⟨_, rfl, ?_⟩
       replace HB := am (below_step (bw HB.out) hb)
       (try clear hb)
       (try clear hb2)
       (try clear hk)
       (try clear hi)
       refine hK.out _ _ ⟨(bc HB.out hw231_0), (bc HB.out hw231_1), (bc HB.out hw231_2), (bc HB.out hw231_3)⟩ (fun hHeld => ?_)
       clear hK K
       refine norm_ (a' := ?_) ?_ ?_
       rotate_left
       ·
        show Act.put _ (some 14) _ = _
        simp only [Act.put, List.setIfInBounds_toArray, List.set_cons_zero, List.set_cons_succ, i64_w, i32_w]
        rfl
       refine pu 5 (some 15) HT_.out ?_
       refine pu 6 (some 16) HT_.out ?_
       refine pu 7 (some 17) HT_.out ?_
       refine pu 8 (some 18) HT_.out ?_
       refine pu 9 (some 19) HT_.out ?_
       refine un 10 (some 20) HT_.out ?_
       refine un 11 (some 21) HT_.out ?_
       refine un 12 (some 22) HT_.out ?_
       refine un 13 (some 23) HT_.out ?_
       refine un 14 (some 24) HT_.out ?_
       refine un 15 (some 25) HT_.out ?_
       refine un 16 (some 26) HT_.out ?_
       refine un 17 (some 27) HT_.out ?_
       refine un 18 (some 28) HT_.out ?_
       refine un 19 (some 29) HT_.out ?_
       refine un 20 (some 30) HT_.out ?_
       refine un 21 (some 31) HT_.out ?_
       refine pu 22 (some 32) HT_.out ?_
       refine pu 23 (some 33) HT_.out ?_
       refine done_ (done_of HT_.out (by kernel_rfl)) ?_
       try go_wp2
       go_roundg k1
       case measure => have := HK1.out; omega
       case rel => exact ⟨(wrap64 (x3_1 + 1)), rs, H', ⟨by have := HK1.out; omega⟩, ⟨bw HB.out⟩⟩
     ·
      rw [if_neg c5] at H
      have c5b0 := beq_eq_false_iff_ne.mpr c5
      have c5b1 := bne_iff_ne.mpr c5
      obtain rfl := Option.some.inj H
      try go_wp2
      replace HB := am (below_drew1 HB.out)
      have p231 := pz x3_1
      have q231 := pl x3_1 (l0.length : Int)
      obtain ⟨ad231, A231_3, c231_3, e231, hw231_0, hw231_1, hw231_2, hw231_3, hl231_3, hi231_3⟩ := at_T52 HR0.out x3_1 (of_eq_true p231) (of_eq_true q231)
      cases e231
      have hx231_0 := bc HB.out hw231_0
      have hx231_1 := bc HB.out hw231_1
      have hx231_2 := bc HB.out hw231_2
      have hx231_3 := bc HB.out hw231_3
      have HR231_3 := am hi231_3
      have HC231_3 := am hl231_3
      clear hi231_3 hl231_3
      refine start_ (n := 24) (S := fun w' => w'.cell? (ad231.add ((x3_1).toNat * 4)) = some (.int .i64 ((rd_T52 l0 x3_1).f0)) ∧ w'.cell? ⟨(ad231.add ((x3_1).toNat * 4)).block, (ad231.add ((x3_1).toNat * 4)).off + 1, none⟩ = some (.int .i64 ((rd_T52 l0 x3_1).f1)) ∧ w'.cell? ⟨(ad231.add ((x3_1).toNat * 4)).block, (ad231.add ((x3_1).toNat * 4)).off + 2, none⟩ = some (.string ((rd_T52 l0 x3_1).f2)) ∧ w'.cell? ⟨(ad231.add ((x3_1).toNat * 4)).block, (ad231.add ((x3_1).toNat * 4)).off + 3, none⟩ = some (.slice A231_3 ((rd_T52 l0 x3_1).f3).length c231_3)) (ds := []) #[false, false, false, false, false, false, false, false, false, false, false, false, false, false, false, false, false, false, false, false, false, false, false, false] (by kernel_rfl) rfl rfl ⟨(bc HB.out hw231_0), (bc HB.out hw231_1), (bc HB.out hw231_2), (bc HB.out hw231_3)⟩ (fun hHeld => ?_); refine with_tabW stowageref14_May.tab4 stowageref14_May.bits4 (fun HT_ HW_ => ?_)
      generalize wr.drew = w17 at HB HR231_3 hx231_0 hx231_1 hx231_2 hx231_3 hHeld ⊢
      refine pu 0 (some 10) HT_.out ?_
      refine pu 1 (some 11) HT_.out ?_
      refine pu 2 (some 12) HT_.out ?_
      refine tk 3 (some 13) HT_.out HW_.out hHeld ?_
      refine one_ (i := 4) (N := some 14) #[true, true, true, true, true, false, false, false, false, false, false, false, false, false, false, false, false, false, false, false, false, false, false, false] rfl rfl (one_of HT_.out (by kernel_rfl)) (by decide) (fun K hK => ?_)
      refine goes_ Tryd.func20 (by kernel_rfl) rfl #[.agg #[.int .i64 ((rd_T52 l0 x3_1).f0), .int .i64 ((rd_T52 l0 x3_1).f1), .string ((rd_T52 l0 x3_1).f2), .slice A231_3 ((rd_T52 l0 x3_1).f3).length c231_3]] (by rfl) rfl rfl gl ?_
      with_reducible refine (stowageref14_Check.calls k1 ((rd_T52 l0 x3_1).f0) ((rd_T52 l0 x3_1).f1) ((rd_T52 l0 x3_1).f2) _ _ ((rd_T52 l0 x3_1).f3) t232 _ ?side1 ?side2 A4.out).mono ?_
      (case side1 => exact kC (Kd.C_below HR231_3.out HB.out))
      (case side2 => exact HC231_3.out)
      rintro e w18 ⟨rfl, hb⟩
      refine ⟨_, rfl, ?_⟩
      replace HB := am (below_step (bw HB.out) hb)
      (try clear hb)
      (try clear hb2)
      (try clear hk)
      (try clear hi)
      refine hK.out _ _ ⟨(bc HB.out hw231_0), (bc HB.out hw231_1), (bc HB.out hw231_2), (bc HB.out hw231_3)⟩ (fun hHeld => ?_)
      clear hK K
      refine norm_ (a' := ?_) ?_ ?_
      rotate_left
      ·
       show Act.put _ (some 14) _ = _
       simp only [Act.put, List.setIfInBounds_toArray, List.set_cons_zero, List.set_cons_succ, i64_w, i32_w]
       rfl
      refine pu 5 (some 15) HT_.out ?_
      refine pu 6 (some 16) HT_.out ?_
      refine un 7 (some 17) HT_.out ?_
      refine un 8 (some 18) HT_.out ?_
      refine un 9 (some 19) HT_.out ?_
      refine un 10 (some 20) HT_.out ?_
      refine un 11 (some 21) HT_.out ?_
      refine un 12 (some 22) HT_.out ?_
      refine un 13 (some 23) HT_.out ?_
      refine un 14 (some 24) HT_.out ?_
      refine un 15 (some 25) HT_.out ?_
      refine un 16 (some 26) HT_.out ?_
      refine un 17 (some 27) HT_.out ?_
      refine un 18 (some 28) HT_.out ?_
      refine un 19 (some 29) HT_.out ?_
      refine un 20 (some 30) HT_.out ?_
      refine un 21 (some 31) HT_.out ?_
      refine un 22 (some 32) HT_.out ?_
      refine pu 23 (some 33) HT_.out ?_
      refine done_ (done_of HT_.out (by kernel_rfl)) ?_
      try go_wp2
      go_ret
      exact ⟨rf, bw HB.out⟩
    ·
     exact absurd H (by simp)
   ·
    obtain rfl := Option.some.inj H
    go_wp2
    go_ret
    exact ⟨rf, bw HB.out⟩
end Go.Proofs.YtoiockmmlanimaaDoor.Op
end
