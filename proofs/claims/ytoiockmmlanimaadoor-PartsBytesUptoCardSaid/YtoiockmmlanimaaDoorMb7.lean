/- Merged of several texts of this session's by merge.py. -/
import Derived.Test.YtoiockmmlanimaaDoorMb3
import Derived.Test.YtoiockmmlanimaaDoorMb6
import Derived.Test.YtoiockmmlanimaaDoorMb5
import Derived.IntWalk
import Derived.Laws.Bits64b
section
namespace Go.Proofs.YtoiockmmlanimaaDoor.Ob
open Go.RowKit Go.Proofs.YtoiockmmlanimaaDoorW.PrintWords Go.Proofs.YtoiockmmlanimaaDoorW.PrintLast Go.Proofs.YtoiockmmlanimaaDoorW.PrintMore
attribute [local go_sem] max2_int min2_int max_two min_two max_three min_three max_four min_four
set_option linter.unusedVariables false
set_option linter.unusedSimpArgs false
mutual
def parts_Decode.l0 : Nat → List (S46) → Int → Int → ByteArray → Int → Int → Option ((List (S46)) × Int)
 | 0, _, _, _, _, _, _ => none
 | k + 1, x5, x10, x11, x307000, x307001, x307002 => if x11 < x10 then ((octet_Reader_Int.f k x307000 x307001 x307002 100).bind fun bt311 => ((octet_Reader_Int.f k bt311.2.1 bt311.2.2.1 bt311.2.2.2 512).bind fun bt316 => (parts_Decode.l1 k x5 x10 x11 bt316.1 0 bt316.2.1 bt316.2.2.1 bt316.2.2.2 bt311.1 0 (⟨#[]⟩ : ByteArray) ([] : List (S63))))) else ((octet_Reader_End.f x307000 x307001 x307002).bind fun bt340 => (if bt340.1 = 0 then ((parts_right.f k x5).bind fun t344 => (if t344 = true then (some (x5, 0)) else (some (([] : List (S46)), 3)))) else (some (([] : List (S46)), 3))))
def parts_Decode.l1 : Nat → List (S46) → Int → Int → Int → Int → ByteArray → Int → Int → Int → Int → ByteArray → List (S63) → Option ((List (S46)) × Int)
 | 0, _, _, _, _, _, _, _, _, _, _, _, _ => none
 | k + 1, x5, x10, x11, x17, x18, x307000, x307001, x307002, x316000, x316001, x316002, x316003 => if x18 < x17 then ((octet_Reader_Text.f k x307000 x307001 x307002 64).bind fun bt320 => ((octet_Reader_Int.f k bt320.2.1 bt320.2.2.1 bt320.2.2.2 4096).bind fun bt324 => (if x316003.length < 5864062014805 then (parts_Decode.l1 k x5 x10 x11 x17 (wrap64 (x18 + 1)) bt324.2.1 bt324.2.2.1 bt324.2.2.2 x316000 x316001 x316002 (x316003 ++ [(⟨bt320.1, bt324.1⟩ : S63)])) else (none)))) else ((octet_Reader_Text.f k x307000 x307001 x307002 64).bind fun bt331 => ((chain_Pieces.f k x316003).bind fun bt335 => (if x5.length < 2513169434916 then (parts_Decode.l0 k (x5 ++ [(⟨x316000, bt335.1, bt331.1, x316003⟩ : S46)]) x10 (wrap64 (x11 + 1)) bt331.2.1 bt331.2.2.1 bt331.2.2.2) else (none))))
end
def parts_Decode.f (k : Nat) (a0 : ByteArray) : Option ((List (S46)) × Int) := (octet_NewReader.f a0).bind fun bt303 => ((octet_Reader_Int.f k bt303.1 bt303.2.1 bt303.2.2 100).bind fun bt307 => (parts_Decode.l0 k ([] : List (S46)) bt307.1 0 bt307.2.1 bt307.2.2.1 bt307.2.2.2))
theorem parts_Decode.mono_l : ∀ k, (∀ y0 y1 y2 y3 y4 y5, LeO (parts_Decode.l0 k y0 y1 y2 y3 y4 y5) (parts_Decode.l0 (k + 1) y0 y1 y2 y3 y4 y5)) ∧ (∀ y0 y1 y2 y3 y4 y5 y6 y7 y8 y9 y10 y11, LeO (parts_Decode.l1 k y0 y1 y2 y3 y4 y5 y6 y7 y8 y9 y10 y11) (parts_Decode.l1 (k + 1) y0 y1 y2 y3 y4 y5 y6 y7 y8 y9 y10 y11))
 | 0 => ⟨fun _ _ _ _ _ _ r h => by simp [parts_Decode.l0] at h, fun _ _ _ _ _ _ _ _ _ _ _ _ r h => by simp [parts_Decode.l1] at h⟩
 | k + 1 => by
  obtain ⟨ih0, ih1⟩ := parts_Decode.mono_l k
  refine ⟨?_, ?_⟩
  all_goals intros
  all_goals first | unfold parts_Decode.l0 | unfold parts_Decode.l1
  all_goals repeat' (with_reducible first | exact ih0 _ _ _ _ _ _ | exact ih1 _ _ _ _ _ _ _ _ _ _ _ _ | exact chain_Pieces.mono _ _ | exact octet_Reader_Int.mono _ _ _ _ _ | exact octet_Reader_Text.mono _ _ _ _ _ | exact parts_right.mono _ _ | exact LeO.refl _ | exact LeO.none _ | refine LeO.ite ?_ ?_ | refine LeO.bind ?_ (fun _ => ?_))
theorem parts_Decode.mono : ∀ a0 k, LeO (parts_Decode.f k a0) (parts_Decode.f (k + 1) a0) := by
 intro a0 k
 obtain ⟨ih0, ih1⟩ := parts_Decode.mono_l k
 unfold parts_Decode.f
 repeat' (with_reducible first | exact ih0 _ _ _ _ _ _ | exact ih1 _ _ _ _ _ _ _ _ _ _ _ _ | exact chain_Pieces.mono _ _ | exact octet_Reader_Int.mono _ _ _ _ _ | exact octet_Reader_Text.mono _ _ _ _ _ | exact parts_right.mono _ _ | exact LeO.refl _ | exact LeO.none _ | refine LeO.ite ?_ ?_ | refine LeO.bind ?_ (fun _ => ?_))
def parts_Decode.T8 : Bool × List (List Nat × List Nat) := (true, [([], []), ([0], [0]), ([], []), ([2], [2]), ([], []), ([4, 3], [4]), ([3, 5], [3, 5]), ([6], [6]), ([1, 7, 5], [1, 7]), ([0, 1, 2, 3, 4, 5, 6, 7, 8], []), ([9, 8, 8, 0, 1, 2, 3, 4, 5, 6, 7, 8], [8, 9])])
def parts_Decode.B8 : List Nat := [0, 1, 0, 4, 0, 28, 60, 124, 255, 511, 1023]
theorem parts_Decode.tab8 : rtab .any (opsOf Tryd.f27 8) = parts_Decode.T8 := by kernel_rfl
theorem parts_Decode.bits8 : waitsOk parts_Decode.T8.2 parts_Decode.B8 = true := by kernel_rfl
set_option maxHeartbeats 8000000 in
set_option maxRecDepth 100000 in
theorem parts_Decode.calls (k : Nat) (a0 : ByteArray) (r1 : List (S46)) (r2 : Int) (w : World) (h : parts_Decode.f k a0 = some (r1, r2)) :
  Calls Tryd.prog 27 #[.string a0] w fun e w' => ∃ v0_ : Value, e = .returned (.tuple #[v0_, .int .i64 r2]) ∧ Kd.S k46 46 w' w.heap.size (fun _ => True) v0_ r1 ∧ Below w.heap.size w w' := by
 have hu46 := Tryd.underlying46
 have hu63 := Tryd.underlying63
 have HB := am (Below.refl w.heap.size w)
 have H := h
 clear h
 unfold parts_Decode.f at H
 obtain ⟨⟨t303, t304, t305⟩, A2, H⟩ := obE H
 try dsimp only at H
 obtain ⟨⟨t307, t308, t309, t310⟩, A3, H⟩ := obE H
 try dsimp only at H
 have H' := am H
 clear H
 go_enter Tryd.func27, Tryd.ntmps27
 go_wp2_with (first | ((with_reducible refine gate_callee (f := 52) rfl ?_); refine goesL_ (some 8) rfl rfl Tryd.func52 (by kernel_rfl) rfl #[.string a0] rfl gl ?_; (with_reducible refine (octet_NewReader.calls a0 t303 t304 t305 w _ ?side1 A2.out).mono ?_); (case side1 => repeat (first | (with_reducible first | exact HB.out | apply below_alloc | apply pw_below_drewN | apply below_drew1) | exact HB.out)); rintro e w4 ⟨g306, rfl, hi, hb, hb2⟩; refine ⟨_, rfl, ?_⟩; replace HB := am (hb); have HI306 := am (hi); (try clear hb); (try clear hb2); (try clear hi)) | ((with_reducible refine gate_callee (f := 53) rfl ?_); refine goesL_ (some 10) rfl rfl Tryd.func53 (by kernel_rfl) rfl #[.pointer (some ⟨g306, 0, none⟩), .int .i64 100] rfl gl ?_; (with_reducible refine (octet_Reader_Int.calls k g306 t303 t304 t305 100 t307 t308 t309 t310 w _ ?side1 ?side2 A3.out).mono ?_); (case side1 => repeat (first | (with_reducible first | exact HI306.out | apply IsS125.alloc | apply IsS125.drewN | apply IsS125.drew | apply IsS125.set_0 | apply IsS125.set_1 | apply IsS125.set_2) | exact HI306.out)); (case side2 => repeat (first | (with_reducible first | exact HB.out | apply below_alloc | apply pw_below_drewN | apply below_drew1 | refine below_set ?_ (IsS125.ge HI306.out)) | exact HB.out)); rintro e w5 ⟨rfl, hi, hb, hk⟩; refine ⟨_, rfl, ?_⟩; replace HB := am (hb); replace HI306 := am (hi); (try clear hb); (try clear hk); (try clear hi)))
 go_loopg [5, 11] k (fun kq v5 v11 w' => ∃ (x5_1 : List (S46)) (x11_1 : Int) (x307000_1 : ByteArray) (x307001_1 : Int) (x307002_1 : Int), v11 = .int .i64 x11_1 ∧ Aside0 (parts_Decode.l0 kq x5_1 t307 x11_1 x307000_1 x307001_1 x307002_1 = some (r1, r2)) ∧ Aside0 (kq ≤ k) ∧ Aside0 (Kd.S k46 46 w' w.heap.size (fun _ => True) v5 x5_1) ∧ Aside0 (IsS125 w w' g306 x307000_1 x307001_1 x307002_1) ∧ Aside0 (Below w.heap.size w w'))
 case atStart => exact ⟨(([] : List (S46))), (0), (t308), (t309), (t310), rs, H', ⟨Nat.le_refl _⟩, ⟨niS⟩, ⟨by repeat (first | (with_reducible first | exact HI306.out | apply IsS125.alloc | apply IsS125.drewN | apply IsS125.drew | apply IsS125.set_0 | apply IsS125.set_1 | apply IsS125.set_2) | exact HI306.out)⟩, ⟨by repeat (first | (with_reducible first | exact HB.out | apply below_alloc | apply pw_below_drewN | apply below_drew1 | refine below_set ?_ (IsS125.ge HI306.out)) | exact HB.out)⟩⟩
 case round =>
  clear H'
  try clear c2
  try clear p2
  try clear c5
  obtain ⟨x5_1, x11_1, x307000_1, x307001_1, x307002_1, rfl, HA, HK1, HO_5, HI306, HB⟩ := hrel
  cases gk with
  | zero => exact absurd HA.out (by simp [parts_Decode.l0])
  | succ k1 =>
   have H := HA.out
   clear HA
   simp only [parts_Decode.l0] at H
   rcases iteD H with ⟨c6b0, H⟩ | ⟨c6b0, H⟩
   ·
    obtain ⟨⟨t311, t312, t313, t314⟩, A7, H⟩ := obE H
    try dsimp only at H
    obtain ⟨⟨t316, t317, t318, t319⟩, A8, H⟩ := obE H
    try dsimp only at H
    have H' := am H
    clear H
    go_wp2_with (first | ((with_reducible refine gate_callee (f := 53) rfl ?_); refine goesL_ (some 14) rfl rfl Tryd.func53 (by kernel_rfl) rfl #[.pointer (some ⟨g306, 0, none⟩), .int .i64 100] rfl gl ?_; (with_reducible refine (octet_Reader_Int.calls k1 g306 x307000_1 x307001_1 x307002_1 100 t311 t312 t313 t314 w _ ?side1 ?side2 A7.out).mono ?_); (case side1 => repeat (first | (with_reducible first | exact HI306.out | apply IsS125.alloc | apply IsS125.drewN | apply IsS125.drew | apply IsS125.set_0 | apply IsS125.set_1 | apply IsS125.set_2) | exact HI306.out)); (case side2 => repeat (first | (with_reducible first | exact HB.out | apply below_alloc | apply pw_below_drewN | apply below_drew1 | refine below_set ?_ (IsS125.ge HI306.out)) | exact HB.out)); rintro e w9 ⟨rfl, hi, hb, hk⟩; refine ⟨_, rfl, ?_⟩; replace HO_5 := am (Kd.S_mono (Kd.S_keep (IsS125.apartS (show IsS125 w _ g306 x307000_1 x307001_1 x307002_1 from by repeat (first | (with_reducible first | exact HI306.out | apply IsS125.alloc | apply IsS125.drewN | apply IsS125.drew | apply IsS125.set_0 | apply IsS125.set_1 | apply IsS125.set_2) | exact HI306.out)) (kS HO_5.out) (by decide)) hk (fun _ h => h.2)) (fun _ h => h.1)); replace HB := am (hb); replace HI306 := am (hi); (try clear hb); (try clear hk); (try clear hi)) | ((with_reducible refine gate_dst (N := 6) rfl ?_); refine bx 6 #[.int .i64 0, .int .i64 0, .string (⟨#[]⟩ : ByteArray), .slice none 0 0] 46 ?_; intro gb315 hg w10 hbox hb; have BK315 := am (hbox); have GW315 := am ((by rw [hg]; exact (below_size (by repeat (first | (with_reducible first | exact HB.out | apply below_alloc | apply pw_below_drewN | apply below_drew1 | refine below_set ?_ (IsS125.ge HI306.out)) | exact HB.out))) : w.heap.size ≤ gb315)); have GE315 := am ((by rw [hg]; exact (below_size (by repeat (first | (with_reducible first | exact HB.out | apply below_alloc | apply pw_below_drewN | apply below_drew1 | refine below_set ?_ (IsS125.ge HI306.out)) | exact HB.out))) : w.heap.size ≤ gb315)); have NB306_315 := am ((by rw [hg]; exact Nat.ne_of_lt (IsS125.lt (show IsS125 w _ g306 t312 t313 t314 from by repeat (first | (with_reducible first | exact HI306.out | apply IsS125.alloc | apply IsS125.drewN | apply IsS125.drew | apply IsS125.set_0 | apply IsS125.set_1 | apply IsS125.set_2) | exact HI306.out))) : g306 ≠ gb315)); have NB315_306 := am ((by rw [hg]; exact Nat.ne_of_gt (IsS125.lt (show IsS125 w _ g306 t312 t313 t314 from by repeat (first | (with_reducible first | exact HI306.out | apply IsS125.alloc | apply IsS125.drewN | apply IsS125.drew | apply IsS125.set_0 | apply IsS125.set_1 | apply IsS125.set_2) | exact HI306.out))) : gb315 ≠ g306)); replace HO_5 := am (Kd.S_below (Kd.S_elderB (kS HO_5.out) gb315 (Nat.le_of_eq hg.symm)) hb); replace HB := am (below_step (by repeat (first | (with_reducible first | exact HB.out | apply below_alloc | apply pw_below_drewN | apply below_drew1 | refine below_set ?_ (IsS125.ge HI306.out)) | exact HB.out)) hb); replace HI306 := am (IsS125.below (by repeat (first | (with_reducible first | exact HI306.out | apply IsS125.alloc | apply IsS125.drewN | apply IsS125.drew | apply IsS125.set_0 | apply IsS125.set_1 | apply IsS125.set_2) | exact HI306.out)) hb); clear hb hbox hg; have hnb11 := NB315_306.out; have hnc11 := NB306_315.out; obtain ⟨hcz12_0, hcz12_1, hcz12_2, hcz12_3, hfz12_0, hfz12_1, hfz12_2, hfz12_3⟩ := cz4 BK315.out) | ((with_reducible refine gate_callee (f := 53) rfl ?_); refine goesL_ (some 17) rfl rfl Tryd.func53 (by kernel_rfl) rfl #[.pointer (some ⟨g306, 0, none⟩), .int .i64 512] rfl gl ?_; (with_reducible refine (octet_Reader_Int.calls k1 g306 t312 t313 t314 512 t316 t317 t318 t319 w _ ?side1 ?side2 A8.out).mono ?_); (case side1 => repeat (first | (with_reducible first | exact HI306.out | apply IsS125.alloc | apply IsS125.drewN | apply IsS125.drew | apply IsS125.set_0 | apply IsS125.set_1 | apply IsS125.set_2 | refine IsS125.far ?_ NB306_315.out _) | exact HI306.out)); (case side2 => repeat (first | (with_reducible first | exact HB.out | apply below_alloc | apply pw_below_drewN | apply below_drew1 | refine below_set ?_ (IsS125.ge HI306.out) | refine below_set ?_ GE315.out) | exact HB.out)); rintro e w13 ⟨rfl, hi, hb, hk⟩; refine ⟨_, rfl, ?_⟩; replace HO_5 := am (Kd.S_mono (Kd.S_keep (IsS125.apartS (show IsS125 w _ g306 t312 t313 t314 from by repeat (first | (with_reducible first | exact HI306.out | apply IsS125.alloc | apply IsS125.drewN | apply IsS125.drew | apply IsS125.set_0 | apply IsS125.set_1 | apply IsS125.set_2 | refine IsS125.far ?_ NB306_315.out _) | exact HI306.out)) (by (with_reducible repeat (first | apply Kd.S_alloc | apply Kd.S_drewN | apply Kd.S_drew)); exact (Kd.S_mono (Kd.S_far (p := ⟨gb315, 3, none⟩) (Kd.S_far (p := ⟨gb315, 2, none⟩) (Kd.S_far (p := ⟨gb315, 1, none⟩) (Kd.S_far (p := ⟨gb315, 0, none⟩) (Kd.S_mono HO_5.out (fun k_ hk => (⟨hk, hk.2⟩ : _ ∧ k_ ≠ gb315))) (fun _ hk => hk.2) (.int .i64 t311)) (fun _ hk => hk.2) (.int .i64 0)) (fun _ hk => hk.2) (.string (⟨#[]⟩ : ByteArray))) (fun _ hk => hk.2) (.slice none 0 0)) (fun _ h_ => h_.1))) (by decide)) hk (fun _ h => h.2)) (fun _ h => h.1)); replace BK315 := am (KeepBut.blk hk (g' := gb315) (o := .cells #[.int .i64 t311, .int .i64 0, .string (⟨#[]⟩ : ByteArray), .slice none 0 0] 46 (0, 0)) (bkp BK315.out) NB315_306.out (by simp)); replace HB := am (hb); replace HI306 := am (hi); (try clear hb); (try clear hk); (try clear hi)))
    go_loopg [18] k1 (fun kq v18 w' => ∃ (x18_2 : Int) (x307000_2 : ByteArray) (x307001_2 : Int) (x307002_2 : Int) (x316003_2 : List (S63)) (u316003 : Value), v18 = .int .i64 x18_2 ∧ Aside0 (parts_Decode.l1 kq x5_1 t307 x11_1 t316 x18_2 x307000_2 x307001_2 x307002_2 t311 0 (⟨#[]⟩ : ByteArray) x316003_2 = some (r1, r2)) ∧ Aside0 (kq ≤ k1) ∧ Aside0 (Kd.S k46 46 w' w.heap.size (fun k_ => some k_ ≠ (u316003 : Value).ownBlock ∧ k_ ≠ gb315) u5 x5_1) ∧ Aside0 (Kd.R k63 63 w' w.heap.size (fun _ => True) u316003 x316003_2) ∧ Aside0 (w'.heap[gb315]? = some (.cells #[.int .i64 t311, .int .i64 0, .string (⟨#[]⟩ : ByteArray), u316003] 46 (0, 0))) ∧ Aside0 (IsS125 w w' g306 x307000_2 x307001_2 x307002_2) ∧ Aside0 (Below w.heap.size w w'))
    case atStart => exact ⟨(0), (t317), (t318), (t319), (([] : List (S63))), (.slice none 0 0), rs, H', ⟨Nat.le_refl _⟩, ⟨by (with_reducible repeat (first | apply Kd.S_alloc | apply Kd.S_drewN | apply Kd.S_drew)); exact Kd.S_mono HO_5.out (fun _ hk => ⟨(by simp [Value.ownBlock]), hk.2⟩)⟩, ⟨niR⟩, ⟨bk BK315.out⟩, ⟨by repeat (first | (with_reducible first | exact HI306.out | apply IsS125.alloc | apply IsS125.drewN | apply IsS125.drew | apply IsS125.set_0 | apply IsS125.set_1 | apply IsS125.set_2 | refine IsS125.far ?_ NB306_315.out _) | exact HI306.out)⟩, ⟨by repeat (first | (with_reducible first | exact HB.out | apply below_alloc | apply pw_below_drewN | apply below_drew1 | refine below_set ?_ (IsS125.ge HI306.out) | refine below_set ?_ GE315.out) | exact HB.out)⟩⟩
    case round =>
     clear H'
     try clear c1
     try clear c2
     try clear p2
     try clear c5
     try clear c6
     try clear c6b0
     try clear c11
     try clear hcz12_0 hcz12_1 hcz12_2 hcz12_3 hfz12_0 hfz12_1 hfz12_2 hfz12_3
     try clear p2
     obtain ⟨x18_2, x307000_2, x307001_2, x307002_2, x316003_2, u316003, rfl, HA, HK2, HO_5, HO_316003, BK315, HI306, HB⟩ := hrel
     cases gk with
     | zero => exact absurd HA.out (by simp [parts_Decode.l1])
     | succ k2 =>
      have H := HA.out
      clear HA
      simp only [parts_Decode.l1] at H
      rcases iteD H with ⟨c14b0, H⟩ | ⟨c14b0, H⟩
      ·
       obtain ⟨⟨t320, t321, t322, t323⟩, A15, H⟩ := obE H
       try dsimp only at H
       obtain ⟨⟨t324, t325, t326, t327⟩, A16, H⟩ := obE H
       try dsimp only at H
       by_cases c17 : x316003_2.length < 5864062014805
       ·
        rw [if_pos c17] at H
        have LMc17 := am c17
        clear c17
        obtain ⟨y328, hy328⟩ : ∃ y_ : List (S63), y_ = (x316003_2 ++ [(⟨t320, t324⟩ : S63)]) := ⟨_, rfl⟩
        replace H : (parts_Decode.l1 k2 x5_1 t307 x11_1 t316 (wrap64 (x18_2 + 1)) t325 t326 t327 t311 0 (⟨#[]⟩ : ByteArray) y328) = some (r1, r2) := by first | (rw [hy328]; with_reducible exact H) | (have H2_ := (Option.bind_some _ _).symm.trans H; rw [hy328]; with_reducible exact H2_) | (have H2_ := (Option.bind_some _ _).symm.trans H; with_reducible exact H2_) | with_reducible exact H | (rw [hy328]; exact H) | exact H
        have Ny328 := am hy328
        clear hy328
        have H' := am H
        clear H
        try go_wp2
        replace HO_5 := am (Kd.S_drew HO_5.out)
        replace HO_316003 := am (Kd.R_drew HO_316003.out)
        replace BK315 := am (blk_drew BK315.out)
        replace HI306 := am (IsS125.drew HI306.out)
        replace HB := am (below_drew1 HB.out)
        refine start_ (n := 11) (S := fun w' => w'.cell? ⟨gb315, 0, none⟩ = some (.int .i64 t311) ∧ w'.cell? ⟨gb315, 1, none⟩ = some (.int .i64 0) ∧ w'.cell? ⟨gb315, 2, none⟩ = some (.string (⟨#[]⟩ : ByteArray)) ∧ w'.cell? ⟨gb315, 3, none⟩ = some (u316003)) (ds := [10]) #[false, false, false, false, false, false, false, false, false, false, false] (by kernel_rfl) rfl rfl ⟨(blk_cell BK315.out 0).trans rfl, (blk_cell BK315.out 1).trans rfl, (blk_cell BK315.out 2).trans rfl, (blk_cell BK315.out 3).trans rfl⟩ (fun hHeld => ?_); refine with_tabW parts_Decode.tab8 parts_Decode.bits8 (fun HT_ HW_ => ?_)
        generalize wr.drew = w18 at HO_5 HO_316003 BK315 HI306 HB hHeld ⊢
        refine pu 0 (some 20) HT_.out ?_
        refine pu 2 (some 22) HT_.out ?_
        refine pu 4 (some 24) HT_.out ?_
        refine tk 1 (some 21) HT_.out HW_.out hHeld ?_
        refine one_ (i := 3) (N := some 23) #[true, true, true, true, true, false, false, false, false, false, false] rfl rfl (one_of HT_.out (by kernel_rfl)) (by decide) (fun K hK => ?_)
        refine goes_ Tryd.func54 (by kernel_rfl) rfl #[.pointer (some ⟨g306, 0, none⟩), .int .i64 64] (by rfl) rfl rfl gl ?_
        with_reducible refine (octet_Reader_Text.calls k2 g306 x307000_2 x307001_2 x307002_2 64 t320 t321 t322 t323 w _ ?side1 ?side2 A15.out).mono ?_
        (case side1 => repeat (first | (with_reducible first | exact HI306.out | apply IsS125.alloc | apply IsS125.drewN | apply IsS125.drew | apply IsS125.set_0 | apply IsS125.set_1 | apply IsS125.set_2 | refine IsS125.far ?_ NB306_315.out _) | exact HI306.out))
        (case side2 => repeat (first | (with_reducible first | exact HB.out | apply below_alloc | apply pw_below_drewN | apply below_drew1 | refine below_set ?_ (IsS125.ge HI306.out) | refine below_set ?_ GE315.out) | exact HB.out))
        rintro e w19 ⟨rfl, hi, hb, hk⟩
        refine ⟨_, rfl, ?_⟩
        replace HO_5 := am (Kd.S_mono (Kd.S_keep (IsS125.apartS (show IsS125 w _ g306 x307000_2 x307001_2 x307002_2 from by repeat (first | (with_reducible first | exact HI306.out | apply IsS125.alloc | apply IsS125.drewN | apply IsS125.drew | apply IsS125.set_0 | apply IsS125.set_1 | apply IsS125.set_2 | refine IsS125.far ?_ NB306_315.out _) | exact HI306.out)) (kS HO_5.out) (by decide)) hk (fun _ h => h.2)) (fun _ h => h.1))
        replace HO_316003 := am (Kd.R_mono (Kd.R_keep (IsS125.apart (show IsS125 w _ g306 x307000_2 x307001_2 x307002_2 from by repeat (first | (with_reducible first | exact HI306.out | apply IsS125.alloc | apply IsS125.drewN | apply IsS125.drew | apply IsS125.set_0 | apply IsS125.set_1 | apply IsS125.set_2 | refine IsS125.far ?_ NB306_315.out _) | exact HI306.out)) (kR HO_316003.out) (by decide)) hk (fun _ h => h.2)) (fun _ h => h.1))
        replace BK315 := am (KeepBut.blk hk (g' := gb315) (o := .cells #[.int .i64 t311, .int .i64 0, .string (⟨#[]⟩ : ByteArray), u316003] 46 (0, 0)) (bk BK315.out) NB315_306.out (by simp))
        replace HB := am (hb)
        replace HI306 := am (hi)
        (try clear hb)
        (try clear hb2)
        (try clear hk)
        (try clear hi)
        refine hK.out _ _ ⟨(blk_cell BK315.out 0).trans rfl, (blk_cell BK315.out 1).trans rfl, (blk_cell BK315.out 2).trans rfl, (blk_cell BK315.out 3).trans rfl⟩ (fun hHeld => ?_)
        clear hK K
        refine norm_ (a' := ?_) ?_ ?_
        rotate_left
        ·
         show Act.put _ (some 23) _ = _
         simp only [Act.put, List.setIfInBounds_toArray, List.set_cons_zero, List.set_cons_succ, i64_w, i32_w]
         rfl
        refine one_ (i := 5) (N := some 25) #[true, true, true, true, true, true, false, false, false, false, false] rfl rfl (one_of HT_.out (by kernel_rfl)) (by decide) (fun K hK => ?_)
        refine goes_ Tryd.func53 (by kernel_rfl) rfl #[.pointer (some ⟨g306, 0, none⟩), .int .i64 4096] (by rfl) rfl rfl gl ?_
        with_reducible refine (octet_Reader_Int.calls k2 g306 t321 t322 t323 4096 t324 t325 t326 t327 w _ ?side1 ?side2 A16.out).mono ?_
        (case side1 => repeat (first | (with_reducible first | exact HI306.out | apply IsS125.alloc | apply IsS125.drewN | apply IsS125.drew | apply IsS125.set_0 | apply IsS125.set_1 | apply IsS125.set_2 | refine IsS125.far ?_ NB306_315.out _) | exact HI306.out))
        (case side2 => repeat (first | (with_reducible first | exact HB.out | apply below_alloc | apply pw_below_drewN | apply below_drew1 | refine below_set ?_ (IsS125.ge HI306.out) | refine below_set ?_ GE315.out) | exact HB.out))
        rintro e w20 ⟨rfl, hi, hb, hk⟩
        refine ⟨_, rfl, ?_⟩
        replace HO_5 := am (Kd.S_mono (Kd.S_keep (IsS125.apartS (show IsS125 w _ g306 t321 t322 t323 from by repeat (first | (with_reducible first | exact HI306.out | apply IsS125.alloc | apply IsS125.drewN | apply IsS125.drew | apply IsS125.set_0 | apply IsS125.set_1 | apply IsS125.set_2 | refine IsS125.far ?_ NB306_315.out _) | exact HI306.out)) (kS HO_5.out) (by decide)) hk (fun _ h => h.2)) (fun _ h => h.1))
        replace HO_316003 := am (Kd.R_mono (Kd.R_keep (IsS125.apart (show IsS125 w _ g306 t321 t322 t323 from by repeat (first | (with_reducible first | exact HI306.out | apply IsS125.alloc | apply IsS125.drewN | apply IsS125.drew | apply IsS125.set_0 | apply IsS125.set_1 | apply IsS125.set_2 | refine IsS125.far ?_ NB306_315.out _) | exact HI306.out)) (kR HO_316003.out) (by decide)) hk (fun _ h => h.2)) (fun _ h => h.1))
        replace BK315 := am (KeepBut.blk hk (g' := gb315) (o := .cells #[.int .i64 t311, .int .i64 0, .string (⟨#[]⟩ : ByteArray), u316003] 46 (0, 0)) (bk BK315.out) NB315_306.out (by simp))
        replace HB := am (hb)
        replace HI306 := am (hi)
        (try clear hb)
        (try clear hb2)
        (try clear hk)
        (try clear hi)
        refine hK.out _ _ ⟨(blk_cell BK315.out 0).trans rfl, (blk_cell BK315.out 1).trans rfl, (blk_cell BK315.out 2).trans rfl, (blk_cell BK315.out 3).trans rfl⟩ (fun hHeld => ?_)
        clear hK K
        refine norm_ (a' := ?_) ?_ ?_
        rotate_left
        ·
         show Act.put _ (some 25) _ = _
         simp only [Act.put, List.setIfInBounds_toArray, List.set_cons_zero, List.set_cons_succ, i64_w, i32_w]
         rfl
        refine pu 6 (some 26) HT_.out ?_
        refine one_ (i := 7) (N := some 27) #[true, true, true, true, true, true, true, true, false, false, false] rfl rfl (one_of HT_.out (by kernel_rfl)) (by decide) (fun K hK => ?_)
        refine value_ (w1 := ?_) (v := ?_) (by rfl) rfl ?_ ?_
        rotate_left 2
        ·
         go_simp
         constructor
         ·
          rfl
         ·
          rfl
        refine hK.out _ _ ⟨(blk_cell (blk_alloc BK315.out _) 0).trans rfl, (blk_cell (blk_alloc BK315.out _) 1).trans rfl, (blk_cell (blk_alloc BK315.out _) 2).trans rfl, (blk_cell (blk_alloc BK315.out _) 3).trans rfl⟩ (fun hHeld => ?_)
        clear hK K
        refine norm_ (a' := ?_) ?_ ?_
        rotate_left
        ·
         show Act.put _ (some 27) _ = _
         simp only [Act.put, List.setIfInBounds_toArray, List.set_cons_zero, List.set_cons_succ, i64_w, i32_w]
         rfl
        refine one_ (i := 8) (N := some 28) #[true, true, true, true, true, true, true, true, true, false, false] rfl rfl (one_of HT_.out (by kernel_rfl)) (by decide) (fun K hK => ?_)
        refine Kd.R_append_step k63 (w0 := w) w.heap.size (by rfl) (.tmp 21) (.tmp 27) 24 63 (.agg #[(.string ⟨#[]⟩), (.int .i64 0)]) 24 rfl Tryd.underlying24 info63 rfl (by decide) (by omega) u316003 x316003_2 (⟨t320, t324⟩ : S63) [.string t320, .int .i64 t324] (fun _ => True) (fun _ => False) rfl rfl ?aP (fun _ hk => hk.elim) ?aF ?aO ?aB ?aS ?aL ?_
        (case aP => exact k63_mkM _ _ _ (⟨t320, t324⟩ : S63))
        (case aB => exact (by repeat (first | (with_reducible first | exact HB.out | apply below_alloc | apply pw_below_drewN | apply below_drew1 | refine below_set ?_ (IsS125.ge HI306.out) | refine below_set ?_ GE315.out) | exact HB.out)))
        (case aF => exact (fun _ _ => trivial))
        (case aO => exact (kR HO_316003.out))
        (case aS => exact (below_size (by repeat (first | (with_reducible first | exact HB.out | apply below_alloc | apply pw_below_drewN | apply below_drew1 | refine below_set ?_ (IsS125.ge HI306.out) | refine below_set ?_ GE315.out) | exact HB.out))))
        (case aL => have := LMc17.out; omega)
        intro v329 w21 ho hb hg hat
        rw [← Ny328.out] at ho
        have n0_ := am (Kd.S_after (ok := (fun k_ => k_ ≠ gb315)) (by (with_reducible repeat (first | apply Kd.S_alloc | apply Kd.S_drewN | apply Kd.S_drew)); exact Kd.S_mono HO_5.out (fun _ hk => ⟨hk.2, hk.1⟩)) hg hat)
        have n1_ := am (blk_grown (g := gb315) (o := .cells #[.int .i64 t311, .int .i64 0, .string (⟨#[]⟩ : ByteArray), u316003] 46 (0, 0)) (bk BK315.out) hg (Kd.R_ne HO_316003.out BK315.out (by decide)))
        have n2_ := am (IsS125.grown (by repeat (first | (with_reducible first | exact HI306.out | apply IsS125.alloc | apply IsS125.drewN | apply IsS125.drew | apply IsS125.set_0 | apply IsS125.set_1 | apply IsS125.set_2 | refine IsS125.far ?_ NB306_315.out _) | exact HI306.out)) hg (IsS125.own_ne HI306.out HO_316003.out (by decide)))
        have n3_ := am (hb)
        have n4_ := am (ho)
        clear HO_5
        clear BK315
        clear HI306
        clear HB
        clear HO_316003
        have HO_5 := n0_
        have BK315 := n1_
        have HI306 := n2_
        have HB := n3_
        have HO330 := n4_
        clear n0_ n1_ n2_ n3_ n4_
        clear ho hb hg hat
        obtain ⟨Ao22, co22, eo22⟩ := Kd.R_slice HO330.out
        (first | subst eo22 | (injection eo22 with f1_ f2_ f3_; have f4_ := f1_.symm; have f5_ := f3_.symm; clear f1_ f2_ f3_; subst f4_; subst f5_))
        refine hK.out _ _ ⟨(blk_cell BK315.out 0).trans rfl, (blk_cell BK315.out 1).trans rfl, (blk_cell BK315.out 2).trans rfl, (blk_cell BK315.out 3).trans rfl⟩ (fun hHeld => ?_)
        clear hK K
        refine norm_ (a' := ?_) ?_ ?_
        rotate_left
        ·
         show Act.put _ (some 28) _ = _
         simp only [Act.put, List.setIfInBounds_toArray, List.set_cons_zero, List.set_cons_succ, i64_w, i32_w]
         rfl
        refine pu 9 (some 29) HT_.out ?_
        refine last_ (i := 10) (N := none) #[true, true, true, true, true, true, true, true, true, true, true] rfl rfl (one_of HT_.out (by kernel_rfl)) (by decide) (fun K hK => ?_)
        have hs23 : w21.cell? ⟨gb315, 3, none⟩ = some (u316003) := (blk_cell BK315.out 3).trans rfl
        have hfs23 := blk_frozen BK315.out 3
        refine skip_ (w1 := ?_) (by rfl) rfl ?_ ?_
        rotate_left
        ·
         go_simp
         rfl
        refine hK.out _ _ ?_
        clear hK K
        refine done_ (done_of HT_.out (by kernel_rfl)) ?_
        try go_wp2
        go_roundg k2
        case measure => have := HK1.out; have := HK2.out; omega
        case rel => exact ⟨(wrap64 (x18_2 + 1)), (t325), (t326), (t327), (y328), (.slice Ao22 y328.length co22), rs, H', ⟨by have := HK1.out; have := HK2.out; omega⟩, ⟨by (with_reducible repeat (first | apply Kd.S_alloc | apply Kd.S_drewN | apply Kd.S_drew)); exact Kd.S_mono (Kd.S_far (p := ⟨gb315, 3, none⟩) (Kd.S_mono HO_5.out (fun k_ hk => (⟨hk, hk.1⟩ : _ ∧ k_ ≠ gb315))) (fun _ hk => hk.2) (.slice Ao22 y328.length co22)) (fun _ hk => ⟨hk.1.2, hk.1.1⟩)⟩, ⟨by (with_reducible repeat (first | apply Kd.R_alloc | apply Kd.R_drewN | apply Kd.R_drew)); exact Kd.R_mono (Kd.R_far (p := ⟨gb315, 3, none⟩) (Kd.R_types HO330.out BK315.out (by decide)) (fun _ hk => hk.2) (.slice Ao22 y328.length co22)) (fun _ hk => trivial)⟩, ⟨bkp BK315.out⟩, ⟨by repeat (first | (with_reducible first | exact HI306.out | apply IsS125.alloc | apply IsS125.drewN | apply IsS125.drew | apply IsS125.set_0 | apply IsS125.set_1 | apply IsS125.set_2 | refine IsS125.far ?_ NB306_315.out _) | exact HI306.out)⟩, ⟨by repeat (first | (with_reducible first | exact HB.out | apply below_alloc | apply pw_below_drewN | apply below_drew1 | refine below_set ?_ (IsS125.ge HI306.out) | refine below_set ?_ GE315.out) | exact HB.out)⟩⟩
       ·
        rw [if_neg c17] at H
        exact absurd H (by simp)
      ·
       obtain ⟨⟨t331, t332, t333, t334⟩, A24, H⟩ := obE H
       try dsimp only at H
       obtain ⟨⟨t335, t336⟩, A25, H⟩ := obE H
       try dsimp only at H
       by_cases c26 : x5_1.length < 2513169434916
       ·
        rw [if_pos c26] at H
        have LMc26 := am c26
        clear c26
        obtain ⟨y337, hy337⟩ : ∃ y_ : List (S46), y_ = (x5_1 ++ [(⟨t311, t335, t331, x316003_2⟩ : S46)]) := ⟨_, rfl⟩
        replace H : (parts_Decode.l0 k2 y337 t307 (wrap64 (x11_1 + 1)) t332 t333 t334) = some (r1, r2) := by first | (rw [hy337]; with_reducible exact H) | (have H2_ := (Option.bind_some _ _).symm.trans H; rw [hy337]; with_reducible exact H2_) | (have H2_ := (Option.bind_some _ _).symm.trans H; with_reducible exact H2_) | with_reducible exact H | (rw [hy337]; exact H) | exact H
        have Ny337 := am hy337
        clear hy337
        have H' := am H
        clear H
        go_wp2_with (first | ((with_reducible refine gate_callee (f := 54) rfl ?_); refine goesL_ (some 32) rfl rfl Tryd.func54 (by kernel_rfl) rfl #[.pointer (some ⟨g306, 0, none⟩), .int .i64 64] rfl gl ?_; (with_reducible refine (octet_Reader_Text.calls k2 g306 x307000_2 x307001_2 x307002_2 64 t331 t332 t333 t334 w _ ?side1 ?side2 A24.out).mono ?_); (case side1 => repeat (first | (with_reducible first | exact HI306.out | apply IsS125.alloc | apply IsS125.drewN | apply IsS125.drew | apply IsS125.set_0 | apply IsS125.set_1 | apply IsS125.set_2 | refine IsS125.far ?_ NB306_315.out _) | exact HI306.out)); (case side2 => repeat (first | (with_reducible first | exact HB.out | apply below_alloc | apply pw_below_drewN | apply below_drew1 | refine below_set ?_ (IsS125.ge HI306.out) | refine below_set ?_ GE315.out) | exact HB.out)); rintro e w27 ⟨rfl, hi, hb, hk⟩; refine ⟨_, rfl, ?_⟩; replace HO_5 := am (Kd.S_mono (Kd.S_keep (IsS125.apartS (show IsS125 w _ g306 x307000_2 x307001_2 x307002_2 from by repeat (first | (with_reducible first | exact HI306.out | apply IsS125.alloc | apply IsS125.drewN | apply IsS125.drew | apply IsS125.set_0 | apply IsS125.set_1 | apply IsS125.set_2 | refine IsS125.far ?_ NB306_315.out _) | exact HI306.out)) (kS HO_5.out) (by decide)) hk (fun _ h => h.2)) (fun _ h => h.1)); replace HO_316003 := am (Kd.R_mono (Kd.R_keep (IsS125.apart (show IsS125 w _ g306 x307000_2 x307001_2 x307002_2 from by repeat (first | (with_reducible first | exact HI306.out | apply IsS125.alloc | apply IsS125.drewN | apply IsS125.drew | apply IsS125.set_0 | apply IsS125.set_1 | apply IsS125.set_2 | refine IsS125.far ?_ NB306_315.out _) | exact HI306.out)) (kR HO_316003.out) (by decide)) hk (fun _ h => h.2)) (fun _ h => h.1)); replace BK315 := am (KeepBut.blk hk (g' := gb315) (o := .cells #[.int .i64 t311, .int .i64 0, .string (⟨#[]⟩ : ByteArray), u316003] 46 (0, 0)) (bk BK315.out) NB315_306.out (by simp)); replace HB := am (hb); replace HI306 := am (hi); (try clear hb); (try clear hk); (try clear hi); have hnb28 := NB315_306.out; have hnc28 := NB306_315.out; obtain ⟨hcz29_0, hcz29_1, hcz29_2, hcz29_3, hfz29_0, hfz29_1, hfz29_2, hfz29_3⟩ := cz4 BK315.out; obtain ⟨Ao30, co30, eo30⟩ := Kd.R_slice HO_316003.out; subst eo30) | ((with_reducible refine gate_callee (f := 42) rfl ?_); refine goesL_ (some 37) rfl rfl Tryd.func42 (by kernel_rfl) rfl #[.slice Ao30 x316003_2.length co30] rfl gl ?_; (with_reducible refine (chain_Pieces.calls k2 _ _ x316003_2 t335 t336 _ ?side1 ?side2 A25.out).mono ?_); (case side1 => refine (Kd.R_reads' (e := 63) (base := w.heap.size) (ok := fun k_ => True) (n := x316003_2.length) (c := co30) ?_).2.2; exact (by (with_reducible repeat (first | apply Kd.R_alloc | apply Kd.R_drewN | apply Kd.R_drew)); exact (Kd.R_mono (Kd.R_far (p := ⟨gb315, 2, none⟩) (Kd.R_types HO_316003.out BK315.out (by decide)) (fun _ hk => hk.2) (.string t331)) (fun _ h_ => h_.1)))); (case side2 => exact (Kd.R_reads' HO_316003.out).2.1); rintro e w31 ⟨rfl, hb⟩; refine ⟨_, rfl, ?_⟩; replace HO_5 := am (Kd.S_below (by (with_reducible repeat (first | apply Kd.S_alloc | apply Kd.S_drewN | apply Kd.S_drew)); exact (Kd.S_mono (Kd.S_far (p := ⟨gb315, 2, none⟩) (Kd.S_mono HO_5.out (fun k_ hk => (⟨hk, hk.2⟩ : _ ∧ k_ ≠ gb315))) (fun _ hk => hk.2) (.string t331)) (fun _ h_ => h_.1))) hb); replace HO_316003 := am (Kd.R_below (by (with_reducible repeat (first | apply Kd.R_alloc | apply Kd.R_drewN | apply Kd.R_drew)); exact (Kd.R_mono (Kd.R_far (p := ⟨gb315, 2, none⟩) (Kd.R_types HO_316003.out BK315.out (by decide)) (fun _ hk => hk.2) (.string t331)) (fun _ h_ => h_.1))) hb); replace BK315 := am (blk_below (g := gb315) (o := .cells #[.int .i64 t311, .int .i64 0, .string t331, .slice Ao30 x316003_2.length co30] 46 (0, 0)) (bkp BK315.out) hb); replace HB := am (below_step (by repeat (first | (with_reducible first | exact HB.out | apply below_alloc | apply pw_below_drewN | apply below_drew1 | refine below_set ?_ (IsS125.ge HI306.out) | refine below_set ?_ GE315.out) | exact HB.out)) hb); replace HI306 := am (IsS125.below (show IsS125 w (w27.setCell ⟨gb315, 2, none⟩ (.string t331)) g306 t332 t333 t334 from by repeat (first | (with_reducible first | exact HI306.out | apply IsS125.alloc | apply IsS125.drewN | apply IsS125.drew | apply IsS125.set_0 | apply IsS125.set_1 | apply IsS125.set_2 | refine IsS125.far ?_ NB306_315.out _) | exact HI306.out)) hb); (try clear hb); obtain ⟨hcz32_0, hcz32_1, hcz32_2, hcz32_3, hfz32_0, hfz32_1, hfz32_2, hfz32_3⟩ := cz4 BK315.out) | ((with_reducible refine gate_store (t := 3) (p := 40) rfl ?_); refine store_event (t := 3) (p := 40) (v := ?vo_w33) (w1 := (w31.setCell ⟨gb315, 1, none⟩ (.int .i64 t335))) ?hg ?ho ?hn ?hr ?_; (case ho => rfl); (case hg => rfl); (case hn => rfl); (case hr => first | (go_simp; done) | (go_simp; rfl)); intro w33 hw; have n0_ : Aside0 (Kd.S k46 46 w33 w.heap.size (fun k_ => some k_ ≠ (.slice Ao30 x316003_2.length co30 : Value).ownBlock ∧ k_ ≠ gb315) u5 x5_1) := ⟨(by rw [hw]; exact (by (with_reducible repeat (first | apply Kd.S_alloc | apply Kd.S_drewN | apply Kd.S_drew)); exact Kd.S_mono (Kd.S_far (p := ⟨gb315, 1, none⟩) (Kd.S_mono HO_5.out (fun k_ hk => (⟨hk, hk.2⟩ : _ ∧ k_ ≠ gb315))) (fun _ hk => hk.2) (.int .i64 t335)) (fun _ hk => ⟨hk.1.1, hk.1.2⟩)))⟩; have n1_ : Aside0 (Kd.R k63 63 w33 w.heap.size (fun _ => True) (.slice Ao30 x316003_2.length co30) x316003_2) := ⟨(by rw [hw]; exact (by (with_reducible repeat (first | apply Kd.R_alloc | apply Kd.R_drewN | apply Kd.R_drew)); exact Kd.R_mono (Kd.R_far (p := ⟨gb315, 1, none⟩) (Kd.R_types HO_316003.out BK315.out (by decide)) (fun _ hk => hk.2) (.int .i64 t335)) (fun _ hk => trivial)))⟩; have n2_ : Aside0 (w33.heap[gb315]? = some (.cells #[.int .i64 t311, .int .i64 t335, .string t331, .slice Ao30 x316003_2.length co30] 46 (0, 0))) := ⟨(by rw [hw]; exact (bkp BK315.out))⟩; have n3_ : Aside0 (IsS125 w w33 g306 t332 t333 t334) := ⟨(by rw [hw]; exact (by repeat (first | (with_reducible first | exact HI306.out | apply IsS125.alloc | apply IsS125.drewN | apply IsS125.drew | apply IsS125.set_0 | apply IsS125.set_1 | apply IsS125.set_2 | refine IsS125.far ?_ NB306_315.out _) | exact HI306.out)))⟩; have n4_ : Aside0 (Below w.heap.size w w33) := ⟨(by rw [hw]; exact (by repeat (first | (with_reducible first | exact HB.out | apply below_alloc | apply pw_below_drewN | apply below_drew1 | refine below_set ?_ (IsS125.ge HI306.out) | refine below_set ?_ GE315.out) | exact HB.out)))⟩; clear hw; clear HO_5; clear HO_316003; clear BK315; clear HI306; clear HB; have HO_5 := n0_; have HO_316003 := n1_; have BK315 := n2_; have HI306 := n3_; have HB := n4_; clear n0_ n1_ n2_ n3_ n4_; obtain ⟨hcz34_0, hcz34_1, hcz34_2, hcz34_3, hfz34_0, hfz34_1, hfz34_2, hfz34_3⟩ := cz4 BK315.out) | ((with_reducible refine gate_builtin (b := .append) (xs := #[.tmp 41, .tmp 43]) rfl ?_); at_builtin; refine Kd.S_append k46 (w0 := w) w.heap.size rfl (.tmp 41) (.tmp 43) 22 46 (.agg #[(.int .i64 0), (.int .i64 0), (.string ⟨#[]⟩), (.slice none 0 0)]) 56 rfl Tryd.underlying22 info46 rfl (by decide) (by omega) u5 x5_1 (⟨t311, t335, t331, x316003_2⟩ : S46) [.int .i64 t311, .int .i64 t335, .string t331, .slice Ao30 x316003_2.length co30] (fun k_ => k_ ≠ gb315) (fun k_ => some k_ = (.slice Ao30 x316003_2.length co30 : Value).ownBlock) rfl rfl ?aP (fun k_ hk_ => ((Kd.R_mono (ok' := fun k_ => ((fun k_ => k_ ≠ gb315)) k_ ∧ some k_ ≠ (u5 : Value).ownBlock) (Kd.R_types (Kd.R_apart' (HO_316003.out) (Kd.S_typed HO_5.out) (by decide)) BK315.out (by decide)) (fun k_ hk => ⟨hk.2, hk.1.2⟩))).1 k_ hk_.symm) ?aF ?aO ?aB ?aS ?aL ?_; (case aP => exact k46_mkM _ _ _ (⟨t311, t335, t331, x316003_2⟩ : S46) (Kd.R_mono (Kd.R_tight rfl (Kd.R_mono (ok' := fun k_ => ((fun k_ => k_ ≠ gb315)) k_ ∧ some k_ ≠ (u5 : Value).ownBlock) (Kd.R_types (Kd.R_apart' (HO_316003.out) (Kd.S_typed HO_5.out) (by decide)) BK315.out (by decide)) (fun k_ hk => ⟨hk.2, hk.1.2⟩))) (fun _ h_ => h_))); (case aB => exact (by repeat (first | (with_reducible first | exact HB.out | apply below_alloc | apply pw_below_drewN | apply below_drew1 | refine below_set ?_ (IsS125.ge HI306.out) | refine below_set ?_ GE315.out) | exact HB.out))); (case aF => exact (fun k_ hk => Kd.freshB (g := gb315) (o := .cells #[.int .i64 t311, .int .i64 t335, .string t331, .slice Ao30 x316003_2.length co30] 46 (0, 0)) (bk BK315.out) k_ hk)); (case aO => exact (by (with_reducible repeat (first | apply Kd.S_alloc | apply Kd.S_drewN | apply Kd.S_drew)); exact Kd.S_mono HO_5.out (fun k_ hk => ⟨hk.2, fun e_ => hk.1 e_⟩))); (case aS => exact (below_size (by repeat (first | (with_reducible first | exact HB.out | apply below_alloc | apply pw_below_drewN | apply below_drew1 | refine below_set ?_ (IsS125.ge HI306.out) | refine below_set ?_ GE315.out) | exact HB.out)))); (case aL => have := LMc26.out; omega); intro v338 w35 ho hb hg hat; rw [← Ny337.out] at ho; have n0_ := am (blk_grown (g := gb315) (o := .cells #[.int .i64 t311, .int .i64 t335, .string t331, .slice Ao30 x316003_2.length co30] 46 (0, 0)) (bk BK315.out) hg (Kd.S_away HO_5.out (fun _ hk => hk.2))); have n1_ := am (IsS125.grown (by repeat (first | (with_reducible first | exact HI306.out | apply IsS125.alloc | apply IsS125.drewN | apply IsS125.drew | apply IsS125.set_0 | apply IsS125.set_1 | apply IsS125.set_2 | refine IsS125.far ?_ NB306_315.out _) | exact HI306.out)) hg (IsS125.own_neS HI306.out HO_5.out (by decide))); have n2_ := am (hb); have n3_ := am (ho); clear BK315; clear HI306; clear HB; clear HO_5; clear HO_316003; have BK315 := n0_; have HI306 := n1_; have HB := n2_; have HO339 := n3_; clear n0_ n1_ n2_ n3_; clear ho hb hg hat))
        go_roundg k2
        case measure => have := HK1.out; have := HK2.out; omega
        case rel => exact ⟨(y337), (wrap64 (x11_1 + 1)), (t332), (t333), (t334), rs, H', ⟨by have := HK1.out; have := HK2.out; omega⟩, ⟨by (with_reducible repeat (first | apply Kd.S_alloc | apply Kd.S_drewN | apply Kd.S_drew)); exact Kd.S_mono HO339.out (fun _ hk => trivial)⟩, ⟨by repeat (first | (with_reducible first | exact HI306.out | apply IsS125.alloc | apply IsS125.drewN | apply IsS125.drew | apply IsS125.set_0 | apply IsS125.set_1 | apply IsS125.set_2 | refine IsS125.far ?_ NB306_315.out _) | exact HI306.out)⟩, ⟨by repeat (first | (with_reducible first | exact HB.out | apply below_alloc | apply pw_below_drewN | apply below_drew1 | refine below_set ?_ (IsS125.ge HI306.out) | refine below_set ?_ GE315.out) | exact HB.out)⟩⟩
       ·
        rw [if_neg c26] at H
        exact absurd H (by simp)
   ·
    obtain ⟨⟨t340, t341, t342, t343⟩, A36, H⟩ := obE H
    try dsimp only at H
    by_cases c37 : t340 = 0
    ·
     rw [if_pos c37] at H
     have c37b0 := beq_iff_eq.mpr c37
     have c37b1 := bne_eq_false_iff_eq.mpr c37
     clear c37
     obtain ⟨t344, A38, H⟩ := obE H
     by_cases c39 : t344 = true
     ·
      subst c39
      rw [if_pos rfl] at H
      simp only [Option.some.injEq, Prod.mk.injEq] at H
      obtain ⟨rfl, rfl⟩ := H
      go_wp2_with (first | ((with_reducible refine gate_callee (f := 55) rfl ?_); refine goesL_ (some 47) rfl rfl Tryd.func55 (by kernel_rfl) rfl #[.pointer (some ⟨g306, 0, none⟩)] rfl gl ?_; (with_reducible refine (octet_Reader_End.calls g306 x307000_1 x307001_1 x307002_1 t340 t341 t342 t343 w _ ?side1 ?side2 A36.out).mono ?_); (case side1 => repeat (first | (with_reducible first | exact HI306.out | apply IsS125.alloc | apply IsS125.drewN | apply IsS125.drew | apply IsS125.set_0 | apply IsS125.set_1 | apply IsS125.set_2) | exact HI306.out)); (case side2 => repeat (first | (with_reducible first | exact HB.out | apply below_alloc | apply pw_below_drewN | apply below_drew1 | refine below_set ?_ (IsS125.ge HI306.out)) | exact HB.out)); rintro e w40 ⟨rfl, hi, hb, hk⟩; refine ⟨_, rfl, ?_⟩; replace HO_5 := am (Kd.S_mono (Kd.S_keep (IsS125.apartS (show IsS125 w _ g306 x307000_1 x307001_1 x307002_1 from by repeat (first | (with_reducible first | exact HI306.out | apply IsS125.alloc | apply IsS125.drewN | apply IsS125.drew | apply IsS125.set_0 | apply IsS125.set_1 | apply IsS125.set_2) | exact HI306.out)) (kS HO_5.out) (by decide)) hk (fun _ h => h.2)) (fun _ h => h.1)); replace HB := am (hb); replace HI306 := am (hi); (try clear hb); (try clear hk); (try clear hi); obtain ⟨Ao41, co41, eo41⟩ := Kd.S_slice HO_5.out; subst eo41) | (go_at_call 29; (with_reducible refine (parts_right.calls k1 _ _ x5_1 true _ ?side1 ?side2 A38.out).mono ?_); (case side1 => repeat (first | exact (Kd.S_reads' HO_5.out).2.2 | (with_reducible refine Kd.C_alloc ?_ _) | (with_reducible refine Kd.C_drewN ?_ _) | (with_reducible refine Kd.C_drew ?_))); (case side2 => exact (Kd.S_reads' HO_5.out).2.1); rintro e w42 ⟨rfl, hb⟩; replace HO_5 := am (Kd.S_below (kS HO_5.out) hb); replace HB := am (below_step (by repeat (first | (with_reducible first | exact HB.out | apply below_alloc | apply pw_below_drewN | apply below_drew1 | refine below_set ?_ (IsS125.ge HI306.out)) | exact HB.out)) hb); replace HI306 := am (IsS125.below (by repeat (first | (with_reducible first | exact HI306.out | apply IsS125.alloc | apply IsS125.drewN | apply IsS125.drew | apply IsS125.set_0 | apply IsS125.set_1 | apply IsS125.set_2) | exact HI306.out)) hb); (try clear hb)))
      go_ret2
      exact ⟨_, rf, kS HO_5.out, by repeat (first | (with_reducible first | exact HB.out | apply below_alloc | apply pw_below_drewN | apply below_drew1 | refine below_set ?_ (IsS125.ge HI306.out)) | exact HB.out)⟩
     ·
      replace c39 := Bool.eq_false_iff.mpr c39
      subst c39
      rw [if_neg (show ¬ (false = true) by decide)] at H
      simp only [Option.some.injEq, Prod.mk.injEq] at H
      obtain ⟨rfl, rfl⟩ := H
      go_wp2_with (first | ((with_reducible refine gate_callee (f := 55) rfl ?_); refine goesL_ (some 47) rfl rfl Tryd.func55 (by kernel_rfl) rfl #[.pointer (some ⟨g306, 0, none⟩)] rfl gl ?_; (with_reducible refine (octet_Reader_End.calls g306 x307000_1 x307001_1 x307002_1 t340 t341 t342 t343 w _ ?side1 ?side2 A36.out).mono ?_); (case side1 => repeat (first | (with_reducible first | exact HI306.out | apply IsS125.alloc | apply IsS125.drewN | apply IsS125.drew | apply IsS125.set_0 | apply IsS125.set_1 | apply IsS125.set_2) | exact HI306.out)); (case side2 => repeat (first | (with_reducible first | exact HB.out | apply below_alloc | apply pw_below_drewN | apply below_drew1 | refine below_set ?_ (IsS125.ge HI306.out)) | exact HB.out)); rintro e w43 ⟨rfl, hi, hb, hk⟩; refine ⟨_, rfl, ?_⟩; replace HO_5 := am (Kd.S_mono (Kd.S_keep (IsS125.apartS (show IsS125 w _ g306 x307000_1 x307001_1 x307002_1 from by repeat (first | (with_reducible first | exact HI306.out | apply IsS125.alloc | apply IsS125.drewN | apply IsS125.drew | apply IsS125.set_0 | apply IsS125.set_1 | apply IsS125.set_2) | exact HI306.out)) (kS HO_5.out) (by decide)) hk (fun _ h => h.2)) (fun _ h => h.1)); replace HB := am (hb); replace HI306 := am (hi); (try clear hb); (try clear hk); (try clear hi); obtain ⟨Ao44, co44, eo44⟩ := Kd.S_slice HO_5.out; subst eo44) | (go_at_call 29; (with_reducible refine (parts_right.calls k1 _ _ x5_1 false _ ?side1 ?side2 A38.out).mono ?_); (case side1 => repeat (first | exact (Kd.S_reads' HO_5.out).2.2 | (with_reducible refine Kd.C_alloc ?_ _) | (with_reducible refine Kd.C_drewN ?_ _) | (with_reducible refine Kd.C_drew ?_))); (case side2 => exact (Kd.S_reads' HO_5.out).2.1); rintro e w45 ⟨rfl, hb⟩; replace HO_5 := am (Kd.S_below (kS HO_5.out) hb); replace HB := am (below_step (by repeat (first | (with_reducible first | exact HB.out | apply below_alloc | apply pw_below_drewN | apply below_drew1 | refine below_set ?_ (IsS125.ge HI306.out)) | exact HB.out)) hb); replace HI306 := am (IsS125.below (by repeat (first | (with_reducible first | exact HI306.out | apply IsS125.alloc | apply IsS125.drewN | apply IsS125.drew | apply IsS125.set_0 | apply IsS125.set_1 | apply IsS125.set_2) | exact HI306.out)) hb); (try clear hb)))
      go_ret2
      exact ⟨_, rf, niS, by repeat (first | (with_reducible first | exact HB.out | apply below_alloc | apply pw_below_drewN | apply below_drew1 | refine below_set ?_ (IsS125.ge HI306.out)) | exact HB.out)⟩
    ·
     rw [if_neg c37] at H
     have c37b0 := beq_eq_false_iff_ne.mpr c37
     have c37b1 := bne_iff_ne.mpr c37
     simp only [Option.some.injEq, Prod.mk.injEq] at H
     obtain ⟨rfl, rfl⟩ := H
     go_wp2_with (first | ((with_reducible refine gate_callee (f := 55) rfl ?_); refine goesL_ (some 47) rfl rfl Tryd.func55 (by kernel_rfl) rfl #[.pointer (some ⟨g306, 0, none⟩)] rfl gl ?_; (with_reducible refine (octet_Reader_End.calls g306 x307000_1 x307001_1 x307002_1 t340 t341 t342 t343 w _ ?side1 ?side2 A36.out).mono ?_); (case side1 => repeat (first | (with_reducible first | exact HI306.out | apply IsS125.alloc | apply IsS125.drewN | apply IsS125.drew | apply IsS125.set_0 | apply IsS125.set_1 | apply IsS125.set_2) | exact HI306.out)); (case side2 => repeat (first | (with_reducible first | exact HB.out | apply below_alloc | apply pw_below_drewN | apply below_drew1 | refine below_set ?_ (IsS125.ge HI306.out)) | exact HB.out)); rintro e w46 ⟨rfl, hi, hb, hk⟩; refine ⟨_, rfl, ?_⟩; replace HO_5 := am (Kd.S_mono (Kd.S_keep (IsS125.apartS (show IsS125 w _ g306 x307000_1 x307001_1 x307002_1 from by repeat (first | (with_reducible first | exact HI306.out | apply IsS125.alloc | apply IsS125.drewN | apply IsS125.drew | apply IsS125.set_0 | apply IsS125.set_1 | apply IsS125.set_2) | exact HI306.out)) (kS HO_5.out) (by decide)) hk (fun _ h => h.2)) (fun _ h => h.1)); replace HB := am (hb); replace HI306 := am (hi); (try clear hb); (try clear hk); (try clear hi)))
     go_ret2
     exact ⟨_, rf, niS, by repeat (first | (with_reducible first | exact HB.out | apply below_alloc | apply pw_below_drewN | apply below_drew1 | refine below_set ?_ (IsS125.ge HI306.out)) | exact HB.out)⟩
mutual
def stowageref01_ReadNumber.j0 : Nat → ByteArray → Int → Bool → Option (Int × Int × Int)
 | 0, _, _, _ => none
 | k + 1, x0, x1, x18 => if x18 = true then (some (0, 0, 1)) else (stowageref01_ReadNumber.l0 k x0 x1 0 1 x1)
def stowageref01_ReadNumber.l0 : Nat → ByteArray → Int → Int → Int → Int → Option (Int × Int × Int)
 | 0, _, _, _, _, _ => none
 | k + 1, x0, x1, x7, x8, x9 => if x9 ≥ (x0.size : Int) then (some (0, 0, 5)) else (if 0 ≤ x9 then (if x9 < (x0.size : Int) then (if (wrap64 (x9 - x1)) = 9 then (if (IntKind.u64.wrap (bt x0 x9)) > 1 then (stowageref01_ReadNumber.j2 k x0 x1 x7 x8 x9 (IntKind.u64.wrap (bt x0 x9)) true) else (if x9 > x1 then (stowageref01_ReadNumber.j2 k x0 x1 x7 x8 x9 (IntKind.u64.wrap (bt x0 x9)) ((IntKind.u64.wrap (bt x0 x9)) == 0)) else (stowageref01_ReadNumber.j2 k x0 x1 x7 x8 x9 (IntKind.u64.wrap (bt x0 x9)) false))) else (if x9 > x1 then (stowageref01_ReadNumber.j2 k x0 x1 x7 x8 x9 (IntKind.u64.wrap (bt x0 x9)) ((IntKind.u64.wrap (bt x0 x9)) == 0)) else (stowageref01_ReadNumber.j2 k x0 x1 x7 x8 x9 (IntKind.u64.wrap (bt x0 x9)) false))) else (none)) else (none))
def stowageref01_ReadNumber.j2 : Nat → ByteArray → Int → Int → Int → Int → Int → Bool → Option (Int × Int × Int)
 | 0, _, _, _, _, _, _, _ => none
 | k + 1, x0, x1, x7, x8, x9, x10, x46 => if x46 = true then (some (0, 0, 3)) else (if x10 < 128 then (some (IntKind.u64.wrap (x7 + (IntKind.u64.wrap ((Int.tmod x10 128) * x8))), wrap64 (x9 + 1), 0)) else (stowageref01_ReadNumber.l0 k x0 x1 (IntKind.u64.wrap (x7 + (IntKind.u64.wrap ((Int.tmod x10 128) * x8)))) (IntKind.u64.wrap (x8 * 128)) (wrap64 (x9 + 1))))
end
def stowageref01_ReadNumber.f (k : Nat) (a0 : ByteArray) (a1 : Int) : Option (Int × Int × Int) := if a1 < 0 then (stowageref01_ReadNumber.j0 k a0 a1 true) else (stowageref01_ReadNumber.j0 k a0 a1 (decide (a1 > (a0.size : Int))))
theorem stowageref01_ReadNumber.mono_l : ∀ k, (∀ y0 y1 y2, LeO (stowageref01_ReadNumber.j0 k y0 y1 y2) (stowageref01_ReadNumber.j0 (k + 1) y0 y1 y2)) ∧ (∀ y0 y1 y2 y3 y4, LeO (stowageref01_ReadNumber.l0 k y0 y1 y2 y3 y4) (stowageref01_ReadNumber.l0 (k + 1) y0 y1 y2 y3 y4)) ∧ (∀ y0 y1 y2 y3 y4 y5 y6, LeO (stowageref01_ReadNumber.j2 k y0 y1 y2 y3 y4 y5 y6) (stowageref01_ReadNumber.j2 (k + 1) y0 y1 y2 y3 y4 y5 y6))
 | 0 => ⟨fun _ _ _ r h => by simp [stowageref01_ReadNumber.j0] at h, fun _ _ _ _ _ r h => by simp [stowageref01_ReadNumber.l0] at h, fun _ _ _ _ _ _ _ r h => by simp [stowageref01_ReadNumber.j2] at h⟩
 | k + 1 => by
  obtain ⟨ih0, ih1, ih2⟩ := stowageref01_ReadNumber.mono_l k
  refine ⟨?_, ?_, ?_⟩
  all_goals intros
  all_goals first | unfold stowageref01_ReadNumber.j0 | unfold stowageref01_ReadNumber.l0 | unfold stowageref01_ReadNumber.j2
  all_goals repeat' (with_reducible first | exact ih0 _ _ _ | exact ih1 _ _ _ _ _ | exact ih2 _ _ _ _ _ _ _ | exact LeO.refl _ | exact LeO.none _ | refine LeO.ite ?_ ?_ | refine LeO.bind ?_ (fun _ => ?_))
theorem stowageref01_ReadNumber.mono : ∀ a0 a1 k, LeO (stowageref01_ReadNumber.f k a0 a1) (stowageref01_ReadNumber.f (k + 1) a0 a1) := by
 intro a0 a1 k
 obtain ⟨ih0, ih1, ih2⟩ := stowageref01_ReadNumber.mono_l k
 unfold stowageref01_ReadNumber.f
 repeat' (with_reducible first | exact ih0 _ _ _ | exact ih1 _ _ _ _ _ | exact ih2 _ _ _ _ _ _ _ | exact LeO.refl _ | exact LeO.none _ | refine LeO.ite ?_ ?_ | refine LeO.bind ?_ (fun _ => ?_))
set_option maxHeartbeats 8000000 in
set_option maxRecDepth 100000 in
theorem stowageref01_ReadNumber.calls (k : Nat) (a0 : ByteArray) (a1 : Int) (r1 : Int) (r2 : Int) (r3 : Int) (w : World) (h : stowageref01_ReadNumber.f k a0 a1 = some (r1, r2, r3)) :
  Calls Tryd.prog 76 #[.string a0, .int .i64 a1] w fun e w' => e = .returned (.tuple #[.int .u64 r1, .int .i64 r2, .int .i64 r3]) ∧ Drawn0 w w' := by
 have H := h
 clear h
 unfold stowageref01_ReadNumber.f at H
 have HC3 := am H
 clear H
 go_enter Tryd.func76, Tryd.ntmps76
 go_upto_region 1 with (fail)
 go_cut [18] (fun v18 wc => ∃ (kq : Nat) (x18_2 : Bool), v18 = .bool x18_2 ∧ Aside0 (stowageref01_ReadNumber.j0 kq a0 a1 x18_2 = some (r1, r2, r3)) ∧ Aside0 (kq ≤ k) ∧ Drawn0 w wc)
 case first =>
  have H := HC3.out
  clear HC3
  rcases iteD H with ⟨c4b0, H⟩ | ⟨c4b0, H⟩
  ·
   (first | rw [c4b0] | (simp only [i64_w, i32_w]; rw [c4b0]) | skip)
   have H' := am H
   clear H
   go_wp2
   go_meet
   case rel => exact ⟨_, (true), rs, H', ⟨om⟩, by repeat (first | exact Drawn0.refl _ | apply Drawn0.step)⟩
  ·
   (first | rw [c4b0] | (simp only [i64_w, i32_w]; rw [c4b0]) | skip)
   have H' := am H
   clear H
   go_wp2
   go_meet
   case rel => exact ⟨_, (decide (a1 > (a0.size : Int))), rs, H', ⟨om⟩, by repeat (first | exact Drawn0.refl _ | apply Drawn0.step)⟩
 case rest =>
  clear HC3
  try clear p2
  try clear c4
  try clear c4b0
  obtain ⟨kq, x18_2, rfl, HA, HJ2, ⟨mc2, rfl⟩⟩ := hcut
  cases kq with
  | zero => exact absurd HA.out (by simp [stowageref01_ReadNumber.j0])
  | succ kj2 =>
   have H := HA.out
   clear HA
   simp only [stowageref01_ReadNumber.j0] at H
   by_cases c5 : x18_2 = true
   ·
    subst c5
    rw [if_pos rfl] at H
    simp only [Option.some.injEq, Prod.mk.injEq] at H
    obtain ⟨rfl, rfl, rfl⟩ := H
    go_wp2
    go_ret3
    exact ⟨by first | rfl | (simp; done) | (simp [*]; done), by repeat (first | exact Drawn0.refl _ | apply Drawn0.step)⟩
   ·
    replace c5 := Bool.eq_false_iff.mpr c5
    subst c5
    rw [if_neg (show ¬ (false = true) by decide)] at H
    have H' := am H
    clear H
    go_wp2
    go_loopg [7, 8, 9] kj2 (fun kq v7 v8 v9 w' => ∃ (x7_2 : Int) (x8_2 : Int) (x9_2 : Int), v7 = .int .u64 x7_2 ∧ v8 = .int .u64 x8_2 ∧ v9 = .int .i64 x9_2 ∧ Aside0 (stowageref01_ReadNumber.l0 kq a0 a1 x7_2 x8_2 x9_2 = some (r1, r2, r3)) ∧ Aside0 (kq ≤ kj2) ∧ Drawn0 w w')
    case atStart => exact ⟨(0), (1), (a1), rs, rs, rs, H', ⟨Nat.le_refl _⟩, by repeat (first | exact Drawn0.refl _ | apply Drawn0.step)⟩
    case round =>
     clear H'
     try clear c2
     try clear p2
     try clear c4
     try clear c4b0
     try clear c5
     try clear p2
     obtain ⟨x7_2, x8_2, x9_2, rfl, rfl, rfl, HA, HK2, ⟨m2, rfl⟩⟩ := hrel
     cases gk with
     | zero => exact absurd HA.out (by simp [stowageref01_ReadNumber.l0])
     | succ k2 =>
      have H := HA.out
      clear HA
      simp only [stowageref01_ReadNumber.l0] at H
      rcases iteD H with ⟨c6b0, H⟩ | ⟨c6b0, H⟩
      ·
       simp only [Option.some.injEq, Prod.mk.injEq] at H
       obtain ⟨rfl, rfl, rfl⟩ := H
       go_wp2
       go_ret3
       exact ⟨by first | rfl | (simp; done) | (simp [*]; done), by repeat (first | exact Drawn0.refl _ | apply Drawn0.step)⟩
      ·
       by_cases c7 : 0 ≤ x9_2
       ·
        rw [if_pos c7] at H
        have c7b0 := decide_eq_true c7
        clear c7
        rcases iteD H with ⟨c8b0, H⟩ | ⟨_, H⟩
        ·
         have HC10 := am H
         clear H
         have p9 := pz x9_2
         have q9 := pl x9_2 (a0.size : Int)
         have hx9 := bt_at a0 x9_2
         go_upto_region 10 with (fail)
         go_cut [46] (fun v46 wc => ∃ (kq : Nat) (x46_9 : Bool), v46 = .bool x46_9 ∧ Aside0 (stowageref01_ReadNumber.j2 kq a0 a1 x7_2 x8_2 x9_2 (IntKind.u64.wrap (bt a0 x9_2)) x46_9 = some (r1, r2, r3)) ∧ Aside0 (kq ≤ k2) ∧ Drawn0 w wc)
         case first =>
          have H := HC10.out
          clear HC10
          by_cases c11 : (wrap64 (x9_2 - a1)) = 9
          ·
           rw [if_pos c11] at H
           have c11b0 := beq_iff_eq.mpr c11
           have c11b1 := bne_eq_false_iff_eq.mpr c11
           clear c11
           (first | rw [c11b0] | (simp only [i64_w, i32_w]; rw [c11b0]) | skip)
           rcases iteD H with ⟨c12b0, H⟩ | ⟨c12b0, H⟩
           ·
            have H' := am H
            clear H
            go_wp2
            go_meet
            case rel => exact ⟨_, (true), rs, H', ⟨by have := HJ2.out; have := HK2.out; first | omega | exact Nat.le_refl _⟩, by repeat (first | exact Drawn0.refl _ | apply Drawn0.step)⟩
           ·
            rcases iteD H with ⟨c13b0, H⟩ | ⟨c13b0, H⟩
            ·
             have H' := am H
             clear H
             go_wp2
             go_meet
             case rel => exact ⟨_, (((IntKind.u64.wrap (bt a0 x9_2)) == 0)), rs, H', ⟨by have := HJ2.out; have := HK2.out; first | omega | exact Nat.le_refl _⟩, by repeat (first | exact Drawn0.refl _ | apply Drawn0.step)⟩
            ·
             have H' := am H
             clear H
             go_wp2
             go_meet
             case rel => exact ⟨_, (false), rs, H', ⟨by have := HJ2.out; have := HK2.out; first | omega | exact Nat.le_refl _⟩, by repeat (first | exact Drawn0.refl _ | apply Drawn0.step)⟩
          ·
           rw [if_neg c11] at H
           have c11b0 := beq_eq_false_iff_ne.mpr c11
           have c11b1 := bne_iff_ne.mpr c11
           (first | rw [c11b0] | (simp only [i64_w, i32_w]; rw [c11b0]) | skip)
           rcases iteD H with ⟨c14b0, H⟩ | ⟨c14b0, H⟩
           ·
            have H' := am H
            clear H
            go_wp2
            go_meet
            case rel => exact ⟨_, (((IntKind.u64.wrap (bt a0 x9_2)) == 0)), rs, H', ⟨by have := HJ2.out; have := HK2.out; first | omega | exact Nat.le_refl _⟩, by repeat (first | exact Drawn0.refl _ | apply Drawn0.step)⟩
           ·
            have H' := am H
            clear H
            go_wp2
            go_meet
            case rel => exact ⟨_, (false), rs, H', ⟨by have := HJ2.out; have := HK2.out; first | omega | exact Nat.le_refl _⟩, by repeat (first | exact Drawn0.refl _ | apply Drawn0.step)⟩
         case rest =>
          clear HC10
          try clear c1
          try clear c2
          try clear p2
          try clear c4
          try clear c4b0
          try clear c5
          try clear c6
          try clear c6b0
          try clear p6
          try clear c7
          try clear c7b0
          try clear c8
          try clear c8b0
          try clear p9
          try clear q9
          try clear hx9
          try clear c11
          try clear c11b0
          try clear c11b1
          try clear c12
          try clear c12b0
          try clear c13
          try clear c13b0
          try clear c14
          try clear c14b0
          try clear p2
          try clear p9
          try clear q9
          obtain ⟨kq, x46_9, rfl, HA, HJ9, ⟨mc9, rfl⟩⟩ := hcut
          cases kq with
          | zero => exact absurd HA.out (by simp [stowageref01_ReadNumber.j2])
          | succ kj9 =>
           have H := HA.out
           clear HA
           simp only [stowageref01_ReadNumber.j2] at H
           by_cases c15 : x46_9 = true
           ·
            subst c15
            rw [if_pos rfl] at H
            simp only [Option.some.injEq, Prod.mk.injEq] at H
            obtain ⟨rfl, rfl, rfl⟩ := H
            go_wp2
            go_ret3
            exact ⟨by first | rfl | (simp; done) | (simp [*]; done), by repeat (first | exact Drawn0.refl _ | apply Drawn0.step)⟩
           ·
            replace c15 := Bool.eq_false_iff.mpr c15
            subst c15
            rw [if_neg (show ¬ (false = true) by decide)] at H
            rcases iteD H with ⟨c16b0, H⟩ | ⟨c16b0, H⟩
            ·
             simp only [Option.some.injEq, Prod.mk.injEq] at H
             obtain ⟨rfl, rfl, rfl⟩ := H
             go_wp2
             go_ret3
             exact ⟨by first | rfl | (simp; done) | (simp [*]; done), by repeat (first | exact Drawn0.refl _ | apply Drawn0.step)⟩
            ·
             have H' := am H
             clear H
             go_wp2
             go_roundg kj9
             case measure => have := HJ2.out; have := HK2.out; have := HJ9.out; omega
             case rel => exact ⟨(IntKind.u64.wrap (x7_2 + (IntKind.u64.wrap ((Int.tmod (IntKind.u64.wrap (bt a0 x9_2)) 128) * x8_2)))), (IntKind.u64.wrap (x8_2 * 128)), (wrap64 (x9_2 + 1)), rs, rs, rs, H', ⟨by have := HJ2.out; have := HK2.out; have := HJ9.out; omega⟩, by repeat (first | exact Drawn0.refl _ | apply Drawn0.step)⟩
        ·
         exact absurd H (by simp)
       ·
        rw [if_neg c7] at H
        exact absurd H (by simp)
def stowageref01_Reader_Number.f (k : Nat) (a0_0 : ByteArray) (a0_1 : Int) (a0_2 : Int) (a1 : Int) : Option (ByteArray × Int × Int × Int) := if a0_2 = 0 then ((stowageref01_ReadNumber.f k a0_0 a0_1).bind fun bt347 => (if bt347.2.2 = 0 then (if bt347.1 > a1 then (some (a0_0, a0_1, 2, 0)) else (some (a0_0, bt347.2.1, a0_2, bt347.1))) else (some (a0_0, a0_1, bt347.2.2, 0)))) else (some (a0_0, a0_1, a0_2, 0))
theorem stowageref01_Reader_Number.mono : ∀ a0 a1 a2 a3 k, LeO (stowageref01_Reader_Number.f k a0 a1 a2 a3) (stowageref01_Reader_Number.f (k + 1) a0 a1 a2 a3) := by
 intro a0 a1 a2 a3 k
 unfold stowageref01_Reader_Number.f
 repeat' (with_reducible first | exact stowageref01_ReadNumber.mono _ _ _ | exact LeO.refl _ | exact LeO.none _ | refine LeO.ite ?_ ?_ | refine LeO.bind ?_ (fun _ => ?_))
set_option maxHeartbeats 8000000 in
set_option maxRecDepth 100000 in
theorem stowageref01_Reader_Number.calls (k : Nat) (a0_0 : ByteArray) (a0_1 : Int) (a0_2 : Int) (a1 : Int) (r1 : ByteArray) (r2 : Int) (r3 : Int) (r4 : Int) (w : World) (h : stowageref01_Reader_Number.f k a0_0 a0_1 a0_2 a1 = some (r1, r2, r3, r4)) :
  Calls Tryd.prog 75 #[.agg #[.string a0_0, .int .i64 a0_1, .int .i64 a0_2], .int .u64 a1] w fun e w' => e = .returned (.tuple #[.agg #[.string r1, .int .i64 r2, .int .i64 r3], .int .u64 r4]) ∧ Below w.heap.size w w' := by
 have hu103 := Tryd.underlying103
 have HB := am (Below.refl w.heap.size w)
 have H := h
 clear h
 unfold stowageref01_Reader_Number.f at H
 by_cases c3 : a0_2 = 0
 ·
  rw [if_pos c3] at H
  have c3b0 := beq_iff_eq.mpr c3
  have c3b1 := bne_eq_false_iff_eq.mpr c3
  clear c3
  obtain ⟨⟨t347, t348, t349⟩, A4, H⟩ := obE H
  try dsimp only at H
  by_cases c5 : t349 = 0
  ·
   rw [if_pos c5] at H
   have c5b0 := beq_iff_eq.mpr c5
   have c5b1 := bne_eq_false_iff_eq.mpr c5
   clear c5
   rcases iteD H with ⟨c6b0, H⟩ | ⟨c6b0, H⟩
   ·
    simp only [Option.some.injEq, Prod.mk.injEq] at H
    obtain ⟨rfl, rfl, rfl, rfl⟩ := H
    go_enter Tryd.func75, Tryd.ntmps75
    go_wp2_with (first | ((with_reducible refine gate_dst (N := 2) rfl ?_); refine bx 2 #[.string a0_0, .int .i64 a0_1, .int .i64 a0_2] 103 ?_; intro gb345 hg w7 hbox hb; have BK345 := am (hbox); have GW345 := gsz hg HB.out; have GE345 := gsz hg HB.out; replace HB := am (below_step (bw HB.out) hb); clear hb hbox hg) | ((with_reducible refine gate_dst (N := 4) rfl ?_); refine bx 4 #[.string (⟨#[]⟩ : ByteArray), .int .i64 0, .int .i64 0] 103 ?_; intro gb346 hg w8 hbox hb; have BK346 := am (hbox); have GW346 := gsz hg HB.out; have GE346 := gsz hg HB.out; have NB345_346 := nlt (g := gb345) hg BK345.out; have NB346_345 := ngt (g := gb345) hg BK345.out; replace BK345 := bb BK345.out hb; replace HB := am (below_step (bws HB.out) hb); clear hb hbox hg; have hnb9 := NB345_346.out; have hnc9 := NB346_345.out; obtain ⟨hcz10_0, hcz10_1, hcz10_2, hfz10_0, hfz10_1, hfz10_2⟩ := cz3 BK345.out) | ((with_reducible refine gate_callee (f := 76) rfl ?_); refine goesL_ (some 18) rfl rfl Tryd.func76 (by kernel_rfl) rfl #[.string a0_0, .int .i64 a0_1] rfl gl ?_; (with_reducible refine (stowageref01_ReadNumber.calls k a0_0 a0_1 t347 t348 t349 _ A4.out).mono ?_); rintro e w' ⟨rfl, ⟨nd, rfl⟩⟩; refine ⟨_, rfl, ?_⟩; (try (rw [drewN_self w8]; generalize hq_ : World.drewN w8 _ = w8; have n0_ : Aside0 (w8.heap[gb345]? = some (.cells #[.string a0_0, .int .i64 a0_1, .int .i64 a0_2] 103 (0, 0))) := ⟨by rw [← hq_]; exact (bk BK345.out)⟩; have n1_ : Aside0 (w8.heap[gb346]? = some (.cells #[.string (⟨#[]⟩ : ByteArray), .int .i64 0, .int .i64 0] 103 (0, 0))) := ⟨by rw [← hq_]; exact (bk BK346.out)⟩; have n2_ : Aside0 (Below w.heap.size w w8) := ⟨by rw [← hq_]; exact (bws HB.out)⟩; clear BK345 BK346 HB hq_; have BK345 := n0_; have BK346 := n1_; have HB := n2_; clear n0_ n1_ n2_)); obtain ⟨hcz11_0, hcz11_1, hcz11_2, hfz11_0, hfz11_1, hfz11_2⟩ := cz3 BK346.out; have hcr345_0 : w8.cell? ⟨gb345, 0, none⟩ = some (.string a0_0) := (blk_cell BK345.out 0).trans rfl; have hfr345_0 := blk_frozen BK345.out 0; have hcr345_1 : w8.cell? ⟨gb345, 1, none⟩ = some (.int .i64 a0_1) := (blk_cell BK345.out 1).trans rfl; have hfr345_1 := blk_frozen BK345.out 1; have hcr345_2 : w8.cell? ⟨gb345, 2, none⟩ = some (.int .i64 a0_2) := (blk_cell BK345.out 2).trans rfl; have hfr345_2 := blk_frozen BK345.out 2))
    refine bodyPost_ret (results_ct rfl _ _ gb346 103 #[.string a0_0, .int .i64 a0_1, .int .i64 2] (0, 0) _ rfl (bkf BK346.out) Tryd.underlying103 rfl (by kernel_rfl)) rfl ?_
    exact ⟨rf, bws HB.out⟩
   ·
    simp only [Option.some.injEq, Prod.mk.injEq] at H
    obtain ⟨rfl, rfl, rfl, rfl⟩ := H
    go_enter Tryd.func75, Tryd.ntmps75
    go_wp2_with (first | ((with_reducible refine gate_dst (N := 2) rfl ?_); refine bx 2 #[.string a0_0, .int .i64 a0_1, .int .i64 a0_2] 103 ?_; intro gb345 hg w12 hbox hb; have BK345 := am (hbox); have GW345 := gsz hg HB.out; have GE345 := gsz hg HB.out; replace HB := am (below_step (bw HB.out) hb); clear hb hbox hg) | ((with_reducible refine gate_dst (N := 4) rfl ?_); refine bx 4 #[.string (⟨#[]⟩ : ByteArray), .int .i64 0, .int .i64 0] 103 ?_; intro gb346 hg w13 hbox hb; have BK346 := am (hbox); have GW346 := gsz hg HB.out; have GE346 := gsz hg HB.out; have NB345_346 := nlt (g := gb345) hg BK345.out; have NB346_345 := ngt (g := gb345) hg BK345.out; replace BK345 := bb BK345.out hb; replace HB := am (below_step (bws HB.out) hb); clear hb hbox hg; have hnb14 := NB345_346.out; have hnc14 := NB346_345.out; obtain ⟨hcz15_0, hcz15_1, hcz15_2, hfz15_0, hfz15_1, hfz15_2⟩ := cz3 BK345.out) | ((with_reducible refine gate_callee (f := 76) rfl ?_); refine goesL_ (some 18) rfl rfl Tryd.func76 (by kernel_rfl) rfl #[.string a0_0, .int .i64 a0_1] rfl gl ?_; (with_reducible refine (stowageref01_ReadNumber.calls k a0_0 a0_1 t347 t348 t349 _ A4.out).mono ?_); rintro e w' ⟨rfl, ⟨nd, rfl⟩⟩; refine ⟨_, rfl, ?_⟩; (try (rw [drewN_self w13]; generalize hq_ : World.drewN w13 _ = w13; have n0_ : Aside0 (w13.heap[gb345]? = some (.cells #[.string a0_0, .int .i64 a0_1, .int .i64 a0_2] 103 (0, 0))) := ⟨by rw [← hq_]; exact (bk BK345.out)⟩; have n1_ : Aside0 (w13.heap[gb346]? = some (.cells #[.string (⟨#[]⟩ : ByteArray), .int .i64 0, .int .i64 0] 103 (0, 0))) := ⟨by rw [← hq_]; exact (bk BK346.out)⟩; have n2_ : Aside0 (Below w.heap.size w w13) := ⟨by rw [← hq_]; exact (bws HB.out)⟩; clear BK345 BK346 HB hq_; have BK345 := n0_; have BK346 := n1_; have HB := n2_; clear n0_ n1_ n2_)); obtain ⟨hcz16_0, hcz16_1, hcz16_2, hfz16_0, hfz16_1, hfz16_2⟩ := cz3 BK346.out; have hcr345_0 : w13.cell? ⟨gb345, 0, none⟩ = some (.string a0_0) := (blk_cell BK345.out 0).trans rfl; have hfr345_0 := blk_frozen BK345.out 0; have hcr345_1 : w13.cell? ⟨gb345, 1, none⟩ = some (.int .i64 a0_1) := (blk_cell BK345.out 1).trans rfl; have hfr345_1 := blk_frozen BK345.out 1; have hcr345_2 : w13.cell? ⟨gb345, 2, none⟩ = some (.int .i64 a0_2) := (blk_cell BK345.out 2).trans rfl; have hfr345_2 := blk_frozen BK345.out 2))
    refine bodyPost_ret (results_ct rfl _ _ gb346 103 #[.string a0_0, .int .i64 t348, .int .i64 a0_2] (0, 0) _ rfl (bkf BK346.out) Tryd.underlying103 rfl (by kernel_rfl)) rfl ?_
    exact ⟨rf, bws HB.out⟩
  ·
   rw [if_neg c5] at H
   have c5b0 := beq_eq_false_iff_ne.mpr c5
   have c5b1 := bne_iff_ne.mpr c5
   simp only [Option.some.injEq, Prod.mk.injEq] at H
   obtain ⟨rfl, rfl, rfl, rfl⟩ := H
   go_enter Tryd.func75, Tryd.ntmps75
   go_wp2_with (first | ((with_reducible refine gate_dst (N := 2) rfl ?_); refine bx 2 #[.string a0_0, .int .i64 a0_1, .int .i64 a0_2] 103 ?_; intro gb345 hg w17 hbox hb; have BK345 := am (hbox); have GW345 := gsz hg HB.out; have GE345 := gsz hg HB.out; replace HB := am (below_step (bw HB.out) hb); clear hb hbox hg) | ((with_reducible refine gate_dst (N := 4) rfl ?_); refine bx 4 #[.string (⟨#[]⟩ : ByteArray), .int .i64 0, .int .i64 0] 103 ?_; intro gb346 hg w18 hbox hb; have BK346 := am (hbox); have GW346 := gsz hg HB.out; have GE346 := gsz hg HB.out; have NB345_346 := nlt (g := gb345) hg BK345.out; have NB346_345 := ngt (g := gb345) hg BK345.out; replace BK345 := bb BK345.out hb; replace HB := am (below_step (bws HB.out) hb); clear hb hbox hg; have hnb19 := NB345_346.out; have hnc19 := NB346_345.out; obtain ⟨hcz20_0, hcz20_1, hcz20_2, hfz20_0, hfz20_1, hfz20_2⟩ := cz3 BK345.out) | ((with_reducible refine gate_callee (f := 76) rfl ?_); refine goesL_ (some 18) rfl rfl Tryd.func76 (by kernel_rfl) rfl #[.string a0_0, .int .i64 a0_1] rfl gl ?_; (with_reducible refine (stowageref01_ReadNumber.calls k a0_0 a0_1 t347 t348 t349 _ A4.out).mono ?_); rintro e w' ⟨rfl, ⟨nd, rfl⟩⟩; refine ⟨_, rfl, ?_⟩; (try (rw [drewN_self w18]; generalize hq_ : World.drewN w18 _ = w18; have n0_ : Aside0 (w18.heap[gb345]? = some (.cells #[.string a0_0, .int .i64 a0_1, .int .i64 a0_2] 103 (0, 0))) := ⟨by rw [← hq_]; exact (bk BK345.out)⟩; have n1_ : Aside0 (w18.heap[gb346]? = some (.cells #[.string (⟨#[]⟩ : ByteArray), .int .i64 0, .int .i64 0] 103 (0, 0))) := ⟨by rw [← hq_]; exact (bk BK346.out)⟩; have n2_ : Aside0 (Below w.heap.size w w18) := ⟨by rw [← hq_]; exact (bws HB.out)⟩; clear BK345 BK346 HB hq_; have BK345 := n0_; have BK346 := n1_; have HB := n2_; clear n0_ n1_ n2_)); obtain ⟨hcz21_0, hcz21_1, hcz21_2, hfz21_0, hfz21_1, hfz21_2⟩ := cz3 BK346.out; have hcr345_0 : w18.cell? ⟨gb345, 0, none⟩ = some (.string a0_0) := (blk_cell BK345.out 0).trans rfl; have hfr345_0 := blk_frozen BK345.out 0; have hcr345_1 : w18.cell? ⟨gb345, 1, none⟩ = some (.int .i64 a0_1) := (blk_cell BK345.out 1).trans rfl; have hfr345_1 := blk_frozen BK345.out 1; have hcr345_2 : w18.cell? ⟨gb345, 2, none⟩ = some (.int .i64 a0_2) := (blk_cell BK345.out 2).trans rfl; have hfr345_2 := blk_frozen BK345.out 2))
   refine bodyPost_ret (results_ct rfl _ _ gb346 103 #[.string a0_0, .int .i64 a0_1, .int .i64 t349] (0, 0) _ rfl (bkf BK346.out) Tryd.underlying103 rfl (by kernel_rfl)) rfl ?_
   exact ⟨rf, bws HB.out⟩
 ·
  rw [if_neg c3] at H
  have c3b0 := beq_eq_false_iff_ne.mpr c3
  have c3b1 := bne_iff_ne.mpr c3
  simp only [Option.some.injEq, Prod.mk.injEq] at H
  obtain ⟨rfl, rfl, rfl, rfl⟩ := H
  go_enter Tryd.func75, Tryd.ntmps75
  go_wp2_with (first | ((with_reducible refine gate_dst (N := 2) rfl ?_); refine bx 2 #[.string a0_0, .int .i64 a0_1, .int .i64 a0_2] 103 ?_; intro gb345 hg w22 hbox hb; have BK345 := am (hbox); have GW345 := gsz hg HB.out; have GE345 := gsz hg HB.out; replace HB := am (below_step (bw HB.out) hb); clear hb hbox hg) | ((with_reducible refine gate_dst (N := 4) rfl ?_); refine bx 4 #[.string (⟨#[]⟩ : ByteArray), .int .i64 0, .int .i64 0] 103 ?_; intro gb346 hg w23 hbox hb; have BK346 := am (hbox); have GW346 := gsz hg HB.out; have GE346 := gsz hg HB.out; have NB345_346 := nlt (g := gb345) hg BK345.out; have NB346_345 := ngt (g := gb345) hg BK345.out; replace BK345 := bb BK345.out hb; replace HB := am (below_step (bws HB.out) hb); clear hb hbox hg; have hnb24 := NB345_346.out; have hnc24 := NB346_345.out; obtain ⟨hcz25_0, hcz25_1, hcz25_2, hfz25_0, hfz25_1, hfz25_2⟩ := cz3 BK345.out; obtain ⟨hcz26_0, hcz26_1, hcz26_2, hfz26_0, hfz26_1, hfz26_2⟩ := cz3 BK346.out))
  refine bodyPost_ret (results_ct rfl _ _ gb346 103 #[.string a0_0, .int .i64 a0_1, .int .i64 a0_2] (0, 0) _ rfl (bkp BK346.out) Tryd.underlying103 rfl (by kernel_rfl)) rfl ?_
  exact ⟨rf, bws HB.out⟩
end Go.Proofs.YtoiockmmlanimaaDoor.Ob
end
section
namespace Go.Proofs.YtoiockmmlanimaaDoor.Ob
open Go.RowKit Go.Proofs.YtoiockmmlanimaaDoorW.PrintWords Go.Proofs.YtoiockmmlanimaaDoorW.PrintLast Go.Proofs.YtoiockmmlanimaaDoorW.PrintMore
attribute [local go_sem] max2_int min2_int max_two min_two max_three min_three max_four min_four
set_option linter.unusedVariables false
set_option linter.unusedSimpArgs false
def stowageref01_Reader_Int.f (k : Nat) (a0_0 : ByteArray) (a0_1 : Int) (a0_2 : Int) (a1 : Int) : Option (ByteArray × Int × Int × Int) := if a1 ≥ 0 then ((stowageref01_Reader_Number.f k a0_0 a0_1 a0_2 (IntKind.u64.wrap (a1))).bind fun bt352 => (some (bt352.1, bt352.2.1, bt352.2.2.1, wrap64 (bt352.2.2.2)))) else (if a0_2 = 0 then ((stowageref01_ReadNumber.f k a0_0 a0_1).bind fun bt357 => (if bt357.2.2 = 0 then (some (a0_0, a0_1, 2, 0)) else (some (a0_0, a0_1, bt357.2.2, 0)))) else (some (a0_0, a0_1, a0_2, 0)))
theorem stowageref01_Reader_Int.mono : ∀ a0 a1 a2 a3 k, LeO (stowageref01_Reader_Int.f k a0 a1 a2 a3) (stowageref01_Reader_Int.f (k + 1) a0 a1 a2 a3) := by
 intro a0 a1 a2 a3 k
 unfold stowageref01_Reader_Int.f
 repeat' (with_reducible first | exact stowageref01_ReadNumber.mono _ _ _ | exact stowageref01_Reader_Number.mono _ _ _ _ _ | exact LeO.refl _ | exact LeO.none _ | refine LeO.ite ?_ ?_ | refine LeO.bind ?_ (fun _ => ?_))
set_option maxHeartbeats 8000000 in
set_option maxRecDepth 100000 in
theorem stowageref01_Reader_Int.calls (k : Nat) (a0_0 : ByteArray) (a0_1 : Int) (a0_2 : Int) (a1 : Int) (r1 : ByteArray) (r2 : Int) (r3 : Int) (r4 : Int) (w : World) (h : stowageref01_Reader_Int.f k a0_0 a0_1 a0_2 a1 = some (r1, r2, r3, r4)) :
  Calls Tryd.prog 56 #[.agg #[.string a0_0, .int .i64 a0_1, .int .i64 a0_2], .int .i64 a1] w fun e w' => e = .returned (.tuple #[.agg #[.string r1, .int .i64 r2, .int .i64 r3], .int .i64 r4]) ∧ Below w.heap.size w w' := by
 have hu103 := Tryd.underlying103
 have HB := am (Below.refl w.heap.size w)
 have H := h
 clear h
 unfold stowageref01_Reader_Int.f at H
 rcases iteD H with ⟨c3b0, H⟩ | ⟨c3b0, H⟩
 ·
  obtain ⟨⟨t352, t353, t354, t355⟩, A4, H⟩ := obE H
  try dsimp only at H
  simp only [Option.some.injEq, Prod.mk.injEq] at H
  obtain ⟨rfl, rfl, rfl, rfl⟩ := H
  go_enter Tryd.func56, Tryd.ntmps56
  go_wp2_with (first | ((with_reducible refine gate_dst (N := 2) rfl ?_); refine bx 2 #[.string a0_0, .int .i64 a0_1, .int .i64 a0_2] 103 ?_; intro gb350 hg w5 hbox hb; have BK350 := am (hbox); have GW350 := gsz hg HB.out; have GE350 := gsz hg HB.out; replace HB := am (below_step (bw HB.out) hb); clear hb hbox hg) | ((with_reducible refine gate_dst (N := 4) rfl ?_); refine bx 4 #[.string (⟨#[]⟩ : ByteArray), .int .i64 0, .int .i64 0] 103 ?_; intro gb351 hg w6 hbox hb; have BK351 := am (hbox); have GW351 := gsz hg HB.out; have GE351 := gsz hg HB.out; have NB350_351 := nlt (g := gb350) hg BK350.out; have NB351_350 := ngt (g := gb350) hg BK350.out; replace BK350 := bb BK350.out hb; replace HB := am (below_step (bws HB.out) hb); clear hb hbox hg; have hnb7 := NB350_351.out; have hnc7 := NB351_350.out; obtain ⟨hcz8_0, hcz8_1, hcz8_2, hfz8_0, hfz8_1, hfz8_2⟩ := cz3 BK350.out) | ((with_reducible refine gate_callee (f := 75) rfl ?_); refine goesL_ (some 17) rfl rfl Tryd.func75 (by kernel_rfl) rfl #[.agg #[.string a0_0, .int .i64 a0_1, .int .i64 a0_2], .int .u64 (IntKind.u64.wrap (a1))] rfl gl ?_; (with_reducible refine (stowageref01_Reader_Number.calls k a0_0 a0_1 a0_2 (IntKind.u64.wrap (a1)) t352 t353 t354 t355 _ A4.out).mono ?_); rintro e w9 ⟨rfl, hb⟩; refine ⟨_, rfl, ?_⟩; replace BK350 := bb BK350.out hb; replace BK351 := bb BK351.out hb; replace HB := am (below_step (bws HB.out) hb); (try clear hb)) | ((with_reducible refine gate_dst (N := 6) rfl ?_); refine bx 6 #[.string (⟨#[]⟩ : ByteArray), .int .i64 0, .int .i64 0] 103 ?_; intro gb356 hg w10 hbox hb; have BK356 := am (hbox); have GW356 := gsz hg HB.out; have GE356 := gsz hg HB.out; have NB350_356 := nlt (g := gb350) hg BK350.out; have NB356_350 := ngt (g := gb350) hg BK350.out; have NB351_356 := nlt (g := gb351) hg BK351.out; have NB356_351 := ngt (g := gb351) hg BK351.out; replace BK350 := bb BK350.out hb; replace BK351 := bb BK351.out hb; replace HB := am (below_step (bws HB.out) hb); clear hb hbox hg; have hnb11 := NB356_350.out; have hnc11 := NB350_356.out; have hnb12 := NB356_351.out; have hnc12 := NB351_356.out; obtain ⟨hcz13_0, hcz13_1, hcz13_2, hfz13_0, hfz13_1, hfz13_2⟩ := cz3 BK356.out; obtain ⟨hcz14_0, hcz14_1, hcz14_2, hfz14_0, hfz14_1, hfz14_2⟩ := cz3 BK351.out))
  refine bodyPost_ret (results_ct rfl _ _ gb351 103 #[.string t352, .int .i64 t353, .int .i64 t354] (0, 0) _ rfl (bkf BK351.out) Tryd.underlying103 rfl (by kernel_rfl)) rfl ?_
  exact ⟨rf, bws HB.out⟩
 ·
  by_cases c15 : a0_2 = 0
  ·
   rw [if_pos c15] at H
   have c15b0 := beq_iff_eq.mpr c15
   have c15b1 := bne_eq_false_iff_eq.mpr c15
   clear c15
   obtain ⟨⟨t357, t358, t359⟩, A16, H⟩ := obE H
   try dsimp only at H
   by_cases c17 : t359 = 0
   ·
    rw [if_pos c17] at H
    have c17b0 := beq_iff_eq.mpr c17
    have c17b1 := bne_eq_false_iff_eq.mpr c17
    clear c17
    simp only [Option.some.injEq, Prod.mk.injEq] at H
    obtain ⟨rfl, rfl, rfl, rfl⟩ := H
    go_enter Tryd.func56, Tryd.ntmps56
    go_wp2_with (first | ((with_reducible refine gate_dst (N := 2) rfl ?_); refine bx 2 #[.string a0_0, .int .i64 a0_1, .int .i64 a0_2] 103 ?_; intro gb350 hg w18 hbox hb; have BK350 := am (hbox); have GW350 := gsz hg HB.out; have GE350 := gsz hg HB.out; replace HB := am (below_step (bw HB.out) hb); clear hb hbox hg) | ((with_reducible refine gate_dst (N := 4) rfl ?_); refine bx 4 #[.string (⟨#[]⟩ : ByteArray), .int .i64 0, .int .i64 0] 103 ?_; intro gb351 hg w19 hbox hb; have BK351 := am (hbox); have GW351 := gsz hg HB.out; have GE351 := gsz hg HB.out; have NB350_351 := nlt (g := gb350) hg BK350.out; have NB351_350 := ngt (g := gb350) hg BK350.out; replace BK350 := bb BK350.out hb; replace HB := am (below_step (bws HB.out) hb); clear hb hbox hg; have hnb20 := NB350_351.out; have hnc20 := NB351_350.out; obtain ⟨hcz21_0, hcz21_1, hcz21_2, hfz21_0, hfz21_1, hfz21_2⟩ := cz3 BK350.out) | ((with_reducible refine gate_callee (f := 76) rfl ?_); refine goesL_ (some 32) rfl rfl Tryd.func76 (by kernel_rfl) rfl #[.string a0_0, .int .i64 a0_1] rfl gl ?_; (with_reducible refine (stowageref01_ReadNumber.calls k a0_0 a0_1 t357 t358 t359 _ A16.out).mono ?_); rintro e w' ⟨rfl, ⟨nd, rfl⟩⟩; refine ⟨_, rfl, ?_⟩; (try (rw [drewN_self w19]; generalize hq_ : World.drewN w19 _ = w19; have n0_ : Aside0 (w19.heap[gb350]? = some (.cells #[.string a0_0, .int .i64 a0_1, .int .i64 a0_2] 103 (0, 0))) := ⟨by rw [← hq_]; exact (bk BK350.out)⟩; have n1_ : Aside0 (w19.heap[gb351]? = some (.cells #[.string (⟨#[]⟩ : ByteArray), .int .i64 0, .int .i64 0] 103 (0, 0))) := ⟨by rw [← hq_]; exact (bk BK351.out)⟩; have n2_ : Aside0 (Below w.heap.size w w19) := ⟨by rw [← hq_]; exact (bws HB.out)⟩; clear BK350 BK351 HB hq_; have BK350 := n0_; have BK351 := n1_; have HB := n2_; clear n0_ n1_ n2_)); obtain ⟨hcz22_0, hcz22_1, hcz22_2, hfz22_0, hfz22_1, hfz22_2⟩ := cz3 BK351.out; have hcr350_0 : w19.cell? ⟨gb350, 0, none⟩ = some (.string a0_0) := (blk_cell BK350.out 0).trans rfl; have hfr350_0 := blk_frozen BK350.out 0; have hcr350_1 : w19.cell? ⟨gb350, 1, none⟩ = some (.int .i64 a0_1) := (blk_cell BK350.out 1).trans rfl; have hfr350_1 := blk_frozen BK350.out 1; have hcr350_2 : w19.cell? ⟨gb350, 2, none⟩ = some (.int .i64 a0_2) := (blk_cell BK350.out 2).trans rfl; have hfr350_2 := blk_frozen BK350.out 2))
    refine bodyPost_ret (results_ct rfl _ _ gb351 103 #[.string a0_0, .int .i64 a0_1, .int .i64 2] (0, 0) _ rfl (bkf BK351.out) Tryd.underlying103 rfl (by kernel_rfl)) rfl ?_
    exact ⟨rf, bws HB.out⟩
   ·
    rw [if_neg c17] at H
    have c17b0 := beq_eq_false_iff_ne.mpr c17
    have c17b1 := bne_iff_ne.mpr c17
    simp only [Option.some.injEq, Prod.mk.injEq] at H
    obtain ⟨rfl, rfl, rfl, rfl⟩ := H
    go_enter Tryd.func56, Tryd.ntmps56
    go_wp2_with (first | ((with_reducible refine gate_dst (N := 2) rfl ?_); refine bx 2 #[.string a0_0, .int .i64 a0_1, .int .i64 a0_2] 103 ?_; intro gb350 hg w23 hbox hb; have BK350 := am (hbox); have GW350 := gsz hg HB.out; have GE350 := gsz hg HB.out; replace HB := am (below_step (bw HB.out) hb); clear hb hbox hg) | ((with_reducible refine gate_dst (N := 4) rfl ?_); refine bx 4 #[.string (⟨#[]⟩ : ByteArray), .int .i64 0, .int .i64 0] 103 ?_; intro gb351 hg w24 hbox hb; have BK351 := am (hbox); have GW351 := gsz hg HB.out; have GE351 := gsz hg HB.out; have NB350_351 := nlt (g := gb350) hg BK350.out; have NB351_350 := ngt (g := gb350) hg BK350.out; replace BK350 := bb BK350.out hb; replace HB := am (below_step (bws HB.out) hb); clear hb hbox hg; have hnb25 := NB350_351.out; have hnc25 := NB351_350.out; obtain ⟨hcz26_0, hcz26_1, hcz26_2, hfz26_0, hfz26_1, hfz26_2⟩ := cz3 BK350.out) | ((with_reducible refine gate_callee (f := 76) rfl ?_); refine goesL_ (some 32) rfl rfl Tryd.func76 (by kernel_rfl) rfl #[.string a0_0, .int .i64 a0_1] rfl gl ?_; (with_reducible refine (stowageref01_ReadNumber.calls k a0_0 a0_1 t357 t358 t359 _ A16.out).mono ?_); rintro e w' ⟨rfl, ⟨nd, rfl⟩⟩; refine ⟨_, rfl, ?_⟩; (try (rw [drewN_self w24]; generalize hq_ : World.drewN w24 _ = w24; have n0_ : Aside0 (w24.heap[gb350]? = some (.cells #[.string a0_0, .int .i64 a0_1, .int .i64 a0_2] 103 (0, 0))) := ⟨by rw [← hq_]; exact (bk BK350.out)⟩; have n1_ : Aside0 (w24.heap[gb351]? = some (.cells #[.string (⟨#[]⟩ : ByteArray), .int .i64 0, .int .i64 0] 103 (0, 0))) := ⟨by rw [← hq_]; exact (bk BK351.out)⟩; have n2_ : Aside0 (Below w.heap.size w w24) := ⟨by rw [← hq_]; exact (bws HB.out)⟩; clear BK350 BK351 HB hq_; have BK350 := n0_; have BK351 := n1_; have HB := n2_; clear n0_ n1_ n2_)); obtain ⟨hcz27_0, hcz27_1, hcz27_2, hfz27_0, hfz27_1, hfz27_2⟩ := cz3 BK351.out; have hcr350_0 : w24.cell? ⟨gb350, 0, none⟩ = some (.string a0_0) := (blk_cell BK350.out 0).trans rfl; have hfr350_0 := blk_frozen BK350.out 0; have hcr350_1 : w24.cell? ⟨gb350, 1, none⟩ = some (.int .i64 a0_1) := (blk_cell BK350.out 1).trans rfl; have hfr350_1 := blk_frozen BK350.out 1; have hcr350_2 : w24.cell? ⟨gb350, 2, none⟩ = some (.int .i64 a0_2) := (blk_cell BK350.out 2).trans rfl; have hfr350_2 := blk_frozen BK350.out 2))
    refine bodyPost_ret (results_ct rfl _ _ gb351 103 #[.string a0_0, .int .i64 a0_1, .int .i64 t359] (0, 0) _ rfl (bkf BK351.out) Tryd.underlying103 rfl (by kernel_rfl)) rfl ?_
    exact ⟨rf, bws HB.out⟩
  ·
   rw [if_neg c15] at H
   have c15b0 := beq_eq_false_iff_ne.mpr c15
   have c15b1 := bne_iff_ne.mpr c15
   simp only [Option.some.injEq, Prod.mk.injEq] at H
   obtain ⟨rfl, rfl, rfl, rfl⟩ := H
   go_enter Tryd.func56, Tryd.ntmps56
   go_wp2_with (first | ((with_reducible refine gate_dst (N := 2) rfl ?_); refine bx 2 #[.string a0_0, .int .i64 a0_1, .int .i64 a0_2] 103 ?_; intro gb350 hg w28 hbox hb; have BK350 := am (hbox); have GW350 := gsz hg HB.out; have GE350 := gsz hg HB.out; replace HB := am (below_step (bw HB.out) hb); clear hb hbox hg) | ((with_reducible refine gate_dst (N := 4) rfl ?_); refine bx 4 #[.string (⟨#[]⟩ : ByteArray), .int .i64 0, .int .i64 0] 103 ?_; intro gb351 hg w29 hbox hb; have BK351 := am (hbox); have GW351 := gsz hg HB.out; have GE351 := gsz hg HB.out; have NB350_351 := nlt (g := gb350) hg BK350.out; have NB351_350 := ngt (g := gb350) hg BK350.out; replace BK350 := bb BK350.out hb; replace HB := am (below_step (bws HB.out) hb); clear hb hbox hg; have hnb30 := NB350_351.out; have hnc30 := NB351_350.out; obtain ⟨hcz31_0, hcz31_1, hcz31_2, hfz31_0, hfz31_1, hfz31_2⟩ := cz3 BK350.out; obtain ⟨hcz32_0, hcz32_1, hcz32_2, hfz32_0, hfz32_1, hfz32_2⟩ := cz3 BK351.out))
   refine bodyPost_ret (results_ct rfl _ _ gb351 103 #[.string a0_0, .int .i64 a0_1, .int .i64 a0_2] (0, 0) _ rfl (bkp BK351.out) Tryd.underlying103 rfl (by kernel_rfl)) rfl ?_
   exact ⟨rf, bws HB.out⟩
def stowageref01_ReadText.f (k : Nat) (a0 : ByteArray) (a1 : Int) : Option (ByteArray × Int × Int) := (stowageref01_ReadNumber.f k a0 a1).bind fun bt360 => (if bt360.2.2 = 0 then (if bt360.1 > (IntKind.u64.wrap ((a0.size : Int))) then (some ((⟨#[]⟩ : ByteArray), 0, 5)) else (if (wrap64 (bt360.1)) > (wrap64 ((a0.size : Int) - bt360.2.1)) then (some ((⟨#[]⟩ : ByteArray), 0, 5)) else (if 0 ≤ bt360.2.1 then (if bt360.2.1 ≤ (wrap64 (bt360.2.1 + (wrap64 (bt360.1)))) then (if (wrap64 (bt360.2.1 + (wrap64 (bt360.1)))) ≤ (a0.size : Int) then (some (a0.extract (bt360.2.1 : Int).toNat ((wrap64 (bt360.2.1 + (wrap64 (bt360.1)))) : Int).toNat, wrap64 (bt360.2.1 + (wrap64 (bt360.1))), 0)) else (none)) else (none)) else (none)))) else (some ((⟨#[]⟩ : ByteArray), 0, bt360.2.2)))
theorem stowageref01_ReadText.mono : ∀ a0 a1 k, LeO (stowageref01_ReadText.f k a0 a1) (stowageref01_ReadText.f (k + 1) a0 a1) := by
 intro a0 a1 k
 unfold stowageref01_ReadText.f
 repeat' (with_reducible first | exact stowageref01_ReadNumber.mono _ _ _ | exact LeO.refl _ | exact LeO.none _ | refine LeO.ite ?_ ?_ | refine LeO.bind ?_ (fun _ => ?_))
set_option maxHeartbeats 8000000 in
set_option maxRecDepth 100000 in
theorem stowageref01_ReadText.calls (k : Nat) (a0 : ByteArray) (a1 : Int) (r1 : ByteArray) (r2 : Int) (r3 : Int) (w : World) (h : stowageref01_ReadText.f k a0 a1 = some (r1, r2, r3)) :
  Calls Tryd.prog 77 #[.string a0, .int .i64 a1] w fun e w' => e = .returned (.tuple #[.string r1, .int .i64 r2, .int .i64 r3]) ∧ Drawn0 w w' := by
 have H := h
 clear h
 unfold stowageref01_ReadText.f at H
 obtain ⟨⟨t360, t361, t362⟩, A3, H⟩ := obE H
 try dsimp only at H
 by_cases c4 : t362 = 0
 ·
  rw [if_pos c4] at H
  have c4b0 := beq_iff_eq.mpr c4
  have c4b1 := bne_eq_false_iff_eq.mpr c4
  clear c4
  rcases iteD H with ⟨c5b0, H⟩ | ⟨c5b0, H⟩
  ·
   simp only [Option.some.injEq, Prod.mk.injEq] at H
   obtain ⟨rfl, rfl, rfl⟩ := H
   go_enter Tryd.func77, Tryd.ntmps77
   go_wp2_with (first | ((with_reducible refine gate_callee (f := 76) rfl ?_); refine goesL_ (some 13) rfl rfl Tryd.func76 (by kernel_rfl) rfl #[.string a0, .int .i64 a1] rfl gl ?_; (with_reducible refine (stowageref01_ReadNumber.calls k a0 a1 t360 t361 t362 _ A3.out).mono ?_); rintro e w' ⟨rfl, ⟨nd, rfl⟩⟩; refine ⟨_, rfl, ?_⟩))
   go_ret3
   exact ⟨by first | rfl | (simp; done) | (simp [*]; done), by repeat (first | exact Drawn0.refl _ | apply Drawn0.step)⟩
  ·
   rcases iteD H with ⟨c6b0, H⟩ | ⟨c6b0, H⟩
   ·
    simp only [Option.some.injEq, Prod.mk.injEq] at H
    obtain ⟨rfl, rfl, rfl⟩ := H
    go_enter Tryd.func77, Tryd.ntmps77
    go_wp2_with (first | ((with_reducible refine gate_callee (f := 76) rfl ?_); refine goesL_ (some 13) rfl rfl Tryd.func76 (by kernel_rfl) rfl #[.string a0, .int .i64 a1] rfl gl ?_; (with_reducible refine (stowageref01_ReadNumber.calls k a0 a1 t360 t361 t362 _ A3.out).mono ?_); rintro e w' ⟨rfl, ⟨nd, rfl⟩⟩; refine ⟨_, rfl, ?_⟩))
    go_ret3
    exact ⟨by first | rfl | (simp; done) | (simp [*]; done), by repeat (first | exact Drawn0.refl _ | apply Drawn0.step)⟩
   ·
    by_cases c7 : 0 ≤ t361
    ·
     rw [if_pos c7] at H
     have c7b0 := eq_true c7
     have c7b1 := decide_eq_true c7
     clear c7
     by_cases c8 : t361 ≤ (wrap64 (t361 + (wrap64 (t360))))
     ·
      rw [if_pos c8] at H
      have c8b0 := eq_true c8
      have c8b1 := decide_eq_true c8
      by_cases c9 : (wrap64 (t361 + (wrap64 (t360)))) ≤ (a0.size : Int)
      ·
       rw [if_pos c9] at H
       have c9b0 := eq_true c9
       have c9b1 := decide_eq_true c9
       simp only [Option.some.injEq, Prod.mk.injEq] at H
       obtain ⟨rfl, rfl, rfl⟩ := H
       go_enter Tryd.func77, Tryd.ntmps77
       go_wp2_with (first | ((with_reducible refine gate_callee (f := 76) rfl ?_); refine goesL_ (some 13) rfl rfl Tryd.func76 (by kernel_rfl) rfl #[.string a0, .int .i64 a1] rfl gl ?_; (with_reducible refine (stowageref01_ReadNumber.calls k a0 a1 t360 t361 t362 _ A3.out).mono ?_); rintro e w' ⟨rfl, ⟨nd, rfl⟩⟩; refine ⟨_, rfl, ?_⟩))
       go_ret3
       exact ⟨by first | rfl | (simp; done) | (simp [*]; done), by repeat (first | exact Drawn0.refl _ | apply Drawn0.step)⟩
      ·
       rw [if_neg c9] at H
       exact absurd H (by simp)
     ·
      rw [if_neg c8] at H
      exact absurd H (by simp)
    ·
     rw [if_neg c7] at H
     exact absurd H (by simp)
 ·
  rw [if_neg c4] at H
  have c4b0 := beq_eq_false_iff_ne.mpr c4
  have c4b1 := bne_iff_ne.mpr c4
  simp only [Option.some.injEq, Prod.mk.injEq] at H
  obtain ⟨rfl, rfl, rfl⟩ := H
  go_enter Tryd.func77, Tryd.ntmps77
  go_wp2_with (first | ((with_reducible refine gate_callee (f := 76) rfl ?_); refine goesL_ (some 13) rfl rfl Tryd.func76 (by kernel_rfl) rfl #[.string a0, .int .i64 a1] rfl gl ?_; (with_reducible refine (stowageref01_ReadNumber.calls k a0 a1 t360 t361 t362 _ A3.out).mono ?_); rintro e w' ⟨rfl, ⟨nd, rfl⟩⟩; refine ⟨_, rfl, ?_⟩))
  go_ret3
  exact ⟨by first | rfl | (simp; done) | (simp [*]; done), by repeat (first | exact Drawn0.refl _ | apply Drawn0.step)⟩
def stowageref01_Reader_Text.f (k : Nat) (a0_0 : ByteArray) (a0_1 : Int) (a0_2 : Int) (a1 : Int) : Option (ByteArray × Int × Int × ByteArray) := if a0_2 = 0 then ((stowageref01_ReadText.f k a0_0 a0_1).bind fun bt365 => (if bt365.2.2 = 0 then (if (bt365.1.size : Int) > a1 then (some (a0_0, a0_1, 2, (⟨#[]⟩ : ByteArray))) else (some (a0_0, bt365.2.1, a0_2, bt365.1))) else (some (a0_0, a0_1, bt365.2.2, (⟨#[]⟩ : ByteArray))))) else (some (a0_0, a0_1, a0_2, (⟨#[]⟩ : ByteArray)))
theorem stowageref01_Reader_Text.mono : ∀ a0 a1 a2 a3 k, LeO (stowageref01_Reader_Text.f k a0 a1 a2 a3) (stowageref01_Reader_Text.f (k + 1) a0 a1 a2 a3) := by
 intro a0 a1 a2 a3 k
 unfold stowageref01_Reader_Text.f
 repeat' (with_reducible first | exact stowageref01_ReadText.mono _ _ _ | exact LeO.refl _ | exact LeO.none _ | refine LeO.ite ?_ ?_ | refine LeO.bind ?_ (fun _ => ?_))
set_option maxHeartbeats 8000000 in
set_option maxRecDepth 100000 in
theorem stowageref01_Reader_Text.calls (k : Nat) (a0_0 : ByteArray) (a0_1 : Int) (a0_2 : Int) (a1 : Int) (r1 : ByteArray) (r2 : Int) (r3 : Int) (r4 : ByteArray) (w : World) (h : stowageref01_Reader_Text.f k a0_0 a0_1 a0_2 a1 = some (r1, r2, r3, r4)) :
  Calls Tryd.prog 58 #[.agg #[.string a0_0, .int .i64 a0_1, .int .i64 a0_2], .int .i64 a1] w fun e w' => e = .returned (.tuple #[.agg #[.string r1, .int .i64 r2, .int .i64 r3], .string r4]) ∧ Below w.heap.size w w' := by
 have hu103 := Tryd.underlying103
 have HB := am (Below.refl w.heap.size w)
 have H := h
 clear h
 unfold stowageref01_Reader_Text.f at H
 by_cases c3 : a0_2 = 0
 ·
  rw [if_pos c3] at H
  have c3b0 := beq_iff_eq.mpr c3
  have c3b1 := bne_eq_false_iff_eq.mpr c3
  clear c3
  obtain ⟨⟨t365, t366, t367⟩, A4, H⟩ := obE H
  try dsimp only at H
  by_cases c5 : t367 = 0
  ·
   rw [if_pos c5] at H
   have c5b0 := beq_iff_eq.mpr c5
   have c5b1 := bne_eq_false_iff_eq.mpr c5
   clear c5
   rcases iteD H with ⟨c6b0, H⟩ | ⟨c6b0, H⟩
   ·
    simp only [Option.some.injEq, Prod.mk.injEq] at H
    obtain ⟨rfl, rfl, rfl, rfl⟩ := H
    go_enter Tryd.func58, Tryd.ntmps58
    go_wp2_with (first | ((with_reducible refine gate_dst (N := 2) rfl ?_); refine bx 2 #[.string a0_0, .int .i64 a0_1, .int .i64 a0_2] 103 ?_; intro gb363 hg w7 hbox hb; have BK363 := am (hbox); have GW363 := gsz hg HB.out; have GE363 := gsz hg HB.out; replace HB := am (below_step (bw HB.out) hb); clear hb hbox hg) | ((with_reducible refine gate_dst (N := 4) rfl ?_); refine bx 4 #[.string (⟨#[]⟩ : ByteArray), .int .i64 0, .int .i64 0] 103 ?_; intro gb364 hg w8 hbox hb; have BK364 := am (hbox); have GW364 := gsz hg HB.out; have GE364 := gsz hg HB.out; have NB363_364 := nlt (g := gb363) hg BK363.out; have NB364_363 := ngt (g := gb363) hg BK363.out; replace BK363 := bb BK363.out hb; replace HB := am (below_step (bws HB.out) hb); clear hb hbox hg; have hnb9 := NB363_364.out; have hnc9 := NB364_363.out; obtain ⟨hcz10_0, hcz10_1, hcz10_2, hfz10_0, hfz10_1, hfz10_2⟩ := cz3 BK363.out) | ((with_reducible refine gate_callee (f := 77) rfl ?_); refine goesL_ (some 18) rfl rfl Tryd.func77 (by kernel_rfl) rfl #[.string a0_0, .int .i64 a0_1] rfl gl ?_; (with_reducible refine (stowageref01_ReadText.calls k a0_0 a0_1 t365 t366 t367 _ A4.out).mono ?_); rintro e w' ⟨rfl, ⟨nd, rfl⟩⟩; refine ⟨_, rfl, ?_⟩; (try (rw [drewN_self w8]; generalize hq_ : World.drewN w8 _ = w8; have n0_ : Aside0 (w8.heap[gb363]? = some (.cells #[.string a0_0, .int .i64 a0_1, .int .i64 a0_2] 103 (0, 0))) := ⟨by rw [← hq_]; exact (bk BK363.out)⟩; have n1_ : Aside0 (w8.heap[gb364]? = some (.cells #[.string (⟨#[]⟩ : ByteArray), .int .i64 0, .int .i64 0] 103 (0, 0))) := ⟨by rw [← hq_]; exact (bk BK364.out)⟩; have n2_ : Aside0 (Below w.heap.size w w8) := ⟨by rw [← hq_]; exact (bws HB.out)⟩; clear BK363 BK364 HB hq_; have BK363 := n0_; have BK364 := n1_; have HB := n2_; clear n0_ n1_ n2_)); obtain ⟨hcz11_0, hcz11_1, hcz11_2, hfz11_0, hfz11_1, hfz11_2⟩ := cz3 BK364.out; have hcr363_0 : w8.cell? ⟨gb363, 0, none⟩ = some (.string a0_0) := (blk_cell BK363.out 0).trans rfl; have hfr363_0 := blk_frozen BK363.out 0; have hcr363_1 : w8.cell? ⟨gb363, 1, none⟩ = some (.int .i64 a0_1) := (blk_cell BK363.out 1).trans rfl; have hfr363_1 := blk_frozen BK363.out 1; have hcr363_2 : w8.cell? ⟨gb363, 2, none⟩ = some (.int .i64 a0_2) := (blk_cell BK363.out 2).trans rfl; have hfr363_2 := blk_frozen BK363.out 2))
    refine bodyPost_ret (results_ct rfl _ _ gb364 103 #[.string a0_0, .int .i64 a0_1, .int .i64 2] (0, 0) _ rfl (bkf BK364.out) Tryd.underlying103 rfl (by kernel_rfl)) rfl ?_
    exact ⟨rf, bws HB.out⟩
   ·
    simp only [Option.some.injEq, Prod.mk.injEq] at H
    obtain ⟨rfl, rfl, rfl, rfl⟩ := H
    go_enter Tryd.func58, Tryd.ntmps58
    go_wp2_with (first | ((with_reducible refine gate_dst (N := 2) rfl ?_); refine bx 2 #[.string a0_0, .int .i64 a0_1, .int .i64 a0_2] 103 ?_; intro gb363 hg w12 hbox hb; have BK363 := am (hbox); have GW363 := gsz hg HB.out; have GE363 := gsz hg HB.out; replace HB := am (below_step (bw HB.out) hb); clear hb hbox hg) | ((with_reducible refine gate_dst (N := 4) rfl ?_); refine bx 4 #[.string (⟨#[]⟩ : ByteArray), .int .i64 0, .int .i64 0] 103 ?_; intro gb364 hg w13 hbox hb; have BK364 := am (hbox); have GW364 := gsz hg HB.out; have GE364 := gsz hg HB.out; have NB363_364 := nlt (g := gb363) hg BK363.out; have NB364_363 := ngt (g := gb363) hg BK363.out; replace BK363 := bb BK363.out hb; replace HB := am (below_step (bws HB.out) hb); clear hb hbox hg; have hnb14 := NB363_364.out; have hnc14 := NB364_363.out; obtain ⟨hcz15_0, hcz15_1, hcz15_2, hfz15_0, hfz15_1, hfz15_2⟩ := cz3 BK363.out) | ((with_reducible refine gate_callee (f := 77) rfl ?_); refine goesL_ (some 18) rfl rfl Tryd.func77 (by kernel_rfl) rfl #[.string a0_0, .int .i64 a0_1] rfl gl ?_; (with_reducible refine (stowageref01_ReadText.calls k a0_0 a0_1 t365 t366 t367 _ A4.out).mono ?_); rintro e w' ⟨rfl, ⟨nd, rfl⟩⟩; refine ⟨_, rfl, ?_⟩; (try (rw [drewN_self w13]; generalize hq_ : World.drewN w13 _ = w13; have n0_ : Aside0 (w13.heap[gb363]? = some (.cells #[.string a0_0, .int .i64 a0_1, .int .i64 a0_2] 103 (0, 0))) := ⟨by rw [← hq_]; exact (bk BK363.out)⟩; have n1_ : Aside0 (w13.heap[gb364]? = some (.cells #[.string (⟨#[]⟩ : ByteArray), .int .i64 0, .int .i64 0] 103 (0, 0))) := ⟨by rw [← hq_]; exact (bk BK364.out)⟩; have n2_ : Aside0 (Below w.heap.size w w13) := ⟨by rw [← hq_]; exact (bws HB.out)⟩; clear BK363 BK364 HB hq_; have BK363 := n0_; have BK364 := n1_; have HB := n2_; clear n0_ n1_ n2_)); obtain ⟨hcz16_0, hcz16_1, hcz16_2, hfz16_0, hfz16_1, hfz16_2⟩ := cz3 BK364.out; have hcr363_0 : w13.cell? ⟨gb363, 0, none⟩ = some (.string a0_0) := (blk_cell BK363.out 0).trans rfl; have hfr363_0 := blk_frozen BK363.out 0; have hcr363_1 : w13.cell? ⟨gb363, 1, none⟩ = some (.int .i64 a0_1) := (blk_cell BK363.out 1).trans rfl; have hfr363_1 := blk_frozen BK363.out 1; have hcr363_2 : w13.cell? ⟨gb363, 2, none⟩ = some (.int .i64 a0_2) := (blk_cell BK363.out 2).trans rfl; have hfr363_2 := blk_frozen BK363.out 2))
    refine bodyPost_ret (results_ct rfl _ _ gb364 103 #[.string a0_0, .int .i64 t366, .int .i64 a0_2] (0, 0) _ rfl (bkf BK364.out) Tryd.underlying103 rfl (by kernel_rfl)) rfl ?_
    exact ⟨rf, bws HB.out⟩
  ·
   rw [if_neg c5] at H
   have c5b0 := beq_eq_false_iff_ne.mpr c5
   have c5b1 := bne_iff_ne.mpr c5
   simp only [Option.some.injEq, Prod.mk.injEq] at H
   obtain ⟨rfl, rfl, rfl, rfl⟩ := H
   go_enter Tryd.func58, Tryd.ntmps58
   go_wp2_with (first | ((with_reducible refine gate_dst (N := 2) rfl ?_); refine bx 2 #[.string a0_0, .int .i64 a0_1, .int .i64 a0_2] 103 ?_; intro gb363 hg w17 hbox hb; have BK363 := am (hbox); have GW363 := gsz hg HB.out; have GE363 := gsz hg HB.out; replace HB := am (below_step (bw HB.out) hb); clear hb hbox hg) | ((with_reducible refine gate_dst (N := 4) rfl ?_); refine bx 4 #[.string (⟨#[]⟩ : ByteArray), .int .i64 0, .int .i64 0] 103 ?_; intro gb364 hg w18 hbox hb; have BK364 := am (hbox); have GW364 := gsz hg HB.out; have GE364 := gsz hg HB.out; have NB363_364 := nlt (g := gb363) hg BK363.out; have NB364_363 := ngt (g := gb363) hg BK363.out; replace BK363 := bb BK363.out hb; replace HB := am (below_step (bws HB.out) hb); clear hb hbox hg; have hnb19 := NB363_364.out; have hnc19 := NB364_363.out; obtain ⟨hcz20_0, hcz20_1, hcz20_2, hfz20_0, hfz20_1, hfz20_2⟩ := cz3 BK363.out) | ((with_reducible refine gate_callee (f := 77) rfl ?_); refine goesL_ (some 18) rfl rfl Tryd.func77 (by kernel_rfl) rfl #[.string a0_0, .int .i64 a0_1] rfl gl ?_; (with_reducible refine (stowageref01_ReadText.calls k a0_0 a0_1 t365 t366 t367 _ A4.out).mono ?_); rintro e w' ⟨rfl, ⟨nd, rfl⟩⟩; refine ⟨_, rfl, ?_⟩; (try (rw [drewN_self w18]; generalize hq_ : World.drewN w18 _ = w18; have n0_ : Aside0 (w18.heap[gb363]? = some (.cells #[.string a0_0, .int .i64 a0_1, .int .i64 a0_2] 103 (0, 0))) := ⟨by rw [← hq_]; exact (bk BK363.out)⟩; have n1_ : Aside0 (w18.heap[gb364]? = some (.cells #[.string (⟨#[]⟩ : ByteArray), .int .i64 0, .int .i64 0] 103 (0, 0))) := ⟨by rw [← hq_]; exact (bk BK364.out)⟩; have n2_ : Aside0 (Below w.heap.size w w18) := ⟨by rw [← hq_]; exact (bws HB.out)⟩; clear BK363 BK364 HB hq_; have BK363 := n0_; have BK364 := n1_; have HB := n2_; clear n0_ n1_ n2_)); obtain ⟨hcz21_0, hcz21_1, hcz21_2, hfz21_0, hfz21_1, hfz21_2⟩ := cz3 BK364.out; have hcr363_0 : w18.cell? ⟨gb363, 0, none⟩ = some (.string a0_0) := (blk_cell BK363.out 0).trans rfl; have hfr363_0 := blk_frozen BK363.out 0; have hcr363_1 : w18.cell? ⟨gb363, 1, none⟩ = some (.int .i64 a0_1) := (blk_cell BK363.out 1).trans rfl; have hfr363_1 := blk_frozen BK363.out 1; have hcr363_2 : w18.cell? ⟨gb363, 2, none⟩ = some (.int .i64 a0_2) := (blk_cell BK363.out 2).trans rfl; have hfr363_2 := blk_frozen BK363.out 2))
   refine bodyPost_ret (results_ct rfl _ _ gb364 103 #[.string a0_0, .int .i64 a0_1, .int .i64 t367] (0, 0) _ rfl (bkf BK364.out) Tryd.underlying103 rfl (by kernel_rfl)) rfl ?_
   exact ⟨rf, bws HB.out⟩
 ·
  rw [if_neg c3] at H
  have c3b0 := beq_eq_false_iff_ne.mpr c3
  have c3b1 := bne_iff_ne.mpr c3
  simp only [Option.some.injEq, Prod.mk.injEq] at H
  obtain ⟨rfl, rfl, rfl, rfl⟩ := H
  go_enter Tryd.func58, Tryd.ntmps58
  go_wp2_with (first | ((with_reducible refine gate_dst (N := 2) rfl ?_); refine bx 2 #[.string a0_0, .int .i64 a0_1, .int .i64 a0_2] 103 ?_; intro gb363 hg w22 hbox hb; have BK363 := am (hbox); have GW363 := gsz hg HB.out; have GE363 := gsz hg HB.out; replace HB := am (below_step (bw HB.out) hb); clear hb hbox hg) | ((with_reducible refine gate_dst (N := 4) rfl ?_); refine bx 4 #[.string (⟨#[]⟩ : ByteArray), .int .i64 0, .int .i64 0] 103 ?_; intro gb364 hg w23 hbox hb; have BK364 := am (hbox); have GW364 := gsz hg HB.out; have GE364 := gsz hg HB.out; have NB363_364 := nlt (g := gb363) hg BK363.out; have NB364_363 := ngt (g := gb363) hg BK363.out; replace BK363 := bb BK363.out hb; replace HB := am (below_step (bws HB.out) hb); clear hb hbox hg; have hnb24 := NB363_364.out; have hnc24 := NB364_363.out; obtain ⟨hcz25_0, hcz25_1, hcz25_2, hfz25_0, hfz25_1, hfz25_2⟩ := cz3 BK363.out; obtain ⟨hcz26_0, hcz26_1, hcz26_2, hfz26_0, hfz26_1, hfz26_2⟩ := cz3 BK364.out))
  refine bodyPost_ret (results_ct rfl _ _ gb364 103 #[.string a0_0, .int .i64 a0_1, .int .i64 a0_2] (0, 0) _ rfl (bkp BK364.out) Tryd.underlying103 rfl (by kernel_rfl)) rfl ?_
  exact ⟨rf, bws HB.out⟩
def stowageref13_Read.l0 : Nat → List (S85) → Int → Int → ByteArray → Int → Int → Option (ByteArray × Int × Int × (List (S85)))
 | 0, _, _, _, _, _, _ => none
 | k + 1, x4, x6, x7, x375000, x375001, x375002 => if x7 < x6 then ((stowageref01_Reader_Text.f k x375000 x375001 x375002 64).bind fun bt375 => ((stowageref01_Reader_Int.f k bt375.1 bt375.2.1 bt375.2.2.1 4096).bind fun bt380 => (if x4.length < 5864062014805 then (stowageref13_Read.l0 k (x4 ++ [(⟨bt375.2.2.2, bt380.2.2.2⟩ : S85)]) x6 (wrap64 (x7 + 1)) bt380.1 bt380.2.1 bt380.2.2.1) else (none)))) else (some (x375000, x375001, x375002, x4))
def stowageref13_Read.f (k : Nat) (a0_0 : ByteArray) (a0_1 : Int) (a0_2 : Int) : Option (ByteArray × Int × Int × (List (S85))) := (stowageref01_Reader_Int.f k a0_0 a0_1 a0_2 512).bind fun bt370 => (stowageref13_Read.l0 k ([] : List (S85)) bt370.2.2.2 0 bt370.1 bt370.2.1 bt370.2.2.1)
theorem stowageref13_Read.mono_l : ∀ k, (∀ y0 y1 y2 y3 y4 y5, LeO (stowageref13_Read.l0 k y0 y1 y2 y3 y4 y5) (stowageref13_Read.l0 (k + 1) y0 y1 y2 y3 y4 y5))
 | 0 => fun _ _ _ _ _ _ r h => by simp [stowageref13_Read.l0] at h
 | k + 1 => by
  have ih0 := stowageref13_Read.mono_l k
  ·
   intro y0 y1 y2 y3 y4 y5
   unfold stowageref13_Read.l0
   repeat' (with_reducible first | exact ih0 _ _ _ _ _ _ | exact stowageref01_Reader_Int.mono _ _ _ _ _ | exact stowageref01_Reader_Text.mono _ _ _ _ _ | exact LeO.refl _ | exact LeO.none _ | refine LeO.ite ?_ ?_ | refine LeO.bind ?_ (fun _ => ?_))
theorem stowageref13_Read.mono : ∀ a0 a1 a2 k, LeO (stowageref13_Read.f k a0 a1 a2) (stowageref13_Read.f (k + 1) a0 a1 a2) := by
 intro a0 a1 a2 k
 have ih0 := stowageref13_Read.mono_l k
 unfold stowageref13_Read.f
 repeat' (with_reducible first | exact ih0 _ _ _ _ _ _ | exact stowageref01_Reader_Int.mono _ _ _ _ _ | exact stowageref01_Reader_Text.mono _ _ _ _ _ | exact LeO.refl _ | exact LeO.none _ | refine LeO.ite ?_ ?_ | refine LeO.bind ?_ (fun _ => ?_))
set_option maxHeartbeats 8000000 in
set_option maxRecDepth 100000 in
theorem stowageref13_Read.calls (k : Nat) (a0_0 : ByteArray) (a0_1 : Int) (a0_2 : Int) (r1 : ByteArray) (r2 : Int) (r3 : Int) (r4 : List (S85)) (w : World) (h : stowageref13_Read.f k a0_0 a0_1 a0_2 = some (r1, r2, r3, r4)) :
  Calls Tryd.prog 57 #[.agg #[.string a0_0, .int .i64 a0_1, .int .i64 a0_2]] w fun e w' => ∃ v3_ : Value, e = .returned (.tuple #[.agg #[.string r1, .int .i64 r2, .int .i64 r3], v3_]) ∧ Kd.R k85 85 w' w.heap.size (fun _ => True) v3_ r4 ∧ Below w.heap.size w w' := by
 have hu103 := Tryd.underlying103
 have hu85 := Tryd.underlying85
 have HB := am (Below.refl w.heap.size w)
 have H := h
 clear h
 unfold stowageref13_Read.f at H
 obtain ⟨⟨t370, t371, t372, t373⟩, A2, H⟩ := obE H
 try dsimp only at H
 have H' := am H
 clear H
 go_enter Tryd.func57, Tryd.ntmps57
 go_wp2_with (first | ((with_reducible refine gate_dst (N := 1) rfl ?_); refine bx 1 #[.string a0_0, .int .i64 a0_1, .int .i64 a0_2] 103 ?_; intro gb368 hg w3 hbox hb; have BK368 := am (hbox); have GW368 := gsz hg HB.out; have GE368 := gsz hg HB.out; replace HB := am (below_step (bw HB.out) hb); clear hb hbox hg) | ((with_reducible refine gate_dst (N := 2) rfl ?_); refine bx 2 #[.string (⟨#[]⟩ : ByteArray), .int .i64 0, .int .i64 0] 103 ?_; intro gb369 hg w4 hbox hb; have BK369 := am (hbox); have GW369 := gsz hg HB.out; have GE369 := gsz hg HB.out; have NB368_369 := nlt (g := gb368) hg BK368.out; have NB369_368 := ngt (g := gb368) hg BK368.out; replace BK368 := bb BK368.out hb; replace HB := am (below_step (bws HB.out) hb); clear hb hbox hg; have hnb5 := NB368_369.out; have hnc5 := NB369_368.out; obtain ⟨hcz6_0, hcz6_1, hcz6_2, hfz6_0, hfz6_1, hfz6_2⟩ := cz3 BK368.out) | ((with_reducible refine gate_callee (f := 56) rfl ?_); refine goesL_ (some 14) rfl rfl Tryd.func56 (by kernel_rfl) rfl #[.agg #[.string a0_0, .int .i64 a0_1, .int .i64 a0_2], .int .i64 512] rfl gl ?_; (with_reducible refine (stowageref01_Reader_Int.calls k a0_0 a0_1 a0_2 512 t370 t371 t372 t373 _ A2.out).mono ?_); rintro e w7 ⟨rfl, hb⟩; refine ⟨_, rfl, ?_⟩; replace BK368 := bb BK368.out hb; replace BK369 := bb BK369.out hb; replace HB := am (below_step (bws HB.out) hb); (try clear hb)) | ((with_reducible refine gate_dst (N := 5) rfl ?_); refine bx 5 #[.string (⟨#[]⟩ : ByteArray), .int .i64 0, .int .i64 0] 103 ?_; intro gb374 hg w8 hbox hb; have BK374 := am (hbox); have GW374 := gsz hg HB.out; have GE374 := gsz hg HB.out; have NB368_374 := nlt (g := gb368) hg BK368.out; have NB374_368 := ngt (g := gb368) hg BK368.out; have NB369_374 := nlt (g := gb369) hg BK369.out; have NB374_369 := ngt (g := gb369) hg BK369.out; replace BK368 := bb BK368.out hb; replace BK369 := bb BK369.out hb; replace HB := am (below_step (bws HB.out) hb); clear hb hbox hg; have hnb9 := NB374_368.out; have hnc9 := NB368_374.out; have hnb10 := NB374_369.out; have hnc10 := NB369_374.out; obtain ⟨hcz11_0, hcz11_1, hcz11_2, hfz11_0, hfz11_1, hfz11_2⟩ := cz3 BK374.out))
 go_loopg [4, 7] k (fun kq v4 v7 w' => ∃ (x4_1 : List (S85)) (x7_1 : Int) (x375000_1 : ByteArray) (x375001_1 : Int) (x375002_1 : Int), v7 = .int .i64 x7_1 ∧ Aside0 (stowageref13_Read.l0 kq x4_1 t373 x7_1 x375000_1 x375001_1 x375002_1 = some (r1, r2, r3, r4)) ∧ Aside0 (kq ≤ k) ∧ Aside0 (Kd.R k85 85 w' w.heap.size (fun _ => True) v4 x4_1) ∧ Aside0 (w'.heap[gb368]? = some (.cells #[.string a0_0, .int .i64 a0_1, .int .i64 a0_2] 103 (0, 0))) ∧ Aside0 (w'.heap[gb369]? = some (.cells #[.string (⟨#[]⟩ : ByteArray), .int .i64 0, .int .i64 0] 103 (0, 0))) ∧ Aside0 (w'.heap[gb374]? = some (.cells #[.string x375000_1, .int .i64 x375001_1, .int .i64 x375002_1] 103 (0, 0))) ∧ Aside0 (Below w.heap.size w w'))
 case atStart => exact ⟨(([] : List (S85))), (0), (t370), (t371), (t372), rs, H', ⟨Nat.le_refl _⟩, ⟨niR⟩, ⟨bkf BK368.out⟩, ⟨bkf BK369.out⟩, ⟨bkp BK374.out⟩, ⟨bws HB.out⟩⟩
 case round =>
  clear H'
  try clear c1
  try clear p2
  try clear c5
  try clear c9
  try clear c10
  try clear hcz11_0
  try clear hcz11_1
  try clear hcz11_2
  try clear hcz6_0
  try clear hcz6_1
  try clear hcz6_2
  try clear hfz11_0
  try clear hfz11_1
  try clear hfz11_2
  try clear hfz6_0
  try clear hfz6_1
  try clear hfz6_2
  obtain ⟨x4_1, x7_1, x375000_1, x375001_1, x375002_1, rfl, HA, HK1, HO_4, BK368, BK369, BK374, HB⟩ := hrel
  cases gk with
  | zero => exact absurd HA.out (by simp [stowageref13_Read.l0])
  | succ k1 =>
   have H := HA.out
   clear HA
   simp only [stowageref13_Read.l0] at H
   rcases iteD H with ⟨c12b0, H⟩ | ⟨c12b0, H⟩
   ·
    obtain ⟨⟨t375, t376, t377, t378⟩, A13, H⟩ := obE H
    try dsimp only at H
    obtain ⟨⟨t380, t381, t382, t383⟩, A14, H⟩ := obE H
    try dsimp only at H
    by_cases c15 : x4_1.length < 5864062014805
    ·
     rw [if_pos c15] at H
     have LMc15 := am c15
     clear c15
     obtain ⟨y385, hy385⟩ : ∃ y_ : List (S85), y_ = (x4_1 ++ [(⟨t378, t383⟩ : S85)]) := ⟨_, rfl⟩
     replace H : (stowageref13_Read.l0 k1 y385 t373 (wrap64 (x7_1 + 1)) t380 t381 t382) = some (r1, r2, r3, r4) := by first | (rw [hy385]; with_reducible exact H) | (have H2_ := (Option.bind_some _ _).symm.trans H; rw [hy385]; with_reducible exact H2_) | (have H2_ := (Option.bind_some _ _).symm.trans H; with_reducible exact H2_) | with_reducible exact H | (rw [hy385]; exact H) | exact H
     have Ny385 := am hy385
     clear hy385
     have H' := am H
     clear H
     have hnb16 := NB374_368.out
     have hnc16 := NB368_374.out
     have hnb17 := NB374_369.out
     have hnc17 := NB369_374.out
     obtain ⟨hcz18_0, hcz18_1, hcz18_2, hfz18_0, hfz18_1, hfz18_2⟩ := cz3 BK374.out
     go_wp2_with (first | ((with_reducible refine gate_callee (f := 58) rfl ?_); refine goesL_ (some 24) rfl rfl Tryd.func58 (by kernel_rfl) rfl #[.agg #[.string x375000_1, .int .i64 x375001_1, .int .i64 x375002_1], .int .i64 64] rfl gl ?_; (with_reducible refine (stowageref01_Reader_Text.calls k1 x375000_1 x375001_1 x375002_1 64 t375 t376 t377 t378 _ A13.out).mono ?_); rintro e w19 ⟨rfl, hb⟩; refine ⟨_, rfl, ?_⟩; replace HO_4 := am (Kd.R_below (kR HO_4.out) hb); replace BK368 := bb BK368.out hb; replace BK369 := bb BK369.out hb; replace BK374 := bb BK374.out hb; replace HB := am (below_step (bws HB.out) hb); (try clear hb)) | ((with_reducible refine gate_dst (N := 8) rfl ?_); refine bx 8 #[.string (⟨#[]⟩ : ByteArray), .int .i64 0, .int .i64 0] 103 ?_; intro gb379 hg w20 hbox hb; have BK379 := am (hbox); have GW379 := gsz hg HB.out; have GE379 := gsz hg HB.out; have NB368_379 := nlt (g := gb368) hg BK368.out; have NB379_368 := ngt (g := gb368) hg BK368.out; have NB369_379 := nlt (g := gb369) hg BK369.out; have NB379_369 := ngt (g := gb369) hg BK369.out; have NB374_379 := nlt (g := gb374) hg BK374.out; have NB379_374 := ngt (g := gb374) hg BK374.out; replace HO_4 := am (Kd.R_below (kR HO_4.out) hb); replace BK368 := bb BK368.out hb; replace BK369 := bb BK369.out hb; replace BK374 := bb BK374.out hb; replace HB := am (below_step (bws HB.out) hb); clear hb hbox hg; have hnb21 := NB379_368.out; have hnc21 := NB368_379.out; have hnb22 := NB379_369.out; have hnc22 := NB369_379.out; have hnb23 := NB379_374.out; have hnc23 := NB374_379.out; obtain ⟨hcz24_0, hcz24_1, hcz24_2, hfz24_0, hfz24_1, hfz24_2⟩ := cz3 BK379.out) | ((with_reducible refine gate_callee (f := 56) rfl ?_); refine goesL_ (some 29) rfl rfl Tryd.func56 (by kernel_rfl) rfl #[.agg #[.string t375, .int .i64 t376, .int .i64 t377], .int .i64 4096] rfl gl ?_; (with_reducible refine (stowageref01_Reader_Int.calls k1 t375 t376 t377 4096 t380 t381 t382 t383 _ A14.out).mono ?_); rintro e w25 ⟨rfl, hb⟩; refine ⟨_, rfl, ?_⟩; replace HO_4 := am (Kd.R_below (by (with_reducible repeat (first | apply Kd.R_alloc | apply Kd.R_drewN | apply Kd.R_drew)); exact (Kd.R_mono (Kd.R_far (p := ⟨gb379, 2, none⟩) (Kd.R_far (p := ⟨gb379, 1, none⟩) (Kd.R_far (p := ⟨gb379, 0, none⟩) (Kd.R_types HO_4.out BK379.out (by decide)) (fun _ hk => hk.2) (.string t375)) (fun _ hk => hk.2) (.int .i64 t376)) (fun _ hk => hk.2) (.int .i64 t377)) (fun _ h_ => h_.1))) hb); replace BK368 := am (blk_below (g := gb368) (o := .cells #[.string a0_0, .int .i64 a0_1, .int .i64 a0_2] 103 (0, 0)) (bkf BK368.out) hb); replace BK369 := am (blk_below (g := gb369) (o := .cells #[.string (⟨#[]⟩ : ByteArray), .int .i64 0, .int .i64 0] 103 (0, 0)) (bkf BK369.out) hb); replace BK374 := am (blk_below (g := gb374) (o := .cells #[.string x375000_1, .int .i64 x375001_1, .int .i64 x375002_1] 103 (0, 0)) (bkf BK374.out) hb); replace BK379 := am (blk_below (g := gb379) (o := .cells #[.string t375, .int .i64 t376, .int .i64 t377] 103 (0, 0)) (bkp BK379.out) hb); replace HB := am (below_step (bws HB.out) hb); (try clear hb)) | ((with_reducible refine gate_dst (N := 10) rfl ?_); refine bx 10 #[.string (⟨#[]⟩ : ByteArray), .int .i64 0, .int .i64 0] 103 ?_; intro gb384 hg w26 hbox hb; have BK384 := am (hbox); have GW384 := gsz hg HB.out; have GE384 := gsz hg HB.out; have NB368_384 := nlt (g := gb368) hg BK368.out; have NB384_368 := ngt (g := gb368) hg BK368.out; have NB369_384 := nlt (g := gb369) hg BK369.out; have NB384_369 := ngt (g := gb369) hg BK369.out; have NB374_384 := nlt (g := gb374) hg BK374.out; have NB384_374 := ngt (g := gb374) hg BK374.out; have NB379_384 := nlt (g := gb379) hg BK379.out; have NB384_379 := ngt (g := gb379) hg BK379.out; replace HO_4 := am (Kd.R_below (kR HO_4.out) hb); replace BK368 := bb BK368.out hb; replace BK369 := bb BK369.out hb; replace BK374 := bb BK374.out hb; replace BK379 := bb BK379.out hb; replace HB := am (below_step (bws HB.out) hb); clear hb hbox hg; have hnb27 := NB384_368.out; have hnc27 := NB368_384.out; have hnb28 := NB384_369.out; have hnc28 := NB369_384.out; have hnb29 := NB384_374.out; have hnc29 := NB374_384.out; have hnb30 := NB384_379.out; have hnc30 := NB379_384.out; obtain ⟨hcz31_0, hcz31_1, hcz31_2, hfz31_0, hfz31_1, hfz31_2⟩ := cz3 BK384.out; obtain ⟨hcz32_0, hcz32_1, hcz32_2, hfz32_0, hfz32_1, hfz32_2⟩ := cz3 BK374.out) | ((with_reducible refine gate_builtin (b := .append) (xs := #[.tmp 33, .tmp 37]) rfl ?_); at_builtin; refine Kd.R_append k85 (w0 := w) w.heap.size rfl (.tmp 33) (.tmp 37) 30 85 (.agg #[(.string ⟨#[]⟩), (.int .i64 0)]) 24 rfl Tryd.underlying30 info85 rfl (by decide) (by omega) u4 x4_1 (⟨t378, t383⟩ : S85) [.string t378, .int .i64 t383] (fun _ => True) (fun _ => False) rfl (by first | (go_simp; done) | (go_simp; rfl)) ?aP (fun _ hk => hk.elim) ?aF ?aO ?aB ?aS ?aL ?_; (case aP => exact k85_mkM _ _ _ (⟨t378, t383⟩ : S85)); (case aB => exact (bws HB.out)); (case aF => exact (fun _ _ => trivial)); (case aO => exact (by (with_reducible repeat (first | apply Kd.R_alloc | apply Kd.R_drewN | apply Kd.R_drew)); exact Kd.R_mono (Kd.R_far (p := ⟨gb374, 2, none⟩) (Kd.R_far (p := ⟨gb374, 1, none⟩) (Kd.R_far (p := ⟨gb374, 0, none⟩) (Kd.R_far (p := ⟨gb384, 2, none⟩) (Kd.R_far (p := ⟨gb384, 1, none⟩) (Kd.R_far (p := ⟨gb384, 0, none⟩) (Kd.R_types (Kd.R_types HO_4.out BK384.out (by decide)) BK374.out (by decide)) (fun _ hk => hk.1.2) (.string t380)) (fun _ hk => hk.1.2) (.int .i64 t381)) (fun _ hk => hk.1.2) (.int .i64 t382)) (fun _ hk => hk.2) (.string t380)) (fun _ hk => hk.2) (.int .i64 t381)) (fun _ hk => hk.2) (.int .i64 t382)) (fun _ hk => trivial))); (case aS => exact (below_size (bws HB.out))); (case aL => have := LMc15.out; omega); intro v386 w33 ho hb hg hat; rw [← Ny385.out] at ho; have n0_ := am (blk_grown (g := gb368) (o := .cells #[.string a0_0, .int .i64 a0_1, .int .i64 a0_2] 103 (0, 0)) (bkf BK368.out) hg (Kd.R_ne HO_4.out BK368.out (by decide))); have n1_ := am (blk_grown (g := gb369) (o := .cells #[.string (⟨#[]⟩ : ByteArray), .int .i64 0, .int .i64 0] 103 (0, 0)) (bkf BK369.out) hg (Kd.R_ne HO_4.out BK369.out (by decide))); have n2_ := am (blk_grown (g := gb374) (o := .cells #[.string t380, .int .i64 t381, .int .i64 t382] 103 (0, 0)) (bkf BK374.out) hg (Kd.R_ne HO_4.out BK374.out (by decide))); have n3_ := am (blk_grown (g := gb379) (o := .cells #[.string t375, .int .i64 t376, .int .i64 t377] 103 (0, 0)) (bkf BK379.out) hg (Kd.R_ne HO_4.out BK379.out (by decide))); have n4_ := am (blk_grown (g := gb384) (o := .cells #[.string t380, .int .i64 t381, .int .i64 t382] 103 (0, 0)) (bkf BK384.out) hg (Kd.R_ne HO_4.out BK384.out (by decide))); have n5_ := am (hb); have n6_ := am (ho); clear BK368; clear BK369; clear BK374; clear BK379; clear BK384; clear HB; clear HO_4; have BK368 := n0_; have BK369 := n1_; have BK374 := n2_; have BK379 := n3_; have BK384 := n4_; have HB := n5_; have HO387 := n6_; clear n0_ n1_ n2_ n3_ n4_ n5_ n6_; clear ho hb hg hat))
     go_roundg k1
     case measure => have := HK1.out; omega
     case rel => exact ⟨(y385), (wrap64 (x7_1 + 1)), (t380), (t381), (t382), rs, H', ⟨by have := HK1.out; omega⟩, ⟨kR HO387.out⟩, ⟨bk BK368.out⟩, ⟨bk BK369.out⟩, ⟨bk BK374.out⟩, ⟨bws HB.out⟩⟩
    ·
     rw [if_neg c15] at H
     exact absurd H (by simp)
   ·
    simp only [Option.some.injEq, Prod.mk.injEq] at H
    obtain ⟨rfl, rfl, rfl, rfl⟩ := H
    have hnb34 := NB374_368.out
    have hnc34 := NB368_374.out
    have hnb35 := NB374_369.out
    have hnc35 := NB369_374.out
    obtain ⟨hcz36_0, hcz36_1, hcz36_2, hfz36_0, hfz36_1, hfz36_2⟩ := cz3 BK374.out
    have hnb37 := NB369_368.out
    have hnc37 := NB368_369.out
    obtain ⟨hcz38_0, hcz38_1, hcz38_2, hfz38_0, hfz38_1, hfz38_2⟩ := cz3 BK369.out
    go_wp2
    refine bodyPost_ret (results_ct rfl _ _ gb369 103 #[.string x375000_1, .int .i64 x375001_1, .int .i64 x375002_1] (0, 0) _ rfl (bkp BK369.out) Tryd.underlying103 rfl (by kernel_rfl)) rfl ?_
    exact ⟨_, rf, by (with_reducible repeat (first | apply Kd.R_alloc | apply Kd.R_drewN | apply Kd.R_drew)); exact Kd.R_mono (Kd.R_far (p := ⟨gb369, 2, none⟩) (Kd.R_far (p := ⟨gb369, 1, none⟩) (Kd.R_far (p := ⟨gb369, 0, none⟩) (Kd.R_types HO_4.out BK369.out (by decide)) (fun _ hk => hk.2) (.string x375000_1)) (fun _ hk => hk.2) (.int .i64 x375001_1)) (fun _ hk => hk.2) (.int .i64 x375002_1)) (fun _ hk => trivial), bws HB.out⟩
def stowageref01_Reader_End.f (a0_0 : ByteArray) (a0_1 : Int) (a0_2 : Int) : Option (ByteArray × Int × Int) := if a0_2 = 0 then (if a0_1 < (a0_0.size : Int) then (some (a0_0, a0_1, 2)) else (some (a0_0, a0_1, a0_2))) else (some (a0_0, a0_1, a0_2))
set_option maxHeartbeats 8000000 in
set_option maxRecDepth 100000 in
theorem stowageref01_Reader_End.calls (a0_0 : ByteArray) (a0_1 : Int) (a0_2 : Int) (r1 : ByteArray) (r2 : Int) (r3 : Int) (w : World) (h : stowageref01_Reader_End.f a0_0 a0_1 a0_2 = some (r1, r2, r3)) :
  Calls Tryd.prog 59 #[.agg #[.string a0_0, .int .i64 a0_1, .int .i64 a0_2]] w fun e w' => e = .returned (.agg #[.string r1, .int .i64 r2, .int .i64 r3]) ∧ Below w.heap.size w w' := by
 have hu103 := Tryd.underlying103
 have HB := am (Below.refl w.heap.size w)
 have H := h
 clear h
 unfold stowageref01_Reader_End.f at H
 by_cases c2 : a0_2 = 0
 ·
  rw [if_pos c2] at H
  have c2b0 := beq_iff_eq.mpr c2
  have c2b1 := bne_eq_false_iff_eq.mpr c2
  clear c2
  rcases iteD H with ⟨c3b0, H⟩ | ⟨c3b0, H⟩
  ·
   simp only [Option.some.injEq, Prod.mk.injEq] at H
   obtain ⟨rfl, rfl, rfl⟩ := H
   go_enter Tryd.func59, Tryd.ntmps59
   go_wp2_with (first | ((with_reducible refine gate_dst (N := 1) rfl ?_); (try (refine gate_guard (by rfl) ?_; dsimp only)); refine bx 1 #[.string a0_0, .int .i64 a0_1, .int .i64 a0_2] 103 ?_; intro gb388 hg w4 hbox hb; have BK388 := am (hbox); have GW388 := gsz hg HB.out; have GE388 := gsz hg HB.out; replace HB := am (below_step (bw HB.out) hb); clear hb hbox hg) | ((with_reducible refine gate_dst (N := 2) rfl ?_); (try (refine gate_guard (by rfl) ?_; dsimp only)); refine bx 2 #[.string (⟨#[]⟩ : ByteArray), .int .i64 0, .int .i64 0] 103 ?_; intro gb389 hg w5 hbox hb; have BK389 := am (hbox); have GW389 := gsz hg HB.out; have GE389 := gsz hg HB.out; have NB388_389 := nlt (g := gb388) hg BK388.out; have NB389_388 := ngt (g := gb388) hg BK388.out; replace BK388 := bb BK388.out hb; replace HB := am (below_step (bws HB.out) hb); clear hb hbox hg; have hnb6 := NB388_389.out; have hnc6 := NB389_388.out; obtain ⟨hcz7_0, hcz7_1, hcz7_2, hfz7_0, hfz7_1, hfz7_2⟩ := cz3 BK388.out; obtain ⟨hcz8_0, hcz8_1, hcz8_2, hfz8_0, hfz8_1, hfz8_2⟩ := cz3 BK389.out))
   refine bodyPost_ret (results_cell_row rfl _ _ gb389 103 #[.string a0_0, .int .i64 a0_1, .int .i64 2] (0, 0) _ rfl (bkf BK389.out) Tryd.underlying103 rfl (by kernel_rfl)) rfl ?_
   exact ⟨rf, bws HB.out⟩
  ·
   simp only [Option.some.injEq, Prod.mk.injEq] at H
   obtain ⟨rfl, rfl, rfl⟩ := H
   go_enter Tryd.func59, Tryd.ntmps59
   go_wp2_with (first | ((with_reducible refine gate_dst (N := 1) rfl ?_); (try (refine gate_guard (by rfl) ?_; dsimp only)); refine bx 1 #[.string a0_0, .int .i64 a0_1, .int .i64 a0_2] 103 ?_; intro gb388 hg w9 hbox hb; have BK388 := am (hbox); have GW388 := gsz hg HB.out; have GE388 := gsz hg HB.out; replace HB := am (below_step (bw HB.out) hb); clear hb hbox hg) | ((with_reducible refine gate_dst (N := 2) rfl ?_); (try (refine gate_guard (by rfl) ?_; dsimp only)); refine bx 2 #[.string (⟨#[]⟩ : ByteArray), .int .i64 0, .int .i64 0] 103 ?_; intro gb389 hg w10 hbox hb; have BK389 := am (hbox); have GW389 := gsz hg HB.out; have GE389 := gsz hg HB.out; have NB388_389 := nlt (g := gb388) hg BK388.out; have NB389_388 := ngt (g := gb388) hg BK388.out; replace BK388 := bb BK388.out hb; replace HB := am (below_step (bws HB.out) hb); clear hb hbox hg; have hnb11 := NB388_389.out; have hnc11 := NB389_388.out; obtain ⟨hcz12_0, hcz12_1, hcz12_2, hfz12_0, hfz12_1, hfz12_2⟩ := cz3 BK388.out; obtain ⟨hcz13_0, hcz13_1, hcz13_2, hfz13_0, hfz13_1, hfz13_2⟩ := cz3 BK389.out))
   refine bodyPost_ret (results_cell_row rfl _ _ gb389 103 #[.string a0_0, .int .i64 a0_1, .int .i64 a0_2] (0, 0) _ rfl (bkp BK389.out) Tryd.underlying103 rfl (by kernel_rfl)) rfl ?_
   exact ⟨rf, bws HB.out⟩
 ·
  rw [if_neg c2] at H
  have c2b0 := beq_eq_false_iff_ne.mpr c2
  have c2b1 := bne_iff_ne.mpr c2
  simp only [Option.some.injEq, Prod.mk.injEq] at H
  obtain ⟨rfl, rfl, rfl⟩ := H
  go_enter Tryd.func59, Tryd.ntmps59
  go_wp2_with (first | ((with_reducible refine gate_dst (N := 1) rfl ?_); (try (refine gate_guard (by rfl) ?_; dsimp only)); refine bx 1 #[.string a0_0, .int .i64 a0_1, .int .i64 a0_2] 103 ?_; intro gb388 hg w14 hbox hb; have BK388 := am (hbox); have GW388 := gsz hg HB.out; have GE388 := gsz hg HB.out; replace HB := am (below_step (bw HB.out) hb); clear hb hbox hg) | ((with_reducible refine gate_dst (N := 2) rfl ?_); (try (refine gate_guard (by rfl) ?_; dsimp only)); refine bx 2 #[.string (⟨#[]⟩ : ByteArray), .int .i64 0, .int .i64 0] 103 ?_; intro gb389 hg w15 hbox hb; have BK389 := am (hbox); have GW389 := gsz hg HB.out; have GE389 := gsz hg HB.out; have NB388_389 := nlt (g := gb388) hg BK388.out; have NB389_388 := ngt (g := gb388) hg BK388.out; replace BK388 := bb BK388.out hb; replace HB := am (below_step (bws HB.out) hb); clear hb hbox hg; have hnb16 := NB388_389.out; have hnc16 := NB389_388.out; obtain ⟨hcz17_0, hcz17_1, hcz17_2, hfz17_0, hfz17_1, hfz17_2⟩ := cz3 BK388.out; obtain ⟨hcz18_0, hcz18_1, hcz18_2, hfz18_0, hfz18_1, hfz18_2⟩ := cz3 BK389.out))
  refine bodyPost_ret (results_cell_row rfl _ _ gb389 103 #[.string a0_0, .int .i64 a0_1, .int .i64 a0_2] (0, 0) _ rfl (bkp BK389.out) Tryd.underlying103 rfl (by kernel_rfl)) rfl ?_
  exact ⟨rf, bws HB.out⟩
def stowageref14_Decode.l0 : Nat → Int → List (S52) → Int → ByteArray → Int → Int → Option ((List (S52)) × Int)
 | 0, _, _, _, _, _, _ => none
 | k + 1, x5, x6, x7, x395000, x395001, x395002 => if x7 < x5 then ((stowageref01_Reader_Int.f k x395000 x395001 x395002 100).bind fun bt395 => ((stowageref13_Read.f k bt395.1 bt395.2.1 bt395.2.2.1).bind fun bt400 => ((stowageref01_Reader_Text.f k bt400.1 bt400.2.1 bt400.2.2.1 64).bind fun bt407 => ((stowageref13_Pieces.f k bt400.2.2.2).bind fun bt412 => (if x6.length < 2513169434916 then (stowageref14_Decode.l0 k x5 (x6 ++ [(⟨bt395.2.2.2, bt412.1, bt407.2.2.2, bt400.2.2.2⟩ : S52)]) (wrap64 (x7 + 1)) bt407.1 bt407.2.1 bt407.2.2.1) else (none)))))) else ((stowageref01_Reader_End.f x395000 x395001 x395002).bind fun bt417 => (if bt417.2.2 = 0 then ((stowageref14_May.f k x6).bind fun t420 => (if t420 = true then (some (x6, 0)) else (some (([] : List (S52)), 3)))) else (some (([] : List (S52)), 3))))
def stowageref14_Decode.f (k : Nat) (a0 : ByteArray) : Option ((List (S52)) × Int) := (stowageref01_Reader_Int.f k a0 0 0 100).bind fun bt390 => (stowageref14_Decode.l0 k bt390.2.2.2 ([] : List (S52)) 0 bt390.1 bt390.2.1 bt390.2.2.1)
theorem stowageref14_Decode.mono_l : ∀ k, (∀ y0 y1 y2 y3 y4 y5, LeO (stowageref14_Decode.l0 k y0 y1 y2 y3 y4 y5) (stowageref14_Decode.l0 (k + 1) y0 y1 y2 y3 y4 y5))
 | 0 => fun _ _ _ _ _ _ r h => by simp [stowageref14_Decode.l0] at h
 | k + 1 => by
  have ih0 := stowageref14_Decode.mono_l k
  ·
   intro y0 y1 y2 y3 y4 y5
   unfold stowageref14_Decode.l0
   repeat' (with_reducible first | exact ih0 _ _ _ _ _ _ | exact stowageref01_Reader_Int.mono _ _ _ _ _ | exact stowageref01_Reader_Text.mono _ _ _ _ _ | exact stowageref13_Pieces.mono _ _ | exact stowageref13_Read.mono _ _ _ _ | exact stowageref14_May.mono _ _ | exact LeO.refl _ | exact LeO.none _ | refine LeO.ite ?_ ?_ | refine LeO.bind ?_ (fun _ => ?_))
theorem stowageref14_Decode.mono : ∀ a0 k, LeO (stowageref14_Decode.f k a0) (stowageref14_Decode.f (k + 1) a0) := by
 intro a0 k
 have ih0 := stowageref14_Decode.mono_l k
 unfold stowageref14_Decode.f
 repeat' (with_reducible first | exact ih0 _ _ _ _ _ _ | exact stowageref01_Reader_Int.mono _ _ _ _ _ | exact stowageref01_Reader_Text.mono _ _ _ _ _ | exact stowageref13_Pieces.mono _ _ | exact stowageref13_Read.mono _ _ _ _ | exact stowageref14_May.mono _ _ | exact LeO.refl _ | exact LeO.none _ | refine LeO.ite ?_ ?_ | refine LeO.bind ?_ (fun _ => ?_))
set_option maxHeartbeats 8000000 in
set_option maxRecDepth 100000 in
theorem stowageref14_Decode.calls (k : Nat) (a0 : ByteArray) (r1 : List (S52)) (r2 : Int) (w : World) (h : stowageref14_Decode.f k a0 = some (r1, r2)) :
  Calls Tryd.prog 28 #[.string a0] w fun e w' => ∃ v0_ : Value, e = .returned (.tuple #[v0_, .int .i64 r2]) ∧ Kd.S k52 52 w' w.heap.size (fun _ => True) v0_ r1 ∧ Below w.heap.size w w' := by
 have fact_f : ∀ (u0 : ByteArray) (u1 u2 : Int) (W : World), (Instr.field 103 (.agg #[.string u0, .int .i64 u1, .int .i64 u2]) 2).run Tryd.prog W = .ok (.int .i64 u2) W := fun u0 u1 u2 W => (by have h3 : Tryd.prog.underlying 3 = some (.int .i64) := Tryd.underlying3; simp [Instr.field, run_underlying Tryd.underlying103, part, asAgg, isAgg, run_underlying h3])
 have hu103 := Tryd.underlying103
 have hu52 := Tryd.underlying52
 have HB := am (Below.refl w.heap.size w)
 have H := h
 clear h
 unfold stowageref14_Decode.f at H
 obtain ⟨⟨t390, t391, t392, t393⟩, A2, H⟩ := obE H
 try dsimp only at H
 have H' := am H
 clear H
 go_enter Tryd.func28, Tryd.ntmps28
 go_wp2_with (first | ((with_reducible refine gate_callee (f := 56) rfl ?_); refine goesL_ (some 19) rfl rfl Tryd.func56 (by kernel_rfl) rfl #[.agg #[.string a0, .int .i64 0, .int .i64 0], .int .i64 100] rfl gl ?_; (with_reducible refine (stowageref01_Reader_Int.calls k a0 0 0 100 t390 t391 t392 t393 _ A2.out).mono ?_); rintro e w3 ⟨rfl, hb⟩; refine ⟨_, rfl, ?_⟩; replace HB := am (below_step (bw HB.out) hb); (try clear hb)) | ((with_reducible refine gate_dst (N := 4) rfl ?_); refine bx 4 #[.string (⟨#[]⟩ : ByteArray), .int .i64 0, .int .i64 0] 103 ?_; intro gb394 hg w4 hbox hb; have BK394 := am (hbox); have GW394 := gsz hg HB.out; have GE394 := gsz hg HB.out; replace HB := am (below_step (bw HB.out) hb); clear hb hbox hg; obtain ⟨hcz5_0, hcz5_1, hcz5_2, hfz5_0, hfz5_1, hfz5_2⟩ := cz3 BK394.out))
 go_loopg [6, 7] k (fun kq v6 v7 w' => ∃ (x6_1 : List (S52)) (x7_1 : Int) (x395000_1 : ByteArray) (x395001_1 : Int) (x395002_1 : Int), v7 = .int .i64 x7_1 ∧ Aside0 (stowageref14_Decode.l0 kq t393 x6_1 x7_1 x395000_1 x395001_1 x395002_1 = some (r1, r2)) ∧ Aside0 (kq ≤ k) ∧ Aside0 (Kd.S k52 52 w' w.heap.size (fun _ => True) v6 x6_1) ∧ Aside0 (w'.heap[gb394]? = some (.cells #[.string x395000_1, .int .i64 x395001_1, .int .i64 x395002_1] 103 (0, 0))) ∧ Aside0 (Below w.heap.size w w'))
 case atStart => exact ⟨(([] : List (S52))), (0), (t390), (t391), (t392), rs, H', ⟨Nat.le_refl _⟩, ⟨niS⟩, ⟨bkp BK394.out⟩, ⟨bws HB.out⟩⟩
 case round =>
  clear H'
  try clear c2
  try clear p2
  try clear c5
  try clear hcz5_0 hcz5_1 hcz5_2 hfz5_0 hfz5_1 hfz5_2
  obtain ⟨x6_1, x7_1, x395000_1, x395001_1, x395002_1, rfl, HA, HK1, HO_6, BK394, HB⟩ := hrel
  cases gk with
  | zero => exact absurd HA.out (by simp [stowageref14_Decode.l0])
  | succ k1 =>
   have H := HA.out
   clear HA
   simp only [stowageref14_Decode.l0] at H
   rcases iteD H with ⟨c6b0, H⟩ | ⟨c6b0, H⟩
   ·
    obtain ⟨⟨t395, t396, t397, t398⟩, A7, H⟩ := obE H
    try dsimp only at H
    obtain ⟨⟨t400, t401, t402, t403⟩, A8, H⟩ := obE H
    try dsimp only at H
    obtain ⟨⟨t407, t408, t409, t410⟩, A9, H⟩ := obE H
    try dsimp only at H
    obtain ⟨⟨t412, t413⟩, A10, H⟩ := obE H
    try dsimp only at H
    by_cases c11 : x6_1.length < 2513169434916
    ·
     rw [if_pos c11] at H
     have LMc11 := am c11
     clear c11
     obtain ⟨y414, hy414⟩ : ∃ y_ : List (S52), y_ = (x6_1 ++ [(⟨t398, t412, t410, t403⟩ : S52)]) := ⟨_, rfl⟩
     replace H : (stowageref14_Decode.l0 k1 t393 y414 (wrap64 (x7_1 + 1)) t407 t408 t409) = some (r1, r2) := by first | (rw [hy414]; with_reducible exact H) | (have H2_ := (Option.bind_some _ _).symm.trans H; rw [hy414]; with_reducible exact H2_) | (have H2_ := (Option.bind_some _ _).symm.trans H; with_reducible exact H2_) | with_reducible exact H | (rw [hy414]; exact H) | exact H
     have Ny414 := am hy414
     clear hy414
     have H' := am H
     clear H
     obtain ⟨hcz12_0, hcz12_1, hcz12_2, hfz12_0, hfz12_1, hfz12_2⟩ := cz3 BK394.out
     go_wp2_with (first | ((with_reducible refine gate_callee (f := 56) rfl ?_); refine goesL_ (some 29) rfl rfl Tryd.func56 (by kernel_rfl) rfl #[.agg #[.string x395000_1, .int .i64 x395001_1, .int .i64 x395002_1], .int .i64 100] rfl gl ?_; (with_reducible refine (stowageref01_Reader_Int.calls k1 x395000_1 x395001_1 x395002_1 100 t395 t396 t397 t398 _ A7.out).mono ?_); rintro e w13 ⟨rfl, hb⟩; refine ⟨_, rfl, ?_⟩; replace HO_6 := am (Kd.S_below (kS HO_6.out) hb); replace BK394 := bb BK394.out hb; replace HB := am (below_step (bws HB.out) hb); (try clear hb)) | ((with_reducible refine gate_dst (N := 8) rfl ?_); refine bx 8 #[.string (⟨#[]⟩ : ByteArray), .int .i64 0, .int .i64 0] 103 ?_; intro gb399 hg w14 hbox hb; have BK399 := am (hbox); have GW399 := gsz hg HB.out; have GE399 := gsz hg HB.out; have NB394_399 := nlt (g := gb394) hg BK394.out; have NB399_394 := ngt (g := gb394) hg BK394.out; replace HO_6 := am (Kd.S_below (kS HO_6.out) hb); replace BK394 := bb BK394.out hb; replace HB := am (below_step (bws HB.out) hb); clear hb hbox hg; have hnb15 := NB399_394.out; have hnc15 := NB394_399.out; obtain ⟨hcz16_0, hcz16_1, hcz16_2, hfz16_0, hfz16_1, hfz16_2⟩ := cz3 BK399.out) | ((with_reducible refine gate_callee (f := 57) rfl ?_); refine goesL_ (some 34) rfl rfl Tryd.func57 (by kernel_rfl) rfl #[.agg #[.string t395, .int .i64 t396, .int .i64 t397]] rfl gl ?_; (with_reducible refine (stowageref13_Read.calls k1 t395 t396 t397 t400 t401 t402 t403 _ A8.out).mono ?_); rintro e w17 ⟨v404, rfl, ho0, hb⟩; refine ⟨_, rfl, ?_⟩; replace HO_6 := am (Kd.S_elder' (by (with_reducible repeat (first | apply Kd.S_alloc | apply Kd.S_drewN | apply Kd.S_drew)); exact (Kd.S_mono (Kd.S_far (p := ⟨gb399, 2, none⟩) (Kd.S_far (p := ⟨gb399, 1, none⟩) (Kd.S_far (p := ⟨gb399, 0, none⟩) (Kd.S_types HO_6.out BK399.out (by decide)) (fun _ hk => hk.2) (.string t395)) (fun _ hk => hk.2) (.int .i64 t396)) (fun _ hk => hk.2) (.int .i64 t397)) (fun _ h_ => h_.1))) (Kd.R_base ho0) hb); have HO405 := am (Kd.R_lower ho0 (below_size (bws HB.out))); replace BK394 := am (blk_below (g := gb394) (o := .cells #[.string x395000_1, .int .i64 x395001_1, .int .i64 x395002_1] 103 (0, 0)) (bkf BK394.out) hb); replace BK399 := am (blk_below (g := gb399) (o := .cells #[.string t395, .int .i64 t396, .int .i64 t397] 103 (0, 0)) (bkp BK399.out) hb); replace HB := am (below_step (bws HB.out) hb); (try clear hb); (try clear ho0)) | ((with_reducible refine gate_dst (N := 10) rfl ?_); refine bx 10 #[.string (⟨#[]⟩ : ByteArray), .int .i64 0, .int .i64 0] 103 ?_; intro gb406 hg w18 hbox hb; have BK406 := am (hbox); have GW406 := gsz hg HB.out; have GE406 := gsz hg HB.out; have NB394_406 := nlt (g := gb394) hg BK394.out; have NB406_394 := ngt (g := gb394) hg BK394.out; have NB399_406 := nlt (g := gb399) hg BK399.out; have NB406_399 := ngt (g := gb399) hg BK399.out; replace HO_6 := am (Kd.S_below (kS HO_6.out) hb); replace HO405 := am (Kd.R_below (kR HO405.out) hb); replace BK394 := bb BK394.out hb; replace BK399 := bb BK399.out hb; replace HB := am (below_step (bws HB.out) hb); clear hb hbox hg; have hnb19 := NB406_394.out; have hnc19 := NB394_406.out; have hnb20 := NB406_399.out; have hnc20 := NB399_406.out; obtain ⟨hcz21_0, hcz21_1, hcz21_2, hfz21_0, hfz21_1, hfz21_2⟩ := cz3 BK406.out) | ((with_reducible refine gate_callee (f := 58) rfl ?_); refine goesL_ (some 39) rfl rfl Tryd.func58 (by kernel_rfl) rfl #[.agg #[.string t400, .int .i64 t401, .int .i64 t402], .int .i64 64] rfl gl ?_; (with_reducible refine (stowageref01_Reader_Text.calls k1 t400 t401 t402 64 t407 t408 t409 t410 _ A9.out).mono ?_); rintro e w22 ⟨rfl, hb⟩; refine ⟨_, rfl, ?_⟩; replace HO_6 := am (Kd.S_below (by (with_reducible repeat (first | apply Kd.S_alloc | apply Kd.S_drewN | apply Kd.S_drew)); exact (Kd.S_mono (Kd.S_far (p := ⟨gb406, 2, none⟩) (Kd.S_far (p := ⟨gb406, 1, none⟩) (Kd.S_far (p := ⟨gb406, 0, none⟩) (Kd.S_types HO_6.out BK406.out (by decide)) (fun _ hk => hk.2) (.string t400)) (fun _ hk => hk.2) (.int .i64 t401)) (fun _ hk => hk.2) (.int .i64 t402)) (fun _ h_ => h_.1))) hb); replace HO405 := am (Kd.R_below (by (with_reducible repeat (first | apply Kd.R_alloc | apply Kd.R_drewN | apply Kd.R_drew)); exact (Kd.R_mono (Kd.R_far (p := ⟨gb406, 2, none⟩) (Kd.R_far (p := ⟨gb406, 1, none⟩) (Kd.R_far (p := ⟨gb406, 0, none⟩) (Kd.R_types HO405.out BK406.out (by decide)) (fun _ hk => hk.2) (.string t400)) (fun _ hk => hk.2) (.int .i64 t401)) (fun _ hk => hk.2) (.int .i64 t402)) (fun _ h_ => h_.1))) hb); replace BK394 := am (blk_below (g := gb394) (o := .cells #[.string x395000_1, .int .i64 x395001_1, .int .i64 x395002_1] 103 (0, 0)) (bkf BK394.out) hb); replace BK399 := am (blk_below (g := gb399) (o := .cells #[.string t395, .int .i64 t396, .int .i64 t397] 103 (0, 0)) (bkf BK399.out) hb); replace BK406 := am (blk_below (g := gb406) (o := .cells #[.string t400, .int .i64 t401, .int .i64 t402] 103 (0, 0)) (bkp BK406.out) hb); replace HB := am (below_step (bws HB.out) hb); (try clear hb)) | ((with_reducible refine gate_dst (N := 12) rfl ?_); refine bx 12 #[.string (⟨#[]⟩ : ByteArray), .int .i64 0, .int .i64 0] 103 ?_; intro gb411 hg w23 hbox hb; have BK411 := am (hbox); have GW411 := gsz hg HB.out; have GE411 := gsz hg HB.out; have NB394_411 := nlt (g := gb394) hg BK394.out; have NB411_394 := ngt (g := gb394) hg BK394.out; have NB399_411 := nlt (g := gb399) hg BK399.out; have NB411_399 := ngt (g := gb399) hg BK399.out; have NB406_411 := nlt (g := gb406) hg BK406.out; have NB411_406 := ngt (g := gb406) hg BK406.out; replace HO_6 := am (Kd.S_below (kS HO_6.out) hb); replace HO405 := am (Kd.R_below (kR HO405.out) hb); replace BK394 := bb BK394.out hb; replace BK399 := bb BK399.out hb; replace BK406 := bb BK406.out hb; replace HB := am (below_step (bws HB.out) hb); clear hb hbox hg; have hnb24 := NB411_394.out; have hnc24 := NB394_411.out; have hnb25 := NB411_399.out; have hnc25 := NB399_411.out; have hnb26 := NB411_406.out; have hnc26 := NB406_411.out; obtain ⟨hcz27_0, hcz27_1, hcz27_2, hfz27_0, hfz27_1, hfz27_2⟩ := cz3 BK411.out; obtain ⟨hcz28_0, hcz28_1, hcz28_2, hfz28_0, hfz28_1, hfz28_2⟩ := cz3 BK394.out; obtain ⟨Ao29, co29, eo29⟩ := Kd.R_slice HO405.out; subst eo29) | ((with_reducible refine gate_callee (f := 44) rfl ?_); refine goesL_ (some 45) rfl rfl Tryd.func44 (by kernel_rfl) rfl #[.slice Ao29 t403.length co29] rfl gl ?_; (with_reducible refine (stowageref13_Pieces.calls k1 _ _ t403 t412 t413 _ ?side1 ?side2 A10.out).mono ?_); (case side1 => refine (Kd.R_reads' (e := 85) (base := w.heap.size) (ok := fun k_ => True) (n := t403.length) (c := co29) ?_).2.2; exact (by (with_reducible repeat (first | apply Kd.R_alloc | apply Kd.R_drewN | apply Kd.R_drew)); exact (Kd.R_mono (Kd.R_mono (Kd.R_far (p := ⟨gb394, 2, none⟩) (Kd.R_far (p := ⟨gb394, 1, none⟩) (Kd.R_far (p := ⟨gb394, 0, none⟩) (Kd.R_far (p := ⟨gb411, 2, none⟩) (Kd.R_far (p := ⟨gb411, 1, none⟩) (Kd.R_far (p := ⟨gb411, 0, none⟩) (Kd.R_types (Kd.R_types HO405.out BK411.out (by decide)) BK394.out (by decide)) (fun _ hk => hk.1.2) (.string t407)) (fun _ hk => hk.1.2) (.int .i64 t408)) (fun _ hk => hk.1.2) (.int .i64 t409)) (fun _ hk => hk.2) (.string t407)) (fun _ hk => hk.2) (.int .i64 t408)) (fun _ hk => hk.2) (.int .i64 t409)) (fun _ h_ => h_.1)) (fun _ h_ => h_.1)))); (case side2 => exact (Kd.R_reads' HO405.out).2.1); rintro e w30 ⟨rfl, hb⟩; refine ⟨_, rfl, ?_⟩; replace HO_6 := am (Kd.S_below (by (with_reducible repeat (first | apply Kd.S_alloc | apply Kd.S_drewN | apply Kd.S_drew)); exact (Kd.S_mono (Kd.S_mono (Kd.S_far (p := ⟨gb394, 2, none⟩) (Kd.S_far (p := ⟨gb394, 1, none⟩) (Kd.S_far (p := ⟨gb394, 0, none⟩) (Kd.S_far (p := ⟨gb411, 2, none⟩) (Kd.S_far (p := ⟨gb411, 1, none⟩) (Kd.S_far (p := ⟨gb411, 0, none⟩) (Kd.S_types (Kd.S_types HO_6.out BK411.out (by decide)) BK394.out (by decide)) (fun _ hk => hk.1.2) (.string t407)) (fun _ hk => hk.1.2) (.int .i64 t408)) (fun _ hk => hk.1.2) (.int .i64 t409)) (fun _ hk => hk.2) (.string t407)) (fun _ hk => hk.2) (.int .i64 t408)) (fun _ hk => hk.2) (.int .i64 t409)) (fun _ h_ => h_.1)) (fun _ h_ => h_.1))) hb); replace HO405 := am (Kd.R_below (by (with_reducible repeat (first | apply Kd.R_alloc | apply Kd.R_drewN | apply Kd.R_drew)); exact (Kd.R_mono (Kd.R_mono (Kd.R_far (p := ⟨gb394, 2, none⟩) (Kd.R_far (p := ⟨gb394, 1, none⟩) (Kd.R_far (p := ⟨gb394, 0, none⟩) (Kd.R_far (p := ⟨gb411, 2, none⟩) (Kd.R_far (p := ⟨gb411, 1, none⟩) (Kd.R_far (p := ⟨gb411, 0, none⟩) (Kd.R_types (Kd.R_types HO405.out BK411.out (by decide)) BK394.out (by decide)) (fun _ hk => hk.1.2) (.string t407)) (fun _ hk => hk.1.2) (.int .i64 t408)) (fun _ hk => hk.1.2) (.int .i64 t409)) (fun _ hk => hk.2) (.string t407)) (fun _ hk => hk.2) (.int .i64 t408)) (fun _ hk => hk.2) (.int .i64 t409)) (fun _ h_ => h_.1)) (fun _ h_ => h_.1))) hb); replace BK394 := am (blk_below (g := gb394) (o := .cells #[.string t407, .int .i64 t408, .int .i64 t409] 103 (0, 0)) (bkf BK394.out) hb); replace BK399 := am (blk_below (g := gb399) (o := .cells #[.string t395, .int .i64 t396, .int .i64 t397] 103 (0, 0)) (bkf BK399.out) hb); replace BK406 := am (blk_below (g := gb406) (o := .cells #[.string t400, .int .i64 t401, .int .i64 t402] 103 (0, 0)) (bkf BK406.out) hb); replace BK411 := am (blk_below (g := gb411) (o := .cells #[.string t407, .int .i64 t408, .int .i64 t409] 103 (0, 0)) (bkf BK411.out) hb); replace HB := am (below_step (bws HB.out) hb); (try clear hb)) | ((with_reducible refine gate_builtin (b := .append) (xs := #[.tmp 48, .tmp 54]) rfl ?_); at_builtin; refine Kd.S_append k52 (w0 := w) w.heap.size rfl (.tmp 48) (.tmp 54) 35 52 (.agg #[(.int .i64 0), (.int .i64 0), (.string ⟨#[]⟩), (.slice none 0 0)]) 56 rfl Tryd.underlying35 info52 rfl (by decide) (by omega) u6 x6_1 (⟨t398, t412, t410, t403⟩ : S52) [.int .i64 t398, .int .i64 t412, .string t410, .slice Ao29 t403.length co29] (fun _ => True) (fun k_ => some k_ = (.slice Ao29 t403.length co29 : Value).ownBlock) rfl rfl ?aP (fun k_ hk_ => ((Kd.R_mono (ok' := fun k_ => ((fun _ => True)) k_ ∧ some k_ ≠ (u6 : Value).ownBlock) (Kd.R_apart' (HO405.out) (Kd.S_typed HO_6.out) (by decide)) (fun k_ hk => ⟨trivial, hk.2⟩))).1 k_ hk_.symm) ?aF ?aO ?aB ?aS ?aL ?_; (case aP => exact k52_mkM _ _ _ (⟨t398, t412, t410, t403⟩ : S52) (Kd.R_mono (Kd.R_tight rfl (Kd.R_mono (ok' := fun k_ => ((fun _ => True)) k_ ∧ some k_ ≠ (u6 : Value).ownBlock) (Kd.R_apart' (HO405.out) (Kd.S_typed HO_6.out) (by decide)) (fun k_ hk => ⟨trivial, hk.2⟩))) (fun _ h_ => h_))); (case aB => exact (bws HB.out)); (case aF => exact (fun _ _ => trivial)); (case aO => exact (by (with_reducible repeat (first | apply Kd.S_alloc | apply Kd.S_drewN | apply Kd.S_drew)); exact Kd.S_mono HO_6.out (fun k_ hk => ⟨trivial, fun e_ => hk.2 e_⟩))); (case aS => exact (below_size (bws HB.out))); (case aL => have := LMc11.out; omega); intro v415 w31 ho hb hg hat; rw [← Ny414.out] at ho; have n0_ := am (blk_grown (g := gb394) (o := .cells #[.string t407, .int .i64 t408, .int .i64 t409] 103 (0, 0)) (bk BK394.out) hg (Kd.S_ne HO_6.out BK394.out (by decide))); have n1_ := am (blk_grown (g := gb399) (o := .cells #[.string t395, .int .i64 t396, .int .i64 t397] 103 (0, 0)) (bk BK399.out) hg (Kd.S_ne HO_6.out BK399.out (by decide))); have n2_ := am (blk_grown (g := gb406) (o := .cells #[.string t400, .int .i64 t401, .int .i64 t402] 103 (0, 0)) (bk BK406.out) hg (Kd.S_ne HO_6.out BK406.out (by decide))); have n3_ := am (blk_grown (g := gb411) (o := .cells #[.string t407, .int .i64 t408, .int .i64 t409] 103 (0, 0)) (bk BK411.out) hg (Kd.S_ne HO_6.out BK411.out (by decide))); have n4_ := am (hb); have n5_ := am (ho); clear BK394; clear BK399; clear BK406; clear BK411; clear HB; clear HO_6; clear HO405; have BK394 := n0_; have BK399 := n1_; have BK406 := n2_; have BK411 := n3_; have HB := n4_; have HO416 := n5_; clear n0_ n1_ n2_ n3_ n4_ n5_; clear ho hb hg hat))
     go_roundg k1
     case measure => have := HK1.out; omega
     case rel => exact ⟨(y414), (wrap64 (x7_1 + 1)), (t407), (t408), (t409), rs, H', ⟨by have := HK1.out; omega⟩, ⟨kS HO416.out⟩, ⟨bk BK394.out⟩, ⟨bws HB.out⟩⟩
    ·
     rw [if_neg c11] at H
     exact absurd H (by simp)
   ·
    obtain ⟨⟨t417, t418, t419⟩, A32, H⟩ := obE H
    try dsimp only at H
    by_cases c33 : t419 = 0
    ·
     rw [if_pos c33] at H
     have c33b0 := beq_iff_eq.mpr c33
     have c33b1 := bne_eq_false_iff_eq.mpr c33
     clear c33
     obtain ⟨t420, A34, H⟩ := obE H
     by_cases c35 : t420 = true
     ·
      subst c35
      rw [if_pos rfl] at H
      simp only [Option.some.injEq, Prod.mk.injEq] at H
      obtain ⟨rfl, rfl⟩ := H
      obtain ⟨hcz36_0, hcz36_1, hcz36_2, hfz36_0, hfz36_1, hfz36_2⟩ := cz3 BK394.out
      go_wp2_with (first | ((with_reducible refine gate_callee (f := 59) rfl ?_); refine goesL_ (some 57) rfl rfl Tryd.func59 (by kernel_rfl) rfl #[.agg #[.string x395000_1, .int .i64 x395001_1, .int .i64 x395002_1]] rfl gl ?_; (with_reducible refine (stowageref01_Reader_End.calls x395000_1 x395001_1 x395002_1 t417 t418 t419 _ A32.out).mono ?_); rintro e w37 ⟨rfl, hb⟩; refine ⟨_, rfl, ?_⟩; replace HO_6 := am (Kd.S_below (kS HO_6.out) hb); replace BK394 := bb BK394.out hb; replace HB := am (below_step (bws HB.out) hb); (try clear hb); obtain ⟨Ao38, co38, eo38⟩ := Kd.S_slice HO_6.out; subst eo38) | (go_at_call 33; (with_reducible refine (stowageref14_May.calls k1 _ _ x6_1 true _ ?side1 ?side2 A34.out).mono ?_); (case side1 => repeat (first | exact (Kd.S_reads' HO_6.out).2.2 | (with_reducible refine Kd.C_alloc ?_ _) | (with_reducible refine Kd.C_drewN ?_ _) | (with_reducible refine Kd.C_drew ?_))); (case side2 => exact (Kd.S_reads' HO_6.out).2.1); rintro e w39 ⟨rfl, hb⟩; replace HO_6 := am (Kd.S_below (kS HO_6.out) hb); replace BK394 := bb BK394.out hb; replace HB := am (below_step (bws HB.out) hb); (try clear hb)))
      go_ret2
      exact ⟨_, rf, kS HO_6.out, bws HB.out⟩
     ·
      replace c35 := Bool.eq_false_iff.mpr c35
      subst c35
      rw [if_neg (show ¬ (false = true) by decide)] at H
      simp only [Option.some.injEq, Prod.mk.injEq] at H
      obtain ⟨rfl, rfl⟩ := H
      obtain ⟨hcz40_0, hcz40_1, hcz40_2, hfz40_0, hfz40_1, hfz40_2⟩ := cz3 BK394.out
      go_wp2_with (first | ((with_reducible refine gate_callee (f := 59) rfl ?_); refine goesL_ (some 57) rfl rfl Tryd.func59 (by kernel_rfl) rfl #[.agg #[.string x395000_1, .int .i64 x395001_1, .int .i64 x395002_1]] rfl gl ?_; (with_reducible refine (stowageref01_Reader_End.calls x395000_1 x395001_1 x395002_1 t417 t418 t419 _ A32.out).mono ?_); rintro e w41 ⟨rfl, hb⟩; refine ⟨_, rfl, ?_⟩; replace HO_6 := am (Kd.S_below (kS HO_6.out) hb); replace BK394 := bb BK394.out hb; replace HB := am (below_step (bws HB.out) hb); (try clear hb); obtain ⟨Ao42, co42, eo42⟩ := Kd.S_slice HO_6.out; subst eo42) | (go_at_call 33; (with_reducible refine (stowageref14_May.calls k1 _ _ x6_1 false _ ?side1 ?side2 A34.out).mono ?_); (case side1 => repeat (first | exact (Kd.S_reads' HO_6.out).2.2 | (with_reducible refine Kd.C_alloc ?_ _) | (with_reducible refine Kd.C_drewN ?_ _) | (with_reducible refine Kd.C_drew ?_))); (case side2 => exact (Kd.S_reads' HO_6.out).2.1); rintro e w43 ⟨rfl, hb⟩; replace HO_6 := am (Kd.S_below (kS HO_6.out) hb); replace BK394 := bb BK394.out hb; replace HB := am (below_step (bws HB.out) hb); (try clear hb)))
      go_ret2
      exact ⟨_, rf, niS, bws HB.out⟩
    ·
     rw [if_neg c33] at H
     have c33b0 := beq_eq_false_iff_ne.mpr c33
     have c33b1 := bne_iff_ne.mpr c33
     simp only [Option.some.injEq, Prod.mk.injEq] at H
     obtain ⟨rfl, rfl⟩ := H
     obtain ⟨hcz44_0, hcz44_1, hcz44_2, hfz44_0, hfz44_1, hfz44_2⟩ := cz3 BK394.out
     go_wp2_with (first | ((with_reducible refine gate_callee (f := 59) rfl ?_); refine goesL_ (some 57) rfl rfl Tryd.func59 (by kernel_rfl) rfl #[.agg #[.string x395000_1, .int .i64 x395001_1, .int .i64 x395002_1]] rfl gl ?_; (with_reducible refine (stowageref01_Reader_End.calls x395000_1 x395001_1 x395002_1 t417 t418 t419 _ A32.out).mono ?_); rintro e w45 ⟨rfl, hb⟩; refine ⟨_, rfl, ?_⟩; replace HO_6 := am (Kd.S_below (kS HO_6.out) hb); replace BK394 := bb BK394.out hb; replace HB := am (below_step (bws HB.out) hb); (try clear hb)))
     go_ret2
     exact ⟨_, rf, niS, bws HB.out⟩
def stowagelaw14_PartsBytes.f (k : Nat) (l0 : List (S46)) (a1 : ByteArray) : Option (Bool) := (parts_Encode.f k l0).bind fun bt421 => ((stowagelaw14_Refs.f k l0).bind fun t423 => ((stowageref14_Encode.f k t423).bind fun bt426 => ((parts_Decode.f k a1).bind fun bt428 => ((stowageref14_Decode.f k a1).bind fun bt432 => ((stowagelaw14_awake.f k).bind fun t436 => (if t436 = true then (if bt421.1.toList = bt426.1.toList then (if bt421.2 = bt426.2 then ((stowagelaw14_Refs.f k bt428.1).bind fun t437 => ((stowageref14_Same.f k t437 bt432.1).bind fun t440 => (if t440 = true then (some (bt428.2 == bt432.2)) else (some false)))) else (some false)) else (some false)) else (some false)))))))
theorem stowagelaw14_PartsBytes.mono : ∀ a0 a1 k, LeO (stowagelaw14_PartsBytes.f k a0 a1) (stowagelaw14_PartsBytes.f (k + 1) a0 a1) := by
 intro a0 a1 k
 unfold stowagelaw14_PartsBytes.f
 repeat' (with_reducible first | exact parts_Decode.mono _ _ | exact parts_Encode.mono _ _ | exact stowagelaw14_Refs.mono _ _ | exact stowagelaw14_awake.mono _ | exact stowageref14_Decode.mono _ _ | exact stowageref14_Encode.mono _ _ | exact stowageref14_Same.mono _ _ _ | exact LeO.refl _ | exact LeO.none _ | refine LeO.ite ?_ ?_ | refine LeO.bind ?_ (fun _ => ?_))
set_option maxHeartbeats 8000000 in
set_option maxRecDepth 100000 in
theorem stowagelaw14_PartsBytes.calls (k : Nat) (A0 : Option Addr) (c0 : Nat) (l0 : List (S46)) (a1 : ByteArray) (r : Bool) (w : World) (hr0 : Kd.C k46 w A0 l0.length l0) (hc0 : l0.length ≤ c0) (h : stowagelaw14_PartsBytes.f k l0 a1 = some r) (hG : GG w) :
  Calls Tryd.prog 7 #[.slice A0 l0.length c0, .string a1] w fun e w' => e = .returned (.bool r) ∧ Below w.heap.size w w' := by
 have HG := am hG
 clear hG
 have HR0 := am hr0
 have HC0 := am hc0
 clear hr0 hc0
 have HB := am (Below.refl w.heap.size w)
 have H := h
 clear h
 unfold stowagelaw14_PartsBytes.f at H
 obtain ⟨⟨t421, t422⟩, A3, H⟩ := obE H
 try dsimp only at H
 obtain ⟨t423, A4, H⟩ := obE H
 obtain ⟨⟨t426, t427⟩, A5, H⟩ := obE H
 try dsimp only at H
 obtain ⟨⟨t428, t429⟩, A6, H⟩ := obE H
 try dsimp only at H
 obtain ⟨⟨t432, t433⟩, A7, H⟩ := obE H
 try dsimp only at H
 obtain ⟨t436, A8, H⟩ := obE H
 by_cases c9 : t436 = true
 ·
  subst c9
  rw [if_pos rfl] at H
  by_cases c10 : t421.toList = t426.toList
  ·
   rw [if_pos c10] at H
   have c10b0 := beq_iff_eq.mpr c10
   have c10b1 := bne_eq_false_iff_eq.mpr c10
   clear c10
   by_cases c11 : t422 = t427
   ·
    rw [if_pos c11] at H
    have c11b0 := beq_iff_eq.mpr c11
    have c11b1 := bne_eq_false_iff_eq.mpr c11
    clear c11
    obtain ⟨t437, A12, H⟩ := obE H
    obtain ⟨t440, A13, H⟩ := obE H
    by_cases c14 : t440 = true
    ·
     subst c14
     rw [if_pos rfl] at H
     obtain rfl := Option.some.inj H
     go_enter Tryd.func7, Tryd.ntmps7
     go_wp2_with (first | ((with_reducible refine gate_callee (f := 25) rfl ?_); refine goesL_ (some 15) rfl rfl Tryd.func25 (by kernel_rfl) rfl #[.slice A0 l0.length c0] rfl gl ?_; (with_reducible refine (parts_Encode.calls k _ _ l0 t421 t422 _ ?side1 ?side2 A3.out).mono ?_); (case side1 => exact kC HR0.out); (case side2 => exact HC0.out); rintro e w15 ⟨rfl, hb⟩; refine ⟨_, rfl, ?_⟩; replace HB := am (below_step (bw HB.out) hb); (try clear hb)) | ((with_reducible refine gate_callee (f := 11) rfl ?_); refine goesL_ (some 20) rfl rfl Tryd.func11 (by kernel_rfl) rfl #[.slice A0 l0.length c0] rfl gl ?_; (with_reducible refine (stowagelaw14_Refs.calls k _ _ l0 t423 _ ?side1 ?side2 A4.out).mono ?_); (case side1 => exact kC (Kd.C_below HR0.out HB.out)); (case side2 => exact HC0.out); rintro e w16 ⟨v424, rfl, ho0, hb⟩; refine ⟨_, rfl, ?_⟩; have HO425 := am (Kd.S_lower ho0 (below_size (bw HB.out))); replace HB := am (below_step (bw HB.out) hb); (try clear hb); (try clear ho0); obtain ⟨Ao17, co17, eo17⟩ := Kd.S_slice HO425.out; subst eo17) | ((with_reducible refine gate_callee (f := 26) rfl ?_); refine goesL_ (some 21) rfl rfl Tryd.func26 (by kernel_rfl) rfl #[.slice Ao17 t423.length co17] rfl gl ?_; (with_reducible refine (stowageref14_Encode.calls k _ _ t423 t426 t427 _ ?side1 ?side2 A5.out).mono ?_); (case side1 => repeat (first | exact (Kd.S_reads' HO425.out).2.2 | (with_reducible refine Kd.C_alloc ?_ _) | (with_reducible refine Kd.C_drewN ?_ _) | (with_reducible refine Kd.C_drew ?_))); (case side2 => exact (Kd.S_reads' HO425.out).2.1); rintro e w18 ⟨rfl, hb⟩; refine ⟨_, rfl, ?_⟩; replace HO425 := am (Kd.S_below (kS HO425.out) hb); replace HB := am (below_step (bw HB.out) hb); (try clear hb)) | ((with_reducible refine gate_callee (f := 27) rfl ?_); refine goesL_ (some 26) rfl rfl Tryd.func27 (by kernel_rfl) rfl #[.string a1] rfl gl ?_; (with_reducible refine (parts_Decode.calls k a1 t428 t429 _ A6.out).mono ?_); rintro e w19 ⟨v430, rfl, ho0, hb⟩; refine ⟨_, rfl, ?_⟩; replace HO425 := am (Kd.S_below (kS HO425.out) hb); have HO431 := am (Kd.S_lower ho0 (below_size (bw HB.out))); replace HB := am (below_step (bw HB.out) hb); (try clear hb); (try clear ho0)) | ((with_reducible refine gate_callee (f := 28) rfl ?_); refine goesL_ (some 31) rfl rfl Tryd.func28 (by kernel_rfl) rfl #[.string a1] rfl gl ?_; (with_reducible refine (stowageref14_Decode.calls k a1 t432 t433 _ A7.out).mono ?_); rintro e w20 ⟨v434, rfl, ho0, hb⟩; refine ⟨_, rfl, ?_⟩; have HO435 := am (Kd.S_lower (Kd.S_new' ho0 (Kd.S_lt (kS HO425.out))) (below_size (bw HB.out))); replace HO425 := am (Kd.S_elder' (kS HO425.out) (Kd.S_base ho0) hb); replace HO431 := am (Kd.S_below (kS HO431.out) hb); replace HB := am (below_step (bw HB.out) hb); (try clear hb); (try clear ho0)) | ((with_reducible refine gate_callee (f := 13) rfl ?_); refine goesL_ (some 34) rfl rfl Tryd.func13 (by kernel_rfl) rfl #[] rfl gl ?_; (with_reducible refine (stowagelaw14_awake.calls k  true _ A8.out ?sideG).mono ?_); (case sideG => first | exact HG.out | exact gg_below HG.out (bw HB.out)); rintro e w21 ⟨rfl, hb⟩; refine ⟨_, rfl, ?_⟩; replace HO425 := am (Kd.S_below (kS HO425.out) hb); replace HO431 := am (Kd.S_below (kS HO431.out) hb); replace HO435 := am (Kd.S_below (kS HO435.out) hb); replace HB := am (below_step (bw HB.out) hb); (try clear hb); obtain ⟨Ao22, co22, eo22⟩ := Kd.S_slice HO431.out; subst eo22) | (go_at_call 11; (with_reducible refine (stowagelaw14_Refs.calls k _ _ t428 t437 _ ?side1 ?side2 A12.out).mono ?_); (case side1 => repeat (first | exact (Kd.S_reads' HO431.out).2.2 | (with_reducible refine Kd.C_alloc ?_ _) | (with_reducible refine Kd.C_drewN ?_ _) | (with_reducible refine Kd.C_drew ?_))); (case side2 => exact (Kd.S_reads' HO431.out).2.1); rintro e w23 ⟨v438, rfl, ho0, hb⟩; have HO439 := am (Kd.S_lower (Kd.S_new' (Kd.S_new' ho0 (Kd.S_lt (kS HO425.out))) (Kd.S_lt (kS HO435.out))) (below_size (bw HB.out))); replace HO425 := am (Kd.S_elder' (kS HO425.out) (Kd.S_base ho0) hb); replace HO431 := am (Kd.S_below (kS HO431.out) hb); replace HO435 := am (Kd.S_elder' (kS HO435.out) (Kd.S_base ho0) hb); replace HB := am (below_step (bw HB.out) hb); (try clear hb); (try clear ho0); obtain ⟨Ao24, co24, eo24⟩ := Kd.S_slice HO439.out; subst eo24; obtain ⟨Ao25, co25, eo25⟩ := Kd.S_slice HO435.out; subst eo25) | (go_at_call 17; (with_reducible refine (stowageref14_Same.calls k _ _ t437 _ _ t432 true _ ?side1 ?side2 ?side3 ?side4 A13.out).mono ?_); (case side1 => repeat (first | exact (Kd.S_reads' HO439.out).2.2 | (with_reducible refine Kd.C_alloc ?_ _) | (with_reducible refine Kd.C_drewN ?_ _) | (with_reducible refine Kd.C_drew ?_))); (case side2 => exact (Kd.S_reads' HO439.out).2.1); (case side3 => repeat (first | exact (Kd.S_reads' HO435.out).2.2 | (with_reducible refine Kd.C_alloc ?_ _) | (with_reducible refine Kd.C_drewN ?_ _) | (with_reducible refine Kd.C_drew ?_))); (case side4 => exact (Kd.S_reads' HO435.out).2.1); rintro e w26 ⟨rfl, hb⟩; replace HO425 := am (Kd.S_below (kS HO425.out) hb); replace HO431 := am (Kd.S_below (kS HO431.out) hb); replace HO435 := am (Kd.S_below (kS HO435.out) hb); replace HO439 := am (Kd.S_below (kS HO439.out) hb); replace HB := am (below_step (bw HB.out) hb); (try clear hb)))
     go_ret
     exact ⟨rf, bw HB.out⟩
    ·
     replace c14 := Bool.eq_false_iff.mpr c14
     subst c14
     rw [if_neg (show ¬ (false = true) by decide)] at H
     obtain rfl := Option.some.inj H
     go_enter Tryd.func7, Tryd.ntmps7
     go_wp2_with (first | ((with_reducible refine gate_callee (f := 25) rfl ?_); refine goesL_ (some 15) rfl rfl Tryd.func25 (by kernel_rfl) rfl #[.slice A0 l0.length c0] rfl gl ?_; (with_reducible refine (parts_Encode.calls k _ _ l0 t421 t422 _ ?side1 ?side2 A3.out).mono ?_); (case side1 => exact kC HR0.out); (case side2 => exact HC0.out); rintro e w27 ⟨rfl, hb⟩; refine ⟨_, rfl, ?_⟩; replace HB := am (below_step (bw HB.out) hb); (try clear hb)) | ((with_reducible refine gate_callee (f := 11) rfl ?_); refine goesL_ (some 20) rfl rfl Tryd.func11 (by kernel_rfl) rfl #[.slice A0 l0.length c0] rfl gl ?_; (with_reducible refine (stowagelaw14_Refs.calls k _ _ l0 t423 _ ?side1 ?side2 A4.out).mono ?_); (case side1 => exact kC (Kd.C_below HR0.out HB.out)); (case side2 => exact HC0.out); rintro e w28 ⟨v424, rfl, ho0, hb⟩; refine ⟨_, rfl, ?_⟩; have HO425 := am (Kd.S_lower ho0 (below_size (bw HB.out))); replace HB := am (below_step (bw HB.out) hb); (try clear hb); (try clear ho0); obtain ⟨Ao29, co29, eo29⟩ := Kd.S_slice HO425.out; subst eo29) | ((with_reducible refine gate_callee (f := 26) rfl ?_); refine goesL_ (some 21) rfl rfl Tryd.func26 (by kernel_rfl) rfl #[.slice Ao29 t423.length co29] rfl gl ?_; (with_reducible refine (stowageref14_Encode.calls k _ _ t423 t426 t427 _ ?side1 ?side2 A5.out).mono ?_); (case side1 => repeat (first | exact (Kd.S_reads' HO425.out).2.2 | (with_reducible refine Kd.C_alloc ?_ _) | (with_reducible refine Kd.C_drewN ?_ _) | (with_reducible refine Kd.C_drew ?_))); (case side2 => exact (Kd.S_reads' HO425.out).2.1); rintro e w30 ⟨rfl, hb⟩; refine ⟨_, rfl, ?_⟩; replace HO425 := am (Kd.S_below (kS HO425.out) hb); replace HB := am (below_step (bw HB.out) hb); (try clear hb)) | ((with_reducible refine gate_callee (f := 27) rfl ?_); refine goesL_ (some 26) rfl rfl Tryd.func27 (by kernel_rfl) rfl #[.string a1] rfl gl ?_; (with_reducible refine (parts_Decode.calls k a1 t428 t429 _ A6.out).mono ?_); rintro e w31 ⟨v430, rfl, ho0, hb⟩; refine ⟨_, rfl, ?_⟩; replace HO425 := am (Kd.S_below (kS HO425.out) hb); have HO431 := am (Kd.S_lower ho0 (below_size (bw HB.out))); replace HB := am (below_step (bw HB.out) hb); (try clear hb); (try clear ho0)) | ((with_reducible refine gate_callee (f := 28) rfl ?_); refine goesL_ (some 31) rfl rfl Tryd.func28 (by kernel_rfl) rfl #[.string a1] rfl gl ?_; (with_reducible refine (stowageref14_Decode.calls k a1 t432 t433 _ A7.out).mono ?_); rintro e w32 ⟨v434, rfl, ho0, hb⟩; refine ⟨_, rfl, ?_⟩; have HO435 := am (Kd.S_lower (Kd.S_new' ho0 (Kd.S_lt (kS HO425.out))) (below_size (bw HB.out))); replace HO425 := am (Kd.S_elder' (kS HO425.out) (Kd.S_base ho0) hb); replace HO431 := am (Kd.S_below (kS HO431.out) hb); replace HB := am (below_step (bw HB.out) hb); (try clear hb); (try clear ho0)) | ((with_reducible refine gate_callee (f := 13) rfl ?_); refine goesL_ (some 34) rfl rfl Tryd.func13 (by kernel_rfl) rfl #[] rfl gl ?_; (with_reducible refine (stowagelaw14_awake.calls k  true _ A8.out ?sideG).mono ?_); (case sideG => first | exact HG.out | exact gg_below HG.out (bw HB.out)); rintro e w33 ⟨rfl, hb⟩; refine ⟨_, rfl, ?_⟩; replace HO425 := am (Kd.S_below (kS HO425.out) hb); replace HO431 := am (Kd.S_below (kS HO431.out) hb); replace HO435 := am (Kd.S_below (kS HO435.out) hb); replace HB := am (below_step (bw HB.out) hb); (try clear hb); obtain ⟨Ao34, co34, eo34⟩ := Kd.S_slice HO431.out; subst eo34) | (go_at_call 11; (with_reducible refine (stowagelaw14_Refs.calls k _ _ t428 t437 _ ?side1 ?side2 A12.out).mono ?_); (case side1 => repeat (first | exact (Kd.S_reads' HO431.out).2.2 | (with_reducible refine Kd.C_alloc ?_ _) | (with_reducible refine Kd.C_drewN ?_ _) | (with_reducible refine Kd.C_drew ?_))); (case side2 => exact (Kd.S_reads' HO431.out).2.1); rintro e w35 ⟨v438, rfl, ho0, hb⟩; have HO439 := am (Kd.S_lower (Kd.S_new' (Kd.S_new' ho0 (Kd.S_lt (kS HO425.out))) (Kd.S_lt (kS HO435.out))) (below_size (bw HB.out))); replace HO425 := am (Kd.S_elder' (kS HO425.out) (Kd.S_base ho0) hb); replace HO431 := am (Kd.S_below (kS HO431.out) hb); replace HO435 := am (Kd.S_elder' (kS HO435.out) (Kd.S_base ho0) hb); replace HB := am (below_step (bw HB.out) hb); (try clear hb); (try clear ho0); obtain ⟨Ao36, co36, eo36⟩ := Kd.S_slice HO439.out; subst eo36; obtain ⟨Ao37, co37, eo37⟩ := Kd.S_slice HO435.out; subst eo37) | (go_at_call 17; (with_reducible refine (stowageref14_Same.calls k _ _ t437 _ _ t432 false _ ?side1 ?side2 ?side3 ?side4 A13.out).mono ?_); (case side1 => repeat (first | exact (Kd.S_reads' HO439.out).2.2 | (with_reducible refine Kd.C_alloc ?_ _) | (with_reducible refine Kd.C_drewN ?_ _) | (with_reducible refine Kd.C_drew ?_))); (case side2 => exact (Kd.S_reads' HO439.out).2.1); (case side3 => repeat (first | exact (Kd.S_reads' HO435.out).2.2 | (with_reducible refine Kd.C_alloc ?_ _) | (with_reducible refine Kd.C_drewN ?_ _) | (with_reducible refine Kd.C_drew ?_))); (case side4 => exact (Kd.S_reads' HO435.out).2.1); rintro e w38 ⟨rfl, hb⟩; replace HO425 := am (Kd.S_below (kS HO425.out) hb); replace HO431 := am (Kd.S_below (kS HO431.out) hb); replace HO435 := am (Kd.S_below (kS HO435.out) hb); replace HO439 := am (Kd.S_below (kS HO439.out) hb); replace HB := am (below_step (bw HB.out) hb); (try clear hb)))
     go_ret
     exact ⟨rf, bw HB.out⟩
   ·
    rw [if_neg c11] at H
    have c11b0 := beq_eq_false_iff_ne.mpr c11
    have c11b1 := bne_iff_ne.mpr c11
    obtain rfl := Option.some.inj H
    go_enter Tryd.func7, Tryd.ntmps7
    go_wp2_with (first | ((with_reducible refine gate_callee (f := 25) rfl ?_); refine goesL_ (some 15) rfl rfl Tryd.func25 (by kernel_rfl) rfl #[.slice A0 l0.length c0] rfl gl ?_; (with_reducible refine (parts_Encode.calls k _ _ l0 t421 t422 _ ?side1 ?side2 A3.out).mono ?_); (case side1 => exact kC HR0.out); (case side2 => exact HC0.out); rintro e w39 ⟨rfl, hb⟩; refine ⟨_, rfl, ?_⟩; replace HB := am (below_step (bw HB.out) hb); (try clear hb)) | ((with_reducible refine gate_callee (f := 11) rfl ?_); refine goesL_ (some 20) rfl rfl Tryd.func11 (by kernel_rfl) rfl #[.slice A0 l0.length c0] rfl gl ?_; (with_reducible refine (stowagelaw14_Refs.calls k _ _ l0 t423 _ ?side1 ?side2 A4.out).mono ?_); (case side1 => exact kC (Kd.C_below HR0.out HB.out)); (case side2 => exact HC0.out); rintro e w40 ⟨v424, rfl, ho0, hb⟩; refine ⟨_, rfl, ?_⟩; have HO425 := am (Kd.S_lower ho0 (below_size (bw HB.out))); replace HB := am (below_step (bw HB.out) hb); (try clear hb); (try clear ho0); obtain ⟨Ao41, co41, eo41⟩ := Kd.S_slice HO425.out; subst eo41) | ((with_reducible refine gate_callee (f := 26) rfl ?_); refine goesL_ (some 21) rfl rfl Tryd.func26 (by kernel_rfl) rfl #[.slice Ao41 t423.length co41] rfl gl ?_; (with_reducible refine (stowageref14_Encode.calls k _ _ t423 t426 t427 _ ?side1 ?side2 A5.out).mono ?_); (case side1 => repeat (first | exact (Kd.S_reads' HO425.out).2.2 | (with_reducible refine Kd.C_alloc ?_ _) | (with_reducible refine Kd.C_drewN ?_ _) | (with_reducible refine Kd.C_drew ?_))); (case side2 => exact (Kd.S_reads' HO425.out).2.1); rintro e w42 ⟨rfl, hb⟩; refine ⟨_, rfl, ?_⟩; replace HO425 := am (Kd.S_below (kS HO425.out) hb); replace HB := am (below_step (bw HB.out) hb); (try clear hb)) | ((with_reducible refine gate_callee (f := 27) rfl ?_); refine goesL_ (some 26) rfl rfl Tryd.func27 (by kernel_rfl) rfl #[.string a1] rfl gl ?_; (with_reducible refine (parts_Decode.calls k a1 t428 t429 _ A6.out).mono ?_); rintro e w43 ⟨v430, rfl, ho0, hb⟩; refine ⟨_, rfl, ?_⟩; replace HO425 := am (Kd.S_below (kS HO425.out) hb); have HO431 := am (Kd.S_lower ho0 (below_size (bw HB.out))); replace HB := am (below_step (bw HB.out) hb); (try clear hb); (try clear ho0)) | ((with_reducible refine gate_callee (f := 28) rfl ?_); refine goesL_ (some 31) rfl rfl Tryd.func28 (by kernel_rfl) rfl #[.string a1] rfl gl ?_; (with_reducible refine (stowageref14_Decode.calls k a1 t432 t433 _ A7.out).mono ?_); rintro e w44 ⟨v434, rfl, ho0, hb⟩; refine ⟨_, rfl, ?_⟩; have HO435 := am (Kd.S_lower (Kd.S_new' ho0 (Kd.S_lt (kS HO425.out))) (below_size (bw HB.out))); replace HO425 := am (Kd.S_elder' (kS HO425.out) (Kd.S_base ho0) hb); replace HO431 := am (Kd.S_below (kS HO431.out) hb); replace HB := am (below_step (bw HB.out) hb); (try clear hb); (try clear ho0)) | ((with_reducible refine gate_callee (f := 13) rfl ?_); refine goesL_ (some 34) rfl rfl Tryd.func13 (by kernel_rfl) rfl #[] rfl gl ?_; (with_reducible refine (stowagelaw14_awake.calls k  true _ A8.out ?sideG).mono ?_); (case sideG => first | exact HG.out | exact gg_below HG.out (bw HB.out)); rintro e w45 ⟨rfl, hb⟩; refine ⟨_, rfl, ?_⟩; replace HO425 := am (Kd.S_below (kS HO425.out) hb); replace HO431 := am (Kd.S_below (kS HO431.out) hb); replace HO435 := am (Kd.S_below (kS HO435.out) hb); replace HB := am (below_step (bw HB.out) hb); (try clear hb)))
    go_ret
    exact ⟨rf, bw HB.out⟩
  ·
   rw [if_neg c10] at H
   have c10b0 := beq_eq_false_iff_ne.mpr c10
   have c10b1 := bne_iff_ne.mpr c10
   obtain rfl := Option.some.inj H
   go_enter Tryd.func7, Tryd.ntmps7
   go_wp2_with (first | ((with_reducible refine gate_callee (f := 25) rfl ?_); refine goesL_ (some 15) rfl rfl Tryd.func25 (by kernel_rfl) rfl #[.slice A0 l0.length c0] rfl gl ?_; (with_reducible refine (parts_Encode.calls k _ _ l0 t421 t422 _ ?side1 ?side2 A3.out).mono ?_); (case side1 => exact kC HR0.out); (case side2 => exact HC0.out); rintro e w46 ⟨rfl, hb⟩; refine ⟨_, rfl, ?_⟩; replace HB := am (below_step (bw HB.out) hb); (try clear hb)) | ((with_reducible refine gate_callee (f := 11) rfl ?_); refine goesL_ (some 20) rfl rfl Tryd.func11 (by kernel_rfl) rfl #[.slice A0 l0.length c0] rfl gl ?_; (with_reducible refine (stowagelaw14_Refs.calls k _ _ l0 t423 _ ?side1 ?side2 A4.out).mono ?_); (case side1 => exact kC (Kd.C_below HR0.out HB.out)); (case side2 => exact HC0.out); rintro e w47 ⟨v424, rfl, ho0, hb⟩; refine ⟨_, rfl, ?_⟩; have HO425 := am (Kd.S_lower ho0 (below_size (bw HB.out))); replace HB := am (below_step (bw HB.out) hb); (try clear hb); (try clear ho0); obtain ⟨Ao48, co48, eo48⟩ := Kd.S_slice HO425.out; subst eo48) | ((with_reducible refine gate_callee (f := 26) rfl ?_); refine goesL_ (some 21) rfl rfl Tryd.func26 (by kernel_rfl) rfl #[.slice Ao48 t423.length co48] rfl gl ?_; (with_reducible refine (stowageref14_Encode.calls k _ _ t423 t426 t427 _ ?side1 ?side2 A5.out).mono ?_); (case side1 => repeat (first | exact (Kd.S_reads' HO425.out).2.2 | (with_reducible refine Kd.C_alloc ?_ _) | (with_reducible refine Kd.C_drewN ?_ _) | (with_reducible refine Kd.C_drew ?_))); (case side2 => exact (Kd.S_reads' HO425.out).2.1); rintro e w49 ⟨rfl, hb⟩; refine ⟨_, rfl, ?_⟩; replace HO425 := am (Kd.S_below (kS HO425.out) hb); replace HB := am (below_step (bw HB.out) hb); (try clear hb)) | ((with_reducible refine gate_callee (f := 27) rfl ?_); refine goesL_ (some 26) rfl rfl Tryd.func27 (by kernel_rfl) rfl #[.string a1] rfl gl ?_; (with_reducible refine (parts_Decode.calls k a1 t428 t429 _ A6.out).mono ?_); rintro e w50 ⟨v430, rfl, ho0, hb⟩; refine ⟨_, rfl, ?_⟩; replace HO425 := am (Kd.S_below (kS HO425.out) hb); have HO431 := am (Kd.S_lower ho0 (below_size (bw HB.out))); replace HB := am (below_step (bw HB.out) hb); (try clear hb); (try clear ho0)) | ((with_reducible refine gate_callee (f := 28) rfl ?_); refine goesL_ (some 31) rfl rfl Tryd.func28 (by kernel_rfl) rfl #[.string a1] rfl gl ?_; (with_reducible refine (stowageref14_Decode.calls k a1 t432 t433 _ A7.out).mono ?_); rintro e w51 ⟨v434, rfl, ho0, hb⟩; refine ⟨_, rfl, ?_⟩; have HO435 := am (Kd.S_lower (Kd.S_new' ho0 (Kd.S_lt (kS HO425.out))) (below_size (bw HB.out))); replace HO425 := am (Kd.S_elder' (kS HO425.out) (Kd.S_base ho0) hb); replace HO431 := am (Kd.S_below (kS HO431.out) hb); replace HB := am (below_step (bw HB.out) hb); (try clear hb); (try clear ho0)) | ((with_reducible refine gate_callee (f := 13) rfl ?_); refine goesL_ (some 34) rfl rfl Tryd.func13 (by kernel_rfl) rfl #[] rfl gl ?_; (with_reducible refine (stowagelaw14_awake.calls k  true _ A8.out ?sideG).mono ?_); (case sideG => first | exact HG.out | exact gg_below HG.out (bw HB.out)); rintro e w52 ⟨rfl, hb⟩; refine ⟨_, rfl, ?_⟩; replace HO425 := am (Kd.S_below (kS HO425.out) hb); replace HO431 := am (Kd.S_below (kS HO431.out) hb); replace HO435 := am (Kd.S_below (kS HO435.out) hb); replace HB := am (below_step (bw HB.out) hb); (try clear hb)))
   go_ret
   exact ⟨rf, bw HB.out⟩
 ·
  replace c9 := Bool.eq_false_iff.mpr c9
  subst c9
  rw [if_neg (show ¬ (false = true) by decide)] at H
  obtain rfl := Option.some.inj H
  go_enter Tryd.func7, Tryd.ntmps7
  go_wp2_with (first | ((with_reducible refine gate_callee (f := 25) rfl ?_); refine goesL_ (some 15) rfl rfl Tryd.func25 (by kernel_rfl) rfl #[.slice A0 l0.length c0] rfl gl ?_; (with_reducible refine (parts_Encode.calls k _ _ l0 t421 t422 _ ?side1 ?side2 A3.out).mono ?_); (case side1 => exact kC HR0.out); (case side2 => exact HC0.out); rintro e w53 ⟨rfl, hb⟩; refine ⟨_, rfl, ?_⟩; replace HB := am (below_step (bw HB.out) hb); (try clear hb)) | ((with_reducible refine gate_callee (f := 11) rfl ?_); refine goesL_ (some 20) rfl rfl Tryd.func11 (by kernel_rfl) rfl #[.slice A0 l0.length c0] rfl gl ?_; (with_reducible refine (stowagelaw14_Refs.calls k _ _ l0 t423 _ ?side1 ?side2 A4.out).mono ?_); (case side1 => exact kC (Kd.C_below HR0.out HB.out)); (case side2 => exact HC0.out); rintro e w54 ⟨v424, rfl, ho0, hb⟩; refine ⟨_, rfl, ?_⟩; have HO425 := am (Kd.S_lower ho0 (below_size (bw HB.out))); replace HB := am (below_step (bw HB.out) hb); (try clear hb); (try clear ho0); obtain ⟨Ao55, co55, eo55⟩ := Kd.S_slice HO425.out; subst eo55) | ((with_reducible refine gate_callee (f := 26) rfl ?_); refine goesL_ (some 21) rfl rfl Tryd.func26 (by kernel_rfl) rfl #[.slice Ao55 t423.length co55] rfl gl ?_; (with_reducible refine (stowageref14_Encode.calls k _ _ t423 t426 t427 _ ?side1 ?side2 A5.out).mono ?_); (case side1 => repeat (first | exact (Kd.S_reads' HO425.out).2.2 | (with_reducible refine Kd.C_alloc ?_ _) | (with_reducible refine Kd.C_drewN ?_ _) | (with_reducible refine Kd.C_drew ?_))); (case side2 => exact (Kd.S_reads' HO425.out).2.1); rintro e w56 ⟨rfl, hb⟩; refine ⟨_, rfl, ?_⟩; replace HO425 := am (Kd.S_below (kS HO425.out) hb); replace HB := am (below_step (bw HB.out) hb); (try clear hb)) | ((with_reducible refine gate_callee (f := 27) rfl ?_); refine goesL_ (some 26) rfl rfl Tryd.func27 (by kernel_rfl) rfl #[.string a1] rfl gl ?_; (with_reducible refine (parts_Decode.calls k a1 t428 t429 _ A6.out).mono ?_); rintro e w57 ⟨v430, rfl, ho0, hb⟩; refine ⟨_, rfl, ?_⟩; replace HO425 := am (Kd.S_below (kS HO425.out) hb); have HO431 := am (Kd.S_lower ho0 (below_size (bw HB.out))); replace HB := am (below_step (bw HB.out) hb); (try clear hb); (try clear ho0)) | ((with_reducible refine gate_callee (f := 28) rfl ?_); refine goesL_ (some 31) rfl rfl Tryd.func28 (by kernel_rfl) rfl #[.string a1] rfl gl ?_; (with_reducible refine (stowageref14_Decode.calls k a1 t432 t433 _ A7.out).mono ?_); rintro e w58 ⟨v434, rfl, ho0, hb⟩; refine ⟨_, rfl, ?_⟩; have HO435 := am (Kd.S_lower (Kd.S_new' ho0 (Kd.S_lt (kS HO425.out))) (below_size (bw HB.out))); replace HO425 := am (Kd.S_elder' (kS HO425.out) (Kd.S_base ho0) hb); replace HO431 := am (Kd.S_below (kS HO431.out) hb); replace HB := am (below_step (bw HB.out) hb); (try clear hb); (try clear ho0)) | ((with_reducible refine gate_callee (f := 13) rfl ?_); refine goesL_ (some 34) rfl rfl Tryd.func13 (by kernel_rfl) rfl #[] rfl gl ?_; (with_reducible refine (stowagelaw14_awake.calls k  false _ A8.out ?sideG).mono ?_); (case sideG => first | exact HG.out | exact gg_below HG.out (bw HB.out)); rintro e w59 ⟨rfl, hb⟩; refine ⟨_, rfl, ?_⟩; replace HO425 := am (Kd.S_below (kS HO425.out) hb); replace HO431 := am (Kd.S_below (kS HO431.out) hb); replace HO435 := am (Kd.S_below (kS HO435.out) hb); replace HB := am (below_step (bw HB.out) hb); (try clear hb)))
  go_ret
  exact ⟨rf, bw HB.out⟩
end Go.Proofs.YtoiockmmlanimaaDoor.Ob
end
section
namespace Go.Proofs.YtoiockmmlanimaaDoor.Pure
open Go.RowKit Go.Proofs.YtoiockmmlanimaaDoor.Ob Go.Proofs.YtoiockmmlanimaaDoorW.PrintWords Go.Proofs.YtoiockmmlanimaaDoorW.PrintLast Go.Proofs.YtoiockmmlanimaaDoorW.PrintMore
set_option linter.unusedVariables false
set_option linter.unusedSimpArgs false
theorem own_go (l : List Part) (hl : l.length ≤ 1048576) (hp : ∀ p ∈ l, p.f3.length ≤ 1048576) : ∀ n i k (acc : List Part), i + n = l.length → n < k → acc.length ≤ i → parts_own.l0 k acc l (l.length : Int) (i : Int) = some (acc ++ l.drop i) := by
 intro n
 induction n with
 | zero =>
  intro i k acc hi hk ha
  obtain ⟨k, rfl⟩ : ∃ j, k = j + 1 := ⟨k - 1, by omega⟩
  rw [parts_own.l0, if_neg (by omega), List.drop_of_length_le (by omega), List.append_nil]
 | succ n ih =>
  intro i k acc hi hk ha
  obtain ⟨k, rfl⟩ : ∃ j, k = j + 1 := ⟨k - 1, by omega⟩
  have hc : api_Piece.f (rdP l i).f3 = some (rdP l i).f3 := by
   unfold api_Piece.f
   rw [if_pos (by have := hp _ (memP l i (by omega)); omega)]
  rw [parts_own.l0, if_pos (by omega), if_pos (by omega), if_pos (by omega)]
  show (api_Piece.f (rdP l i).f3).bind _ = _
  rw [hc, Option.bind_some, if_pos (by omega), w1 i (by omega), ih (i + 1) k _ (by omega) (by omega) (by rw [List.length_append, List.length_singleton]; omega), dropP l i (by omega), List.append_assoc]
  rfl
theorem own_eq (l : List Part) (hl : l.length ≤ 1048576) (hp : ∀ p ∈ l, p.f3.length ≤ 1048576) (k : Nat) (hk : 1048577 ≤ k) : parts_own.f k l = some l := by
 unfold parts_own.f
 exact (own_go l hl hp l.length 0 k [] (by omega) (by omega) (Nat.le_refl _)).trans rfl
theorem rd_get (l : List Part) (q : Nat) (hq : q < l.length) : rdP l q = l[q] := by
 show l.getD (q : Int).toNat _ = _
 rw [Int.toNat_natCast, List.getD_eq_getElem?_getD, List.getElem?_eq_getElem hq]
 rfl
theorem find_at (l : List Part) (h : Good l) (t : Int) (h1 : 1 ≤ t) (h2 : t ≤ 100) : ∃ R, R ≤ l.length ∧ (∀ m, m < R → (rdP l m).f0 < t) ∧ (∀ m, R ≤ m → m < l.length → t ≤ (rdP l m).f0) ∧ parts_find.f l t = some ((R : Int), decide (R < l.length ∧ (rdP l R).f0 = t)) := by
 have hll := h.small.len
 obtain ⟨b1, b2, b3⟩ := bs_spec l h t h1 h2 l.length 0 l.length (Nat.zero_le _) (Nat.le_refl _) (Nat.le_refl _) (fun q hq => absurd hq (Nat.not_lt_zero _)) (fun q hq hq2 => absurd hq (by omega))
 obtain ⟨R, hR⟩ : ∃ R, parts_find_bs l t l.length 0 l.length = R := ⟨_, rfl⟩
 rw [hR] at b1 b2 b3
 refine ⟨R, b1, b2, b3, ?_⟩
 unfold parts_find.f
 rw [if_pos (by omega), hR]
 congr 2
 by_cases hl : R < l.length
 ·
  have hc := chk_parts (h.chk _ (memP l R hl))
  rw [decide_eq_true hl, Bool.true_and]
  show (wrap64 ((rdP l R).f0 - t) == 0) = _
  rw [IntWalk.wrap64_in _ (by omega)]
  by_cases he : (rdP l R).f0 = t
  ·
   rw [he, Int.sub_self, decide_eq_true ⟨hl, rfl⟩]
   rfl
  ·
   rw [decide_eq_false (fun hh => he hh.2)]
   simp
   omega
 ·
  rw [decide_eq_false hl, Bool.false_and, decide_eq_false (fun hh => hl hh.1)]
def ins (l : List Part) (p : Part) : List Part := l.filter (fun q => decide (q.f0 < p.f0)) ++ p :: l.filter (fun q => decide (p.f0 < q.f0))
theorem rB_of : ∀ (l : List Part) (o : Option Int), (∀ p ∈ l, chk p = true) → l.Pairwise (fun x y => x.f0 < y.f0) → (∀ n, o = some n → ∀ p ∈ l, n < p.f0) → rB o l = true
 | [], _, _, _, _ => rfl
 | p :: r, o, h1, h2, h3 => by
  rw [List.pairwise_cons] at h2
  rw [rB, h1 p List.mem_cons_self, rB_of r (some p.f0) (fun q hq => h1 q (List.mem_cons_of_mem _ hq)) h2.2 (fun n hn q hq => by cases hn; exact h2.1 q hq)]
  cases o with
  | none => rfl
  | some n => simp [okN, h3 n rfl p List.mem_cons_self]
theorem Good.right {l : List Part} (h : Good l) : rB none l = true := rB_of l none h.chk h.asc (fun n hn => by cases hn)
theorem filter_lo (l : List Part) (t : Int) (R : Nat) (hR : R ≤ l.length) (b2 : ∀ m, m < R → (rdP l m).f0 < t) (b3 : ∀ m, R ≤ m → m < l.length → t ≤ (rdP l m).f0) : l.filter (fun q => decide (q.f0 < t)) = l.take R := by
 have e1 : (l.take R).filter (fun q => decide (q.f0 < t)) = l.take R := List.filter_eq_self.2 fun x hx => by
  obtain ⟨m, hm, e⟩ := List.getElem_of_mem hx
  rw [List.length_take] at hm
  rw [List.getElem_take, ← rd_get l m (by omega)] at e
  have := b2 m (by omega)
  rw [e] at this
  exact decide_eq_true this
 have e2 : (l.drop R).filter (fun q => decide (q.f0 < t)) = [] := List.filter_eq_nil_iff.2 fun x hx => by
  obtain ⟨m, hm, e⟩ := List.getElem_of_mem hx
  rw [List.length_drop] at hm
  rw [List.getElem_drop, ← rd_get l (R + m) (by omega)] at e
  have := b3 (R + m) (by omega) (by omega)
  rw [e] at this
  simp
  exact this
 conv => lhs; rw [← List.take_append_drop R l]
 rw [List.filter_append, e1, e2, List.append_nil]
theorem filter_hi (l : List Part) (t : Int) (R : Nat) (hR : R ≤ l.length) (b2 : ∀ m, m < R → (rdP l m).f0 ≤ t) (b3 : ∀ m, R ≤ m → m < l.length → t < (rdP l m).f0) : l.filter (fun q => decide (t < q.f0)) = l.drop R := by
 have e1 : (l.take R).filter (fun q => decide (t < q.f0)) = [] := List.filter_eq_nil_iff.2 fun x hx => by
  obtain ⟨m, hm, e⟩ := List.getElem_of_mem hx
  rw [List.length_take] at hm
  rw [List.getElem_take, ← rd_get l m (by omega)] at e
  have := b2 m (by omega)
  rw [e] at this
  simp
  exact this
 have e2 : (l.drop R).filter (fun q => decide (t < q.f0)) = l.drop R := List.filter_eq_self.2 fun x hx => by
  obtain ⟨m, hm, e⟩ := List.getElem_of_mem hx
  rw [List.length_drop] at hm
  rw [List.getElem_drop, ← rd_get l (R + m) (by omega)] at e
  have := b3 (R + m) (by omega) (by omega)
  rw [e] at this
  exact decide_eq_true this
 conv => lhs; rw [← List.take_append_drop R l]
 rw [List.filter_append, e1, e2, List.nil_append]
theorem put_eq (l : List Part) (h : Good l) (hl : l.length ≤ 100000) (p : Part) (hp : SmallPart p) (hc : chk p = true) (k : Nat) (hk : 2300000 ≤ k) : parts_Put.f k l p.f0 p.f1 p.f2 p.f3 = some (ins l p, 0) := by
 have hcp := chk_parts hc
 obtain ⟨R, b1, b2, b3, hf⟩ := find_at l h p.f0 hcp.1 hcp.2.1
 unfold parts_Put.f
 rw [right_eq l h.small k (by omega), h.right, Option.bind_some, if_pos rfl, check_eq p hp k (by omega), hc, if_pos rfl, Option.bind_some, if_pos rfl,
  own_eq l h.small.len (fun q hq => (h.small.each q hq).len) k (by omega), Option.bind_some, own_eq [(⟨p.f0, p.f1, p.f2, p.f3⟩ : Part)] (by show (1 : Nat) ≤ 1048576; decide) (fun q hq => by
   rw [List.mem_singleton] at hq
   subst hq
   exact hp.len) k (by omega), Option.bind_some, if_pos (show 0 < [(⟨p.f0, p.f1, p.f2, p.f3⟩ : Part)].length from Nat.zero_lt_one), hf, Option.bind_some]
 show parts_Put_put l p (R : Int) (decide (R < l.length ∧ (rdP l R).f0 = p.f0)) = _
 unfold parts_Put_put ins
 by_cases hr : R < l.length ∧ (rdP l R).f0 = p.f0
 ·
  obtain ⟨h1, h2⟩ := hr
  rw [decide_eq_true ⟨h1, h2⟩, if_pos rfl, if_pos (by omega), Int.toNat_natCast, filter_lo l p.f0 R b1 b2 b3, filter_hi l p.f0 (R + 1) (by omega) (fun m hm => by
   rcases Nat.lt_or_ge m R with h3 | h3
   ·
    have := b2 m h3; omega
   ·
    obtain rfl : m = R := by omega
    omega) (fun m hm hm2 => by have := h.lt R m (by omega) hm2; omega), List.set_eq_take_append_cons_drop, if_pos h1]
 ·
  have h3 : ∀ m, R ≤ m → m < l.length → p.f0 < (rdP l m).f0 := fun m hm hm2 => by
   have h4 := b3 m hm hm2
   by_cases he : (rdP l m).f0 = p.f0
   ·
    rcases Nat.eq_or_lt_of_le hm with rfl | hlt
    ·
     exact absurd ⟨hm2, he⟩ hr
    ·
     have := h.lt R m hlt hm2
     have := b3 R (Nat.le_refl _) (by omega)
     omega
   ·
    omega
  rw [decide_eq_false hr, if_neg (by decide), if_pos (by omega), Int.toNat_natCast, filter_lo l p.f0 R b1 b2 b3, filter_hi l p.f0 R b1 (fun m hm => by have := b2 m hm; omega) h3]
theorem put_no (l : List Part) (h : Good l) (p : Part) (hp : SmallPart p) (hc : chk p = false) (k : Nat) (hk : 2300000 ≤ k) : parts_Put.f k l p.f0 p.f1 p.f2 p.f3 = some ([], 1) := by
 unfold parts_Put.f
 rw [right_eq l h.small k (by omega), h.right, Option.bind_some, if_pos rfl, check_eq p hp k (by omega), hc, if_neg (by decide), Option.bind_some, if_neg (by decide)]
theorem mem_ins (l : List Part) (p x : Part) : x ∈ ins l p ↔ x = p ∨ (x ∈ l ∧ x.f0 ≠ p.f0) := by
 unfold ins
 rw [List.mem_append, List.mem_cons, List.mem_filter, List.mem_filter, decide_eq_true_eq, decide_eq_true_eq]
 constructor
 ·
  rintro (⟨h1, h2⟩ | rfl | ⟨h1, h2⟩)
  ·
   exact .inr ⟨h1, by omega⟩
  ·
   exact .inl rfl
  ·
   exact .inr ⟨h1, by omega⟩
 ·
  rintro (rfl | ⟨h1, h2⟩)
  ·
   exact .inr (.inl rfl)
  ·
   rcases Int.lt_or_gt_of_ne h2 with h3 | h3
   ·
    exact .inl ⟨h1, h3⟩
   ·
    exact .inr (.inr ⟨h1, h3⟩)
theorem two_filters (t : Int) : ∀ l : List Part, (l.filter (fun q => decide (q.f0 < t))).length + (l.filter (fun q => decide (t < q.f0))).length ≤ l.length
 | [] => Nat.le_refl _
 | p :: l => by
  have := two_filters t l
  rw [List.filter_cons, List.filter_cons, List.length_cons]
  by_cases h1 : p.f0 < t
  ·
   rw [if_pos (decide_eq_true h1), if_neg (by simp; omega), List.length_cons]; omega
  ·
   rw [if_neg (by simpa using h1)]
   split
   ·
    rw [List.length_cons]; omega
   ·
    omega
theorem len_ins (l : List Part) (p : Part) : (ins l p).length ≤ l.length + 1 := by
 have := two_filters p.f0 l
 unfold ins
 rw [List.length_append, List.length_cons]
 omega
theorem good_ins (l : List Part) (h : Good l) (hl : l.length ≤ 100000) (p : Part) (hp : SmallPart p) (hc : chk p = true) : Good (ins l p) := by
 have hlen := len_ins l p
 refine ⟨⟨by omega, fun x hx => ?_⟩, fun x hx => ?_, ?_⟩
 ·
  rcases (mem_ins l p x).1 hx with rfl | h1
  ·
   exact hp
  ·
   exact h.small.each x h1.1
 ·
  rcases (mem_ins l p x).1 hx with rfl | h1
  ·
   exact hc
  ·
   exact h.chk x h1.1
 ·
  unfold ins
  rw [List.pairwise_append, List.pairwise_cons]
  refine ⟨h.asc.filter _, ⟨fun x hx => ?_, h.asc.filter _⟩, fun x hx y hy => ?_⟩
  ·
   simpa using (List.mem_filter.1 hx).2
  ·
   have h1 : x.f0 < p.f0 := by simpa using (List.mem_filter.1 hx).2
   rcases List.mem_cons.1 hy with rfl | hy
   ·
    exact h1
   ·
    have h2 : p.f0 < y.f0 := by simpa using (List.mem_filter.1 hy).2
    omega
theorem good_nil : Good ([] : List Part) := ⟨⟨by decide, fun x hx => (by cases hx)⟩, fun x hx => (by cases hx), List.Pairwise.nil⟩
abbrev RPiece := S85
abbrev RPart := S52
def refC (c : Piece) : RPiece := ⟨c.f0, c.f1⟩
def refP (p : Part) : RPart := ⟨p.f0, p.f1, p.f2, p.f3.map refC⟩
theorem piece_go (l : List Piece) (hl : l.length ≤ 1048576) : ∀ n i k (acc : List RPiece), i + n = l.length → n < k → acc.length ≤ i → stowagelaw13_Piece.l0 k l acc (i : Int) = some (acc ++ (l.drop i).map refC) := by
 intro n
 induction n with
 | zero =>
  intro i k acc hi hk ha
  obtain ⟨k, rfl⟩ : ∃ j, k = j + 1 := ⟨k - 1, by omega⟩
  rw [stowagelaw13_Piece.l0, if_neg (by omega), List.drop_of_length_le (by omega), List.map_nil, List.append_nil]
 | succ n ih =>
  intro i k acc hi hk ha
  obtain ⟨k, rfl⟩ : ∃ j, k = j + 1 := ⟨k - 1, by omega⟩
  rw [stowagelaw13_Piece.l0, if_pos (by omega), if_pos (by omega), if_pos (by omega), w1 i (by omega), ih (i + 1) k _ (by omega) (by omega) (by rw [List.length_append, List.length_singleton]; omega), dropC l i (by omega), List.map_cons, List.append_assoc]
  rfl
theorem piece_eq (l : List Piece) (hl : l.length ≤ 1048576) (k : Nat) (hk : 1048577 ≤ k) : stowagelaw13_Piece.f k l = some (l.map refC) := by
 unfold stowagelaw13_Piece.f
 exact (piece_go l hl l.length 0 k [] (by omega) (by omega) (Nat.le_refl _)).trans rfl
theorem refs_go (l : List Part) (hl : l.length ≤ 1048576) (hp : ∀ p ∈ l, p.f3.length ≤ 1048576) : ∀ n i k (acc : List RPart), i + n = l.length → n + 1048577 < k → acc.length ≤ i → stowagelaw14_Refs.l0 k l acc (i : Int) = some (acc ++ (l.drop i).map refP) := by
 intro n
 induction n with
 | zero =>
  intro i k acc hi hk ha
  obtain ⟨k, rfl⟩ : ∃ j, k = j + 1 := ⟨k - 1, by omega⟩
  rw [stowagelaw14_Refs.l0, if_neg (by omega), List.drop_of_length_le (by omega), List.map_nil, List.append_nil]
 | succ n ih =>
  intro i k acc hi hk ha
  obtain ⟨k, rfl⟩ : ∃ j, k = j + 1 := ⟨k - 1, by omega⟩
  rw [stowagelaw14_Refs.l0, if_pos (by omega), if_pos (by omega)]
  show (stowagelaw13_Piece.f k (rdP l i).f3).bind _ = _
  rw [piece_eq _ (hp _ (memP l i (by omega))) k (by omega), Option.bind_some, if_pos (by omega), w1 i (by omega), ih (i + 1) k _ (by omega) (by omega) (by rw [List.length_append, List.length_singleton]; omega), dropP l i (by omega), List.map_cons, List.append_assoc]
  rfl
theorem refs_eq (l : List Part) (hl : l.length ≤ 1048576) (hp : ∀ p ∈ l, p.f3.length ≤ 1048576) (k : Nat) (hk : 2200000 ≤ k) : stowagelaw14_Refs.f k l = some (l.map refP) := by
 unfold stowagelaw14_Refs.f
 exact (refs_go l hl hp l.length 0 k [] (by omega) (by omega) (Nat.le_refl _)).trans rfl
theorem same13_go (a : Int) (b : Bool) (c : Int) (s : ByteArray) (l : List RPiece) (hl : l.length ≤ 1048576) : ∀ n i k, i + n = l.length → n < k → stowageref13_Same.l0 k (i : Int) a b c s l a b c s l = some true := by
 intro n
 induction n with
 | zero =>
  intro i k hi hk
  obtain ⟨k, rfl⟩ : ∃ j, k = j + 1 := ⟨k - 1, by omega⟩
  rw [stowageref13_Same.l0, if_neg (by omega)]
 | succ n ih =>
  intro i k hi hk
  obtain ⟨k, rfl⟩ : ∃ j, k = j + 1 := ⟨k - 1, by omega⟩
  rw [stowageref13_Same.l0, if_pos (by omega), if_pos (by omega), if_pos (by omega), if_neg (by simp), w1 i (by omega)]
  exact ih (i + 1) k (by omega) (by omega)
theorem same13_eq (a : Int) (b : Bool) (c : Int) (s : ByteArray) (l : List RPiece) (hl : l.length ≤ 1048576) (k : Nat) (hk : 1048578 ≤ k) : stowageref13_Same.f k a b c s l a b c s l = some true := by
 obtain ⟨k, rfl⟩ : ∃ j, k = j + 1 := ⟨k - 1, by omega⟩
 rw [stowageref13_Same.f, if_pos rfl, if_neg (by simp), if_pos rfl, if_pos rfl, stowageref13_Same.j0, if_neg (by simp)]
 exact same13_go a b c s l hl l.length 0 k (by omega) (by omega)
theorem same_go (l : List RPart) (hl : l.length ≤ 1048576) (hp : ∀ p ∈ l, p.f3.length ≤ 1048576) : ∀ n i k, i + n = l.length → n + 1048578 < k → stowageref14_Same.l0 k l l (i : Int) = some true := by
 intro n
 induction n with
 | zero =>
  intro i k hi hk
  obtain ⟨k, rfl⟩ : ∃ j, k = j + 1 := ⟨k - 1, by omega⟩
  rw [stowageref14_Same.l0, if_neg (by omega)]
 | succ n ih =>
  intro i k hi hk
  obtain ⟨k, rfl⟩ : ∃ j, k = j + 1 := ⟨k - 1, by omega⟩
  have hm : rd_T52 l (i : Int) ∈ l := by
   have e : rd_T52 l (i : Int) = l[i]'(by omega) := by
    show l.getD (i : Int).toNat _ = _
    rw [Int.toNat_natCast, List.getD_eq_getElem?_getD, List.getElem?_eq_getElem (by omega)]
    rfl
   rw [e]
   exact List.getElem_mem _
  rw [stowageref14_Same.l0, if_pos (by omega), if_pos (by omega), if_pos (by omega), same13_eq _ _ _ _ _ (hp _ hm) k (by omega), Option.bind_some, if_pos rfl, w1 i (by omega)]
  exact ih (i + 1) k (by omega) (by omega)
theorem same_eq (l : List RPart) (hl : l.length ≤ 1048576) (hp : ∀ p ∈ l, p.f3.length ≤ 1048576) (k : Nat) (hk : 2200000 ≤ k) : stowageref14_Same.f k l l = some true := by
 rw [stowageref14_Same.f, if_pos rfl]
 exact same_go l hl hp l.length 0 k (by omega) (by omega)
theorem un_j4_bad (k : Nat) (a : ByteArray) (x4 : List Int) (x5 x6 x7 : Int) (h : x7 < 0) : stowageref03_Unhex.j4 (k + 1) a x4 x5 x6 x7 = some ((⟨#[]⟩ : ByteArray), 3) := by rw [stowageref03_Unhex.j4, if_pos h]
theorem un_go (a : ByteArray) (hs : a.size ≤ 1048576) : ∀ n i k (acc : List Int) (h : Int), i + n = a.size → 5 * n + 5 < k → acc.length ≤ i → ∃ b, stowageref03_Unhex.l0 k a acc h (i : Int) = some (b, if (a.data.toList.drop i).all Sha.hb = true then 0 else 3) := by
 intro n
 induction n with
 | zero =>
  intro i k acc h hi hk ha
  obtain ⟨k, rfl⟩ : ∃ j, k = j + 1 := ⟨k - 1, by omega⟩
  refine ⟨strOfNums acc, ?_⟩
  rw [stowageref03_Unhex.l0, if_neg (by omega), List.drop_of_length_le (by rw [len_eq]; omega)]
  rfl
 | succ n ih =>
  intro i k acc h hi hk ha
  obtain ⟨k, rfl⟩ : ∃ j, k = j + 1 + 1 + 1 + 1 + 1 := ⟨k - 5, by omega⟩
  obtain ⟨c, hd, hb⟩ := bt_get a i (by omega)
  have hcn : c.toNat < 256 := c.toNat_lt
  have good : ∀ d : Int, 0 ≤ d → Sha.hb c = true → ∃ b, stowageref03_Unhex.j4 (k + 1) a acc h (i : Int) d = some (b, if (c :: a.data.toList.drop (i + 1)).all Sha.hb = true then 0 else 3) := by
   intro d h0 hc
   rw [stowageref03_Unhex.j4, if_neg (by omega), w1 i (by omega)]
   have e : ((c :: a.data.toList.drop (i + 1)).all Sha.hb) = (a.data.toList.drop (i + 1)).all Sha.hb := by rw [List.all_cons, hc, Bool.true_and]
   rw [e]
   split
   ·
    rw [if_pos (by omega)]
    exact ih (i + 1) k _ _ (by omega) (by omega) (by rw [List.length_append, List.length_singleton]; omega)
   ·
    exact ih (i + 1) k _ _ (by omega) (by omega) (by omega)
  have bad : Sha.hb c = false → ((c :: a.data.toList.drop (i + 1)).all Sha.hb) = false := fun hc => by rw [List.all_cons, hc, Bool.false_and]
  rw [hd]
  have j2 : ∀ d : Int, (¬ (97 ≤ c.toNat ∧ c.toNat ≤ 102)) → stowageref03_Unhex.j2 (k + 1 + 1 + 1) a acc h (i : Int) d = stowageref03_Unhex.j4 (k + 1) a acc h (i : Int) d := by
   intro d hn
   rw [stowageref03_Unhex.j2, if_pos (by omega), if_pos (by omega), hb]
   have e : ∀ q : Bool, q = false → stowageref03_Unhex.j3 (k + 1 + 1) a acc h (i : Int) d q = stowageref03_Unhex.j4 (k + 1) a acc h (i : Int) d := fun q hq => by rw [hq, stowageref03_Unhex.j3, if_neg (by decide)]
   by_cases h1 : (c.toNat : Int) ≥ 97
   ·
    rw [if_pos h1]; exact e _ (decide_eq_false (by omega))
   ·
    rw [if_neg h1]; exact e _ rfl
  rw [stowageref03_Unhex.l0, if_pos (by omega), if_pos (by omega), hb]
  by_cases h1 : 48 ≤ c.toNat ∧ c.toNat ≤ 57
  ·
   rw [if_pos (by omega), decide_eq_true (by omega : (c.toNat : Int) ≤ 57), stowageref03_Unhex.j1, if_pos rfl, if_pos (by omega), if_pos (by omega), hb, IntWalk.wrap64_in (c.toNat : Int) (by omega), IntWalk.wrap64_in _ (by omega), j2 _ (by omega)]
   exact good _ (by omega) (by simp [Sha.hb]; omega)
  ·
   have e1 : ∀ q : Bool, q = false → stowageref03_Unhex.j1 (k + 1 + 1 + 1 + 1) a acc h (i : Int) (-1) q = stowageref03_Unhex.j2 (k + 1 + 1 + 1) a acc h (i : Int) (-1) := fun q hq => by rw [hq, stowageref03_Unhex.j1, if_neg (by decide)]
   have e2 : (if (c.toNat : Int) ≥ 48 then stowageref03_Unhex.j1 (k + 1 + 1 + 1 + 1) a acc h (i : Int) (-1) (decide ((c.toNat : Int) ≤ 57)) else stowageref03_Unhex.j1 (k + 1 + 1 + 1 + 1) a acc h (i : Int) (-1) false) = stowageref03_Unhex.j2 (k + 1 + 1 + 1) a acc h (i : Int) (-1) := by
    by_cases h2 : (c.toNat : Int) ≥ 48
    ·
     rw [if_pos h2]; exact e1 _ (decide_eq_false (by omega))
    ·
     rw [if_neg h2]; exact e1 _ rfl
   rw [e2]
   by_cases h3 : 97 ≤ c.toNat ∧ c.toNat ≤ 102
   ·
    rw [stowageref03_Unhex.j2, if_pos (by omega), if_pos (by omega), hb, if_pos (by omega), decide_eq_true (by omega : (c.toNat : Int) ≤ 102), stowageref03_Unhex.j3, if_pos rfl, if_pos (by omega), if_pos (by omega), hb, IntWalk.wrap64_in (c.toNat : Int) (by omega), IntWalk.wrap64_in _ (by omega)]
    exact good _ (by omega) (by simp [Sha.hb]; omega)
   ·
    rw [j2 _ h3, un_j4_bad k a acc h _ _ (by omega), bad (by simp [Sha.hb]; omega)]
    exact ⟨_, rfl⟩
theorem may06_eq (a : ByteArray) (hs : a.size ≤ 1048576) (k : Nat) (hk : 5300000 ≤ k) : stowageref06_May.f k a = some (D a) := by
 unfold stowageref06_May.f stowageref03_Unhex.f
 by_cases h2 : ((a.size : Int) % 2) = 0
 ·
  rw [if_pos h2]
  obtain ⟨b, hb⟩ := un_go a hs a.size 0 k [] 0 (by omega) (by omega) (Nat.le_refl _)
  rw [show ((0 : Nat) : Int) = 0 from rfl, List.drop_zero] at hb
  rw [hb, Option.bind_some]
  unfold D
  cases hc : a.data.toList.all Sha.hb
  ·
   rfl
  ·
   show (if (0 : Int) = 0 then some ((a.size : Int) == 64) else some false) = _
   rw [if_pos rfl, Bool.true_and]
   congr 1
   by_cases h : a.size = 64
   ·
    simp [h]
   ·
    rw [decide_eq_false h]
    simpa using (show ¬ (a.size : Int) = 64 by omega)
 ·
  rw [if_neg h2, Option.bind_some]
  have h : ¬ a.size = 64 := by omega
  unfold D
  rw [decide_eq_false h, Bool.and_false]
  rfl
theorem rd13 (l : List Piece) (i : Nat) (h : i < l.length) : rd_T85 (l.map refC) (i : Int) = refC (rdC l i) := by
 show (l.map refC).getD (i : Int).toNat _ = refC (l.getD (i : Int).toNat _)
 rw [Int.toNat_natCast, List.getD_eq_getElem?_getD, List.getD_eq_getElem?_getD, List.getElem?_map, List.getElem?_eq_getElem h]
 rfl
theorem rd14 (l : List Part) (i : Nat) (h : i < l.length) : rd_T52 (l.map refP) (i : Int) = refP (rdP l i) := by
 show (l.map refP).getD (i : Int).toNat _ = refP (l.getD (i : Int).toNat _)
 rw [Int.toNat_natCast, List.getD_eq_getElem?_getD, List.getD_eq_getElem?_getD, List.getElem?_map, List.getElem?_eq_getElem h]
 rfl
theorem pieces13_go (l : List Piece) (hl : l.length ≤ 1048576) (hs : ∀ y ∈ l, y.f0.size ≤ 1048576) : ∀ n i k (s : Int), i + n = l.length → n + 5300000 < k → 0 ≤ s → s ≤ 4096 * i → stowageref13_Pieces.l0 k (l.map refC) s (i : Int) = some (if 512 < l.length then (0, 1) else pcs (l.drop i) s) := by
 have hm : (l.map refC).length = l.length := List.length_map _
 intro n
 induction n with
 | zero =>
  intro i k s hi hk h0 h1
  obtain ⟨k, rfl⟩ : ∃ j, k = j + 1 := ⟨k - 1, by omega⟩
  rw [stowageref13_Pieces.l0, hm, if_neg (by omega), List.drop_of_length_le (by omega)]
  by_cases h : 512 < l.length
  ·
   rw [if_pos (by omega), if_pos h]
  ·
   rw [if_neg (by omega), if_neg h]
   rfl
 | succ n ih =>
  intro i k s hi hk h0 h1
  obtain ⟨k, rfl⟩ : ∃ j, k = j + 1 := ⟨k - 1, by omega⟩
  have e : (if 512 < l.length then ((0 : Int), (1 : Int)) else (0, 1)) = (0, 1) := by split <;> rfl
  rw [stowageref13_Pieces.l0, hm, if_pos (by omega), if_pos (by omega), rd13 l i (by omega)]
  show (stowageref06_May.f k (rdC l i).f0).bind (fun t => if t = true then (if (rdC l i).f1 < 1 then some (0, 1) else (if (rdC l i).f1 > 4096 then some (0, 1) else stowageref13_Pieces.l0 k (l.map refC) (wrap64 (s + (rdC l i).f1)) (wrap64 ((i : Int) + 1)))) else some (0, 1)) = _
  rw [may06_eq _ (hs _ (memC l i (by omega))) k (by omega), Option.bind_some, dropC l i (by omega), pcs, w1 i (by omega)]
  by_cases hd : D (rdC l i).f0 = true
  ·
   rw [if_pos hd]
   by_cases h2 : (rdC l i).f1 < 1
   ·
    rw [if_pos h2, if_neg (show ¬ (D (rdC l i).f0 = true ∧ 1 ≤ (rdC l i).f1 ∧ (rdC l i).f1 ≤ 4096) from fun h => by omega), e]
   ·
    rw [if_neg h2]
    by_cases h3 : (rdC l i).f1 > 4096
    ·
     rw [if_pos h3, if_neg (show ¬ (D (rdC l i).f0 = true ∧ 1 ≤ (rdC l i).f1 ∧ (rdC l i).f1 ≤ 4096) from fun h => by omega), e]
    ·
     rw [if_neg h3, if_pos (show D (rdC l i).f0 = true ∧ 1 ≤ (rdC l i).f1 ∧ (rdC l i).f1 ≤ 4096 from ⟨hd, by omega, by omega⟩), IntWalk.wrap64_in _ (by omega), ih (i + 1) k _ (by omega) (by omega) (by omega) (by omega)]
  ·
   rw [if_neg hd, if_neg (show ¬ (D (rdC l i).f0 = true ∧ 1 ≤ (rdC l i).f1 ∧ (rdC l i).f1 ≤ 4096) from fun h => hd h.1), e]
theorem pieces13_eq (l : List Piece) (hl : l.length ≤ 1048576) (hs : ∀ y ∈ l, y.f0.size ≤ 1048576) (k : Nat) (hk : 6400000 ≤ k) : stowageref13_Pieces.f k (l.map refC) = some (Pc l) := by
 unfold stowageref13_Pieces.f Pc
 exact pieces13_go l hl hs l.length 0 k 0 (by omega) (by omega) (by omega) (by omega)
theorem check14_eq (p : Part) (hp : SmallPart p) (k : Nat) (hk : 6400000 ≤ k) : stowageref14_Check.f k p.f0 p.f1 p.f2 (p.f3.map refC) = some (if chk p = true then 0 else 1) := by
 unfold stowageref14_Check.f
 rw [pieces13_eq p.f3 hp.len hp.pcs k hk, Option.bind_some]
 have hno : ∀ h : ¬ (1 ≤ p.f0 ∧ p.f0 ≤ 100 ∧ (Pc p.f3).2 = 0 ∧ (Pc p.f3).1 = p.f1), (some 1 : Option Int) = some (if chk p = true then 0 else 1) := fun h => by
  have : chk p = false := by unfold chk; rw [decide_eq_false h, Bool.false_and]
  rw [this, if_neg (by decide)]
 by_cases h1 : p.f0 < 1
 ·
  rw [if_pos h1]; exact hno (by omega)
 ·
  rw [if_neg h1]
  by_cases h2 : p.f0 > 100
  ·
   rw [if_pos h2]; exact hno (by omega)
  ·
   rw [if_neg h2]
   by_cases h3 : (Pc p.f3).2 = 0
   ·
    rw [if_pos h3]
    by_cases h4 : (Pc p.f3).1 = p.f1
    ·
     have hc : chk p = D p.f2 := by unfold chk; rw [decide_eq_true ⟨by omega, by omega, h3, h4⟩, Bool.true_and]
     rw [if_pos h4, may06_eq p.f2 hp.sum k (by omega), Option.bind_some, hc]
     cases D p.f2 <;> rfl
    ·
     rw [if_neg h4]; exact hno (fun h => h4 h.2.2.2)
   ·
    rw [if_neg h3]; exact hno (fun h => h3 h.2.2.1)
theorem may14_go (l : List Part) (hl : Small l) : ∀ n i k, i + n = l.length → n + 6400000 < k → stowageref14_May.l0 k (l.map refP) (i : Int) = some (rB (prev l i) (l.drop i)) := by
 have hm : (l.map refP).length = l.length := List.length_map _
 intro n
 induction n with
 | zero =>
  intro i k hi hk
  obtain ⟨k, rfl⟩ : ∃ j, k = j + 1 := ⟨k - 1, by omega⟩
  rw [stowageref14_May.l0, hm, if_neg (by omega), List.drop_of_length_le (by omega)]
  rfl
 | succ n ih =>
  intro i k hi hk
  have hll := hl.len
  obtain ⟨k, rfl⟩ : ∃ j, k = j + 1 := ⟨k - 1, by omega⟩
  have hc14 : stowageref14_Check.f k (refP (rdP l i)).f0 (refP (rdP l i)).f1 (refP (rdP l i)).f2 (refP (rdP l i)).f3 = _ := check14_eq (rdP l i) (hl.each _ (memP l i (by omega))) k (by omega)
  rw [stowageref14_May.l0, hm, if_pos (by omega), if_pos (by omega), rd14 l i (by omega), hc14, Option.bind_some, dropP l i (by omega), rB, w1 i (by omega), ih (i + 1) k (by omega) (by omega)]
  have hp : prev l (i + 1) = some (rdP l i).f0 := by unfold prev; rw [if_neg (by omega)]; rfl
  rw [hp]
  cases hc : chk (rdP l i)
  ·
   simp
  ·
   simp only [if_true, Bool.true_and]
   by_cases h0 : i = 0
   ·
    subst h0
    rw [if_neg (by omega)]
    simp [prev, okN]
   ·
    obtain ⟨j, rfl⟩ : ∃ j, i = j + 1 := ⟨i - 1, by omega⟩
    have e : wrap64 (((j + 1 : Nat) : Int) - 1) = (j : Int) := by rw [IntWalk.wrap64_in _ (by omega)]; omega
    rw [if_pos (by omega), e, if_pos (by omega), if_pos (by omega), rd14 l j (by omega)]
    have hp2 : prev l (j + 1) = some (rdP l j).f0 := by unfold prev; rw [if_neg (by omega)]; rfl
    rw [hp2]
    show (if (rdP l j).f0 ≥ (rdP l (j + 1)).f0 then _ else _) = some (decide ((rdP l j).f0 < (rdP l (j + 1)).f0) && _)
    by_cases h2 : (rdP l j).f0 ≥ (rdP l (j + 1)).f0
    ·
     rw [if_pos h2, decide_eq_false (by omega), Bool.false_and]
    ·
     rw [if_neg h2, decide_eq_true (by omega), Bool.true_and]
theorem may14_eq (l : List Part) (hl : Small l) (k : Nat) (hk : 7500000 ≤ k) : stowageref14_May.f k (l.map refP) = some (rB none l) := by
 have := hl.len
 exact may14_go l hl l.length 0 k (by omega) (by omega)
theorem bt_rng (s : ByteArray) (i : Int) : 0 ≤ bt s i ∧ bt s i ≤ 255 := by
 unfold bt
 split
 ·
  rename_i h
  have := (s.get i.toNat h).toNat_lt
  constructor
  ·
   omega
  ·
   show ((s.get i.toNat h).toNat : Int) ≤ 255
   omega
 ·
  omega
theorem or128 (m : Int) (h0 : 0 ≤ m) (h1 : m < 256) : Go.bits .or .u8 m 128 = m % 128 + 128 := by
 obtain ⟨n, rfl⟩ : ∃ n : Nat, m = (n : Int) := ⟨m.toNat, by omega⟩
 have h : ∀ n, n < 256 → Go.bits .or .u8 ((n : Nat) : Int) 128 = ((n : Nat) : Int) % 128 + 128 := by decide +kernel
 exact h n (by omega)
def nl : Nat → Int → List Int
 | 0, n => [n]
 | d + 1, n => if n < 128 then [n] else (n % 128 + 128) :: nl d (n / 128)
theorem nl_len : ∀ d n, (nl d n).length ≤ d + 1
 | 0, _ => by simp [nl]
 | d + 1, n => by
  rw [nl]
  split
  ·
   simp
  ·
   have := nl_len d (n / 128)
   simp only [List.length_cons]; omega
theorem sn_append (a b : List Int) : strOfNums (a ++ b) = strOfNums a ++ strOfNums b := by
 apply ByteArray.ext
 rw [ByteArray.data_append]
 simp [strOfNums]
theorem oct_num : ∀ (d k : Nat) (n : Int) (x3 : List Int), 0 ≤ n → n < 128 ^ (d + 1) → d < k → x3.length + d ≤ 100 → octet_Number.l0 k n x3 = some (strOfNums (x3 ++ nl d n)) := by
 intro d
 induction d with
 | zero =>
  intro k n x3 h0 h1 hk h3
  obtain ⟨k, rfl⟩ : ∃ j, k = j + 1 := ⟨k - 1, by omega⟩
  have h1' : n < 128 := by simpa using h1
  rw [octet_Number.l0, if_neg (by omega), if_pos (by omega), nl, Int.emod_eq_of_lt h0 (by omega)]
 | succ d ih =>
  intro k n x3 h0 h1 hk h3
  obtain ⟨k, rfl⟩ : ∃ j, k = j + 1 := ⟨k - 1, by omega⟩
  rw [octet_Number.l0, nl]
  by_cases h : n < 128
  ·
   rw [if_neg (by omega), if_pos (by omega), if_pos h, Int.emod_eq_of_lt h0 (by omega)]
  ·
   rw [if_pos (by omega), if_pos (by omega), if_neg h, or128 _ (by omega) (by omega), show n % 256 % 128 = n % 128 by omega, ih k (n / 128) _ (by omega) (Int.ediv_lt_of_lt_mul (by omega) (by rw [← Int.pow_succ]; exact h1)) (by omega) (by simp; omega), List.append_assoc]
   rfl
theorem ref_num : ∀ (d k : Nat) (n : Int), 0 ≤ n → n < 128 ^ (d + 1) → n ≤ 18446744073709551615 → d < k → d ≤ 100 → stowageref01_Number.f k n = some (strOfNums (nl d n)) := by
 intro d
 induction d with
 | zero =>
  intro k n h0 h1 h2 hk h3
  obtain ⟨k, rfl⟩ : ∃ j, k = j + 1 := ⟨k - 1, by omega⟩
  have h1' : n < 128 := by simpa using h1
  rw [stowageref01_Number.f, if_pos h1', nl, Int.emod_eq_of_lt h0 (by omega)]
 | succ d ih =>
  intro k n h0 h1 h2 hk h3
  obtain ⟨k, rfl⟩ : ∃ j, k = j + 1 := ⟨k - 1, by omega⟩
  rw [stowageref01_Number.f, nl]
  by_cases h : n < 128
  ·
   rw [if_pos h, if_pos h, Int.emod_eq_of_lt h0 (by omega)]
  ·
   rw [if_neg h, if_neg h, Option.bind_some, Int.tmod_eq_emod_of_nonneg h0, Int.tdiv_eq_ediv_of_nonneg h0, IntWalk.u64_in (n / 128) (by omega), ih k (n / 128) (by omega) (Int.ediv_lt_of_lt_mul (by omega) (by rw [← Int.pow_succ]; exact h1)) (by omega) (by omega) (by omega), Option.bind_some, IntWalk.u64_in _ (by omega), Int.emod_eq_of_lt (by omega) (by omega)]
   have := nl_len d (n / 128)
   rw [if_pos (by rw [strOfNums_size, strOfNums_size]; simp only [List.length_cons, List.length_nil]; omega), ← sn_append]
   rfl
def num (n : Int) : ByteArray := strOfNums (nl 9 n)
theorem num_size (n : Int) : (num n).size ≤ 10 := by
 unfold num
 rw [strOfNums_size]
 exact nl_len 9 n
theorem oct_Number (n : Int) (h0 : 0 ≤ n) (h1 : n ≤ 18446744073709551615) (k : Nat) (hk : 10 ≤ k) : octet_Number.f k n = some (num n) := by
 unfold octet_Number.f
 rw [oct_num 9 k n [] h0 (by omega) (by omega) (by simp)]
 rfl
theorem ref_Number (n : Int) (h0 : 0 ≤ n) (h1 : n ≤ 18446744073709551615) (k : Nat) (hk : 10 ≤ k) : stowageref01_Number.f k n = some (num n) :=
 ref_num 9 k n h0 (by omega) h1 (by omega) (by omega)
def txt (a : ByteArray) : ByteArray := num (a.size : Int) ++ a
theorem oct_Text (a : ByteArray) (ha : a.size ≤ 1073741824) (k : Nat) (hk : 10 ≤ k) : octet_Text.f k a = some (txt a) := by
 unfold octet_Text.f
 have := num_size (a.size : Int)
 rw [IntWalk.u64_in _ (by omega), oct_Number _ (by omega) (by omega) k hk, Option.bind_some, if_pos (by omega)]
 rfl
theorem ref_Text (a : ByteArray) (ha : a.size ≤ 1073741824) (k : Nat) (hk : 10 ≤ k) : stowageref01_Text.f k a = some (txt a) := by
 unfold stowageref01_Text.f
 have := num_size (a.size : Int)
 rw [IntWalk.u64_in _ (by omega), ref_Number _ (by omega) (by omega) k hk, Option.bind_some, if_pos (by omega)]
 rfl
theorem and127 (m : Int) (h0 : 0 ≤ m) (h1 : m < 256) : Go.bits .and .u8 m 127 = m % 128 := by
 obtain ⟨n, rfl⟩ : ∃ n : Nat, m = (n : Int) := ⟨m.toNat, by omega⟩
 have h : ∀ n, n < 256 → Go.bits .and .u8 ((n : Nat) : Int) 127 = ((n : Nat) : Int) % 128 := by decide +kernel
 exact h n (by omega)
def rn (s : ByteArray) (a : Nat) : Nat → Nat → Int → Int × Int × Int
 | 0, _, _ => (0, 0, 3)
 | n + 1, i, x => if s.size ≤ a + i then (0, 0, 5) else if (i = 9 ∧ bt s ((a + i : Nat) : Int) > 1) ∨ (0 < i ∧ bt s ((a + i : Nat) : Int) = 0) then (0, 0, 3)
  else if bt s ((a + i : Nat) : Int) < 128 then (x + bt s ((a + i : Nat) : Int) % 128 * 128 ^ i, ((a + i + 1 : Nat) : Int), 0) else rn s a n (i + 1) (x + bt s ((a + i : Nat) : Int) % 128 * 128 ^ i)
theorem or_add (x d : Nat) (i : Nat) (hx : x < 128 ^ i) : x ||| (d * 128 ^ i) = x + d * 128 ^ i := by
 have h : (128 : Nat) ^ i = 2 ^ (7 * i) := by rw [Nat.pow_mul]
 rw [h] at hx ⊢
 rw [Nat.or_comm, Nat.mul_comm d, ← Nat.two_pow_add_eq_or_of_lt hx d, Nat.add_comm]
theorem step_bits (x b : Int) (i : Nat) (h0 : 0 ≤ x) (hx : x < 128 ^ i) (hb0 : 0 ≤ b) (hb : b < 256) (hi : i < 9 ∨ (i = 9 ∧ b ≤ 1)) :
  Go.bits .or .u64 x (shl .u64 (IntKind.u64.wrap (Go.bits .and .u8 b 127)) (7 * (i : Int))) = x + b % 128 * 128 ^ i ∧ 0 ≤ x + b % 128 * 128 ^ i ∧ x + b % 128 * 128 ^ i < 128 ^ (i + 1) ∧ x + b % 128 * 128 ^ i ≤ 18446744073709551615 := by
 obtain ⟨n, rfl⟩ : ∃ n : Nat, x = (n : Int) := ⟨x.toNat, by omega⟩
 obtain ⟨d, hd⟩ : ∃ d : Nat, b % 128 = (d : Int) := ⟨(b % 128).toNat, by omega⟩
 have hd1 : d < 128 := by omega
 have hn : n < 128 ^ i := by exact_mod_cast hx
 have hpow : (128 : Nat) ^ i = 2 ^ (7 * i) := by rw [Nat.pow_mul]
 have hlt : n + d * 128 ^ i < 128 ^ (i + 1) := by
  have h1 : d * 128 ^ i ≤ 127 * 128 ^ i := Nat.mul_le_mul_right _ (by omega)
  rw [Nat.pow_succ]; omega
 have hmax : n + d * 128 ^ i < 18446744073709551616 := by
  rcases hi with hi | ⟨rfl, hb1⟩
  ·
   have h2 : (128 : Nat) ^ (i + 1) ≤ 128 ^ 9 := Nat.pow_le_pow_right (by decide) (by omega)
   have h3 : (128 : Nat) ^ 9 = 9223372036854775808 := by decide
   omega
  ·
   have h3 : (128 : Nat) ^ 9 = 9223372036854775808 := by decide
   have h4 : d ≤ 1 := by omega
   rw [h3] at hn ⊢
   rcases (show d = 0 ∨ d = 1 by omega) with rfl | rfl <;> omega
 have hpi : (0 : Nat) < 128 ^ i := Nat.pow_pos (by decide)
 have hdm : d * 128 ^ i < 18446744073709551616 := by omega
 have hi9 : i ≤ 9 := by omega
 have hshl : shl .u64 (IntKind.u64.wrap (Go.bits .and .u8 b 127)) (7 * (i : Int)) = ((d * 128 ^ i : Nat) : Int) := by
  rw [and127 b hb0 hb, hd, IntWalk.u64_in _ (by omega)]
  unfold shl
  have hbits : IntKind.u64.bits = 64 := rfl
  rw [hbits, show (7 * (i : Int)).toNat = 7 * i by omega, Nat.min_eq_left (by omega), hpow]
  rw [hpow] at hdm
  have hc : ((d : Int) * 2 ^ (7 * i)) = ((d * 2 ^ (7 * i) : Nat) : Int) := by rw [Int.natCast_mul, Int.natCast_pow]; rfl
  rw [hc, IntWalk.u64_in _ (by omega)]
 have hc2 : (n : Int) + b % 128 * 128 ^ i = ((n + d * 128 ^ i : Nat) : Int) := by rw [hd, Int.natCast_add, Int.natCast_mul, Int.natCast_pow]; rfl
 rw [hshl, bits_or_u64_nat n _ (by omega) hdm, or_add n d i hn, hc2]
 refine ⟨rfl, by omega, ?_, by omega⟩
 have : ((128 : Int) ^ (i + 1)) = ((128 ^ (i + 1) : Nat) : Int) := by rw [Int.natCast_pow]; rfl
 rw [this]
 omega
theorem oct_rn (s : ByteArray) (a : Nat) (hs : s.size ≤ 1073741824) (ha : a ≤ s.size) : ∀ (n i k : Nat) (x : Int), i + n = 10 → 2 * n < k → 0 ≤ x → x < 128 ^ i → octet_ReadNumber.l0 k s (a : Int) x (i : Int) = some (rn s a n i x) := by
 intro n
 induction n with
 | zero =>
  intro i k x hi hk h0 hx
  obtain ⟨k, rfl⟩ : ∃ j, k = j + 1 := ⟨k - 1, by omega⟩
  rw [octet_ReadNumber.l0, if_neg (by omega)]
  rfl
 | succ n ih =>
  intro i k x hi hk h0 hx
  obtain ⟨k, rfl⟩ : ∃ j, k = j + 1 + 1 := ⟨k - 2, by omega⟩
  have hbr := bt_rng s ((a + i : Nat) : Int)
  rw [octet_ReadNumber.l0, if_pos (by omega), IntWalk.wrap64_in ((a : Int) + (i : Int)) (by omega), show ((a : Int) + (i : Int)) = ((a + i : Nat) : Int) by omega, rn]
  obtain ⟨b, hb⟩ : ∃ b, bt s ((a + i : Nat) : Int) = b := ⟨_, rfl⟩
  rw [hb] at hbr ⊢
  by_cases he : s.size ≤ a + i
  ·
   rw [if_pos (by omega), if_pos he]
  ·
   rw [if_neg (by omega), if_neg he, if_pos (by omega), if_pos (by omega)]
   have tail : ∀ c : Bool, (c = true ↔ ((i = 9 ∧ b > 1) ∨ (0 < i ∧ b = 0))) → octet_ReadNumber.j2 (k + 1) s (a : Int) x (i : Int) b (i : Int) c = some (if (i = 9 ∧ b > 1) ∨ (0 < i ∧ b = 0) then (0, 0, 3) else if b < 128 then (x + b % 128 * 128 ^ i, ((a + i + 1 : Nat) : Int), 0) else rn s a n (i + 1) (x + b % 128 * 128 ^ i)) := by
    intro c hc
    rw [octet_ReadNumber.j2]
    by_cases hq : (i = 9 ∧ b > 1) ∨ (0 < i ∧ b = 0)
    ·
     rw [if_pos (hc.2 hq), if_pos hq]
    ·
     rw [if_neg (fun h => hq (hc.1 h)), if_neg hq, IntWalk.wrap64_in (7 * (i : Int)) (by omega), if_pos (by omega)]
     obtain ⟨e1, e2, e3, e4⟩ := step_bits x b i h0 hx hbr.1 (by omega) (by omega)
     rw [e1]
     by_cases hlt : b < 128
     ·
      rw [if_pos hlt, if_pos hlt, IntWalk.wrap64_in ((a : Int) + (i : Int)) (by omega), IntWalk.wrap64_in _ (by omega)]
      rfl
     ·
      rw [if_neg hlt, if_neg hlt, IntWalk.wrap64_in ((i : Int) + 1) (by omega), show ((i : Int) + 1) = ((i + 1 : Nat) : Int) by omega]
      exact ih (i + 1) k _ (by omega) (by omega) e2 e3
   by_cases h9 : i = 9
   ·
    rw [if_pos (by omega)]
    by_cases hb1 : b > 1
    ·
     rw [if_pos hb1]; exact tail true (by simp; omega)
    ·
     rw [if_neg hb1, if_pos (by omega)]; exact tail _ (by simp; omega)
   ·
    rw [if_neg (by omega)]
    by_cases hi0 : i = 0
    ·
     rw [if_neg (by omega)]; exact tail false (by simp; omega)
    ·
     rw [if_pos (by omega)]; exact tail _ (by simp; omega)
theorem ref_rn (s : ByteArray) (a : Nat) (hs : s.size ≤ 1073741824) (ha : a ≤ s.size) : ∀ (n i k : Nat) (x w : Int), i + n = 10 → 0 < n → 2 * n < k → 0 ≤ x → x < 128 ^ i → (i < 10 → w = 128 ^ i) → stowageref01_ReadNumber.l0 k s (a : Int) x w ((a + i : Nat) : Int) = some (rn s a n i x) := by
 intro n
 induction n with
 | zero => intro i k x w hi hn; omega
 | succ n ih =>
  intro i k x w hi hn hk h0 hx hw
  obtain ⟨k, rfl⟩ : ∃ j, k = j + 1 + 1 := ⟨k - 2, by omega⟩
  have hbr := bt_rng s ((a + i : Nat) : Int)
  obtain rfl := hw (by omega)
  rw [stowageref01_ReadNumber.l0, rn]
  obtain ⟨b, hb⟩ : ∃ b, bt s ((a + i : Nat) : Int) = b := ⟨_, rfl⟩
  rw [hb] at hbr ⊢
  by_cases he : s.size ≤ a + i
  ·
   rw [if_pos (by omega), if_pos he]
  ·
   rw [if_neg (by omega), if_neg he, if_pos (by omega), if_pos (by omega), IntWalk.u64_in b (by omega), IntWalk.wrap64_in (((a + i : Nat) : Int) - (a : Int)) (by omega)]
   have tail : ∀ c : Bool, (c = true ↔ ((i = 9 ∧ b > 1) ∨ (0 < i ∧ b = 0))) → stowageref01_ReadNumber.j2 (k + 1) s (a : Int) x (128 ^ i) ((a + i : Nat) : Int) b c = some (if (i = 9 ∧ b > 1) ∨ (0 < i ∧ b = 0) then (0, 0, 3) else if b < 128 then (x + b % 128 * 128 ^ i, ((a + i + 1 : Nat) : Int), 0) else rn s a n (i + 1) (x + b % 128 * 128 ^ i)) := by
    intro c hc
    rw [stowageref01_ReadNumber.j2]
    by_cases hq : (i = 9 ∧ b > 1) ∨ (0 < i ∧ b = 0)
    ·
     rw [if_pos (hc.2 hq), if_pos hq]
    ·
     obtain ⟨e1, e2, e3, e4⟩ := step_bits x b i h0 hx hbr.1 (by omega) (by omega)
     have h5 : 0 ≤ b % 128 * 128 ^ i := Int.mul_nonneg (by omega) (Int.pow_nonneg (by omega))
     rw [if_neg (fun h => hq (hc.1 h)), if_neg hq, Int.tmod_eq_emod_of_nonneg hbr.1, IntWalk.u64_in (b % 128 * 128 ^ i) ⟨h5, by omega⟩, IntWalk.u64_in _ ⟨e2, e4⟩, IntWalk.wrap64_in (((a + i : Nat) : Int) + 1) (by omega)]
     by_cases hlt : b < 128
     ·
      rw [if_pos hlt, if_pos hlt]
      rfl
     ·
      have hn0 : 0 < n := by
       rcases Nat.eq_zero_or_pos n with h | h
       ·
        omega
       ·
        exact h
      rw [if_neg hlt, if_neg hlt, show (((a + i : Nat) : Int) + 1) = ((a + (i + 1) : Nat) : Int) by omega]
      refine ih (i + 1) k _ _ (by omega) hn0 (by omega) e2 e3 (fun hi10 => ?_)
      have h6 : (128 : Int) ^ i * 128 = 128 ^ (i + 1) := (Int.pow_succ _ _).symm
      have h7 : (128 : Int) ^ (i + 1) ≤ 18446744073709551615 := by
       have h8 : (128 : Nat) ^ (i + 1) ≤ 128 ^ 9 := Nat.pow_le_pow_right (by decide) (by omega)
       have h9 : (128 : Nat) ^ 9 = 9223372036854775808 := by decide
       have h10 : ((128 : Int) ^ (i + 1)) = ((128 ^ (i + 1) : Nat) : Int) := by rw [Int.natCast_pow]; rfl
       rw [h10]; omega
      rw [h6, IntWalk.u64_in _ ⟨Int.pow_nonneg (by omega), h7⟩]
   by_cases h9 : i = 9
   ·
    rw [if_pos (by omega)]
    by_cases hb1 : b > 1
    ·
     rw [if_pos hb1]; exact tail true (by simp; omega)
    ·
     rw [if_neg hb1, if_pos (by omega)]; exact tail _ (by simp; omega)
   ·
    rw [if_neg (by omega)]
    by_cases hi0 : i = 0
    ·
     rw [if_neg (by omega)]; exact tail false (by simp; omega)
    ·
     rw [if_pos (by omega)]; exact tail _ (by simp; omega)
theorem rn_spec (s : ByteArray) (a : Nat) : ∀ (n i : Nat) (x : Int), i + n = 10 → 0 ≤ x → x < 128 ^ i → (rn s a n i x).2.2 = 0 → 0 ≤ (rn s a n i x).1 ∧ (rn s a n i x).1 ≤ 18446744073709551615 ∧ ∃ m : Nat, (rn s a n i x).2.1 = (m : Int) ∧ a ≤ m ∧ m ≤ s.size
 | 0, _, _, _, _, _, h => by simp [rn] at h
 | n + 1, i, x, hi, h0, hx, h => by
  have hbr := bt_rng s ((a + i : Nat) : Int)
  rw [rn] at h ⊢
  split at h
  ·
   simp at h
  ·
   rename_i he
   split at h
   ·
    simp at h
   ·
    rename_i hq
    obtain ⟨e1, e2, e3, e4⟩ := step_bits x _ i h0 hx hbr.1 (by omega) (by omega)
    rw [if_neg he, if_neg hq]
    split at h
    ·
     rename_i hlt
     rw [if_pos hlt]
     exact ⟨e2, e4, a + i + 1, rfl, by omega, by omega⟩
    ·
     rename_i hlt
     rw [if_neg hlt]
     exact rn_spec s a n (i + 1) _ (by omega) e2 e3 h
def rd0 (s : ByteArray) (a : Nat) : Int × Int × Int := rn s a 10 0 0
theorem oct_ReadNumber (s : ByteArray) (a : Nat) (hs : s.size ≤ 1073741824) (ha : a ≤ s.size) (k : Nat) (hk : 25 ≤ k) : octet_ReadNumber.f k s (a : Int) = some (rd0 s a) := by
 unfold octet_ReadNumber.f
 obtain ⟨k, rfl⟩ : ∃ j, k = j + 1 := ⟨k - 1, by omega⟩
 rw [if_neg (by omega), decide_eq_false (by omega), octet_ReadNumber.j0, if_neg (by simp)]
 exact oct_rn s a hs ha 10 0 k 0 (by omega) (by omega) (by omega) (by decide)
theorem ref_ReadNumber (s : ByteArray) (a : Nat) (hs : s.size ≤ 1073741824) (ha : a ≤ s.size) (k : Nat) (hk : 25 ≤ k) : stowageref01_ReadNumber.f k s (a : Int) = some (rd0 s a) := by
 unfold stowageref01_ReadNumber.f
 obtain ⟨k, rfl⟩ : ∃ j, k = j + 1 := ⟨k - 1, by omega⟩
 rw [if_neg (by omega), decide_eq_false (by omega), stowageref01_ReadNumber.j0, if_neg (by simp)]
 exact ref_rn s a hs ha 10 0 k 0 1 (by omega) (by omega) (by omega) (by omega) (by decide) (fun _ => by decide)
theorem rd0_spec (s : ByteArray) (a : Nat) (h : (rd0 s a).2.2 = 0) : 0 ≤ (rd0 s a).1 ∧ (rd0 s a).1 ≤ 18446744073709551615 ∧ ∃ m : Nat, (rd0 s a).2.1 = (m : Int) ∧ a ≤ m ∧ m ≤ s.size :=
 rn_spec s a 10 0 0 (by omega) (by omega) (by decide) h
theorem txt_size (a : ByteArray) : (txt a).size ≤ a.size + 10 := by
 unfold txt
 have := num_size (a.size : Int)
 rw [ByteArray.size_append]; omega
theorem ba_assoc (a b c : ByteArray) : a ++ b ++ c = a ++ (b ++ c) := by
 apply ByteArray.ext
 simp only [ByteArray.data_append, Array.append_assoc]
def xn (s : ByteArray) (a : Nat) (e : Int) (most : Int) : Int × Int × Int :=
 if e = 0 then (if (rd0 s a).2.2 = 0 then (if (rd0 s a).1 > most then (0, (a : Int), 2) else ((rd0 s a).1, (rd0 s a).2.1, 0)) else (0, (a : Int), (rd0 s a).2.2)) else (0, (a : Int), e)
theorem oct_RNumber (s : ByteArray) (a : Nat) (hs : s.size ≤ 1073741824) (ha : a ≤ s.size) (e most : Int) (k : Nat) (hk : 30 ≤ k) :
  octet_Reader_Number.f k s (a : Int) e most = some ((xn s a e most).1, s, (xn s a e most).2.1, (xn s a e most).2.2) := by
 unfold octet_Reader_Number.f octet_Reader_Err.f xn
 obtain ⟨k, rfl⟩ : ∃ j, k = j + 1 := ⟨k - 1, by omega⟩
 rw [Option.bind_some]
 by_cases he : e = 0
 ·
  rw [if_pos he, if_pos he, oct_ReadNumber s a hs ha (k + 1) (by omega), Option.bind_some]
  by_cases h0 : (rd0 s a).2.2 = 0
  ·
   rw [if_pos h0, if_pos h0, octet_Reader_Number.j0]
   by_cases hm : (rd0 s a).1 > most
   ·
    rw [if_pos (decide_eq_true hm), if_neg (by omega), if_pos hm]
   ·
    rw [if_neg (by simpa using hm), if_pos h0, if_neg hm, he]
  ·
   rw [if_neg h0, if_neg h0, octet_Reader_Number.j0, if_neg (by simp), if_neg h0]
 ·
  rw [if_neg he, if_neg he]
theorem ref_RNumber (s : ByteArray) (a : Nat) (hs : s.size ≤ 1073741824) (ha : a ≤ s.size) (e most : Int) (k : Nat) (hk : 30 ≤ k) :
  stowageref01_Reader_Number.f k s (a : Int) e most = some (s, (xn s a e most).2.1, (xn s a e most).2.2, (xn s a e most).1) := by
 unfold stowageref01_Reader_Number.f xn
 by_cases he : e = 0
 ·
  rw [if_pos he, if_pos he, ref_ReadNumber s a hs ha k (by omega), Option.bind_some]
  by_cases h0 : (rd0 s a).2.2 = 0
  ·
   rw [if_pos h0, if_pos h0]
   by_cases hm : (rd0 s a).1 > most
   ·
    rw [if_pos hm, if_pos hm]
   ·
    rw [if_neg hm, if_neg hm, he]
  ·
   rw [if_neg h0, if_neg h0]
 ·
  rw [if_neg he, if_neg he]
theorem xn_at (s : ByteArray) (a : Nat) (ha : a ≤ s.size) (e most : Int) (hm : 0 ≤ most) : 0 ≤ (xn s a e most).1 ∧ (xn s a e most).1 ≤ most ∧ ∃ m : Nat, (xn s a e most).2.1 = (m : Int) ∧ a ≤ m ∧ m ≤ s.size := by
 unfold xn
 by_cases he : e = 0
 ·
  rw [if_pos he]
  by_cases h0 : (rd0 s a).2.2 = 0
  ·
   rw [if_pos h0]
   obtain ⟨g1, g2, m, g3, g4, g5⟩ := rd0_spec s a h0
   by_cases hmm : (rd0 s a).1 > most
   ·
    rw [if_pos hmm]; exact ⟨Int.le_refl _, hm, a, rfl, Nat.le_refl _, ha⟩
   ·
    rw [if_neg hmm]; exact ⟨g1, by omega, m, g3, g4, g5⟩
  ·
   rw [if_neg h0]; exact ⟨Int.le_refl _, hm, a, rfl, Nat.le_refl _, ha⟩
 ·
  rw [if_neg he]; exact ⟨Int.le_refl _, hm, a, rfl, Nat.le_refl _, ha⟩
theorem oct_RInt (s : ByteArray) (a : Nat) (hs : s.size ≤ 1073741824) (ha : a ≤ s.size) (e most : Int) (hm : 0 ≤ most) (hm2 : most ≤ 9223372036854775807) (k : Nat) (hk : 30 ≤ k) :
  octet_Reader_Int.f k s (a : Int) e most = some ((xn s a e most).1, s, (xn s a e most).2.1, (xn s a e most).2.2) := by
 unfold octet_Reader_Int.f
 obtain ⟨h1, h2, _⟩ := xn_at s a ha e most hm
 rw [if_neg (by omega), IntWalk.u64_in most (by omega), oct_RNumber s a hs ha e most k hk, Option.bind_some]
 show some (wrap64 ((xn s a e most).1), s, (xn s a e most).2.1, (xn s a e most).2.2) = _
 rw [IntWalk.wrap64_in _ (by omega)]
theorem ref_RInt (s : ByteArray) (a : Nat) (hs : s.size ≤ 1073741824) (ha : a ≤ s.size) (e most : Int) (hm : 0 ≤ most) (hm2 : most ≤ 9223372036854775807) (k : Nat) (hk : 30 ≤ k) :
  stowageref01_Reader_Int.f k s (a : Int) e most = some (s, (xn s a e most).2.1, (xn s a e most).2.2, (xn s a e most).1) := by
 unfold stowageref01_Reader_Int.f
 obtain ⟨h1, h2, _⟩ := xn_at s a ha e most hm
 rw [if_pos (by omega), IntWalk.u64_in most (by omega), ref_RNumber s a hs ha e most k hk, Option.bind_some]
 show some (s, (xn s a e most).2.1, (xn s a e most).2.2, wrap64 ((xn s a e most).1)) = _
 rw [IntWalk.wrap64_in _ (by omega)]
def rt (s : ByteArray) (a : Nat) : ByteArray × Int × Int :=
 if (rd0 s a).2.2 = 0 then (if (rd0 s a).1 > (s.size : Int) - (rd0 s a).2.1 then ((⟨#[]⟩ : ByteArray), 0, 5) else (s.extract (rd0 s a).2.1.toNat ((rd0 s a).2.1 + (rd0 s a).1).toNat, (rd0 s a).2.1 + (rd0 s a).1, 0)) else ((⟨#[]⟩ : ByteArray), 0, (rd0 s a).2.2)
theorem oct_ReadText (s : ByteArray) (a : Nat) (hs : s.size ≤ 1073741824) (ha : a ≤ s.size) (k : Nat) (hk : 25 ≤ k) : octet_ReadText.f k s (a : Int) = some (rt s a) := by
 unfold octet_ReadText.f rt
 rw [oct_ReadNumber s a hs ha k hk, Option.bind_some]
 by_cases h0 : (rd0 s a).2.2 = 0
 ·
  obtain ⟨g1, g2, m, g3, g4, g5⟩ := rd0_spec s a h0
  rw [if_pos h0, if_pos h0, g3, IntWalk.wrap64_in ((s.size : Int) - (m : Int)) (by omega), IntWalk.u64_in _ (by omega)]
  by_cases hm : (rd0 s a).1 > (s.size : Int) - (m : Int)
  ·
   rw [if_pos hm, if_pos hm]
  ·
   rw [if_neg hm, if_neg hm, IntWalk.wrap64_in (rd0 s a).1 (by omega), IntWalk.wrap64_in _ (by omega), if_pos (by omega), if_pos (by omega), if_pos (by omega)]
 ·
  rw [if_neg h0, if_neg h0]
theorem ref_ReadText (s : ByteArray) (a : Nat) (hs : s.size ≤ 1073741824) (ha : a ≤ s.size) (k : Nat) (hk : 25 ≤ k) : stowageref01_ReadText.f k s (a : Int) = some (rt s a) := by
 unfold stowageref01_ReadText.f rt
 rw [ref_ReadNumber s a hs ha k hk, Option.bind_some]
 by_cases h0 : (rd0 s a).2.2 = 0
 ·
  obtain ⟨g1, g2, m, g3, g4, g5⟩ := rd0_spec s a h0
  rw [if_pos h0, if_pos h0, g3, IntWalk.u64_in (s.size : Int) (by omega)]
  by_cases hb : (rd0 s a).1 > (s.size : Int)
  ·
   rw [if_pos hb, if_pos (by omega)]
  ·
   rw [if_neg hb, IntWalk.wrap64_in (rd0 s a).1 (by omega), IntWalk.wrap64_in ((s.size : Int) - (m : Int)) (by omega)]
   by_cases hm : (rd0 s a).1 > (s.size : Int) - (m : Int)
   ·
    rw [if_pos hm, if_pos hm]
   ·
    rw [if_neg hm, if_neg hm, IntWalk.wrap64_in _ (by omega), if_pos (by omega), if_pos (by omega), if_pos (by omega)]
 ·
  rw [if_neg h0, if_neg h0]
theorem rt_spec (s : ByteArray) (a : Nat) (h : (rt s a).2.2 = 0) : ∃ m : Nat, (rt s a).2.1 = (m : Int) ∧ a ≤ m ∧ m ≤ s.size := by
 unfold rt at h ⊢
 by_cases h0 : (rd0 s a).2.2 = 0
 ·
  obtain ⟨g1, g2, m, g3, g4, g5⟩ := rd0_spec s a h0
  rw [if_pos h0] at h ⊢
  by_cases hm : (rd0 s a).1 > (s.size : Int) - (rd0 s a).2.1
  ·
   rw [if_pos hm] at h; simp at h
  ·
   rw [if_neg hm]
   exact ⟨m + (rd0 s a).1.toNat, by show (rd0 s a).2.1 + (rd0 s a).1 = _; omega, by omega, by omega⟩
 ·
  rw [if_neg h0] at h
  exact absurd h h0
def xt (s : ByteArray) (a : Nat) (e : Int) (most : Int) : ByteArray × Int × Int :=
 if e = 0 then (if (rt s a).2.2 = 0 then (if ((rt s a).1.size : Int) > most then ((⟨#[]⟩ : ByteArray), (a : Int), 2) else ((rt s a).1, (rt s a).2.1, 0)) else ((⟨#[]⟩ : ByteArray), (a : Int), (rt s a).2.2)) else ((⟨#[]⟩ : ByteArray), (a : Int), e)
theorem oct_RText (s : ByteArray) (a : Nat) (hs : s.size ≤ 1073741824) (ha : a ≤ s.size) (e most : Int) (k : Nat) (hk : 30 ≤ k) :
  octet_Reader_Text.f k s (a : Int) e most = some ((xt s a e most).1, s, (xt s a e most).2.1, (xt s a e most).2.2) := by
 unfold octet_Reader_Text.f octet_Reader_Err.f xt
 obtain ⟨k, rfl⟩ : ∃ j, k = j + 1 := ⟨k - 1, by omega⟩
 rw [Option.bind_some]
 by_cases he : e = 0
 ·
  rw [if_pos he, if_pos he, oct_ReadText s a hs ha (k + 1) (by omega), Option.bind_some]
  by_cases h0 : (rt s a).2.2 = 0
  ·
   rw [if_pos h0, if_pos h0, octet_Reader_Text.j0]
   by_cases hm : ((rt s a).1.size : Int) > most
   ·
    rw [if_pos (decide_eq_true hm), if_neg (by omega), if_pos hm]
   ·
    rw [if_neg (by simpa using hm), if_pos h0, if_neg hm, he]
  ·
   rw [if_neg h0, if_neg h0, octet_Reader_Text.j0, if_neg (by simp), if_neg h0]
 ·
  rw [if_neg he, if_neg he]
theorem ref_RText (s : ByteArray) (a : Nat) (hs : s.size ≤ 1073741824) (ha : a ≤ s.size) (e most : Int) (k : Nat) (hk : 30 ≤ k) :
  stowageref01_Reader_Text.f k s (a : Int) e most = some (s, (xt s a e most).2.1, (xt s a e most).2.2, (xt s a e most).1) := by
 unfold stowageref01_Reader_Text.f xt
 by_cases he : e = 0
 ·
  rw [if_pos he, if_pos he, ref_ReadText s a hs ha k (by omega), Option.bind_some]
  by_cases h0 : (rt s a).2.2 = 0
  ·
   rw [if_pos h0, if_pos h0]
   by_cases hm : ((rt s a).1.size : Int) > most
   ·
    rw [if_pos hm, if_pos hm]
   ·
    rw [if_neg hm, if_neg hm, he]
  ·
   rw [if_neg h0, if_neg h0]
 ·
  rw [if_neg he, if_neg he]
theorem xt_at (s : ByteArray) (a : Nat) (ha : a ≤ s.size) (e most : Int) (hm : 0 ≤ most) : ((xt s a e most).1.size : Int) ≤ most ∧ ∃ m : Nat, (xt s a e most).2.1 = (m : Int) ∧ a ≤ m ∧ m ≤ s.size := by
 have hz : (((⟨#[]⟩ : ByteArray).size : Nat) : Int) = 0 := rfl
 unfold xt
 by_cases he : e = 0
 ·
  rw [if_pos he]
  by_cases h0 : (rt s a).2.2 = 0
  ·
   rw [if_pos h0]
   by_cases hmm : ((rt s a).1.size : Int) > most
   ·
    rw [if_pos hmm]; exact ⟨by show (((⟨#[]⟩ : ByteArray).size : Nat) : Int) ≤ most; omega, a, rfl, Nat.le_refl _, ha⟩
   ·
    rw [if_neg hmm]; exact ⟨by show ((rt s a).1.size : Int) ≤ most; omega, rt_spec s a h0⟩
  ·
   rw [if_neg h0]; exact ⟨by show (((⟨#[]⟩ : ByteArray).size : Nat) : Int) ≤ most; omega, a, rfl, Nat.le_refl _, ha⟩
 ·
  rw [if_neg he]; exact ⟨by show (((⟨#[]⟩ : ByteArray).size : Nat) : Int) ≤ most; omega, a, rfl, Nat.le_refl _, ha⟩
def by_ (l : List Int) : List UInt8 := l.map fun n => UInt8.ofNat n.toNat
theorem num_by (n : Int) : (num n).data.toList = by_ (nl 9 n) := rfl
theorem bt_head (s : ByteArray) (p : Nat) (b : Int) (h0 : 0 ≤ b) (h1 : b < 256) (rest : List UInt8) (h : s.data.toList.drop p = UInt8.ofNat b.toNat :: rest) : p < s.size ∧ bt s (p : Int) = b ∧ s.data.toList.drop (p + 1) = rest := by
 have hp : p < s.size := by
  rcases Nat.lt_or_ge p s.size with h2 | h2
  ·
   exact h2
  ·
   rw [List.drop_of_length_le (by rw [len_eq]; exact h2)] at h; cases h
 obtain ⟨c, hc, hb⟩ := bt_get s p hp
 rw [hc] at h
 injection h with e1 e2
 refine ⟨hp, ?_, e2⟩
 rw [hb, e1, UInt8.toNat_ofNat']
 omega
theorem rn_back (s : ByteArray) (a : Nat) : ∀ (d i : Nat) (x n : Int) (rest : List UInt8), i + d = 9 → 0 ≤ n → n < 128 ^ (d + 1) → (i = 9 → n ≤ 1) → (0 < i → n ≠ 0) → (8 < i → n < 128) → n * 128 ^ i ≤ 18446744073709551615 → s.data.toList.drop (a + i) = by_ (nl d n) ++ rest →
  rn s a (d + 1) i x = (x + n * 128 ^ i, ((a + i + (nl d n).length : Nat) : Int), 0) := by
 intro d
 induction d with
 | zero =>
  intro i x n rest hi h0 h1 h9 hz h8 hm h
  have h1' : n < 128 := by simpa using h1
  rw [nl] at h ⊢
  obtain ⟨hp, hb, _⟩ := bt_head s (a + i) n h0 (by omega) rest h
  rw [rn, hb, if_neg (by omega), if_neg (by omega), if_pos h1', Int.emod_eq_of_lt h0 h1']
  rfl
 | succ d ih =>
  intro i x n rest hi h0 h1 h9 hz h8 hm h
  by_cases h128 : n < 128
  ·
   have e1 : nl (d + 1) n = [n] := by rw [nl, if_pos h128]
   rw [e1] at h ⊢
   obtain ⟨hp, hb, _⟩ := bt_head s (a + i) n h0 (by omega) rest h
   rw [rn, hb, if_neg (by omega), if_neg (by omega), if_pos h128, Int.emod_eq_of_lt h0 h128]
   rfl
  ·
   have e1 : nl (d + 1) n = (n % 128 + 128) :: nl d (n / 128) := by rw [nl, if_neg h128]
   rw [e1] at h ⊢
   obtain ⟨hp, hb, ht⟩ := bt_head s (a + i) (n % 128 + 128) (by omega) (by omega) (by_ (nl d (n / 128)) ++ rest) h
   have hpow : (128 : Int) ^ (i + 1) = 128 ^ i * 128 := Int.pow_succ _ _
   have hpi : (0 : Int) < 128 ^ i := Int.pow_pos (by omega)
   have hsum : n % 128 * 128 ^ i + n / 128 * 128 ^ (i + 1) = n * 128 ^ i := by
    rw [hpow, Int.mul_comm (128 ^ i) 128, ← Int.mul_assoc, ← Int.add_mul]
    congr 1
    omega
   have hle : n / 128 * 128 ^ (i + 1) ≤ 18446744073709551615 := by
    have : 0 ≤ n % 128 * 128 ^ i := Int.mul_nonneg (by omega) (by omega)
    omega
   rw [rn, hb, if_neg (by omega), if_neg (by omega), if_neg (by omega), show (n % 128 + 128) % 128 = n % 128 by omega]
   rw [ih (i + 1) _ (n / 128) rest (by omega) (by omega) (Int.ediv_lt_of_lt_mul (by omega) (by rw [← Int.pow_succ]; exact h1)) ?_ (by omega) ?_ hle (by rw [← Nat.add_assoc]; exact ht)]
   ·
    rw [Int.add_assoc, hsum]
    congr 2
    simp only [List.length_cons]; omega
   ·
    intro hi9
    obtain rfl : i = 8 := by omega
    have h3 : (128 : Int) ^ (8 + 1) = 9223372036854775808 := by decide
    rw [h3] at hle
    omega
   ·
    intro h8'
    have hi8 : i = 8 := by omega
    subst hi8
    have h3 : (128 : Int) ^ (8 + 1) = 9223372036854775808 := by decide
    rw [h3] at hle
    omega
theorem rd0_back (s : ByteArray) (a : Nat) (n : Int) (rest : List UInt8) (h0 : 0 ≤ n) (h1 : n ≤ 18446744073709551615) (h : s.data.toList.drop a = (num n).data.toList ++ rest) : rd0 s a = (n, ((a + (num n).size : Nat) : Int), 0) := by
 unfold rd0
 rw [rn_back s a 9 0 0 n rest rfl h0 (by omega) (by omega) (by omega) (by omega) (by omega) (by rw [Nat.add_zero]; exact h)]
 have : (num n).size = (nl 9 n).length := strOfNums_size _
 rw [this]
 simp
theorem rn_only (s : ByteArray) (a : Nat) : ∀ (d i : Nat) (x : Int), (rn s a (d + 1) i x).2.2 = 0 → ∃ (n : Int) (m : Nat), 0 ≤ n ∧ (0 < i → n ≠ 0) ∧ (rn s a (d + 1) i x).1 = x + n * 128 ^ i ∧ (rn s a (d + 1) i x).2.1 = (m : Int) ∧ m ≤ s.size ∧ m = a + i + (nl d n).length ∧ s.data.toList.drop (a + i) = by_ (nl d n) ++ s.data.toList.drop m := by
 intro d
 induction d with
 | zero =>
  intro i x h
  rw [rn] at h ⊢
  split at h
  ·
   simp at h
  ·
   rename_i he
   obtain ⟨c, hc, hb⟩ := bt_get s (a + i) (by omega)
   have hc8 := UInt8.toNat_lt c
   split at h
   ·
    simp at h
   ·
    rename_i hq
    split at h
    ·
     rename_i hlt
     rw [if_neg he, if_neg hq, if_pos hlt]
     rw [hb] at hq hlt ⊢
     refine ⟨(c.toNat : Int), a + i + 1, by omega, by omega, by rw [Int.emod_eq_of_lt (by omega) hlt], rfl, by omega, rfl, ?_⟩
     rw [hc]
     show _ = UInt8.ofNat (c.toNat : Int).toNat :: _
     rw [Int.toNat_natCast, UInt8.ofNat_toNat]
     rfl
    ·
     rw [rn] at h; simp at h
 | succ d ih =>
  intro i x h
  rw [rn] at h ⊢
  split at h
  ·
   simp at h
  ·
   rename_i he
   obtain ⟨c, hc, hb⟩ := bt_get s (a + i) (by omega)
   have hc8 := UInt8.toNat_lt c
   split at h
   ·
    simp at h
   ·
    rename_i hq
    split at h
    ·
     rename_i hlt
     rw [if_neg he, if_neg hq, if_pos hlt]
     rw [hb] at hq hlt ⊢
     refine ⟨(c.toNat : Int), a + i + 1, by omega, by omega, by rw [Int.emod_eq_of_lt (by omega) hlt], rfl, by omega, by rw [nl, if_pos hlt]; rfl, ?_⟩
     rw [hc, nl, if_pos hlt]
     show _ = UInt8.ofNat (c.toNat : Int).toNat :: _
     rw [Int.toNat_natCast, UInt8.ofNat_toNat]
     rfl
    ·
     rename_i hlt
     rw [if_neg he, if_neg hq, if_neg hlt]
     obtain ⟨n, m, g0, g1, g2, g3, g4, g5, g6⟩ := ih (i + 1) _ h
     rw [g2, g3]
     rw [hb] at hq hlt ⊢
     have hn1 : n ≠ 0 := g1 (by omega)
     have hge : ¬ (((c.toNat : Int) % 128 + 128 * n) < 128) := by omega
     have hnl : nl (d + 1) ((c.toNat : Int) % 128 + 128 * n) = (c.toNat : Int) :: nl d n := by
      rw [nl, if_neg hge, show ((c.toNat : Int) % 128 + 128 * n) % 128 + 128 = (c.toNat : Int) by omega, show ((c.toNat : Int) % 128 + 128 * n) / 128 = n by omega]
     refine ⟨(c.toNat : Int) % 128 + 128 * n, m, by omega, by omega, ?_, rfl, g4, by rw [hnl, List.length_cons]; omega, ?_⟩
     ·
      have hpow : (128 : Int) ^ (i + 1) = 128 ^ i * 128 := Int.pow_succ _ _
      rw [hpow, Int.mul_comm (128 ^ i) 128, ← Int.mul_assoc, Int.mul_comm n 128, Int.add_assoc, ← Int.add_mul]
     ·
      rw [hc, hnl]
      show _ = UInt8.ofNat (c.toNat : Int).toNat :: _
      rw [Int.toNat_natCast, UInt8.ofNat_toNat]
      show c :: _ = c :: (by_ (nl d n) ++ _)
      rw [← g6, Nat.add_assoc]
theorem rd0_only (s : ByteArray) (a : Nat) (h : (rd0 s a).2.2 = 0) : ∃ m : Nat, (rd0 s a).2.1 = (m : Int) ∧ m ≤ s.size ∧ m = a + (num (rd0 s a).1).size ∧ s.data.toList.drop a = (num (rd0 s a).1).data.toList ++ s.data.toList.drop m := by
 obtain ⟨n, m, g0, g1, g2, g3, g4, g5, g6⟩ := rn_only s a 9 0 0 h
 have e1 : (rd0 s a).1 = n := by
  show (rn s a 10 0 0).1 = n
  rw [g2]; simp
 have hsz : (num n).size = (nl 9 n).length := strOfNums_size _
 rw [e1]
 refine ⟨m, g3, g4, by rw [hsz]; omega, ?_⟩
 rw [num_by]
 simpa using g6
theorem extract_list (s : ByteArray) (i j : Nat) : (s.extract i j).data.toList = (s.data.toList.drop i).take (j - i) := by
 rw [ByteArray.data_extract, Array.toList_extract, List.extract_eq_take_drop]
theorem txt_list (t : ByteArray) : (txt t).data.toList = (num (t.size : Int)).data.toList ++ t.data.toList := by
 unfold txt
 rw [ByteArray.data_append, Array.toList_append]
theorem drop_add (s : ByteArray) (a : Nat) (p q : List UInt8) (h : s.data.toList.drop a = p ++ q) : s.data.toList.drop (a + p.length) = q := by
 rw [← List.drop_drop, h, List.drop_left]
set_option maxRecDepth 100000 in
theorem rt_back (s t : ByteArray) (a : Nat) (rest : List UInt8) (ht : t.size ≤ 1073741824) (h : s.data.toList.drop a = (txt t).data.toList ++ rest) : rt s a = (t, ((a + (txt t).size : Nat) : Int), 0) := by
 rw [txt_list, List.append_assoc] at h
 have h1 := rd0_back s a (t.size : Int) _ (by omega) (by omega) h
 have h2 := drop_add s a _ _ h
 rw [len_eq] at h2
 have h3 : a + (num (t.size : Int)).size + t.size ≤ s.size := by
  have := congrArg List.length h2
  rw [List.length_drop, List.length_append, len_eq, len_eq] at this
  by_cases h0 : t.size = 0
  ·
   have h4 := congrArg List.length h
   rw [List.length_drop, List.length_append, len_eq, len_eq] at h4
   have h5 : 0 < (num (t.size : Int)).size := by
    have : (num (t.size : Int)).size = (nl 9 (t.size : Int)).length := strOfNums_size _
    rw [this, nl]
    split <;> simp
   omega
  ·
   omega
 have hts : (txt t).size = (num (t.size : Int)).size + t.size := ByteArray.size_append ..
 unfold rt
 rw [h1]
 rw [if_pos rfl, if_neg (by show ¬ ((t.size : Int) > (s.size : Int) - ((a + (num (t.size : Int)).size : Nat) : Int)); omega)]
 show (s.extract ((a + (num (t.size : Int)).size : Nat) : Int).toNat (((a + (num (t.size : Int)).size : Nat) : Int) + (t.size : Int)).toNat, ((a + (num (t.size : Int)).size : Nat) : Int) + (t.size : Int), (0 : Int)) = _
 have e2 : s.extract ((a + (num (t.size : Int)).size : Nat) : Int).toNat (((a + (num (t.size : Int)).size : Nat) : Int) + (t.size : Int)).toNat = t := by
  apply ByteArray.ext
  apply Array.ext'
  rw [extract_list, Int.toNat_natCast, h2, show (((a + (num (t.size : Int)).size : Nat) : Int) + (t.size : Int)).toNat - (a + (num (t.size : Int)).size) = t.data.toList.length by rw [len_eq]; omega, List.take_left]
 rw [e2, hts]
 congr 2
 omega
theorem rt_only (s : ByteArray) (a : Nat) (h : (rt s a).2.2 = 0) : ∃ m : Nat, (rt s a).2.1 = (m : Int) ∧ m ≤ s.size ∧ s.data.toList.drop a = (txt (rt s a).1).data.toList ++ s.data.toList.drop m := by
 unfold rt at h ⊢
 by_cases h0 : (rd0 s a).2.2 = 0
 ·
  rw [if_pos h0] at h ⊢
  obtain ⟨m, g1, g2, g3, g4⟩ := rd0_only s a h0
  have hsp := rd0_spec s a h0
  rw [g1] at h ⊢
  by_cases hm : (rd0 s a).1 > (s.size : Int) - (m : Int)
  ·
   rw [if_pos hm] at h; simp at h
  ·
   rw [if_neg hm] at h ⊢
   have hz : (s.extract (m : Int).toNat ((m : Int) + (rd0 s a).1).toNat).data.toList = (s.data.toList.drop m).take (rd0 s a).1.toNat := by
    rw [extract_list, Int.toNat_natCast]
    congr 1
    omega
   have hsz : (((s.extract (m : Int).toNat ((m : Int) + (rd0 s a).1).toNat).size : Nat) : Int) = (rd0 s a).1 := by
    have := congrArg List.length hz
    rw [len_eq, List.length_take, List.length_drop, len_eq] at this
    omega
   refine ⟨m + (rd0 s a).1.toNat, by show (m : Int) + (rd0 s a).1 = _; omega, by omega, ?_⟩
   show _ = (txt (s.extract (m : Int).toNat ((m : Int) + (rd0 s a).1).toNat)).data.toList ++ _
   rw [txt_list, hsz, hz, g4, List.append_assoc]
   congr 1
   rw [← List.drop_drop, List.take_append_drop]
 ·
  rw [if_neg h0] at h
  exact absurd h h0
theorem xt_back (s t : ByteArray) (a : Nat) (most : Int) (rest : List UInt8) (ht : t.size ≤ 1073741824) (hm : (t.size : Int) ≤ most) (h : s.data.toList.drop a = (txt t).data.toList ++ rest) : xt s a 0 most = (t, ((a + (txt t).size : Nat) : Int), 0) := by
 unfold xt
 rw [rt_back s t a rest ht h, if_pos rfl, if_pos rfl, if_neg (by show ¬ ((t.size : Int) > most); omega)]
theorem xn_back (s : ByteArray) (a : Nat) (n most : Int) (rest : List UInt8) (h0 : 0 ≤ n) (h1 : n ≤ 18446744073709551615) (hm : n ≤ most) (h : s.data.toList.drop a = (num n).data.toList ++ rest) : xn s a 0 most = (n, ((a + (num n).size : Nat) : Int), 0) := by
 unfold xn
 rw [rd0_back s a n rest h0 h1 h, if_pos rfl, if_pos rfl, if_neg (by show ¬ (n > most); omega)]
theorem size_le (s : ByteArray) (a : Nat) (p q : List UInt8) (hp : 0 < p.length) (h : s.data.toList.drop a = p ++ q) : a + p.length ≤ s.size := by
 have := congrArg List.length h
 rw [List.length_drop, List.length_append, len_eq] at this
 omega
theorem num_pos (n : Int) : 0 < (num n).data.toList.length := by
 rw [len_eq, show (num n).size = (nl 9 n).length from strOfNums_size _, nl]
 split <;> simp
theorem txt_pos (t : ByteArray) : 0 < (txt t).data.toList.length := by
 rw [txt_list, List.length_append]
 have := num_pos (t.size : Int)
 omega
theorem xn_e (s : ByteArray) (a : Nat) (e most : Int) (h : (xn s a e most).2.2 = 0) : e = 0 ∧ ∃ m : Nat, (xn s a e most).2.1 = (m : Int) ∧ m ≤ s.size ∧ s.data.toList.drop a = (num (xn s a e most).1).data.toList ++ s.data.toList.drop m := by
 unfold xn at h ⊢
 by_cases he : e = 0
 ·
  rw [if_pos he] at h ⊢
  by_cases h0 : (rd0 s a).2.2 = 0
  ·
   rw [if_pos h0] at h ⊢
   by_cases hm : (rd0 s a).1 > most
   ·
    rw [if_pos hm] at h; simp at h
   ·
    rw [if_neg hm]
    obtain ⟨m, g1, g2, g3, g4⟩ := rd0_only s a h0
    exact ⟨he, m, g1, g2, g4⟩
  ·
   rw [if_neg h0] at h; exact absurd h h0
 ·
  rw [if_neg he] at h; exact absurd h he
theorem xt_e (s : ByteArray) (a : Nat) (e most : Int) (h : (xt s a e most).2.2 = 0) : e = 0 ∧ ∃ m : Nat, (xt s a e most).2.1 = (m : Int) ∧ m ≤ s.size ∧ s.data.toList.drop a = (txt (xt s a e most).1).data.toList ++ s.data.toList.drop m := by
 unfold xt at h ⊢
 by_cases he : e = 0
 ·
  rw [if_pos he] at h ⊢
  by_cases h0 : (rt s a).2.2 = 0
  ·
   rw [if_pos h0] at h ⊢
   by_cases hm : ((rt s a).1.size : Int) > most
   ·
    rw [if_pos hm] at h; simp at h
   ·
    rw [if_neg hm]
    obtain ⟨m, g1, g2, g4⟩ := rt_only s a h0
    exact ⟨he, m, g1, g2, g4⟩
  ·
   rw [if_neg h0] at h; exact absurd h h0
 ·
  rw [if_neg he] at h; exact absurd h he
end Go.Proofs.YtoiockmmlanimaaDoor.Pure
end
