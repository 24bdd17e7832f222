/- Merged of several texts of this session's by merge.py. -/
import Derived.Test.YtdidopoalmkhlaaDoorMb3
import Derived.Test.YtdidopoalmkhlaaDoorMb5
import Derived.Test.YtdidopoalmkhlaaDoorMb6
import Derived.Lib.Hide
import Derived.IntWalk
import Derived.Deep.QuietTactic
import Derived.BigQuiet
import Derived.OwnWalk
import Derived.Test.YtdidopoalmkhlaaDoorMb4
import Derived.Laws.Bits64b
import Derived.Lib.IndexMore
section
namespace Go.Proofs.YtdidopoalmkhlaaDoor.Ob
open Go.RowKit Go.Proofs.YtdidopoalmkhlaaDoorW.PrintWords Go.Proofs.YtdidopoalmkhlaaDoorW.PrintLast Go.Proofs.YtdidopoalmkhlaaDoorW.PrintMore
attribute [local go_sem] max2_int min2_int max_two min_two max_three min_three max_four min_four
set_option linter.unusedVariables false
set_option linter.unusedSimpArgs false
def cmd_Decode_txt (k : Nat) (b : Bool) (s : ByteArray) (a e most : Int) : Option (ByteArray × ByteArray × Int × Int) := if b = true then some (⟨#[]⟩, s, a, e) else octet_Reader_Text.f k s a e most
def cmd_Decode_num (k : Nat) (b : Bool) (s : ByteArray) (a e most : Int) : Option (Int × ByteArray × Int × Int) := if b = true then some (0, s, a, e) else octet_Reader_Int.f k s a e most
theorem cmd_Decode_d1 (k gf gr g : Nat) (f bit most : Int) (s : ByteArray) (a e : Int) (r1 : ByteArray) (r2 : ByteArray) (r3 r4 : Int) (w0 W : World) (hB : Below w0.heap.size w0 W) (hI : IsS119 w0 W g s a e) (hf : W.heap[gf]? = some (.cells #[.int .i64 f] 3 (0, 0))) (hr : W.heap[gr]? = some (.cells #[.pointer (some ⟨g, 0, none⟩)] 76 (0, 0))) (h : cmd_Decode_txt k (Go.bits .and .i64 f bit == 0) s a e most = some (r1, r2, r3, r4)) :
  Calls Tryd.prog 48 #[.int .i64 bit, .int .i64 most, .pointer (some ⟨gf, 0, none⟩), .pointer (some ⟨gr, 0, none⟩)] W fun z W' => z = .returned (.string r1) ∧ IsS119 w0 W' g r2 r3 r4 ∧ Below w0.heap.size w0 W' ∧ KeepBut W W' g none := by
 have HI := am hI
 have HB := am hB
 obtain ⟨cf, ff⟩ := cz1 hf
 obtain ⟨cr, fr⟩ := cz1 hr
 clear hf hr hB hI
 unfold cmd_Decode_txt at h
 by_cases hb : (Go.bits .and .i64 f bit == 0) = true
 ·
  rw [if_pos hb] at h
  cases h
  go_enter Tryd.func48, Tryd.ntmps48
  go_wp2
  go_ret
  exact ⟨rfl, HI.out, HB.out, KeepBut.refl _ _ _⟩
 ·
  rw [if_neg hb] at h
  replace hb := Bool.eq_false_iff.mpr hb
  have HA := am h
  clear h
  go_enter Tryd.func48, Tryd.ntmps48
  go_wp2_with (go_at_call 49; (with_reducible refine (octet_Reader_Text.calls k g s a e most r1 r2 r3 r4 w0 _ HI.out HB.out HA.out).mono ?_); rintro z w1 ⟨rfl, hi, hbb, hk⟩; have HR := am (And.intro hi (And.intro hbb hk)); clear hi hbb hk)
  go_ret
  exact ⟨rfl, HR.out⟩
theorem cmd_Decode_d2 (k gf gr g : Nat) (f bit most : Int) (s : ByteArray) (a e : Int) (r1 : Int) (r2 : ByteArray) (r3 r4 : Int) (w0 W : World) (hB : Below w0.heap.size w0 W) (hI : IsS119 w0 W g s a e) (hf : W.heap[gf]? = some (.cells #[.int .i64 f] 3 (0, 0))) (hr : W.heap[gr]? = some (.cells #[.pointer (some ⟨g, 0, none⟩)] 76 (0, 0))) (h : cmd_Decode_num k (Go.bits .and .i64 f bit == 0) s a e most = some (r1, r2, r3, r4)) :
  Calls Tryd.prog 50 #[.int .i64 bit, .int .i64 most, .pointer (some ⟨gf, 0, none⟩), .pointer (some ⟨gr, 0, none⟩)] W fun z W' => z = .returned (.int .i64 r1) ∧ IsS119 w0 W' g r2 r3 r4 ∧ Below w0.heap.size w0 W' ∧ KeepBut W W' g none := by
 have HI := am hI
 have HB := am hB
 obtain ⟨cf, ff⟩ := cz1 hf
 obtain ⟨cr, fr⟩ := cz1 hr
 clear hf hr hB hI
 unfold cmd_Decode_num at h
 by_cases hb : (Go.bits .and .i64 f bit == 0) = true
 ·
  rw [if_pos hb] at h
  cases h
  go_enter Tryd.func50, Tryd.ntmps50
  go_wp2
  go_ret
  exact ⟨rfl, HI.out, HB.out, KeepBut.refl _ _ _⟩
 ·
  rw [if_neg hb] at h
  replace hb := Bool.eq_false_iff.mpr hb
  have HA := am h
  clear h
  go_enter Tryd.func50, Tryd.ntmps50
  go_wp2_with (go_at_call 47; (with_reducible refine (octet_Reader_Int.calls k g s a e most r1 r2 r3 r4 w0 _ HI.out HB.out HA.out).mono ?_); rintro z w1 ⟨rfl, hi, hbb, hk⟩; have HR := am (And.intro hi (And.intro hbb hk)); clear hi hbb hk)
  go_ret
  exact ⟨rfl, HR.out⟩
-- MAIN
def cmd_Decode_l0 (k : Nat) : Nat → ByteArray → Int → Int → List (S82) → Option (ByteArray × Int × Int × List (S82))
 | 0, s, a, e, acc => some (s, a, e, acc)
 | n + 1, s, a, e, acc => (octet_Reader_Text.f k s a e 64).bind fun t => (octet_Reader_Int.f k t.2.1 t.2.2.1 t.2.2.2 4096).bind fun m => if acc.length < 5864062014805 then cmd_Decode_l0 k n m.2.1 m.2.2.1 m.2.2.2 (acc ++ [⟨t.1, m.1⟩]) else none
def cmd_Decode_l1 (k : Nat) : Nat → ByteArray → Int → Int → List (S62) → Option (ByteArray × Int × Int × List (S62))
 | 0, s, a, e, acc => some (s, a, e, acc)
 | n + 1, s, a, e, acc => (octet_Reader_Int.f k s a e 100).bind fun m => (octet_Reader_Text.f k m.2.1 m.2.2.1 m.2.2.2 64).bind fun t => if acc.length < 5864062014805 then cmd_Decode_l1 k n t.2.1 t.2.2.1 t.2.2.2 (acc ++ [⟨m.1, t.1⟩]) else none
abbrev cmd_Decode_Res := Int × ByteArray × ByteArray × ByteArray × Int × Int × ByteArray × List (S82) × List (S62) × Int
def cmd_Decode_none : cmd_Decode_Res := (0, ⟨#[]⟩, ⟨#[]⟩, ⟨#[]⟩, 0, 0, ⟨#[]⟩, [], [], 3)
def cmd_Decode.f (k : Nat) (a0 : ByteArray) : Option cmd_Decode_Res :=
 (octet_NewReader.f a0).bind fun b0 => (octet_Reader_Int.f k b0.1 b0.2.1 b0.2.2 10).bind fun b1 => (cmd_fields.f k b1.1).bind fun f => (cmd_Decode_txt k (Go.bits .and .i64 f 1 == 0) b1.2.1 b1.2.2.1 b1.2.2.2 64).bind fun b2 => (cmd_Decode_txt k (Go.bits .and .i64 f 2 == 0) b2.2.1 b2.2.2.1 b2.2.2.2 63).bind fun b3 => (cmd_Decode_txt k (Go.bits .and .i64 f 4 == 0) b3.2.1 b3.2.2.1 b3.2.2.2 1024).bind fun b4 => (cmd_Decode_num k (Go.bits .and .i64 f 8 == 0) b4.2.1 b4.2.2.1 b4.2.2.2 1099511627776).bind fun b5 => (cmd_Decode_num k (Go.bits .and .i64 f 16 == 0) b5.2.1 b5.2.2.1 b5.2.2.2 100).bind fun b6 => (cmd_Decode_txt k (Go.bits .and .i64 f 32 == 0) b6.2.1 b6.2.2.1 b6.2.2.2 64).bind fun b7 => (cmd_Decode_num k (Go.bits .and .i64 f 64 == 0) b7.2.1 b7.2.2.1 b7.2.2.2 512).bind fun b8 => (if b8.1 ≤ 512 then cmd_Decode_l0 k b8.1.toNat b8.2.1 b8.2.2.1 b8.2.2.2 [] else none).bind fun b9 => (cmd_Decode_num k (Go.bits .and .i64 f 128 == 0) b9.1 b9.2.1 b9.2.2.1 100).bind fun b10 => (if b10.1 ≤ 100 then cmd_Decode_l1 k b10.1.toNat b10.2.1 b10.2.2.1 b10.2.2.2 [] else none).bind fun b11 => (octet_Reader_End.f b11.1 b11.2.1 b11.2.2.1).bind fun b12 => if b12.1 = 0 then ((cmd_Check.f k b1.1 b2.1 b3.1 b4.1 b5.1 b6.1 b7.1 b9.2.2.2 b11.2.2.2).bind fun c => if c = 0 then some (b1.1, b2.1, b3.1, b4.1, b5.1, b6.1, b7.1, b9.2.2.2, b11.2.2.2, 0) else some cmd_Decode_none) else some cmd_Decode_none
theorem cmd_Decode_txt_mono (k : Nat) (b : Bool) (s : ByteArray) (a e m : Int) : LeO (cmd_Decode_txt k b s a e m) (cmd_Decode_txt (k + 1) b s a e m) := by
 unfold cmd_Decode_txt
 exact LeO.ite (LeO.refl _) (octet_Reader_Text.mono _ _ _ _ _)
theorem cmd_Decode_num_mono (k : Nat) (b : Bool) (s : ByteArray) (a e m : Int) : LeO (cmd_Decode_num k b s a e m) (cmd_Decode_num (k + 1) b s a e m) := by
 unfold cmd_Decode_num
 exact LeO.ite (LeO.refl _) (octet_Reader_Int.mono _ _ _ _ _)
theorem cmd_Decode_l0_mono (k : Nat) : ∀ n s a e l, LeO (cmd_Decode_l0 k n s a e l) (cmd_Decode_l0 (k + 1) n s a e l)
 | 0, _, _, _, _ => LeO.refl _
 | n + 1, s, a, e, l => by
  rw [cmd_Decode_l0, cmd_Decode_l0]
  exact LeO.bind (octet_Reader_Text.mono _ _ _ _ _) fun _ => LeO.bind (octet_Reader_Int.mono _ _ _ _ _) fun _ => LeO.ite (cmd_Decode_l0_mono k n _ _ _ _) (LeO.refl _)
theorem cmd_Decode_l1_mono (k : Nat) : ∀ n s a e l, LeO (cmd_Decode_l1 k n s a e l) (cmd_Decode_l1 (k + 1) n s a e l)
 | 0, _, _, _, _ => LeO.refl _
 | n + 1, s, a, e, l => by
  rw [cmd_Decode_l1, cmd_Decode_l1]
  exact LeO.bind (octet_Reader_Int.mono _ _ _ _ _) fun _ => LeO.bind (octet_Reader_Text.mono _ _ _ _ _) fun _ => LeO.ite (cmd_Decode_l1_mono k n _ _ _ _) (LeO.refl _)
theorem cmd_Decode.mono : ∀ a0 k, LeO (cmd_Decode.f k a0) (cmd_Decode.f (k + 1) a0) := by
 intro a0 k
 unfold cmd_Decode.f
 repeat' (with_reducible first | exact octet_Reader_Int.mono _ _ _ _ _ | exact cmd_fields.mono _ _ | exact cmd_Check.mono _ _ _ _ _ _ _ _ _ _ | exact cmd_Decode_txt_mono _ _ _ _ _ _ | exact cmd_Decode_num_mono _ _ _ _ _ _ | exact cmd_Decode_l0_mono _ _ _ _ _ _ | exact cmd_Decode_l1_mono _ _ _ _ _ _ | exact LeO.refl _ | refine LeO.ite ?_ ?_ | refine LeO.bind ?_ (fun _ => ?_))
set_option maxHeartbeats 1000000 in
theorem cmd_Decode_all9 {W : World} {g t : Nat} {a0 a1 a2 a3 a4 a5 a6 a7 a8 : Value} (h : W.heap[g]? = some (.cells #[a0, a1, a2, a3, a4, a5, a6, a7, a8] t (0, 0))) (u0 u1 u2 u3 u4 u5 u6 u7 u8 : Value) :
  (((((((((W.setCell ⟨g, 0, none⟩ u0).setCell ⟨g, 1, none⟩ u1).setCell ⟨g, 2, none⟩ u2).setCell ⟨g, 3, none⟩ u3).setCell ⟨g, 4, none⟩ u4).setCell ⟨g, 5, none⟩ u5).setCell ⟨g, 6, none⟩ u6).setCell ⟨g, 7, none⟩ u7).setCell ⟨g, 8, none⟩ u8).heap[g]? = some (.cells #[u0, u1, u2, u3, u4, u5, u6, u7, u8] t (0, 0)) ∧ (∀ g', g' ≠ g → (((((((((W.setCell ⟨g, 0, none⟩ u0).setCell ⟨g, 1, none⟩ u1).setCell ⟨g, 2, none⟩ u2).setCell ⟨g, 3, none⟩ u3).setCell ⟨g, 4, none⟩ u4).setCell ⟨g, 5, none⟩ u5).setCell ⟨g, 6, none⟩ u6).setCell ⟨g, 7, none⟩ u7).setCell ⟨g, 8, none⟩ u8).heap[g']? = W.heap[g']?) ∧ ∀ w : World, Below w.heap.size w W → w.heap.size ≤ g → Below w.heap.size w (((((((((W.setCell ⟨g, 0, none⟩ u0).setCell ⟨g, 1, none⟩ u1).setCell ⟨g, 2, none⟩ u2).setCell ⟨g, 3, none⟩ u3).setCell ⟨g, 4, none⟩ u4).setCell ⟨g, 5, none⟩ u5).setCell ⟨g, 6, none⟩ u6).setCell ⟨g, 7, none⟩ u7).setCell ⟨g, 8, none⟩ u8) := by
 have b0 := blk_put (cs' := #[u0, a1, a2, a3, a4, a5, a6, a7, a8]) h 0 u0 rfl
 have b1 := blk_put (cs' := #[u0, u1, a2, a3, a4, a5, a6, a7, a8]) b0 1 u1 rfl
 have b2 := blk_put (cs' := #[u0, u1, u2, a3, a4, a5, a6, a7, a8]) b1 2 u2 rfl
 have b3 := blk_put (cs' := #[u0, u1, u2, u3, a4, a5, a6, a7, a8]) b2 3 u3 rfl
 have b4 := blk_put (cs' := #[u0, u1, u2, u3, u4, a5, a6, a7, a8]) b3 4 u4 rfl
 have b5 := blk_put (cs' := #[u0, u1, u2, u3, u4, u5, a6, a7, a8]) b4 5 u5 rfl
 have b6 := blk_put (cs' := #[u0, u1, u2, u3, u4, u5, u6, a7, a8]) b5 6 u6 rfl
 have b7 := blk_put (cs' := #[u0, u1, u2, u3, u4, u5, u6, u7, a8]) b6 7 u7 rfl
 have b8 := blk_put (cs' := #[u0, u1, u2, u3, u4, u5, u6, u7, u8]) b7 8 u8 rfl
 refine ⟨b8, ?_, ?_⟩
 ·
  intro g' hg'
  exact (Below.heap_setCell ((((((((W.setCell ⟨g, 0, none⟩ u0).setCell ⟨g, 1, none⟩ u1).setCell ⟨g, 2, none⟩ u2).setCell ⟨g, 3, none⟩ u3).setCell ⟨g, 4, none⟩ u4).setCell ⟨g, 5, none⟩ u5).setCell ⟨g, 6, none⟩ u6).setCell ⟨g, 7, none⟩ u7) ⟨g, 8, none⟩ u8 g' hg').trans ((Below.heap_setCell (((((((W.setCell ⟨g, 0, none⟩ u0).setCell ⟨g, 1, none⟩ u1).setCell ⟨g, 2, none⟩ u2).setCell ⟨g, 3, none⟩ u3).setCell ⟨g, 4, none⟩ u4).setCell ⟨g, 5, none⟩ u5).setCell ⟨g, 6, none⟩ u6) ⟨g, 7, none⟩ u7 g' hg').trans ((Below.heap_setCell ((((((W.setCell ⟨g, 0, none⟩ u0).setCell ⟨g, 1, none⟩ u1).setCell ⟨g, 2, none⟩ u2).setCell ⟨g, 3, none⟩ u3).setCell ⟨g, 4, none⟩ u4).setCell ⟨g, 5, none⟩ u5) ⟨g, 6, none⟩ u6 g' hg').trans ((Below.heap_setCell (((((W.setCell ⟨g, 0, none⟩ u0).setCell ⟨g, 1, none⟩ u1).setCell ⟨g, 2, none⟩ u2).setCell ⟨g, 3, none⟩ u3).setCell ⟨g, 4, none⟩ u4) ⟨g, 5, none⟩ u5 g' hg').trans ((Below.heap_setCell ((((W.setCell ⟨g, 0, none⟩ u0).setCell ⟨g, 1, none⟩ u1).setCell ⟨g, 2, none⟩ u2).setCell ⟨g, 3, none⟩ u3) ⟨g, 4, none⟩ u4 g' hg').trans ((Below.heap_setCell (((W.setCell ⟨g, 0, none⟩ u0).setCell ⟨g, 1, none⟩ u1).setCell ⟨g, 2, none⟩ u2) ⟨g, 3, none⟩ u3 g' hg').trans ((Below.heap_setCell ((W.setCell ⟨g, 0, none⟩ u0).setCell ⟨g, 1, none⟩ u1) ⟨g, 2, none⟩ u2 g' hg').trans ((Below.heap_setCell (W.setCell ⟨g, 0, none⟩ u0) ⟨g, 1, none⟩ u1 g' hg').trans (Below.heap_setCell W ⟨g, 0, none⟩ u0 g' hg'))))))))
 ·
  exact fun w hb hl => (below_set (below_set (below_set (below_set (below_set (below_set (below_set (below_set (below_set hb hl) hl) hl) hl) hl) hl) hl) hl) hl)
structure cmd_Decode_D (w : World) (gz gr gc gf g : Nat) (f : Int) (CS : Array Value) (s : ByteArray) (a e : Int) (W : World) : Prop where
 z : W.heap[gz]? = some (.cells #[.int .i64 0, .string ⟨#[]⟩, .string ⟨#[]⟩, .string ⟨#[]⟩, .int .i64 0, .int .i64 0, .string ⟨#[]⟩, .slice none 0 0, .slice none 0 0] 25 (0, 0))
 r : W.heap[gr]? = some (.cells #[.pointer (some ⟨g, 0, none⟩)] 76 (0, 0))
 c : W.heap[gc]? = some (.cells CS 25 (0, 0))
 f : W.heap[gf]? = some (.cells #[.int .i64 f] 3 (0, 0))
 i : IsS119 w W g s a e
 b : Below w.heap.size w W
 lz : w.heap.size ≤ gz
 lc : w.heap.size ≤ gc
 nzc : gz ≠ gc
theorem cmd_Decode_D.step {w W : World} {gz gr gc gf g : Nat} {f : Int} {CS : Array Value} {s : ByteArray} {a e : Int} (h : cmd_Decode_D w gz gr gc gf g f CS s a e W) {W' : World} {s' : ByteArray} {a' e' : Int} (hi : IsS119 w W' g s' a' e') (hb : Below w.heap.size w W') (hk : KeepBut W W' g none) : cmd_Decode_D w gz gr gc gf g f CS s' a' e' W' :=
 ⟨hk.blk h.z (blk_ne h.z h.i.1 (by decide)) (by simp), hk.blk h.r (blk_ne h.r h.i.1 (by decide)) (by simp), hk.blk h.c (blk_ne h.c h.i.1 (by decide)) (by simp), hk.blk h.f (blk_ne h.f h.i.1 (by decide)) (by simp), hi, hb, h.lz, h.lc, h.nzc⟩
theorem cmd_Decode_D.put {w W : World} {gz gr gc gf g : Nat} {f : Int} {CS : Array Value} {s : ByteArray} {a e : Int} (h : cmd_Decode_D w gz gr gc gf g f CS s a e W) {CS' : Array Value} (i : Nat) (u : Value) (q : CS.setIfInBounds i u = CS') : cmd_Decode_D w gz gr gc gf g f CS' s a e (W.setCell ⟨gc, i, none⟩ u) :=
 ⟨blk_far h.z h.nzc _, blk_far h.r (blk_ne h.r h.c (by decide)) _, blk_put h.c i u q, blk_far h.f (blk_ne h.f h.c (by decide)) _, ⟨blk_far h.i.1 (blk_ne h.i.1 h.c (by decide)) _, h.i.2⟩, below_set h.b h.lc, h.lz, h.lc, h.nzc⟩
theorem cmd_Decode_D.below {w W : World} {gz gr gc gf g : Nat} {f : Int} {CS : Array Value} {s : ByteArray} {a e : Int} (h : cmd_Decode_D w gz gr gc gf g f CS s a e W) {W' : World} (hb : Below W.heap.size W W') : cmd_Decode_D w gz gr gc gf g f CS s a e W' :=
 ⟨blk_below h.z hb, blk_below h.r hb, blk_below h.c hb, blk_below h.f hb, ⟨blk_below h.i.1 hb, h.i.2⟩, below_step h.b hb, h.lz, h.lc, h.nzc⟩
theorem cmd_Decode_D.drew {w W : World} {gz gr gc gf g : Nat} {f : Int} {CS : Array Value} {s : ByteArray} {a e : Int} (h : cmd_Decode_D w gz gr gc gf g f CS s a e W) : cmd_Decode_D w gz gr gc gf g f CS s a e W.drew := ⟨blk_drew h.z, blk_drew h.r, blk_drew h.c, blk_drew h.f, ⟨blk_drew h.i.1, h.i.2⟩, h.b.drew, h.lz, h.lc, h.nzc⟩
theorem cmd_Decode_D.grown {w W : World} {gz gr gc gf g : Nat} {f : Int} {CS : Array Value} {s : ByteArray} {a e : Int} (h : cmd_Decode_D w gz gr gc gf g f CS s a e W) {W' : World} {α : Type} {d : Kd α} {t : Nat} {v : Value} {xs : List α} (hv : d.R t W w.heap.size (fun _ => True) v xs) (hg : W.grownBy W' v.ownBlock) (hb : Below w.heap.size w W') (t1 : t ≠ 25) (t2 : t ≠ 76) (t3 : t ≠ 3) (t4 : t ≠ 119) : cmd_Decode_D w gz gr gc gf g f CS s a e W' :=
 ⟨blk_grown h.z hg (Kd.R_ne hv h.z t1), blk_grown h.r hg (Kd.R_ne hv h.r t2), blk_grown h.c hg (Kd.R_ne hv h.c t1), blk_grown h.f hg (Kd.R_ne hv h.f t3), ⟨blk_grown h.i.1 hg (Kd.R_ne hv h.i.1 t4), h.i.2⟩, hb, h.lz, h.lc, h.nzc⟩
theorem cmd_Decode_two {W W' : World} {α β : Type} {d : Kd α} {d' : Kd β} {t t' base : Nat} {v v' : Value} {xs : List α} {ys : List β} (h : d.R t W base (fun _ => True) v xs) (h' : d'.R t' W base (fun _ => True) v' ys) (hg : W.grownBy W' v'.ownBlock) (ht : ∀ q, q ∈ t :: d.E → q ≠ t') : d.R t W' base (fun _ => True) v xs :=
 Kd.R_mono (Kd.R_grown (Kd.R_bound h) hg (fun k hk => by
  obtain ⟨_, _, _, q, hq, cells, hc⟩ := hk
  exact Kd.R_ne h' hc (fun e => ht q hq e.symm))) (fun _ _ => trivial)
theorem cmd_Decode_e1 {w W : World} {gz gr gc gf g : Nat} {f : Int} {CS : Array Value} {s : ByteArray} {a e : Int} (h : cmd_Decode_D w gz gr gc gf g f CS s a e W) (k : Nat) (bit most : Int) (r1 r2 : ByteArray) (r3 r4 : Int) (q : cmd_Decode_txt k (Go.bits .and .i64 f bit == 0) s a e most = some (r1, r2, r3, r4)) :
  Calls Tryd.prog 48 #[.int .i64 bit, .int .i64 most, .pointer (some ⟨gf, 0, none⟩), .pointer (some ⟨gr, 0, none⟩)] W fun z W' => z = .returned (.string r1) ∧ cmd_Decode_D w gz gr gc gf g f CS r2 r3 r4 W' ∧ KeepBut W W' g none :=
 (cmd_Decode_d1 k gf gr g f bit most s a e r1 r2 r3 r4 w W h.b h.i h.f h.r q).mono fun _ _ ⟨x1, x2, x3, x4⟩ => ⟨x1, h.step x2 x3 x4, x4⟩
theorem cmd_Decode_e2 {w W : World} {gz gr gc gf g : Nat} {f : Int} {CS : Array Value} {s : ByteArray} {a e : Int} (h : cmd_Decode_D w gz gr gc gf g f CS s a e W) (k : Nat) (bit most : Int) (r1 : Int) (r2 : ByteArray) (r3 r4 : Int) (q : cmd_Decode_num k (Go.bits .and .i64 f bit == 0) s a e most = some (r1, r2, r3, r4)) :
  Calls Tryd.prog 50 #[.int .i64 bit, .int .i64 most, .pointer (some ⟨gf, 0, none⟩), .pointer (some ⟨gr, 0, none⟩)] W fun z W' => z = .returned (.int .i64 r1) ∧ cmd_Decode_D w gz gr gc gf g f CS r2 r3 r4 W' ∧ KeepBut W W' g none :=
 (cmd_Decode_d2 k gf gr g f bit most s a e r1 r2 r3 r4 w W h.b h.i h.f h.r q).mono fun _ _ ⟨x1, x2, x3, x4⟩ => ⟨x1, h.step x2 x3 x4, x4⟩
theorem cmd_Decode_c9 {W : World} {g : Nat} {t : TypeId} {a0 a1 a2 a3 a4 a5 a6 a7 a8 : Value} (h : W.heap[g]? = some (.cells #[a0, a1, a2, a3, a4, a5, a6, a7, a8] t (0, 0))) : W.cell? ⟨g, 0, none⟩ = some a0 ∧ W.cell? ⟨g, 1, none⟩ = some a1 ∧ W.cell? ⟨g, 2, none⟩ = some a2 ∧ W.cell? ⟨g, 3, none⟩ = some a3 ∧ W.cell? ⟨g, 4, none⟩ = some a4 ∧ W.cell? ⟨g, 5, none⟩ = some a5 ∧ W.cell? ⟨g, 6, none⟩ = some a6 ∧ W.cell? ⟨g, 7, none⟩ = some a7 ∧ W.cell? ⟨g, 8, none⟩ = some a8 :=
 ⟨(blk_cell h 0).trans rfl, (blk_cell h 1).trans rfl, (blk_cell h 2).trans rfl, (blk_cell h 3).trans rfl, (blk_cell h 4).trans rfl, (blk_cell h 5).trans rfl, (blk_cell h 6).trans rfl, (blk_cell h 7).trans rfl, (blk_cell h 8).trans rfl⟩
theorem cmd_Decode_f9 {W : World} {g : Nat} {t : TypeId} {CS : Array Value} (h : W.heap[g]? = some (.cells CS t (0, 0))) : W.frozen? ⟨g, 0, none⟩ = false ∧ W.frozen? ⟨g, 1, none⟩ = false ∧ W.frozen? ⟨g, 2, none⟩ = false ∧ W.frozen? ⟨g, 3, none⟩ = false ∧ W.frozen? ⟨g, 4, none⟩ = false ∧ W.frozen? ⟨g, 5, none⟩ = false ∧ W.frozen? ⟨g, 6, none⟩ = false ∧ W.frozen? ⟨g, 7, none⟩ = false ∧ W.frozen? ⟨g, 8, none⟩ = false :=
 ⟨blk_frozen h 0, blk_frozen h 1, blk_frozen h 2, blk_frozen h 3, blk_frozen h 4, blk_frozen h 5, blk_frozen h 6, blk_frozen h 7, blk_frozen h 8⟩
set_option maxHeartbeats 16000000 in
set_option maxRecDepth 100000 in
theorem cmd_Decode.calls (k : Nat) (a0 : ByteArray) (r1 : Int) (r2 : ByteArray) (r3 : ByteArray) (r4 : ByteArray) (r5 : Int) (r6 : Int) (r7 : ByteArray) (r8 : List (S82)) (r9 : List (S62)) (r10 : Int) (w : World) (h : cmd_Decode.f k a0 = some (r1, r2, r3, r4, r5, r6, r7, r8, r9, r10)) (hG : GG w) :
  Calls Tryd.prog 16 #[.string a0] w fun e w' => ∃ v7_ v8_ : Value, e = .returned (.tuple #[.agg #[.int .i64 r1, .string r2, .string r3, .string r4, .int .i64 r5, .int .i64 r6, .string r7, v7_, v8_], .int .i64 r10]) ∧ Kd.R k82 82 w' w.heap.size (fun _ => True) v7_ r8 ∧ Kd.R k62 62 w' w.heap.size (fun _ => True) v8_ r9 ∧ Below w.heap.size w w' := by
 have HG := am hG
 clear hG
 have HB := am (Below.refl w.heap.size w)
 unfold cmd_Decode.f at h
 replace h := obE h
 obtain ⟨⟨x0, s0, p0⟩, A0, h⟩ := h
 try dsimp only at h
 try dsimp only at A0
 replace h := obE h
 obtain ⟨⟨n1, x1, s1, p1⟩, A1, h⟩ := h
 try dsimp only at h
 try dsimp only at A1
 replace h := obE h
 obtain ⟨f, A2, h⟩ := h
 try dsimp only at A2
 replace h := obE h
 obtain ⟨⟨t2, x2, s2, p2⟩, A3, h⟩ := h
 try dsimp only at h
 try dsimp only at A3
 replace h := obE h
 obtain ⟨⟨t3, x3, s3, p3⟩, A4, h⟩ := h
 try dsimp only at h
 try dsimp only at A4
 replace h := obE h
 obtain ⟨⟨t4, x4, s4, p4⟩, A5, h⟩ := h
 try dsimp only at h
 try dsimp only at A5
 replace h := obE h
 obtain ⟨⟨n5, x5, s5, p5⟩, A6, h⟩ := h
 try dsimp only at h
 try dsimp only at A6
 replace h := obE h
 obtain ⟨⟨n6, x6, s6, p6⟩, A7, h⟩ := h
 try dsimp only at h
 try dsimp only at A7
 replace h := obE h
 obtain ⟨⟨t7, x7, s7, p7⟩, A8, h⟩ := h
 try dsimp only at h
 try dsimp only at A8
 replace h := obE h
 obtain ⟨⟨n8, x8, s8, p8⟩, A9, h⟩ := h
 try dsimp only at h
 try dsimp only at A9
 replace h := obE h
 obtain ⟨⟨x9, s9, p9, l9⟩, A10, h⟩ := h
 try dsimp only at h
 try dsimp only at A10
 replace h := obE h
 obtain ⟨⟨n10, x10, s10, p10⟩, A11, h⟩ := h
 try dsimp only at h
 try dsimp only at A11
 replace h := obE h
 obtain ⟨⟨x11, s11, p11, l11⟩, A12, h⟩ := h
 try dsimp only at h
 try dsimp only at A12
 replace h := obE h
 obtain ⟨⟨n12, x12, s12, p12⟩, A13, h⟩ := h
 try dsimp only at h
 try dsimp only at A13
 have HF := am h
 clear h
 have hmf : ∀ (fn : Fn) (first cap : Array Value) (w : World), (Instr.makeFunc fn first cap).run Tryd.prog w = .ok (.func fn first cap) w := fun _ _ _ _ => rfl
 go_enter Tryd.func16, Tryd.ntmps16
 go_wp2_with (first
  | ((with_reducible refine gate_dst (N := 2) rfl ?_); refine bx 2 #[.int .i64 0, .string ⟨#[]⟩, .string ⟨#[]⟩, .string ⟨#[]⟩, .int .i64 0, .int .i64 0, .string ⟨#[]⟩, .slice none 0 0, .slice none 0 0] 25 ?_; intro gz hg w1 hbox hb; have BZ := am hbox; have GZ := gsz hg HB.out; replace HB := am (below_step HB.out hb); clear hb hbox hg)
  | (go_at_call 46; (with_reducible refine (octet_NewReader.calls a0 x0 s0 p0 w _ HB.out A0.out).mono ?_); rintro e w2 ⟨g, rfl, hi, hb, hb2⟩; have HI := am hi; replace BZ := bb BZ.out hb2; replace HB := am hb; clear hi hb hb2)
  | ((with_reducible refine gate_dst (N := 4) rfl ?_); refine bx 4 #[.pointer none] 76 ?_; intro gr hg w3 hbox hb; have BR := am hbox; replace BZ := bb BZ.out hb; replace HI := am (show IsS119 w w3 g x0 s0 p0 from ⟨blk_below HI.out.1 hb, HI.out.2⟩); have GR := gsz hg HB.out; replace HB := am (below_step HB.out hb); clear hb hbox hg; obtain ⟨cr, fr⟩ := cz1 BR.out; have ner := blk_ne BZ.out BR.out (by decide); have nir := blk_ne HI.out.1 BR.out (by decide))
  | (go_at_call 47; (with_reducible refine (octet_Reader_Int.calls k g x0 s0 p0 10 n1 x1 s1 p1 w _ (IsS119.far HI.out nir _) (below_set HB.out GR.out) A1.out).mono ?_); rintro e w4 ⟨rfl, hi, hb, hk⟩; replace BZ := am (hk.blk (g' := gz) (o := .cells #[.int .i64 0, .string ⟨#[]⟩, .string ⟨#[]⟩, .string ⟨#[]⟩, .int .i64 0, .int .i64 0, .string ⟨#[]⟩, .slice none 0 0, .slice none 0 0] 25 (0, 0)) (blk_far BZ.out ner _) (blk_ne BZ.out HI.out.1 (by decide)) (by simp)); replace BR := am (hk.blk (g' := gr) (o := .cells #[.pointer (some ⟨g, 0, none⟩)] 76 (0, 0)) (bkp BR.out) (blk_ne BR.out HI.out.1 (by decide)) (by simp)); replace HI := am hi; replace HB := am hb; clear hi hb hk cr fr ner nir)
  | ((with_reducible refine gate_dst (N := 5) rfl ?_); refine bx 5 #[.int .i64 0, .string ⟨#[]⟩, .string ⟨#[]⟩, .string ⟨#[]⟩, .int .i64 0, .int .i64 0, .string ⟨#[]⟩, .slice none 0 0, .slice none 0 0] 25 ?_; intro gc hg wc hbox hb; have BC := am hbox; have GC := gsz hg HB.out; have NZC := nlt (g := gz) hg BZ.out; replace BZ := bb BZ.out hb; replace BR := bb BR.out hb; replace HI := am (show IsS119 w wc g x1 s1 p1 from ⟨blk_below HI.out.1 hb, HI.out.2⟩); replace HB := am (below_step HB.out hb); clear hb hbox hg; obtain ⟨c0, c1, c2, c3, c4, c5, c6, c7, c8⟩ := cmd_Decode_c9 BC.out; obtain ⟨y0, y1, y2, y3, y4, y5, y6, y7, y8⟩ := cmd_Decode_f9 BC.out)
  | (go_at_call 30; (with_reducible refine (cmd_fields.calls k n1 f _ A2.out).mono ?_); rintro e w5 ⟨rfl, hd⟩; obtain ⟨nd, rfl⟩ := hd.out; have hx := cmd_Decode_all9 BC.out (.int .i64 n1) (.string ⟨#[]⟩) (.string ⟨#[]⟩) (.string ⟨#[]⟩) (.int .i64 0) (.int .i64 0) (.string ⟨#[]⟩) (.slice none 0 0) (.slice none 0 0); have q1 := hx.1; have q2 := hx.2.1; have q3 := hx.2.2 w HB.out GC.out; clear hd hx c0 c1 c2 c3 c4 c5 c6 c7 c8 y0 y1 y2 y3 y4 y5 y6 y7 y8; generalize ((((((((wc.setCell ⟨gc, 0, none⟩ (.int .i64 n1)).setCell ⟨gc, 1, none⟩ (.string ⟨#[]⟩)).setCell ⟨gc, 2, none⟩ (.string ⟨#[]⟩)).setCell ⟨gc, 3, none⟩ (.string ⟨#[]⟩)).setCell ⟨gc, 4, none⟩ (.int .i64 0)).setCell ⟨gc, 5, none⟩ (.int .i64 0)).setCell ⟨gc, 6, none⟩ (.string ⟨#[]⟩)).setCell ⟨gc, 7, none⟩ (.slice none 0 0)).setCell ⟨gc, 8, none⟩ (.slice none 0 0) = w6 at q1 q2 q3 ⊢; replace BZ := am (blk_drewN ((q2 gz NZC.out).trans BZ.out) nd); replace BR := am (blk_drewN ((q2 gr (blk_ne BR.out BC.out (by decide))).trans BR.out) nd); replace HI := am (IsS119.drewN (show IsS119 w w6 g x1 s1 p1 from ⟨(q2 g (blk_ne HI.out.1 BC.out (by decide))).trans HI.out.1, HI.out.2⟩) nd); replace BC := am (blk_drewN q1 nd); replace HB := am (pw_below_drewN q3 nd); clear q1 q2 q3; generalize w6.drewN nd = w7 at BC BZ BR HI HB ⊢)
  | ((with_reducible refine gate_dst (N := 6) rfl ?_); refine bx 6 #[.int .i64 0] 3 ?_; intro gf hg w8 hbox hb; have GF := gsz hg HB.out; have BF := am hbox; replace BZ := bb BZ.out hb; replace BR := bb BR.out hb; replace BC := bb BC.out hb; replace HI := am (show IsS119 w w8 g x1 s1 p1 from ⟨blk_below HI.out.1 hb, HI.out.2⟩); replace HB := am (below_step HB.out hb); clear hb hbox hg; obtain ⟨cf, ff⟩ := cz1 BF.out; have HD := am (show cmd_Decode_D w gz gr gc gf g f #[.int .i64 n1, .string ⟨#[]⟩, .string ⟨#[]⟩, .string ⟨#[]⟩, .int .i64 0, .int .i64 0, .string ⟨#[]⟩, .slice none 0 0, .slice none 0 0] x1 s1 p1 (w8.setCell ⟨gf, 0, none⟩ (.int .i64 f)) from ⟨blk_far BZ.out (blk_ne BZ.out BF.out (by decide)) _, blk_far BR.out (blk_ne BR.out BF.out (by decide)) _, blk_far BC.out (blk_ne BC.out BF.out (by decide)) _, blk_put BF.out 0 _ rfl, ⟨blk_far HI.out.1 (blk_ne HI.out.1 BF.out (by decide)) _, HI.out.2⟩, below_set HB.out GF.out, GZ.out, GC.out, NZC.out⟩); clear BZ BR BC BF HI HB GZ GR GC NZC GF)
  | (go_at_call 48; have hd := HD.out; (with_reducible refine (cmd_Decode_e1 hd k 1 64 t2 x2 s2 p2 A3.out).mono ?_); rintro e w9 ⟨rfl, hd2, hkk⟩; replace HD := am hd2; clear hd hd2 hkk cf ff A3)
  | (go_at_call 48; have hd := HD.out; (with_reducible refine (cmd_Decode_e1 hd k 2 63 t3 x3 s3 p3 A4.out).mono ?_); rintro e w10 ⟨rfl, hd2, hkk⟩; replace HD := am hd2; clear hd hd2 hkk A4)
  | (go_at_call 48; have hd := HD.out; (with_reducible refine (cmd_Decode_e1 hd k 4 1024 t4 x4 s4 p4 A5.out).mono ?_); rintro e w11 ⟨rfl, hd2, hkk⟩; replace HD := am hd2; clear hd hd2 hkk A5; obtain ⟨c0, c1, c2, c3, c4, c5, c6, c7, c8⟩ := cmd_Decode_c9 HD.out.c; obtain ⟨y0, y1, y2, y3, y4, y5, y6, y7, y8⟩ := cmd_Decode_f9 HD.out.c)
  | (go_at_call 50; have hd := (((HD.out.put (CS' := #[.int .i64 n1, .string t2, .string ⟨#[]⟩, .string ⟨#[]⟩, .int .i64 0, .int .i64 0, .string ⟨#[]⟩, .slice none 0 0, .slice none 0 0]) 1 (.string t2) rfl).put (CS' := #[.int .i64 n1, .string t2, .string t3, .string ⟨#[]⟩, .int .i64 0, .int .i64 0, .string ⟨#[]⟩, .slice none 0 0, .slice none 0 0]) 2 (.string t3) rfl).put (CS' := #[.int .i64 n1, .string t2, .string t3, .string t4, .int .i64 0, .int .i64 0, .string ⟨#[]⟩, .slice none 0 0, .slice none 0 0]) 3 (.string t4) rfl); (with_reducible refine (cmd_Decode_e2 hd k 8 1099511627776 n5 x5 s5 p5 A6.out).mono ?_); rintro e w12 ⟨rfl, hd2, hkk⟩; replace HD := am hd2; clear hd hd2 hkk A6 c0 c1 c2 c3 c4 c5 c6 c7 c8 y0 y1 y2 y3 y4 y5 y6 y7 y8)
  | (go_at_call 50; have hd := HD.out; (with_reducible refine (cmd_Decode_e2 hd k 16 100 n6 x6 s6 p6 A7.out).mono ?_); rintro e w13 ⟨rfl, hd2, hkk⟩; replace HD := am hd2; clear hd hd2 hkk A7; obtain ⟨c0, c1, c2, c3, c4, c5, c6, c7, c8⟩ := cmd_Decode_c9 HD.out.c; obtain ⟨y0, y1, y2, y3, y4, y5, y6, y7, y8⟩ := cmd_Decode_f9 HD.out.c)
  | (go_at_call 48; have hd := ((HD.out.put (CS' := #[.int .i64 n1, .string t2, .string t3, .string t4, .int .i64 n5, .int .i64 0, .string ⟨#[]⟩, .slice none 0 0, .slice none 0 0]) 4 (.int .i64 n5) rfl).put (CS' := #[.int .i64 n1, .string t2, .string t3, .string t4, .int .i64 n5, .int .i64 n6, .string ⟨#[]⟩, .slice none 0 0, .slice none 0 0]) 5 (.int .i64 n6) rfl); (with_reducible refine (cmd_Decode_e1 hd k 32 64 t7 x7 s7 p7 A8.out).mono ?_); rintro e w14 ⟨rfl, hd2, hkk⟩; replace HD := am hd2; clear hd hd2 hkk A8 c0 c1 c2 c3 c4 c5 c6 c7 c8 y0 y1 y2 y3 y4 y5 y6 y7 y8; obtain ⟨c0, c1, c2, c3, c4, c5, c6, c7, c8⟩ := cmd_Decode_c9 HD.out.c; obtain ⟨y0, y1, y2, y3, y4, y5, y6, y7, y8⟩ := cmd_Decode_f9 HD.out.c)
  | (go_at_call 50; have hd := (HD.out.put (CS' := #[.int .i64 n1, .string t2, .string t3, .string t4, .int .i64 n5, .int .i64 n6, .string t7, .slice none 0 0, .slice none 0 0]) 6 (.string t7) rfl); (with_reducible refine (cmd_Decode_e2 hd k 64 512 n8 x8 s8 p8 A9.out).mono ?_); rintro e w15 ⟨rfl, hd2, hkk⟩; replace HD := am hd2; clear hd hd2 hkk A9 c0 c1 c2 c3 c4 c5 c6 c7 c8 y0 y1 y2 y3 y4 y5 y6 y7 y8))
 by_cases hn : n8 ≤ 512
 rotate_left
 ·
  exact absurd A10.out (by rw [if_neg hn]; simp)
 replace A10 := am (by have h := A10.out; rw [if_pos hn] at h; exact h)
 go_loopg [39] n8.toNat (fun n v39 w' => ∃ (x : Int) (xs : ByteArray) (ss pp : Int) (acc : List (S82)) (u7 : Value), v39 = .int .i64 x ∧ Aside0 (0 ≤ x ∧ x + (n : Int) = (n8.toNat : Int)) ∧ Aside0 (cmd_Decode_l0 k n xs ss pp acc = some (x9, s9, p9, l9)) ∧ Aside0 (cmd_Decode_D w gz gr gc gf g f #[.int .i64 n1, .string t2, .string t3, .string t4, .int .i64 n5, .int .i64 n6, .string t7, u7, .slice none 0 0] xs ss pp w') ∧ Aside0 (Kd.R k82 82 w' w.heap.size (fun _ => True) u7 acc))
 case atStart => exact ⟨0, x8, s8, p8, [], .slice none 0 0, rfl, am ⟨Int.le_refl _, Int.zero_add _⟩, A10, HD, am (Kd.R_nil _ _ _ _ _)⟩
 case round =>
  clear HD A10
  obtain ⟨x, xs, ss, pp, acc, u7, rfl, HN, HL, HD, HV⟩ := hrel
  obtain ⟨B7, d7, e7⟩ := Kd.R_slice HV.out
  subst e7
  cases gk with
  | zero =>
   have q1 : decide (x < n8) = false := decide_eq_false (by have := HN.out; omega)
   have hl := HL.out
   simp only [cmd_Decode_l0, Option.some.injEq, Prod.mk.injEq] at hl
   obtain ⟨h1, h2, h3, h4⟩ := hl
   replace h1 := h1.symm
   replace h2 := h2.symm
   replace h3 := h3.symm
   replace h4 := h4.symm
   subst h1 h2 h3 h4
   clear HN HL hn
   obtain ⟨B9, d9, e9⟩ : ∃ (B9 : Option Addr) (d9 : Nat), (.slice B7 l9.length d7 : Value) = .slice B9 l9.length d9 := ⟨_, _, rfl⟩
   rw [e9] at HD HV
   have HP := HV
   clear e9 HV
   go_wp2_with (go_at_call 50; (with_reducible refine (cmd_Decode_d2 k gf gr g f 128 100 x9 s9 p9 n10 x10 s10 p10 w _ HD.out.b HD.out.i HD.out.f HD.out.r A11.out).mono ?_); rintro e w16 ⟨rfl, hi, hb, hk⟩; replace HP := am (Kd.R_mono (Kd.R_keep (Kd.R_types HP.out HD.out.i.1 (by decide)) hk (fun _ h => h.2)) (fun _ _ => trivial)); replace HD := am (HD.out.step hi hb hk); clear hi hb hk)
   by_cases hn : n10 ≤ 100
   rotate_left
   ·
    exact absurd A12.out (by rw [if_neg hn]; simp)
   replace A12 := am (by have h := A12.out; rw [if_pos hn] at h; exact h)
   go_loopg [54] n10.toNat (fun n v54 w' => ∃ (x : Int) (xs : ByteArray) (ss pp : Int) (acc : List (S62)) (u8 : Value), v54 = .int .i64 x ∧ Aside0 (0 ≤ x ∧ x + (n : Int) = (n10.toNat : Int)) ∧ Aside0 (cmd_Decode_l1 k n xs ss pp acc = some (x11, s11, p11, l11)) ∧ Aside0 (cmd_Decode_D w gz gr gc gf g f #[.int .i64 n1, .string t2, .string t3, .string t4, .int .i64 n5, .int .i64 n6, .string t7, .slice B9 l9.length d9, u8] xs ss pp w') ∧ Aside0 (Kd.R k62 62 w' w.heap.size (fun _ => True) u8 acc) ∧ Aside0 (Kd.R k82 82 w' w.heap.size (fun _ => True) (.slice B9 l9.length d9) l9))
   case atStart => exact ⟨0, x10, s10, p10, [], .slice none 0 0, rfl, am ⟨Int.le_refl _, Int.zero_add _⟩, A12, HD, am (Kd.R_nil _ _ _ _ _), HP⟩
   case round =>
    clear HD A12 HP
    obtain ⟨x, xs, ss, pp, acc, u8, rfl, HN, HL, HD, HV, HP⟩ := hrel
    obtain ⟨B7, d7, e7⟩ := Kd.R_slice HV.out
    subst e7
    cases gk with
    | zero =>
     have q1 : decide (x < n10) = false := decide_eq_false (by have := HN.out; omega)
     have hl := HL.out
     simp only [cmd_Decode_l1, Option.some.injEq, Prod.mk.injEq] at hl
     obtain ⟨h1, h2, h3, h4⟩ := hl
     replace h1 := h1.symm
     replace h2 := h2.symm
     replace h3 := h3.symm
     replace h4 := h4.symm
     subst h1 h2 h3 h4
     clear HN HL hn
     have hf := HF.out
     have cr := (cz1 HD.out.r).1
     by_cases hc : n12 = 0
     ·
      subst hc
      rw [if_pos rfl] at hf
      replace hf := obE hf
      obtain ⟨c, B1, hf⟩ := hf
      by_cases hc : c = 0
      ·
       subst hc
       rw [if_pos rfl] at hf
       simp only [cmd_Decode_none, Option.some.injEq, Prod.mk.injEq] at hf
       obtain ⟨rfl, rfl, rfl, rfl, rfl, rfl, rfl, rfl, rfl, rfl⟩ := hf
       go_wp2_with (first | (go_at_call 51; (with_reducible refine (octet_Reader_End.calls g x11 s11 p11 0 x12 s12 p12 w _ HD.out.i HD.out.b A13.out).mono ?_); rintro e w17 ⟨rfl, hi, hb, hk⟩; replace HP := am (Kd.R_mono (Kd.R_keep (Kd.R_types HP.out HD.out.i.1 (by decide)) hk (fun _ h => h.2)) (fun _ _ => trivial)); replace HV := am (Kd.R_mono (Kd.R_keep (Kd.R_types HV.out HD.out.i.1 (by decide)) hk (fun _ h => h.2)) (fun _ _ => trivial)); replace HD := am (HD.out.step hi hb hk); clear hi hb hk; clear cr; obtain ⟨c0, c1, c2, c3, c4, c5, c6, c7, c8⟩ := cmd_Decode_c9 HD.out.c) | (go_at_call 14; (with_reducible refine (cmd_Check.calls k n1 t2 t3 t4 n5 n6 t7 B9 d9 l9 B7 d7 l11 0 _ (Kd.R_reads' HP.out).2.2 (Kd.R_reads' HP.out).2.1 (Kd.R_reads' HV.out).2.2 (Kd.R_reads' HV.out).2.1 B1.out (gg_below HG.out HD.out.b)).mono ?_); rintro e w18 ⟨rfl, hb⟩; replace HP := am (Kd.R_below HP.out hb); replace HV := am (Kd.R_below HV.out hb); replace HD := am (HD.out.below hb); clear hb c0 c1 c2 c3 c4 c5 c6 c7 c8; obtain ⟨c0, c1, c2, c3, c4, c5, c6, c7, c8⟩ := cmd_Decode_c9 HD.out.c; obtain ⟨z0, z1, z2, z3, z4, z5, z6, z7, z8⟩ := cmd_Decode_c9 HD.out.z; obtain ⟨y0, y1, y2, y3, y4, y5, y6, y7, y8⟩ := cmd_Decode_f9 HD.out.z))
       have hx := cmd_Decode_all9 HD.out.z (.int .i64 n1) (.string t2) (.string t3) (.string t4) (.int .i64 n5) (.int .i64 n6) (.string t7) (.slice B9 l9.length d9) (.slice B7 l11.length d7)
       have q1 := hx.1
       have q2 := hx.2.1
       have q3 := hx.2.2 w HD.out.b HD.out.lz
       have q4 : Aside0 (Kd.R k82 82 (((((((((w18.setCell ⟨gz, 0, none⟩ (.int .i64 n1)).setCell ⟨gz, 1, none⟩ (.string t2)).setCell ⟨gz, 2, none⟩ (.string t3)).setCell ⟨gz, 3, none⟩ (.string t4)).setCell ⟨gz, 4, none⟩ (.int .i64 n5)).setCell ⟨gz, 5, none⟩ (.int .i64 n6)).setCell ⟨gz, 6, none⟩ (.string t7)).setCell ⟨gz, 7, none⟩ (.slice B9 l9.length d9)).setCell ⟨gz, 8, none⟩ (.slice B7 l11.length d7)) w.heap.size (fun _ => True) (.slice B9 l9.length d9) l9) := am (Kd.R_mono (Kd.R_step (Kd.R_types HP.out HD.out.z (by decide)) (fun k_ hk_ _ => q2 k_ hk_.2)) (fun _ _ => trivial))
       have q5 : Aside0 (Kd.R k62 62 (((((((((w18.setCell ⟨gz, 0, none⟩ (.int .i64 n1)).setCell ⟨gz, 1, none⟩ (.string t2)).setCell ⟨gz, 2, none⟩ (.string t3)).setCell ⟨gz, 3, none⟩ (.string t4)).setCell ⟨gz, 4, none⟩ (.int .i64 n5)).setCell ⟨gz, 5, none⟩ (.int .i64 n6)).setCell ⟨gz, 6, none⟩ (.string t7)).setCell ⟨gz, 7, none⟩ (.slice B9 l9.length d9)).setCell ⟨gz, 8, none⟩ (.slice B7 l11.length d7)) w.heap.size (fun _ => True) (.slice B7 l11.length d7) l11) := am (Kd.R_mono (Kd.R_step (Kd.R_types HV.out HD.out.z (by decide)) (fun k_ hk_ _ => q2 k_ hk_.2)) (fun _ _ => trivial))
       clear hx q2 HD HP HV
       generalize ((((((((w18.setCell ⟨gz, 0, none⟩ (.int .i64 n1)).setCell ⟨gz, 1, none⟩ (.string t2)).setCell ⟨gz, 2, none⟩ (.string t3)).setCell ⟨gz, 3, none⟩ (.string t4)).setCell ⟨gz, 4, none⟩ (.int .i64 n5)).setCell ⟨gz, 5, none⟩ (.int .i64 n6)).setCell ⟨gz, 6, none⟩ (.string t7)).setCell ⟨gz, 7, none⟩ (.slice B9 l9.length d9)).setCell ⟨gz, 8, none⟩ (.slice B7 l11.length d7) = Z9 at q1 q3 q4 q5 ⊢
       refine bodyPost_ret (results_ct rfl _ _ gz 25 #[.int .i64 n1, .string t2, .string t3, .string t4, .int .i64 n5, .int .i64 n6, .string t7, .slice B9 l9.length d9, .slice B7 l11.length d7] (0, 0) _ rfl q1 Tryd.underlying25 rfl (by kernel_rfl)) rfl ?_
       exact ⟨_, _, rfl, q4.out, q5.out, q3⟩
      ·
       rw [if_neg hc] at hf
       have hcb : (c != 0) = true := bne_iff_ne.mpr hc
       clear hc
       simp only [cmd_Decode_none, Option.some.injEq, Prod.mk.injEq] at hf
       obtain ⟨rfl, rfl, rfl, rfl, rfl, rfl, rfl, rfl, rfl, rfl⟩ := hf
       go_wp2_with (first | (go_at_call 51; (with_reducible refine (octet_Reader_End.calls g x11 s11 p11 0 x12 s12 p12 w _ HD.out.i HD.out.b A13.out).mono ?_); rintro e w17 ⟨rfl, hi, hb, hk⟩; replace HP := am (Kd.R_mono (Kd.R_keep (Kd.R_types HP.out HD.out.i.1 (by decide)) hk (fun _ h => h.2)) (fun _ _ => trivial)); replace HV := am (Kd.R_mono (Kd.R_keep (Kd.R_types HV.out HD.out.i.1 (by decide)) hk (fun _ h => h.2)) (fun _ _ => trivial)); replace HD := am (HD.out.step hi hb hk); clear hi hb hk; clear cr; obtain ⟨c0, c1, c2, c3, c4, c5, c6, c7, c8⟩ := cmd_Decode_c9 HD.out.c) | (go_at_call 14; (with_reducible refine (cmd_Check.calls k n1 t2 t3 t4 n5 n6 t7 B9 d9 l9 B7 d7 l11 c _ (Kd.R_reads' HP.out).2.2 (Kd.R_reads' HP.out).2.1 (Kd.R_reads' HV.out).2.2 (Kd.R_reads' HV.out).2.1 B1.out (gg_below HG.out HD.out.b)).mono ?_); rintro e w18 ⟨rfl, hb⟩; replace HP := am (Kd.R_below HP.out hb); replace HV := am (Kd.R_below HV.out hb); replace HD := am (HD.out.below hb); clear hb c0 c1 c2 c3 c4 c5 c6 c7 c8; obtain ⟨c0, c1, c2, c3, c4, c5, c6, c7, c8⟩ := cmd_Decode_c9 HD.out.c; obtain ⟨z0, z1, z2, z3, z4, z5, z6, z7, z8⟩ := cmd_Decode_c9 HD.out.z; obtain ⟨y0, y1, y2, y3, y4, y5, y6, y7, y8⟩ := cmd_Decode_f9 HD.out.z))
       have hx := cmd_Decode_all9 HD.out.z (.int .i64 0) (.string ⟨#[]⟩) (.string ⟨#[]⟩) (.string ⟨#[]⟩) (.int .i64 0) (.int .i64 0) (.string ⟨#[]⟩) (.slice none 0 0) (.slice none 0 0)
       have q1 := hx.1
       have q2 := hx.2.1
       have q3 := hx.2.2 w HD.out.b HD.out.lz
       have q4 : Aside0 (Kd.R k82 82 (((((((((w18.setCell ⟨gz, 0, none⟩ (.int .i64 0)).setCell ⟨gz, 1, none⟩ (.string ⟨#[]⟩)).setCell ⟨gz, 2, none⟩ (.string ⟨#[]⟩)).setCell ⟨gz, 3, none⟩ (.string ⟨#[]⟩)).setCell ⟨gz, 4, none⟩ (.int .i64 0)).setCell ⟨gz, 5, none⟩ (.int .i64 0)).setCell ⟨gz, 6, none⟩ (.string ⟨#[]⟩)).setCell ⟨gz, 7, none⟩ (.slice none 0 0)).setCell ⟨gz, 8, none⟩ (.slice none 0 0)) w.heap.size (fun _ => True) (.slice B9 l9.length d9) l9) := am (Kd.R_mono (Kd.R_step (Kd.R_types HP.out HD.out.z (by decide)) (fun k_ hk_ _ => q2 k_ hk_.2)) (fun _ _ => trivial))
       have q5 : Aside0 (Kd.R k62 62 (((((((((w18.setCell ⟨gz, 0, none⟩ (.int .i64 0)).setCell ⟨gz, 1, none⟩ (.string ⟨#[]⟩)).setCell ⟨gz, 2, none⟩ (.string ⟨#[]⟩)).setCell ⟨gz, 3, none⟩ (.string ⟨#[]⟩)).setCell ⟨gz, 4, none⟩ (.int .i64 0)).setCell ⟨gz, 5, none⟩ (.int .i64 0)).setCell ⟨gz, 6, none⟩ (.string ⟨#[]⟩)).setCell ⟨gz, 7, none⟩ (.slice none 0 0)).setCell ⟨gz, 8, none⟩ (.slice none 0 0)) w.heap.size (fun _ => True) (.slice B7 l11.length d7) l11) := am (Kd.R_mono (Kd.R_step (Kd.R_types HV.out HD.out.z (by decide)) (fun k_ hk_ _ => q2 k_ hk_.2)) (fun _ _ => trivial))
       clear hx q2 HD HP HV
       generalize ((((((((w18.setCell ⟨gz, 0, none⟩ (.int .i64 0)).setCell ⟨gz, 1, none⟩ (.string ⟨#[]⟩)).setCell ⟨gz, 2, none⟩ (.string ⟨#[]⟩)).setCell ⟨gz, 3, none⟩ (.string ⟨#[]⟩)).setCell ⟨gz, 4, none⟩ (.int .i64 0)).setCell ⟨gz, 5, none⟩ (.int .i64 0)).setCell ⟨gz, 6, none⟩ (.string ⟨#[]⟩)).setCell ⟨gz, 7, none⟩ (.slice none 0 0)).setCell ⟨gz, 8, none⟩ (.slice none 0 0) = Z9 at q1 q3 q4 q5 ⊢
       refine bodyPost_ret (results_ct rfl _ _ gz 25 #[.int .i64 0, .string ⟨#[]⟩, .string ⟨#[]⟩, .string ⟨#[]⟩, .int .i64 0, .int .i64 0, .string ⟨#[]⟩, .slice none 0 0, .slice none 0 0] (0, 0) _ rfl q1 Tryd.underlying25 rfl (by kernel_rfl)) rfl ?_
       exact ⟨_, _, rfl, Kd.R_nil _ _ _ _ _, Kd.R_nil _ _ _ _ _, q3⟩
     ·
      rw [if_neg hc] at hf
      have hcb : (n12 != 0) = true := bne_iff_ne.mpr hc
      clear hc
      simp only [cmd_Decode_none, Option.some.injEq, Prod.mk.injEq] at hf
      obtain ⟨rfl, rfl, rfl, rfl, rfl, rfl, rfl, rfl, rfl, rfl⟩ := hf
      go_wp2_with (go_at_call 51; (with_reducible refine (octet_Reader_End.calls g x11 s11 p11 n12 x12 s12 p12 w _ HD.out.i HD.out.b A13.out).mono ?_); rintro e w17 ⟨rfl, hi, hb, hk⟩; replace HP := am (Kd.R_mono (Kd.R_keep (Kd.R_types HP.out HD.out.i.1 (by decide)) hk (fun _ h => h.2)) (fun _ _ => trivial)); replace HV := am (Kd.R_mono (Kd.R_keep (Kd.R_types HV.out HD.out.i.1 (by decide)) hk (fun _ h => h.2)) (fun _ _ => trivial)); replace HD := am (HD.out.step hi hb hk); clear hi hb hk; clear cr; obtain ⟨z0, z1, z2, z3, z4, z5, z6, z7, z8⟩ := cmd_Decode_c9 HD.out.z; obtain ⟨y0, y1, y2, y3, y4, y5, y6, y7, y8⟩ := cmd_Decode_f9 HD.out.z)
      have hx := cmd_Decode_all9 HD.out.z (.int .i64 0) (.string ⟨#[]⟩) (.string ⟨#[]⟩) (.string ⟨#[]⟩) (.int .i64 0) (.int .i64 0) (.string ⟨#[]⟩) (.slice none 0 0) (.slice none 0 0)
      have q1 := hx.1
      have q2 := hx.2.1
      have q3 := hx.2.2 w HD.out.b HD.out.lz
      have q4 : Aside0 (Kd.R k82 82 (((((((((w17.setCell ⟨gz, 0, none⟩ (.int .i64 0)).setCell ⟨gz, 1, none⟩ (.string ⟨#[]⟩)).setCell ⟨gz, 2, none⟩ (.string ⟨#[]⟩)).setCell ⟨gz, 3, none⟩ (.string ⟨#[]⟩)).setCell ⟨gz, 4, none⟩ (.int .i64 0)).setCell ⟨gz, 5, none⟩ (.int .i64 0)).setCell ⟨gz, 6, none⟩ (.string ⟨#[]⟩)).setCell ⟨gz, 7, none⟩ (.slice none 0 0)).setCell ⟨gz, 8, none⟩ (.slice none 0 0)) w.heap.size (fun _ => True) (.slice B9 l9.length d9) l9) := am (Kd.R_mono (Kd.R_step (Kd.R_types HP.out HD.out.z (by decide)) (fun k_ hk_ _ => q2 k_ hk_.2)) (fun _ _ => trivial))
      have q5 : Aside0 (Kd.R k62 62 (((((((((w17.setCell ⟨gz, 0, none⟩ (.int .i64 0)).setCell ⟨gz, 1, none⟩ (.string ⟨#[]⟩)).setCell ⟨gz, 2, none⟩ (.string ⟨#[]⟩)).setCell ⟨gz, 3, none⟩ (.string ⟨#[]⟩)).setCell ⟨gz, 4, none⟩ (.int .i64 0)).setCell ⟨gz, 5, none⟩ (.int .i64 0)).setCell ⟨gz, 6, none⟩ (.string ⟨#[]⟩)).setCell ⟨gz, 7, none⟩ (.slice none 0 0)).setCell ⟨gz, 8, none⟩ (.slice none 0 0)) w.heap.size (fun _ => True) (.slice B7 l11.length d7) l11) := am (Kd.R_mono (Kd.R_step (Kd.R_types HV.out HD.out.z (by decide)) (fun k_ hk_ _ => q2 k_ hk_.2)) (fun _ _ => trivial))
      clear hx q2 HD HP HV
      generalize ((((((((w17.setCell ⟨gz, 0, none⟩ (.int .i64 0)).setCell ⟨gz, 1, none⟩ (.string ⟨#[]⟩)).setCell ⟨gz, 2, none⟩ (.string ⟨#[]⟩)).setCell ⟨gz, 3, none⟩ (.string ⟨#[]⟩)).setCell ⟨gz, 4, none⟩ (.int .i64 0)).setCell ⟨gz, 5, none⟩ (.int .i64 0)).setCell ⟨gz, 6, none⟩ (.string ⟨#[]⟩)).setCell ⟨gz, 7, none⟩ (.slice none 0 0)).setCell ⟨gz, 8, none⟩ (.slice none 0 0) = Z9 at q1 q3 q4 q5 ⊢
      refine bodyPost_ret (results_ct rfl _ _ gz 25 #[.int .i64 0, .string ⟨#[]⟩, .string ⟨#[]⟩, .string ⟨#[]⟩, .int .i64 0, .int .i64 0, .string ⟨#[]⟩, .slice none 0 0, .slice none 0 0] (0, 0) _ rfl q1 Tryd.underlying25 rfl (by kernel_rfl)) rfl ?_
      exact ⟨_, _, rfl, Kd.R_nil _ _ _ _ _, Kd.R_nil _ _ _ _ _, q3⟩
    | succ m =>
     have q1 : decide (x < n10) = true := decide_eq_true (by have := HN.out; omega)
     have HX : Aside0 (wrap64 (x + 1) = x + 1) := am (IntWalk.wrap64_in _ (by have := HN.out; omega))
     have hl := HL.out
     rw [cmd_Decode_l1] at hl
     clear HL
     replace hl := obE hl
     obtain ⟨⟨m_, y1, z1, e1⟩, B1, hl⟩ := hl
     try dsimp only at hl
     replace hl := obE hl
     obtain ⟨⟨b, y2, z2, e2⟩, B2, hl⟩ := hl
     try dsimp only at hl
     try dsimp only at B2
     by_cases hlen : acc.length < 5864062014805
     rotate_left
     ·
      rw [if_neg hlen] at hl
      cases hl
     rw [if_pos hlen] at hl
     have HL := am hl
     have HE := am hlen
     clear hl hlen hn
     go_wp2
     have cc := (blk_cell HD.out.c 8).trans rfl
     have cr := (cz1 HD.out.r).1
     refine start_ (n := 11) (S := fun w' => w'.cell? ⟨gc, 8, none⟩ = some (.slice B7 acc.length d7) ∧ w'.cell? ⟨gr, 0, none⟩ = some (.pointer (some ⟨g, 0, none⟩))) (ds := [10]) #[false, false, false, false, false, false, false, false, false, false, false] (by kernel_rfl) rfl rfl ⟨cc, cr⟩ (fun hHeld => ?_)
     replace HD := am HD.out.drew
     replace HV := am (Kd.R_drew HV.out)
     replace HP := am (Kd.R_drew HP.out)
     clear cc cr
     generalize wr.drew = V1 at HD HV HP hHeld ⊢
     refine hp 0 (some 56) ?_
     refine ht 1 (some 57) hHeld ?_
     refine ht 2 (some 58) hHeld ?_
     refine ht 4 (some 60) hHeld ?_
     refine hcall 3 (some 59) 47 #[.pointer (some ⟨g, 0, none⟩), .int .i64 100] (octet_Reader_Int.calls k g xs ss pp 100 m_ y1 z1 e1 w _ HD.out.i HD.out.b B1.out) ?_
     rintro e V2 ⟨rfl, hi, hb, hk⟩
     replace HV := am (Kd.R_mono (Kd.R_keep (Kd.R_types HV.out HD.out.i.1 (by decide)) hk (fun _ h => h.2)) (fun _ _ => trivial)); replace HP := am (Kd.R_mono (Kd.R_keep (Kd.R_types HP.out HD.out.i.1 (by decide)) hk (fun _ h => h.2)) (fun _ _ => trivial))
     replace HD := am (HD.out.step hi hb hk)
     clear hi hb hk hHeld
     have hHeld := And.intro (show V2.cell? ⟨gc, 8, none⟩ = some (.slice B7 acc.length d7) from (blk_cell HD.out.c 8).trans rfl) (cz1 HD.out.r).1
     refine ⟨_, _, rfl, hHeld, by simp only [Act.put, List.setIfInBounds_toArray, List.set_cons_zero, List.set_cons_succ]; rfl, ?_⟩
     refine hcall 5 (some 61) 49 #[.pointer (some ⟨g, 0, none⟩), .int .i64 64] (octet_Reader_Text.calls k g y1 z1 e1 64 b y2 z2 e2 w _ HD.out.i HD.out.b B2.out) ?_
     rintro e V3 ⟨rfl, hi, hb, hk⟩
     replace HV := am (Kd.R_mono (Kd.R_keep (Kd.R_types HV.out HD.out.i.1 (by decide)) hk (fun _ h => h.2)) (fun _ _ => trivial)); replace HP := am (Kd.R_mono (Kd.R_keep (Kd.R_types HP.out HD.out.i.1 (by decide)) hk (fun _ h => h.2)) (fun _ _ => trivial))
     replace HD := am (HD.out.step hi hb hk)
     clear hi hb hk hHeld
     have hHeld := And.intro (show V3.cell? ⟨gc, 8, none⟩ = some (.slice B7 acc.length d7) from (blk_cell HD.out.c 8).trans rfl) (cz1 HD.out.r).1
     refine ⟨_, _, rfl, hHeld, by simp only [Act.put, List.setIfInBounds_toArray, List.set_cons_zero, List.set_cons_succ]; rfl, ?_⟩
     refine hp 6 (some 62) ?_
     have HD4 := am (HD.out.below (below_alloc (Below.refl _ _) (.cells #[.int .i64 m_, .string b] 62 (0, 0))))
     refine hval 7 (some 63) (.slice (some ⟨V3.heap.size, 0, none⟩) 1 1) (V3.alloc (.cells #[.int .i64 m_, .string b] 62 (0, 0))) ⟨(blk_cell HD4.out.c 8).trans rfl, (cz1 HD4.out.r).1⟩ ?_
     refine one_ (i := 8) (N := some 64) #[true, true, true, true, true, true, true, true, true, false, false] rfl rfl (by kernel_rfl) (by decide) (fun K hK => ?_)
     refine Kd.R_append_step k62 (w0 := w) w.heap.size (by rfl) (.tmp 57) (.tmp 63) 23 62 (.agg #[(.int .i64 0), (.string ⟨#[]⟩)]) 24 rfl Tryd.underlying23 (by kernel_rfl) rfl (by decide) (by omega) (.slice B7 acc.length d7) acc (⟨m_, b⟩ : S62) [.int .i64 m_, .string b] (fun _ => True) (fun _ => False) rfl rfl ?aP (fun _ hk => hk.elim) ?aF ?aO ?aB ?aS ?aL ?_
     (case aP => exact k62_mkM _ _ _ (⟨m_, b⟩ : S62))
     (case aB => exact HD.out.b)
     (case aF => exact (fun _ _ => trivial))
     (case aO => exact HV.out)
     (case aS => exact HD.out.b.size)
     (case aL => have := HE.out; omega)
     intro v2 V5 ho hb hg hat
     replace HD := am (HD.out.grown HV.out hg hb (by decide) (by decide) (by decide) (by decide))
     replace HP := am (cmd_Decode_two HP.out HV.out hg (by decide))
     replace HV := am ho
     clear ho hb hg hat HD4 hHeld
     obtain ⟨B8, d8, e8⟩ := Kd.R_slice HV.out
     rw [show (acc ++ [(⟨m_, b⟩ : S62)]).length = acc.length + 1 by simp] at e8
     subst e8
     refine hK.out _ _ ⟨(blk_cell HD.out.c 8).trans rfl, (cz1 HD.out.r).1⟩ (fun hHeld => ?_)
     clear hK K
     refine norm_ (a' := ?_) ?_ ?_
     rotate_left
     ·
      show Act.put _ (some 64) _ = _
      simp only [Act.put, List.setIfInBounds_toArray, List.set_cons_zero, List.set_cons_succ, i64_w, i32_w]
      rfl
     refine hp 9 (some 65) ?_
     have co : V5.cell? ⟨gc, 8, none⟩ = some (.slice B7 acc.length d7) := (blk_cell HD.out.c 8).trans rfl
     have fo := blk_frozen HD.out.c 8
     refine hstore 10 ?_
     refine done_ (by kernel_rfl) ?_
     clear co fo hHeld
     go_wp2
     go_roundg m
     case measure => omega
     case rel => exact ⟨_, _, _, _, _, _, rfl, am (by rw [HX.out]; have := HN.out; omega), HL, am (HD.out.put (CS' := #[.int .i64 n1, .string t2, .string t3, .string t4, .int .i64 n5, .int .i64 n6, .string t7, .slice B9 l9.length d9, .slice B8 (acc.length + 1) d8]) 8 _ rfl), am (Kd.R_mono (Kd.R_far (p := ⟨gc, 8, none⟩) (Kd.R_types HV.out HD.out.c (by decide)) (fun _ hk => hk.2) _) (fun _ _ => trivial)), am (Kd.R_mono (Kd.R_far (p := ⟨gc, 8, none⟩) (Kd.R_types HP.out HD.out.c (by decide)) (fun _ hk => hk.2) _) (fun _ _ => trivial))⟩
  | succ m =>
   have q1 : decide (x < n8) = true := decide_eq_true (by have := HN.out; omega)
   have HX : Aside0 (wrap64 (x + 1) = x + 1) := am (IntWalk.wrap64_in _ (by have := HN.out; omega))
   have hl := HL.out
   rw [cmd_Decode_l0] at hl
   clear HL
   replace hl := obE hl
   obtain ⟨⟨b, y1, z1, e1⟩, B1, hl⟩ := hl
   try dsimp only at hl
   replace hl := obE hl
   obtain ⟨⟨m_, y2, z2, e2⟩, B2, hl⟩ := hl
   try dsimp only at hl
   try dsimp only at B2
   by_cases hlen : acc.length < 5864062014805
   rotate_left
   ·
    rw [if_neg hlen] at hl
    cases hl
   rw [if_pos hlen] at hl
   have HL := am hl
   have HE := am hlen
   clear hl hlen hn
   go_wp2
   have cc := (blk_cell HD.out.c 7).trans rfl
   have cr := (cz1 HD.out.r).1
   refine start_ (n := 11) (S := fun w' => w'.cell? ⟨gc, 7, none⟩ = some (.slice B7 acc.length d7) ∧ w'.cell? ⟨gr, 0, none⟩ = some (.pointer (some ⟨g, 0, none⟩))) (ds := [10]) #[false, false, false, false, false, false, false, false, false, false, false] (by kernel_rfl) rfl rfl ⟨cc, cr⟩ (fun hHeld => ?_)
   replace HD := am HD.out.drew
   replace HV := am (Kd.R_drew HV.out)
   clear cc cr
   generalize wr.drew = V1 at HD HV hHeld ⊢
   refine hp 0 (some 41) ?_
   refine ht 1 (some 42) hHeld ?_
   refine ht 2 (some 43) hHeld ?_
   refine ht 4 (some 45) hHeld ?_
   refine hcall 3 (some 44) 49 #[.pointer (some ⟨g, 0, none⟩), .int .i64 64] (octet_Reader_Text.calls k g xs ss pp 64 b y1 z1 e1 w _ HD.out.i HD.out.b B1.out) ?_
   rintro e V2 ⟨rfl, hi, hb, hk⟩
   replace HV := am (Kd.R_mono (Kd.R_keep (Kd.R_types HV.out HD.out.i.1 (by decide)) hk (fun _ h => h.2)) (fun _ _ => trivial))
   replace HD := am (HD.out.step hi hb hk)
   clear hi hb hk hHeld
   have hHeld := And.intro (show V2.cell? ⟨gc, 7, none⟩ = some (.slice B7 acc.length d7) from (blk_cell HD.out.c 7).trans rfl) (cz1 HD.out.r).1
   refine ⟨_, _, rfl, hHeld, by simp only [Act.put, List.setIfInBounds_toArray, List.set_cons_zero, List.set_cons_succ]; rfl, ?_⟩
   refine hcall 5 (some 46) 47 #[.pointer (some ⟨g, 0, none⟩), .int .i64 4096] (octet_Reader_Int.calls k g y1 z1 e1 4096 m_ y2 z2 e2 w _ HD.out.i HD.out.b B2.out) ?_
   rintro e V3 ⟨rfl, hi, hb, hk⟩
   replace HV := am (Kd.R_mono (Kd.R_keep (Kd.R_types HV.out HD.out.i.1 (by decide)) hk (fun _ h => h.2)) (fun _ _ => trivial))
   replace HD := am (HD.out.step hi hb hk)
   clear hi hb hk hHeld
   have hHeld := And.intro (show V3.cell? ⟨gc, 7, none⟩ = some (.slice B7 acc.length d7) from (blk_cell HD.out.c 7).trans rfl) (cz1 HD.out.r).1
   refine ⟨_, _, rfl, hHeld, by simp only [Act.put, List.setIfInBounds_toArray, List.set_cons_zero, List.set_cons_succ]; rfl, ?_⟩
   refine hp 6 (some 47) ?_
   have HD4 := am (HD.out.below (below_alloc (Below.refl _ _) (.cells #[.string b, .int .i64 m_] 82 (0, 0))))
   refine hval 7 (some 48) (.slice (some ⟨V3.heap.size, 0, none⟩) 1 1) (V3.alloc (.cells #[.string b, .int .i64 m_] 82 (0, 0))) ⟨(blk_cell HD4.out.c 7).trans rfl, (cz1 HD4.out.r).1⟩ ?_
   refine one_ (i := 8) (N := some 49) #[true, true, true, true, true, true, true, true, true, false, false] rfl rfl (by kernel_rfl) (by decide) (fun K hK => ?_)
   refine Kd.R_append_step k82 (w0 := w) w.heap.size (by rfl) (.tmp 42) (.tmp 48) 22 82 (.agg #[(.string ⟨#[]⟩), (.int .i64 0)]) 24 rfl Tryd.underlying22 (by kernel_rfl) rfl (by decide) (by omega) (.slice B7 acc.length d7) acc (⟨b, m_⟩ : S82) [.string b, .int .i64 m_] (fun _ => True) (fun _ => False) rfl rfl ?aP (fun _ hk => hk.elim) ?aF ?aO ?aB ?aS ?aL ?_
   (case aP => exact k82_mkM _ _ _ (⟨b, m_⟩ : S82))
   (case aB => exact HD.out.b)
   (case aF => exact (fun _ _ => trivial))
   (case aO => exact HV.out)
   (case aS => exact HD.out.b.size)
   (case aL => have := HE.out; omega)
   intro v2 V5 ho hb hg hat
   replace HD := am (HD.out.grown HV.out hg hb (by decide) (by decide) (by decide) (by decide))
   replace HV := am ho
   clear ho hb hg hat HD4 hHeld
   obtain ⟨B8, d8, e8⟩ := Kd.R_slice HV.out
   rw [show (acc ++ [(⟨b, m_⟩ : S82)]).length = acc.length + 1 by simp] at e8
   subst e8
   refine hK.out _ _ ⟨(blk_cell HD.out.c 7).trans rfl, (cz1 HD.out.r).1⟩ (fun hHeld => ?_)
   clear hK K
   refine norm_ (a' := ?_) ?_ ?_
   rotate_left
   ·
    show Act.put _ (some 49) _ = _
    simp only [Act.put, List.setIfInBounds_toArray, List.set_cons_zero, List.set_cons_succ, i64_w, i32_w]
    rfl
   refine hp 9 (some 50) ?_
   have co : V5.cell? ⟨gc, 7, none⟩ = some (.slice B7 acc.length d7) := (blk_cell HD.out.c 7).trans rfl
   have fo := blk_frozen HD.out.c 7
   refine hstore 10 ?_
   refine done_ (by kernel_rfl) ?_
   clear co fo hHeld
   go_wp2
   go_roundg m
   case measure => omega
   case rel => exact ⟨_, _, _, _, _, _, rfl, am (by rw [HX.out]; have := HN.out; omega), HL, am (HD.out.put (CS' := #[.int .i64 n1, .string t2, .string t3, .string t4, .int .i64 n5, .int .i64 n6, .string t7, .slice B8 (acc.length + 1) d8, .slice none 0 0]) 7 _ rfl), am (Kd.R_mono (Kd.R_far (p := ⟨gc, 7, none⟩) (Kd.R_types HV.out HD.out.c (by decide)) (fun _ hk => hk.2) _) (fun _ _ => trivial))⟩
def stowagelaw16_awake.f (k : Nat)  : Option (Bool) := (cmd_Encode.f k 1 (⟨#[]⟩ : ByteArray) (⟨#[111, 110, 101]⟩ : ByteArray) (⟨#[]⟩ : ByteArray) 0 0 (⟨#[]⟩ : ByteArray) ([] : List (S82)) ([] : List (S62))).bind fun bt209 => ((cmd_Decode.f k bt209.1).bind fun bt211 => ((cmd_Digest.f k 1 (⟨#[]⟩ : ByteArray) (⟨#[111, 110, 101]⟩ : ByteArray) (⟨#[]⟩ : ByteArray) 0 0 (⟨#[]⟩ : ByteArray) ([] : List (S82)) ([] : List (S62))).bind fun bt226 => ((cmd_Digest.f k 1 (⟨#[116]⟩ : ByteArray) (⟨#[111, 110, 101]⟩ : ByteArray) (⟨#[]⟩ : ByteArray) 0 0 (⟨#[]⟩ : ByteArray) ([] : List (S82)) ([] : List (S62))).bind fun bt228 => (if bt209.2 = 0 then (if bt211.2.2.2.2.2.2.2.2.2 = 0 then (if bt209.1.toList = ([1, 0, 3, 111, 110, 101] : List UInt8) then (if bt211.2.2.1.toList = ([111, 110, 101] : List UInt8) then (if bt226.2 = 0 then (if bt228.2 = 0 then (if bt226.1.toList = bt228.1.toList then (some ((bt226.1.size : Int) == 64)) else (some false)) else (some false)) else (some false)) else (some false)) else (some false)) else (some false)) else (some false)))))
theorem stowagelaw16_awake.mono : ∀ k, LeO (stowagelaw16_awake.f k ) (stowagelaw16_awake.f (k + 1) ) := by
 intro  k
 unfold stowagelaw16_awake.f
 repeat' (with_reducible first | exact cmd_Decode.mono _ _ | exact cmd_Digest.mono _ _ _ _ _ _ _ _ _ _ | exact cmd_Encode.mono _ _ _ _ _ _ _ _ _ _ | exact LeO.refl _ | exact LeO.none _ | refine LeO.ite ?_ ?_ | refine LeO.bind ?_ (fun _ => ?_))
theorem st9_ {W : World} {g : Nat} {t : TypeId} {a0 a1 a2 a3 a4 a5 a6 a7 a8 : Value} (hr : W.heap[g]? = some (.cells #[a0, a1, a2, a3, a4, a5, a6, a7, a8] t (0, 0))) (u0 u1 u2 u3 u4 u5 u6 u7 u8 : Value) {W' : World}
    (e : (((((((((W.setCell ⟨g, 0, none⟩ u0).setCell ⟨g, 1, none⟩ u1).setCell ⟨g, 2, none⟩ u2).setCell ⟨g, 3, none⟩ u3).setCell ⟨g, 4, none⟩ u4).setCell ⟨g, 5, none⟩ u5).setCell ⟨g, 6, none⟩ u6).setCell ⟨g, 7, none⟩ u7).setCell ⟨g, 8, none⟩ u8) = W') :
    W'.heap[g]? = some (.cells #[u0, u1, u2, u3, u4, u5, u6, u7, u8] t (0, 0)) ∧ (∀ w : World, Below w.heap.size w W → w.heap.size ≤ g → Below w.heap.size w W') ∧ (∀ h cs t1, h ≠ g → W.heap[h]? = some (.cells cs t1 (0, 0)) → W'.heap[h]? = some (.cells cs t1 (0, 0))) := by
  subst e
  have b0 := blk_put (cs' := #[u0, a1, a2, a3, a4, a5, a6, a7, a8]) hr 0 u0 rfl
  have b1 := blk_put (cs' := #[u0, u1, a2, a3, a4, a5, a6, a7, a8]) b0 1 u1 rfl
  have b2 := blk_put (cs' := #[u0, u1, u2, a3, a4, a5, a6, a7, a8]) b1 2 u2 rfl
  have b3 := blk_put (cs' := #[u0, u1, u2, u3, a4, a5, a6, a7, a8]) b2 3 u3 rfl
  have b4 := blk_put (cs' := #[u0, u1, u2, u3, u4, a5, a6, a7, a8]) b3 4 u4 rfl
  have b5 := blk_put (cs' := #[u0, u1, u2, u3, u4, u5, a6, a7, a8]) b4 5 u5 rfl
  have b6 := blk_put (cs' := #[u0, u1, u2, u3, u4, u5, u6, a7, a8]) b5 6 u6 rfl
  have b7 := blk_put (cs' := #[u0, u1, u2, u3, u4, u5, u6, u7, a8]) b6 7 u7 rfl
  have b8 := blk_put (cs' := #[u0, u1, u2, u3, u4, u5, u6, u7, u8]) b7 8 u8 rfl
  refine ⟨b8, ?_, ?_⟩
  · exact fun w hb hl => below_set (below_set (below_set (below_set (below_set (below_set (below_set (below_set (below_set hb hl) hl) hl) hl) hl) hl) hl) hl) hl
  · exact fun h cs t1 hn ho => blk_far (blk_far (blk_far (blk_far (blk_far (blk_far (blk_far (blk_far (blk_far ho hn _) hn _) hn _) hn _) hn _) hn _) hn _) hn _) hn _
theorem c9_ {W : World} {g : Nat} {t : TypeId} {a0 a1 a2 a3 a4 a5 a6 a7 a8 : Value} (h : W.heap[g]? = some (.cells #[a0, a1, a2, a3, a4, a5, a6, a7, a8] t (0, 0))) : W.cell? ⟨g, 0, none⟩ = some a0 ∧ W.cell? ⟨g, 1, none⟩ = some a1 ∧ W.cell? ⟨g, 2, none⟩ = some a2 ∧ W.cell? ⟨g, 3, none⟩ = some a3 ∧ W.cell? ⟨g, 4, none⟩ = some a4 ∧ W.cell? ⟨g, 5, none⟩ = some a5 ∧ W.cell? ⟨g, 6, none⟩ = some a6 ∧ W.cell? ⟨g, 7, none⟩ = some a7 ∧ W.cell? ⟨g, 8, none⟩ = some a8 := by
  exact ⟨(blk_cell h 0).trans rfl, (blk_cell h 1).trans rfl, (blk_cell h 2).trans rfl, (blk_cell h 3).trans rfl, (blk_cell h 4).trans rfl, (blk_cell h 5).trans rfl, (blk_cell h 6).trans rfl, (blk_cell h 7).trans rfl, (blk_cell h 8).trans rfl⟩
theorem f9_ {W : World} {g : Nat} {t : TypeId} {CS : Array Value} (h : W.heap[g]? = some (.cells CS t (0, 0))) : W.frozen? ⟨g, 0, none⟩ = false ∧ W.frozen? ⟨g, 1, none⟩ = false ∧ W.frozen? ⟨g, 2, none⟩ = false ∧ W.frozen? ⟨g, 3, none⟩ = false ∧ W.frozen? ⟨g, 4, none⟩ = false ∧ W.frozen? ⟨g, 5, none⟩ = false ∧ W.frozen? ⟨g, 6, none⟩ = false ∧ W.frozen? ⟨g, 7, none⟩ = false ∧ W.frozen? ⟨g, 8, none⟩ = false :=
  ⟨blk_frozen h 0, blk_frozen h 1, blk_frozen h 2, blk_frozen h 3, blk_frozen h 4, blk_frozen h 5, blk_frozen h 6, blk_frozen h 7, blk_frozen h 8⟩
set_option maxHeartbeats 8000000 in
set_option maxRecDepth 100000 in
theorem stowagelaw16_awake.calls (k : Nat)  (r : Bool) (w : World) (h : stowagelaw16_awake.f k  = some r) (hG : GG w) :
    Calls Tryd.prog 13 #[] w fun e w' => e = .returned (.bool r) ∧ Below w.heap.size w w' := by
 have HG := am hG
 clear hG
 have hu25 := Tryd.underlying25
 have HB := am (Below.refl w.heap.size w)
 have H := h
 clear h
 unfold stowagelaw16_awake.f at H
 replace H := obE H
 obtain ⟨⟨t196, t197⟩, A1, H⟩ := H
 try dsimp only at H
 replace H := obE H
 obtain ⟨⟨t198, t199, t200, t201, t202, t203, t204, t205, t208, t211⟩, A2, H⟩ := H
 try dsimp only at H
 replace H := obE H
 obtain ⟨⟨t213, t214⟩, A3, H⟩ := H
 try dsimp only at H
 replace H := obE H
 obtain ⟨⟨t215, t216⟩, A4, H⟩ := H
 try dsimp only at H
 replace H := am H
 go_enter Tryd.func13, Tryd.ntmps13
 go_upto_region 2 with (first | ((with_reducible refine gate_dst (N := 1) rfl ?_); (try (refine gate_guard (by rfl) ?_; dsimp only)); refine bx 1 #[.int .i64 0, .string (⟨#[]⟩ : ByteArray), .string (⟨#[]⟩ : ByteArray), .string (⟨#[]⟩ : ByteArray), .int .i64 0, .int .i64 0, .string (⟨#[]⟩ : ByteArray), .slice none 0 0, .slice none 0 0] 25 ?_; intro gc hg w1 hbox hb; have BKgc := am (hbox); have GEgc := am ((by rw [hg]; exact HB.out.size : w.heap.size ≤ gc)); replace HB := am (below_step HB.out hb); clear hb hbox hg; obtain ⟨z0, z1, z2, z3, z4, z5, z6, z7, z8⟩ := c9_ BKgc.out; obtain ⟨y0, y1, y2, y3, y4, y5, y6, y7, y8⟩ := f9_ BKgc.out))
 generalize hW : ((((((((w1.setCell ⟨gc, 0, none⟩ (.int .i64 1)).setCell ⟨gc, 1, none⟩ (.string (⟨#[]⟩ : ByteArray))).setCell ⟨gc, 2, none⟩ (.string (⟨#[111, 110, 101]⟩ : ByteArray))).setCell ⟨gc, 3, none⟩ (.string (⟨#[]⟩ : ByteArray))).setCell ⟨gc, 4, none⟩ (.int .i64 0)).setCell ⟨gc, 5, none⟩ (.int .i64 0)).setCell ⟨gc, 6, none⟩ (.string (⟨#[]⟩ : ByteArray))).setCell ⟨gc, 7, none⟩ (.slice none 0 0)).setCell ⟨gc, 8, none⟩ (.slice none 0 0) = W
 obtain ⟨q1, q2, -⟩ := st9_ BKgc.out _ _ _ _ _ _ _ _ _ hW
 replace BKgc := am q1
 replace HB := am (q2 _ HB.out GEgc.out)
 clear hW q1 q2 z0 z1 z2 z3 z4 z5 z6 z7 z8 y0 y1 y2 y3 y4 y5 y6 y7 y8 w1
 obtain ⟨z0, z1, z2, z3, z4, z5, z6, z7, z8⟩ := c9_ BKgc.out
 obtain ⟨y0, y1, y2, y3, y4, y5, y6, y7, y8⟩ := f9_ BKgc.out
 go_upto_region 4 with (first | (go_at_call 8; (refine (cmd_Encode.calls k 1 (⟨#[]⟩ : ByteArray) (⟨#[111, 110, 101]⟩ : ByteArray) (⟨#[]⟩ : ByteArray) 0 0 (⟨#[]⟩ : ByteArray) _ _ ([] : List (S82)) _ _ ([] : List (S62)) t196 t197 _ ?side1 ?side2 ?side3 ?side4 A1.out ?sideG).mono ?_); (case sideG => exact gg_below HG.out HB.out); (case side1 => exact Kd.C_nil _ _); (case side2 => exact Nat.le_refl _); (case side3 => exact Kd.C_nil _ _); (case side4 => exact Nat.le_refl _); rintro e w2 ⟨rfl, hb⟩; (try dsimp only); replace BKgc := am (blk_below BKgc.out hb); replace HB := am (below_step HB.out hb); clear hb z0 z1 z2 z3 z4 z5 z6 z7 z8 y0 y1 y2 y3 y4 y5 y6 y7 y8) | (go_at_call 16; (with_reducible refine (cmd_Decode.calls k t196 t198 t199 t200 t201 t202 t203 t204 t205 t208 t211 _ A2.out ?sideG).mono ?_); (case sideG => exact gg_below HG.out HB.out); rintro e w3 ⟨v206, v209, rfl, ho0, ho1, hb⟩; (try dsimp only); obtain ⟨Ao19, co19, rfl⟩ := Kd.R_slice ho0; obtain ⟨Ao20, co20, rfl⟩ := Kd.R_slice ho1; replace BKgc := am (blk_below BKgc.out hb); replace HB := am (below_step HB.out hb); clear hb ho0 ho1) | ((with_reducible refine gate_dst (N := 4) rfl ?_); (try (refine gate_guard (by rfl) ?_; dsimp only)); refine bx 4 #[.int .i64 0, .string (⟨#[]⟩ : ByteArray), .string (⟨#[]⟩ : ByteArray), .string (⟨#[]⟩ : ByteArray), .int .i64 0, .int .i64 0, .string (⟨#[]⟩ : ByteArray), .slice none 0 0, .slice none 0 0] 25 ?_; intro gd hg w4 hbox hb; have BKgd := am (hbox); have GEgd := am ((by rw [hg]; exact HB.out.size : w.heap.size ≤ gd)); have NE := am ((by rw [hg]; exact Nat.ne_of_lt (blk_lt BKgc.out) : gc ≠ gd)); replace BKgc := am (blk_below BKgc.out hb); replace HB := am (below_step HB.out hb); clear hb hbox hg; obtain ⟨z0, z1, z2, z3, z4, z5, z6, z7, z8⟩ := c9_ BKgd.out; obtain ⟨y0, y1, y2, y3, y4, y5, y6, y7, y8⟩ := f9_ BKgd.out))
 generalize hW : ((((((((w4.setCell ⟨gd, 0, none⟩ (.int .i64 t198)).setCell ⟨gd, 1, none⟩ (.string t199)).setCell ⟨gd, 2, none⟩ (.string t200)).setCell ⟨gd, 3, none⟩ (.string t201)).setCell ⟨gd, 4, none⟩ (.int .i64 t202)).setCell ⟨gd, 5, none⟩ (.int .i64 t203)).setCell ⟨gd, 6, none⟩ (.string t204)).setCell ⟨gd, 7, none⟩ (.slice Ao19 t205.length co19)).setCell ⟨gd, 8, none⟩ (.slice Ao20 t208.length co20) = V
 obtain ⟨q1, q2, q3⟩ := st9_ BKgd.out _ _ _ _ _ _ _ _ _ hW
 replace BKgd := am q1
 replace HB := am (q2 _ HB.out GEgd.out)
 replace BKgc := am (q3 _ _ _ NE.out BKgc.out)
 clear hW q1 q2 q3 z0 z1 z2 z3 z4 z5 z6 z7 z8 y0 y1 y2 y3 y4 y5 y6 y7 y8 w4
 obtain ⟨z0, z1, z2, z3, z4, z5, z6, z7, z8⟩ := c9_ BKgc.out
 obtain ⟨y0, y1, y2, y3, y4, y5, y6, y7, y8⟩ := f9_ BKgc.out
 go_upto_region 5 with (first | (go_at_call 11; (refine (cmd_Digest.calls k 1 (⟨#[]⟩ : ByteArray) (⟨#[111, 110, 101]⟩ : ByteArray) (⟨#[]⟩ : ByteArray) 0 0 (⟨#[]⟩ : ByteArray) _ _ ([] : List (S82)) _ _ ([] : List (S62)) t213 t214 _ ?side1 ?side2 ?side3 ?side4 A3.out ?sideG).mono ?_); (case sideG => exact gg_below HG.out (by first | exact HB.out | exact below_set HB.out GEgc.out)); (case side1 => exact Kd.C_nil _ _); (case side2 => exact Nat.le_refl _); (case side3 => exact Kd.C_nil _ _); (case side4 => exact Nat.le_refl _); rintro e w5 ⟨rfl, hb⟩; (try dsimp only); replace BKgc := am (blk_below BKgc.out hb); replace BKgd := am (blk_below BKgd.out hb); replace HB := am (below_step HB.out hb); clear hb A3 z0 z1 z2 z3 z4 z5 z6 z7 z8 y0 y1 y2 y3 y4 y5 y6 y7 y8; obtain ⟨z0, z1, z2, z3, z4, z5, z6, z7, z8⟩ := c9_ BKgc.out; obtain ⟨y0, y1, y2, y3, y4, y5, y6, y7, y8⟩ := f9_ BKgc.out))
 go_upto_region 6 with (fail)
 generalize hW : w5.setCell ⟨gc, 1, none⟩ (.string (⟨#[116]⟩ : ByteArray)) = V2
 replace HB := am (hW ▸ below_set HB.out GEgc.out)
 replace BKgd := am (hW ▸ blk_far BKgd.out (Ne.symm NE.out) _)
 replace BKgc := am (hW ▸ blk_put (cs' := #[.int .i64 1, .string (⟨#[116]⟩ : ByteArray), .string (⟨#[111, 110, 101]⟩ : ByteArray), .string (⟨#[]⟩ : ByteArray), .int .i64 0, .int .i64 0, .string (⟨#[]⟩ : ByteArray), .slice none 0 0, .slice none 0 0]) BKgc.out 1 _ rfl)
 clear hW z0 z1 z2 z3 z4 z5 z6 z7 z8 y0 y1 y2 y3 y4 y5 y6 y7 y8 w5
 obtain ⟨z0, z1, z2, z3, z4, z5, z6, z7, z8⟩ := c9_ BKgc.out
 obtain ⟨y0, y1, y2, y3, y4, y5, y6, y7, y8⟩ := f9_ BKgc.out
 go_upto_region 7 with (first | (go_at_call 11; (refine (cmd_Digest.calls k 1 (⟨#[116]⟩ : ByteArray) (⟨#[111, 110, 101]⟩ : ByteArray) (⟨#[]⟩ : ByteArray) 0 0 (⟨#[]⟩ : ByteArray) _ _ ([] : List (S82)) _ _ ([] : List (S62)) t215 t216 _ ?side1 ?side2 ?side3 ?side4 A4.out ?sideG).mono ?_); (case sideG => exact gg_below HG.out (by first | exact HB.out | exact below_set HB.out GEgc.out)); (case side1 => exact Kd.C_nil _ _); (case side2 => exact Nat.le_refl _); (case side3 => exact Kd.C_nil _ _); (case side4 => exact Nat.le_refl _); rintro e w6 ⟨rfl, hb⟩; (try dsimp only); replace BKgd := am (blk_below BKgd.out hb); replace HB := am (below_step HB.out hb); clear hb A4 BKgc z0 z1 z2 z3 z4 z5 z6 z7 z8 y0 y1 y2 y3 y4 y5 y6 y7 y8; obtain ⟨z0, z1, z2, z3, z4, z5, z6, z7, z8⟩ := c9_ BKgd.out))
 replace H := H.out
 by_cases c5 : t197 = 0
 ·
  rw [if_pos c5] at H
  have c5b0 := beq_iff_eq.mpr c5
  have c5b1 := bne_eq_false_iff_eq.mpr c5
  clear c5
  by_cases c6 : t211 = 0
  ·
   rw [if_pos c6] at H
   have c6b0 := beq_iff_eq.mpr c6
   have c6b1 := bne_eq_false_iff_eq.mpr c6
   clear c6
   by_cases c7 : t196.toList = ([1, 0, 3, 111, 110, 101] : List UInt8)
   ·
    rw [if_pos c7] at H
    have c7b0 := beq_iff_eq.mpr c7
    have c7b1 := bne_eq_false_iff_eq.mpr c7
    clear c7
    by_cases c8 : t200.toList = ([111, 110, 101] : List UInt8)
    ·
     rw [if_pos c8] at H
     have c8b0 := beq_iff_eq.mpr c8
     have c8b1 := bne_eq_false_iff_eq.mpr c8
     clear c8
     by_cases c9 : t214 = 0
     ·
      rw [if_pos c9] at H
      have c9b0 := beq_iff_eq.mpr c9
      have c9b1 := bne_eq_false_iff_eq.mpr c9
      clear c9
      by_cases c10 : t216 = 0
      ·
       rw [if_pos c10] at H
       have c10b0 := beq_iff_eq.mpr c10
       have c10b1 := bne_eq_false_iff_eq.mpr c10
       clear c10
       by_cases c11 : t213.toList = t215.toList
       ·
        rw [if_pos c11] at H
        have c11b0 := beq_iff_eq.mpr c11
        have c11b1 := bne_eq_false_iff_eq.mpr c11
        clear c11
        obtain rfl := Option.some.inj H
        go_wp2
        go_ret
        exact ⟨rf, HB.out⟩
       ·
        rw [if_neg c11] at H
        have c11b0 := beq_eq_false_iff_ne.mpr c11
        have c11b1 := bne_iff_ne.mpr c11
        clear c11
        obtain rfl := Option.some.inj H
        go_wp2
        go_ret
        exact ⟨rf, HB.out⟩
      ·
       rw [if_neg c10] at H
       have c10b0 := beq_eq_false_iff_ne.mpr c10
       have c10b1 := bne_iff_ne.mpr c10
       clear c10
       obtain rfl := Option.some.inj H
       go_wp2
       go_ret
       exact ⟨rf, HB.out⟩
     ·
      rw [if_neg c9] at H
      have c9b0 := beq_eq_false_iff_ne.mpr c9
      have c9b1 := bne_iff_ne.mpr c9
      clear c9
      obtain rfl := Option.some.inj H
      go_wp2
      go_ret
      exact ⟨rf, HB.out⟩
    ·
     rw [if_neg c8] at H
     have c8b0 := beq_eq_false_iff_ne.mpr c8
     have c8b1 := bne_iff_ne.mpr c8
     clear c8
     obtain rfl := Option.some.inj H
     go_wp2
     go_ret
     exact ⟨rf, HB.out⟩
   ·
    rw [if_neg c7] at H
    have c7b0 := beq_eq_false_iff_ne.mpr c7
    have c7b1 := bne_iff_ne.mpr c7
    clear c7
    obtain rfl := Option.some.inj H
    go_wp2
    go_ret
    exact ⟨rf, HB.out⟩
  ·
   rw [if_neg c6] at H
   have c6b0 := beq_eq_false_iff_ne.mpr c6
   have c6b1 := bne_iff_ne.mpr c6
   clear c6
   obtain rfl := Option.some.inj H
   go_wp2
   go_ret
   exact ⟨rf, HB.out⟩
 ·
  rw [if_neg c5] at H
  have c5b0 := beq_eq_false_iff_ne.mpr c5
  have c5b1 := bne_iff_ne.mpr c5
  clear c5
  obtain rfl := Option.some.inj H
  go_wp2
  go_ret
  exact ⟨rf, HB.out⟩
end Go.Proofs.YtdidopoalmkhlaaDoor.Ob
end
section
namespace Go.Proofs.YtdidopoalmkhlaaDoor.Ob
open Go.RowKit Go.Proofs.YtdidopoalmkhlaaDoorW.PrintWords Go.Proofs.YtdidopoalmkhlaaDoorW.PrintLast Go.Proofs.YtdidopoalmkhlaaDoorW.PrintMore
attribute [local go_sem] max2_int min2_int max_two min_two max_three min_three max_four min_four
set_option linter.unusedVariables false
set_option linter.unusedSimpArgs false
attribute [local go_sem high] eqA61 eqA95
mutual
def stowageref16_Same.j0 : Nat → Bool → Int → ByteArray → ByteArray → ByteArray → Int → Int → ByteArray → List (S95) → List (S61) → Int → ByteArray → ByteArray → ByteArray → Int → Int → ByteArray → List (S95) → List (S61) → Option (Bool)
 | 0, _, _, _, _, _, _, _, _, _, _, _, _, _, _, _, _, _, _, _ => none
 | k + 1, x71, x231000, x231001, x231002, x231003, x231004, x231005, x231006, x231007, x231008, x232000, x232001, x232002, x232003, x232004, x232005, x232006, x232007, x232008 => if x71 = true then (some false) else (stowageref16_Same.l0 k 0 x231000 x231001 x231002 x231003 x231004 x231005 x231006 x231007 x231008 x232000 x232001 x232002 x232003 x232004 x232005 x232006 x232007 x232008)
def stowageref16_Same.l0 : Nat → Int → Int → ByteArray → ByteArray → ByteArray → Int → Int → ByteArray → List (S95) → List (S61) → Int → ByteArray → ByteArray → ByteArray → Int → Int → ByteArray → List (S95) → List (S61) → Option (Bool)
 | 0, _, _, _, _, _, _, _, _, _, _, _, _, _, _, _, _, _, _, _ => none
 | k + 1, x5, x231000, x231001, x231002, x231003, x231004, x231005, x231006, x231007, x231008, x232000, x232001, x232002, x232003, x232004, x232005, x232006, x232007, x232008 => if x5 < (x231007.length : Int) then (if 0 ≤ x5 then (if x5 < (x232007.length : Int) then (if (!((((rd_T95 x231007 x5).f0).toList) == (((rd_T95 x232007 x5).f0).toList)) || (!(((rd_T95 x231007 x5).f1) == ((rd_T95 x232007 x5).f1)))) = true then (some false) else (stowageref16_Same.l0 k (wrap64 (x5 + 1)) x231000 x231001 x231002 x231003 x231004 x231005 x231006 x231007 x231008 x232000 x232001 x232002 x232003 x232004 x232005 x232006 x232007 x232008)) else (none)) else (none)) else (stowageref16_Same.l1 k 0 x231000 x231001 x231002 x231003 x231004 x231005 x231006 x231007 x231008 x232000 x232001 x232002 x232003 x232004 x232005 x232006 x232007 x232008)
def stowageref16_Same.l1 : Nat → Int → Int → ByteArray → ByteArray → ByteArray → Int → Int → ByteArray → List (S95) → List (S61) → Int → ByteArray → ByteArray → ByteArray → Int → Int → ByteArray → List (S95) → List (S61) → Option (Bool)
 | 0, _, _, _, _, _, _, _, _, _, _, _, _, _, _, _, _, _, _, _ => none
 | k + 1, x6, x231000, x231001, x231002, x231003, x231004, x231005, x231006, x231007, x231008, x232000, x232001, x232002, x232003, x232004, x232005, x232006, x232007, x232008 => if x6 < (x231008.length : Int) then (if 0 ≤ x6 then (if x6 < (x232008.length : Int) then (if (!(((rd_T61 x231008 x6).f0) == ((rd_T61 x232008 x6).f0)) || (!((((rd_T61 x231008 x6).f1).toList) == (((rd_T61 x232008 x6).f1).toList)))) = true then (some false) else (stowageref16_Same.l1 k (wrap64 (x6 + 1)) x231000 x231001 x231002 x231003 x231004 x231005 x231006 x231007 x231008 x232000 x232001 x232002 x232003 x232004 x232005 x232006 x232007 x232008)) else (none)) else (none)) else (some true)
end
def stowageref16_Same.f (k : Nat) (a0_0 : Int) (a0_1 : ByteArray) (a0_2 : ByteArray) (a0_3 : ByteArray) (a0_4 : Int) (a0_5 : Int) (a0_6 : ByteArray) (l0_7 : List (S95)) (l0_8 : List (S61)) (a1_0 : Int) (a1_1 : ByteArray) (a1_2 : ByteArray) (a1_3 : ByteArray) (a1_4 : Int) (a1_5 : Int) (a1_6 : ByteArray) (l1_7 : List (S95)) (l1_8 : List (S61)) : Option (Bool) := if a0_0 = a1_0 then (if a0_1.toList = a1_1.toList then (if a0_2.toList = a1_2.toList then (if a0_3.toList = a1_3.toList then (if a0_4 = a1_4 then (if a0_5 = a1_5 then (if a0_6.toList = a1_6.toList then (if (l0_7.length : Int) = (l1_7.length : Int) then (stowageref16_Same.j0 k ((l0_8.length : Int) != (l1_8.length : Int)) a0_0 a0_1 a0_2 a0_3 a0_4 a0_5 a0_6 l0_7 l0_8 a1_0 a1_1 a1_2 a1_3 a1_4 a1_5 a1_6 l1_7 l1_8) else (stowageref16_Same.j0 k true a0_0 a0_1 a0_2 a0_3 a0_4 a0_5 a0_6 l0_7 l0_8 a1_0 a1_1 a1_2 a1_3 a1_4 a1_5 a1_6 l1_7 l1_8)) else (stowageref16_Same.j0 k true a0_0 a0_1 a0_2 a0_3 a0_4 a0_5 a0_6 l0_7 l0_8 a1_0 a1_1 a1_2 a1_3 a1_4 a1_5 a1_6 l1_7 l1_8)) else (stowageref16_Same.j0 k true a0_0 a0_1 a0_2 a0_3 a0_4 a0_5 a0_6 l0_7 l0_8 a1_0 a1_1 a1_2 a1_3 a1_4 a1_5 a1_6 l1_7 l1_8)) else (stowageref16_Same.j0 k true a0_0 a0_1 a0_2 a0_3 a0_4 a0_5 a0_6 l0_7 l0_8 a1_0 a1_1 a1_2 a1_3 a1_4 a1_5 a1_6 l1_7 l1_8)) else (stowageref16_Same.j0 k true a0_0 a0_1 a0_2 a0_3 a0_4 a0_5 a0_6 l0_7 l0_8 a1_0 a1_1 a1_2 a1_3 a1_4 a1_5 a1_6 l1_7 l1_8)) else (stowageref16_Same.j0 k true a0_0 a0_1 a0_2 a0_3 a0_4 a0_5 a0_6 l0_7 l0_8 a1_0 a1_1 a1_2 a1_3 a1_4 a1_5 a1_6 l1_7 l1_8)) else (stowageref16_Same.j0 k true a0_0 a0_1 a0_2 a0_3 a0_4 a0_5 a0_6 l0_7 l0_8 a1_0 a1_1 a1_2 a1_3 a1_4 a1_5 a1_6 l1_7 l1_8)) else (stowageref16_Same.j0 k true a0_0 a0_1 a0_2 a0_3 a0_4 a0_5 a0_6 l0_7 l0_8 a1_0 a1_1 a1_2 a1_3 a1_4 a1_5 a1_6 l1_7 l1_8)
theorem stowageref16_Same.mono_l : ∀ k, (∀ y0 y1 y2 y3 y4 y5 y6 y7 y8 y9 y10 y11 y12 y13 y14 y15 y16 y17 y18, LeO (stowageref16_Same.j0 k y0 y1 y2 y3 y4 y5 y6 y7 y8 y9 y10 y11 y12 y13 y14 y15 y16 y17 y18) (stowageref16_Same.j0 (k + 1) y0 y1 y2 y3 y4 y5 y6 y7 y8 y9 y10 y11 y12 y13 y14 y15 y16 y17 y18)) ∧ (∀ y0 y1 y2 y3 y4 y5 y6 y7 y8 y9 y10 y11 y12 y13 y14 y15 y16 y17 y18, LeO (stowageref16_Same.l0 k y0 y1 y2 y3 y4 y5 y6 y7 y8 y9 y10 y11 y12 y13 y14 y15 y16 y17 y18) (stowageref16_Same.l0 (k + 1) y0 y1 y2 y3 y4 y5 y6 y7 y8 y9 y10 y11 y12 y13 y14 y15 y16 y17 y18)) ∧ (∀ y0 y1 y2 y3 y4 y5 y6 y7 y8 y9 y10 y11 y12 y13 y14 y15 y16 y17 y18, LeO (stowageref16_Same.l1 k y0 y1 y2 y3 y4 y5 y6 y7 y8 y9 y10 y11 y12 y13 y14 y15 y16 y17 y18) (stowageref16_Same.l1 (k + 1) y0 y1 y2 y3 y4 y5 y6 y7 y8 y9 y10 y11 y12 y13 y14 y15 y16 y17 y18))
 | 0 => ⟨fun _ _ _ _ _ _ _ _ _ _ _ _ _ _ _ _ _ _ _ r h => by simp [stowageref16_Same.j0] at h, fun _ _ _ _ _ _ _ _ _ _ _ _ _ _ _ _ _ _ _ r h => by simp [stowageref16_Same.l0] at h, fun _ _ _ _ _ _ _ _ _ _ _ _ _ _ _ _ _ _ _ r h => by simp [stowageref16_Same.l1] at h⟩
 | k + 1 => by
  obtain ⟨ih0, ih1, ih2⟩ := stowageref16_Same.mono_l k
  refine ⟨?_, ?_, ?_⟩
  all_goals intros
  all_goals first | unfold stowageref16_Same.j0 | unfold stowageref16_Same.l0 | unfold stowageref16_Same.l1
  all_goals repeat' (with_reducible first | exact ih0 _ _ _ _ _ _ _ _ _ _ _ _ _ _ _ _ _ _ _ | exact ih1 _ _ _ _ _ _ _ _ _ _ _ _ _ _ _ _ _ _ _ | exact ih2 _ _ _ _ _ _ _ _ _ _ _ _ _ _ _ _ _ _ _ | exact LeO.refl _ | exact LeO.none _ | refine LeO.ite ?_ ?_ | refine LeO.bind ?_ (fun _ => ?_))
theorem stowageref16_Same.mono : ∀ a0 a1 a2 a3 a4 a5 a6 a7 a8 a9 a10 a11 a12 a13 a14 a15 a16 a17 k, LeO (stowageref16_Same.f k a0 a1 a2 a3 a4 a5 a6 a7 a8 a9 a10 a11 a12 a13 a14 a15 a16 a17) (stowageref16_Same.f (k + 1) a0 a1 a2 a3 a4 a5 a6 a7 a8 a9 a10 a11 a12 a13 a14 a15 a16 a17) := by
 intro a0 a1 a2 a3 a4 a5 a6 a7 a8 a9 a10 a11 a12 a13 a14 a15 a16 a17 k
 obtain ⟨ih0, ih1, ih2⟩ := stowageref16_Same.mono_l k
 unfold stowageref16_Same.f
 repeat' (with_reducible first | exact ih0 _ _ _ _ _ _ _ _ _ _ _ _ _ _ _ _ _ _ _ | exact ih1 _ _ _ _ _ _ _ _ _ _ _ _ _ _ _ _ _ _ _ | exact ih2 _ _ _ _ _ _ _ _ _ _ _ _ _ _ _ _ _ _ _ | exact LeO.refl _ | exact LeO.none _ | refine LeO.ite ?_ ?_ | refine LeO.bind ?_ (fun _ => ?_))
set_option maxHeartbeats 8000000 in
set_option maxRecDepth 100000 in
theorem stowageref16_Same.calls (k : Nat) (a0_0 : Int) (a0_1 : ByteArray) (a0_2 : ByteArray) (a0_3 : ByteArray) (a0_4 : Int) (a0_5 : Int) (a0_6 : ByteArray) (A0_7 : Option Addr) (c0_7 : Nat) (l0_7 : List (S95)) (A0_8 : Option Addr) (c0_8 : Nat) (l0_8 : List (S61)) (a1_0 : Int) (a1_1 : ByteArray) (a1_2 : ByteArray) (a1_3 : ByteArray) (a1_4 : Int) (a1_5 : Int) (a1_6 : ByteArray) (A1_7 : Option Addr) (c1_7 : Nat) (l1_7 : List (S95)) (A1_8 : Option Addr) (c1_8 : Nat) (l1_8 : List (S61)) (r : Bool) (w : World) (hr0_7 : Kd.C k95 w A0_7 l0_7.length l0_7) (hc0_7 : l0_7.length ≤ c0_7) (hr0_8 : Kd.C k61 w A0_8 l0_8.length l0_8) (hc0_8 : l0_8.length ≤ c0_8) (hr1_7 : Kd.C k95 w A1_7 l1_7.length l1_7) (hc1_7 : l1_7.length ≤ c1_7) (hr1_8 : Kd.C k61 w A1_8 l1_8.length l1_8) (hc1_8 : l1_8.length ≤ c1_8) (h : stowageref16_Same.f k a0_0 a0_1 a0_2 a0_3 a0_4 a0_5 a0_6 l0_7 l0_8 a1_0 a1_1 a1_2 a1_3 a1_4 a1_5 a1_6 l1_7 l1_8 = some r) :
  Calls Tryd.prog 18 #[.agg #[.int .i64 a0_0, .string a0_1, .string a0_2, .string a0_3, .int .i64 a0_4, .int .i64 a0_5, .string a0_6, .slice A0_7 l0_7.length c0_7, .slice A0_8 l0_8.length c0_8], .agg #[.int .i64 a1_0, .string a1_1, .string a1_2, .string a1_3, .int .i64 a1_4, .int .i64 a1_5, .string a1_6, .slice A1_7 l1_7.length c1_7, .slice A1_8 l1_8.length c1_8]] w fun e w' => e = .returned (.bool r) ∧ Below w.heap.size w w' := by
 have hu34 := Tryd.underlying34
 have hu95 := Tryd.underlying95
 have hu61 := Tryd.underlying61
 have HR0_7 := am hr0_7
 have HC0_7 := am hc0_7
 clear hr0_7 hc0_7
 have HR0_8 := am hr0_8
 have HC0_8 := am hc0_8
 clear hr0_8 hc0_8
 have HR1_7 := am hr1_7
 have HC1_7 := am hc1_7
 clear hr1_7 hc1_7
 have HR1_8 := am hr1_8
 have HC1_8 := am hc1_8
 clear hr1_8 hc1_8
 have HB := am (Below.refl w.heap.size w)
 have H := h
 clear h
 unfold stowageref16_Same.f at H
 have HC3 := am H
 clear H
 go_enter Tryd.func18, Tryd.ntmps18
 go_upto_region 1 with (first | ((with_reducible refine gate_dst (N := 2) rfl ?_); (try (refine gate_guard (by rfl) ?_; dsimp only)); refine bx 2 #[.int .i64 a0_0, .string a0_1, .string a0_2, .string a0_3, .int .i64 a0_4, .int .i64 a0_5, .string a0_6, .slice A0_7 l0_7.length c0_7, .slice A0_8 l0_8.length c0_8] 34 ?_; intro gb230 hg w4 hbox hb; have BK230 := am (hbox); have GW230 := gsz hg HB.out; have GE230 := gsz hg HB.out; replace HB := am (below_step (bw HB.out) hb); clear hb hbox hg) | ((with_reducible refine gate_dst (N := 3) rfl ?_); (try (refine gate_guard (by rfl) ?_; dsimp only)); refine bx 3 #[.int .i64 a1_0, .string a1_1, .string a1_2, .string a1_3, .int .i64 a1_4, .int .i64 a1_5, .string a1_6, .slice A1_7 l1_7.length c1_7, .slice A1_8 l1_8.length c1_8] 34 ?_; intro gb231 hg w5 hbox hb; have BK231 := am (hbox); have GW231 := gsz hg HB.out; have GE231 := gsz hg HB.out; have NB230_231 := nlt (g := gb230) hg BK230.out; have NB231_230 := ngt (g := gb230) hg BK230.out; replace BK230 := bb BK230.out hb; replace HB := am (below_step (bws HB.out) hb); clear hb hbox hg))
 repeat (go_quiet (first | ((with_reducible refine gate_dst (N := 2) rfl ?_); (try (refine gate_guard (by rfl) ?_; dsimp only)); refine bx 2 #[.int .i64 a0_0, .string a0_1, .string a0_2, .string a0_3, .int .i64 a0_4, .int .i64 a0_5, .string a0_6, .slice A0_7 l0_7.length c0_7, .slice A0_8 l0_8.length c0_8] 34 ?_; intro gb230 hg w4 hbox hb; have BK230 := am (hbox); have GW230 := gsz hg HB.out; have GE230 := gsz hg HB.out; replace HB := am (below_step (bw HB.out) hb); clear hb hbox hg) | ((with_reducible refine gate_dst (N := 3) rfl ?_); (try (refine gate_guard (by rfl) ?_; dsimp only)); refine bx 3 #[.int .i64 a1_0, .string a1_1, .string a1_2, .string a1_3, .int .i64 a1_4, .int .i64 a1_5, .string a1_6, .slice A1_7 l1_7.length c1_7, .slice A1_8 l1_8.length c1_8] 34 ?_; intro gb231 hg w5 hbox hb; have BK231 := am (hbox); have GW231 := gsz hg HB.out; have GE231 := gsz hg HB.out; have NB230_231 := nlt (g := gb230) hg BK230.out; have NB231_230 := ngt (g := gb230) hg BK230.out; replace BK230 := bb BK230.out hb; replace HB := am (below_step (bws HB.out) hb); clear hb hbox hg)); go_upto_region 1 with (first | ((with_reducible refine gate_dst (N := 2) rfl ?_); (try (refine gate_guard (by rfl) ?_; dsimp only)); refine bx 2 #[.int .i64 a0_0, .string a0_1, .string a0_2, .string a0_3, .int .i64 a0_4, .int .i64 a0_5, .string a0_6, .slice A0_7 l0_7.length c0_7, .slice A0_8 l0_8.length c0_8] 34 ?_; intro gb230 hg w4 hbox hb; have BK230 := am (hbox); have GW230 := gsz hg HB.out; have GE230 := gsz hg HB.out; replace HB := am (below_step (bw HB.out) hb); clear hb hbox hg) | ((with_reducible refine gate_dst (N := 3) rfl ?_); (try (refine gate_guard (by rfl) ?_; dsimp only)); refine bx 3 #[.int .i64 a1_0, .string a1_1, .string a1_2, .string a1_3, .int .i64 a1_4, .int .i64 a1_5, .string a1_6, .slice A1_7 l1_7.length c1_7, .slice A1_8 l1_8.length c1_8] 34 ?_; intro gb231 hg w5 hbox hb; have BK231 := am (hbox); have GW231 := gsz hg HB.out; have GE231 := gsz hg HB.out; have NB230_231 := nlt (g := gb230) hg BK230.out; have NB231_230 := ngt (g := gb230) hg BK230.out; replace BK230 := bb BK230.out hb; replace HB := am (below_step (bws HB.out) hb); clear hb hbox hg)))
 (try simp only [Act.put, List.setIfInBounds_toArray, List.set_cons_zero, List.set_cons_succ])
 go_cut [71] (fun v71 wc => ∃ (kq : Nat) (x71_2 : Bool), v71 = .bool x71_2 ∧ Aside0 (stowageref16_Same.j0 kq x71_2 a0_0 a0_1 a0_2 a0_3 a0_4 a0_5 a0_6 l0_7 l0_8 a1_0 a1_1 a1_2 a1_3 a1_4 a1_5 a1_6 l1_7 l1_8 = some r) ∧ Aside0 (kq ≤ k) ∧ Aside0 (wc.heap[gb230]? = some (.cells #[.int .i64 a0_0, .string a0_1, .string a0_2, .string a0_3, .int .i64 a0_4, .int .i64 a0_5, .string a0_6, (.slice A0_7 l0_7.length c0_7), (.slice A0_8 l0_8.length c0_8)] 34 (0, 0))) ∧ Aside0 (wc.heap[gb231]? = some (.cells #[.int .i64 a1_0, .string a1_1, .string a1_2, .string a1_3, .int .i64 a1_4, .int .i64 a1_5, .string a1_6, (.slice A1_7 l1_7.length c1_7), (.slice A1_8 l1_8.length c1_8)] 34 (0, 0))) ∧ Aside0 (Below w.heap.size w wc))
 case first =>
  have H := HC3.out
  clear HC3
  by_cases c6 : a0_0 = a1_0
  ·
   rw [if_pos c6] at H
   have c6b0 := beq_iff_eq.mpr c6
   have c6b1 := bne_eq_false_iff_eq.mpr c6
   clear c6
   (first | rw [c6b0] | (simp only [i64_w, i32_w]; rw [c6b0]) | skip)
   by_cases c7 : a0_1.toList = a1_1.toList
   ·
    rw [if_pos c7] at H
    have c7b0 := beq_iff_eq.mpr c7
    have c7b1 := bne_eq_false_iff_eq.mpr c7
    clear c7
    by_cases c8 : a0_2.toList = a1_2.toList
    ·
     rw [if_pos c8] at H
     have c8b0 := beq_iff_eq.mpr c8
     have c8b1 := bne_eq_false_iff_eq.mpr c8
     clear c8
     by_cases c9 : a0_3.toList = a1_3.toList
     ·
      rw [if_pos c9] at H
      have c9b0 := beq_iff_eq.mpr c9
      have c9b1 := bne_eq_false_iff_eq.mpr c9
      clear c9
      by_cases c10 : a0_4 = a1_4
      ·
       rw [if_pos c10] at H
       have c10b0 := beq_iff_eq.mpr c10
       have c10b1 := bne_eq_false_iff_eq.mpr c10
       clear c10
       by_cases c11 : a0_5 = a1_5
       ·
        rw [if_pos c11] at H
        have c11b0 := beq_iff_eq.mpr c11
        have c11b1 := bne_eq_false_iff_eq.mpr c11
        clear c11
        by_cases c12 : a0_6.toList = a1_6.toList
        ·
         rw [if_pos c12] at H
         have c12b0 := beq_iff_eq.mpr c12
         have c12b1 := bne_eq_false_iff_eq.mpr c12
         clear c12
         by_cases c13 : (l0_7.length : Int) = (l1_7.length : Int)
         ·
          rw [if_pos c13] at H
          have c13b0 := beq_iff_eq.mpr c13
          have c13b1 := bne_eq_false_iff_eq.mpr c13
          have c13b2 : (l0_7.length == l1_7.length) = true := by first | simpa using c13 | (simp at c13 ⊢; omega)
          clear c13
          have H' := am H
          clear H
          have hnb14 := NB230_231.out
          have hnc14 := NB231_230.out
          have hcz15_0 : w5.cell? ⟨gb230, 0, none⟩ = some (.int .i64 a0_0) := (blk_cell BK230.out 0).trans rfl
          have hcz15_1 : w5.cell? ⟨gb230, 1, none⟩ = some (.string a0_1) := (blk_cell BK230.out 1).trans rfl
          have hcz15_2 : w5.cell? ⟨gb230, 2, none⟩ = some (.string a0_2) := (blk_cell BK230.out 2).trans rfl
          have hcz15_3 : w5.cell? ⟨gb230, 3, none⟩ = some (.string a0_3) := (blk_cell BK230.out 3).trans rfl
          have hcz15_4 : w5.cell? ⟨gb230, 4, none⟩ = some (.int .i64 a0_4) := (blk_cell BK230.out 4).trans rfl
          have hcz15_5 : w5.cell? ⟨gb230, 5, none⟩ = some (.int .i64 a0_5) := (blk_cell BK230.out 5).trans rfl
          have hcz15_6 : w5.cell? ⟨gb230, 6, none⟩ = some (.string a0_6) := (blk_cell BK230.out 6).trans rfl
          have hcz15_7 : w5.cell? ⟨gb230, 7, none⟩ = some (.slice A0_7 l0_7.length c0_7) := (blk_cell BK230.out 7).trans rfl
          have hcz15_8 : w5.cell? ⟨gb230, 8, none⟩ = some (.slice A0_8 l0_8.length c0_8) := (blk_cell BK230.out 8).trans rfl
          have hfz15_0 := blk_frozen BK230.out 0
          have hfz15_1 := blk_frozen BK230.out 1
          have hfz15_2 := blk_frozen BK230.out 2
          have hfz15_3 := blk_frozen BK230.out 3
          have hfz15_4 := blk_frozen BK230.out 4
          have hfz15_5 := blk_frozen BK230.out 5
          have hfz15_6 := blk_frozen BK230.out 6
          have hfz15_7 := blk_frozen BK230.out 7
          have hfz15_8 := blk_frozen BK230.out 8
          have hcz16_0 : w5.cell? ⟨gb231, 0, none⟩ = some (.int .i64 a1_0) := (blk_cell BK231.out 0).trans rfl
          have hcz16_1 : w5.cell? ⟨gb231, 1, none⟩ = some (.string a1_1) := (blk_cell BK231.out 1).trans rfl
          have hcz16_2 : w5.cell? ⟨gb231, 2, none⟩ = some (.string a1_2) := (blk_cell BK231.out 2).trans rfl
          have hcz16_3 : w5.cell? ⟨gb231, 3, none⟩ = some (.string a1_3) := (blk_cell BK231.out 3).trans rfl
          have hcz16_4 : w5.cell? ⟨gb231, 4, none⟩ = some (.int .i64 a1_4) := (blk_cell BK231.out 4).trans rfl
          have hcz16_5 : w5.cell? ⟨gb231, 5, none⟩ = some (.int .i64 a1_5) := (blk_cell BK231.out 5).trans rfl
          have hcz16_6 : w5.cell? ⟨gb231, 6, none⟩ = some (.string a1_6) := (blk_cell BK231.out 6).trans rfl
          have hcz16_7 : w5.cell? ⟨gb231, 7, none⟩ = some (.slice A1_7 l1_7.length c1_7) := (blk_cell BK231.out 7).trans rfl
          have hcz16_8 : w5.cell? ⟨gb231, 8, none⟩ = some (.slice A1_8 l1_8.length c1_8) := (blk_cell BK231.out 8).trans rfl
          have hfz16_0 := blk_frozen BK231.out 0
          have hfz16_1 := blk_frozen BK231.out 1
          have hfz16_2 := blk_frozen BK231.out 2
          have hfz16_3 := blk_frozen BK231.out 3
          have hfz16_4 := blk_frozen BK231.out 4
          have hfz16_5 := blk_frozen BK231.out 5
          have hfz16_6 := blk_frozen BK231.out 6
          have hfz16_7 := blk_frozen BK231.out 7
          have hfz16_8 := blk_frozen BK231.out 8
          go_wp2
          repeat (go_quiet (fail); try go_wp2)
          go_meet
          case rel => exact ⟨_, (((l0_8.length : Int) != (l1_8.length : Int))), rs, H', ⟨om⟩, ⟨bk BK230.out⟩, ⟨bk BK231.out⟩, ⟨bws HB.out⟩⟩
         ·
          rw [if_neg c13] at H
          have c13b0 := beq_eq_false_iff_ne.mpr c13
          have c13b1 := bne_iff_ne.mpr c13
          have c13b2 : (l0_7.length == l1_7.length) = false := by first | simpa using c13 | (simp at c13 ⊢; omega)
          have H' := am H
          clear H
          have hnb17 := NB230_231.out
          have hnc17 := NB231_230.out
          have hcz18_0 : w5.cell? ⟨gb230, 0, none⟩ = some (.int .i64 a0_0) := (blk_cell BK230.out 0).trans rfl
          have hcz18_1 : w5.cell? ⟨gb230, 1, none⟩ = some (.string a0_1) := (blk_cell BK230.out 1).trans rfl
          have hcz18_2 : w5.cell? ⟨gb230, 2, none⟩ = some (.string a0_2) := (blk_cell BK230.out 2).trans rfl
          have hcz18_3 : w5.cell? ⟨gb230, 3, none⟩ = some (.string a0_3) := (blk_cell BK230.out 3).trans rfl
          have hcz18_4 : w5.cell? ⟨gb230, 4, none⟩ = some (.int .i64 a0_4) := (blk_cell BK230.out 4).trans rfl
          have hcz18_5 : w5.cell? ⟨gb230, 5, none⟩ = some (.int .i64 a0_5) := (blk_cell BK230.out 5).trans rfl
          have hcz18_6 : w5.cell? ⟨gb230, 6, none⟩ = some (.string a0_6) := (blk_cell BK230.out 6).trans rfl
          have hcz18_7 : w5.cell? ⟨gb230, 7, none⟩ = some (.slice A0_7 l0_7.length c0_7) := (blk_cell BK230.out 7).trans rfl
          have hcz18_8 : w5.cell? ⟨gb230, 8, none⟩ = some (.slice A0_8 l0_8.length c0_8) := (blk_cell BK230.out 8).trans rfl
          have hfz18_0 := blk_frozen BK230.out 0
          have hfz18_1 := blk_frozen BK230.out 1
          have hfz18_2 := blk_frozen BK230.out 2
          have hfz18_3 := blk_frozen BK230.out 3
          have hfz18_4 := blk_frozen BK230.out 4
          have hfz18_5 := blk_frozen BK230.out 5
          have hfz18_6 := blk_frozen BK230.out 6
          have hfz18_7 := blk_frozen BK230.out 7
          have hfz18_8 := blk_frozen BK230.out 8
          have hcz19_0 : w5.cell? ⟨gb231, 0, none⟩ = some (.int .i64 a1_0) := (blk_cell BK231.out 0).trans rfl
          have hcz19_1 : w5.cell? ⟨gb231, 1, none⟩ = some (.string a1_1) := (blk_cell BK231.out 1).trans rfl
          have hcz19_2 : w5.cell? ⟨gb231, 2, none⟩ = some (.string a1_2) := (blk_cell BK231.out 2).trans rfl
          have hcz19_3 : w5.cell? ⟨gb231, 3, none⟩ = some (.string a1_3) := (blk_cell BK231.out 3).trans rfl
          have hcz19_4 : w5.cell? ⟨gb231, 4, none⟩ = some (.int .i64 a1_4) := (blk_cell BK231.out 4).trans rfl
          have hcz19_5 : w5.cell? ⟨gb231, 5, none⟩ = some (.int .i64 a1_5) := (blk_cell BK231.out 5).trans rfl
          have hcz19_6 : w5.cell? ⟨gb231, 6, none⟩ = some (.string a1_6) := (blk_cell BK231.out 6).trans rfl
          have hcz19_7 : w5.cell? ⟨gb231, 7, none⟩ = some (.slice A1_7 l1_7.length c1_7) := (blk_cell BK231.out 7).trans rfl
          have hcz19_8 : w5.cell? ⟨gb231, 8, none⟩ = some (.slice A1_8 l1_8.length c1_8) := (blk_cell BK231.out 8).trans rfl
          have hfz19_0 := blk_frozen BK231.out 0
          have hfz19_1 := blk_frozen BK231.out 1
          have hfz19_2 := blk_frozen BK231.out 2
          have hfz19_3 := blk_frozen BK231.out 3
          have hfz19_4 := blk_frozen BK231.out 4
          have hfz19_5 := blk_frozen BK231.out 5
          have hfz19_6 := blk_frozen BK231.out 6
          have hfz19_7 := blk_frozen BK231.out 7
          have hfz19_8 := blk_frozen BK231.out 8
          go_wp2
          repeat (go_quiet (fail); try go_wp2)
          go_meet
          case rel => exact ⟨_, (true), rs, H', ⟨om⟩, ⟨bk BK230.out⟩, ⟨bk BK231.out⟩, ⟨bws HB.out⟩⟩
        ·
         rw [if_neg c12] at H
         have c12b0 := beq_eq_false_iff_ne.mpr c12
         have c12b1 := bne_iff_ne.mpr c12
         have H' := am H
         clear H
         have hnb20 := NB230_231.out
         have hnc20 := NB231_230.out
         have hcz21_0 : w5.cell? ⟨gb230, 0, none⟩ = some (.int .i64 a0_0) := (blk_cell BK230.out 0).trans rfl
         have hcz21_1 : w5.cell? ⟨gb230, 1, none⟩ = some (.string a0_1) := (blk_cell BK230.out 1).trans rfl
         have hcz21_2 : w5.cell? ⟨gb230, 2, none⟩ = some (.string a0_2) := (blk_cell BK230.out 2).trans rfl
         have hcz21_3 : w5.cell? ⟨gb230, 3, none⟩ = some (.string a0_3) := (blk_cell BK230.out 3).trans rfl
         have hcz21_4 : w5.cell? ⟨gb230, 4, none⟩ = some (.int .i64 a0_4) := (blk_cell BK230.out 4).trans rfl
         have hcz21_5 : w5.cell? ⟨gb230, 5, none⟩ = some (.int .i64 a0_5) := (blk_cell BK230.out 5).trans rfl
         have hcz21_6 : w5.cell? ⟨gb230, 6, none⟩ = some (.string a0_6) := (blk_cell BK230.out 6).trans rfl
         have hcz21_7 : w5.cell? ⟨gb230, 7, none⟩ = some (.slice A0_7 l0_7.length c0_7) := (blk_cell BK230.out 7).trans rfl
         have hcz21_8 : w5.cell? ⟨gb230, 8, none⟩ = some (.slice A0_8 l0_8.length c0_8) := (blk_cell BK230.out 8).trans rfl
         have hfz21_0 := blk_frozen BK230.out 0
         have hfz21_1 := blk_frozen BK230.out 1
         have hfz21_2 := blk_frozen BK230.out 2
         have hfz21_3 := blk_frozen BK230.out 3
         have hfz21_4 := blk_frozen BK230.out 4
         have hfz21_5 := blk_frozen BK230.out 5
         have hfz21_6 := blk_frozen BK230.out 6
         have hfz21_7 := blk_frozen BK230.out 7
         have hfz21_8 := blk_frozen BK230.out 8
         have hcz22_0 : w5.cell? ⟨gb231, 0, none⟩ = some (.int .i64 a1_0) := (blk_cell BK231.out 0).trans rfl
         have hcz22_1 : w5.cell? ⟨gb231, 1, none⟩ = some (.string a1_1) := (blk_cell BK231.out 1).trans rfl
         have hcz22_2 : w5.cell? ⟨gb231, 2, none⟩ = some (.string a1_2) := (blk_cell BK231.out 2).trans rfl
         have hcz22_3 : w5.cell? ⟨gb231, 3, none⟩ = some (.string a1_3) := (blk_cell BK231.out 3).trans rfl
         have hcz22_4 : w5.cell? ⟨gb231, 4, none⟩ = some (.int .i64 a1_4) := (blk_cell BK231.out 4).trans rfl
         have hcz22_5 : w5.cell? ⟨gb231, 5, none⟩ = some (.int .i64 a1_5) := (blk_cell BK231.out 5).trans rfl
         have hcz22_6 : w5.cell? ⟨gb231, 6, none⟩ = some (.string a1_6) := (blk_cell BK231.out 6).trans rfl
         have hcz22_7 : w5.cell? ⟨gb231, 7, none⟩ = some (.slice A1_7 l1_7.length c1_7) := (blk_cell BK231.out 7).trans rfl
         have hcz22_8 : w5.cell? ⟨gb231, 8, none⟩ = some (.slice A1_8 l1_8.length c1_8) := (blk_cell BK231.out 8).trans rfl
         have hfz22_0 := blk_frozen BK231.out 0
         have hfz22_1 := blk_frozen BK231.out 1
         have hfz22_2 := blk_frozen BK231.out 2
         have hfz22_3 := blk_frozen BK231.out 3
         have hfz22_4 := blk_frozen BK231.out 4
         have hfz22_5 := blk_frozen BK231.out 5
         have hfz22_6 := blk_frozen BK231.out 6
         have hfz22_7 := blk_frozen BK231.out 7
         have hfz22_8 := blk_frozen BK231.out 8
         go_wp2
         repeat (go_quiet (fail); try go_wp2)
         go_meet
         case rel => exact ⟨_, (true), rs, H', ⟨om⟩, ⟨bk BK230.out⟩, ⟨bk BK231.out⟩, ⟨bws HB.out⟩⟩
       ·
        rw [if_neg c11] at H
        have c11b0 := beq_eq_false_iff_ne.mpr c11
        have c11b1 := bne_iff_ne.mpr c11
        have H' := am H
        clear H
        have hnb23 := NB230_231.out
        have hnc23 := NB231_230.out
        have hcz24_0 : w5.cell? ⟨gb230, 0, none⟩ = some (.int .i64 a0_0) := (blk_cell BK230.out 0).trans rfl
        have hcz24_1 : w5.cell? ⟨gb230, 1, none⟩ = some (.string a0_1) := (blk_cell BK230.out 1).trans rfl
        have hcz24_2 : w5.cell? ⟨gb230, 2, none⟩ = some (.string a0_2) := (blk_cell BK230.out 2).trans rfl
        have hcz24_3 : w5.cell? ⟨gb230, 3, none⟩ = some (.string a0_3) := (blk_cell BK230.out 3).trans rfl
        have hcz24_4 : w5.cell? ⟨gb230, 4, none⟩ = some (.int .i64 a0_4) := (blk_cell BK230.out 4).trans rfl
        have hcz24_5 : w5.cell? ⟨gb230, 5, none⟩ = some (.int .i64 a0_5) := (blk_cell BK230.out 5).trans rfl
        have hcz24_6 : w5.cell? ⟨gb230, 6, none⟩ = some (.string a0_6) := (blk_cell BK230.out 6).trans rfl
        have hcz24_7 : w5.cell? ⟨gb230, 7, none⟩ = some (.slice A0_7 l0_7.length c0_7) := (blk_cell BK230.out 7).trans rfl
        have hcz24_8 : w5.cell? ⟨gb230, 8, none⟩ = some (.slice A0_8 l0_8.length c0_8) := (blk_cell BK230.out 8).trans rfl
        have hfz24_0 := blk_frozen BK230.out 0
        have hfz24_1 := blk_frozen BK230.out 1
        have hfz24_2 := blk_frozen BK230.out 2
        have hfz24_3 := blk_frozen BK230.out 3
        have hfz24_4 := blk_frozen BK230.out 4
        have hfz24_5 := blk_frozen BK230.out 5
        have hfz24_6 := blk_frozen BK230.out 6
        have hfz24_7 := blk_frozen BK230.out 7
        have hfz24_8 := blk_frozen BK230.out 8
        have hcz25_0 : w5.cell? ⟨gb231, 0, none⟩ = some (.int .i64 a1_0) := (blk_cell BK231.out 0).trans rfl
        have hcz25_1 : w5.cell? ⟨gb231, 1, none⟩ = some (.string a1_1) := (blk_cell BK231.out 1).trans rfl
        have hcz25_2 : w5.cell? ⟨gb231, 2, none⟩ = some (.string a1_2) := (blk_cell BK231.out 2).trans rfl
        have hcz25_3 : w5.cell? ⟨gb231, 3, none⟩ = some (.string a1_3) := (blk_cell BK231.out 3).trans rfl
        have hcz25_4 : w5.cell? ⟨gb231, 4, none⟩ = some (.int .i64 a1_4) := (blk_cell BK231.out 4).trans rfl
        have hcz25_5 : w5.cell? ⟨gb231, 5, none⟩ = some (.int .i64 a1_5) := (blk_cell BK231.out 5).trans rfl
        have hcz25_6 : w5.cell? ⟨gb231, 6, none⟩ = some (.string a1_6) := (blk_cell BK231.out 6).trans rfl
        have hcz25_7 : w5.cell? ⟨gb231, 7, none⟩ = some (.slice A1_7 l1_7.length c1_7) := (blk_cell BK231.out 7).trans rfl
        have hcz25_8 : w5.cell? ⟨gb231, 8, none⟩ = some (.slice A1_8 l1_8.length c1_8) := (blk_cell BK231.out 8).trans rfl
        have hfz25_0 := blk_frozen BK231.out 0
        have hfz25_1 := blk_frozen BK231.out 1
        have hfz25_2 := blk_frozen BK231.out 2
        have hfz25_3 := blk_frozen BK231.out 3
        have hfz25_4 := blk_frozen BK231.out 4
        have hfz25_5 := blk_frozen BK231.out 5
        have hfz25_6 := blk_frozen BK231.out 6
        have hfz25_7 := blk_frozen BK231.out 7
        have hfz25_8 := blk_frozen BK231.out 8
        go_wp2
        repeat (go_quiet (fail); try go_wp2)
        go_meet
        case rel => exact ⟨_, (true), rs, H', ⟨om⟩, ⟨bk BK230.out⟩, ⟨bk BK231.out⟩, ⟨bws HB.out⟩⟩
      ·
       rw [if_neg c10] at H
       have c10b0 := beq_eq_false_iff_ne.mpr c10
       have c10b1 := bne_iff_ne.mpr c10
       have H' := am H
       clear H
       have hnb26 := NB230_231.out
       have hnc26 := NB231_230.out
       have hcz27_0 : w5.cell? ⟨gb230, 0, none⟩ = some (.int .i64 a0_0) := (blk_cell BK230.out 0).trans rfl
       have hcz27_1 : w5.cell? ⟨gb230, 1, none⟩ = some (.string a0_1) := (blk_cell BK230.out 1).trans rfl
       have hcz27_2 : w5.cell? ⟨gb230, 2, none⟩ = some (.string a0_2) := (blk_cell BK230.out 2).trans rfl
       have hcz27_3 : w5.cell? ⟨gb230, 3, none⟩ = some (.string a0_3) := (blk_cell BK230.out 3).trans rfl
       have hcz27_4 : w5.cell? ⟨gb230, 4, none⟩ = some (.int .i64 a0_4) := (blk_cell BK230.out 4).trans rfl
       have hcz27_5 : w5.cell? ⟨gb230, 5, none⟩ = some (.int .i64 a0_5) := (blk_cell BK230.out 5).trans rfl
       have hcz27_6 : w5.cell? ⟨gb230, 6, none⟩ = some (.string a0_6) := (blk_cell BK230.out 6).trans rfl
       have hcz27_7 : w5.cell? ⟨gb230, 7, none⟩ = some (.slice A0_7 l0_7.length c0_7) := (blk_cell BK230.out 7).trans rfl
       have hcz27_8 : w5.cell? ⟨gb230, 8, none⟩ = some (.slice A0_8 l0_8.length c0_8) := (blk_cell BK230.out 8).trans rfl
       have hfz27_0 := blk_frozen BK230.out 0
       have hfz27_1 := blk_frozen BK230.out 1
       have hfz27_2 := blk_frozen BK230.out 2
       have hfz27_3 := blk_frozen BK230.out 3
       have hfz27_4 := blk_frozen BK230.out 4
       have hfz27_5 := blk_frozen BK230.out 5
       have hfz27_6 := blk_frozen BK230.out 6
       have hfz27_7 := blk_frozen BK230.out 7
       have hfz27_8 := blk_frozen BK230.out 8
       have hcz28_0 : w5.cell? ⟨gb231, 0, none⟩ = some (.int .i64 a1_0) := (blk_cell BK231.out 0).trans rfl
       have hcz28_1 : w5.cell? ⟨gb231, 1, none⟩ = some (.string a1_1) := (blk_cell BK231.out 1).trans rfl
       have hcz28_2 : w5.cell? ⟨gb231, 2, none⟩ = some (.string a1_2) := (blk_cell BK231.out 2).trans rfl
       have hcz28_3 : w5.cell? ⟨gb231, 3, none⟩ = some (.string a1_3) := (blk_cell BK231.out 3).trans rfl
       have hcz28_4 : w5.cell? ⟨gb231, 4, none⟩ = some (.int .i64 a1_4) := (blk_cell BK231.out 4).trans rfl
       have hcz28_5 : w5.cell? ⟨gb231, 5, none⟩ = some (.int .i64 a1_5) := (blk_cell BK231.out 5).trans rfl
       have hcz28_6 : w5.cell? ⟨gb231, 6, none⟩ = some (.string a1_6) := (blk_cell BK231.out 6).trans rfl
       have hcz28_7 : w5.cell? ⟨gb231, 7, none⟩ = some (.slice A1_7 l1_7.length c1_7) := (blk_cell BK231.out 7).trans rfl
       have hcz28_8 : w5.cell? ⟨gb231, 8, none⟩ = some (.slice A1_8 l1_8.length c1_8) := (blk_cell BK231.out 8).trans rfl
       have hfz28_0 := blk_frozen BK231.out 0
       have hfz28_1 := blk_frozen BK231.out 1
       have hfz28_2 := blk_frozen BK231.out 2
       have hfz28_3 := blk_frozen BK231.out 3
       have hfz28_4 := blk_frozen BK231.out 4
       have hfz28_5 := blk_frozen BK231.out 5
       have hfz28_6 := blk_frozen BK231.out 6
       have hfz28_7 := blk_frozen BK231.out 7
       have hfz28_8 := blk_frozen BK231.out 8
       go_wp2
       repeat (go_quiet (fail); try go_wp2)
       go_meet
       case rel => exact ⟨_, (true), rs, H', ⟨om⟩, ⟨bk BK230.out⟩, ⟨bk BK231.out⟩, ⟨bws HB.out⟩⟩
     ·
      rw [if_neg c9] at H
      have c9b0 := beq_eq_false_iff_ne.mpr c9
      have c9b1 := bne_iff_ne.mpr c9
      have H' := am H
      clear H
      have hnb29 := NB230_231.out
      have hnc29 := NB231_230.out
      have hcz30_0 : w5.cell? ⟨gb230, 0, none⟩ = some (.int .i64 a0_0) := (blk_cell BK230.out 0).trans rfl
      have hcz30_1 : w5.cell? ⟨gb230, 1, none⟩ = some (.string a0_1) := (blk_cell BK230.out 1).trans rfl
      have hcz30_2 : w5.cell? ⟨gb230, 2, none⟩ = some (.string a0_2) := (blk_cell BK230.out 2).trans rfl
      have hcz30_3 : w5.cell? ⟨gb230, 3, none⟩ = some (.string a0_3) := (blk_cell BK230.out 3).trans rfl
      have hcz30_4 : w5.cell? ⟨gb230, 4, none⟩ = some (.int .i64 a0_4) := (blk_cell BK230.out 4).trans rfl
      have hcz30_5 : w5.cell? ⟨gb230, 5, none⟩ = some (.int .i64 a0_5) := (blk_cell BK230.out 5).trans rfl
      have hcz30_6 : w5.cell? ⟨gb230, 6, none⟩ = some (.string a0_6) := (blk_cell BK230.out 6).trans rfl
      have hcz30_7 : w5.cell? ⟨gb230, 7, none⟩ = some (.slice A0_7 l0_7.length c0_7) := (blk_cell BK230.out 7).trans rfl
      have hcz30_8 : w5.cell? ⟨gb230, 8, none⟩ = some (.slice A0_8 l0_8.length c0_8) := (blk_cell BK230.out 8).trans rfl
      have hfz30_0 := blk_frozen BK230.out 0
      have hfz30_1 := blk_frozen BK230.out 1
      have hfz30_2 := blk_frozen BK230.out 2
      have hfz30_3 := blk_frozen BK230.out 3
      have hfz30_4 := blk_frozen BK230.out 4
      have hfz30_5 := blk_frozen BK230.out 5
      have hfz30_6 := blk_frozen BK230.out 6
      have hfz30_7 := blk_frozen BK230.out 7
      have hfz30_8 := blk_frozen BK230.out 8
      have hcz31_0 : w5.cell? ⟨gb231, 0, none⟩ = some (.int .i64 a1_0) := (blk_cell BK231.out 0).trans rfl
      have hcz31_1 : w5.cell? ⟨gb231, 1, none⟩ = some (.string a1_1) := (blk_cell BK231.out 1).trans rfl
      have hcz31_2 : w5.cell? ⟨gb231, 2, none⟩ = some (.string a1_2) := (blk_cell BK231.out 2).trans rfl
      have hcz31_3 : w5.cell? ⟨gb231, 3, none⟩ = some (.string a1_3) := (blk_cell BK231.out 3).trans rfl
      have hcz31_4 : w5.cell? ⟨gb231, 4, none⟩ = some (.int .i64 a1_4) := (blk_cell BK231.out 4).trans rfl
      have hcz31_5 : w5.cell? ⟨gb231, 5, none⟩ = some (.int .i64 a1_5) := (blk_cell BK231.out 5).trans rfl
      have hcz31_6 : w5.cell? ⟨gb231, 6, none⟩ = some (.string a1_6) := (blk_cell BK231.out 6).trans rfl
      have hcz31_7 : w5.cell? ⟨gb231, 7, none⟩ = some (.slice A1_7 l1_7.length c1_7) := (blk_cell BK231.out 7).trans rfl
      have hcz31_8 : w5.cell? ⟨gb231, 8, none⟩ = some (.slice A1_8 l1_8.length c1_8) := (blk_cell BK231.out 8).trans rfl
      have hfz31_0 := blk_frozen BK231.out 0
      have hfz31_1 := blk_frozen BK231.out 1
      have hfz31_2 := blk_frozen BK231.out 2
      have hfz31_3 := blk_frozen BK231.out 3
      have hfz31_4 := blk_frozen BK231.out 4
      have hfz31_5 := blk_frozen BK231.out 5
      have hfz31_6 := blk_frozen BK231.out 6
      have hfz31_7 := blk_frozen BK231.out 7
      have hfz31_8 := blk_frozen BK231.out 8
      go_wp2
      repeat (go_quiet (fail); try go_wp2)
      go_meet
      case rel => exact ⟨_, (true), rs, H', ⟨om⟩, ⟨bk BK230.out⟩, ⟨bk BK231.out⟩, ⟨bws HB.out⟩⟩
    ·
     rw [if_neg c8] at H
     have c8b0 := beq_eq_false_iff_ne.mpr c8
     have c8b1 := bne_iff_ne.mpr c8
     have H' := am H
     clear H
     have hnb32 := NB230_231.out
     have hnc32 := NB231_230.out
     have hcz33_0 : w5.cell? ⟨gb230, 0, none⟩ = some (.int .i64 a0_0) := (blk_cell BK230.out 0).trans rfl
     have hcz33_1 : w5.cell? ⟨gb230, 1, none⟩ = some (.string a0_1) := (blk_cell BK230.out 1).trans rfl
     have hcz33_2 : w5.cell? ⟨gb230, 2, none⟩ = some (.string a0_2) := (blk_cell BK230.out 2).trans rfl
     have hcz33_3 : w5.cell? ⟨gb230, 3, none⟩ = some (.string a0_3) := (blk_cell BK230.out 3).trans rfl
     have hcz33_4 : w5.cell? ⟨gb230, 4, none⟩ = some (.int .i64 a0_4) := (blk_cell BK230.out 4).trans rfl
     have hcz33_5 : w5.cell? ⟨gb230, 5, none⟩ = some (.int .i64 a0_5) := (blk_cell BK230.out 5).trans rfl
     have hcz33_6 : w5.cell? ⟨gb230, 6, none⟩ = some (.string a0_6) := (blk_cell BK230.out 6).trans rfl
     have hcz33_7 : w5.cell? ⟨gb230, 7, none⟩ = some (.slice A0_7 l0_7.length c0_7) := (blk_cell BK230.out 7).trans rfl
     have hcz33_8 : w5.cell? ⟨gb230, 8, none⟩ = some (.slice A0_8 l0_8.length c0_8) := (blk_cell BK230.out 8).trans rfl
     have hfz33_0 := blk_frozen BK230.out 0
     have hfz33_1 := blk_frozen BK230.out 1
     have hfz33_2 := blk_frozen BK230.out 2
     have hfz33_3 := blk_frozen BK230.out 3
     have hfz33_4 := blk_frozen BK230.out 4
     have hfz33_5 := blk_frozen BK230.out 5
     have hfz33_6 := blk_frozen BK230.out 6
     have hfz33_7 := blk_frozen BK230.out 7
     have hfz33_8 := blk_frozen BK230.out 8
     have hcz34_0 : w5.cell? ⟨gb231, 0, none⟩ = some (.int .i64 a1_0) := (blk_cell BK231.out 0).trans rfl
     have hcz34_1 : w5.cell? ⟨gb231, 1, none⟩ = some (.string a1_1) := (blk_cell BK231.out 1).trans rfl
     have hcz34_2 : w5.cell? ⟨gb231, 2, none⟩ = some (.string a1_2) := (blk_cell BK231.out 2).trans rfl
     have hcz34_3 : w5.cell? ⟨gb231, 3, none⟩ = some (.string a1_3) := (blk_cell BK231.out 3).trans rfl
     have hcz34_4 : w5.cell? ⟨gb231, 4, none⟩ = some (.int .i64 a1_4) := (blk_cell BK231.out 4).trans rfl
     have hcz34_5 : w5.cell? ⟨gb231, 5, none⟩ = some (.int .i64 a1_5) := (blk_cell BK231.out 5).trans rfl
     have hcz34_6 : w5.cell? ⟨gb231, 6, none⟩ = some (.string a1_6) := (blk_cell BK231.out 6).trans rfl
     have hcz34_7 : w5.cell? ⟨gb231, 7, none⟩ = some (.slice A1_7 l1_7.length c1_7) := (blk_cell BK231.out 7).trans rfl
     have hcz34_8 : w5.cell? ⟨gb231, 8, none⟩ = some (.slice A1_8 l1_8.length c1_8) := (blk_cell BK231.out 8).trans rfl
     have hfz34_0 := blk_frozen BK231.out 0
     have hfz34_1 := blk_frozen BK231.out 1
     have hfz34_2 := blk_frozen BK231.out 2
     have hfz34_3 := blk_frozen BK231.out 3
     have hfz34_4 := blk_frozen BK231.out 4
     have hfz34_5 := blk_frozen BK231.out 5
     have hfz34_6 := blk_frozen BK231.out 6
     have hfz34_7 := blk_frozen BK231.out 7
     have hfz34_8 := blk_frozen BK231.out 8
     go_wp2
     repeat (go_quiet (fail); try go_wp2)
     go_meet
     case rel => exact ⟨_, (true), rs, H', ⟨om⟩, ⟨bk BK230.out⟩, ⟨bk BK231.out⟩, ⟨bws HB.out⟩⟩
   ·
    rw [if_neg c7] at H
    have c7b0 := beq_eq_false_iff_ne.mpr c7
    have c7b1 := bne_iff_ne.mpr c7
    have H' := am H
    clear H
    have hnb35 := NB230_231.out
    have hnc35 := NB231_230.out
    have hcz36_0 : w5.cell? ⟨gb230, 0, none⟩ = some (.int .i64 a0_0) := (blk_cell BK230.out 0).trans rfl
    have hcz36_1 : w5.cell? ⟨gb230, 1, none⟩ = some (.string a0_1) := (blk_cell BK230.out 1).trans rfl
    have hcz36_2 : w5.cell? ⟨gb230, 2, none⟩ = some (.string a0_2) := (blk_cell BK230.out 2).trans rfl
    have hcz36_3 : w5.cell? ⟨gb230, 3, none⟩ = some (.string a0_3) := (blk_cell BK230.out 3).trans rfl
    have hcz36_4 : w5.cell? ⟨gb230, 4, none⟩ = some (.int .i64 a0_4) := (blk_cell BK230.out 4).trans rfl
    have hcz36_5 : w5.cell? ⟨gb230, 5, none⟩ = some (.int .i64 a0_5) := (blk_cell BK230.out 5).trans rfl
    have hcz36_6 : w5.cell? ⟨gb230, 6, none⟩ = some (.string a0_6) := (blk_cell BK230.out 6).trans rfl
    have hcz36_7 : w5.cell? ⟨gb230, 7, none⟩ = some (.slice A0_7 l0_7.length c0_7) := (blk_cell BK230.out 7).trans rfl
    have hcz36_8 : w5.cell? ⟨gb230, 8, none⟩ = some (.slice A0_8 l0_8.length c0_8) := (blk_cell BK230.out 8).trans rfl
    have hfz36_0 := blk_frozen BK230.out 0
    have hfz36_1 := blk_frozen BK230.out 1
    have hfz36_2 := blk_frozen BK230.out 2
    have hfz36_3 := blk_frozen BK230.out 3
    have hfz36_4 := blk_frozen BK230.out 4
    have hfz36_5 := blk_frozen BK230.out 5
    have hfz36_6 := blk_frozen BK230.out 6
    have hfz36_7 := blk_frozen BK230.out 7
    have hfz36_8 := blk_frozen BK230.out 8
    have hcz37_0 : w5.cell? ⟨gb231, 0, none⟩ = some (.int .i64 a1_0) := (blk_cell BK231.out 0).trans rfl
    have hcz37_1 : w5.cell? ⟨gb231, 1, none⟩ = some (.string a1_1) := (blk_cell BK231.out 1).trans rfl
    have hcz37_2 : w5.cell? ⟨gb231, 2, none⟩ = some (.string a1_2) := (blk_cell BK231.out 2).trans rfl
    have hcz37_3 : w5.cell? ⟨gb231, 3, none⟩ = some (.string a1_3) := (blk_cell BK231.out 3).trans rfl
    have hcz37_4 : w5.cell? ⟨gb231, 4, none⟩ = some (.int .i64 a1_4) := (blk_cell BK231.out 4).trans rfl
    have hcz37_5 : w5.cell? ⟨gb231, 5, none⟩ = some (.int .i64 a1_5) := (blk_cell BK231.out 5).trans rfl
    have hcz37_6 : w5.cell? ⟨gb231, 6, none⟩ = some (.string a1_6) := (blk_cell BK231.out 6).trans rfl
    have hcz37_7 : w5.cell? ⟨gb231, 7, none⟩ = some (.slice A1_7 l1_7.length c1_7) := (blk_cell BK231.out 7).trans rfl
    have hcz37_8 : w5.cell? ⟨gb231, 8, none⟩ = some (.slice A1_8 l1_8.length c1_8) := (blk_cell BK231.out 8).trans rfl
    have hfz37_0 := blk_frozen BK231.out 0
    have hfz37_1 := blk_frozen BK231.out 1
    have hfz37_2 := blk_frozen BK231.out 2
    have hfz37_3 := blk_frozen BK231.out 3
    have hfz37_4 := blk_frozen BK231.out 4
    have hfz37_5 := blk_frozen BK231.out 5
    have hfz37_6 := blk_frozen BK231.out 6
    have hfz37_7 := blk_frozen BK231.out 7
    have hfz37_8 := blk_frozen BK231.out 8
    go_wp2
    repeat (go_quiet (fail); try go_wp2)
    go_meet
    case rel => exact ⟨_, (true), rs, H', ⟨om⟩, ⟨bk BK230.out⟩, ⟨bk BK231.out⟩, ⟨bws HB.out⟩⟩
  ·
   rw [if_neg c6] at H
   have c6b0 := beq_eq_false_iff_ne.mpr c6
   have c6b1 := bne_iff_ne.mpr c6
   (first | rw [c6b0] | (simp only [i64_w, i32_w]; rw [c6b0]) | skip)
   have H' := am H
   clear H
   have hnb38 := NB230_231.out
   have hnc38 := NB231_230.out
   have hcz39_0 : w5.cell? ⟨gb230, 0, none⟩ = some (.int .i64 a0_0) := (blk_cell BK230.out 0).trans rfl
   have hcz39_1 : w5.cell? ⟨gb230, 1, none⟩ = some (.string a0_1) := (blk_cell BK230.out 1).trans rfl
   have hcz39_2 : w5.cell? ⟨gb230, 2, none⟩ = some (.string a0_2) := (blk_cell BK230.out 2).trans rfl
   have hcz39_3 : w5.cell? ⟨gb230, 3, none⟩ = some (.string a0_3) := (blk_cell BK230.out 3).trans rfl
   have hcz39_4 : w5.cell? ⟨gb230, 4, none⟩ = some (.int .i64 a0_4) := (blk_cell BK230.out 4).trans rfl
   have hcz39_5 : w5.cell? ⟨gb230, 5, none⟩ = some (.int .i64 a0_5) := (blk_cell BK230.out 5).trans rfl
   have hcz39_6 : w5.cell? ⟨gb230, 6, none⟩ = some (.string a0_6) := (blk_cell BK230.out 6).trans rfl
   have hcz39_7 : w5.cell? ⟨gb230, 7, none⟩ = some (.slice A0_7 l0_7.length c0_7) := (blk_cell BK230.out 7).trans rfl
   have hcz39_8 : w5.cell? ⟨gb230, 8, none⟩ = some (.slice A0_8 l0_8.length c0_8) := (blk_cell BK230.out 8).trans rfl
   have hfz39_0 := blk_frozen BK230.out 0
   have hfz39_1 := blk_frozen BK230.out 1
   have hfz39_2 := blk_frozen BK230.out 2
   have hfz39_3 := blk_frozen BK230.out 3
   have hfz39_4 := blk_frozen BK230.out 4
   have hfz39_5 := blk_frozen BK230.out 5
   have hfz39_6 := blk_frozen BK230.out 6
   have hfz39_7 := blk_frozen BK230.out 7
   have hfz39_8 := blk_frozen BK230.out 8
   have hcz40_0 : w5.cell? ⟨gb231, 0, none⟩ = some (.int .i64 a1_0) := (blk_cell BK231.out 0).trans rfl
   have hcz40_1 : w5.cell? ⟨gb231, 1, none⟩ = some (.string a1_1) := (blk_cell BK231.out 1).trans rfl
   have hcz40_2 : w5.cell? ⟨gb231, 2, none⟩ = some (.string a1_2) := (blk_cell BK231.out 2).trans rfl
   have hcz40_3 : w5.cell? ⟨gb231, 3, none⟩ = some (.string a1_3) := (blk_cell BK231.out 3).trans rfl
   have hcz40_4 : w5.cell? ⟨gb231, 4, none⟩ = some (.int .i64 a1_4) := (blk_cell BK231.out 4).trans rfl
   have hcz40_5 : w5.cell? ⟨gb231, 5, none⟩ = some (.int .i64 a1_5) := (blk_cell BK231.out 5).trans rfl
   have hcz40_6 : w5.cell? ⟨gb231, 6, none⟩ = some (.string a1_6) := (blk_cell BK231.out 6).trans rfl
   have hcz40_7 : w5.cell? ⟨gb231, 7, none⟩ = some (.slice A1_7 l1_7.length c1_7) := (blk_cell BK231.out 7).trans rfl
   have hcz40_8 : w5.cell? ⟨gb231, 8, none⟩ = some (.slice A1_8 l1_8.length c1_8) := (blk_cell BK231.out 8).trans rfl
   have hfz40_0 := blk_frozen BK231.out 0
   have hfz40_1 := blk_frozen BK231.out 1
   have hfz40_2 := blk_frozen BK231.out 2
   have hfz40_3 := blk_frozen BK231.out 3
   have hfz40_4 := blk_frozen BK231.out 4
   have hfz40_5 := blk_frozen BK231.out 5
   have hfz40_6 := blk_frozen BK231.out 6
   have hfz40_7 := blk_frozen BK231.out 7
   have hfz40_8 := blk_frozen BK231.out 8
   go_wp2
   repeat (go_quiet (fail); try go_wp2)
   go_meet
   case rel => exact ⟨_, (true), rs, H', ⟨om⟩, ⟨bk BK230.out⟩, ⟨bk BK231.out⟩, ⟨bws HB.out⟩⟩
 case rest =>
  clear HC3
  try clear c1
  try clear c2
  try clear p2
  try clear c3
  try clear c6
  try clear c6b0
  try clear c6b1
  try clear c7
  try clear c7b0
  try clear c7b1
  try clear c8
  try clear c8b0
  try clear c8b1
  try clear c9
  try clear c9b0
  try clear c9b1
  try clear c10
  try clear c10b0
  try clear c10b1
  try clear c11
  try clear c11b0
  try clear c11b1
  try clear c12
  try clear c12b0
  try clear c12b1
  try clear c13
  try clear c13b0
  try clear c13b1
  try clear c13b2
  try clear c14
  try clear c17
  try clear c18
  try clear c20
  try clear c23
  try clear c26
  try clear c29
  try clear c32
  try clear c35
  try clear c38
  try clear hcz15_0
  try clear hcz15_1
  try clear hcz15_2
  try clear hcz15_3
  try clear hcz15_4
  try clear hcz15_5
  try clear hcz15_6
  try clear hcz15_7
  try clear hcz15_8
  try clear hcz16_0
  try clear hcz16_1
  try clear hcz16_2
  try clear hcz16_3
  try clear hcz16_4
  try clear hcz16_5
  try clear hcz16_6
  try clear hcz16_7
  try clear hcz16_8
  try clear hcz18_0
  try clear hcz18_1
  try clear hcz18_2
  try clear hcz18_3
  try clear hcz18_4
  try clear hcz18_5
  try clear hcz18_6
  try clear hcz18_7
  try clear hcz18_8
  try clear hcz19_0
  try clear hcz19_1
  try clear hcz19_2
  try clear hcz19_3
  try clear hcz19_4
  try clear hcz19_5
  try clear hcz19_6
  try clear hcz19_7
  try clear hcz19_8
  try clear hcz21_0
  try clear hcz21_1
  try clear hcz21_2
  try clear hcz21_3
  try clear hcz21_4
  try clear hcz21_5
  try clear hcz21_6
  try clear hcz21_7
  try clear hcz21_8
  try clear hcz22_0
  try clear hcz22_1
  try clear hcz22_2
  try clear hcz22_3
  try clear hcz22_4
  try clear hcz22_5
  try clear hcz22_6
  try clear hcz22_7
  try clear hcz22_8
  try clear hcz24_0
  try clear hcz24_1
  try clear hcz24_2
  try clear hcz24_3
  try clear hcz24_4
  try clear hcz24_5
  try clear hcz24_6
  try clear hcz24_7
  try clear hcz24_8
  try clear hcz25_0
  try clear hcz25_1
  try clear hcz25_2
  try clear hcz25_3
  try clear hcz25_4
  try clear hcz25_5
  try clear hcz25_6
  try clear hcz25_7
  try clear hcz25_8
  try clear hcz27_0
  try clear hcz27_1
  try clear hcz27_2
  try clear hcz27_3
  try clear hcz27_4
  try clear hcz27_5
  try clear hcz27_6
  try clear hcz27_7
  try clear hcz27_8
  try clear hcz28_0
  try clear hcz28_1
  try clear hcz28_2
  try clear hcz28_3
  try clear hcz28_4
  try clear hcz28_5
  try clear hcz28_6
  try clear hcz28_7
  try clear hcz28_8
  try clear hcz30_0
  try clear hcz30_1
  try clear hcz30_2
  try clear hcz30_3
  try clear hcz30_4
  try clear hcz30_5
  try clear hcz30_6
  try clear hcz30_7
  try clear hcz30_8
  try clear hcz31_0
  try clear hcz31_1
  try clear hcz31_2
  try clear hcz31_3
  try clear hcz31_4
  try clear hcz31_5
  try clear hcz31_6
  try clear hcz31_7
  try clear hcz31_8
  try clear hcz33_0
  try clear hcz33_1
  try clear hcz33_2
  try clear hcz33_3
  try clear hcz33_4
  try clear hcz33_5
  try clear hcz33_6
  try clear hcz33_7
  try clear hcz33_8
  try clear hcz34_0
  try clear hcz34_1
  try clear hcz34_2
  try clear hcz34_3
  try clear hcz34_4
  try clear hcz34_5
  try clear hcz34_6
  try clear hcz34_7
  try clear hcz34_8
  try clear hcz36_0
  try clear hcz36_1
  try clear hcz36_2
  try clear hcz36_3
  try clear hcz36_4
  try clear hcz36_5
  try clear hcz36_6
  try clear hcz36_7
  try clear hcz36_8
  try clear hcz37_0
  try clear hcz37_1
  try clear hcz37_2
  try clear hcz37_3
  try clear hcz37_4
  try clear hcz37_5
  try clear hcz37_6
  try clear hcz37_7
  try clear hcz37_8
  try clear hcz39_0
  try clear hcz39_1
  try clear hcz39_2
  try clear hcz39_3
  try clear hcz39_4
  try clear hcz39_5
  try clear hcz39_6
  try clear hcz39_7
  try clear hcz39_8
  try clear hcz40_0
  try clear hcz40_1
  try clear hcz40_2
  try clear hcz40_3
  try clear hcz40_4
  try clear hcz40_5
  try clear hcz40_6
  try clear hcz40_7
  try clear hcz40_8
  try clear hfz15_0
  try clear hfz15_1
  try clear hfz15_2
  try clear hfz15_3
  try clear hfz15_4
  try clear hfz15_5
  try clear hfz15_6
  try clear hfz15_7
  try clear hfz15_8
  try clear hfz16_0
  try clear hfz16_1
  try clear hfz16_2
  try clear hfz16_3
  try clear hfz16_4
  try clear hfz16_5
  try clear hfz16_6
  try clear hfz16_7
  try clear hfz16_8
  try clear hfz18_0
  try clear hfz18_1
  try clear hfz18_2
  try clear hfz18_3
  try clear hfz18_4
  try clear hfz18_5
  try clear hfz18_6
  try clear hfz18_7
  try clear hfz18_8
  try clear hfz19_0
  try clear hfz19_1
  try clear hfz19_2
  try clear hfz19_3
  try clear hfz19_4
  try clear hfz19_5
  try clear hfz19_6
  try clear hfz19_7
  try clear hfz19_8
  try clear hfz21_0
  try clear hfz21_1
  try clear hfz21_2
  try clear hfz21_3
  try clear hfz21_4
  try clear hfz21_5
  try clear hfz21_6
  try clear hfz21_7
  try clear hfz21_8
  try clear hfz22_0
  try clear hfz22_1
  try clear hfz22_2
  try clear hfz22_3
  try clear hfz22_4
  try clear hfz22_5
  try clear hfz22_6
  try clear hfz22_7
  try clear hfz22_8
  try clear hfz24_0
  try clear hfz24_1
  try clear hfz24_2
  try clear hfz24_3
  try clear hfz24_4
  try clear hfz24_5
  try clear hfz24_6
  try clear hfz24_7
  try clear hfz24_8
  try clear hfz25_0
  try clear hfz25_1
  try clear hfz25_2
  try clear hfz25_3
  try clear hfz25_4
  try clear hfz25_5
  try clear hfz25_6
  try clear hfz25_7
  try clear hfz25_8
  try clear hfz27_0
  try clear hfz27_1
  try clear hfz27_2
  try clear hfz27_3
  try clear hfz27_4
  try clear hfz27_5
  try clear hfz27_6
  try clear hfz27_7
  try clear hfz27_8
  try clear hfz28_0
  try clear hfz28_1
  try clear hfz28_2
  try clear hfz28_3
  try clear hfz28_4
  try clear hfz28_5
  try clear hfz28_6
  try clear hfz28_7
  try clear hfz28_8
  try clear hfz30_0
  try clear hfz30_1
  try clear hfz30_2
  try clear hfz30_3
  try clear hfz30_4
  try clear hfz30_5
  try clear hfz30_6
  try clear hfz30_7
  try clear hfz30_8
  try clear hfz31_0
  try clear hfz31_1
  try clear hfz31_2
  try clear hfz31_3
  try clear hfz31_4
  try clear hfz31_5
  try clear hfz31_6
  try clear hfz31_7
  try clear hfz31_8
  try clear hfz33_0
  try clear hfz33_1
  try clear hfz33_2
  try clear hfz33_3
  try clear hfz33_4
  try clear hfz33_5
  try clear hfz33_6
  try clear hfz33_7
  try clear hfz33_8
  try clear hfz34_0
  try clear hfz34_1
  try clear hfz34_2
  try clear hfz34_3
  try clear hfz34_4
  try clear hfz34_5
  try clear hfz34_6
  try clear hfz34_7
  try clear hfz34_8
  try clear hfz36_0
  try clear hfz36_1
  try clear hfz36_2
  try clear hfz36_3
  try clear hfz36_4
  try clear hfz36_5
  try clear hfz36_6
  try clear hfz36_7
  try clear hfz36_8
  try clear hfz37_0
  try clear hfz37_1
  try clear hfz37_2
  try clear hfz37_3
  try clear hfz37_4
  try clear hfz37_5
  try clear hfz37_6
  try clear hfz37_7
  try clear hfz37_8
  try clear hfz39_0
  try clear hfz39_1
  try clear hfz39_2
  try clear hfz39_3
  try clear hfz39_4
  try clear hfz39_5
  try clear hfz39_6
  try clear hfz39_7
  try clear hfz39_8
  try clear hfz40_0
  try clear hfz40_1
  try clear hfz40_2
  try clear hfz40_3
  try clear hfz40_4
  try clear hfz40_5
  try clear hfz40_6
  try clear hfz40_7
  try clear hfz40_8
  obtain ⟨kq, x71_2, rfl, HA, HJ2, BK230, BK231, HB⟩ := hcut
  cases kq with
  | zero => exact absurd HA.out (by simp [stowageref16_Same.j0])
  | succ kj2 =>
   have H := HA.out
   clear HA
   simp only [stowageref16_Same.j0] at H
   by_cases c41 : x71_2 = true
   ·
    subst c41
    rw [if_pos rfl] at H
    obtain rfl := Option.some.inj H
    go_wp2
    repeat (go_quiet (fail); try go_wp2)
    go_ret
    exact ⟨rf, bws HB.out⟩
   ·
    replace c41 := Bool.eq_false_iff.mpr c41
    subst c41
    rw [if_neg (show ¬ (false = true) by decide)] at H
    have H' := am H
    clear H
    go_wp2
    repeat (go_quiet (fail); try go_wp2)
    go_loopg [5] kj2 (fun kq v5 w' => ∃ (x5_2 : Int), v5 = .int .i64 x5_2 ∧ Aside0 (stowageref16_Same.l0 kq x5_2 a0_0 a0_1 a0_2 a0_3 a0_4 a0_5 a0_6 l0_7 l0_8 a1_0 a1_1 a1_2 a1_3 a1_4 a1_5 a1_6 l1_7 l1_8 = some r) ∧ Aside0 (kq ≤ kj2) ∧ Aside0 (w'.heap[gb230]? = some (.cells #[.int .i64 a0_0, .string a0_1, .string a0_2, .string a0_3, .int .i64 a0_4, .int .i64 a0_5, .string a0_6, (.slice A0_7 l0_7.length c0_7), (.slice A0_8 l0_8.length c0_8)] 34 (0, 0))) ∧ Aside0 (w'.heap[gb231]? = some (.cells #[.int .i64 a1_0, .string a1_1, .string a1_2, .string a1_3, .int .i64 a1_4, .int .i64 a1_5, .string a1_6, (.slice A1_7 l1_7.length c1_7), (.slice A1_8 l1_8.length c1_8)] 34 (0, 0))) ∧ Aside0 (Below w.heap.size w w'))
    case atStart => exact ⟨(0), rs, H', ⟨Nat.le_refl _⟩, ⟨bk BK230.out⟩, ⟨bk BK231.out⟩, ⟨bws HB.out⟩⟩
    case round =>
     clear H'
     try clear c1
     try clear c2
     try clear p2
     try clear c3
     try clear c4
     try clear c6
     try clear c6b0
     try clear c6b1
     try clear c7
     try clear c7b0
     try clear c7b1
     try clear c8
     try clear c8b0
     try clear c8b1
     try clear c9
     try clear c9b0
     try clear c9b1
     try clear c10
     try clear c10b0
     try clear c10b1
     try clear c11
     try clear c11b0
     try clear c11b1
     try clear c12
     try clear c12b0
     try clear c12b1
     try clear c13
     try clear c13b0
     try clear c13b1
     try clear c13b2
     try clear c14
     try clear c17
     try clear c18
     try clear c20
     try clear c23
     try clear c26
     try clear c29
     try clear c32
     try clear c35
     try clear c38
     try clear c41
     try clear hcz15_0
     try clear hcz15_1
     try clear hcz15_2
     try clear hcz15_3
     try clear hcz15_4
     try clear hcz15_5
     try clear hcz15_6
     try clear hcz15_7
     try clear hcz15_8
     try clear hcz16_0
     try clear hcz16_1
     try clear hcz16_2
     try clear hcz16_3
     try clear hcz16_4
     try clear hcz16_5
     try clear hcz16_6
     try clear hcz16_7
     try clear hcz16_8
     try clear hcz18_0
     try clear hcz18_1
     try clear hcz18_2
     try clear hcz18_3
     try clear hcz18_4
     try clear hcz18_5
     try clear hcz18_6
     try clear hcz18_7
     try clear hcz18_8
     try clear hcz19_0
     try clear hcz19_1
     try clear hcz19_2
     try clear hcz19_3
     try clear hcz19_4
     try clear hcz19_5
     try clear hcz19_6
     try clear hcz19_7
     try clear hcz19_8
     try clear hcz21_0
     try clear hcz21_1
     try clear hcz21_2
     try clear hcz21_3
     try clear hcz21_4
     try clear hcz21_5
     try clear hcz21_6
     try clear hcz21_7
     try clear hcz21_8
     try clear hcz22_0
     try clear hcz22_1
     try clear hcz22_2
     try clear hcz22_3
     try clear hcz22_4
     try clear hcz22_5
     try clear hcz22_6
     try clear hcz22_7
     try clear hcz22_8
     try clear hcz24_0
     try clear hcz24_1
     try clear hcz24_2
     try clear hcz24_3
     try clear hcz24_4
     try clear hcz24_5
     try clear hcz24_6
     try clear hcz24_7
     try clear hcz24_8
     try clear hcz25_0
     try clear hcz25_1
     try clear hcz25_2
     try clear hcz25_3
     try clear hcz25_4
     try clear hcz25_5
     try clear hcz25_6
     try clear hcz25_7
     try clear hcz25_8
     try clear hcz27_0
     try clear hcz27_1
     try clear hcz27_2
     try clear hcz27_3
     try clear hcz27_4
     try clear hcz27_5
     try clear hcz27_6
     try clear hcz27_7
     try clear hcz27_8
     try clear hcz28_0
     try clear hcz28_1
     try clear hcz28_2
     try clear hcz28_3
     try clear hcz28_4
     try clear hcz28_5
     try clear hcz28_6
     try clear hcz28_7
     try clear hcz28_8
     try clear hcz30_0
     try clear hcz30_1
     try clear hcz30_2
     try clear hcz30_3
     try clear hcz30_4
     try clear hcz30_5
     try clear hcz30_6
     try clear hcz30_7
     try clear hcz30_8
     try clear hcz31_0
     try clear hcz31_1
     try clear hcz31_2
     try clear hcz31_3
     try clear hcz31_4
     try clear hcz31_5
     try clear hcz31_6
     try clear hcz31_7
     try clear hcz31_8
     try clear hcz33_0
     try clear hcz33_1
     try clear hcz33_2
     try clear hcz33_3
     try clear hcz33_4
     try clear hcz33_5
     try clear hcz33_6
     try clear hcz33_7
     try clear hcz33_8
     try clear hcz34_0
     try clear hcz34_1
     try clear hcz34_2
     try clear hcz34_3
     try clear hcz34_4
     try clear hcz34_5
     try clear hcz34_6
     try clear hcz34_7
     try clear hcz34_8
     try clear hcz36_0
     try clear hcz36_1
     try clear hcz36_2
     try clear hcz36_3
     try clear hcz36_4
     try clear hcz36_5
     try clear hcz36_6
     try clear hcz36_7
     try clear hcz36_8
     try clear hcz37_0
     try clear hcz37_1
     try clear hcz37_2
     try clear hcz37_3
     try clear hcz37_4
     try clear hcz37_5
     try clear hcz37_6
     try clear hcz37_7
     try clear hcz37_8
     try clear hcz39_0
     try clear hcz39_1
     try clear hcz39_2
     try clear hcz39_3
     try clear hcz39_4
     try clear hcz39_5
     try clear hcz39_6
     try clear hcz39_7
     try clear hcz39_8
     try clear hcz40_0
     try clear hcz40_1
     try clear hcz40_2
     try clear hcz40_3
     try clear hcz40_4
     try clear hcz40_5
     try clear hcz40_6
     try clear hcz40_7
     try clear hcz40_8
     try clear hfz15_0
     try clear hfz15_1
     try clear hfz15_2
     try clear hfz15_3
     try clear hfz15_4
     try clear hfz15_5
     try clear hfz15_6
     try clear hfz15_7
     try clear hfz15_8
     try clear hfz16_0
     try clear hfz16_1
     try clear hfz16_2
     try clear hfz16_3
     try clear hfz16_4
     try clear hfz16_5
     try clear hfz16_6
     try clear hfz16_7
     try clear hfz16_8
     try clear hfz18_0
     try clear hfz18_1
     try clear hfz18_2
     try clear hfz18_3
     try clear hfz18_4
     try clear hfz18_5
     try clear hfz18_6
     try clear hfz18_7
     try clear hfz18_8
     try clear hfz19_0
     try clear hfz19_1
     try clear hfz19_2
     try clear hfz19_3
     try clear hfz19_4
     try clear hfz19_5
     try clear hfz19_6
     try clear hfz19_7
     try clear hfz19_8
     try clear hfz21_0
     try clear hfz21_1
     try clear hfz21_2
     try clear hfz21_3
     try clear hfz21_4
     try clear hfz21_5
     try clear hfz21_6
     try clear hfz21_7
     try clear hfz21_8
     try clear hfz22_0
     try clear hfz22_1
     try clear hfz22_2
     try clear hfz22_3
     try clear hfz22_4
     try clear hfz22_5
     try clear hfz22_6
     try clear hfz22_7
     try clear hfz22_8
     try clear hfz24_0
     try clear hfz24_1
     try clear hfz24_2
     try clear hfz24_3
     try clear hfz24_4
     try clear hfz24_5
     try clear hfz24_6
     try clear hfz24_7
     try clear hfz24_8
     try clear hfz25_0
     try clear hfz25_1
     try clear hfz25_2
     try clear hfz25_3
     try clear hfz25_4
     try clear hfz25_5
     try clear hfz25_6
     try clear hfz25_7
     try clear hfz25_8
     try clear hfz27_0
     try clear hfz27_1
     try clear hfz27_2
     try clear hfz27_3
     try clear hfz27_4
     try clear hfz27_5
     try clear hfz27_6
     try clear hfz27_7
     try clear hfz27_8
     try clear hfz28_0
     try clear hfz28_1
     try clear hfz28_2
     try clear hfz28_3
     try clear hfz28_4
     try clear hfz28_5
     try clear hfz28_6
     try clear hfz28_7
     try clear hfz28_8
     try clear hfz30_0
     try clear hfz30_1
     try clear hfz30_2
     try clear hfz30_3
     try clear hfz30_4
     try clear hfz30_5
     try clear hfz30_6
     try clear hfz30_7
     try clear hfz30_8
     try clear hfz31_0
     try clear hfz31_1
     try clear hfz31_2
     try clear hfz31_3
     try clear hfz31_4
     try clear hfz31_5
     try clear hfz31_6
     try clear hfz31_7
     try clear hfz31_8
     try clear hfz33_0
     try clear hfz33_1
     try clear hfz33_2
     try clear hfz33_3
     try clear hfz33_4
     try clear hfz33_5
     try clear hfz33_6
     try clear hfz33_7
     try clear hfz33_8
     try clear hfz34_0
     try clear hfz34_1
     try clear hfz34_2
     try clear hfz34_3
     try clear hfz34_4
     try clear hfz34_5
     try clear hfz34_6
     try clear hfz34_7
     try clear hfz34_8
     try clear hfz36_0
     try clear hfz36_1
     try clear hfz36_2
     try clear hfz36_3
     try clear hfz36_4
     try clear hfz36_5
     try clear hfz36_6
     try clear hfz36_7
     try clear hfz36_8
     try clear hfz37_0
     try clear hfz37_1
     try clear hfz37_2
     try clear hfz37_3
     try clear hfz37_4
     try clear hfz37_5
     try clear hfz37_6
     try clear hfz37_7
     try clear hfz37_8
     try clear hfz39_0
     try clear hfz39_1
     try clear hfz39_2
     try clear hfz39_3
     try clear hfz39_4
     try clear hfz39_5
     try clear hfz39_6
     try clear hfz39_7
     try clear hfz39_8
     try clear hfz40_0
     try clear hfz40_1
     try clear hfz40_2
     try clear hfz40_3
     try clear hfz40_4
     try clear hfz40_5
     try clear hfz40_6
     try clear hfz40_7
     try clear hfz40_8
     try clear p2
     obtain ⟨x5_2, rfl, HA, HK2, BK230, BK231, HB⟩ := hrel
     cases gk with
     | zero => exact absurd HA.out (by simp [stowageref16_Same.l0])
     | succ k2 =>
      have H := HA.out
      clear HA
      simp only [stowageref16_Same.l0] at H
      replace H := iteD H
      rcases H with ⟨c42b0, H⟩ | ⟨c42b0, H⟩
      ·
       replace H := iteD H
       rcases H with ⟨c43b0, H⟩ | ⟨_, H⟩
       ·
        replace H := iteD H
        rcases H with ⟨c44b0, H⟩ | ⟨_, H⟩
        ·
         by_cases c45 : (!((((rd_T95 l0_7 x5_2).f0).toList) == (((rd_T95 l1_7 x5_2).f0).toList)) || (!(((rd_T95 l0_7 x5_2).f1) == ((rd_T95 l1_7 x5_2).f1)))) = true
         ·
          rw [if_pos c45] at H
          have c45b0 : (!((((rd_T95 l0_7 x5_2).f0).toList) == (((rd_T95 l1_7 x5_2).f0).toList)) || (!(((rd_T95 l0_7 x5_2).f1) == ((rd_T95 l1_7 x5_2).f1)))) = true := c45
          clear c45
          obtain rfl := Option.some.inj H
          have hnb46 := NB230_231.out
          have hnc46 := NB231_230.out
          have hcz47_0 : wr.cell? ⟨gb230, 0, none⟩ = some (.int .i64 a0_0) := (blk_cell BK230.out 0).trans rfl
          have hcz47_1 : wr.cell? ⟨gb230, 1, none⟩ = some (.string a0_1) := (blk_cell BK230.out 1).trans rfl
          have hcz47_2 : wr.cell? ⟨gb230, 2, none⟩ = some (.string a0_2) := (blk_cell BK230.out 2).trans rfl
          have hcz47_3 : wr.cell? ⟨gb230, 3, none⟩ = some (.string a0_3) := (blk_cell BK230.out 3).trans rfl
          have hcz47_4 : wr.cell? ⟨gb230, 4, none⟩ = some (.int .i64 a0_4) := (blk_cell BK230.out 4).trans rfl
          have hcz47_5 : wr.cell? ⟨gb230, 5, none⟩ = some (.int .i64 a0_5) := (blk_cell BK230.out 5).trans rfl
          have hcz47_6 : wr.cell? ⟨gb230, 6, none⟩ = some (.string a0_6) := (blk_cell BK230.out 6).trans rfl
          have hcz47_7 : wr.cell? ⟨gb230, 7, none⟩ = some (.slice A0_7 l0_7.length c0_7) := (blk_cell BK230.out 7).trans rfl
          have hcz47_8 : wr.cell? ⟨gb230, 8, none⟩ = some (.slice A0_8 l0_8.length c0_8) := (blk_cell BK230.out 8).trans rfl
          have hfz47_0 := blk_frozen BK230.out 0
          have hfz47_1 := blk_frozen BK230.out 1
          have hfz47_2 := blk_frozen BK230.out 2
          have hfz47_3 := blk_frozen BK230.out 3
          have hfz47_4 := blk_frozen BK230.out 4
          have hfz47_5 := blk_frozen BK230.out 5
          have hfz47_6 := blk_frozen BK230.out 6
          have hfz47_7 := blk_frozen BK230.out 7
          have hfz47_8 := blk_frozen BK230.out 8
          have p232 := pz x5_2
          have q232 := pl x5_2 (l0_7.length : Int)
          obtain ⟨ad232, e232, hx232_0, hx232_1⟩ := at_T95 HR0_7.out x5_2 (of_eq_true p232) (of_eq_true q232)
          cases e232
          replace hx232_0 := bc HB.out hx232_0
          replace hx232_1 := bc HB.out hx232_1
          have hcz48_0 : wr.cell? ⟨gb231, 0, none⟩ = some (.int .i64 a1_0) := (blk_cell BK231.out 0).trans rfl
          have hcz48_1 : wr.cell? ⟨gb231, 1, none⟩ = some (.string a1_1) := (blk_cell BK231.out 1).trans rfl
          have hcz48_2 : wr.cell? ⟨gb231, 2, none⟩ = some (.string a1_2) := (blk_cell BK231.out 2).trans rfl
          have hcz48_3 : wr.cell? ⟨gb231, 3, none⟩ = some (.string a1_3) := (blk_cell BK231.out 3).trans rfl
          have hcz48_4 : wr.cell? ⟨gb231, 4, none⟩ = some (.int .i64 a1_4) := (blk_cell BK231.out 4).trans rfl
          have hcz48_5 : wr.cell? ⟨gb231, 5, none⟩ = some (.int .i64 a1_5) := (blk_cell BK231.out 5).trans rfl
          have hcz48_6 : wr.cell? ⟨gb231, 6, none⟩ = some (.string a1_6) := (blk_cell BK231.out 6).trans rfl
          have hcz48_7 : wr.cell? ⟨gb231, 7, none⟩ = some (.slice A1_7 l1_7.length c1_7) := (blk_cell BK231.out 7).trans rfl
          have hcz48_8 : wr.cell? ⟨gb231, 8, none⟩ = some (.slice A1_8 l1_8.length c1_8) := (blk_cell BK231.out 8).trans rfl
          have hfz48_0 := blk_frozen BK231.out 0
          have hfz48_1 := blk_frozen BK231.out 1
          have hfz48_2 := blk_frozen BK231.out 2
          have hfz48_3 := blk_frozen BK231.out 3
          have hfz48_4 := blk_frozen BK231.out 4
          have hfz48_5 := blk_frozen BK231.out 5
          have hfz48_6 := blk_frozen BK231.out 6
          have hfz48_7 := blk_frozen BK231.out 7
          have hfz48_8 := blk_frozen BK231.out 8
          have p233 := pz x5_2
          have q233 := pl x5_2 (l1_7.length : Int)
          obtain ⟨ad233, e233, hx233_0, hx233_1⟩ := at_T95 HR1_7.out x5_2 (of_eq_true p233) (of_eq_true q233)
          cases e233
          replace hx233_0 := bc HB.out hx233_0
          replace hx233_1 := bc HB.out hx233_1
          go_wp2
          repeat (go_quiet (fail); try go_wp2)
          go_ret
          exact ⟨rf, bws HB.out⟩
         ·
          rw [if_neg c45] at H
          have c45b0 : (!((((rd_T95 l0_7 x5_2).f0).toList) == (((rd_T95 l1_7 x5_2).f0).toList)) || (!(((rd_T95 l0_7 x5_2).f1) == ((rd_T95 l1_7 x5_2).f1)))) = false := by simpa using c45
          clear c45
          have H' := am H
          clear H
          have hnb49 := NB230_231.out
          have hnc49 := NB231_230.out
          have hcz50_0 : wr.cell? ⟨gb230, 0, none⟩ = some (.int .i64 a0_0) := (blk_cell BK230.out 0).trans rfl
          have hcz50_1 : wr.cell? ⟨gb230, 1, none⟩ = some (.string a0_1) := (blk_cell BK230.out 1).trans rfl
          have hcz50_2 : wr.cell? ⟨gb230, 2, none⟩ = some (.string a0_2) := (blk_cell BK230.out 2).trans rfl
          have hcz50_3 : wr.cell? ⟨gb230, 3, none⟩ = some (.string a0_3) := (blk_cell BK230.out 3).trans rfl
          have hcz50_4 : wr.cell? ⟨gb230, 4, none⟩ = some (.int .i64 a0_4) := (blk_cell BK230.out 4).trans rfl
          have hcz50_5 : wr.cell? ⟨gb230, 5, none⟩ = some (.int .i64 a0_5) := (blk_cell BK230.out 5).trans rfl
          have hcz50_6 : wr.cell? ⟨gb230, 6, none⟩ = some (.string a0_6) := (blk_cell BK230.out 6).trans rfl
          have hcz50_7 : wr.cell? ⟨gb230, 7, none⟩ = some (.slice A0_7 l0_7.length c0_7) := (blk_cell BK230.out 7).trans rfl
          have hcz50_8 : wr.cell? ⟨gb230, 8, none⟩ = some (.slice A0_8 l0_8.length c0_8) := (blk_cell BK230.out 8).trans rfl
          have hfz50_0 := blk_frozen BK230.out 0
          have hfz50_1 := blk_frozen BK230.out 1
          have hfz50_2 := blk_frozen BK230.out 2
          have hfz50_3 := blk_frozen BK230.out 3
          have hfz50_4 := blk_frozen BK230.out 4
          have hfz50_5 := blk_frozen BK230.out 5
          have hfz50_6 := blk_frozen BK230.out 6
          have hfz50_7 := blk_frozen BK230.out 7
          have hfz50_8 := blk_frozen BK230.out 8
          have p232 := pz x5_2
          have q232 := pl x5_2 (l0_7.length : Int)
          obtain ⟨ad232, e232, hx232_0, hx232_1⟩ := at_T95 HR0_7.out x5_2 (of_eq_true p232) (of_eq_true q232)
          cases e232
          replace hx232_0 := bc HB.out hx232_0
          replace hx232_1 := bc HB.out hx232_1
          have hcz51_0 : wr.cell? ⟨gb231, 0, none⟩ = some (.int .i64 a1_0) := (blk_cell BK231.out 0).trans rfl
          have hcz51_1 : wr.cell? ⟨gb231, 1, none⟩ = some (.string a1_1) := (blk_cell BK231.out 1).trans rfl
          have hcz51_2 : wr.cell? ⟨gb231, 2, none⟩ = some (.string a1_2) := (blk_cell BK231.out 2).trans rfl
          have hcz51_3 : wr.cell? ⟨gb231, 3, none⟩ = some (.string a1_3) := (blk_cell BK231.out 3).trans rfl
          have hcz51_4 : wr.cell? ⟨gb231, 4, none⟩ = some (.int .i64 a1_4) := (blk_cell BK231.out 4).trans rfl
          have hcz51_5 : wr.cell? ⟨gb231, 5, none⟩ = some (.int .i64 a1_5) := (blk_cell BK231.out 5).trans rfl
          have hcz51_6 : wr.cell? ⟨gb231, 6, none⟩ = some (.string a1_6) := (blk_cell BK231.out 6).trans rfl
          have hcz51_7 : wr.cell? ⟨gb231, 7, none⟩ = some (.slice A1_7 l1_7.length c1_7) := (blk_cell BK231.out 7).trans rfl
          have hcz51_8 : wr.cell? ⟨gb231, 8, none⟩ = some (.slice A1_8 l1_8.length c1_8) := (blk_cell BK231.out 8).trans rfl
          have hfz51_0 := blk_frozen BK231.out 0
          have hfz51_1 := blk_frozen BK231.out 1
          have hfz51_2 := blk_frozen BK231.out 2
          have hfz51_3 := blk_frozen BK231.out 3
          have hfz51_4 := blk_frozen BK231.out 4
          have hfz51_5 := blk_frozen BK231.out 5
          have hfz51_6 := blk_frozen BK231.out 6
          have hfz51_7 := blk_frozen BK231.out 7
          have hfz51_8 := blk_frozen BK231.out 8
          have p233 := pz x5_2
          have q233 := pl x5_2 (l1_7.length : Int)
          obtain ⟨ad233, e233, hx233_0, hx233_1⟩ := at_T95 HR1_7.out x5_2 (of_eq_true p233) (of_eq_true q233)
          cases e233
          replace hx233_0 := bc HB.out hx233_0
          replace hx233_1 := bc HB.out hx233_1
          go_wp2
          repeat (go_quiet (fail); try go_wp2)
          go_roundg k2
          case measure => have := HJ2.out; have := HK2.out; omega
          case rel => exact ⟨(wrap64 (x5_2 + 1)), rs, H', ⟨by have := HJ2.out; have := HK2.out; omega⟩, ⟨bk BK230.out⟩, ⟨bk BK231.out⟩, ⟨bws HB.out⟩⟩
        ·
         exact absurd H (by simp)
       ·
        exact absurd H (by simp)
      ·
       have H' := am H
       clear H
       have hnb52 := NB230_231.out
       have hnc52 := NB231_230.out
       have hcz53_0 : wr.cell? ⟨gb230, 0, none⟩ = some (.int .i64 a0_0) := (blk_cell BK230.out 0).trans rfl
       have hcz53_1 : wr.cell? ⟨gb230, 1, none⟩ = some (.string a0_1) := (blk_cell BK230.out 1).trans rfl
       have hcz53_2 : wr.cell? ⟨gb230, 2, none⟩ = some (.string a0_2) := (blk_cell BK230.out 2).trans rfl
       have hcz53_3 : wr.cell? ⟨gb230, 3, none⟩ = some (.string a0_3) := (blk_cell BK230.out 3).trans rfl
       have hcz53_4 : wr.cell? ⟨gb230, 4, none⟩ = some (.int .i64 a0_4) := (blk_cell BK230.out 4).trans rfl
       have hcz53_5 : wr.cell? ⟨gb230, 5, none⟩ = some (.int .i64 a0_5) := (blk_cell BK230.out 5).trans rfl
       have hcz53_6 : wr.cell? ⟨gb230, 6, none⟩ = some (.string a0_6) := (blk_cell BK230.out 6).trans rfl
       have hcz53_7 : wr.cell? ⟨gb230, 7, none⟩ = some (.slice A0_7 l0_7.length c0_7) := (blk_cell BK230.out 7).trans rfl
       have hcz53_8 : wr.cell? ⟨gb230, 8, none⟩ = some (.slice A0_8 l0_8.length c0_8) := (blk_cell BK230.out 8).trans rfl
       have hfz53_0 := blk_frozen BK230.out 0
       have hfz53_1 := blk_frozen BK230.out 1
       have hfz53_2 := blk_frozen BK230.out 2
       have hfz53_3 := blk_frozen BK230.out 3
       have hfz53_4 := blk_frozen BK230.out 4
       have hfz53_5 := blk_frozen BK230.out 5
       have hfz53_6 := blk_frozen BK230.out 6
       have hfz53_7 := blk_frozen BK230.out 7
       have hfz53_8 := blk_frozen BK230.out 8
       go_wp2
       repeat (go_quiet (fail); try go_wp2)
       go_loopg [6] k2 (fun kq v6 w' => ∃ (x6_3 : Int), v6 = .int .i64 x6_3 ∧ Aside0 (stowageref16_Same.l1 kq x6_3 a0_0 a0_1 a0_2 a0_3 a0_4 a0_5 a0_6 l0_7 l0_8 a1_0 a1_1 a1_2 a1_3 a1_4 a1_5 a1_6 l1_7 l1_8 = some r) ∧ Aside0 (kq ≤ k2) ∧ Aside0 (w'.heap[gb230]? = some (.cells #[.int .i64 a0_0, .string a0_1, .string a0_2, .string a0_3, .int .i64 a0_4, .int .i64 a0_5, .string a0_6, (.slice A0_7 l0_7.length c0_7), (.slice A0_8 l0_8.length c0_8)] 34 (0, 0))) ∧ Aside0 (w'.heap[gb231]? = some (.cells #[.int .i64 a1_0, .string a1_1, .string a1_2, .string a1_3, .int .i64 a1_4, .int .i64 a1_5, .string a1_6, (.slice A1_7 l1_7.length c1_7), (.slice A1_8 l1_8.length c1_8)] 34 (0, 0))) ∧ Aside0 (Below w.heap.size w w'))
       case atStart => exact ⟨(0), rs, H', ⟨Nat.le_refl _⟩, ⟨bk BK230.out⟩, ⟨bk BK231.out⟩, ⟨bws HB.out⟩⟩
       case round =>
        clear H'
        try clear c1
        try clear c2
        try clear p2
        try clear q2
        try clear hx2
        try clear c3
        try clear c4
        try clear c5
        try clear c6
        try clear c6b0
        try clear c6b1
        try clear p6
        try clear c7
        try clear c7b0
        try clear c7b1
        try clear c8
        try clear c8b0
        try clear c8b1
        try clear c9
        try clear c9b0
        try clear c9b1
        try clear c10
        try clear c10b0
        try clear c10b1
        try clear c11
        try clear c11b0
        try clear c11b1
        try clear c12
        try clear c12b0
        try clear c12b1
        try clear c13
        try clear c13b0
        try clear c13b1
        try clear c13b2
        try clear c14
        try clear c17
        try clear c18
        try clear c20
        try clear c23
        try clear p23
        try clear q23
        try clear hx23
        try clear c26
        try clear c29
        try clear c32
        try clear c35
        try clear c38
        try clear c41
        try clear c42
        try clear c42b0
        try clear c43
        try clear c43b0
        try clear c44
        try clear c44b0
        try clear c45
        try clear c45b0
        try clear c46
        try clear c49
        try clear c52
        try clear hcz15_0
        try clear hcz15_1
        try clear hcz15_2
        try clear hcz15_3
        try clear hcz15_4
        try clear hcz15_5
        try clear hcz15_6
        try clear hcz15_7
        try clear hcz15_8
        try clear hcz16_0
        try clear hcz16_1
        try clear hcz16_2
        try clear hcz16_3
        try clear hcz16_4
        try clear hcz16_5
        try clear hcz16_6
        try clear hcz16_7
        try clear hcz16_8
        try clear hcz18_0
        try clear hcz18_1
        try clear hcz18_2
        try clear hcz18_3
        try clear hcz18_4
        try clear hcz18_5
        try clear hcz18_6
        try clear hcz18_7
        try clear hcz18_8
        try clear hcz19_0
        try clear hcz19_1
        try clear hcz19_2
        try clear hcz19_3
        try clear hcz19_4
        try clear hcz19_5
        try clear hcz19_6
        try clear hcz19_7
        try clear hcz19_8
        try clear hcz21_0
        try clear hcz21_1
        try clear hcz21_2
        try clear hcz21_3
        try clear hcz21_4
        try clear hcz21_5
        try clear hcz21_6
        try clear hcz21_7
        try clear hcz21_8
        try clear hcz22_0
        try clear hcz22_1
        try clear hcz22_2
        try clear hcz22_3
        try clear hcz22_4
        try clear hcz22_5
        try clear hcz22_6
        try clear hcz22_7
        try clear hcz22_8
        try clear hcz24_0
        try clear hcz24_1
        try clear hcz24_2
        try clear hcz24_3
        try clear hcz24_4
        try clear hcz24_5
        try clear hcz24_6
        try clear hcz24_7
        try clear hcz24_8
        try clear hcz25_0
        try clear hcz25_1
        try clear hcz25_2
        try clear hcz25_3
        try clear hcz25_4
        try clear hcz25_5
        try clear hcz25_6
        try clear hcz25_7
        try clear hcz25_8
        try clear hcz27_0
        try clear hcz27_1
        try clear hcz27_2
        try clear hcz27_3
        try clear hcz27_4
        try clear hcz27_5
        try clear hcz27_6
        try clear hcz27_7
        try clear hcz27_8
        try clear hcz28_0
        try clear hcz28_1
        try clear hcz28_2
        try clear hcz28_3
        try clear hcz28_4
        try clear hcz28_5
        try clear hcz28_6
        try clear hcz28_7
        try clear hcz28_8
        try clear hcz30_0
        try clear hcz30_1
        try clear hcz30_2
        try clear hcz30_3
        try clear hcz30_4
        try clear hcz30_5
        try clear hcz30_6
        try clear hcz30_7
        try clear hcz30_8
        try clear hcz31_0
        try clear hcz31_1
        try clear hcz31_2
        try clear hcz31_3
        try clear hcz31_4
        try clear hcz31_5
        try clear hcz31_6
        try clear hcz31_7
        try clear hcz31_8
        try clear hcz33_0
        try clear hcz33_1
        try clear hcz33_2
        try clear hcz33_3
        try clear hcz33_4
        try clear hcz33_5
        try clear hcz33_6
        try clear hcz33_7
        try clear hcz33_8
        try clear hcz34_0
        try clear hcz34_1
        try clear hcz34_2
        try clear hcz34_3
        try clear hcz34_4
        try clear hcz34_5
        try clear hcz34_6
        try clear hcz34_7
        try clear hcz34_8
        try clear hcz36_0
        try clear hcz36_1
        try clear hcz36_2
        try clear hcz36_3
        try clear hcz36_4
        try clear hcz36_5
        try clear hcz36_6
        try clear hcz36_7
        try clear hcz36_8
        try clear hcz37_0
        try clear hcz37_1
        try clear hcz37_2
        try clear hcz37_3
        try clear hcz37_4
        try clear hcz37_5
        try clear hcz37_6
        try clear hcz37_7
        try clear hcz37_8
        try clear hcz39_0
        try clear hcz39_1
        try clear hcz39_2
        try clear hcz39_3
        try clear hcz39_4
        try clear hcz39_5
        try clear hcz39_6
        try clear hcz39_7
        try clear hcz39_8
        try clear hcz40_0
        try clear hcz40_1
        try clear hcz40_2
        try clear hcz40_3
        try clear hcz40_4
        try clear hcz40_5
        try clear hcz40_6
        try clear hcz40_7
        try clear hcz40_8
        try clear hcz47_0
        try clear hcz47_1
        try clear hcz47_2
        try clear hcz47_3
        try clear hcz47_4
        try clear hcz47_5
        try clear hcz47_6
        try clear hcz47_7
        try clear hcz47_8
        try clear hcz48_0
        try clear hcz48_1
        try clear hcz48_2
        try clear hcz48_3
        try clear hcz48_4
        try clear hcz48_5
        try clear hcz48_6
        try clear hcz48_7
        try clear hcz48_8
        try clear hcz50_0
        try clear hcz50_1
        try clear hcz50_2
        try clear hcz50_3
        try clear hcz50_4
        try clear hcz50_5
        try clear hcz50_6
        try clear hcz50_7
        try clear hcz50_8
        try clear hcz51_0
        try clear hcz51_1
        try clear hcz51_2
        try clear hcz51_3
        try clear hcz51_4
        try clear hcz51_5
        try clear hcz51_6
        try clear hcz51_7
        try clear hcz51_8
        try clear hcz53_0
        try clear hcz53_1
        try clear hcz53_2
        try clear hcz53_3
        try clear hcz53_4
        try clear hcz53_5
        try clear hcz53_6
        try clear hcz53_7
        try clear hcz53_8
        try clear hfz15_0
        try clear hfz15_1
        try clear hfz15_2
        try clear hfz15_3
        try clear hfz15_4
        try clear hfz15_5
        try clear hfz15_6
        try clear hfz15_7
        try clear hfz15_8
        try clear hfz16_0
        try clear hfz16_1
        try clear hfz16_2
        try clear hfz16_3
        try clear hfz16_4
        try clear hfz16_5
        try clear hfz16_6
        try clear hfz16_7
        try clear hfz16_8
        try clear hfz18_0
        try clear hfz18_1
        try clear hfz18_2
        try clear hfz18_3
        try clear hfz18_4
        try clear hfz18_5
        try clear hfz18_6
        try clear hfz18_7
        try clear hfz18_8
        try clear hfz19_0
        try clear hfz19_1
        try clear hfz19_2
        try clear hfz19_3
        try clear hfz19_4
        try clear hfz19_5
        try clear hfz19_6
        try clear hfz19_7
        try clear hfz19_8
        try clear hfz21_0
        try clear hfz21_1
        try clear hfz21_2
        try clear hfz21_3
        try clear hfz21_4
        try clear hfz21_5
        try clear hfz21_6
        try clear hfz21_7
        try clear hfz21_8
        try clear hfz22_0
        try clear hfz22_1
        try clear hfz22_2
        try clear hfz22_3
        try clear hfz22_4
        try clear hfz22_5
        try clear hfz22_6
        try clear hfz22_7
        try clear hfz22_8
        try clear hfz24_0
        try clear hfz24_1
        try clear hfz24_2
        try clear hfz24_3
        try clear hfz24_4
        try clear hfz24_5
        try clear hfz24_6
        try clear hfz24_7
        try clear hfz24_8
        try clear hfz25_0
        try clear hfz25_1
        try clear hfz25_2
        try clear hfz25_3
        try clear hfz25_4
        try clear hfz25_5
        try clear hfz25_6
        try clear hfz25_7
        try clear hfz25_8
        try clear hfz27_0
        try clear hfz27_1
        try clear hfz27_2
        try clear hfz27_3
        try clear hfz27_4
        try clear hfz27_5
        try clear hfz27_6
        try clear hfz27_7
        try clear hfz27_8
        try clear hfz28_0
        try clear hfz28_1
        try clear hfz28_2
        try clear hfz28_3
        try clear hfz28_4
        try clear hfz28_5
        try clear hfz28_6
        try clear hfz28_7
        try clear hfz28_8
        try clear hfz30_0
        try clear hfz30_1
        try clear hfz30_2
        try clear hfz30_3
        try clear hfz30_4
        try clear hfz30_5
        try clear hfz30_6
        try clear hfz30_7
        try clear hfz30_8
        try clear hfz31_0
        try clear hfz31_1
        try clear hfz31_2
        try clear hfz31_3
        try clear hfz31_4
        try clear hfz31_5
        try clear hfz31_6
        try clear hfz31_7
        try clear hfz31_8
        try clear hfz33_0
        try clear hfz33_1
        try clear hfz33_2
        try clear hfz33_3
        try clear hfz33_4
        try clear hfz33_5
        try clear hfz33_6
        try clear hfz33_7
        try clear hfz33_8
        try clear hfz34_0
        try clear hfz34_1
        try clear hfz34_2
        try clear hfz34_3
        try clear hfz34_4
        try clear hfz34_5
        try clear hfz34_6
        try clear hfz34_7
        try clear hfz34_8
        try clear hfz36_0
        try clear hfz36_1
        try clear hfz36_2
        try clear hfz36_3
        try clear hfz36_4
        try clear hfz36_5
        try clear hfz36_6
        try clear hfz36_7
        try clear hfz36_8
        try clear hfz37_0
        try clear hfz37_1
        try clear hfz37_2
        try clear hfz37_3
        try clear hfz37_4
        try clear hfz37_5
        try clear hfz37_6
        try clear hfz37_7
        try clear hfz37_8
        try clear hfz39_0
        try clear hfz39_1
        try clear hfz39_2
        try clear hfz39_3
        try clear hfz39_4
        try clear hfz39_5
        try clear hfz39_6
        try clear hfz39_7
        try clear hfz39_8
        try clear hfz40_0
        try clear hfz40_1
        try clear hfz40_2
        try clear hfz40_3
        try clear hfz40_4
        try clear hfz40_5
        try clear hfz40_6
        try clear hfz40_7
        try clear hfz40_8
        try clear hfz47_0
        try clear hfz47_1
        try clear hfz47_2
        try clear hfz47_3
        try clear hfz47_4
        try clear hfz47_5
        try clear hfz47_6
        try clear hfz47_7
        try clear hfz47_8
        try clear hfz48_0
        try clear hfz48_1
        try clear hfz48_2
        try clear hfz48_3
        try clear hfz48_4
        try clear hfz48_5
        try clear hfz48_6
        try clear hfz48_7
        try clear hfz48_8
        try clear hfz50_0
        try clear hfz50_1
        try clear hfz50_2
        try clear hfz50_3
        try clear hfz50_4
        try clear hfz50_5
        try clear hfz50_6
        try clear hfz50_7
        try clear hfz50_8
        try clear hfz51_0
        try clear hfz51_1
        try clear hfz51_2
        try clear hfz51_3
        try clear hfz51_4
        try clear hfz51_5
        try clear hfz51_6
        try clear hfz51_7
        try clear hfz51_8
        try clear hfz53_0
        try clear hfz53_1
        try clear hfz53_2
        try clear hfz53_3
        try clear hfz53_4
        try clear hfz53_5
        try clear hfz53_6
        try clear hfz53_7
        try clear hfz53_8
        try clear hx232_0
        try clear hx232_1
        try clear hx233_0
        try clear hx233_1
        try clear p2
        try clear p232
        try clear p233
        try clear q232
        try clear q233
        obtain ⟨x6_3, rfl, HA, HK3, BK230, BK231, HB⟩ := hrel
        cases gk with
        | zero => exact absurd HA.out (by simp [stowageref16_Same.l1])
        | succ k3 =>
         have H := HA.out
         clear HA
         simp only [stowageref16_Same.l1] at H
         replace H := iteD H
         rcases H with ⟨c54b0, H⟩ | ⟨c54b0, H⟩
         ·
          replace H := iteD H
          rcases H with ⟨c55b0, H⟩ | ⟨_, H⟩
          ·
           replace H := iteD H
           rcases H with ⟨c56b0, H⟩ | ⟨_, H⟩
           ·
            by_cases c57 : (!(((rd_T61 l0_8 x6_3).f0) == ((rd_T61 l1_8 x6_3).f0)) || (!((((rd_T61 l0_8 x6_3).f1).toList) == (((rd_T61 l1_8 x6_3).f1).toList)))) = true
            ·
             rw [if_pos c57] at H
             have c57b0 : (!(((rd_T61 l0_8 x6_3).f0) == ((rd_T61 l1_8 x6_3).f0)) || (!((((rd_T61 l0_8 x6_3).f1).toList) == (((rd_T61 l1_8 x6_3).f1).toList)))) = true := c57
             clear c57
             obtain rfl := Option.some.inj H
             have hnb58 := NB230_231.out
             have hnc58 := NB231_230.out
             have hcz59_0 : wr.cell? ⟨gb230, 0, none⟩ = some (.int .i64 a0_0) := (blk_cell BK230.out 0).trans rfl
             have hcz59_1 : wr.cell? ⟨gb230, 1, none⟩ = some (.string a0_1) := (blk_cell BK230.out 1).trans rfl
             have hcz59_2 : wr.cell? ⟨gb230, 2, none⟩ = some (.string a0_2) := (blk_cell BK230.out 2).trans rfl
             have hcz59_3 : wr.cell? ⟨gb230, 3, none⟩ = some (.string a0_3) := (blk_cell BK230.out 3).trans rfl
             have hcz59_4 : wr.cell? ⟨gb230, 4, none⟩ = some (.int .i64 a0_4) := (blk_cell BK230.out 4).trans rfl
             have hcz59_5 : wr.cell? ⟨gb230, 5, none⟩ = some (.int .i64 a0_5) := (blk_cell BK230.out 5).trans rfl
             have hcz59_6 : wr.cell? ⟨gb230, 6, none⟩ = some (.string a0_6) := (blk_cell BK230.out 6).trans rfl
             have hcz59_7 : wr.cell? ⟨gb230, 7, none⟩ = some (.slice A0_7 l0_7.length c0_7) := (blk_cell BK230.out 7).trans rfl
             have hcz59_8 : wr.cell? ⟨gb230, 8, none⟩ = some (.slice A0_8 l0_8.length c0_8) := (blk_cell BK230.out 8).trans rfl
             have hfz59_0 := blk_frozen BK230.out 0
             have hfz59_1 := blk_frozen BK230.out 1
             have hfz59_2 := blk_frozen BK230.out 2
             have hfz59_3 := blk_frozen BK230.out 3
             have hfz59_4 := blk_frozen BK230.out 4
             have hfz59_5 := blk_frozen BK230.out 5
             have hfz59_6 := blk_frozen BK230.out 6
             have hfz59_7 := blk_frozen BK230.out 7
             have hfz59_8 := blk_frozen BK230.out 8
             have p234 := pz x6_3
             have q234 := pl x6_3 (l0_8.length : Int)
             obtain ⟨ad234, e234, hx234_0, hx234_1⟩ := at_T61 HR0_8.out x6_3 (of_eq_true p234) (of_eq_true q234)
             cases e234
             replace hx234_0 := bc HB.out hx234_0
             replace hx234_1 := bc HB.out hx234_1
             have hcz60_0 : wr.cell? ⟨gb231, 0, none⟩ = some (.int .i64 a1_0) := (blk_cell BK231.out 0).trans rfl
             have hcz60_1 : wr.cell? ⟨gb231, 1, none⟩ = some (.string a1_1) := (blk_cell BK231.out 1).trans rfl
             have hcz60_2 : wr.cell? ⟨gb231, 2, none⟩ = some (.string a1_2) := (blk_cell BK231.out 2).trans rfl
             have hcz60_3 : wr.cell? ⟨gb231, 3, none⟩ = some (.string a1_3) := (blk_cell BK231.out 3).trans rfl
             have hcz60_4 : wr.cell? ⟨gb231, 4, none⟩ = some (.int .i64 a1_4) := (blk_cell BK231.out 4).trans rfl
             have hcz60_5 : wr.cell? ⟨gb231, 5, none⟩ = some (.int .i64 a1_5) := (blk_cell BK231.out 5).trans rfl
             have hcz60_6 : wr.cell? ⟨gb231, 6, none⟩ = some (.string a1_6) := (blk_cell BK231.out 6).trans rfl
             have hcz60_7 : wr.cell? ⟨gb231, 7, none⟩ = some (.slice A1_7 l1_7.length c1_7) := (blk_cell BK231.out 7).trans rfl
             have hcz60_8 : wr.cell? ⟨gb231, 8, none⟩ = some (.slice A1_8 l1_8.length c1_8) := (blk_cell BK231.out 8).trans rfl
             have hfz60_0 := blk_frozen BK231.out 0
             have hfz60_1 := blk_frozen BK231.out 1
             have hfz60_2 := blk_frozen BK231.out 2
             have hfz60_3 := blk_frozen BK231.out 3
             have hfz60_4 := blk_frozen BK231.out 4
             have hfz60_5 := blk_frozen BK231.out 5
             have hfz60_6 := blk_frozen BK231.out 6
             have hfz60_7 := blk_frozen BK231.out 7
             have hfz60_8 := blk_frozen BK231.out 8
             have p235 := pz x6_3
             have q235 := pl x6_3 (l1_8.length : Int)
             obtain ⟨ad235, e235, hx235_0, hx235_1⟩ := at_T61 HR1_8.out x6_3 (of_eq_true p235) (of_eq_true q235)
             cases e235
             replace hx235_0 := bc HB.out hx235_0
             replace hx235_1 := bc HB.out hx235_1
             go_wp2
             repeat (go_quiet (fail); try go_wp2)
             go_ret
             exact ⟨rf, bws HB.out⟩
            ·
             rw [if_neg c57] at H
             have c57b0 : (!(((rd_T61 l0_8 x6_3).f0) == ((rd_T61 l1_8 x6_3).f0)) || (!((((rd_T61 l0_8 x6_3).f1).toList) == (((rd_T61 l1_8 x6_3).f1).toList)))) = false := by simpa using c57
             clear c57
             have H' := am H
             clear H
             have hnb61 := NB230_231.out
             have hnc61 := NB231_230.out
             have hcz62_0 : wr.cell? ⟨gb230, 0, none⟩ = some (.int .i64 a0_0) := (blk_cell BK230.out 0).trans rfl
             have hcz62_1 : wr.cell? ⟨gb230, 1, none⟩ = some (.string a0_1) := (blk_cell BK230.out 1).trans rfl
             have hcz62_2 : wr.cell? ⟨gb230, 2, none⟩ = some (.string a0_2) := (blk_cell BK230.out 2).trans rfl
             have hcz62_3 : wr.cell? ⟨gb230, 3, none⟩ = some (.string a0_3) := (blk_cell BK230.out 3).trans rfl
             have hcz62_4 : wr.cell? ⟨gb230, 4, none⟩ = some (.int .i64 a0_4) := (blk_cell BK230.out 4).trans rfl
             have hcz62_5 : wr.cell? ⟨gb230, 5, none⟩ = some (.int .i64 a0_5) := (blk_cell BK230.out 5).trans rfl
             have hcz62_6 : wr.cell? ⟨gb230, 6, none⟩ = some (.string a0_6) := (blk_cell BK230.out 6).trans rfl
             have hcz62_7 : wr.cell? ⟨gb230, 7, none⟩ = some (.slice A0_7 l0_7.length c0_7) := (blk_cell BK230.out 7).trans rfl
             have hcz62_8 : wr.cell? ⟨gb230, 8, none⟩ = some (.slice A0_8 l0_8.length c0_8) := (blk_cell BK230.out 8).trans rfl
             have hfz62_0 := blk_frozen BK230.out 0
             have hfz62_1 := blk_frozen BK230.out 1
             have hfz62_2 := blk_frozen BK230.out 2
             have hfz62_3 := blk_frozen BK230.out 3
             have hfz62_4 := blk_frozen BK230.out 4
             have hfz62_5 := blk_frozen BK230.out 5
             have hfz62_6 := blk_frozen BK230.out 6
             have hfz62_7 := blk_frozen BK230.out 7
             have hfz62_8 := blk_frozen BK230.out 8
             have p234 := pz x6_3
             have q234 := pl x6_3 (l0_8.length : Int)
             obtain ⟨ad234, e234, hx234_0, hx234_1⟩ := at_T61 HR0_8.out x6_3 (of_eq_true p234) (of_eq_true q234)
             cases e234
             replace hx234_0 := bc HB.out hx234_0
             replace hx234_1 := bc HB.out hx234_1
             have hcz63_0 : wr.cell? ⟨gb231, 0, none⟩ = some (.int .i64 a1_0) := (blk_cell BK231.out 0).trans rfl
             have hcz63_1 : wr.cell? ⟨gb231, 1, none⟩ = some (.string a1_1) := (blk_cell BK231.out 1).trans rfl
             have hcz63_2 : wr.cell? ⟨gb231, 2, none⟩ = some (.string a1_2) := (blk_cell BK231.out 2).trans rfl
             have hcz63_3 : wr.cell? ⟨gb231, 3, none⟩ = some (.string a1_3) := (blk_cell BK231.out 3).trans rfl
             have hcz63_4 : wr.cell? ⟨gb231, 4, none⟩ = some (.int .i64 a1_4) := (blk_cell BK231.out 4).trans rfl
             have hcz63_5 : wr.cell? ⟨gb231, 5, none⟩ = some (.int .i64 a1_5) := (blk_cell BK231.out 5).trans rfl
             have hcz63_6 : wr.cell? ⟨gb231, 6, none⟩ = some (.string a1_6) := (blk_cell BK231.out 6).trans rfl
             have hcz63_7 : wr.cell? ⟨gb231, 7, none⟩ = some (.slice A1_7 l1_7.length c1_7) := (blk_cell BK231.out 7).trans rfl
             have hcz63_8 : wr.cell? ⟨gb231, 8, none⟩ = some (.slice A1_8 l1_8.length c1_8) := (blk_cell BK231.out 8).trans rfl
             have hfz63_0 := blk_frozen BK231.out 0
             have hfz63_1 := blk_frozen BK231.out 1
             have hfz63_2 := blk_frozen BK231.out 2
             have hfz63_3 := blk_frozen BK231.out 3
             have hfz63_4 := blk_frozen BK231.out 4
             have hfz63_5 := blk_frozen BK231.out 5
             have hfz63_6 := blk_frozen BK231.out 6
             have hfz63_7 := blk_frozen BK231.out 7
             have hfz63_8 := blk_frozen BK231.out 8
             have p235 := pz x6_3
             have q235 := pl x6_3 (l1_8.length : Int)
             obtain ⟨ad235, e235, hx235_0, hx235_1⟩ := at_T61 HR1_8.out x6_3 (of_eq_true p235) (of_eq_true q235)
             cases e235
             replace hx235_0 := bc HB.out hx235_0
             replace hx235_1 := bc HB.out hx235_1
             go_wp2
             repeat (go_quiet (fail); try go_wp2)
             go_roundg k3
             case measure => have := HJ2.out; have := HK2.out; have := HK3.out; omega
             case rel => exact ⟨(wrap64 (x6_3 + 1)), rs, H', ⟨by have := HJ2.out; have := HK2.out; have := HK3.out; omega⟩, ⟨bk BK230.out⟩, ⟨bk BK231.out⟩, ⟨bws HB.out⟩⟩
           ·
            exact absurd H (by simp)
          ·
           exact absurd H (by simp)
         ·
          obtain rfl := Option.some.inj H
          have hnb64 := NB230_231.out
          have hnc64 := NB231_230.out
          have hcz65_0 : wr.cell? ⟨gb230, 0, none⟩ = some (.int .i64 a0_0) := (blk_cell BK230.out 0).trans rfl
          have hcz65_1 : wr.cell? ⟨gb230, 1, none⟩ = some (.string a0_1) := (blk_cell BK230.out 1).trans rfl
          have hcz65_2 : wr.cell? ⟨gb230, 2, none⟩ = some (.string a0_2) := (blk_cell BK230.out 2).trans rfl
          have hcz65_3 : wr.cell? ⟨gb230, 3, none⟩ = some (.string a0_3) := (blk_cell BK230.out 3).trans rfl
          have hcz65_4 : wr.cell? ⟨gb230, 4, none⟩ = some (.int .i64 a0_4) := (blk_cell BK230.out 4).trans rfl
          have hcz65_5 : wr.cell? ⟨gb230, 5, none⟩ = some (.int .i64 a0_5) := (blk_cell BK230.out 5).trans rfl
          have hcz65_6 : wr.cell? ⟨gb230, 6, none⟩ = some (.string a0_6) := (blk_cell BK230.out 6).trans rfl
          have hcz65_7 : wr.cell? ⟨gb230, 7, none⟩ = some (.slice A0_7 l0_7.length c0_7) := (blk_cell BK230.out 7).trans rfl
          have hcz65_8 : wr.cell? ⟨gb230, 8, none⟩ = some (.slice A0_8 l0_8.length c0_8) := (blk_cell BK230.out 8).trans rfl
          have hfz65_0 := blk_frozen BK230.out 0
          have hfz65_1 := blk_frozen BK230.out 1
          have hfz65_2 := blk_frozen BK230.out 2
          have hfz65_3 := blk_frozen BK230.out 3
          have hfz65_4 := blk_frozen BK230.out 4
          have hfz65_5 := blk_frozen BK230.out 5
          have hfz65_6 := blk_frozen BK230.out 6
          have hfz65_7 := blk_frozen BK230.out 7
          have hfz65_8 := blk_frozen BK230.out 8
          go_wp2
          repeat (go_quiet (fail); try go_wp2)
          go_ret
          exact ⟨rf, bws HB.out⟩
end Go.Proofs.YtdidopoalmkhlaaDoor.Ob
end
section
namespace Go.Proofs.YtdidopoalmkhlaaDoor.Ob
open Go.RowKit Go.Proofs.YtdidopoalmkhlaaDoorW.PrintWords Go.Proofs.YtdidopoalmkhlaaDoorW.PrintLast Go.Proofs.YtdidopoalmkhlaaDoorW.PrintMore
set_option linter.unusedVariables false
set_option linter.unusedSimpArgs false
def stowagelaw16_CmdBack.F2 (k : Nat) (s : ByteArray) : Prop :=
 ∃ d0 d1 d2 d3 d4 d5 d6 d7 d8 g, cmd_Decode.f k s = some (d0, d1, d2, d3, d4, d5, d6, d7, d8, g) ∧ (g ≠ 0 → stowagelaw16_awake.f k = some true) ∧ (g = 0 → ∃ t, cmd_Encode.f k d0 d1 d2 d3 d4 d5 d6 d7 d8 = some (t, 0) ∧ stowagelaw16_awake.f k = some true ∧ t.toList = s.toList)
def stowagelaw16_CmdBack.F1 (k : Nat) (a0_0 : Int) (a0_1 a0_2 a0_3 : ByteArray) (a0_4 a0_5 : Int) (a0_6 : ByteArray) (l0_7 : List (S82)) (l0_8 : List (S62)) : Prop :=
 ∃ s e, cmd_Encode.f k a0_0 a0_1 a0_2 a0_3 a0_4 a0_5 a0_6 l0_7 l0_8 = some (s, e) ∧ (e = 0 → ∃ d0 d1 d2 d3 d4 d5 d6 d7 d8, cmd_Decode.f k s = some (d0, d1, d2, d3, d4, d5, d6, d7, d8, 0) ∧
  ∃ q0 q1 q2 q3 q4 q5 q6 q7 q8 u0 u1 u2 u3 u4 u5 u6 u7 u8, stowagelaw16_Ref.f k d0 d1 d2 d3 d4 d5 d6 d7 d8 = some (q0, q1, q2, q3, q4, q5, q6, q7, q8) ∧ stowagelaw16_Ref.f k a0_0 a0_1 a0_2 a0_3 a0_4 a0_5 a0_6 l0_7 l0_8 = some (u0, u1, u2, u3, u4, u5, u6, u7, u8) ∧ stowageref16_Same.f k q0 q1 q2 q3 q4 q5 q6 q7 q8 u0 u1 u2 u3 u4 u5 u6 u7 u8 = some true)
open Classical in
noncomputable def stowagelaw16_CmdBack.f (k : Nat) (a0_0 : Int) (a0_1 a0_2 a0_3 : ByteArray) (a0_4 a0_5 : Int) (a0_6 : ByteArray) (l0_7 : List (S82)) (l0_8 : List (S62)) (a1 : ByteArray) : Option Bool :=
 if stowagelaw16_CmdBack.F1 k a0_0 a0_1 a0_2 a0_3 a0_4 a0_5 a0_6 l0_7 l0_8 ∧ stowagelaw16_CmdBack.F2 k a1 then some true else none
theorem vaway_ {W W' : World} {g : Nat} {α : Type} {d : Kd α} {e base : Nat} {v : Value} {xs : List α} (h : Kd.V d e W base (fun _ => True) v xs) (hg : W.heap.size ≤ g) (hb : Below W.heap.size W W') : Kd.V d e W' base (fun k => k ≠ g) v xs := by
 refine Kd.V_map h (fun A hf => ?_)
 have h1 := Kd.F_bound hf
 have h2 := Kd.F_mono h1 (fun k hk => (by have := hk.2; omega : k ≠ g))
 exact Kd.F_below h2 hb
theorem vrows_ {W W' : World} {g : Nat} {u0 u1 u2 u3 u4 u5 u6 u7 u8 : Value} {α β : Type} {d : Kd α} {d' : Kd β} {e e' base base' : Nat} {v v' : Value} {xs : List α} {ys : List β}
  (e0 : (((((((((W.setCell ⟨g, 0, none⟩ u0).setCell ⟨g, 1, none⟩ u1).setCell ⟨g, 2, none⟩ u2).setCell ⟨g, 3, none⟩ u3).setCell ⟨g, 4, none⟩ u4).setCell ⟨g, 5, none⟩ u5).setCell ⟨g, 6, none⟩ u6).setCell ⟨g, 7, none⟩ u7).setCell ⟨g, 8, none⟩ u8) = W')
  (h1 : Kd.V d e W base (fun k => k ≠ g) v xs) (h2 : Kd.V d' e' W base' (fun k => k ≠ g) v' ys) : Kd.V d e W' base (fun _ => True) v xs ∧ Kd.V d' e' W' base' (fun _ => True) v' ys := by
 have hk : ∀ k, k ≠ g → W'.heap[k]? = W.heap[k]? := by
  subst e0
  intro k hk
  rw [Below.heap_setCell _ _ _ _ hk, Below.heap_setCell _ _ _ _ hk, Below.heap_setCell _ _ _ _ hk, Below.heap_setCell _ _ _ _ hk, Below.heap_setCell _ _ _ _ hk, Below.heap_setCell _ _ _ _ hk, Below.heap_setCell _ _ _ _ hk, Below.heap_setCell _ _ _ _ hk, Below.heap_setCell _ _ _ _ hk]
 exact ⟨Kd.V_mono (Kd.V_map h1 (fun _ hf => Kd.F_step hf (fun k ok _ => hk k ok))) (fun _ _ => trivial), Kd.V_mono (Kd.V_map h2 (fun _ hf => Kd.F_step hf (fun k ok _ => hk k ok))) (fun _ _ => trivial)⟩
set_option maxHeartbeats 8000000 in
set_option maxRecDepth 100000 in
theorem stowagelaw16_CmdBack_go (k : Nat) (a0_0 : Int) (a0_1 : ByteArray) (a0_2 : ByteArray) (a0_3 : ByteArray) (a0_4 : Int) (a0_5 : Int) (a0_6 : ByteArray) (A0_7 : Option Addr) (c0_7 : Nat) (l0_7 : List (S82)) (A0_8 : Option Addr) (c0_8 : Nat) (l0_8 : List (S62)) (a1 : ByteArray) (w : World) (hr0_7 : Kd.C k82 w A0_7 l0_7.length l0_7) (hc0_7 : l0_7.length ≤ c0_7) (hr0_8 : Kd.C k62 w A0_8 l0_8.length l0_8) (hc0_8 : l0_8.length ≤ c0_8) (h : stowagelaw16_CmdBack.F1 k a0_0 a0_1 a0_2 a0_3 a0_4 a0_5 a0_6 l0_7 l0_8) (h' : stowagelaw16_CmdBack.F2 k a1) (hG : GG w) :
  Calls Tryd.prog 5 #[.agg #[.int .i64 a0_0, .string a0_1, .string a0_2, .string a0_3, .int .i64 a0_4, .int .i64 a0_5, .string a0_6, .slice A0_7 l0_7.length c0_7, .slice A0_8 l0_8.length c0_8], .string a1] w fun e w' => e = .returned (.bool true) ∧ Below w.heap.size w w' := by
 have HG := am hG
 have HR7 := am hr0_7
 have HR8 := am hr0_8
 have HC7 := am hc0_7
 have HC8 := am hc0_8
 clear hG hr0_7 hr0_8 hc0_7 hc0_8
 have HB := am (Below.refl w.heap.size w)
 have H2 := am h'
 clear h'
 obtain ⟨s, e, A1, h⟩ := h
 replace A1 := am A1
 have H := am h
 clear h
 go_enter Tryd.func5, Tryd.ntmps5
 go_upto_if 19 with (first
  | ((with_reducible refine gate_dst (N := 2) rfl ?_); (try (refine gate_guard (by rfl) ?_; dsimp only)); refine bx 2 #[.int .i64 a0_0, .string a0_1, .string a0_2, .string a0_3, .int .i64 a0_4, .int .i64 a0_5, .string a0_6, .slice A0_7 l0_7.length c0_7, .slice A0_8 l0_8.length c0_8] 25 ?_; intro gc hg w1 hbox hb; have BKgc := am (hbox); have GEgc := am ((by rw [hg]; exact HB.out.size : w.heap.size ≤ gc)); replace HB := am (below_step HB.out hb); clear hb hbox hg; obtain ⟨z0, z1, z2, z3, z4, z5, z6, z7, z8⟩ := c9_ BKgc.out; obtain ⟨y0, y1, y2, y3, y4, y5, y6, y7, y8⟩ := f9_ BKgc.out)
  | (go_at_call 8; (refine (cmd_Encode.calls k a0_0 a0_1 a0_2 a0_3 a0_4 a0_5 a0_6 _ _ l0_7 _ _ l0_8 s e _ ?s1 HC7.out ?s2 HC8.out A1.out ?sG).mono ?_); (case sG => exact gg_below HG.out HB.out); (case s1 => exact Kd.C_below HR7.out HB.out); (case s2 => exact Kd.C_below HR8.out HB.out); rintro q w2 ⟨rfl, hb⟩; (try dsimp only); replace BKgc := am (blk_below BKgc.out hb); replace HB := am (below_step HB.out hb); clear hb z0 z1 z2 z3 z4 z5 z6 z7 z8 y0 y1 y2 y3 y4 y5 y6 y7 y8))
 go_cut [] (fun wc => Aside0 (Below w.heap.size w wc))
 case first =>
  by_cases he : e = 0
  ·
   have cb0 := beq_iff_eq.mpr he
   have cb1 := bne_eq_false_iff_eq.mpr he
   obtain ⟨d0, d1, d2, d3, d4, d5, d6, d7, d8, A2, q0, q1, q2, q3, q4, q5, q6, q7, q8, u0, u1, u2, u3, u4, u5, u6, u7, u8, A3, A4, A5⟩ := H.out he
   replace A2 := am A2
   replace A3 := am A3
   replace A4 := am A4
   replace A5 := am A5
   clear he H
   go_upto_region 4 with (first
    | (go_at_call 16; (with_reducible refine (cmd_Decode.calls k s d0 d1 d2 d3 d4 d5 d6 d7 d8 0 _ A2.out ?sideG).mono ?_); (case sideG => exact gg_below HG.out HB.out); rintro q w3 ⟨v7, v8, rfl, ho7, ho8, hb⟩; (try dsimp only); obtain ⟨dA, da, rfl⟩ := Kd.R_slice ho7; obtain ⟨dB, db, rfl⟩ := Kd.R_slice ho8; have HD7 := am (Kd.R_V (base' := 0) ho7); have HD8 := am (Kd.R_V (base' := 0) ho8); replace BKgc := am (blk_below BKgc.out hb); replace HB := am (below_step HB.out hb); clear hb ho7 ho8)
    | ((with_reducible refine gate_dst (N := 7) rfl ?_); (try (refine gate_guard (by rfl) ?_; dsimp only)); refine bx 7 #[.int .i64 0, .string (⟨#[]⟩ : ByteArray), .string (⟨#[]⟩ : ByteArray), .string (⟨#[]⟩ : ByteArray), .int .i64 0, .int .i64 0, .string (⟨#[]⟩ : ByteArray), .slice none 0 0, .slice none 0 0] 25 ?_; intro gd hg w4 hbox hb; have BKgd := am (hbox); have GEgd := am ((by rw [hg]; exact HB.out.size : w.heap.size ≤ gd)); have NE := am ((by rw [hg]; exact Nat.ne_of_lt (blk_lt BKgc.out) : gc ≠ gd)); replace BKgc := am (blk_below BKgc.out hb); have hgd := hg; replace HD7 := am (vaway_ HD7.out (Nat.le_of_eq hgd.symm) hb); replace HD8 := am (vaway_ HD8.out (Nat.le_of_eq hgd.symm) hb); clear hgd; replace HB := am (below_step HB.out hb); clear hb hbox hg; obtain ⟨z0, z1, z2, z3, z4, z5, z6, z7, z8⟩ := c9_ BKgd.out; obtain ⟨y0, y1, y2, y3, y4, y5, y6, y7, y8⟩ := f9_ BKgd.out))
   generalize hW : ((((((((w4.setCell ⟨gd, 0, none⟩ (.int .i64 d0)).setCell ⟨gd, 1, none⟩ (.string d1)).setCell ⟨gd, 2, none⟩ (.string d2)).setCell ⟨gd, 3, none⟩ (.string d3)).setCell ⟨gd, 4, none⟩ (.int .i64 d4)).setCell ⟨gd, 5, none⟩ (.int .i64 d5)).setCell ⟨gd, 6, none⟩ (.string d6)).setCell ⟨gd, 7, none⟩ (.slice dA d7.length da)).setCell ⟨gd, 8, none⟩ (.slice dB d8.length db) = W
   have ST : W.heap[gd]? = some (.cells #[.int .i64 d0, .string d1, .string d2, .string d3, .int .i64 d4, .int .i64 d5, .string d6, .slice dA d7.length da, .slice dB d8.length db] 25 (0, 0)) ∧ (Below w.heap.size w W) ∧ W.heap[gc]? = some (.cells #[.int .i64 a0_0, .string a0_1, .string a0_2, .string a0_3, .int .i64 a0_4, .int .i64 a0_5, .string a0_6, .slice A0_7 l0_7.length c0_7, .slice A0_8 l0_8.length c0_8] 25 (0, 0)) := by
    obtain ⟨q1, q2, q3⟩ := st9_ BKgd.out _ _ _ _ _ _ _ _ _ hW
    exact ⟨q1, q2 _ HB.out GEgd.out, q3 _ _ _ NE.out BKgc.out⟩
   have SV := vrows_ hW HD7.out HD8.out
   replace BKgd := am ST.1
   replace HB := am ST.2.1
   replace BKgc := am ST.2.2
   replace HD7 := am SV.1
   replace HD8 := am SV.2
   clear ST SV hW z0 z1 z2 z3 z4 z5 z6 z7 z8 y0 y1 y2 y3 y4 y5 y6 y7 y8 w4
   have SH : ∀ V : World, V.heap[gd]? = some (.cells #[.int .i64 d0, .string d1, .string d2, .string d3, .int .i64 d4, .int .i64 d5, .string d6, .slice dA d7.length da, .slice dB d8.length db] 25 (0, 0)) → V.heap[gc]? = some (.cells #[.int .i64 a0_0, .string a0_1, .string a0_2, .string a0_3, .int .i64 a0_4, .int .i64 a0_5, .string a0_6, .slice A0_7 l0_7.length c0_7, .slice A0_8 l0_8.length c0_8] 25 (0, 0)) → (V.cell? ⟨gd, 0, none⟩ = some (.int .i64 d0) ∧ V.cell? ⟨gd, 1, none⟩ = some (.string d1) ∧ V.cell? ⟨gd, 2, none⟩ = some (.string d2) ∧ V.cell? ⟨gd, 3, none⟩ = some (.string d3) ∧ V.cell? ⟨gd, 4, none⟩ = some (.int .i64 d4) ∧ V.cell? ⟨gd, 5, none⟩ = some (.int .i64 d5) ∧ V.cell? ⟨gd, 6, none⟩ = some (.string d6) ∧ V.cell? ⟨gd, 7, none⟩ = some (.slice dA d7.length da) ∧ V.cell? ⟨gd, 8, none⟩ = some (.slice dB d8.length db) ∧ V.cell? ⟨gc, 0, none⟩ = some (.int .i64 a0_0) ∧ V.cell? ⟨gc, 1, none⟩ = some (.string a0_1) ∧ V.cell? ⟨gc, 2, none⟩ = some (.string a0_2) ∧ V.cell? ⟨gc, 3, none⟩ = some (.string a0_3) ∧ V.cell? ⟨gc, 4, none⟩ = some (.int .i64 a0_4) ∧ V.cell? ⟨gc, 5, none⟩ = some (.int .i64 a0_5) ∧ V.cell? ⟨gc, 6, none⟩ = some (.string a0_6) ∧ V.cell? ⟨gc, 7, none⟩ = some (.slice A0_7 l0_7.length c0_7) ∧ V.cell? ⟨gc, 8, none⟩ = some (.slice A0_8 l0_8.length c0_8)) := fun V h h' => by
    obtain ⟨h0, h1, h2, h3, h4, h5, h6, h7, h8⟩ := c9_ h
    exact ⟨h0, h1, h2, h3, h4, h5, h6, h7, h8, c9_ h'⟩
   have SH := am SH
   refine start_ (n := 10) (S := fun w' => w'.cell? ⟨gd, 0, none⟩ = some (.int .i64 d0) ∧ w'.cell? ⟨gd, 1, none⟩ = some (.string d1) ∧ w'.cell? ⟨gd, 2, none⟩ = some (.string d2) ∧ w'.cell? ⟨gd, 3, none⟩ = some (.string d3) ∧ w'.cell? ⟨gd, 4, none⟩ = some (.int .i64 d4) ∧ w'.cell? ⟨gd, 5, none⟩ = some (.int .i64 d5) ∧ w'.cell? ⟨gd, 6, none⟩ = some (.string d6) ∧ w'.cell? ⟨gd, 7, none⟩ = some (.slice dA d7.length da) ∧ w'.cell? ⟨gd, 8, none⟩ = some (.slice dB d8.length db) ∧ w'.cell? ⟨gc, 0, none⟩ = some (.int .i64 a0_0) ∧ w'.cell? ⟨gc, 1, none⟩ = some (.string a0_1) ∧ w'.cell? ⟨gc, 2, none⟩ = some (.string a0_2) ∧ w'.cell? ⟨gc, 3, none⟩ = some (.string a0_3) ∧ w'.cell? ⟨gc, 4, none⟩ = some (.int .i64 a0_4) ∧ w'.cell? ⟨gc, 5, none⟩ = some (.int .i64 a0_5) ∧ w'.cell? ⟨gc, 6, none⟩ = some (.string a0_6) ∧ w'.cell? ⟨gc, 7, none⟩ = some (.slice A0_7 l0_7.length c0_7) ∧ w'.cell? ⟨gc, 8, none⟩ = some (.slice A0_8 l0_8.length c0_8)) (ds := []) #[false, false, false, false, false, false, false, false, false, false] (by kernel_rfl) rfl rfl (SH.out _ BKgd.out BKgc.out) (fun hHeld => ?_)
   replace BKgd := am (blk_drew BKgd.out)
   replace BKgc := am (blk_drew BKgc.out)
   replace HB := am HB.out.drew
   replace HD7 := am (Kd.V_drew HD7.out)
   replace HD8 := am (Kd.V_drew HD8.out)
   generalize W.drew = V1 at BKgd BKgc HB HD7 HD8 hHeld ⊢
   refine hp 0 (some 25) ?_
   refine hp 1 (some 26) (v := .bool false) ?_ (hy := by intro w'; go_simp; try rfl)
   refine hp 2 (some 27) ?_
   refine ht 3 (some 28) hHeld ?_
   refine ht 5 (some 30) hHeld ?_
   refine hcall 4 (some 29) 10 #[.agg #[.int .i64 d0, .string d1, .string d2, .string d3, .int .i64 d4, .int .i64 d5, .string d6, .slice dA d7.length da, .slice dB d8.length db]] (stowagelaw16_Ref.calls k d0 d1 d2 d3 d4 d5 d6 dA da d7 dB db d8 q0 q1 q2 q3 q4 q5 q6 q7 q8 V1 (Kd.V_reads' HD7.out).2.2 (Kd.V_reads' HD7.out).2.1 (Kd.V_reads' HD8.out).2.2 (Kd.V_reads' HD8.out).2.1 A3.out) ?_
   rintro e1 V2 ⟨v7, v8, rfl, ho7, ho8, hb⟩
   obtain ⟨qA, qa, rfl⟩ := Kd.R_slice ho7
   obtain ⟨qB, qb, rfl⟩ := Kd.R_slice ho8
   have HQ7 := am (Kd.R_V (base' := 0) ho7)
   have HQ8 := am (Kd.R_V (base' := 0) ho8)
   replace BKgd := am (blk_below BKgd.out hb)
   replace BKgc := am (blk_below BKgc.out hb)
   replace HB := am (below_step HB.out hb)
   clear hb ho7 ho8 HD7 HD8
   refine ⟨_, _, rfl, SH.out _ BKgd.out BKgc.out, by simp only [Act.put, List.setIfInBounds_toArray, List.set_cons_zero, List.set_cons_succ]; rfl, ?_⟩
   refine hcall 6 (some 31) 10 #[.agg #[.int .i64 a0_0, .string a0_1, .string a0_2, .string a0_3, .int .i64 a0_4, .int .i64 a0_5, .string a0_6, .slice A0_7 l0_7.length c0_7, .slice A0_8 l0_8.length c0_8]] (stowagelaw16_Ref.calls k a0_0 a0_1 a0_2 a0_3 a0_4 a0_5 a0_6 A0_7 c0_7 l0_7 A0_8 c0_8 l0_8 u0 u1 u2 u3 u4 u5 u6 u7 u8 V2 (Kd.C_below HR7.out HB.out) HC7.out (Kd.C_below HR8.out HB.out) HC8.out A4.out) ?_
   rintro e1 V3 ⟨v7, v8, rfl, ho7, ho8, hb⟩
   obtain ⟨uA, ua, rfl⟩ := Kd.R_slice ho7
   obtain ⟨uB, ub, rfl⟩ := Kd.R_slice ho8
   have HU7 := am (Kd.R_V (base' := 0) ho7)
   have HU8 := am (Kd.R_V (base' := 0) ho8)
   replace HQ7 := am (Kd.V_below HQ7.out hb)
   replace HQ8 := am (Kd.V_below HQ8.out hb)
   replace BKgd := am (blk_below BKgd.out hb)
   replace BKgc := am (blk_below BKgc.out hb)
   replace HB := am (below_step HB.out hb)
   clear hb ho7 ho8
   refine ⟨_, _, rfl, SH.out _ BKgd.out BKgc.out, by simp only [Act.put, List.setIfInBounds_toArray, List.set_cons_zero, List.set_cons_succ]; rfl, ?_⟩
   refine hcall 7 (some 32) 18 #[.agg #[.int .i64 q0, .string q1, .string q2, .string q3, .int .i64 q4, .int .i64 q5, .string q6, .slice qA q7.length qa, .slice qB q8.length qb], .agg #[.int .i64 u0, .string u1, .string u2, .string u3, .int .i64 u4, .int .i64 u5, .string u6, .slice uA u7.length ua, .slice uB u8.length ub]] (stowageref16_Same.calls k q0 q1 q2 q3 q4 q5 q6 qA qa q7 qB qb q8 u0 u1 u2 u3 u4 u5 u6 uA ua u7 uB ub u8 true V3 (Kd.V_reads' HQ7.out).2.2 (Kd.V_reads' HQ7.out).2.1 (Kd.V_reads' HQ8.out).2.2 (Kd.V_reads' HQ8.out).2.1 (Kd.V_reads' HU7.out).2.2 (Kd.V_reads' HU7.out).2.1 (Kd.V_reads' HU8.out).2.2 (Kd.V_reads' HU8.out).2.1 A5.out) ?_
   rintro e1 V4 ⟨rfl, hb⟩
   replace BKgd := am (blk_below BKgd.out hb)
   replace BKgc := am (blk_below BKgc.out hb)
   replace HB := am (below_step HB.out hb)
   clear hb HQ7 HQ8 HU7 HU8
   refine ⟨_, _, rfl, SH.out _ BKgd.out BKgc.out, by simp only [Act.put, List.setIfInBounds_toArray, List.set_cons_zero, List.set_cons_succ]; rfl, ?_⟩
   refine hp 8 (some 33) (v := .bool false) ?_ (hy := by intro w'; go_simp; try rfl)
   refine hp 9 (some 34) ?_
   refine done_ (by kernel_rfl) ?_
   go_wp2
   go_meet
   case rel => exact HB
  ·
   have cb0 := beq_eq_false_iff_ne.mpr he
   have cb1 := bne_iff_ne.mpr he
   clear he
   go_wp2
   go_meet
   case rel => exact HB
 case rest =>
  clear H A1 BKgc GEgc
  try clear HB
  have HB := hcut
  clear hcut
  obtain ⟨d0, d1, d2, d3, d4, d5, d6, d7, d8, g, A2, H⟩ := H2.out
  replace A2 := am A2
  replace H := am H
  clear H2
  go_upto_region 7 with (first
   | (go_at_call 16; (with_reducible refine (cmd_Decode.calls k a1 d0 d1 d2 d3 d4 d5 d6 d7 d8 g _ A2.out ?sideG).mono ?_); (case sideG => exact gg_below HG.out HB.out); rintro q w3 ⟨v7, v8, rfl, ho7, ho8, hb⟩; (try dsimp only); obtain ⟨dA, da, rfl⟩ := Kd.R_slice ho7; obtain ⟨dB, db, rfl⟩ := Kd.R_slice ho8; have HD7 := am (Kd.R_V (base' := 0) ho7); have HD8 := am (Kd.R_V (base' := 0) ho8); replace HB := am (below_step HB.out hb); clear hb ho7 ho8)
   | ((with_reducible refine gate_dst (N := 9) rfl ?_); (try (refine gate_guard (by rfl) ?_; dsimp only)); refine bx 9 #[.int .i64 0, .string (⟨#[]⟩ : ByteArray), .string (⟨#[]⟩ : ByteArray), .string (⟨#[]⟩ : ByteArray), .int .i64 0, .int .i64 0, .string (⟨#[]⟩ : ByteArray), .slice none 0 0, .slice none 0 0] 25 ?_; intro gd hg w4 hbox hb; have BKgd := am (hbox); have GEgd := am ((by rw [hg]; exact HB.out.size : w.heap.size ≤ gd)); have hgd := hg; replace HD7 := am (vaway_ HD7.out (Nat.le_of_eq hgd.symm) hb); replace HD8 := am (vaway_ HD8.out (Nat.le_of_eq hgd.symm) hb); clear hgd; replace HB := am (below_step HB.out hb); clear hb hbox hg; obtain ⟨z0, z1, z2, z3, z4, z5, z6, z7, z8⟩ := c9_ BKgd.out; obtain ⟨y0, y1, y2, y3, y4, y5, y6, y7, y8⟩ := f9_ BKgd.out))
  generalize hW : ((((((((w4.setCell ⟨gd, 0, none⟩ (.int .i64 d0)).setCell ⟨gd, 1, none⟩ (.string d1)).setCell ⟨gd, 2, none⟩ (.string d2)).setCell ⟨gd, 3, none⟩ (.string d3)).setCell ⟨gd, 4, none⟩ (.int .i64 d4)).setCell ⟨gd, 5, none⟩ (.int .i64 d5)).setCell ⟨gd, 6, none⟩ (.string d6)).setCell ⟨gd, 7, none⟩ (.slice dA d7.length da)).setCell ⟨gd, 8, none⟩ (.slice dB d8.length db) = W
  have ST : W.heap[gd]? = some (.cells #[.int .i64 d0, .string d1, .string d2, .string d3, .int .i64 d4, .int .i64 d5, .string d6, .slice dA d7.length da, .slice dB d8.length db] 25 (0, 0)) ∧ (Below w.heap.size w W) := by
   obtain ⟨q1, q2, q3⟩ := st9_ BKgd.out _ _ _ _ _ _ _ _ _ hW
   exact ⟨q1, q2 _ HB.out GEgd.out⟩
  have SV := vrows_ hW HD7.out HD8.out
  replace BKgd := am ST.1
  replace HB := am ST.2
  replace HD7 := am SV.1
  replace HD8 := am SV.2
  clear ST SV hW z0 z1 z2 z3 z4 z5 z6 z7 z8 y0 y1 y2 y3 y4 y5 y6 y7 y8 w4
  by_cases hg : g = 0
  ·
   have cb0 := beq_iff_eq.mpr hg
   have cb1 := bne_eq_false_iff_eq.mpr hg
   obtain ⟨t, A3, AW, ht⟩ := H.out.2 hg
   replace A3 := am A3
   replace AW := am AW
   have hte : (t.toList == a1.toList) = true := beq_iff_eq.mpr ht
   clear hg ht H
   obtain ⟨z0, z1, z2, z3, z4, z5, z6, z7, z8⟩ := c9_ BKgd.out
   obtain ⟨y0, y1, y2, y3, y4, y5, y6, y7, y8⟩ := f9_ BKgd.out
   go_upto_region 10 with (first
    | (go_at_call 8; (refine (cmd_Encode.calls k d0 d1 d2 d3 d4 d5 d6 dA da d7 dB db d8 t 0 _ ?s1 ?s2 ?s3 ?s4 A3.out ?sG).mono ?_); (case sG => exact gg_below HG.out HB.out); (case s1 => exact (Kd.V_reads' HD7.out).2.2); (case s2 => exact (Kd.V_reads' HD7.out).2.1); (case s3 => exact (Kd.V_reads' HD8.out).2.2); (case s4 => exact (Kd.V_reads' HD8.out).2.1); rintro q w5 ⟨rfl, hb⟩; (try dsimp only); replace HB := am (below_step HB.out hb); clear hb z0 z1 z2 z3 z4 z5 z6 z7 z8 y0 y1 y2 y3 y4 y5 y6 y7 y8 BKgd HD7 HD8))
   go_wp2_with (first | (go_at_call 13; (refine (stowagelaw16_awake.calls k true _ AW.out ?sG).mono ?_); (case sG => exact gg_below HG.out HB.out); rintro q w9 ⟨rfl, hb⟩; (try dsimp only); replace HB := am (below_step HB.out hb); clear hb))
   go_ret
   exact ⟨rf, HB.out⟩
  ·
   have cb0 := beq_eq_false_iff_ne.mpr hg
   have cb1 := bne_iff_ne.mpr hg
   have AW := am (H.out.1 hg)
   clear hg H
   go_wp2_with (first | (go_at_call 13; (refine (stowagelaw16_awake.calls k true _ AW.out ?sG).mono ?_); (case sG => exact gg_below HG.out HB.out); rintro q w9 ⟨rfl, hb⟩; (try dsimp only); replace HB := am (below_step HB.out hb); clear hb))
   go_ret
   exact ⟨rf, HB.out⟩
theorem stowagelaw16_CmdBack.calls (k : Nat) (a0_0 : Int) (a0_1 : ByteArray) (a0_2 : ByteArray) (a0_3 : ByteArray) (a0_4 : Int) (a0_5 : Int) (a0_6 : ByteArray) (A0_7 : Option Addr) (c0_7 : Nat) (l0_7 : List (S82)) (A0_8 : Option Addr) (c0_8 : Nat) (l0_8 : List (S62)) (a1 : ByteArray) (r : Bool) (w : World) (hr0_7 : Kd.C k82 w A0_7 l0_7.length l0_7) (hc0_7 : l0_7.length ≤ c0_7) (hr0_8 : Kd.C k62 w A0_8 l0_8.length l0_8) (hc0_8 : l0_8.length ≤ c0_8) (h : stowagelaw16_CmdBack.f k a0_0 a0_1 a0_2 a0_3 a0_4 a0_5 a0_6 l0_7 l0_8 a1 = some r) (hG : GG w) :
  Calls Tryd.prog 5 #[.agg #[.int .i64 a0_0, .string a0_1, .string a0_2, .string a0_3, .int .i64 a0_4, .int .i64 a0_5, .string a0_6, .slice A0_7 l0_7.length c0_7, .slice A0_8 l0_8.length c0_8], .string a1] w fun e w' => e = .returned (.bool r) ∧ Below w.heap.size w w' := by
 unfold stowagelaw16_CmdBack.f at h
 split at h
 ·
  rename_i hc
  obtain rfl := Option.some.inj h
  exact stowagelaw16_CmdBack_go k a0_0 a0_1 a0_2 a0_3 a0_4 a0_5 a0_6 A0_7 c0_7 l0_7 A0_8 c0_8 l0_8 a1 w hr0_7 hc0_7 hr0_8 hc0_8 hc.1 hc.2 hG
 ·
  cases h
end Go.Proofs.YtdidopoalmkhlaaDoor.Ob
end
section
namespace Go.Proofs.YtdidopoalmkhlaaDoor.Pure
open Go.RowKit Go.Proofs.YtdidopoalmkhlaaDoor.Ob Go.Proofs.YtdidopoalmkhlaaDoorW.PrintWords Go.Proofs.YtdidopoalmkhlaaDoorW.PrintLast Go.Proofs.YtdidopoalmkhlaaDoorW.PrintMore
set_option linter.unusedVariables false
set_option linter.unusedSimpArgs false
theorem up {α : Type} {f : Nat → Option α} (h : ∀ k, LeO (f k) (f (k + 1))) {r : α} {k : Nat} (h0 : f k = some r) : ∀ n, f (k + n) = some r
 | 0 => h0
 | n + 1 => h (k + n) r (up h h0 n)
theorem up_to {α : Type} {f : Nat → Option α} (h : ∀ k, LeO (f k) (f (k + 1))) {r : α} {k m : Nat} (h0 : f k = some r) (hm : k ≤ m) : f m = some r := by
 have := up h h0 (m - k)
 rwa [Nat.add_sub_cancel' hm] at this
theorem w1 (i : Nat) (h : i ≤ 4611686018427387904) : wrap64 ((i : Int) + 1) = ((i + 1 : Nat) : Int) := by
 rw [IntWalk.wrap64_in _ (by omega)]
 omega
theorem len_eq (a : ByteArray) : a.data.toList.length = a.size := Array.length_toList (xs := a.data)
theorem bt_get (a : ByteArray) (i : Nat) (h : i < a.size) : ∃ c, a.data.toList.drop i = c :: a.data.toList.drop (i + 1) ∧ bt a (i : Int) = (c.toNat : Int) := by
 have hl : i < a.data.toList.length := by rw [len_eq]; exact h
 refine ⟨a.data.toList[i], List.drop_eq_getElem_cons hl, ?_⟩
 unfold bt
 rw [dif_pos (by rw [Int.toNat_natCast]; exact h)]
 simp only [Int.toNat_natCast, Array.getElem_toList]
 rfl
theorem bt_rng (s : ByteArray) (i : Int) : 0 ≤ bt s i ∧ bt s i ≤ 255 := by
 unfold bt
 split
 ·
  rename_i h
  have := (s.get i.toNat h).toNat_lt
  constructor
  ·
   omega
  ·
   show ((s.get i.toNat h).toNat : Int) ≤ 255
   omega
 ·
  omega
theorem or128 (m : Int) (h0 : 0 ≤ m) (h1 : m < 256) : Go.bits .or .u8 m 128 = m % 128 + 128 := by
 obtain ⟨n, rfl⟩ : ∃ n : Nat, m = (n : Int) := ⟨m.toNat, by omega⟩
 have h : ∀ n, n < 256 → Go.bits .or .u8 ((n : Nat) : Int) 128 = ((n : Nat) : Int) % 128 + 128 := by decide +kernel
 exact h n (by omega)
def nl : Nat → Int → List Int
 | 0, n => [n]
 | d + 1, n => if n < 128 then [n] else (n % 128 + 128) :: nl d (n / 128)
theorem nl_len : ∀ d n, (nl d n).length ≤ d + 1
 | 0, _ => by simp [nl]
 | d + 1, n => by
  rw [nl]
  split
  ·
   simp
  ·
   have := nl_len d (n / 128)
   simp only [List.length_cons]; omega
theorem sn_append (a b : List Int) : strOfNums (a ++ b) = strOfNums a ++ strOfNums b := by
 apply ByteArray.ext
 rw [ByteArray.data_append]
 simp [strOfNums]
theorem oct_num : ∀ (d k : Nat) (n : Int) (x3 : List Int), 0 ≤ n → n < 128 ^ (d + 1) → d < k → x3.length + d ≤ 100 → octet_Number.l0 k n x3 = some (strOfNums (x3 ++ nl d n)) := by
 intro d
 induction d with
 | zero =>
  intro k n x3 h0 h1 hk h3
  obtain ⟨k, rfl⟩ : ∃ j, k = j + 1 := ⟨k - 1, by omega⟩
  have h1' : n < 128 := by simpa using h1
  rw [octet_Number.l0, if_neg (by omega), if_pos (by omega), nl, Int.emod_eq_of_lt h0 (by omega)]
 | succ d ih =>
  intro k n x3 h0 h1 hk h3
  obtain ⟨k, rfl⟩ : ∃ j, k = j + 1 := ⟨k - 1, by omega⟩
  rw [octet_Number.l0, nl]
  by_cases h : n < 128
  ·
   rw [if_neg (by omega), if_pos (by omega), if_pos h, Int.emod_eq_of_lt h0 (by omega)]
  ·
   rw [if_pos (by omega), if_pos (by omega), if_neg h, or128 _ (by omega) (by omega), show n % 256 % 128 = n % 128 by omega, ih k (n / 128) _ (by omega) (Int.ediv_lt_of_lt_mul (by omega) (by rw [← Int.pow_succ]; exact h1)) (by omega) (by simp; omega), List.append_assoc]
   rfl
def num (n : Int) : ByteArray := strOfNums (nl 9 n)
theorem num_size (n : Int) : (num n).size ≤ 10 := by
 unfold num
 rw [strOfNums_size]
 exact nl_len 9 n
theorem oct_Number (n : Int) (h0 : 0 ≤ n) (h1 : n ≤ 18446744073709551615) (k : Nat) (hk : 10 ≤ k) : octet_Number.f k n = some (num n) := by
 unfold octet_Number.f
 rw [oct_num 9 k n [] h0 (by omega) (by omega) (by simp)]
 rfl
def txt (a : ByteArray) : ByteArray := num (a.size : Int) ++ a
theorem oct_Text (a : ByteArray) (ha : a.size ≤ 1073741824) (k : Nat) (hk : 10 ≤ k) : octet_Text.f k a = some (txt a) := by
 unfold octet_Text.f
 have := num_size (a.size : Int)
 rw [IntWalk.u64_in _ (by omega), oct_Number _ (by omega) (by omega) k hk, Option.bind_some, if_pos (by omega)]
 rfl
theorem and127 (m : Int) (h0 : 0 ≤ m) (h1 : m < 256) : Go.bits .and .u8 m 127 = m % 128 := by
 obtain ⟨n, rfl⟩ : ∃ n : Nat, m = (n : Int) := ⟨m.toNat, by omega⟩
 have h : ∀ n, n < 256 → Go.bits .and .u8 ((n : Nat) : Int) 127 = ((n : Nat) : Int) % 128 := by decide +kernel
 exact h n (by omega)
def rn (s : ByteArray) (a : Nat) : Nat → Nat → Int → Int × Int × Int
 | 0, _, _ => (0, 0, 3)
 | n + 1, i, x => if s.size ≤ a + i then (0, 0, 5) else if (i = 9 ∧ bt s ((a + i : Nat) : Int) > 1) ∨ (0 < i ∧ bt s ((a + i : Nat) : Int) = 0) then (0, 0, 3)
  else if bt s ((a + i : Nat) : Int) < 128 then (x + bt s ((a + i : Nat) : Int) % 128 * 128 ^ i, ((a + i + 1 : Nat) : Int), 0) else rn s a n (i + 1) (x + bt s ((a + i : Nat) : Int) % 128 * 128 ^ i)
theorem or_add (x d : Nat) (i : Nat) (hx : x < 128 ^ i) : x ||| (d * 128 ^ i) = x + d * 128 ^ i := by
 have h : (128 : Nat) ^ i = 2 ^ (7 * i) := by rw [Nat.pow_mul]
 rw [h] at hx ⊢
 rw [Nat.or_comm, Nat.mul_comm d, ← Nat.two_pow_add_eq_or_of_lt hx d, Nat.add_comm]
theorem step_bits (x b : Int) (i : Nat) (h0 : 0 ≤ x) (hx : x < 128 ^ i) (hb0 : 0 ≤ b) (hb : b < 256) (hi : i < 9 ∨ (i = 9 ∧ b ≤ 1)) :
  Go.bits .or .u64 x (shl .u64 (IntKind.u64.wrap (Go.bits .and .u8 b 127)) (7 * (i : Int))) = x + b % 128 * 128 ^ i ∧ 0 ≤ x + b % 128 * 128 ^ i ∧ x + b % 128 * 128 ^ i < 128 ^ (i + 1) ∧ x + b % 128 * 128 ^ i ≤ 18446744073709551615 := by
 obtain ⟨n, rfl⟩ : ∃ n : Nat, x = (n : Int) := ⟨x.toNat, by omega⟩
 obtain ⟨d, hd⟩ : ∃ d : Nat, b % 128 = (d : Int) := ⟨(b % 128).toNat, by omega⟩
 have hd1 : d < 128 := by omega
 have hn : n < 128 ^ i := by exact_mod_cast hx
 have hpow : (128 : Nat) ^ i = 2 ^ (7 * i) := by rw [Nat.pow_mul]
 have hlt : n + d * 128 ^ i < 128 ^ (i + 1) := by
  have h1 : d * 128 ^ i ≤ 127 * 128 ^ i := Nat.mul_le_mul_right _ (by omega)
  rw [Nat.pow_succ]; omega
 have hmax : n + d * 128 ^ i < 18446744073709551616 := by
  rcases hi with hi | ⟨rfl, hb1⟩
  ·
   have h2 : (128 : Nat) ^ (i + 1) ≤ 128 ^ 9 := Nat.pow_le_pow_right (by decide) (by omega)
   have h3 : (128 : Nat) ^ 9 = 9223372036854775808 := by decide
   omega
  ·
   have h3 : (128 : Nat) ^ 9 = 9223372036854775808 := by decide
   have h4 : d ≤ 1 := by omega
   rw [h3] at hn ⊢
   rcases (show d = 0 ∨ d = 1 by omega) with rfl | rfl <;> omega
 have hpi : (0 : Nat) < 128 ^ i := Nat.pow_pos (by decide)
 have hdm : d * 128 ^ i < 18446744073709551616 := by omega
 have hi9 : i ≤ 9 := by omega
 have hshl : shl .u64 (IntKind.u64.wrap (Go.bits .and .u8 b 127)) (7 * (i : Int)) = ((d * 128 ^ i : Nat) : Int) := by
  rw [and127 b hb0 hb, hd, IntWalk.u64_in _ (by omega)]
  unfold shl
  have hbits : IntKind.u64.bits = 64 := rfl
  rw [hbits, show (7 * (i : Int)).toNat = 7 * i by omega, Nat.min_eq_left (by omega), hpow]
  rw [hpow] at hdm
  have hc : ((d : Int) * 2 ^ (7 * i)) = ((d * 2 ^ (7 * i) : Nat) : Int) := by rw [Int.natCast_mul, Int.natCast_pow]; rfl
  rw [hc, IntWalk.u64_in _ (by omega)]
 have hc2 : (n : Int) + b % 128 * 128 ^ i = ((n + d * 128 ^ i : Nat) : Int) := by rw [hd, Int.natCast_add, Int.natCast_mul, Int.natCast_pow]; rfl
 rw [hshl, bits_or_u64_nat n _ (by omega) hdm, or_add n d i hn, hc2]
 refine ⟨rfl, by omega, ?_, by omega⟩
 have : ((128 : Int) ^ (i + 1)) = ((128 ^ (i + 1) : Nat) : Int) := by rw [Int.natCast_pow]; rfl
 rw [this]
 omega
theorem oct_rn (s : ByteArray) (a : Nat) (hs : s.size ≤ 1073741824) (ha : a ≤ s.size) : ∀ (n i k : Nat) (x : Int), i + n = 10 → 2 * n < k → 0 ≤ x → x < 128 ^ i → octet_ReadNumber.l0 k s (a : Int) x (i : Int) = some (rn s a n i x) := by
 intro n
 induction n with
 | zero =>
  intro i k x hi hk h0 hx
  obtain ⟨k, rfl⟩ : ∃ j, k = j + 1 := ⟨k - 1, by omega⟩
  rw [octet_ReadNumber.l0, if_neg (by omega)]
  rfl
 | succ n ih =>
  intro i k x hi hk h0 hx
  obtain ⟨k, rfl⟩ : ∃ j, k = j + 1 + 1 := ⟨k - 2, by omega⟩
  have hbr := bt_rng s ((a + i : Nat) : Int)
  rw [octet_ReadNumber.l0, if_pos (by omega), IntWalk.wrap64_in ((a : Int) + (i : Int)) (by omega), show ((a : Int) + (i : Int)) = ((a + i : Nat) : Int) by omega, rn]
  obtain ⟨b, hb⟩ : ∃ b, bt s ((a + i : Nat) : Int) = b := ⟨_, rfl⟩
  rw [hb] at hbr ⊢
  by_cases he : s.size ≤ a + i
  ·
   rw [if_pos (by omega), if_pos he]
  ·
   rw [if_neg (by omega), if_neg he, if_pos (by omega), if_pos (by omega)]
   have tail : ∀ c : Bool, (c = true ↔ ((i = 9 ∧ b > 1) ∨ (0 < i ∧ b = 0))) → octet_ReadNumber.j2 (k + 1) s (a : Int) x (i : Int) b (i : Int) c = some (if (i = 9 ∧ b > 1) ∨ (0 < i ∧ b = 0) then (0, 0, 3) else if b < 128 then (x + b % 128 * 128 ^ i, ((a + i + 1 : Nat) : Int), 0) else rn s a n (i + 1) (x + b % 128 * 128 ^ i)) := by
    intro c hc
    rw [octet_ReadNumber.j2]
    by_cases hq : (i = 9 ∧ b > 1) ∨ (0 < i ∧ b = 0)
    ·
     rw [if_pos (hc.2 hq), if_pos hq]
    ·
     rw [if_neg (fun h => hq (hc.1 h)), if_neg hq, IntWalk.wrap64_in (7 * (i : Int)) (by omega), if_pos (by omega)]
     obtain ⟨e1, e2, e3, e4⟩ := step_bits x b i h0 hx hbr.1 (by omega) (by omega)
     rw [e1]
     by_cases hlt : b < 128
     ·
      rw [if_pos hlt, if_pos hlt, IntWalk.wrap64_in ((a : Int) + (i : Int)) (by omega), IntWalk.wrap64_in _ (by omega)]
      rfl
     ·
      rw [if_neg hlt, if_neg hlt, IntWalk.wrap64_in ((i : Int) + 1) (by omega), show ((i : Int) + 1) = ((i + 1 : Nat) : Int) by omega]
      exact ih (i + 1) k _ (by omega) (by omega) e2 e3
   by_cases h9 : i = 9
   ·
    rw [if_pos (by omega)]
    by_cases hb1 : b > 1
    ·
     rw [if_pos hb1]; exact tail true (by simp; omega)
    ·
     rw [if_neg hb1, if_pos (by omega)]; exact tail _ (by simp; omega)
   ·
    rw [if_neg (by omega)]
    by_cases hi0 : i = 0
    ·
     rw [if_neg (by omega)]; exact tail false (by simp; omega)
    ·
     rw [if_pos (by omega)]; exact tail _ (by simp; omega)
theorem rn_spec (s : ByteArray) (a : Nat) : ∀ (n i : Nat) (x : Int), i + n = 10 → 0 ≤ x → x < 128 ^ i → (rn s a n i x).2.2 = 0 → 0 ≤ (rn s a n i x).1 ∧ (rn s a n i x).1 ≤ 18446744073709551615 ∧ ∃ m : Nat, (rn s a n i x).2.1 = (m : Int) ∧ a ≤ m ∧ m ≤ s.size
 | 0, _, _, _, _, _, h => by simp [rn] at h
 | n + 1, i, x, hi, h0, hx, h => by
  have hbr := bt_rng s ((a + i : Nat) : Int)
  rw [rn] at h ⊢
  split at h
  ·
   simp at h
  ·
   rename_i he
   split at h
   ·
    simp at h
   ·
    rename_i hq
    obtain ⟨e1, e2, e3, e4⟩ := step_bits x _ i h0 hx hbr.1 (by omega) (by omega)
    rw [if_neg he, if_neg hq]
    split at h
    ·
     rename_i hlt
     rw [if_pos hlt]
     exact ⟨e2, e4, a + i + 1, rfl, by omega, by omega⟩
    ·
     rename_i hlt
     rw [if_neg hlt]
     exact rn_spec s a n (i + 1) _ (by omega) e2 e3 h
def rd0 (s : ByteArray) (a : Nat) : Int × Int × Int := rn s a 10 0 0
theorem oct_ReadNumber (s : ByteArray) (a : Nat) (hs : s.size ≤ 1073741824) (ha : a ≤ s.size) (k : Nat) (hk : 25 ≤ k) : octet_ReadNumber.f k s (a : Int) = some (rd0 s a) := by
 unfold octet_ReadNumber.f
 obtain ⟨k, rfl⟩ : ∃ j, k = j + 1 := ⟨k - 1, by omega⟩
 rw [if_neg (by omega), decide_eq_false (by omega), octet_ReadNumber.j0, if_neg (by simp)]
 exact oct_rn s a hs ha 10 0 k 0 (by omega) (by omega) (by omega) (by decide)
theorem rd0_spec (s : ByteArray) (a : Nat) (h : (rd0 s a).2.2 = 0) : 0 ≤ (rd0 s a).1 ∧ (rd0 s a).1 ≤ 18446744073709551615 ∧ ∃ m : Nat, (rd0 s a).2.1 = (m : Int) ∧ a ≤ m ∧ m ≤ s.size :=
 rn_spec s a 10 0 0 (by omega) (by omega) (by decide) h
theorem txt_size (a : ByteArray) : (txt a).size ≤ a.size + 10 := by
 unfold txt
 have := num_size (a.size : Int)
 rw [ByteArray.size_append]; omega
theorem ba_assoc (a b c : ByteArray) : a ++ b ++ c = a ++ (b ++ c) := by
 apply ByteArray.ext
 simp only [ByteArray.data_append, Array.append_assoc]
def xn (s : ByteArray) (a : Nat) (e : Int) (most : Int) : Int × Int × Int :=
 if e = 0 then (if (rd0 s a).2.2 = 0 then (if (rd0 s a).1 > most then (0, (a : Int), 2) else ((rd0 s a).1, (rd0 s a).2.1, 0)) else (0, (a : Int), (rd0 s a).2.2)) else (0, (a : Int), e)
theorem oct_RNumber (s : ByteArray) (a : Nat) (hs : s.size ≤ 1073741824) (ha : a ≤ s.size) (e most : Int) (k : Nat) (hk : 30 ≤ k) :
  octet_Reader_Number.f k s (a : Int) e most = some ((xn s a e most).1, s, (xn s a e most).2.1, (xn s a e most).2.2) := by
 unfold octet_Reader_Number.f octet_Reader_Err.f xn
 obtain ⟨k, rfl⟩ : ∃ j, k = j + 1 := ⟨k - 1, by omega⟩
 rw [Option.bind_some]
 by_cases he : e = 0
 ·
  rw [if_pos he, if_pos he, oct_ReadNumber s a hs ha (k + 1) (by omega), Option.bind_some]
  by_cases h0 : (rd0 s a).2.2 = 0
  ·
   rw [if_pos h0, if_pos h0, octet_Reader_Number.j0]
   by_cases hm : (rd0 s a).1 > most
   ·
    rw [if_pos (decide_eq_true hm), if_neg (by omega), if_pos hm]
   ·
    rw [if_neg (by simpa using hm), if_pos h0, if_neg hm, he]
  ·
   rw [if_neg h0, if_neg h0, octet_Reader_Number.j0, if_neg (by simp), if_neg h0]
 ·
  rw [if_neg he, if_neg he]
theorem xn_at (s : ByteArray) (a : Nat) (ha : a ≤ s.size) (e most : Int) (hm : 0 ≤ most) : 0 ≤ (xn s a e most).1 ∧ (xn s a e most).1 ≤ most ∧ ∃ m : Nat, (xn s a e most).2.1 = (m : Int) ∧ a ≤ m ∧ m ≤ s.size := by
 unfold xn
 by_cases he : e = 0
 ·
  rw [if_pos he]
  by_cases h0 : (rd0 s a).2.2 = 0
  ·
   rw [if_pos h0]
   obtain ⟨g1, g2, m, g3, g4, g5⟩ := rd0_spec s a h0
   by_cases hmm : (rd0 s a).1 > most
   ·
    rw [if_pos hmm]; exact ⟨Int.le_refl _, hm, a, rfl, Nat.le_refl _, ha⟩
   ·
    rw [if_neg hmm]; exact ⟨g1, by omega, m, g3, g4, g5⟩
  ·
   rw [if_neg h0]; exact ⟨Int.le_refl _, hm, a, rfl, Nat.le_refl _, ha⟩
 ·
  rw [if_neg he]; exact ⟨Int.le_refl _, hm, a, rfl, Nat.le_refl _, ha⟩
theorem oct_RInt (s : ByteArray) (a : Nat) (hs : s.size ≤ 1073741824) (ha : a ≤ s.size) (e most : Int) (hm : 0 ≤ most) (hm2 : most ≤ 9223372036854775807) (k : Nat) (hk : 30 ≤ k) :
  octet_Reader_Int.f k s (a : Int) e most = some ((xn s a e most).1, s, (xn s a e most).2.1, (xn s a e most).2.2) := by
 unfold octet_Reader_Int.f
 obtain ⟨h1, h2, _⟩ := xn_at s a ha e most hm
 rw [if_neg (by omega), IntWalk.u64_in most (by omega), oct_RNumber s a hs ha e most k hk, Option.bind_some]
 show some (wrap64 ((xn s a e most).1), s, (xn s a e most).2.1, (xn s a e most).2.2) = _
 rw [IntWalk.wrap64_in _ (by omega)]
def rt (s : ByteArray) (a : Nat) : ByteArray × Int × Int :=
 if (rd0 s a).2.2 = 0 then (if (rd0 s a).1 > (s.size : Int) - (rd0 s a).2.1 then ((⟨#[]⟩ : ByteArray), 0, 5) else (s.extract (rd0 s a).2.1.toNat ((rd0 s a).2.1 + (rd0 s a).1).toNat, (rd0 s a).2.1 + (rd0 s a).1, 0)) else ((⟨#[]⟩ : ByteArray), 0, (rd0 s a).2.2)
theorem oct_ReadText (s : ByteArray) (a : Nat) (hs : s.size ≤ 1073741824) (ha : a ≤ s.size) (k : Nat) (hk : 25 ≤ k) : octet_ReadText.f k s (a : Int) = some (rt s a) := by
 unfold octet_ReadText.f rt
 rw [oct_ReadNumber s a hs ha k hk, Option.bind_some]
 by_cases h0 : (rd0 s a).2.2 = 0
 ·
  obtain ⟨g1, g2, m, g3, g4, g5⟩ := rd0_spec s a h0
  rw [if_pos h0, if_pos h0, g3, IntWalk.wrap64_in ((s.size : Int) - (m : Int)) (by omega), IntWalk.u64_in _ (by omega)]
  by_cases hm : (rd0 s a).1 > (s.size : Int) - (m : Int)
  ·
   rw [if_pos hm, if_pos hm]
  ·
   rw [if_neg hm, if_neg hm, IntWalk.wrap64_in (rd0 s a).1 (by omega), IntWalk.wrap64_in _ (by omega), if_pos (by omega), if_pos (by omega), if_pos (by omega)]
 ·
  rw [if_neg h0, if_neg h0]
theorem rt_spec (s : ByteArray) (a : Nat) (h : (rt s a).2.2 = 0) : ∃ m : Nat, (rt s a).2.1 = (m : Int) ∧ a ≤ m ∧ m ≤ s.size := by
 unfold rt at h ⊢
 by_cases h0 : (rd0 s a).2.2 = 0
 ·
  obtain ⟨g1, g2, m, g3, g4, g5⟩ := rd0_spec s a h0
  rw [if_pos h0] at h ⊢
  by_cases hm : (rd0 s a).1 > (s.size : Int) - (rd0 s a).2.1
  ·
   rw [if_pos hm] at h; simp at h
  ·
   rw [if_neg hm]
   exact ⟨m + (rd0 s a).1.toNat, by show (rd0 s a).2.1 + (rd0 s a).1 = _; omega, by omega, by omega⟩
 ·
  rw [if_neg h0] at h
  exact absurd h h0
def xt (s : ByteArray) (a : Nat) (e : Int) (most : Int) : ByteArray × Int × Int :=
 if e = 0 then (if (rt s a).2.2 = 0 then (if ((rt s a).1.size : Int) > most then ((⟨#[]⟩ : ByteArray), (a : Int), 2) else ((rt s a).1, (rt s a).2.1, 0)) else ((⟨#[]⟩ : ByteArray), (a : Int), (rt s a).2.2)) else ((⟨#[]⟩ : ByteArray), (a : Int), e)
theorem oct_RText (s : ByteArray) (a : Nat) (hs : s.size ≤ 1073741824) (ha : a ≤ s.size) (e most : Int) (k : Nat) (hk : 30 ≤ k) :
  octet_Reader_Text.f k s (a : Int) e most = some ((xt s a e most).1, s, (xt s a e most).2.1, (xt s a e most).2.2) := by
 unfold octet_Reader_Text.f octet_Reader_Err.f xt
 obtain ⟨k, rfl⟩ : ∃ j, k = j + 1 := ⟨k - 1, by omega⟩
 rw [Option.bind_some]
 by_cases he : e = 0
 ·
  rw [if_pos he, if_pos he, oct_ReadText s a hs ha (k + 1) (by omega), Option.bind_some]
  by_cases h0 : (rt s a).2.2 = 0
  ·
   rw [if_pos h0, if_pos h0, octet_Reader_Text.j0]
   by_cases hm : ((rt s a).1.size : Int) > most
   ·
    rw [if_pos (decide_eq_true hm), if_neg (by omega), if_pos hm]
   ·
    rw [if_neg (by simpa using hm), if_pos h0, if_neg hm, he]
  ·
   rw [if_neg h0, if_neg h0, octet_Reader_Text.j0, if_neg (by simp), if_neg h0]
 ·
  rw [if_neg he, if_neg he]
theorem xt_at (s : ByteArray) (a : Nat) (ha : a ≤ s.size) (e most : Int) (hm : 0 ≤ most) : ((xt s a e most).1.size : Int) ≤ most ∧ ∃ m : Nat, (xt s a e most).2.1 = (m : Int) ∧ a ≤ m ∧ m ≤ s.size := by
 have hz : (((⟨#[]⟩ : ByteArray).size : Nat) : Int) = 0 := rfl
 unfold xt
 by_cases he : e = 0
 ·
  rw [if_pos he]
  by_cases h0 : (rt s a).2.2 = 0
  ·
   rw [if_pos h0]
   by_cases hmm : ((rt s a).1.size : Int) > most
   ·
    rw [if_pos hmm]; exact ⟨by show (((⟨#[]⟩ : ByteArray).size : Nat) : Int) ≤ most; omega, a, rfl, Nat.le_refl _, ha⟩
   ·
    rw [if_neg hmm]; exact ⟨by show ((rt s a).1.size : Int) ≤ most; omega, rt_spec s a h0⟩
  ·
   rw [if_neg h0]; exact ⟨by show (((⟨#[]⟩ : ByteArray).size : Nat) : Int) ≤ most; omega, a, rfl, Nat.le_refl _, ha⟩
 ·
  rw [if_neg he]; exact ⟨by show (((⟨#[]⟩ : ByteArray).size : Nat) : Int) ≤ most; omega, a, rfl, Nat.le_refl _, ha⟩
def by_ (l : List Int) : List UInt8 := l.map fun n => UInt8.ofNat n.toNat
theorem num_by (n : Int) : (num n).data.toList = by_ (nl 9 n) := rfl
theorem bt_head (s : ByteArray) (p : Nat) (b : Int) (h0 : 0 ≤ b) (h1 : b < 256) (rest : List UInt8) (h : s.data.toList.drop p = UInt8.ofNat b.toNat :: rest) : p < s.size ∧ bt s (p : Int) = b ∧ s.data.toList.drop (p + 1) = rest := by
 have hp : p < s.size := by
  rcases Nat.lt_or_ge p s.size with h2 | h2
  ·
   exact h2
  ·
   rw [List.drop_of_length_le (by rw [len_eq]; exact h2)] at h; cases h
 obtain ⟨c, hc, hb⟩ := bt_get s p hp
 rw [hc] at h
 injection h with e1 e2
 refine ⟨hp, ?_, e2⟩
 rw [hb, e1, UInt8.toNat_ofNat']
 omega
theorem rn_back (s : ByteArray) (a : Nat) : ∀ (d i : Nat) (x n : Int) (rest : List UInt8), i + d = 9 → 0 ≤ n → n < 128 ^ (d + 1) → (i = 9 → n ≤ 1) → (0 < i → n ≠ 0) → (8 < i → n < 128) → n * 128 ^ i ≤ 18446744073709551615 → s.data.toList.drop (a + i) = by_ (nl d n) ++ rest →
  rn s a (d + 1) i x = (x + n * 128 ^ i, ((a + i + (nl d n).length : Nat) : Int), 0) := by
 intro d
 induction d with
 | zero =>
  intro i x n rest hi h0 h1 h9 hz h8 hm h
  have h1' : n < 128 := by simpa using h1
  rw [nl] at h ⊢
  obtain ⟨hp, hb, _⟩ := bt_head s (a + i) n h0 (by omega) rest h
  rw [rn, hb, if_neg (by omega), if_neg (by omega), if_pos h1', Int.emod_eq_of_lt h0 h1']
  rfl
 | succ d ih =>
  intro i x n rest hi h0 h1 h9 hz h8 hm h
  by_cases h128 : n < 128
  ·
   have e1 : nl (d + 1) n = [n] := by rw [nl, if_pos h128]
   rw [e1] at h ⊢
   obtain ⟨hp, hb, _⟩ := bt_head s (a + i) n h0 (by omega) rest h
   rw [rn, hb, if_neg (by omega), if_neg (by omega), if_pos h128, Int.emod_eq_of_lt h0 h128]
   rfl
  ·
   have e1 : nl (d + 1) n = (n % 128 + 128) :: nl d (n / 128) := by rw [nl, if_neg h128]
   rw [e1] at h ⊢
   obtain ⟨hp, hb, ht⟩ := bt_head s (a + i) (n % 128 + 128) (by omega) (by omega) (by_ (nl d (n / 128)) ++ rest) h
   have hpow : (128 : Int) ^ (i + 1) = 128 ^ i * 128 := Int.pow_succ _ _
   have hpi : (0 : Int) < 128 ^ i := Int.pow_pos (by omega)
   have hsum : n % 128 * 128 ^ i + n / 128 * 128 ^ (i + 1) = n * 128 ^ i := by
    rw [hpow, Int.mul_comm (128 ^ i) 128, ← Int.mul_assoc, ← Int.add_mul]
    congr 1
    omega
   have hle : n / 128 * 128 ^ (i + 1) ≤ 18446744073709551615 := by
    have : 0 ≤ n % 128 * 128 ^ i := Int.mul_nonneg (by omega) (by omega)
    omega
   rw [rn, hb, if_neg (by omega), if_neg (by omega), if_neg (by omega), show (n % 128 + 128) % 128 = n % 128 by omega]
   rw [ih (i + 1) _ (n / 128) rest (by omega) (by omega) (Int.ediv_lt_of_lt_mul (by omega) (by rw [← Int.pow_succ]; exact h1)) ?_ (by omega) ?_ hle (by rw [← Nat.add_assoc]; exact ht)]
   ·
    rw [Int.add_assoc, hsum]
    congr 2
    simp only [List.length_cons]; omega
   ·
    intro hi9
    obtain rfl : i = 8 := by omega
    have h3 : (128 : Int) ^ (8 + 1) = 9223372036854775808 := by decide
    rw [h3] at hle
    omega
   ·
    intro h8'
    have hi8 : i = 8 := by omega
    subst hi8
    have h3 : (128 : Int) ^ (8 + 1) = 9223372036854775808 := by decide
    rw [h3] at hle
    omega
theorem rd0_back (s : ByteArray) (a : Nat) (n : Int) (rest : List UInt8) (h0 : 0 ≤ n) (h1 : n ≤ 18446744073709551615) (h : s.data.toList.drop a = (num n).data.toList ++ rest) : rd0 s a = (n, ((a + (num n).size : Nat) : Int), 0) := by
 unfold rd0
 rw [rn_back s a 9 0 0 n rest rfl h0 (by omega) (by omega) (by omega) (by omega) (by omega) (by rw [Nat.add_zero]; exact h)]
 have : (num n).size = (nl 9 n).length := strOfNums_size _
 rw [this]
 simp
theorem rn_only (s : ByteArray) (a : Nat) : ∀ (d i : Nat) (x : Int), (rn s a (d + 1) i x).2.2 = 0 → ∃ (n : Int) (m : Nat), 0 ≤ n ∧ (0 < i → n ≠ 0) ∧ (rn s a (d + 1) i x).1 = x + n * 128 ^ i ∧ (rn s a (d + 1) i x).2.1 = (m : Int) ∧ m ≤ s.size ∧ m = a + i + (nl d n).length ∧ s.data.toList.drop (a + i) = by_ (nl d n) ++ s.data.toList.drop m := by
 intro d
 induction d with
 | zero =>
  intro i x h
  rw [rn] at h ⊢
  split at h
  ·
   simp at h
  ·
   rename_i he
   obtain ⟨c, hc, hb⟩ := bt_get s (a + i) (by omega)
   have hc8 := UInt8.toNat_lt c
   split at h
   ·
    simp at h
   ·
    rename_i hq
    split at h
    ·
     rename_i hlt
     rw [if_neg he, if_neg hq, if_pos hlt]
     rw [hb] at hq hlt ⊢
     refine ⟨(c.toNat : Int), a + i + 1, by omega, by omega, by rw [Int.emod_eq_of_lt (by omega) hlt], rfl, by omega, rfl, ?_⟩
     rw [hc]
     show _ = UInt8.ofNat (c.toNat : Int).toNat :: _
     rw [Int.toNat_natCast, UInt8.ofNat_toNat]
     rfl
    ·
     rw [rn] at h; simp at h
 | succ d ih =>
  intro i x h
  rw [rn] at h ⊢
  split at h
  ·
   simp at h
  ·
   rename_i he
   obtain ⟨c, hc, hb⟩ := bt_get s (a + i) (by omega)
   have hc8 := UInt8.toNat_lt c
   split at h
   ·
    simp at h
   ·
    rename_i hq
    split at h
    ·
     rename_i hlt
     rw [if_neg he, if_neg hq, if_pos hlt]
     rw [hb] at hq hlt ⊢
     refine ⟨(c.toNat : Int), a + i + 1, by omega, by omega, by rw [Int.emod_eq_of_lt (by omega) hlt], rfl, by omega, by rw [nl, if_pos hlt]; rfl, ?_⟩
     rw [hc, nl, if_pos hlt]
     show _ = UInt8.ofNat (c.toNat : Int).toNat :: _
     rw [Int.toNat_natCast, UInt8.ofNat_toNat]
     rfl
    ·
     rename_i hlt
     rw [if_neg he, if_neg hq, if_neg hlt]
     obtain ⟨n, m, g0, g1, g2, g3, g4, g5, g6⟩ := ih (i + 1) _ h
     rw [g2, g3]
     rw [hb] at hq hlt ⊢
     have hn1 : n ≠ 0 := g1 (by omega)
     have hge : ¬ (((c.toNat : Int) % 128 + 128 * n) < 128) := by omega
     have hnl : nl (d + 1) ((c.toNat : Int) % 128 + 128 * n) = (c.toNat : Int) :: nl d n := by
      rw [nl, if_neg hge, show ((c.toNat : Int) % 128 + 128 * n) % 128 + 128 = (c.toNat : Int) by omega, show ((c.toNat : Int) % 128 + 128 * n) / 128 = n by omega]
     refine ⟨(c.toNat : Int) % 128 + 128 * n, m, by omega, by omega, ?_, rfl, g4, by rw [hnl, List.length_cons]; omega, ?_⟩
     ·
      have hpow : (128 : Int) ^ (i + 1) = 128 ^ i * 128 := Int.pow_succ _ _
      rw [hpow, Int.mul_comm (128 ^ i) 128, ← Int.mul_assoc, Int.mul_comm n 128, Int.add_assoc, ← Int.add_mul]
     ·
      rw [hc, hnl]
      show _ = UInt8.ofNat (c.toNat : Int).toNat :: _
      rw [Int.toNat_natCast, UInt8.ofNat_toNat]
      show c :: _ = c :: (by_ (nl d n) ++ _)
      rw [← g6, Nat.add_assoc]
theorem rd0_only (s : ByteArray) (a : Nat) (h : (rd0 s a).2.2 = 0) : ∃ m : Nat, (rd0 s a).2.1 = (m : Int) ∧ m ≤ s.size ∧ m = a + (num (rd0 s a).1).size ∧ s.data.toList.drop a = (num (rd0 s a).1).data.toList ++ s.data.toList.drop m := by
 obtain ⟨n, m, g0, g1, g2, g3, g4, g5, g6⟩ := rn_only s a 9 0 0 h
 have e1 : (rd0 s a).1 = n := by
  show (rn s a 10 0 0).1 = n
  rw [g2]; simp
 have hsz : (num n).size = (nl 9 n).length := strOfNums_size _
 rw [e1]
 refine ⟨m, g3, g4, by rw [hsz]; omega, ?_⟩
 rw [num_by]
 simpa using g6
theorem extract_list (s : ByteArray) (i j : Nat) : (s.extract i j).data.toList = (s.data.toList.drop i).take (j - i) := by
 rw [ByteArray.data_extract, Array.toList_extract, List.extract_eq_take_drop]
theorem txt_list (t : ByteArray) : (txt t).data.toList = (num (t.size : Int)).data.toList ++ t.data.toList := by
 unfold txt
 rw [ByteArray.data_append, Array.toList_append]
theorem drop_add (s : ByteArray) (a : Nat) (p q : List UInt8) (h : s.data.toList.drop a = p ++ q) : s.data.toList.drop (a + p.length) = q := by
 rw [← List.drop_drop, h, List.drop_left]
set_option maxRecDepth 100000 in
theorem rt_back (s t : ByteArray) (a : Nat) (rest : List UInt8) (ht : t.size ≤ 1073741824) (h : s.data.toList.drop a = (txt t).data.toList ++ rest) : rt s a = (t, ((a + (txt t).size : Nat) : Int), 0) := by
 rw [txt_list, List.append_assoc] at h
 have h1 := rd0_back s a (t.size : Int) _ (by omega) (by omega) h
 have h2 := drop_add s a _ _ h
 rw [len_eq] at h2
 have h3 : a + (num (t.size : Int)).size + t.size ≤ s.size := by
  have := congrArg List.length h2
  rw [List.length_drop, List.length_append, len_eq, len_eq] at this
  by_cases h0 : t.size = 0
  ·
   have h4 := congrArg List.length h
   rw [List.length_drop, List.length_append, len_eq, len_eq] at h4
   have h5 : 0 < (num (t.size : Int)).size := by
    have : (num (t.size : Int)).size = (nl 9 (t.size : Int)).length := strOfNums_size _
    rw [this, nl]
    split <;> simp
   omega
  ·
   omega
 have hts : (txt t).size = (num (t.size : Int)).size + t.size := ByteArray.size_append ..
 unfold rt
 rw [h1]
 rw [if_pos rfl, if_neg (by show ¬ ((t.size : Int) > (s.size : Int) - ((a + (num (t.size : Int)).size : Nat) : Int)); omega)]
 show (s.extract ((a + (num (t.size : Int)).size : Nat) : Int).toNat (((a + (num (t.size : Int)).size : Nat) : Int) + (t.size : Int)).toNat, ((a + (num (t.size : Int)).size : Nat) : Int) + (t.size : Int), (0 : Int)) = _
 have e2 : s.extract ((a + (num (t.size : Int)).size : Nat) : Int).toNat (((a + (num (t.size : Int)).size : Nat) : Int) + (t.size : Int)).toNat = t := by
  apply ByteArray.ext
  apply Array.ext'
  rw [extract_list, Int.toNat_natCast, h2, show (((a + (num (t.size : Int)).size : Nat) : Int) + (t.size : Int)).toNat - (a + (num (t.size : Int)).size) = t.data.toList.length by rw [len_eq]; omega, List.take_left]
 rw [e2, hts]
 congr 2
 omega
theorem rt_only (s : ByteArray) (a : Nat) (h : (rt s a).2.2 = 0) : ∃ m : Nat, (rt s a).2.1 = (m : Int) ∧ m ≤ s.size ∧ s.data.toList.drop a = (txt (rt s a).1).data.toList ++ s.data.toList.drop m := by
 unfold rt at h ⊢
 by_cases h0 : (rd0 s a).2.2 = 0
 ·
  rw [if_pos h0] at h ⊢
  obtain ⟨m, g1, g2, g3, g4⟩ := rd0_only s a h0
  have hsp := rd0_spec s a h0
  rw [g1] at h ⊢
  by_cases hm : (rd0 s a).1 > (s.size : Int) - (m : Int)
  ·
   rw [if_pos hm] at h; simp at h
  ·
   rw [if_neg hm] at h ⊢
   have hz : (s.extract (m : Int).toNat ((m : Int) + (rd0 s a).1).toNat).data.toList = (s.data.toList.drop m).take (rd0 s a).1.toNat := by
    rw [extract_list, Int.toNat_natCast]
    congr 1
    omega
   have hsz : (((s.extract (m : Int).toNat ((m : Int) + (rd0 s a).1).toNat).size : Nat) : Int) = (rd0 s a).1 := by
    have := congrArg List.length hz
    rw [len_eq, List.length_take, List.length_drop, len_eq] at this
    omega
   refine ⟨m + (rd0 s a).1.toNat, by show (m : Int) + (rd0 s a).1 = _; omega, by omega, ?_⟩
   show _ = (txt (s.extract (m : Int).toNat ((m : Int) + (rd0 s a).1).toNat)).data.toList ++ _
   rw [txt_list, hsz, hz, g4, List.append_assoc]
   congr 1
   rw [← List.drop_drop, List.take_append_drop]
 ·
  rw [if_neg h0] at h
  exact absurd h h0
theorem xt_back (s t : ByteArray) (a : Nat) (most : Int) (rest : List UInt8) (ht : t.size ≤ 1073741824) (hm : (t.size : Int) ≤ most) (h : s.data.toList.drop a = (txt t).data.toList ++ rest) : xt s a 0 most = (t, ((a + (txt t).size : Nat) : Int), 0) := by
 unfold xt
 rw [rt_back s t a rest ht h, if_pos rfl, if_pos rfl, if_neg (by show ¬ ((t.size : Int) > most); omega)]
theorem xn_back (s : ByteArray) (a : Nat) (n most : Int) (rest : List UInt8) (h0 : 0 ≤ n) (h1 : n ≤ 18446744073709551615) (hm : n ≤ most) (h : s.data.toList.drop a = (num n).data.toList ++ rest) : xn s a 0 most = (n, ((a + (num n).size : Nat) : Int), 0) := by
 unfold xn
 rw [rd0_back s a n rest h0 h1 h, if_pos rfl, if_pos rfl, if_neg (by show ¬ (n > most); omega)]
theorem size_le (s : ByteArray) (a : Nat) (p q : List UInt8) (hp : 0 < p.length) (h : s.data.toList.drop a = p ++ q) : a + p.length ≤ s.size := by
 have := congrArg List.length h
 rw [List.length_drop, List.length_append, len_eq] at this
 omega
theorem num_pos (n : Int) : 0 < (num n).data.toList.length := by
 rw [len_eq, show (num n).size = (nl 9 n).length from strOfNums_size _, nl]
 split <;> simp
theorem txt_pos (t : ByteArray) : 0 < (txt t).data.toList.length := by
 rw [txt_list, List.length_append]
 have := num_pos (t.size : Int)
 omega
theorem xn_e (s : ByteArray) (a : Nat) (e most : Int) (h : (xn s a e most).2.2 = 0) : e = 0 ∧ ∃ m : Nat, (xn s a e most).2.1 = (m : Int) ∧ m ≤ s.size ∧ s.data.toList.drop a = (num (xn s a e most).1).data.toList ++ s.data.toList.drop m := by
 unfold xn at h ⊢
 by_cases he : e = 0
 ·
  rw [if_pos he] at h ⊢
  by_cases h0 : (rd0 s a).2.2 = 0
  ·
   rw [if_pos h0] at h ⊢
   by_cases hm : (rd0 s a).1 > most
   ·
    rw [if_pos hm] at h; simp at h
   ·
    rw [if_neg hm]
    obtain ⟨m, g1, g2, g3, g4⟩ := rd0_only s a h0
    exact ⟨he, m, g1, g2, g4⟩
  ·
   rw [if_neg h0] at h; exact absurd h h0
 ·
  rw [if_neg he] at h; exact absurd h he
theorem xt_e (s : ByteArray) (a : Nat) (e most : Int) (h : (xt s a e most).2.2 = 0) : e = 0 ∧ ∃ m : Nat, (xt s a e most).2.1 = (m : Int) ∧ m ≤ s.size ∧ s.data.toList.drop a = (txt (xt s a e most).1).data.toList ++ s.data.toList.drop m := by
 unfold xt at h ⊢
 by_cases he : e = 0
 ·
  rw [if_pos he] at h ⊢
  by_cases h0 : (rt s a).2.2 = 0
  ·
   rw [if_pos h0] at h ⊢
   by_cases hm : ((rt s a).1.size : Int) > most
   ·
    rw [if_pos hm] at h; simp at h
   ·
    rw [if_neg hm]
    obtain ⟨m, g1, g2, g4⟩ := rt_only s a h0
    exact ⟨he, m, g1, g2, g4⟩
  ·
   rw [if_neg h0] at h; exact absurd h h0
 ·
  rw [if_neg he] at h; exact absurd h he
end Go.Proofs.YtdidopoalmkhlaaDoor.Pure
end
section
namespace Go.Proofs.YtdidopoalmkhlaaDoor.Pure
open Go.RowKit Go.Proofs.YtdidopoalmkhlaaDoor.Ob Go.Proofs.YtdidopoalmkhlaaDoorW.PrintWords Go.Proofs.YtdidopoalmkhlaaDoorW.PrintLast Go.Proofs.YtdidopoalmkhlaaDoorW.PrintMore
set_option linter.unusedVariables false
set_option linter.unusedSimpArgs false
set_option maxRecDepth 100000
abbrev Piece := S82
abbrev Pick := S62
def dig (s : ByteArray) : ByteArray := Sha.ofB (Sha.hexL (Sha.ofB (Sha.sha (Sha.tagB (BitVec.ofInt 8 67) [s]))).data.toList)
theorem sum_size (ss : List ByteArray) : (Sha.ofB (Sha.sha (Sha.tagB (BitVec.ofInt 8 67) ss))).size = 32 := by
 rw [Sha.ofB_size, Sha.sha, Sha.out_length]
theorem dig_size (s : ByteArray) : (dig s).size = 64 := by
 unfold dig
 rw [Sha.ofB_size, Sha.two_length, len_eq, sum_size]
theorem tag_one (s : ByteArray) : (Sha.tagB (BitVec.ofInt 8 67) [s]).length = 9 + s.size := by
 unfold Sha.tagB
 rw [List.length_append, List.flatMap_cons, List.length_append, Sha.partB_length, List.flatMap_nil]
 simp only [List.length_cons, List.length_nil]
 omega
theorem dig_tag (s : ByteArray) (h : s.size ≤ 1073741824) : digest_Tagged.f 67 [s] = some (Sha.ofB (Sha.sha (Sha.tagB (BitVec.ofInt 8 67) [s]))) := by
 show Sha.tagF 67 [s] = _
 unfold Sha.tagF
 rw [if_pos ⟨by decide, by decide, by rw [tag_one]; omega⟩]
theorem dig_hex (s : ByteArray) : digest_Hex.f (Sha.ofB (Sha.sha (Sha.tagB (BitVec.ofInt 8 67) [s]))) = some (dig s) := by
 show Sha.hexF _ = _
 unfold Sha.hexF
 rw [if_pos (by rw [sum_size]; decide)]
 rfl
def B0 : ByteArray := ⟨#[]⟩
def B1 : ByteArray := ⟨#[111, 110, 101]⟩
def B2 : ByteArray := ⟨#[1, 0, 3, 111, 110, 101]⟩
def B3 : ByteArray := ⟨#[116]⟩
theorem aw_chk1 : cmd_Check.f 200 1 (⟨#[]⟩ : ByteArray) (⟨#[111, 110, 101]⟩ : ByteArray) (⟨#[]⟩ : ByteArray) 0 0 (⟨#[]⟩ : ByteArray) ([] : List Piece) ([] : List Pick) = some 0 := by kernel_rfl
theorem aw_chk2 : cmd_Check.f 200 1 (⟨#[116]⟩ : ByteArray) (⟨#[111, 110, 101]⟩ : ByteArray) (⟨#[]⟩ : ByteArray) 0 0 (⟨#[]⟩ : ByteArray) ([] : List Piece) ([] : List Pick) = some 0 := by kernel_rfl
theorem aw_told : cmd_told.f 200 1 (⟨#[]⟩ : ByteArray) (⟨#[111, 110, 101]⟩ : ByteArray) (⟨#[]⟩ : ByteArray) 0 0 (⟨#[]⟩ : ByteArray) ([] : List Piece) ([] : List Pick) = some B2 := by kernel_rfl
theorem aw_dec : cmd_Decode.f 200 B2 = some (1, B0, B1, B0, 0, 0, B0, ([] : List Piece), ([] : List Pick), 0) := by kernel_rfl
theorem awake_true (k : Nat) (hk : 200 ≤ k) : stowagelaw16_awake.f k = some true := by
 have h1 := up_to (f := fun k => cmd_Check.f k 1 (⟨#[]⟩ : ByteArray) (⟨#[111, 110, 101]⟩ : ByteArray) (⟨#[]⟩ : ByteArray) 0 0 (⟨#[]⟩ : ByteArray) ([] : List Piece) ([] : List Pick)) (fun k => cmd_Check.mono _ _ _ _ _ _ _ _ _ k) aw_chk1 hk
 have h2 := up_to (f := fun k => cmd_Check.f k 1 (⟨#[116]⟩ : ByteArray) (⟨#[111, 110, 101]⟩ : ByteArray) (⟨#[]⟩ : ByteArray) 0 0 (⟨#[]⟩ : ByteArray) ([] : List Piece) ([] : List Pick)) (fun k => cmd_Check.mono _ _ _ _ _ _ _ _ _ k) aw_chk2 hk
 have h3 := up_to (f := fun k => cmd_told.f k 1 (⟨#[]⟩ : ByteArray) (⟨#[111, 110, 101]⟩ : ByteArray) (⟨#[]⟩ : ByteArray) 0 0 (⟨#[]⟩ : ByteArray) ([] : List Piece) ([] : List Pick)) (fun k => cmd_told.mono _ _ _ _ _ _ _ _ _ k) aw_told hk
 have h4 := up_to (f := fun k => cmd_Decode.f k B2) (fun k => cmd_Decode.mono _ k) aw_dec hk
 have h5 := dig_tag B2 (by decide +kernel)
 have h6 := dig_hex B2
 unfold stowagelaw16_awake.f cmd_Encode.f cmd_Digest.f
 simp only [h1, h2, h3, h4, h5, h6, Option.bind_some, if_true]
 rw [if_pos (by kernel_rfl), if_pos (by kernel_rfl)]
 have h7 : ((((dig B2).size : Nat) : Int) == 64) = true := by rw [dig_size]; rfl
 rw [h7]
end Go.Proofs.YtdidopoalmkhlaaDoor.Pure
end
section
namespace Go.Proofs.YtdidopoalmkhlaaDoor.Pure
open Go.RowKit Go.Proofs.YtdidopoalmkhlaaDoor.Ob Go.Proofs.YtdidopoalmkhlaaDoorW.PrintWords Go.Proofs.YtdidopoalmkhlaaDoorW.PrintLast Go.Proofs.YtdidopoalmkhlaaDoorW.PrintMore
set_option linter.unusedVariables false
set_option linter.unusedSimpArgs false
def tokC (c : UInt8) : Bool := decide (33 ≤ c.toNat) && decide (c.toNat ≤ 126)
def tokOk (a : ByteArray) : Bool := a.data.toList.all tokC && (decide (1 ≤ a.size) && decide (a.size ≤ 64))
theorem toList_nil (a : ByteArray) : a.toList = ([] : List UInt8) ↔ a.size = 0 := by
 rw [ByteArray.toList_eq, ← len_eq, List.length_eq_zero_iff]
theorem names_tok (a : ByteArray) (hs : a.size ≤ 9223372036854775807) : ∀ n i k, i + n = a.size → n < k → names_Token.l0 k a (a.size : Int) (i : Int) = some ((a.data.toList.drop i).all tokC && (decide (1 ≤ a.size) && decide (a.size ≤ 64))) := by
 intro n
 induction n with
 | zero =>
  intro i k hi hk
  obtain ⟨k, rfl⟩ : ∃ j, k = j + 1 := ⟨k - 1, by omega⟩
  rw [names_Token.l0, if_neg (by omega), List.drop_of_length_le (by rw [len_eq]; omega)]
  by_cases h0 : a.size = 0
  ·
   rw [if_pos ((toList_nil a).2 h0)]; simp [h0]
  ·
   rw [if_neg (fun h => h0 ((toList_nil a).1 h))]
   have h1 : decide (1 ≤ a.size) = true := decide_eq_true (by omega)
   rw [h1]
   simp only [List.all_nil, Bool.true_and]
   congr 1
   exact decide_eq_decide.2 (by omega)
 | succ n ih =>
  intro i k hi hk
  obtain ⟨k, rfl⟩ : ∃ j, k = j + 1 := ⟨k - 1, by omega⟩
  obtain ⟨c, hd, hb⟩ := bt_get a i (by omega)
  rw [names_Token.l0, if_pos (by omega), if_pos (by omega), if_pos (by omega), hb, hd, List.all_cons]
  by_cases h1 : (c.toNat : Int) < 33
  ·
   rw [if_pos h1]; simp [tokC, show ¬ 33 ≤ c.toNat by omega]
  ·
   rw [if_neg h1]
   by_cases h2 : (c.toNat : Int) > 126
   ·
    rw [if_pos h2]; simp [tokC, show ¬ c.toNat ≤ 126 by omega]
   ·
    rw [if_neg h2, IntWalk.wrap64_in _ (by omega), show ((i : Int) + 1) = ((i + 1 : Nat) : Int) by omega, ih (i + 1) k (by omega) (by omega)]
    have h3 : tokC c = true := by simp [tokC]; omega
    rw [h3, Bool.true_and]
theorem names_Token_eq (a : ByteArray) (hs : a.size ≤ 1073741824) (k : Nat) (hk : 1073741825 ≤ k) : names_Token.f k a = some (tokOk a) :=
 names_tok a (by omega) a.size 0 k (by omega) (by omega)
def keyOk (a : ByteArray) : Bool := a.data.toList.all (fun c => !(c == 0)) && (decide (1 ≤ a.size) && decide (a.size ≤ 1024))
theorem contains_cons (b : UInt8) (l sub : List UInt8) : Lib.contains (b :: l) sub = (sub.isPrefixOf (b :: l) || Lib.contains l sub) := by
 unfold Lib.contains
 rw [Lib.index]
 have hg := Lib.index_ge l sub
 cases h : sub.isPrefixOf (b :: l) with
 | true => simp
 | false =>
  simp only [Bool.false_eq_true, if_false, Bool.false_or]
  by_cases h1 : Lib.index l sub = -1
  ·
   rw [h1]; decide
  ·
   rw [if_neg (by simpa using h1)]
   exact decide_eq_decide.2 (by omega)
theorem contains_zero : ∀ l : List UInt8, Lib.contains l [0] = !(l.all fun c => !(c == 0))
 | [] => by decide
 | b :: l => by
  rw [contains_cons, contains_zero l, List.all_cons]
  have : List.isPrefixOf [0] (b :: l) = (b == 0) := by simp [List.isPrefixOf, eq_comm, Bool.beq_comm]
  rw [this]
  cases (b == 0) <;> simp
theorem names_Key_eq (a : ByteArray) (hs : a.size ≤ 9223372036854775807) : names_Key.f a = some (keyOk a) := by
 unfold names_Key.f keyOk
 by_cases h0 : a.size = 0
 ·
  rw [if_pos ((toList_nil a).2 h0)]; simp [h0]
 ·
  rw [if_neg (fun h => h0 ((toList_nil a).1 h))]
  have h1 : decide (1 ≤ a.size) = true := decide_eq_true (by omega)
  by_cases h2 : a.size ≤ 1024
  ·
   rw [if_pos (by omega)]
   unfold strings_Contains.f
   rw [if_pos (by omega), Option.bind_some, show (⟨#[0]⟩ : ByteArray).data.toList = [0] from rfl, contains_zero, h1]
   simp [h2]
  ·
   rw [if_neg (by omega)]; simp [h2]
def plainC (c : UInt8) : Bool := (decide (97 ≤ c.toNat) && decide (c.toNat ≤ 122)) || (decide (48 ≤ c.toNat) && decide (c.toNat ≤ 57))
def okC (c : UInt8) : Bool := plainC c || (c == 46 || c == 45)
def dd : List UInt8 → Bool
 | a :: b :: l => (a == 46 && b == 46) || dd (b :: l)
 | _ => false
def endOk : List UInt8 → Bool
 | [] => true
 | [c] => plainC c
 | _ :: b :: l => endOk (b :: l)
def R : Option UInt8 → List UInt8 → Bool
 | _, [] => true
 | p, c :: l => (plainC c || ((c == 45 || c == 46) && (p.isSome && (!l.isEmpty && !(c == 46 && p == some 46))))) && R (some c) l
theorem plain_ne (c : UInt8) (h : plainC c = true) : (c == 46) = false ∧ (c == 45) = false := by
 refine ⟨beq_eq_false_iff_ne.2 ?_, beq_eq_false_iff_ne.2 ?_⟩ <;> (rintro rfl; exact absurd h (by decide))
theorem R_some : ∀ (l : List UInt8) (q : UInt8), R (some q) l = (endOk l && (!dd (q :: l) && l.all okC))
 | [], q => by simp [R, endOk, dd]
 | [c], q => by
  have hp := plain_ne c
  simp only [R, endOk, dd, List.all_cons, List.all_nil, okC, List.isEmpty_nil, Option.isSome_some]
  cases h : plainC c with
  | true => obtain ⟨h1, h2⟩ := hp h; simp [h1, h2]
  | false => simp
 | c :: r :: l, q => by
  have hp := plain_ne c
  have ih := R_some (r :: l) c
  rw [R, ih]
  simp only [endOk, dd, List.all_cons, List.isEmpty_cons, Option.isSome_some, okC]
  have hq : (some q == some (46 : UInt8)) = (q == 46) := rfl
  rw [hq]
  generalize endOk (r :: l) = A
  generalize dd (r :: l) = B
  generalize l.all okC = C
  cases h : plainC c with
  | true => obtain ⟨h1, h2⟩ := hp h; simp [h1, h2, Bool.and_assoc]
  | false => cases (c == 45) <;> cases (c == 46) <;> cases (q == 46) <;> cases (r == 46) <;> cases A <;> cases B <;> cases C <;> simp
theorem R_none (c : UInt8) (l : List UInt8) : R none (c :: l) = (plainC c && (endOk (c :: l) && (!dd (c :: l) && (c :: l).all okC))) := by
 rw [R, R_some]
 have h1 : okC c = (plainC c || (c == 46 || c == 45)) := rfl
 cases h : plainC c with
 | false => simp
 | true =>
  cases l with
  | nil => simp [endOk, h, dd, h1]
  | cons r l => simp [endOk, h, h1]
def bucketOk (a : ByteArray) : Bool := decide (3 ≤ a.size) && (decide (a.size ≤ 63) && R none a.data.toList)
theorem names_plain_eq (c : UInt8) : names_plain.f (c.toNat : Int) = some (plainC c) := by
 have h : ∀ n, n < 256 → names_plain.f (((UInt8.ofNat n).toNat : Nat) : Int) = some (plainC (UInt8.ofNat n)) := by decide +kernel
 have h2 := h c.toNat (UInt8.toNat_lt c)
 rwa [UInt8.ofNat_toNat] at h2
theorem plain_1 (c : UInt8) (h1 : (c.toNat : Int) ≥ 97) (h2 : (c.toNat : Int) ≤ 122) : true = plainC c := by
 unfold plainC; rw [decide_eq_true (by omega : 97 ≤ c.toNat), decide_eq_true (by omega : c.toNat ≤ 122)]; rfl
theorem plain_2 (c : UInt8) (h : ¬ ((c.toNat : Int) ≥ 97 ∧ (c.toNat : Int) ≤ 122)) (h1 : (c.toNat : Int) ≥ 48) : decide ((c.toNat : Int) ≤ 57) = plainC c := by
 unfold plainC
 have h3 : (decide (97 ≤ c.toNat) && decide (c.toNat ≤ 122)) = false := by
  rw [Bool.eq_false_iff]; intro h3; simp only [Bool.and_eq_true, decide_eq_true_eq] at h3; omega
 rw [h3, decide_eq_true (by omega : 48 ≤ c.toNat), Bool.false_or, Bool.true_and]
 exact decide_eq_decide.2 (by omega)
theorem plain_3 (c : UInt8) (h : ¬ ((c.toNat : Int) ≥ 97 ∧ (c.toNat : Int) ≤ 122)) (h1 : ¬ (c.toNat : Int) ≥ 48) : false = plainC c := by
 unfold plainC
 have h3 : (decide (97 ≤ c.toNat) && decide (c.toNat ≤ 122)) = false := by
  rw [Bool.eq_false_iff]; intro h3; simp only [Bool.and_eq_true, decide_eq_true_eq] at h3; omega
 rw [h3, decide_eq_false (by omega : ¬ 48 ≤ c.toNat)]; rfl
def prev (a : ByteArray) (i : Nat) : Option UInt8 := if i = 0 then none else a.data.toList[i - 1]?
theorem prev_bt (a : ByteArray) (i : Nat) (h0 : 0 < i) (h : i ≤ a.size) : ∃ q, prev a i = some q ∧ bt a ((i : Int) - 1) = (q.toNat : Int) ∧ a.data.toList[i - 1]? = some q := by
 obtain ⟨c, hd, hb⟩ := bt_get a (i - 1) (by omega)
 have h1 : a.data.toList[i - 1]? = some c := by
  have := congrArg List.head? hd
  rw [List.head?_drop] at this
  simpa using this
 refine ⟨c, ?_, ?_, h1⟩
 ·
  unfold prev; rw [if_neg (by omega)]; exact h1
 ·
  rw [← hb]; congr 1; omega
theorem c_eq (c : UInt8) (n : Nat) (hn : n < 256) : ((c.toNat : Int) = (n : Int)) ↔ (c == UInt8.ofNat n) = true := by
 rw [beq_iff_eq]
 constructor
 ·
  intro h
  have : c.toNat = n := by omega
  rw [← this, UInt8.ofNat_toNat]
 ·
  intro h
  rw [h]
  have : (UInt8.ofNat n).toNat = n := by simp [UInt8.toNat_ofNat]; omega
  omega
theorem contains_two : ∀ l : List UInt8, Lib.contains l [46, 46] = dd l
 | [] => by decide
 | [a] => by
  rw [contains_cons, contains_two []]
  simp [List.isPrefixOf, dd]
 | a :: b :: l => by
  rw [contains_cons, contains_two (b :: l), dd]
  congr 1
  simp only [List.isPrefixOf, Bool.and_true]
  rw [Bool.beq_comm (a := a), Bool.beq_comm (a := b)]
theorem endOk_last : ∀ (l : List UInt8) (c : UInt8), l.getLast? = some c → endOk l = plainC c
 | [], _, h => by simp at h
 | [x], c, h => by simp at h; rw [endOk, h]
 | _ :: b :: l, c, h => by
  rw [List.getLast?_cons_cons] at h
  rw [endOk]
  exact endOk_last (b :: l) c h
theorem names_loop (a : ByteArray) (hs : a.size ≤ 63) : ∀ n i k, i + n = a.size → n < k → names_Bucket.l0 k a (a.size : Int) (i : Int) = some ((a.data.toList.drop i).all okC) := by
 intro n
 induction n with
 | zero =>
  intro i k hi hk
  obtain ⟨k, rfl⟩ : ∃ j, k = j + 1 := ⟨k - 1, by omega⟩
  rw [names_Bucket.l0, if_neg (by omega), List.drop_of_length_le (by rw [len_eq]; omega)]; rfl
 | succ n ih =>
  intro i k hi hk
  obtain ⟨k, rfl⟩ : ∃ j, k = j + 1 := ⟨k - 1, by omega⟩
  obtain ⟨c, hd, hb⟩ := bt_get a i (by omega)
  have h45 := c_eq c 45 (by omega)
  have h46 := c_eq c 46 (by omega)
  rw [show UInt8.ofNat 45 = 45 from rfl] at h45
  rw [show UInt8.ofNat 46 = 46 from rfl] at h46
  rw [names_Bucket.l0, if_pos (by omega), if_pos (by omega), if_pos (by omega), hb, names_plain_eq, Option.bind_some, hd, List.all_cons, IntWalk.wrap64_in ((i : Int) + 1) (by omega), show ((i : Int) + 1) = ((i + 1 : Nat) : Int) by omega, ih (i + 1) k (by omega) (by omega)]
  have ho : okC c = (plainC c || (c == 46 || c == 45)) := rfl
  rw [ho]
  cases h : plainC c with
  | true => simp
  | false =>
   rw [if_neg (by simp), Bool.false_or]
   by_cases c46 : (c.toNat : Int) = 46
   ·
    rw [if_pos c46, h46.1 (by omega)]; simp
   ·
    have b46 : (c == 46) = false := by rw [Bool.eq_false_iff]; intro hh; exact c46 (by have := h46.2 hh; omega)
    rw [if_neg c46, b46]
    by_cases c45 : (c.toNat : Int) = 45
    ·
     rw [if_pos c45, h45.1 (by omega)]; simp
    ·
     have b45 : (c == 45) = false := by rw [Bool.eq_false_iff]; intro hh; exact c45 (by have := h45.2 hh; omega)
     rw [if_neg c45, b45]; rfl
theorem names_Bucket_eq (a : ByteArray) (hs : a.size ≤ 9223372036854775807) (k : Nat) (hk : 1000 ≤ k) : names_Bucket.f k a = some (bucketOk a) := by
 obtain ⟨k, rfl⟩ : ∃ j, k = j + 1 := ⟨k - 1, by omega⟩
 unfold names_Bucket.f bucketOk
 by_cases h1 : a.size < 3
 ·
  rw [if_pos (by omega), names_Bucket.j0, if_pos rfl, decide_eq_false (by omega : ¬ 3 ≤ a.size)]; rfl
 rw [if_neg (by omega), decide_eq_true (by omega : 3 ≤ a.size)]
 by_cases h2 : a.size ≤ 63
 ·
  obtain ⟨c, hd, hb⟩ := bt_get a 0 (by omega)
  obtain ⟨z, hz1, hz2, hz3⟩ := prev_bt a a.size (by omega) (by omega)
  have hw2 : wrap64 ((a.size : Int) - 1) = (a.size : Int) - 1 := IntWalk.wrap64_in _ (by omega)
  have hl : a.data.toList = c :: a.data.toList.drop 1 := by simpa using hd
  have hzl : (c :: a.data.toList.drop 1).getLast? = some z := by
   rw [← hl, List.getLast?_eq_getElem?, len_eq]; exact hz3
  have hlo := names_loop a h2 a.size 0 k (by omega) (by omega)
  rw [if_neg (by omega), if_pos (by omega), show (bt a 0) = bt a ((0 : Nat) : Int) from rfl, hb, names_plain_eq, Option.bind_some, hw2, hz2, decide_eq_true h2]
  rw [show R none a.data.toList = R none (c :: a.data.toList.drop 1) by rw [← hl], R_none, endOk_last _ z hzl]
  cases hp : plainC c with
  | false => rw [if_neg (by simp), names_Bucket.j0, if_pos rfl]; rfl
  | true =>
   rw [if_pos rfl, if_pos (by omega), if_pos (by omega), names_plain_eq, Option.bind_some]
   cases hq : plainC z with
   | false => rw [if_neg (by simp), names_Bucket.j0, if_pos rfl]; rfl
   | true =>
    rw [if_pos rfl]
    unfold strings_Contains.f
    rw [if_pos (by omega), Option.bind_some, show (⟨#[46, 46]⟩ : ByteArray).data.toList = [46, 46] from rfl, contains_two, names_Bucket.j0]
    rw [← hl]
    cases hD : dd a.data.toList with
    | true => rw [if_pos rfl]; rfl
    | false =>
     rw [if_neg (by simp), show (0 : Int) = ((0 : Nat) : Int) from rfl, hlo]
     simp
 ·
  rw [if_pos (by omega), names_Bucket.j0, if_pos rfl, decide_eq_false h2]; rfl
end Go.Proofs.YtdidopoalmkhlaaDoor.Pure
end
