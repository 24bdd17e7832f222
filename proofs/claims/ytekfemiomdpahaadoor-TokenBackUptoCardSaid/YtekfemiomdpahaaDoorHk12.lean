-- Written for this claim by hyb.py, a driver of this session's over the kit's printer.
import Derived.Test.YtekfemiomdpahaaDoorHk0
import Derived.Test.YtekfemiomdpahaaDoorHk5
import Derived.Test.YtekfemiomdpahaaDoorHk9
import Derived.Test.YtekfemiomdpahaaDoorHk11
import Derived.Test.YtekfemiomdpahaaDoorHk5
import Derived.Test.YtekfemiomdpahaaDoorHk9
import Derived.Test.YtekfemiomdpahaaDoorHk11
import Derived.Lib.Hide
import Derived.IntWalk
import Derived.Deep.QuietTactic
import Derived.BigQuiet
import Derived.OwnWalk
import Derived.Lib.LazyBuf
import Derived.Lib.SliceRun
import Derived.Lib.Walk
import Derived.Test.YtekfemiomdpahaaDoorRowK
namespace Go.Proofs.YtekfemiomdpahaaDoor.Hk
open Go.RowKit Go.Proofs.YtekfemiomdpahaaDoorW.PrintWords Go.Proofs.YtekfemiomdpahaaDoorW.PrintLast Go.Proofs.YtekfemiomdpahaaDoorW.PrintMore
attribute [local go_sem] max2_int min2_int max_two min_two max_three min_three max_four min_four   -- for this text's walks alone
set_option linter.unusedVariables false
set_option linter.unusedSimpArgs false

/-! ### EXT token_Expire: function 14 -/
theorem token_Expire_uses : api_Held_29.f = api_Held_29.f ∧ api_Held_27.f = api_Held_27.f := ⟨rfl, rfl⟩
def token_Expire_cut (l0 : List (S31)) (a1 : Int) : Option (List (S31) × Int) :=
  if l0.length ≤ 64 then some (l0.filter fun h => !decide (h.f3 ≤ a1), (l0.length : Int) - ((l0.filter fun h => !decide (h.f3 ≤ a1)).length : Int)) else none
def token_Expire.f (k : Nat) (l0 : List (S31)) (a1 : Int) : Option (List (S31) × Int) :=
  (token_right.f k l0).bind fun t => if t = true then token_Expire_cut l0 a1 else some ([], 0)
theorem token_Expire.mono : ∀ a0 a1 k, LeO (token_Expire.f k a0 a1) (token_Expire.f (k + 1) a0 a1) := by
  intro a0 a1 k
  unfold token_Expire.f
  repeat' first
      | (with_reducible exact token_right.mono _ _)
      | (with_reducible exact LeO.refl _)
      | (with_reducible refine LeO.ite ?_ ?_)
      | (with_reducible refine LeO.bind ?_ (fun _ => ?_))
theorem token_Expire_kept {W W' : World} {b : Nat} {o : Obj} (hb : Below W.heap.size W W') (h : W.heap[b]? = some o) : W'.heap[b]? = some o := (hb.block b (Array.getElem?_eq_some_iff.1 h).1).trans h
set_option maxRecDepth 100000 in
set_option maxHeartbeats 4000000 in
theorem token_Expire_ok (k : Nat) (A0 : Option Addr) (c0 : Nat) (l0 : List (S31)) (a1 : Int) (w : World) (hr0 : Kd.C k31 w A0 l0.length l0) (hc0 : l0.length ≤ c0)
    (hri : token_right.f k l0 = some true) (hl : l0.length ≤ 64) :
    Calls Tryd.prog 14 #[.slice A0 l0.length c0, .int .i64 a1] w fun e w' => ∃ v0_ : Value, e = .returned (.tuple #[v0_, .int .i64 ((l0.length : Int) - ((l0.filter fun h => !decide (h.f3 ≤ a1)).length : Int))]) ∧ w'.ownsRow w.heap.size 31 4 v0_ (l0.filter fun h => !decide (h.f3 ≤ a1)).length (api_Held_29_cells (l0.filter fun h => !decide (h.f3 ≤ a1))) ∧ Below w.heap.size w w' := by
  have HR0 := Aside0.mk hr0
  have HC0 := Aside0.mk hc0
  have HRI := Aside0.mk hri
  clear hr0 hc0 hri
  have HB := Aside0.mk (Below.refl w.heap.size w)
  have hfl := List.length_filter_le (fun h : S31 => !decide (h.f3 ≤ a1)) l0
  obtain ⟨m, hm⟩ : ∃ m, (l0.filter fun h => !decide (h.f3 ≤ a1)).length = m := ⟨_, rfl⟩
  rw [hm] at hfl ⊢
  have hw1 : IntKind.i64.wrap ((l0.length : Int) - (m : Int)) = (l0.length : Int) - (m : Int) := IntWalk.i64_in _ (by omega)
  have mixed : Tryd.prog.follows Departure.mixedOrders = true := by kernel_rfl
  go_enter Tryd.func14, Tryd.ntmps14
  go_wp2_with (first
    | (go_at_call 21; (with_reducible refine (token_right.calls k _ _ l0 true _ ?side1 HC0.out HRI.out).mono ?_); (case side1 => repeat (first | exact (Kd.C_below HR0.out HB.out) | exact HR0.out | (with_reducible refine Kd.C_alloc ?_ _) | (with_reducible refine Kd.C_drewN ?_ _) | (with_reducible refine Kd.C_drew ?_))); rintro e w1 ⟨rfl, hb⟩; have n0_ := Aside0.mk (below_step (by repeat (first | (with_reducible first | exact HB.out | apply below_alloc | apply pw_below_drewN | apply below_drew1) | exact HB.out)) hb); clear HB; have HB := n0_; clear n0_; have BK := Aside0.mk (token_Expire_kept hb (heap_alloc_new w _)); clear hb)
    | (go_at_call 27; (with_reducible refine (api_Held_27_own _ _ l0 _ ?side1 HC0.out (by omega)).mono ?_); (case side1 => repeat (first | exact (Kd.C_below HR0.out HB.out) | exact HR0.out | (with_reducible refine Kd.C_alloc ?_ _) | (with_reducible refine Kd.C_drewN ?_ _) | (with_reducible refine Kd.C_drew ?_))); rintro e w2 ⟨vc, rfl, hown0, hb⟩; have hsz2 := HB.out.size; have hown1 := RowK.ownsRow_low hown0 hsz2; have hown := Aside0.mk hown1; have hown2 := Aside0.mk hown0; clear hown0 hown1 hsz2; have n0_ := Aside0.mk (below_step (by repeat (first | (with_reducible first | exact HB.out | apply below_alloc | apply pw_below_drewN | apply below_drew1) | exact HB.out)) hb); clear HB; have HB := n0_; clear n0_; have bk_ := Aside0.mk (token_Expire_kept hb BK.out); have bl_ := Aside0.mk BK.out; (try clear BK); have BK := bk_; have BL := bl_; clear hb bk_ bl_)
    | (go_at_call 29; refine (api_Held_29_own w.heap.size _ w.heap.size a1 l0 _ hown.out (by omega) HB.out.size ((cell_of_row _ w.heap.size 0 _ _ _ BK.out).trans rfl) (fun e => by have h1 := (hown2.out.lt w.heap.size e).1; have h2 := (Array.getElem?_eq_some_iff.1 BL.out).1; omega)).mono ?_; rw [hm]; rintro e w3 ⟨va, vcap, rfl, h3, h4⟩; have hown3 := Aside0.mk h3; have n0_ := Aside0.mk (HB.out.trans h4); clear HB h3 h4; have HB := n0_; clear n0_))
  go_ret2
  exact ⟨_, rfl, hown3.out, HB.out⟩
set_option maxRecDepth 100000 in
set_option maxHeartbeats 4000000 in
theorem token_Expire_no (k : Nat) (A0 : Option Addr) (c0 : Nat) (l0 : List (S31)) (a1 : Int) (w : World) (hr0 : Kd.C k31 w A0 l0.length l0) (hc0 : l0.length ≤ c0)
    (hri : token_right.f k l0 = some false) :
    Calls Tryd.prog 14 #[.slice A0 l0.length c0, .int .i64 a1] w fun e w' => e = .returned (.tuple #[.slice none 0 0, .int .i64 0]) ∧ Below w.heap.size w w' := by
  have HR0 := Aside0.mk hr0
  have HC0 := Aside0.mk hc0
  have HRI := Aside0.mk hri
  clear hr0 hc0 hri
  have HB := Aside0.mk (Below.refl w.heap.size w)
  go_enter Tryd.func14, Tryd.ntmps14
  go_wp2_with (go_at_call 21; (with_reducible refine (token_right.calls k _ _ l0 false _ ?side1 HC0.out HRI.out).mono ?_); (case side1 => repeat (first | exact HR0.out | (with_reducible refine Kd.C_alloc ?_ _) | (with_reducible refine Kd.C_drewN ?_ _) | (with_reducible refine Kd.C_drew ?_))); rintro e w1 ⟨rfl, hb⟩; have n0_ := Aside0.mk (below_step (by repeat (first | (with_reducible first | exact HB.out | apply below_alloc | apply pw_below_drewN | apply below_drew1) | exact HB.out)) hb); clear HB; have HB := n0_; clear n0_)
  go_ret2
  exact ⟨rfl, HB.out⟩
theorem token_Expire.calls (k : Nat) (A0 : Option Addr) (c0 : Nat) (l0 : List (S31)) (a1 : Int) (r1 : List (S31)) (r2 : Int) (w : World) (hr0 : Kd.C k31 w A0 l0.length l0) (hc0 : l0.length ≤ c0) (h : token_Expire.f k l0 a1 = some (r1, r2)) :
    Calls Tryd.prog 14 #[.slice A0 l0.length c0, .int .i64 a1] w fun e w' => ∃ v0_ : Value, e = .returned (.tuple #[v0_, .int .i64 r2]) ∧ Kd.R k31 31 w' w.heap.size (fun _ => True) v0_ r1 ∧ Below w.heap.size w w' := by
  unfold token_Expire.f at h
  obtain ⟨t, hri, h⟩ := Option.bind_eq_some_iff.mp h
  cases t with
  | false =>
    rw [if_neg (by simp)] at h; cases h
    exact (token_Expire_no k A0 c0 l0 a1 w hr0 hc0 hri).mono fun e w' ⟨h1, h2⟩ => ⟨_, h1, Kd.R_nil _ _ _ _ _, h2⟩
  | true =>
    rw [if_pos rfl, token_Expire_cut] at h
    split at h
    · rename_i hl
      cases h
      exact (token_Expire_ok k A0 c0 l0 a1 w hr0 hc0 hri hl).mono fun e w' ⟨v, h1, h2, h3⟩ => ⟨v, h1, api_Held_27_row h2, h3⟩
    · cases h

end Go.Proofs.YtekfemiomdpahaaDoor.Hk
