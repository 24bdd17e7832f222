/- Merged of several texts of this session's by merge.py. -/
import Derived.Test.YtdidopoalmkhlaaDoorMr3
import Derived.Test.YtdidopoalmkhlaaDoorMr2
import Derived.Lib.Hide
import Derived.IntWalk
import Derived.Deep.QuietTactic
import Derived.BigQuiet
import Derived.OwnWalk
section
namespace Go.Proofs.YtdidopoalmkhlaaDoor.Or
open Go.RowKit Go.Proofs.YtdidopoalmkhlaaDoorW.PrintWords Go.Proofs.YtdidopoalmkhlaaDoorW.PrintLast Go.Proofs.YtdidopoalmkhlaaDoorW.PrintMore
attribute [local go_sem] max2_int min2_int max_two min_two max_three min_three max_four min_four
set_option linter.unusedVariables false
set_option linter.unusedSimpArgs false
def names_Token.l0 : Nat → ByteArray → Int → Int → Option (Bool)
 | 0, _, _, _ => none
 | k + 1, x0, x5, x6 => if x6 < x5 then (if 0 ≤ x6 then (if x6 < (x0.size : Int) then (if (bt x0 x6) < 33 then (some false) else (if (bt x0 x6) > 126 then (some false) else (names_Token.l0 k x0 x5 (wrap64 (x6 + 1))))) else (none)) else (none)) else (if x0.toList = ([] : List UInt8) then (some false) else (some (decide ((x0.size : Int) ≤ 64))))
def names_Token.f (k : Nat) (a0 : ByteArray) : Option (Bool) := names_Token.l0 k a0 (a0.size : Int) 0
theorem names_Token.mono_l : ∀ k, (∀ y0 y1 y2, LeO (names_Token.l0 k y0 y1 y2) (names_Token.l0 (k + 1) y0 y1 y2))
 | 0 => fun _ _ _ r h => by simp [names_Token.l0] at h
 | k + 1 => by
  have ih0 := names_Token.mono_l k
  ·
   intro y0 y1 y2
   unfold names_Token.l0
   repeat' (with_reducible first | exact ih0 _ _ _ | exact LeO.refl _ | exact LeO.none _ | refine LeO.ite ?_ ?_ | refine LeO.bind ?_ (fun _ => ?_))
theorem names_Token.mono : ∀ a0 k, LeO (names_Token.f k a0) (names_Token.f (k + 1) a0) := by
 intro a0 k
 have ih0 := names_Token.mono_l k
 unfold names_Token.f
 repeat' (with_reducible first | exact ih0 _ _ _ | exact LeO.refl _ | exact LeO.none _ | refine LeO.ite ?_ ?_ | refine LeO.bind ?_ (fun _ => ?_))
set_option maxHeartbeats 8000000 in
set_option maxRecDepth 100000 in
theorem names_Token.calls (k : Nat) (a0 : ByteArray) (r : Bool) (w : World) (h : names_Token.f k a0 = some r) :
  Calls Tryd.prog 33 #[.string a0] w fun e w' => e = .returned (.bool r) ∧ Drawn0 w w' := by
 have H := h
 clear h
 unfold names_Token.f at H
 have H' := am H
 clear H
 go_enter Tryd.func33, Tryd.ntmps33
 go_wp2
 go_loopg [6] k (fun kq v6 w' => ∃ (x6_1 : Int), v6 = .int .i64 x6_1 ∧ Aside0 (names_Token.l0 kq a0 (a0.size : Int) x6_1 = some r) ∧ Aside0 (kq ≤ k) ∧ Drawn0 w w')
 case atStart => exact ⟨(0), rs, H', ⟨Nat.le_refl _⟩, by repeat (first | exact Drawn0.refl _ | apply Drawn0.step)⟩
 case round =>
  clear H'
  obtain ⟨x6_1, rfl, HA, HK1, ⟨m1, rfl⟩⟩ := hrel
  cases gk with
  | zero => exact absurd HA.out (by simp [names_Token.l0])
  | succ k1 =>
   have H := HA.out
   clear HA
   simp only [names_Token.l0] at H
   replace H := iteD H
   rcases H with ⟨c2b0, H⟩ | ⟨c2b0, H⟩
   ·
    replace H := iteD H
    rcases H with ⟨c3b0, H⟩ | ⟨_, H⟩
    ·
     replace H := iteD H
     rcases H with ⟨c4b0, H⟩ | ⟨_, H⟩
     ·
      replace H := iteD H
      rcases H with ⟨c6b0, H⟩ | ⟨c6b0, H⟩
      ·
       obtain rfl := Option.some.inj H
       have p5 := pz x6_1
       have q5 := pl x6_1 (a0.size : Int)
       have hx5 := bt_at a0 x6_1
       go_wp2
       go_ret
       exact ⟨by first | rfl | (simp; done) | (simp [*]; done), by repeat (first | exact Drawn0.refl _ | apply Drawn0.step)⟩
      ·
       replace H := iteD H
       rcases H with ⟨c8b0, H⟩ | ⟨c8b0, H⟩
       ·
        obtain rfl := Option.some.inj H
        have p5 := pz x6_1
        have q5 := pl x6_1 (a0.size : Int)
        have hx5 := bt_at a0 x6_1
        have p7 := pz x6_1
        have q7 := pl x6_1 (a0.size : Int)
        have hx7 := bt_at a0 x6_1
        go_wp2
        go_ret
        exact ⟨by first | rfl | (simp; done) | (simp [*]; done), by repeat (first | exact Drawn0.refl _ | apply Drawn0.step)⟩
       ·
        have H' := am H
        clear H
        have p5 := pz x6_1
        have q5 := pl x6_1 (a0.size : Int)
        have hx5 := bt_at a0 x6_1
        have p7 := pz x6_1
        have q7 := pl x6_1 (a0.size : Int)
        have hx7 := bt_at a0 x6_1
        go_wp2
        go_roundg k1
        case measure => have := HK1.out; omega
        case rel => exact ⟨(wrap64 (x6_1 + 1)), rs, H', ⟨by have := HK1.out; omega⟩, by repeat (first | exact Drawn0.refl _ | apply Drawn0.step)⟩
     ·
      exact absurd H (by simp)
    ·
     exact absurd H (by simp)
   ·
    by_cases c9 : a0.toList = ([] : List UInt8)
    ·
     rw [if_pos c9] at H
     have c9b0 := beq_iff_eq.mpr c9
     have c9b1 := bne_eq_false_iff_eq.mpr c9
     clear c9
     obtain rfl := Option.some.inj H
     go_wp2
     go_ret
     exact ⟨by first | rfl | (simp; done) | (simp [*]; done), by repeat (first | exact Drawn0.refl _ | apply Drawn0.step)⟩
    ·
     rw [if_neg c9] at H
     have c9b0 := beq_eq_false_iff_ne.mpr c9
     have c9b1 := bne_iff_ne.mpr c9
     obtain rfl := Option.some.inj H
     go_wp2
     go_ret
     exact ⟨by first | rfl | (simp; done) | (simp [*]; done), by repeat (first | exact Drawn0.refl _ | apply Drawn0.step)⟩
def chain_digits.l0 : Nat → ByteArray → Int → Int → Option (Bool)
 | 0, _, _, _ => none
 | k + 1, x0, x5, x6 => if x6 < x5 then (if 0 ≤ x6 then (if x6 < (x0.size : Int) then (if (bt x0 x6) < 48 then (if (bt x0 x6) < 97 then (some false) else (if (bt x0 x6) > 102 then (some false) else (chain_digits.l0 k x0 x5 (wrap64 (x6 + 1))))) else (if (bt x0 x6) > 57 then (if (bt x0 x6) < 97 then (some false) else (if (bt x0 x6) > 102 then (some false) else (chain_digits.l0 k x0 x5 (wrap64 (x6 + 1))))) else (chain_digits.l0 k x0 x5 (wrap64 (x6 + 1))))) else (none)) else (none)) else (some ((x0.size : Int) == 64))
def chain_digits.f (k : Nat) (a0 : ByteArray) : Option (Bool) := chain_digits.l0 k a0 (a0.size : Int) 0
theorem chain_digits.mono_l : ∀ k, (∀ y0 y1 y2, LeO (chain_digits.l0 k y0 y1 y2) (chain_digits.l0 (k + 1) y0 y1 y2))
 | 0 => fun _ _ _ r h => by simp [chain_digits.l0] at h
 | k + 1 => by
  have ih0 := chain_digits.mono_l k
  ·
   intro y0 y1 y2
   unfold chain_digits.l0
   repeat' (with_reducible first | exact ih0 _ _ _ | exact LeO.refl _ | exact LeO.none _ | refine LeO.ite ?_ ?_ | refine LeO.bind ?_ (fun _ => ?_))
theorem chain_digits.mono : ∀ a0 k, LeO (chain_digits.f k a0) (chain_digits.f (k + 1) a0) := by
 intro a0 k
 have ih0 := chain_digits.mono_l k
 unfold chain_digits.f
 repeat' (with_reducible first | exact ih0 _ _ _ | exact LeO.refl _ | exact LeO.none _ | refine LeO.ite ?_ ?_ | refine LeO.bind ?_ (fun _ => ?_))
set_option maxHeartbeats 8000000 in
set_option maxRecDepth 100000 in
theorem chain_digits.calls (k : Nat) (a0 : ByteArray) (r : Bool) (w : World) (h : chain_digits.f k a0 = some r) :
  Calls Tryd.prog 72 #[.string a0] w fun e w' => e = .returned (.bool r) ∧ Drawn0 w w' := by
 have H := h
 clear h
 unfold chain_digits.f at H
 have H' := am H
 clear H
 go_enter Tryd.func72, Tryd.ntmps72
 go_wp2
 go_loopg [6] k (fun kq v6 w' => ∃ (x6_1 : Int), v6 = .int .i64 x6_1 ∧ Aside0 (chain_digits.l0 kq a0 (a0.size : Int) x6_1 = some r) ∧ Aside0 (kq ≤ k) ∧ Drawn0 w w')
 case atStart => exact ⟨(0), rs, H', ⟨Nat.le_refl _⟩, by repeat (first | exact Drawn0.refl _ | apply Drawn0.step)⟩
 case round =>
  clear H'
  obtain ⟨x6_1, rfl, HA, HK1, ⟨m1, rfl⟩⟩ := hrel
  cases gk with
  | zero => exact absurd HA.out (by simp [chain_digits.l0])
  | succ k1 =>
   have H := HA.out
   clear HA
   simp only [chain_digits.l0] at H
   replace H := iteD H
   rcases H with ⟨c2b0, H⟩ | ⟨c2b0, H⟩
   ·
    replace H := iteD H
    rcases H with ⟨c3b0, H⟩ | ⟨_, H⟩
    ·
     replace H := iteD H
     rcases H with ⟨c4b0, H⟩ | ⟨_, H⟩
     ·
      replace H := iteD H
      rcases H with ⟨c6b0, H⟩ | ⟨c6b0, H⟩
      ·
       replace H := iteD H
       rcases H with ⟨c8b0, H⟩ | ⟨c8b0, H⟩
       ·
        obtain rfl := Option.some.inj H
        have p5 := pz x6_1
        have q5 := pl x6_1 (a0.size : Int)
        have hx5 := bt_at a0 x6_1
        have p7 := pz x6_1
        have q7 := pl x6_1 (a0.size : Int)
        have hx7 := bt_at a0 x6_1
        go_wp2
        go_ret
        exact ⟨by first | rfl | (simp; done) | (simp [*]; done), by repeat (first | exact Drawn0.refl _ | apply Drawn0.step)⟩
       ·
        replace H := iteD H
        rcases H with ⟨c10b0, H⟩ | ⟨c10b0, H⟩
        ·
         obtain rfl := Option.some.inj H
         have p5 := pz x6_1
         have q5 := pl x6_1 (a0.size : Int)
         have hx5 := bt_at a0 x6_1
         have p7 := pz x6_1
         have q7 := pl x6_1 (a0.size : Int)
         have hx7 := bt_at a0 x6_1
         have p9 := pz x6_1
         have q9 := pl x6_1 (a0.size : Int)
         have hx9 := bt_at a0 x6_1
         go_wp2
         go_ret
         exact ⟨by first | rfl | (simp; done) | (simp [*]; done), by repeat (first | exact Drawn0.refl _ | apply Drawn0.step)⟩
        ·
         have H' := am H
         clear H
         have p5 := pz x6_1
         have q5 := pl x6_1 (a0.size : Int)
         have hx5 := bt_at a0 x6_1
         have p7 := pz x6_1
         have q7 := pl x6_1 (a0.size : Int)
         have hx7 := bt_at a0 x6_1
         have p9 := pz x6_1
         have q9 := pl x6_1 (a0.size : Int)
         have hx9 := bt_at a0 x6_1
         go_wp2
         go_roundg k1
         case measure => have := HK1.out; omega
         case rel => exact ⟨(wrap64 (x6_1 + 1)), rs, H', ⟨by have := HK1.out; omega⟩, by repeat (first | exact Drawn0.refl _ | apply Drawn0.step)⟩
      ·
       replace H := iteD H
       rcases H with ⟨c12b0, H⟩ | ⟨c12b0, H⟩
       ·
        replace H := iteD H
        rcases H with ⟨c14b0, H⟩ | ⟨c14b0, H⟩
        ·
         obtain rfl := Option.some.inj H
         have p5 := pz x6_1
         have q5 := pl x6_1 (a0.size : Int)
         have hx5 := bt_at a0 x6_1
         have p11 := pz x6_1
         have q11 := pl x6_1 (a0.size : Int)
         have hx11 := bt_at a0 x6_1
         have p13 := pz x6_1
         have q13 := pl x6_1 (a0.size : Int)
         have hx13 := bt_at a0 x6_1
         go_wp2
         go_ret
         exact ⟨by first | rfl | (simp; done) | (simp [*]; done), by repeat (first | exact Drawn0.refl _ | apply Drawn0.step)⟩
        ·
         replace H := iteD H
         rcases H with ⟨c16b0, H⟩ | ⟨c16b0, H⟩
         ·
          obtain rfl := Option.some.inj H
          have p5 := pz x6_1
          have q5 := pl x6_1 (a0.size : Int)
          have hx5 := bt_at a0 x6_1
          have p11 := pz x6_1
          have q11 := pl x6_1 (a0.size : Int)
          have hx11 := bt_at a0 x6_1
          have p13 := pz x6_1
          have q13 := pl x6_1 (a0.size : Int)
          have hx13 := bt_at a0 x6_1
          have p15 := pz x6_1
          have q15 := pl x6_1 (a0.size : Int)
          have hx15 := bt_at a0 x6_1
          go_wp2
          go_ret
          exact ⟨by first | rfl | (simp; done) | (simp [*]; done), by repeat (first | exact Drawn0.refl _ | apply Drawn0.step)⟩
         ·
          have H' := am H
          clear H
          have p5 := pz x6_1
          have q5 := pl x6_1 (a0.size : Int)
          have hx5 := bt_at a0 x6_1
          have p11 := pz x6_1
          have q11 := pl x6_1 (a0.size : Int)
          have hx11 := bt_at a0 x6_1
          have p13 := pz x6_1
          have q13 := pl x6_1 (a0.size : Int)
          have hx13 := bt_at a0 x6_1
          have p15 := pz x6_1
          have q15 := pl x6_1 (a0.size : Int)
          have hx15 := bt_at a0 x6_1
          go_wp2
          go_roundg k1
          case measure => have := HK1.out; omega
          case rel => exact ⟨(wrap64 (x6_1 + 1)), rs, H', ⟨by have := HK1.out; omega⟩, by repeat (first | exact Drawn0.refl _ | apply Drawn0.step)⟩
       ·
        have H' := am H
        clear H
        have p5 := pz x6_1
        have q5 := pl x6_1 (a0.size : Int)
        have hx5 := bt_at a0 x6_1
        have p11 := pz x6_1
        have q11 := pl x6_1 (a0.size : Int)
        have hx11 := bt_at a0 x6_1
        go_wp2
        go_roundg k1
        case measure => have := HK1.out; omega
        case rel => exact ⟨(wrap64 (x6_1 + 1)), rs, H', ⟨by have := HK1.out; omega⟩, by repeat (first | exact Drawn0.refl _ | apply Drawn0.step)⟩
     ·
      exact absurd H (by simp)
    ·
     exact absurd H (by simp)
   ·
    obtain rfl := Option.some.inj H
    go_wp2
    go_ret
    exact ⟨by first | rfl | (simp; done) | (simp [*]; done), by repeat (first | exact Drawn0.refl _ | apply Drawn0.step)⟩
def chain_Pieces.l0 : Nat → Int → List (S82) → Int → Int → Option (Int × Int)
 | 0, _, _, _, _ => none
 | k + 1, x4, x10, x11, x12 => if x12 < x11 then (if 0 ≤ x12 then (if x12 < (x10.length : Int) then ((chain_digits.f k ((rd_T82 x10 x12).f0)).bind fun t124 => (if t124 = true then (if ((rd_T82 x10 x12).f1) < 1 then (some (0, 1)) else (if ((rd_T82 x10 x12).f1) > 4096 then (some (0, 1)) else (chain_Pieces.l0 k (wrap64 (x4 + ((rd_T82 x10 x12).f1))) x10 x11 (wrap64 (x12 + 1))))) else (some (0, 1)))) else (none)) else (none)) else (some (x4, 0))
def chain_Pieces.f (k : Nat) (l0 : List (S82)) : Option (Int × Int) := if (l0.length : Int) > 512 then (some (0, 1)) else (chain_Pieces.l0 k 0 l0 (l0.length : Int) 0)
theorem chain_Pieces.mono_l : ∀ k, (∀ y0 y1 y2 y3, LeO (chain_Pieces.l0 k y0 y1 y2 y3) (chain_Pieces.l0 (k + 1) y0 y1 y2 y3))
 | 0 => fun _ _ _ _ r h => by simp [chain_Pieces.l0] at h
 | k + 1 => by
  have ih0 := chain_Pieces.mono_l k
  ·
   intro y0 y1 y2 y3
   unfold chain_Pieces.l0
   repeat' (with_reducible first | exact ih0 _ _ _ _ | exact chain_digits.mono _ _ | exact LeO.refl _ | exact LeO.none _ | refine LeO.ite ?_ ?_ | refine LeO.bind ?_ (fun _ => ?_))
theorem chain_Pieces.mono : ∀ a0 k, LeO (chain_Pieces.f k a0) (chain_Pieces.f (k + 1) a0) := by
 intro a0 k
 have ih0 := chain_Pieces.mono_l k
 unfold chain_Pieces.f
 repeat' (with_reducible first | exact ih0 _ _ _ _ | exact chain_digits.mono _ _ | exact LeO.refl _ | exact LeO.none _ | refine LeO.ite ?_ ?_ | refine LeO.bind ?_ (fun _ => ?_))
set_option maxHeartbeats 8000000 in
set_option maxRecDepth 100000 in
theorem chain_Pieces.calls (k : Nat) (A0 : Option Addr) (c0 : Nat) (l0 : List (S82)) (r1 : Int) (r2 : Int) (w : World) (hr0 : Kd.C k82 w A0 l0.length l0) (hc0 : l0.length ≤ c0) (h : chain_Pieces.f k l0 = some (r1, r2)) :
  Calls Tryd.prog 34 #[.slice A0 l0.length c0] w fun e w' => e = .returned (.tuple #[.int .i64 r1, .int .i64 r2]) ∧ Below w.heap.size w w' := by
 have hu82 := Tryd.underlying82
 have HR0 := am hr0
 have HC0 := am hc0
 clear hr0 hc0
 have HB := am (Below.refl w.heap.size w)
 have H := h
 clear h
 unfold chain_Pieces.f at H
 by_cases c2 : (l0.length : Int) > 512
 ·
  rw [if_pos c2] at H
  have c2b0 := decide_eq_true c2
  have c2b1 : decide (512 < l0.length) = true := decide_eq_true (by omega)
  clear c2
  simp only [Option.some.injEq, Prod.mk.injEq] at H
  obtain ⟨rfl, rfl⟩ := H
  go_enter Tryd.func34, Tryd.ntmps34
  go_wp2
  go_ret2
  exact ⟨rf, bw HB.out⟩
 ·
  rw [if_neg c2] at H
  have c2b0 := decide_eq_false c2
  have c2b1 : decide (512 < l0.length) = false := decide_eq_false (by omega)
  clear c2
  have H' := am H
  clear H
  go_enter Tryd.func34, Tryd.ntmps34
  go_wp2
  go_loopg [4, 12] k (fun kq v4 v12 w' => ∃ (x4_1 : Int) (x12_1 : Int), v4 = .int .i64 x4_1 ∧ v12 = .int .i64 x12_1 ∧ Aside0 (chain_Pieces.l0 kq x4_1 l0 (l0.length : Int) x12_1 = some (r1, r2)) ∧ Aside0 (kq ≤ k) ∧ Aside0 (Below w.heap.size w w'))
  case atStart => exact ⟨(0), (0), rs, rs, H', ⟨Nat.le_refl _⟩, ⟨bw HB.out⟩⟩
  case round =>
   clear H'
   try clear c2
   try clear c2b0
   try clear c2b1
   obtain ⟨x4_1, x12_1, rfl, rfl, HA, HK1, HB⟩ := hrel
   cases gk with
   | zero => exact absurd HA.out (by simp [chain_Pieces.l0])
   | succ k1 =>
    have H := HA.out
    clear HA
    simp only [chain_Pieces.l0] at H
    replace H := iteD H
    rcases H with ⟨c3b0, H⟩ | ⟨c3b0, H⟩
    ·
     replace H := iteD H
     rcases H with ⟨c4b0, H⟩ | ⟨_, H⟩
     ·
      replace H := iteD H
      rcases H with ⟨c5b0, H⟩ | ⟨_, H⟩
      ·
       replace H := obE H
       obtain ⟨t124, A6, H⟩ := H
       by_cases c7 : t124 = true
       ·
        subst c7
        rw [if_pos rfl] at H
        replace H := iteD H
        rcases H with ⟨c8b0, H⟩ | ⟨c8b0, H⟩
        ·
         simp only [Option.some.injEq, Prod.mk.injEq] at H
         obtain ⟨rfl, rfl⟩ := H
         have p122 := pz x12_1
         have q122 := pl x12_1 (l0.length : Int)
         obtain ⟨ad122, e122, hx122_0, hx122_1⟩ := at_T82 HR0.out x12_1 (of_eq_true p122) (of_eq_true q122)
         cases e122
         replace hx122_0 := bc HB.out hx122_0
         replace hx122_1 := bc HB.out hx122_1
         go_wp2_with (first | ((with_reducible refine gate_dst (N := 6) rfl ?_); refine bx 6 #[.string (⟨#[]⟩ : ByteArray), .int .i64 0] 82 ?_; intro gb123 hg w9 hbox hb; have BK123 := am (hbox); have GW123 := gsz hg HB.out; have GE123 := gsz hg HB.out; replace HB := am (below_step (bw HB.out) hb); clear hb hbox hg; obtain ⟨hcz10_0, hcz10_1, hfz10_0, hfz10_1⟩ := cz2 BK123.out) | ((with_reducible refine gate_callee (f := 72) rfl ?_); refine goesL_ (some 18) rfl rfl Tryd.func72 (by kernel_rfl) rfl #[.string ((rd_T82 l0 x12_1).f0)] rfl gl ?_; (with_reducible refine (chain_digits.calls k1 ((rd_T82 l0 x12_1).f0) true _ A6.out).mono ?_); rintro e w' ⟨rfl, ⟨nd, rfl⟩⟩; refine ⟨_, rfl, ?_⟩))
         go_ret2
         exact ⟨rf, bws HB.out⟩
        ·
         replace H := iteD H
         rcases H with ⟨c11b0, H⟩ | ⟨c11b0, H⟩
         ·
          simp only [Option.some.injEq, Prod.mk.injEq] at H
          obtain ⟨rfl, rfl⟩ := H
          have p122 := pz x12_1
          have q122 := pl x12_1 (l0.length : Int)
          obtain ⟨ad122, e122, hx122_0, hx122_1⟩ := at_T82 HR0.out x12_1 (of_eq_true p122) (of_eq_true q122)
          cases e122
          replace hx122_0 := bc HB.out hx122_0
          replace hx122_1 := bc HB.out hx122_1
          go_wp2_with (first | ((with_reducible refine gate_dst (N := 6) rfl ?_); refine bx 6 #[.string (⟨#[]⟩ : ByteArray), .int .i64 0] 82 ?_; intro gb123 hg w12 hbox hb; have BK123 := am (hbox); have GW123 := gsz hg HB.out; have GE123 := gsz hg HB.out; replace HB := am (below_step (bw HB.out) hb); clear hb hbox hg; obtain ⟨hcz13_0, hcz13_1, hfz13_0, hfz13_1⟩ := cz2 BK123.out) | ((with_reducible refine gate_callee (f := 72) rfl ?_); refine goesL_ (some 18) rfl rfl Tryd.func72 (by kernel_rfl) rfl #[.string ((rd_T82 l0 x12_1).f0)] rfl gl ?_; (with_reducible refine (chain_digits.calls k1 ((rd_T82 l0 x12_1).f0) true _ A6.out).mono ?_); rintro e w' ⟨rfl, ⟨nd, rfl⟩⟩; refine ⟨_, rfl, ?_⟩))
          go_ret2
          exact ⟨rf, bws HB.out⟩
         ·
          have H' := am H
          clear H
          have p122 := pz x12_1
          have q122 := pl x12_1 (l0.length : Int)
          obtain ⟨ad122, e122, hx122_0, hx122_1⟩ := at_T82 HR0.out x12_1 (of_eq_true p122) (of_eq_true q122)
          cases e122
          replace hx122_0 := bc HB.out hx122_0
          replace hx122_1 := bc HB.out hx122_1
          go_wp2_with (first | ((with_reducible refine gate_dst (N := 6) rfl ?_); refine bx 6 #[.string (⟨#[]⟩ : ByteArray), .int .i64 0] 82 ?_; intro gb123 hg w14 hbox hb; have BK123 := am (hbox); have GW123 := gsz hg HB.out; have GE123 := gsz hg HB.out; replace HB := am (below_step (bw HB.out) hb); clear hb hbox hg; obtain ⟨hcz15_0, hcz15_1, hfz15_0, hfz15_1⟩ := cz2 BK123.out) | ((with_reducible refine gate_callee (f := 72) rfl ?_); refine goesL_ (some 18) rfl rfl Tryd.func72 (by kernel_rfl) rfl #[.string ((rd_T82 l0 x12_1).f0)] rfl gl ?_; (with_reducible refine (chain_digits.calls k1 ((rd_T82 l0 x12_1).f0) true _ A6.out).mono ?_); rintro e w' ⟨rfl, ⟨nd, rfl⟩⟩; refine ⟨_, rfl, ?_⟩))
          go_roundg k1
          case measure => have := HK1.out; omega
          case rel => exact ⟨(wrap64 (x4_1 + ((rd_T82 l0 x12_1).f1))), (wrap64 (x12_1 + 1)), rs, rs, H', ⟨by have := HK1.out; omega⟩, ⟨bws HB.out⟩⟩
       ·
        replace c7 := Bool.eq_false_iff.mpr c7
        subst c7
        rw [if_neg (show ¬ (false = true) by decide)] at H
        simp only [Option.some.injEq, Prod.mk.injEq] at H
        obtain ⟨rfl, rfl⟩ := H
        have p122 := pz x12_1
        have q122 := pl x12_1 (l0.length : Int)
        obtain ⟨ad122, e122, hx122_0, hx122_1⟩ := at_T82 HR0.out x12_1 (of_eq_true p122) (of_eq_true q122)
        cases e122
        replace hx122_0 := bc HB.out hx122_0
        replace hx122_1 := bc HB.out hx122_1
        go_wp2_with (first | ((with_reducible refine gate_dst (N := 6) rfl ?_); refine bx 6 #[.string (⟨#[]⟩ : ByteArray), .int .i64 0] 82 ?_; intro gb123 hg w16 hbox hb; have BK123 := am (hbox); have GW123 := gsz hg HB.out; have GE123 := gsz hg HB.out; replace HB := am (below_step (bw HB.out) hb); clear hb hbox hg; obtain ⟨hcz17_0, hcz17_1, hfz17_0, hfz17_1⟩ := cz2 BK123.out) | ((with_reducible refine gate_callee (f := 72) rfl ?_); refine goesL_ (some 18) rfl rfl Tryd.func72 (by kernel_rfl) rfl #[.string ((rd_T82 l0 x12_1).f0)] rfl gl ?_; (with_reducible refine (chain_digits.calls k1 ((rd_T82 l0 x12_1).f0) false _ A6.out).mono ?_); rintro e w' ⟨rfl, ⟨nd, rfl⟩⟩; refine ⟨_, rfl, ?_⟩))
        go_ret2
        exact ⟨rf, bws HB.out⟩
      ·
       exact absurd H (by simp)
     ·
      exact absurd H (by simp)
    ·
     simp only [Option.some.injEq, Prod.mk.injEq] at H
     obtain ⟨rfl, rfl⟩ := H
     go_wp2
     go_ret2
     exact ⟨rf, bw HB.out⟩
def names_plain.f (a0 : Int) : Option (Bool) := if a0 ≥ 97 then (if a0 ≤ 122 then (some true) else (if a0 ≥ 48 then (some (decide (a0 ≤ 57))) else (some false))) else (if a0 ≥ 48 then (some (decide (a0 ≤ 57))) else (some false))
set_option maxHeartbeats 8000000 in
set_option maxRecDepth 100000 in
theorem names_plain.calls (a0 : Int) (r : Bool) (w : World) (h : names_plain.f a0 = some r) :
  Calls Tryd.prog 73 #[.int .u8 a0] w fun e w' => e = .returned (.bool r) ∧ Drawn0 w w' := by
 have H := h
 clear h
 unfold names_plain.f at H
 replace H := iteD H
 rcases H with ⟨c2b0, H⟩ | ⟨c2b0, H⟩
 ·
  replace H := iteD H
  rcases H with ⟨c3b0, H⟩ | ⟨c3b0, H⟩
  ·
   obtain rfl := Option.some.inj H
   go_enter Tryd.func73, Tryd.ntmps73
   go_wp2
   go_ret
   exact ⟨by first | rfl | (simp; done) | (simp [*]; done), by repeat (first | exact Drawn0.refl _ | apply Drawn0.step)⟩
  ·
   replace H := iteD H
   rcases H with ⟨c4b0, H⟩ | ⟨c4b0, H⟩
   ·
    obtain rfl := Option.some.inj H
    go_enter Tryd.func73, Tryd.ntmps73
    go_wp2
    go_ret
    exact ⟨by first | rfl | (simp; done) | (simp [*]; done), by repeat (first | exact Drawn0.refl _ | apply Drawn0.step)⟩
   ·
    obtain rfl := Option.some.inj H
    go_enter Tryd.func73, Tryd.ntmps73
    go_wp2
    go_ret
    exact ⟨by first | rfl | (simp; done) | (simp [*]; done), by repeat (first | exact Drawn0.refl _ | apply Drawn0.step)⟩
 ·
  replace H := iteD H
  rcases H with ⟨c5b0, H⟩ | ⟨c5b0, H⟩
  ·
   obtain rfl := Option.some.inj H
   go_enter Tryd.func73, Tryd.ntmps73
   go_wp2
   go_ret
   exact ⟨by first | rfl | (simp; done) | (simp [*]; done), by repeat (first | exact Drawn0.refl _ | apply Drawn0.step)⟩
  ·
   obtain rfl := Option.some.inj H
   go_enter Tryd.func73, Tryd.ntmps73
   go_wp2
   go_ret
   exact ⟨by first | rfl | (simp; done) | (simp [*]; done), by repeat (first | exact Drawn0.refl _ | apply Drawn0.step)⟩
def strings_Contains.f (a0 : ByteArray) (a1 : ByteArray) : Option (Bool) := if a0.size < 4294967281 then some (Lib.contains a0.data.toList a1.data.toList) else none
theorem strings_Contains.calls (a0 : ByteArray) (a1 : ByteArray) (r : Bool) (w : World) (h : strings_Contains.f a0 a1 = some r) (hG : GG w) :
  Calls Tryd.prog 74 #[.string a0, .string a1] w fun e w' => e = .returned (.bool r) ∧ Drawn0 w w' := by
 unfold strings_Contains.f at h
 split at h
 ·
  rename_i hs
  cases h
  obtain ⟨_, m, hm⟩ := hG
  exact (Tryd.strings_Contains a0 a1 m w hs hm).mono fun e w' ⟨he, hw⟩ => ⟨he, hw ▸ Drawn0.refl w⟩
 ·
  cases h
mutual
def names_Bucket.j0 : Nat → ByteArray → Bool → Option (Bool)
 | 0, _, _ => none
 | k + 1, x0, x30 => if x30 = true then (some false) else (names_Bucket.l0 k x0 (x0.size : Int) 0)
def names_Bucket.l0 : Nat → ByteArray → Int → Int → Option (Bool)
 | 0, _, _, _ => none
 | k + 1, x0, x32, x33 => if x33 < x32 then (if 0 ≤ x33 then (if x33 < (x0.size : Int) then ((names_plain.f (bt x0 x33)).bind fun t128 => (if t128 = true then (names_Bucket.l0 k x0 x32 (wrap64 (x33 + 1))) else (if (bt x0 x33) = 46 then (names_Bucket.l0 k x0 x32 (wrap64 (x33 + 1))) else (if (bt x0 x33) = 45 then (names_Bucket.l0 k x0 x32 (wrap64 (x33 + 1))) else (some false))))) else (none)) else (none)) else (some true)
end
def names_Bucket.f (k : Nat) (a0 : ByteArray) : Option (Bool) := if (a0.size : Int) < 3 then (names_Bucket.j0 k a0 true) else (if (a0.size : Int) > 63 then (names_Bucket.j0 k a0 true) else (if 0 < (a0.size : Int) then ((names_plain.f (bt a0 0)).bind fun t125 => (if t125 = true then (if 0 ≤ (wrap64 ((a0.size : Int) - 1)) then (if (wrap64 ((a0.size : Int) - 1)) < (a0.size : Int) then ((names_plain.f (bt a0 (wrap64 ((a0.size : Int) - 1)))).bind fun t126 => (if t126 = true then ((strings_Contains.f a0 (⟨#[46, 46]⟩ : ByteArray)).bind fun t127 => (names_Bucket.j0 k a0 t127)) else (names_Bucket.j0 k a0 true))) else (none)) else (none)) else (names_Bucket.j0 k a0 true))) else (none)))
theorem names_Bucket.mono_l : ∀ k, (∀ y0 y1, LeO (names_Bucket.j0 k y0 y1) (names_Bucket.j0 (k + 1) y0 y1)) ∧ (∀ y0 y1 y2, LeO (names_Bucket.l0 k y0 y1 y2) (names_Bucket.l0 (k + 1) y0 y1 y2))
 | 0 => ⟨fun _ _ r h => by simp [names_Bucket.j0] at h, fun _ _ _ r h => by simp [names_Bucket.l0] at h⟩
 | k + 1 => by
  obtain ⟨ih0, ih1⟩ := names_Bucket.mono_l k
  refine ⟨?_, ?_⟩
  all_goals intros
  all_goals first | unfold names_Bucket.j0 | unfold names_Bucket.l0
  all_goals repeat' (with_reducible first | exact ih0 _ _ | exact ih1 _ _ _ | exact LeO.refl _ | exact LeO.none _ | refine LeO.ite ?_ ?_ | refine LeO.bind ?_ (fun _ => ?_))
theorem names_Bucket.mono : ∀ a0 k, LeO (names_Bucket.f k a0) (names_Bucket.f (k + 1) a0) := by
 intro a0 k
 obtain ⟨ih0, ih1⟩ := names_Bucket.mono_l k
 unfold names_Bucket.f
 repeat' (with_reducible first | exact ih0 _ _ | exact ih1 _ _ _ | exact LeO.refl _ | exact LeO.none _ | refine LeO.ite ?_ ?_ | refine LeO.bind ?_ (fun _ => ?_))
set_option maxHeartbeats 8000000 in
set_option maxRecDepth 100000 in
theorem names_Bucket.calls (k : Nat) (a0 : ByteArray) (r : Bool) (w : World) (h : names_Bucket.f k a0 = some r) (hG : GG w) :
  Calls Tryd.prog 35 #[.string a0] w fun e w' => e = .returned (.bool r) ∧ Drawn0 w w' := by
 have HG := am hG
 clear hG
 have H := h
 clear h
 unfold names_Bucket.f at H
 have HC2 := am H
 clear H
 go_enter Tryd.func35, Tryd.ntmps35
 go_upto_region 1 with (fail)
 go_cut [30] (fun v30 wc => ∃ (kq : Nat) (x30_1 : Bool), v30 = .bool x30_1 ∧ Aside0 (names_Bucket.j0 kq a0 x30_1 = some r) ∧ Aside0 (kq ≤ k) ∧ Drawn0 w wc)
 case first =>
  have H := HC2.out
  clear HC2
  by_cases c3 : (a0.size : Int) < 3
  ·
   rw [if_pos c3] at H
   have c3b0 := decide_eq_true c3
   have c3b1 : decide (a0.size < 3) = true := decide_eq_true (by omega)
   clear c3
   (first | rw [c3b0] | (simp only [i64_w, i32_w]; rw [c3b0]) | skip)
   have H' := am H
   clear H
   go_wp2
   go_meet
   case rel => exact ⟨_, (true), rs, H', ⟨om⟩, by repeat (first | exact Drawn0.refl _ | apply Drawn0.step)⟩
  ·
   rw [if_neg c3] at H
   have c3b0 := decide_eq_false c3
   have c3b1 : decide (a0.size < 3) = false := decide_eq_false (by omega)
   clear c3
   (first | rw [c3b0] | (simp only [i64_w, i32_w]; rw [c3b0]) | skip)
   by_cases c4 : (a0.size : Int) > 63
   ·
    rw [if_pos c4] at H
    have c4b0 := decide_eq_true c4
    have c4b1 : decide (63 < a0.size) = true := decide_eq_true (by omega)
    clear c4
    have H' := am H
    clear H
    go_wp2
    go_meet
    case rel => exact ⟨_, (true), rs, H', ⟨om⟩, by repeat (first | exact Drawn0.refl _ | apply Drawn0.step)⟩
   ·
    rw [if_neg c4] at H
    have c4b0 := decide_eq_false c4
    have c4b1 : decide (63 < a0.size) = false := decide_eq_false (by omega)
    clear c4
    by_cases c5 : 0 < (a0.size : Int)
    ·
     rw [if_pos c5] at H
     have c5b0 := decide_eq_true c5
     have c5b1 : decide (0 < a0.size) = true := decide_eq_true (by omega)
     clear c5
     replace H := obE H
     obtain ⟨t125, A7, H⟩ := H
     by_cases c8 : t125 = true
     ·
      subst c8
      rw [if_pos rfl] at H
      obtain ⟨ji9, hji9⟩ : ∃ j_ : Int, (wrap64 ((a0.size : Int) - 1)) = j_ := ⟨_, rfl⟩
      replace H : (if 0 ≤ (ji9) then (if (ji9) < (a0.size : Int) then ((names_plain.f (bt a0 (ji9))).bind fun t126 => (if t126 = true then ((strings_Contains.f a0 (⟨#[46, 46]⟩ : ByteArray)).bind fun t127 => (names_Bucket.j0 k a0 t127)) else (names_Bucket.j0 k a0 true))) else (none)) else (none)) = some r := by first | (rw [hji9] at H; exact H) | (simp only [hji9] at H ⊢; exact H)
      (try rw [hji9] at A7)
      have hji9w : (IntKind.i64.wrap ((a0.size : Int) - 1)) = ji9 := (i64_w _).trans hji9
      replace H := iteD H
      rcases H with ⟨c10b0, H⟩ | ⟨_, H⟩
      ·
       replace H := iteD H
       rcases H with ⟨c11b0, H⟩ | ⟨_, H⟩
       ·
        replace H := obE H
        obtain ⟨t126, A13, H⟩ := H
        by_cases c14 : t126 = true
        ·
         subst c14
         rw [if_pos rfl] at H
         replace H := obE H
         obtain ⟨t127, A15, H⟩ := H
         have H' := am H
         clear H
         have p6 : 0 ≤ (0 : Int) := (by omega)
         have q6 : 0 < a0.size := (by have : (0 : Int) < (a0.size : Int) := of_decide_eq_true asm; omega)
         have hx6 : ∀ h : 0 < a0.size, ((a0[0]'h).toNat : Int) = bt a0 0 := bt_at a0 0
         clear p6
         have qi6 : (0 < (a0.size : Int)) = True := eq_true (of_decide_eq_true asm)
         replace q6 := eq_true q6
         go_wp2_with (first | (go_at_call 73; (with_reducible refine (names_plain.calls (bt a0 0) true _ A7.out).mono ?_); rintro e w' ⟨rfl, ⟨nd, rfl⟩⟩; have p12 : 0 ≤ ((ji9) : Int) := of_decide_eq_true asm; have q12 : (ji9) < (a0.size : Int) := of_decide_eq_true asm; have hx12 := bt_at a0 (ji9); replace p12 := eq_true p12; replace q12 := eq_true q12; clear A7) | (go_at_call 73; (with_reducible refine (names_plain.calls (bt a0 (ji9)) true _ A13.out).mono ?_); rintro e w' ⟨rfl, ⟨nd, rfl⟩⟩; clear A13) | (go_at_call 74; (with_reducible refine (strings_Contains.calls a0 (⟨#[46, 46]⟩ : ByteArray) t127 _ A15.out ?sideG).mono ?_); (case sideG => first | exact HG.out | exact gg_below HG.out (bw HB.out)); rintro e w' ⟨rfl, ⟨nd, rfl⟩⟩))
         go_meet
         case rel => exact ⟨_, (t127), rs, H', ⟨om⟩, by repeat (first | exact Drawn0.refl _ | apply Drawn0.step)⟩
        ·
         replace c14 := Bool.eq_false_iff.mpr c14
         subst c14
         rw [if_neg (show ¬ (false = true) by decide)] at H
         have H' := am H
         clear H
         have p6 : 0 ≤ (0 : Int) := (by omega)
         have q6 : 0 < a0.size := (by have : (0 : Int) < (a0.size : Int) := of_decide_eq_true asm; omega)
         have hx6 : ∀ h : 0 < a0.size, ((a0[0]'h).toNat : Int) = bt a0 0 := bt_at a0 0
         clear p6
         have qi6 : (0 < (a0.size : Int)) = True := eq_true (of_decide_eq_true asm)
         replace q6 := eq_true q6
         go_wp2_with (first | (go_at_call 73; (with_reducible refine (names_plain.calls (bt a0 0) true _ A7.out).mono ?_); rintro e w' ⟨rfl, ⟨nd, rfl⟩⟩; have p12 : 0 ≤ ((ji9) : Int) := of_decide_eq_true asm; have q12 : (ji9) < (a0.size : Int) := of_decide_eq_true asm; have hx12 := bt_at a0 (ji9); replace p12 := eq_true p12; replace q12 := eq_true q12; clear A7) | (go_at_call 73; (with_reducible refine (names_plain.calls (bt a0 (ji9)) false _ A13.out).mono ?_); rintro e w' ⟨rfl, ⟨nd, rfl⟩⟩; clear A13))
         go_meet
         case rel => exact ⟨_, (true), rs, H', ⟨om⟩, by repeat (first | exact Drawn0.refl _ | apply Drawn0.step)⟩
       ·
        exact absurd H (by simp)
      ·
       exact absurd H (by simp)
     ·
      replace c8 := Bool.eq_false_iff.mpr c8
      subst c8
      rw [if_neg (show ¬ (false = true) by decide)] at H
      have H' := am H
      clear H
      have p6 : 0 ≤ (0 : Int) := (by omega)
      have q6 : 0 < a0.size := (by have : (0 : Int) < (a0.size : Int) := of_decide_eq_true asm; omega)
      have hx6 : ∀ h : 0 < a0.size, ((a0[0]'h).toNat : Int) = bt a0 0 := bt_at a0 0
      clear p6
      have qi6 : (0 < (a0.size : Int)) = True := eq_true (of_decide_eq_true asm)
      replace q6 := eq_true q6
      go_wp2_with (first | (go_at_call 73; (with_reducible refine (names_plain.calls (bt a0 0) false _ A7.out).mono ?_); rintro e w' ⟨rfl, ⟨nd, rfl⟩⟩))
      go_meet
      case rel => exact ⟨_, (true), rs, H', ⟨om⟩, by repeat (first | exact Drawn0.refl _ | apply Drawn0.step)⟩
    ·
     rw [if_neg c5] at H
     exact absurd H (by simp)
 case rest =>
  clear HC2
  obtain ⟨kq, x30_1, rfl, HA, HJ1, ⟨mc1, rfl⟩⟩ := hcut
  cases kq with
  | zero => exact absurd HA.out (by simp [names_Bucket.j0])
  | succ kj1 =>
   have H := HA.out
   clear HA
   simp only [names_Bucket.j0] at H
   by_cases c16 : x30_1 = true
   ·
    subst c16
    rw [if_pos rfl] at H
    obtain rfl := Option.some.inj H
    go_wp2
    go_ret
    exact ⟨by first | rfl | (simp; done) | (simp [*]; done), by repeat (first | exact Drawn0.refl _ | apply Drawn0.step)⟩
   ·
    replace c16 := Bool.eq_false_iff.mpr c16
    subst c16
    rw [if_neg (show ¬ (false = true) by decide)] at H
    have H' := am H
    clear H
    go_wp2
    go_loopg [33] kj1 (fun kq v33 w' => ∃ (x33_2 : Int), v33 = .int .i64 x33_2 ∧ Aside0 (names_Bucket.l0 kq a0 (a0.size : Int) x33_2 = some r) ∧ Aside0 (kq ≤ kj1) ∧ Drawn0 w w')
    case atStart => exact ⟨(0), rs, H', ⟨Nat.le_refl _⟩, by repeat (first | exact Drawn0.refl _ | apply Drawn0.step)⟩
    case round =>
     clear H'
     try clear c16
     obtain ⟨x33_2, rfl, HA, HK2, ⟨m2, rfl⟩⟩ := hrel
     cases gk with
     | zero => exact absurd HA.out (by simp [names_Bucket.l0])
     | succ k2 =>
      have H := HA.out
      clear HA
      simp only [names_Bucket.l0] at H
      replace H := iteD H
      rcases H with ⟨c17b0, H⟩ | ⟨c17b0, H⟩
      ·
       replace H := iteD H
       rcases H with ⟨c18b0, H⟩ | ⟨_, H⟩
       ·
        replace H := iteD H
        rcases H with ⟨c19b0, H⟩ | ⟨_, H⟩
        ·
         replace H := obE H
         obtain ⟨t128, A21, H⟩ := H
         by_cases c22 : t128 = true
         ·
          subst c22
          rw [if_pos rfl] at H
          have H' := am H
          clear H
          have p20 := pz x33_2
          have q20 := pl x33_2 (a0.size : Int)
          have hx20 := bt_at a0 x33_2
          go_wp2_with (first | ((with_reducible refine gate_callee (f := 73) rfl ?_); refine goesL_ (some 39) rfl rfl Tryd.func73 (by kernel_rfl) rfl #[.int .u8 (bt a0 x33_2)] rfl gl ?_; (with_reducible refine (names_plain.calls (bt a0 x33_2) true _ A21.out).mono ?_); rintro e w' ⟨rfl, ⟨nd, rfl⟩⟩; refine ⟨_, rfl, ?_⟩))
          go_roundg k2
          case measure => have := HJ1.out; have := HK2.out; omega
          case rel => exact ⟨(wrap64 (x33_2 + 1)), rs, H', ⟨by have := HJ1.out; have := HK2.out; omega⟩, by repeat (first | exact Drawn0.refl _ | apply Drawn0.step)⟩
         ·
          replace c22 := Bool.eq_false_iff.mpr c22
          subst c22
          rw [if_neg (show ¬ (false = true) by decide)] at H
          by_cases c24 : (bt a0 x33_2) = 46
          ·
           rw [if_pos c24] at H
           have c24b0 := beq_iff_eq.mpr c24
           have c24b1 := bne_eq_false_iff_eq.mpr c24
           clear c24
           have H' := am H
           clear H
           have p20 := pz x33_2
           have q20 := pl x33_2 (a0.size : Int)
           have hx20 := bt_at a0 x33_2
           go_wp2_with (first | ((with_reducible refine gate_callee (f := 73) rfl ?_); refine goesL_ (some 39) rfl rfl Tryd.func73 (by kernel_rfl) rfl #[.int .u8 (bt a0 x33_2)] rfl gl ?_; (with_reducible refine (names_plain.calls (bt a0 x33_2) false _ A21.out).mono ?_); rintro e w' ⟨rfl, ⟨nd, rfl⟩⟩; refine ⟨_, rfl, ?_⟩; have p23 : 0 ≤ (x33_2 : Int) := of_decide_eq_true asm; have q23 : x33_2 < (a0.size : Int) := of_decide_eq_true asm; have hx23 := bt_at a0 x33_2; replace p23 := eq_true p23; replace q23 := eq_true q23))
           go_roundg k2
           case measure => have := HJ1.out; have := HK2.out; omega
           case rel => exact ⟨(wrap64 (x33_2 + 1)), rs, H', ⟨by have := HJ1.out; have := HK2.out; omega⟩, by repeat (first | exact Drawn0.refl _ | apply Drawn0.step)⟩
          ·
           rw [if_neg c24] at H
           have c24b0 := beq_eq_false_iff_ne.mpr c24
           have c24b1 := bne_iff_ne.mpr c24
           by_cases c26 : (bt a0 x33_2) = 45
           ·
            rw [if_pos c26] at H
            have c26b0 := beq_iff_eq.mpr c26
            have c26b1 := bne_eq_false_iff_eq.mpr c26
            clear c26
            have H' := am H
            clear H
            have p20 := pz x33_2
            have q20 := pl x33_2 (a0.size : Int)
            have hx20 := bt_at a0 x33_2
            go_wp2_with (first | ((with_reducible refine gate_callee (f := 73) rfl ?_); refine goesL_ (some 39) rfl rfl Tryd.func73 (by kernel_rfl) rfl #[.int .u8 (bt a0 x33_2)] rfl gl ?_; (with_reducible refine (names_plain.calls (bt a0 x33_2) false _ A21.out).mono ?_); rintro e w' ⟨rfl, ⟨nd, rfl⟩⟩; refine ⟨_, rfl, ?_⟩; have p23 : 0 ≤ (x33_2 : Int) := of_decide_eq_true asm; have q23 : x33_2 < (a0.size : Int) := of_decide_eq_true asm; have hx23 := bt_at a0 x33_2; replace p23 := eq_true p23; replace q23 := eq_true q23; have p25 : 0 ≤ (x33_2 : Int) := of_decide_eq_true asm; have q25 : x33_2 < (a0.size : Int) := of_decide_eq_true asm; have hx25 := bt_at a0 x33_2; replace p25 := eq_true p25; replace q25 := eq_true q25))
            go_roundg k2
            case measure => have := HJ1.out; have := HK2.out; omega
            case rel => exact ⟨(wrap64 (x33_2 + 1)), rs, H', ⟨by have := HJ1.out; have := HK2.out; omega⟩, by repeat (first | exact Drawn0.refl _ | apply Drawn0.step)⟩
           ·
            rw [if_neg c26] at H
            have c26b0 := beq_eq_false_iff_ne.mpr c26
            have c26b1 := bne_iff_ne.mpr c26
            obtain rfl := Option.some.inj H
            have p20 := pz x33_2
            have q20 := pl x33_2 (a0.size : Int)
            have hx20 := bt_at a0 x33_2
            go_wp2_with (first | ((with_reducible refine gate_callee (f := 73) rfl ?_); refine goesL_ (some 39) rfl rfl Tryd.func73 (by kernel_rfl) rfl #[.int .u8 (bt a0 x33_2)] rfl gl ?_; (with_reducible refine (names_plain.calls (bt a0 x33_2) false _ A21.out).mono ?_); rintro e w' ⟨rfl, ⟨nd, rfl⟩⟩; refine ⟨_, rfl, ?_⟩; have p23 : 0 ≤ (x33_2 : Int) := of_decide_eq_true asm; have q23 : x33_2 < (a0.size : Int) := of_decide_eq_true asm; have hx23 := bt_at a0 x33_2; replace p23 := eq_true p23; replace q23 := eq_true q23; have p25 : 0 ≤ (x33_2 : Int) := of_decide_eq_true asm; have q25 : x33_2 < (a0.size : Int) := of_decide_eq_true asm; have hx25 := bt_at a0 x33_2; replace p25 := eq_true p25; replace q25 := eq_true q25))
            go_ret
            exact ⟨by first | rfl | (simp; done) | (simp [*]; done), by repeat (first | exact Drawn0.refl _ | apply Drawn0.step)⟩
        ·
         exact absurd H (by simp)
       ·
        exact absurd H (by simp)
      ·
       obtain rfl := Option.some.inj H
       go_wp2
       go_ret
       exact ⟨by first | rfl | (simp; done) | (simp [*]; done), by repeat (first | exact Drawn0.refl _ | apply Drawn0.step)⟩
def names_Key.f (a0 : ByteArray) : Option (Bool) := if a0.toList = ([] : List UInt8) then (some false) else (if (a0.size : Int) ≤ 1024 then ((strings_Contains.f a0 (⟨#[0]⟩ : ByteArray)).bind fun t129 => (some (!t129))) else (some false))
set_option maxHeartbeats 8000000 in
set_option maxRecDepth 100000 in
theorem names_Key.calls (a0 : ByteArray) (r : Bool) (w : World) (h : names_Key.f a0 = some r) (hG : GG w) :
  Calls Tryd.prog 36 #[.string a0] w fun e w' => e = .returned (.bool r) ∧ Drawn0 w w' := by
 have HG := am hG
 clear hG
 have H := h
 clear h
 unfold names_Key.f at H
 by_cases c2 : a0.toList = ([] : List UInt8)
 ·
  rw [if_pos c2] at H
  have c2b0 := beq_iff_eq.mpr c2
  have c2b1 := bne_eq_false_iff_eq.mpr c2
  clear c2
  obtain rfl := Option.some.inj H
  go_enter Tryd.func36, Tryd.ntmps36
  go_wp2
  go_ret
  exact ⟨by first | rfl | (simp; done) | (simp [*]; done), by repeat (first | exact Drawn0.refl _ | apply Drawn0.step)⟩
 ·
  rw [if_neg c2] at H
  have c2b0 := beq_eq_false_iff_ne.mpr c2
  have c2b1 := bne_iff_ne.mpr c2
  by_cases c3 : (a0.size : Int) ≤ 1024
  ·
   rw [if_pos c3] at H
   have c3b0 := decide_eq_true c3
   have c3b1 : decide (a0.size ≤ 1024) = true := decide_eq_true (by omega)
   clear c3
   replace H := obE H
   obtain ⟨t129, A4, H⟩ := H
   obtain rfl := Option.some.inj H
   go_enter Tryd.func36, Tryd.ntmps36
   go_wp2_with (first | (go_at_call 74; (with_reducible refine (strings_Contains.calls a0 (⟨#[0]⟩ : ByteArray) t129 _ A4.out ?sideG).mono ?_); (case sideG => first | exact HG.out | exact gg_below HG.out (bw HB.out)); rintro e w' ⟨rfl, ⟨nd, rfl⟩⟩))
   go_ret
   exact ⟨by first | rfl | (simp; done) | (simp [*]; done), by repeat (first | exact Drawn0.refl _ | apply Drawn0.step)⟩
  ·
   rw [if_neg c3] at H
   have c3b0 := decide_eq_false c3
   have c3b1 : decide (a0.size ≤ 1024) = false := decide_eq_false (by omega)
   clear c3
   obtain rfl := Option.some.inj H
   go_enter Tryd.func36, Tryd.ntmps36
   go_wp2
   go_ret
   exact ⟨by first | rfl | (simp; done) | (simp [*]; done), by repeat (first | exact Drawn0.refl _ | apply Drawn0.step)⟩
end Go.Proofs.YtdidopoalmkhlaaDoor.Or
end
section
namespace Go.Proofs.YtdidopoalmkhlaaDoor.Or
open Go.RowKit Go.Proofs.YtdidopoalmkhlaaDoorW.PrintWords Go.Proofs.YtdidopoalmkhlaaDoorW.PrintLast Go.Proofs.YtdidopoalmkhlaaDoorW.PrintMore
attribute [local go_sem] max2_int min2_int max_two min_two max_three min_three max_four min_four
set_option linter.unusedVariables false
set_option linter.unusedSimpArgs false
def digest_Unhex.f (a0 : ByteArray) : Option (ByteArray × Int) := Sha.unhexF a0
theorem digest_Unhex.calls (a0 : ByteArray) (r1 : ByteArray) (r2 : Int) (w : World) (h : digest_Unhex.f a0 = some (r1, r2)) :
  Calls Tryd.prog 75 #[.string a0] w fun e w' => e = .returned (.tuple #[.string r1, .int .i64 r2]) ∧ Below w.heap.size w w' := by
 unfold digest_Unhex.f Sha.unhexF at h
 split at h
 ·
  rename_i hc
  have h1 := Option.some.inj h
  have e1 : (Sha.unhexR (Sha.unhexL a0.data.toList)).1 = r1 := congrArg Prod.fst h1
  have e2 : (Sha.unhexR (Sha.unhexL a0.data.toList)).2 = r2 := congrArg Prod.snd h1
  rw [← e1, ← e2]
  exact Sha.Unhex a0 hc w
 ·
  cases h
def cmd_digits.f (a0 : ByteArray) : Option (Bool) := (digest_Unhex.f a0).bind fun bt130 => (if bt130.2 = 0 then (some ((bt130.1.size : Int) == 32)) else (some false))
set_option maxHeartbeats 8000000 in
set_option maxRecDepth 100000 in
theorem cmd_digits.calls (a0 : ByteArray) (r : Bool) (w : World) (h : cmd_digits.f a0 = some r) :
  Calls Tryd.prog 37 #[.string a0] w fun e w' => e = .returned (.bool r) ∧ Below w.heap.size w w' := by
 have HB := am (Below.refl w.heap.size w)
 have H := h
 clear h
 unfold cmd_digits.f at H
 replace H := obE H
 obtain ⟨⟨t130, t131⟩, A2, H⟩ := H
 try dsimp only at H
 by_cases c3 : t131 = 0
 ·
  rw [if_pos c3] at H
  have c3b0 := beq_iff_eq.mpr c3
  have c3b1 := bne_eq_false_iff_eq.mpr c3
  clear c3
  obtain rfl := Option.some.inj H
  go_enter Tryd.func37, Tryd.ntmps37
  go_wp2_with (first | ((with_reducible refine gate_callee (f := 75) rfl ?_); refine goesL_ (some 7) rfl rfl Tryd.func75 (by kernel_rfl) rfl #[.string a0] rfl gl ?_; (with_reducible refine (digest_Unhex.calls a0 t130 t131 _ A2.out).mono ?_); rintro e w4 ⟨rfl, hb⟩; refine ⟨_, rfl, ?_⟩; replace HB := am (below_step (bw HB.out) hb); (try clear hb)))
  go_ret
  exact ⟨rf, bw HB.out⟩
 ·
  rw [if_neg c3] at H
  have c3b0 := beq_eq_false_iff_ne.mpr c3
  have c3b1 := bne_iff_ne.mpr c3
  obtain rfl := Option.some.inj H
  go_enter Tryd.func37, Tryd.ntmps37
  go_wp2_with (first | ((with_reducible refine gate_callee (f := 75) rfl ?_); refine goesL_ (some 7) rfl rfl Tryd.func75 (by kernel_rfl) rfl #[.string a0] rfl gl ?_; (with_reducible refine (digest_Unhex.calls a0 t130 t131 _ A2.out).mono ?_); rintro e w5 ⟨rfl, hb⟩; refine ⟨_, rfl, ?_⟩; replace HB := am (below_step (bw HB.out) hb); (try clear hb)))
  go_ret
  exact ⟨rf, bw HB.out⟩
mutual
def cmd_Check.j0 : Nat → Int → Bool → Int → ByteArray → ByteArray → ByteArray → Int → Int → ByteArray → List (S82) → List (S62) → Option (Int)
 | 0, _, _, _, _, _, _, _, _, _, _, _ => none
 | k + 1, x3, x32, x133000, x133001, x133002, x133003, x133004, x133005, x133006, x133007, x133008 => if x32 = true then (some 1) else ((chain_Pieces.f k x133007).bind fun bt149 => (if (Go.bits .and .i64 x3 2) = 0 then (if (Go.bits .and .i64 x3 4) = 0 then (if (Go.bits .and .i64 x3 32) = 0 then (if bt149.2 = 0 then (cmd_Check.j1 k x3 (decide (bt149.1 > 1048576)) x133000 x133001 x133002 x133003 x133004 x133005 x133006 x133007 x133008) else (cmd_Check.j1 k x3 true x133000 x133001 x133002 x133003 x133004 x133005 x133006 x133007 x133008)) else ((cmd_digits.f x133006).bind fun t151 => (if t151 = true then (if bt149.2 = 0 then (cmd_Check.j1 k x3 (decide (bt149.1 > 1048576)) x133000 x133001 x133002 x133003 x133004 x133005 x133006 x133007 x133008) else (cmd_Check.j1 k x3 true x133000 x133001 x133002 x133003 x133004 x133005 x133006 x133007 x133008)) else (cmd_Check.j1 k x3 true x133000 x133001 x133002 x133003 x133004 x133005 x133006 x133007 x133008)))) else ((names_Key.f x133003).bind fun t152 => (if t152 = true then (if (Go.bits .and .i64 x3 32) = 0 then (if bt149.2 = 0 then (cmd_Check.j1 k x3 (decide (bt149.1 > 1048576)) x133000 x133001 x133002 x133003 x133004 x133005 x133006 x133007 x133008) else (cmd_Check.j1 k x3 true x133000 x133001 x133002 x133003 x133004 x133005 x133006 x133007 x133008)) else ((cmd_digits.f x133006).bind fun t153 => (if t153 = true then (if bt149.2 = 0 then (cmd_Check.j1 k x3 (decide (bt149.1 > 1048576)) x133000 x133001 x133002 x133003 x133004 x133005 x133006 x133007 x133008) else (cmd_Check.j1 k x3 true x133000 x133001 x133002 x133003 x133004 x133005 x133006 x133007 x133008)) else (cmd_Check.j1 k x3 true x133000 x133001 x133002 x133003 x133004 x133005 x133006 x133007 x133008)))) else (cmd_Check.j1 k x3 true x133000 x133001 x133002 x133003 x133004 x133005 x133006 x133007 x133008)))) else ((names_Bucket.f k x133002).bind fun t154 => (if t154 = true then (if (Go.bits .and .i64 x3 4) = 0 then (if (Go.bits .and .i64 x3 32) = 0 then (if bt149.2 = 0 then (cmd_Check.j1 k x3 (decide (bt149.1 > 1048576)) x133000 x133001 x133002 x133003 x133004 x133005 x133006 x133007 x133008) else (cmd_Check.j1 k x3 true x133000 x133001 x133002 x133003 x133004 x133005 x133006 x133007 x133008)) else ((cmd_digits.f x133006).bind fun t155 => (if t155 = true then (if bt149.2 = 0 then (cmd_Check.j1 k x3 (decide (bt149.1 > 1048576)) x133000 x133001 x133002 x133003 x133004 x133005 x133006 x133007 x133008) else (cmd_Check.j1 k x3 true x133000 x133001 x133002 x133003 x133004 x133005 x133006 x133007 x133008)) else (cmd_Check.j1 k x3 true x133000 x133001 x133002 x133003 x133004 x133005 x133006 x133007 x133008)))) else ((names_Key.f x133003).bind fun t156 => (if t156 = true then (if (Go.bits .and .i64 x3 32) = 0 then (if bt149.2 = 0 then (cmd_Check.j1 k x3 (decide (bt149.1 > 1048576)) x133000 x133001 x133002 x133003 x133004 x133005 x133006 x133007 x133008) else (cmd_Check.j1 k x3 true x133000 x133001 x133002 x133003 x133004 x133005 x133006 x133007 x133008)) else ((cmd_digits.f x133006).bind fun t157 => (if t157 = true then (if bt149.2 = 0 then (cmd_Check.j1 k x3 (decide (bt149.1 > 1048576)) x133000 x133001 x133002 x133003 x133004 x133005 x133006 x133007 x133008) else (cmd_Check.j1 k x3 true x133000 x133001 x133002 x133003 x133004 x133005 x133006 x133007 x133008)) else (cmd_Check.j1 k x3 true x133000 x133001 x133002 x133003 x133004 x133005 x133006 x133007 x133008)))) else (cmd_Check.j1 k x3 true x133000 x133001 x133002 x133003 x133004 x133005 x133006 x133007 x133008)))) else (cmd_Check.j1 k x3 true x133000 x133001 x133002 x133003 x133004 x133005 x133006 x133007 x133008)))))
def cmd_Check.j1 : Nat → Int → Bool → Int → ByteArray → ByteArray → ByteArray → Int → Int → ByteArray → List (S82) → List (S62) → Option (Int)
 | 0, _, _, _, _, _, _, _, _, _, _, _ => none
 | k + 1, x3, x6, x133000, x133001, x133002, x133003, x133004, x133005, x133006, x133007, x133008 => if x6 = true then (cmd_Check.j2 k true x133000 x133001 x133002 x133003 x133004 x133005 x133006 x133007 x133008) else (if x133004 < 0 then (cmd_Check.j2 k true x133000 x133001 x133002 x133003 x133004 x133005 x133006 x133007 x133008) else (if x133004 > 1099511627776 then (cmd_Check.j2 k true x133000 x133001 x133002 x133003 x133004 x133005 x133006 x133007 x133008) else (if (Go.bits .and .i64 x3 8) = 0 then (if x133005 < 0 then (cmd_Check.j2 k true x133000 x133001 x133002 x133003 x133004 x133005 x133006 x133007 x133008) else (if x133005 > 100 then (cmd_Check.j2 k true x133000 x133001 x133002 x133003 x133004 x133005 x133006 x133007 x133008) else (if (Go.bits .and .i64 x3 16) = 0 then (cmd_Check.j2 k (decide ((x133008.length : Int) > 100)) x133000 x133001 x133002 x133003 x133004 x133005 x133006 x133007 x133008) else (if x133005 = 0 then (cmd_Check.j2 k true x133000 x133001 x133002 x133003 x133004 x133005 x133006 x133007 x133008) else (cmd_Check.j2 k (decide ((x133008.length : Int) > 100)) x133000 x133001 x133002 x133003 x133004 x133005 x133006 x133007 x133008))))) else (if x133004 = 0 then (if x133000 = 10 then (if x133005 < 0 then (cmd_Check.j2 k true x133000 x133001 x133002 x133003 x133004 x133005 x133006 x133007 x133008) else (if x133005 > 100 then (cmd_Check.j2 k true x133000 x133001 x133002 x133003 x133004 x133005 x133006 x133007 x133008) else (if (Go.bits .and .i64 x3 16) = 0 then (cmd_Check.j2 k (decide ((x133008.length : Int) > 100)) x133000 x133001 x133002 x133003 x133004 x133005 x133006 x133007 x133008) else (if x133005 = 0 then (cmd_Check.j2 k true x133000 x133001 x133002 x133003 x133004 x133005 x133006 x133007 x133008) else (cmd_Check.j2 k (decide ((x133008.length : Int) > 100)) x133000 x133001 x133002 x133003 x133004 x133005 x133006 x133007 x133008))))) else (cmd_Check.j2 k true x133000 x133001 x133002 x133003 x133004 x133005 x133006 x133007 x133008)) else (if x133005 < 0 then (cmd_Check.j2 k true x133000 x133001 x133002 x133003 x133004 x133005 x133006 x133007 x133008) else (if x133005 > 100 then (cmd_Check.j2 k true x133000 x133001 x133002 x133003 x133004 x133005 x133006 x133007 x133008) else (if (Go.bits .and .i64 x3 16) = 0 then (cmd_Check.j2 k (decide ((x133008.length : Int) > 100)) x133000 x133001 x133002 x133003 x133004 x133005 x133006 x133007 x133008) else (if x133005 = 0 then (cmd_Check.j2 k true x133000 x133001 x133002 x133003 x133004 x133005 x133006 x133007 x133008) else (cmd_Check.j2 k (decide ((x133008.length : Int) > 100)) x133000 x133001 x133002 x133003 x133004 x133005 x133006 x133007 x133008)))))))))
def cmd_Check.j2 : Nat → Bool → Int → ByteArray → ByteArray → ByteArray → Int → Int → ByteArray → List (S82) → List (S62) → Option (Int)
 | 0, _, _, _, _, _, _, _, _, _, _ => none
 | k + 1, x6, x133000, x133001, x133002, x133003, x133004, x133005, x133006, x133007, x133008 => cmd_Check.l0 k x6 x133008 (x133008.length : Int) 0
def cmd_Check.l0 : Nat → Bool → List (S62) → Int → Int → Option (Int)
 | 0, _, _, _, _ => none
 | k + 1, x6, x131, x132, x133 => if x133 < x132 then (if 0 ≤ x133 then (if x133 < (x131.length : Int) then (if x6 = true then (cmd_Check.l0 k true x131 x132 (wrap64 (x133 + 1))) else (if ((rd_T62 x131 x133).f0) < 0 then (cmd_Check.l0 k true x131 x132 (wrap64 (x133 + 1))) else (if ((rd_T62 x131 x133).f0) > 100 then (cmd_Check.l0 k true x131 x132 (wrap64 (x133 + 1))) else ((cmd_digits.f ((rd_T62 x131 x133).f1)).bind fun t160 => (cmd_Check.l0 k (!t160) x131 x132 (wrap64 (x133 + 1))))))) else (none)) else (none)) else (if x6 = true then (some 1) else (some 0))
end
def cmd_Check.f (k : Nat) (a0_0 : Int) (a0_1 : ByteArray) (a0_2 : ByteArray) (a0_3 : ByteArray) (a0_4 : Int) (a0_5 : Int) (a0_6 : ByteArray) (l0_7 : List (S82)) (l0_8 : List (S62)) : Option (Int) := (cmd_fields.f k a0_0).bind fun t133 => (if t133 = 0 then (cmd_Check.j0 k t133 true a0_0 a0_1 a0_2 a0_3 a0_4 a0_5 a0_6 l0_7 l0_8) else ((cmd_cut.f a0_0 a0_1 a0_2 a0_3 a0_4 a0_5 a0_6 l0_7 l0_8 t133).bind fun bt134 => ((cmd_same.f k bt134.1 bt134.2.1 bt134.2.2.1 bt134.2.2.2.1 bt134.2.2.2.2.1 bt134.2.2.2.2.2.1 bt134.2.2.2.2.2.2.1 bt134.2.2.2.2.2.2.2.1 bt134.2.2.2.2.2.2.2.2 a0_0 a0_1 a0_2 a0_3 a0_4 a0_5 a0_6 l0_7 l0_8).bind fun t147 => (if t147 = true then (if a0_1.toList = ([] : List UInt8) then (cmd_Check.j0 k t133 false a0_0 a0_1 a0_2 a0_3 a0_4 a0_5 a0_6 l0_7 l0_8) else ((names_Token.f k a0_1).bind fun t148 => (cmd_Check.j0 k t133 (!t148) a0_0 a0_1 a0_2 a0_3 a0_4 a0_5 a0_6 l0_7 l0_8))) else (cmd_Check.j0 k t133 true a0_0 a0_1 a0_2 a0_3 a0_4 a0_5 a0_6 l0_7 l0_8)))))
theorem cmd_Check.mono_l : ∀ k, (∀ y0 y1 y2 y3 y4 y5 y6 y7 y8 y9 y10, LeO (cmd_Check.j0 k y0 y1 y2 y3 y4 y5 y6 y7 y8 y9 y10) (cmd_Check.j0 (k + 1) y0 y1 y2 y3 y4 y5 y6 y7 y8 y9 y10)) ∧ (∀ y0 y1 y2 y3 y4 y5 y6 y7 y8 y9 y10, LeO (cmd_Check.j1 k y0 y1 y2 y3 y4 y5 y6 y7 y8 y9 y10) (cmd_Check.j1 (k + 1) y0 y1 y2 y3 y4 y5 y6 y7 y8 y9 y10)) ∧ (∀ y0 y1 y2 y3 y4 y5 y6 y7 y8 y9, LeO (cmd_Check.j2 k y0 y1 y2 y3 y4 y5 y6 y7 y8 y9) (cmd_Check.j2 (k + 1) y0 y1 y2 y3 y4 y5 y6 y7 y8 y9)) ∧ (∀ y0 y1 y2 y3, LeO (cmd_Check.l0 k y0 y1 y2 y3) (cmd_Check.l0 (k + 1) y0 y1 y2 y3))
 | 0 => ⟨fun _ _ _ _ _ _ _ _ _ _ _ r h => by simp [cmd_Check.j0] at h, fun _ _ _ _ _ _ _ _ _ _ _ r h => by simp [cmd_Check.j1] at h, fun _ _ _ _ _ _ _ _ _ _ r h => by simp [cmd_Check.j2] at h, fun _ _ _ _ r h => by simp [cmd_Check.l0] at h⟩
 | k + 1 => by
  obtain ⟨ih0, ih1, ih2, ih3⟩ := cmd_Check.mono_l k
  refine ⟨?_, ?_, ?_, ?_⟩
  all_goals intros
  all_goals first | unfold cmd_Check.j0 | unfold cmd_Check.j1 | unfold cmd_Check.j2 | unfold cmd_Check.l0
  all_goals repeat' (with_reducible first | exact ih0 _ _ _ _ _ _ _ _ _ _ _ | exact ih1 _ _ _ _ _ _ _ _ _ _ _ | exact ih2 _ _ _ _ _ _ _ _ _ _ | exact ih3 _ _ _ _ | exact chain_Pieces.mono _ _ | exact cmd_fields.mono _ _ | exact cmd_same.mono _ _ _ _ _ _ _ _ _ _ _ _ _ _ _ _ _ _ _ | exact names_Bucket.mono _ _ | exact names_Token.mono _ _ | exact LeO.refl _ | exact LeO.none _ | refine LeO.ite ?_ ?_ | refine LeO.bind ?_ (fun _ => ?_))
theorem cmd_Check.mono : ∀ a0 a1 a2 a3 a4 a5 a6 a7 a8 k, LeO (cmd_Check.f k a0 a1 a2 a3 a4 a5 a6 a7 a8) (cmd_Check.f (k + 1) a0 a1 a2 a3 a4 a5 a6 a7 a8) := by
 intro a0 a1 a2 a3 a4 a5 a6 a7 a8 k
 obtain ⟨ih0, ih1, ih2, ih3⟩ := cmd_Check.mono_l k
 unfold cmd_Check.f
 repeat' (with_reducible first | exact ih0 _ _ _ _ _ _ _ _ _ _ _ | exact ih1 _ _ _ _ _ _ _ _ _ _ _ | exact ih2 _ _ _ _ _ _ _ _ _ _ | exact ih3 _ _ _ _ | exact chain_Pieces.mono _ _ | exact cmd_fields.mono _ _ | exact cmd_same.mono _ _ _ _ _ _ _ _ _ _ _ _ _ _ _ _ _ _ _ | exact names_Bucket.mono _ _ | exact names_Token.mono _ _ | exact LeO.refl _ | exact LeO.none _ | refine LeO.ite ?_ ?_ | refine LeO.bind ?_ (fun _ => ?_))
def cmd_Check.T2 : Bool × List (List Nat × List Nat) := (true, [([], []), ([0], [0]), ([1], [1]), ([2], [2]), ([2], [2]), ([3, 4, 2, 2], [2, 3, 4]), ([2], [2]), ([5, 6, 5, 2], [2, 5, 6]), ([7, 2], [2, 7]), ([2, 8], [2, 8]), ([9, 7], [9]), ([10], [10]), ([11, 10], [10, 11]), ([12, 10], [10, 12]), ([13, 10, 10], [10, 13]), ([14], [14]), ([15, 14], [14, 15]), ([16, 14, 14], [14, 16]), ([17, 14], [14, 17]), ([14, 18, 10], [10, 14, 18]), ([10, 19], [10, 19])])
def cmd_Check.B2 : List Nat := [0, 1, 3, 7, 7, 31, 7, 127, 255, 511, 1023, 2047, 4095, 8191, 16383, 32767, 65535, 131071, 262143, 524287, 1048575]
theorem cmd_Check.tab2 : rtab .any (opsOf Tryd.f14 2) = cmd_Check.T2 := by kernel_rfl
theorem cmd_Check.bits2 : waitsOk cmd_Check.T2.2 cmd_Check.B2 = true := by kernel_rfl
set_option maxHeartbeats 8000000 in
set_option maxRecDepth 100000 in
theorem cmd_Check.calls (k : Nat) (a0_0 : Int) (a0_1 : ByteArray) (a0_2 : ByteArray) (a0_3 : ByteArray) (a0_4 : Int) (a0_5 : Int) (a0_6 : ByteArray) (A0_7 : Option Addr) (c0_7 : Nat) (l0_7 : List (S82)) (A0_8 : Option Addr) (c0_8 : Nat) (l0_8 : List (S62)) (r : Int) (w : World) (hr0_7 : Kd.C k82 w A0_7 l0_7.length l0_7) (hc0_7 : l0_7.length ≤ c0_7) (hr0_8 : Kd.C k62 w A0_8 l0_8.length l0_8) (hc0_8 : l0_8.length ≤ c0_8) (h : cmd_Check.f k a0_0 a0_1 a0_2 a0_3 a0_4 a0_5 a0_6 l0_7 l0_8 = some r) (hG : GG w) :
  Calls Tryd.prog 14 #[.agg #[.int .i64 a0_0, .string a0_1, .string a0_2, .string a0_3, .int .i64 a0_4, .int .i64 a0_5, .string a0_6, .slice A0_7 l0_7.length c0_7, .slice A0_8 l0_8.length c0_8]] w fun e w' => e = .returned (.int .i64 r) ∧ Below w.heap.size w w' := by
 have HG := am hG
 clear hG
 have hu25 := Tryd.underlying25
 have hu62 := Tryd.underlying62
 have HR0_7 := am hr0_7
 have HC0_7 := am hc0_7
 clear hr0_7 hc0_7
 have HR0_8 := am hr0_8
 have HC0_8 := am hc0_8
 clear hr0_8 hc0_8
 have HB := am (Below.refl w.heap.size w)
 have H := h
 clear h
 unfold cmd_Check.f at H
 replace H := obE H
 obtain ⟨t133, A2, H⟩ := H
 have HC3 := am H
 clear H
 go_enter Tryd.func14, Tryd.ntmps14
 go_upto_region 2 with (first | ((with_reducible refine gate_dst (N := 1) rfl ?_); (try (refine gate_guard (by rfl) ?_; dsimp only)); refine bx 1 #[.int .i64 a0_0, .string a0_1, .string a0_2, .string a0_3, .int .i64 a0_4, .int .i64 a0_5, .string a0_6, .slice A0_7 l0_7.length c0_7, .slice A0_8 l0_8.length c0_8] 25 ?_; intro gb132 hg w4 hbox hb; have BK132 := am (hbox); have GW132 := gsz hg HB.out; have GE132 := gsz hg HB.out; replace HB := am (below_step (bw HB.out) hb); clear hb hbox hg; obtain ⟨hcz5_0, hcz5_1, hcz5_2, hcz5_3, hcz5_4, hcz5_5, hcz5_6, hcz5_7, hcz5_8, hfz5_0, hfz5_1, hfz5_2, hfz5_3, hfz5_4, hfz5_5, hfz5_6, hfz5_7, hfz5_8⟩ := cz9 BK132.out) | ((with_reducible refine gate_callee (f := 30) rfl ?_); refine goesL_ (some 11) rfl rfl Tryd.func30 (by kernel_rfl) rfl #[.int .i64 a0_0] rfl gl ?_; (with_reducible refine (cmd_fields.calls k a0_0 t133 _ A2.out).mono ?_); rintro e w' ⟨rfl, ⟨nd, rfl⟩⟩; refine ⟨_, rfl, ?_⟩; replace BK132 := am (blk_drewN BK132.out nd); replace HB := am (pw_below_drewN HB.out nd); generalize w4.drewN nd = w4 at BK132 HB ⊢))
 (try simp only [Act.put, List.setIfInBounds_toArray, List.set_cons_zero, List.set_cons_succ])
 go_cut [32] (fun v32 wc => ∃ (kq : Nat) (x32_2 : Bool), v32 = .bool x32_2 ∧ Aside0 (cmd_Check.j0 kq t133 x32_2 a0_0 a0_1 a0_2 a0_3 a0_4 a0_5 a0_6 l0_7 l0_8 = some r) ∧ Aside0 (kq ≤ k) ∧ Aside0 (wc.heap[gb132]? = some (.cells #[.int .i64 a0_0, .string a0_1, .string a0_2, .string a0_3, .int .i64 a0_4, .int .i64 a0_5, .string a0_6, (.slice A0_7 l0_7.length c0_7), (.slice A0_8 l0_8.length c0_8)] 25 (0, 0))) ∧ Aside0 (Below w.heap.size w wc))
 case first => as_aux_lemma =>
  have H := HC3.out
  clear HC3
  by_cases c6 : t133 = 0
  ·
   rw [if_pos c6] at H
   have c6b0 := beq_iff_eq.mpr c6
   have c6b1 := bne_eq_false_iff_eq.mpr c6
   clear c6
   (first | rw [c6b0] | (simp only [i64_w, i32_w]; rw [c6b0]) | skip)
   have H' := am H
   clear H
   try go_wp2
   replace BK132 := am (blk_drew BK132.out)
   replace HB := am (below_drew1 HB.out)
   refine start_ (n := 21) (S := fun w' => True) (ds := []) #[false, false, false, false, false, false, false, false, false, false, false, false, false, false, false, false, false, false, false, false, false] (by kernel_rfl) rfl rfl trivial (fun hHeld => ?_); refine with_tabW cmd_Check.tab2 cmd_Check.bits2 (fun HT_ HW_ => ?_)
   generalize w4.drew = w7 at BK132 HB hHeld ⊢
   refine pu 0 (some 12) HT_.out ?_
   refine pu 1 (some 13) HT_.out ?_
   refine pu 2 (some 14) HT_.out ?_
   refine un 3 (some 15) HT_.out ?_
   refine un 4 (some 16) HT_.out ?_
   refine un 5 (some 17) HT_.out ?_
   refine un 6 (some 18) HT_.out ?_
   refine un 7 (some 19) HT_.out ?_
   refine un 8 (some 20) HT_.out ?_
   refine pu 9 (some 21) HT_.out ?_
   refine pu 10 (some 22) HT_.out ?_
   refine un 11 (some 23) HT_.out ?_
   refine un 12 (some 24) HT_.out ?_
   refine un 13 (some 25) HT_.out ?_
   refine un 14 (some 26) HT_.out ?_
   refine un 15 (some 27) HT_.out ?_
   refine un 16 (some 28) HT_.out ?_
   refine un 17 (some 29) HT_.out ?_
   refine un 18 (some 30) HT_.out ?_
   refine un 19 (some 31) HT_.out ?_
   refine pu 20 (some 32) HT_.out ?_
   refine done_ (done_of HT_.out (by kernel_rfl)) ?_
   try go_wp2
   go_meet
   case rel => exact ⟨_, (true), rs, H', ⟨om⟩, ⟨bk BK132.out⟩, ⟨bws HB.out⟩⟩
  · as_aux_lemma =>
   rw [if_neg c6] at H
   have c6b0 := beq_eq_false_iff_ne.mpr c6
   have c6b1 := bne_iff_ne.mpr c6
   (first | rw [c6b0] | (simp only [i64_w, i32_w]; rw [c6b0]) | skip)
   replace H := obE H
   obtain ⟨⟨t134, t135, t136, t137, t138, t139, t140, t141, t144⟩, A8, H⟩ := H
   try dsimp only at H
   replace H := obE H
   obtain ⟨t147, A9, H⟩ := H
   by_cases c10 : t147 = true
   · as_aux_lemma =>
    subst c10
    rw [if_pos rfl] at H
    by_cases c11 : a0_1.toList = ([] : List UInt8)
    · as_aux_lemma =>
     rw [if_pos c11] at H
     have c11b0 := beq_iff_eq.mpr c11
     have c11b1 := bne_eq_false_iff_eq.mpr c11
     clear c11
     have H' := am H
     clear H
     try go_wp2
     replace BK132 := am (blk_drew BK132.out)
     replace HB := am (below_drew1 HB.out)
     refine start_ (n := 21) (S := fun w' => w'.cell? ⟨gb132, 0, none⟩ = some (.int .i64 a0_0) ∧ w'.cell? ⟨gb132, 1, none⟩ = some (.string a0_1) ∧ w'.cell? ⟨gb132, 2, none⟩ = some (.string a0_2) ∧ w'.cell? ⟨gb132, 3, none⟩ = some (.string a0_3) ∧ w'.cell? ⟨gb132, 4, none⟩ = some (.int .i64 a0_4) ∧ w'.cell? ⟨gb132, 5, none⟩ = some (.int .i64 a0_5) ∧ w'.cell? ⟨gb132, 6, none⟩ = some (.string a0_6) ∧ w'.cell? ⟨gb132, 7, none⟩ = some (.slice A0_7 l0_7.length c0_7) ∧ w'.cell? ⟨gb132, 8, none⟩ = some (.slice A0_8 l0_8.length c0_8)) (ds := []) #[false, false, false, false, false, false, false, false, false, false, false, false, false, false, false, false, false, false, false, false, false] (by kernel_rfl) rfl rfl ⟨(blk_cell BK132.out 0).trans rfl, (blk_cell BK132.out 1).trans rfl, (blk_cell BK132.out 2).trans rfl, (blk_cell BK132.out 3).trans rfl, (blk_cell BK132.out 4).trans rfl, (blk_cell BK132.out 5).trans rfl, (blk_cell BK132.out 6).trans rfl, (blk_cell BK132.out 7).trans rfl, (blk_cell BK132.out 8).trans rfl⟩ (fun hHeld => ?_); refine with_tabW cmd_Check.tab2 cmd_Check.bits2 (fun HT_ HW_ => ?_)
     generalize w4.drew = w12 at BK132 HB hHeld ⊢
     refine pu 0 (some 12) HT_.out ?_
     refine pu 1 (some 13) HT_.out ?_
     refine pu 2 (some 14) HT_.out ?_
     refine pu 4 (some 16) HT_.out ?_
     refine tk 3 (some 15) HT_.out HW_.out hHeld ?_
     refine tk 6 (some 18) HT_.out HW_.out hHeld ?_
     refine one_ (i := 5) (N := some 17) #[true, true, true, true, true, true, true, false, false, false, false, false, false, false, false, false, false, false, false, false, false] rfl rfl (one_of HT_.out (by kernel_rfl)) (by decide) (fun K hK => ?_)
     refine goes_ Tryd.func32 (by kernel_rfl) rfl #[.agg #[.int .i64 a0_0, .string a0_1, .string a0_2, .string a0_3, .int .i64 a0_4, .int .i64 a0_5, .string a0_6, .slice A0_7 l0_7.length c0_7, .slice A0_8 l0_8.length c0_8], .int .i64 t133] (by rfl) rfl rfl gl ?_
     with_reducible refine (cmd_cut.calls a0_0 a0_1 a0_2 a0_3 a0_4 a0_5 a0_6 _ _ l0_7 _ _ l0_8 t133 t134 t135 t136 t137 t138 t139 t140 t141 t144 _ ?side1 ?side2 ?side3 ?side4 A8.out).mono ?_
     (case side1 => exact kC (Kd.C_below HR0_7.out HB.out))
     (case side2 => exact HC0_7.out)
     (case side3 => exact kC (Kd.C_below HR0_8.out HB.out))
     (case side4 => exact HC0_8.out)
     rintro e w13 ⟨v142, v145, rfl, ho0, ho1, hb⟩
     refine ⟨_, rfl, ?_⟩
     have HO143 := am (Kd.R_lower ho0 (below_size (bws HB.out)))
     have HO146 := am (Kd.R_lower ho1 (below_size (bws HB.out)))
     replace BK132 := bb BK132.out hb
     replace HB := am (below_step (bws HB.out) hb)
     (try clear hb)
     (try clear hb2)
     (try clear hk)
     (try clear hi)
     (try clear ho0)
     (try clear ho1)
     obtain ⟨Ao14, co14, eo14⟩ := Kd.R_slice HO143.out
     (first | subst eo14 | (injection eo14 with f1_ f2_ f3_; have f4_ := f1_.symm; have f5_ := f3_.symm; clear f1_ f2_ f3_; subst f4_; subst f5_))
     obtain ⟨Ao15, co15, eo15⟩ := Kd.R_slice HO146.out
     (first | subst eo15 | (injection eo15 with f1_ f2_ f3_; have f4_ := f1_.symm; have f5_ := f3_.symm; clear f1_ f2_ f3_; subst f4_; subst f5_))
     refine hK.out _ _ ⟨(blk_cell BK132.out 0).trans rfl, (blk_cell BK132.out 1).trans rfl, (blk_cell BK132.out 2).trans rfl, (blk_cell BK132.out 3).trans rfl, (blk_cell BK132.out 4).trans rfl, (blk_cell BK132.out 5).trans rfl, (blk_cell BK132.out 6).trans rfl, (blk_cell BK132.out 7).trans rfl, (blk_cell BK132.out 8).trans rfl⟩ (fun hHeld => ?_)
     clear hK K
     refine norm_ (a' := ?_) ?_ ?_
     rotate_left
     ·
      show Act.put _ (some 17) _ = _
      simp only [Act.put, List.setIfInBounds_toArray, List.set_cons_zero, List.set_cons_succ, i64_w, i32_w]
      rfl
     refine one_ (i := 7) (N := some 19) #[true, true, true, true, true, true, true, true, false, false, false, false, false, false, false, false, false, false, false, false, false] rfl rfl (one_of HT_.out (by kernel_rfl)) (by decide) (fun K hK => ?_)
     refine goes_ Tryd.func31 (by kernel_rfl) rfl #[.agg #[.int .i64 t134, .string t135, .string t136, .string t137, .int .i64 t138, .int .i64 t139, .string t140, .slice Ao14 t141.length co14, .slice Ao15 t144.length co15], .agg #[.int .i64 a0_0, .string a0_1, .string a0_2, .string a0_3, .int .i64 a0_4, .int .i64 a0_5, .string a0_6, .slice A0_7 l0_7.length c0_7, .slice A0_8 l0_8.length c0_8]] (by rfl) rfl rfl gl ?_
     with_reducible refine (cmd_same.calls k t134 t135 t136 t137 t138 t139 t140 _ _ t141 _ _ t144 a0_0 a0_1 a0_2 a0_3 a0_4 a0_5 a0_6 _ _ l0_7 _ _ l0_8 true _ ?side1 ?side2 ?side3 ?side4 ?side5 ?side6 ?side7 ?side8 A9.out).mono ?_
     (case side1 => repeat (first | exact (Kd.R_reads' HO143.out).2.2 | (with_reducible refine Kd.C_alloc ?_ _) | (with_reducible refine Kd.C_drewN ?_ _) | (with_reducible refine Kd.C_drew ?_)))
     (case side2 => exact (Kd.R_reads' HO143.out).2.1)
     (case side3 => repeat (first | exact (Kd.R_reads' HO146.out).2.2 | (with_reducible refine Kd.C_alloc ?_ _) | (with_reducible refine Kd.C_drewN ?_ _) | (with_reducible refine Kd.C_drew ?_)))
     (case side4 => exact (Kd.R_reads' HO146.out).2.1)
     (case side5 => exact kC (Kd.C_below HR0_7.out HB.out))
     (case side6 => exact HC0_7.out)
     (case side7 => exact kC (Kd.C_below HR0_8.out HB.out))
     (case side8 => exact HC0_8.out)
     rintro e w16 ⟨rfl, hb⟩
     refine ⟨_, rfl, ?_⟩
     replace HO143 := am (Kd.R_below (kR HO143.out) hb)
     replace HO146 := am (Kd.R_below (kR HO146.out) hb)
     replace BK132 := bb BK132.out hb
     replace HB := am (below_step (bws HB.out) hb)
     (try clear hb)
     (try clear hb2)
     (try clear hk)
     (try clear hi)
     refine hK.out _ _ ⟨(blk_cell BK132.out 0).trans rfl, (blk_cell BK132.out 1).trans rfl, (blk_cell BK132.out 2).trans rfl, (blk_cell BK132.out 3).trans rfl, (blk_cell BK132.out 4).trans rfl, (blk_cell BK132.out 5).trans rfl, (blk_cell BK132.out 6).trans rfl, (blk_cell BK132.out 7).trans rfl, (blk_cell BK132.out 8).trans rfl⟩ (fun hHeld => ?_)
     clear hK K
     refine norm_ (a' := ?_) ?_ ?_
     rotate_left
     ·
      show Act.put _ (some 19) _ = _
      simp only [Act.put, List.setIfInBounds_toArray, List.set_cons_zero, List.set_cons_succ, i64_w, i32_w]
      rfl
     refine pu 8 (some 20) HT_.out ?_
     refine pu 9 (some 21) HT_.out ?_
     refine pu 10 (some 22) HT_.out ?_
     refine pu 11 (some 23) HT_.out ?_
     refine tk 12 (some 24) HT_.out HW_.out hHeld ?_
     refine pu 13 (some 25) HT_.out ?_
     refine pu 14 (some 26) HT_.out ?_
     refine un 15 (some 27) HT_.out ?_
     refine un 16 (some 28) HT_.out ?_
     refine un 17 (some 29) HT_.out ?_
     refine un 18 (some 30) HT_.out ?_
     refine pu 19 (some 31) HT_.out ?_
     refine pu 20 (some 32) HT_.out ?_
     refine done_ (done_of HT_.out (by kernel_rfl)) ?_
     try go_wp2
     go_meet
     case rel => exact ⟨_, (false), rs, H', ⟨om⟩, ⟨bk BK132.out⟩, ⟨bws HB.out⟩⟩
    · as_aux_lemma =>
     rw [if_neg c11] at H
     have c11b0 := beq_eq_false_iff_ne.mpr c11
     have c11b1 := bne_iff_ne.mpr c11
     replace H := obE H
     obtain ⟨t148, A17, H⟩ := H
     have H' := am H
     clear H
     try go_wp2
     replace BK132 := am (blk_drew BK132.out)
     replace HB := am (below_drew1 HB.out)
     refine start_ (n := 21) (S := fun w' => w'.cell? ⟨gb132, 0, none⟩ = some (.int .i64 a0_0) ∧ w'.cell? ⟨gb132, 1, none⟩ = some (.string a0_1) ∧ w'.cell? ⟨gb132, 2, none⟩ = some (.string a0_2) ∧ w'.cell? ⟨gb132, 3, none⟩ = some (.string a0_3) ∧ w'.cell? ⟨gb132, 4, none⟩ = some (.int .i64 a0_4) ∧ w'.cell? ⟨gb132, 5, none⟩ = some (.int .i64 a0_5) ∧ w'.cell? ⟨gb132, 6, none⟩ = some (.string a0_6) ∧ w'.cell? ⟨gb132, 7, none⟩ = some (.slice A0_7 l0_7.length c0_7) ∧ w'.cell? ⟨gb132, 8, none⟩ = some (.slice A0_8 l0_8.length c0_8)) (ds := []) #[false, false, false, false, false, false, false, false, false, false, false, false, false, false, false, false, false, false, false, false, false] (by kernel_rfl) rfl rfl ⟨(blk_cell BK132.out 0).trans rfl, (blk_cell BK132.out 1).trans rfl, (blk_cell BK132.out 2).trans rfl, (blk_cell BK132.out 3).trans rfl, (blk_cell BK132.out 4).trans rfl, (blk_cell BK132.out 5).trans rfl, (blk_cell BK132.out 6).trans rfl, (blk_cell BK132.out 7).trans rfl, (blk_cell BK132.out 8).trans rfl⟩ (fun hHeld => ?_); refine with_tabW cmd_Check.tab2 cmd_Check.bits2 (fun HT_ HW_ => ?_)
     generalize w4.drew = w18 at BK132 HB hHeld ⊢
     refine pu 0 (some 12) HT_.out ?_
     refine pu 1 (some 13) HT_.out ?_
     refine pu 2 (some 14) HT_.out ?_
     refine pu 4 (some 16) HT_.out ?_
     refine tk 3 (some 15) HT_.out HW_.out hHeld ?_
     refine tk 6 (some 18) HT_.out HW_.out hHeld ?_
     refine one_ (i := 5) (N := some 17) #[true, true, true, true, true, true, true, false, false, false, false, false, false, false, false, false, false, false, false, false, false] rfl rfl (one_of HT_.out (by kernel_rfl)) (by decide) (fun K hK => ?_)
     refine goes_ Tryd.func32 (by kernel_rfl) rfl #[.agg #[.int .i64 a0_0, .string a0_1, .string a0_2, .string a0_3, .int .i64 a0_4, .int .i64 a0_5, .string a0_6, .slice A0_7 l0_7.length c0_7, .slice A0_8 l0_8.length c0_8], .int .i64 t133] (by rfl) rfl rfl gl ?_
     with_reducible refine (cmd_cut.calls a0_0 a0_1 a0_2 a0_3 a0_4 a0_5 a0_6 _ _ l0_7 _ _ l0_8 t133 t134 t135 t136 t137 t138 t139 t140 t141 t144 _ ?side1 ?side2 ?side3 ?side4 A8.out).mono ?_
     (case side1 => exact kC (Kd.C_below HR0_7.out HB.out))
     (case side2 => exact HC0_7.out)
     (case side3 => exact kC (Kd.C_below HR0_8.out HB.out))
     (case side4 => exact HC0_8.out)
     rintro e w19 ⟨v142, v145, rfl, ho0, ho1, hb⟩
     refine ⟨_, rfl, ?_⟩
     have HO143 := am (Kd.R_lower ho0 (below_size (bws HB.out)))
     have HO146 := am (Kd.R_lower ho1 (below_size (bws HB.out)))
     replace BK132 := bb BK132.out hb
     replace HB := am (below_step (bws HB.out) hb)
     (try clear hb)
     (try clear hb2)
     (try clear hk)
     (try clear hi)
     (try clear ho0)
     (try clear ho1)
     obtain ⟨Ao20, co20, eo20⟩ := Kd.R_slice HO143.out
     (first | subst eo20 | (injection eo20 with f1_ f2_ f3_; have f4_ := f1_.symm; have f5_ := f3_.symm; clear f1_ f2_ f3_; subst f4_; subst f5_))
     obtain ⟨Ao21, co21, eo21⟩ := Kd.R_slice HO146.out
     (first | subst eo21 | (injection eo21 with f1_ f2_ f3_; have f4_ := f1_.symm; have f5_ := f3_.symm; clear f1_ f2_ f3_; subst f4_; subst f5_))
     refine hK.out _ _ ⟨(blk_cell BK132.out 0).trans rfl, (blk_cell BK132.out 1).trans rfl, (blk_cell BK132.out 2).trans rfl, (blk_cell BK132.out 3).trans rfl, (blk_cell BK132.out 4).trans rfl, (blk_cell BK132.out 5).trans rfl, (blk_cell BK132.out 6).trans rfl, (blk_cell BK132.out 7).trans rfl, (blk_cell BK132.out 8).trans rfl⟩ (fun hHeld => ?_)
     clear hK K
     refine norm_ (a' := ?_) ?_ ?_
     rotate_left
     ·
      show Act.put _ (some 17) _ = _
      simp only [Act.put, List.setIfInBounds_toArray, List.set_cons_zero, List.set_cons_succ, i64_w, i32_w]
      rfl
     refine one_ (i := 7) (N := some 19) #[true, true, true, true, true, true, true, true, false, false, false, false, false, false, false, false, false, false, false, false, false] rfl rfl (one_of HT_.out (by kernel_rfl)) (by decide) (fun K hK => ?_)
     refine goes_ Tryd.func31 (by kernel_rfl) rfl #[.agg #[.int .i64 t134, .string t135, .string t136, .string t137, .int .i64 t138, .int .i64 t139, .string t140, .slice Ao20 t141.length co20, .slice Ao21 t144.length co21], .agg #[.int .i64 a0_0, .string a0_1, .string a0_2, .string a0_3, .int .i64 a0_4, .int .i64 a0_5, .string a0_6, .slice A0_7 l0_7.length c0_7, .slice A0_8 l0_8.length c0_8]] (by rfl) rfl rfl gl ?_
     with_reducible refine (cmd_same.calls k t134 t135 t136 t137 t138 t139 t140 _ _ t141 _ _ t144 a0_0 a0_1 a0_2 a0_3 a0_4 a0_5 a0_6 _ _ l0_7 _ _ l0_8 true _ ?side1 ?side2 ?side3 ?side4 ?side5 ?side6 ?side7 ?side8 A9.out).mono ?_
     (case side1 => repeat (first | exact (Kd.R_reads' HO143.out).2.2 | (with_reducible refine Kd.C_alloc ?_ _) | (with_reducible refine Kd.C_drewN ?_ _) | (with_reducible refine Kd.C_drew ?_)))
     (case side2 => exact (Kd.R_reads' HO143.out).2.1)
     (case side3 => repeat (first | exact (Kd.R_reads' HO146.out).2.2 | (with_reducible refine Kd.C_alloc ?_ _) | (with_reducible refine Kd.C_drewN ?_ _) | (with_reducible refine Kd.C_drew ?_)))
     (case side4 => exact (Kd.R_reads' HO146.out).2.1)
     (case side5 => exact kC (Kd.C_below HR0_7.out HB.out))
     (case side6 => exact HC0_7.out)
     (case side7 => exact kC (Kd.C_below HR0_8.out HB.out))
     (case side8 => exact HC0_8.out)
     rintro e w22 ⟨rfl, hb⟩
     refine ⟨_, rfl, ?_⟩
     replace HO143 := am (Kd.R_below (kR HO143.out) hb)
     replace HO146 := am (Kd.R_below (kR HO146.out) hb)
     replace BK132 := bb BK132.out hb
     replace HB := am (below_step (bws HB.out) hb)
     (try clear hb)
     (try clear hb2)
     (try clear hk)
     (try clear hi)
     refine hK.out _ _ ⟨(blk_cell BK132.out 0).trans rfl, (blk_cell BK132.out 1).trans rfl, (blk_cell BK132.out 2).trans rfl, (blk_cell BK132.out 3).trans rfl, (blk_cell BK132.out 4).trans rfl, (blk_cell BK132.out 5).trans rfl, (blk_cell BK132.out 6).trans rfl, (blk_cell BK132.out 7).trans rfl, (blk_cell BK132.out 8).trans rfl⟩ (fun hHeld => ?_)
     clear hK K
     refine norm_ (a' := ?_) ?_ ?_
     rotate_left
     ·
      show Act.put _ (some 19) _ = _
      simp only [Act.put, List.setIfInBounds_toArray, List.set_cons_zero, List.set_cons_succ, i64_w, i32_w]
      rfl
     refine pu 8 (some 20) HT_.out ?_
     refine pu 9 (some 21) HT_.out ?_
     refine pu 10 (some 22) HT_.out ?_
     refine pu 11 (some 23) HT_.out ?_
     refine tk 12 (some 24) HT_.out HW_.out hHeld ?_
     refine pu 13 (some 25) HT_.out ?_
     refine pu 14 (some 26) HT_.out ?_
     refine pu 15 (some 27) HT_.out ?_
     refine tk 16 (some 28) HT_.out HW_.out hHeld ?_
     refine one_ (i := 17) (N := some 29) #[true, true, true, true, true, true, true, true, true, true, true, true, true, true, true, true, true, true, false, false, false] rfl rfl (one_of HT_.out (by kernel_rfl)) (by decide) (fun K hK => ?_)
     refine goes_ Tryd.func33 (by kernel_rfl) rfl #[.string a0_1] (by rfl) rfl rfl gl ?_
     with_reducible refine (names_Token.calls k a0_1 t148 _ A17.out).mono ?_
     rintro e w' ⟨rfl, ⟨nd, rfl⟩⟩
     refine ⟨_, rfl, ?_⟩
     refine hK.out _ _ ⟨(blk_cell BK132.out 0).trans rfl, (blk_cell BK132.out 1).trans rfl, (blk_cell BK132.out 2).trans rfl, (blk_cell BK132.out 3).trans rfl, (blk_cell BK132.out 4).trans rfl, (blk_cell BK132.out 5).trans rfl, (blk_cell BK132.out 6).trans rfl, (blk_cell BK132.out 7).trans rfl, (blk_cell BK132.out 8).trans rfl⟩ (fun hHeld => ?_)
     clear hK K
     refine norm_ (a' := ?_) ?_ ?_
     rotate_left
     ·
      show Act.put _ (some 29) _ = _
      simp only [Act.put, List.setIfInBounds_toArray, List.set_cons_zero, List.set_cons_succ, i64_w, i32_w]
      rfl
     refine pu 18 (some 30) HT_.out ?_
     refine pu 19 (some 31) HT_.out ?_
     refine pu 20 (some 32) HT_.out ?_
     refine done_ (done_of HT_.out (by kernel_rfl)) ?_
     try go_wp2
     go_meet
     case rel => exact ⟨_, (!t148), rs, H', ⟨om⟩, ⟨bk BK132.out⟩, ⟨bws HB.out⟩⟩
   · as_aux_lemma =>
    replace c10 := Bool.eq_false_iff.mpr c10
    subst c10
    rw [if_neg (show ¬ (false = true) by decide)] at H
    have H' := am H
    clear H
    try go_wp2
    replace BK132 := am (blk_drew BK132.out)
    replace HB := am (below_drew1 HB.out)
    refine start_ (n := 21) (S := fun w' => w'.cell? ⟨gb132, 0, none⟩ = some (.int .i64 a0_0) ∧ w'.cell? ⟨gb132, 1, none⟩ = some (.string a0_1) ∧ w'.cell? ⟨gb132, 2, none⟩ = some (.string a0_2) ∧ w'.cell? ⟨gb132, 3, none⟩ = some (.string a0_3) ∧ w'.cell? ⟨gb132, 4, none⟩ = some (.int .i64 a0_4) ∧ w'.cell? ⟨gb132, 5, none⟩ = some (.int .i64 a0_5) ∧ w'.cell? ⟨gb132, 6, none⟩ = some (.string a0_6) ∧ w'.cell? ⟨gb132, 7, none⟩ = some (.slice A0_7 l0_7.length c0_7) ∧ w'.cell? ⟨gb132, 8, none⟩ = some (.slice A0_8 l0_8.length c0_8)) (ds := []) #[false, false, false, false, false, false, false, false, false, false, false, false, false, false, false, false, false, false, false, false, false] (by kernel_rfl) rfl rfl ⟨(blk_cell BK132.out 0).trans rfl, (blk_cell BK132.out 1).trans rfl, (blk_cell BK132.out 2).trans rfl, (blk_cell BK132.out 3).trans rfl, (blk_cell BK132.out 4).trans rfl, (blk_cell BK132.out 5).trans rfl, (blk_cell BK132.out 6).trans rfl, (blk_cell BK132.out 7).trans rfl, (blk_cell BK132.out 8).trans rfl⟩ (fun hHeld => ?_); refine with_tabW cmd_Check.tab2 cmd_Check.bits2 (fun HT_ HW_ => ?_)
    generalize w4.drew = w23 at BK132 HB hHeld ⊢
    refine pu 0 (some 12) HT_.out ?_
    refine pu 1 (some 13) HT_.out ?_
    refine pu 2 (some 14) HT_.out ?_
    refine pu 4 (some 16) HT_.out ?_
    refine tk 3 (some 15) HT_.out HW_.out hHeld ?_
    refine tk 6 (some 18) HT_.out HW_.out hHeld ?_
    refine one_ (i := 5) (N := some 17) #[true, true, true, true, true, true, true, false, false, false, false, false, false, false, false, false, false, false, false, false, false] rfl rfl (one_of HT_.out (by kernel_rfl)) (by decide) (fun K hK => ?_)
    refine goes_ Tryd.func32 (by kernel_rfl) rfl #[.agg #[.int .i64 a0_0, .string a0_1, .string a0_2, .string a0_3, .int .i64 a0_4, .int .i64 a0_5, .string a0_6, .slice A0_7 l0_7.length c0_7, .slice A0_8 l0_8.length c0_8], .int .i64 t133] (by rfl) rfl rfl gl ?_
    with_reducible refine (cmd_cut.calls a0_0 a0_1 a0_2 a0_3 a0_4 a0_5 a0_6 _ _ l0_7 _ _ l0_8 t133 t134 t135 t136 t137 t138 t139 t140 t141 t144 _ ?side1 ?side2 ?side3 ?side4 A8.out).mono ?_
    (case side1 => exact kC (Kd.C_below HR0_7.out HB.out))
    (case side2 => exact HC0_7.out)
    (case side3 => exact kC (Kd.C_below HR0_8.out HB.out))
    (case side4 => exact HC0_8.out)
    rintro e w24 ⟨v142, v145, rfl, ho0, ho1, hb⟩
    refine ⟨_, rfl, ?_⟩
    have HO143 := am (Kd.R_lower ho0 (below_size (bws HB.out)))
    have HO146 := am (Kd.R_lower ho1 (below_size (bws HB.out)))
    replace BK132 := bb BK132.out hb
    replace HB := am (below_step (bws HB.out) hb)
    (try clear hb)
    (try clear hb2)
    (try clear hk)
    (try clear hi)
    (try clear ho0)
    (try clear ho1)
    obtain ⟨Ao25, co25, eo25⟩ := Kd.R_slice HO143.out
    (first | subst eo25 | (injection eo25 with f1_ f2_ f3_; have f4_ := f1_.symm; have f5_ := f3_.symm; clear f1_ f2_ f3_; subst f4_; subst f5_))
    obtain ⟨Ao26, co26, eo26⟩ := Kd.R_slice HO146.out
    (first | subst eo26 | (injection eo26 with f1_ f2_ f3_; have f4_ := f1_.symm; have f5_ := f3_.symm; clear f1_ f2_ f3_; subst f4_; subst f5_))
    refine hK.out _ _ ⟨(blk_cell BK132.out 0).trans rfl, (blk_cell BK132.out 1).trans rfl, (blk_cell BK132.out 2).trans rfl, (blk_cell BK132.out 3).trans rfl, (blk_cell BK132.out 4).trans rfl, (blk_cell BK132.out 5).trans rfl, (blk_cell BK132.out 6).trans rfl, (blk_cell BK132.out 7).trans rfl, (blk_cell BK132.out 8).trans rfl⟩ (fun hHeld => ?_)
    clear hK K
    refine norm_ (a' := ?_) ?_ ?_
    rotate_left
    ·
     show Act.put _ (some 17) _ = _
     simp only [Act.put, List.setIfInBounds_toArray, List.set_cons_zero, List.set_cons_succ, i64_w, i32_w]
     rfl
    refine one_ (i := 7) (N := some 19) #[true, true, true, true, true, true, true, true, false, false, false, false, false, false, false, false, false, false, false, false, false] rfl rfl (one_of HT_.out (by kernel_rfl)) (by decide) (fun K hK => ?_)
    refine goes_ Tryd.func31 (by kernel_rfl) rfl #[.agg #[.int .i64 t134, .string t135, .string t136, .string t137, .int .i64 t138, .int .i64 t139, .string t140, .slice Ao25 t141.length co25, .slice Ao26 t144.length co26], .agg #[.int .i64 a0_0, .string a0_1, .string a0_2, .string a0_3, .int .i64 a0_4, .int .i64 a0_5, .string a0_6, .slice A0_7 l0_7.length c0_7, .slice A0_8 l0_8.length c0_8]] (by rfl) rfl rfl gl ?_
    with_reducible refine (cmd_same.calls k t134 t135 t136 t137 t138 t139 t140 _ _ t141 _ _ t144 a0_0 a0_1 a0_2 a0_3 a0_4 a0_5 a0_6 _ _ l0_7 _ _ l0_8 false _ ?side1 ?side2 ?side3 ?side4 ?side5 ?side6 ?side7 ?side8 A9.out).mono ?_
    (case side1 => repeat (first | exact (Kd.R_reads' HO143.out).2.2 | (with_reducible refine Kd.C_alloc ?_ _) | (with_reducible refine Kd.C_drewN ?_ _) | (with_reducible refine Kd.C_drew ?_)))
    (case side2 => exact (Kd.R_reads' HO143.out).2.1)
    (case side3 => repeat (first | exact (Kd.R_reads' HO146.out).2.2 | (with_reducible refine Kd.C_alloc ?_ _) | (with_reducible refine Kd.C_drewN ?_ _) | (with_reducible refine Kd.C_drew ?_)))
    (case side4 => exact (Kd.R_reads' HO146.out).2.1)
    (case side5 => exact kC (Kd.C_below HR0_7.out HB.out))
    (case side6 => exact HC0_7.out)
    (case side7 => exact kC (Kd.C_below HR0_8.out HB.out))
    (case side8 => exact HC0_8.out)
    rintro e w27 ⟨rfl, hb⟩
    refine ⟨_, rfl, ?_⟩
    replace HO143 := am (Kd.R_below (kR HO143.out) hb)
    replace HO146 := am (Kd.R_below (kR HO146.out) hb)
    replace BK132 := bb BK132.out hb
    replace HB := am (below_step (bws HB.out) hb)
    (try clear hb)
    (try clear hb2)
    (try clear hk)
    (try clear hi)
    refine hK.out _ _ ⟨(blk_cell BK132.out 0).trans rfl, (blk_cell BK132.out 1).trans rfl, (blk_cell BK132.out 2).trans rfl, (blk_cell BK132.out 3).trans rfl, (blk_cell BK132.out 4).trans rfl, (blk_cell BK132.out 5).trans rfl, (blk_cell BK132.out 6).trans rfl, (blk_cell BK132.out 7).trans rfl, (blk_cell BK132.out 8).trans rfl⟩ (fun hHeld => ?_)
    clear hK K
    refine norm_ (a' := ?_) ?_ ?_
    rotate_left
    ·
     show Act.put _ (some 19) _ = _
     simp only [Act.put, List.setIfInBounds_toArray, List.set_cons_zero, List.set_cons_succ, i64_w, i32_w]
     rfl
    refine pu 8 (some 20) HT_.out ?_
    refine pu 9 (some 21) HT_.out ?_
    refine pu 10 (some 22) HT_.out ?_
    refine un 11 (some 23) HT_.out ?_
    refine un 12 (some 24) HT_.out ?_
    refine un 13 (some 25) HT_.out ?_
    refine un 14 (some 26) HT_.out ?_
    refine un 15 (some 27) HT_.out ?_
    refine un 16 (some 28) HT_.out ?_
    refine un 17 (some 29) HT_.out ?_
    refine un 18 (some 30) HT_.out ?_
    refine un 19 (some 31) HT_.out ?_
    refine pu 20 (some 32) HT_.out ?_
    refine done_ (done_of HT_.out (by kernel_rfl)) ?_
    try go_wp2
    go_meet
    case rel => exact ⟨_, (true), rs, H', ⟨om⟩, ⟨bk BK132.out⟩, ⟨bws HB.out⟩⟩
 case rest => as_aux_lemma =>
  clear HC3
  obtain ⟨kq, x32_2, rfl, HA, HJ2, BK132, HB⟩ := hcut
  cases kq with
  | zero => exact absurd HA.out (by simp [cmd_Check.j0])
  | succ kj2 =>
   have H := HA.out
   clear HA
   simp only [cmd_Check.j0] at H
   by_cases c28 : x32_2 = true
   ·
    subst c28
    rw [if_pos rfl] at H
    obtain rfl := Option.some.inj H
    go_wp2
    go_ret
    exact ⟨rf, bws HB.out⟩
   · as_aux_lemma =>
    replace c28 := Bool.eq_false_iff.mpr c28
    subst c28
    rw [if_neg (show ¬ (false = true) by decide)] at H
    replace H := obE H
    obtain ⟨⟨t149, t150⟩, A29, H⟩ := H
    try dsimp only at H
    have HC30 := am H
    clear H
    obtain ⟨hcz31_0, hcz31_1, hcz31_2, hcz31_3, hcz31_4, hcz31_5, hcz31_6, hcz31_7, hcz31_8, hfz31_0, hfz31_1, hfz31_2, hfz31_3, hfz31_4, hfz31_5, hfz31_6, hfz31_7, hfz31_8⟩ := cz9 BK132.out
    go_upto_region 5 with (first | ((with_reducible refine gate_callee (f := 34) rfl ?_); refine goesL_ (some 36) rfl rfl Tryd.func34 (by kernel_rfl) rfl #[.slice A0_7 l0_7.length c0_7] rfl gl ?_; (with_reducible refine (chain_Pieces.calls kj2 _ _ l0_7 t149 t150 _ ?side1 ?side2 A29.out).mono ?_); (case side1 => exact kC (Kd.C_below HR0_7.out HB.out)); (case side2 => exact HC0_7.out); rintro e w32 ⟨rfl, hb⟩; refine ⟨_, rfl, ?_⟩; replace BK132 := bb BK132.out hb; replace HB := am (below_step (bws HB.out) hb); (try clear hb)))
    (try simp only [Act.put, List.setIfInBounds_toArray, List.set_cons_zero, List.set_cons_succ])
    go_cut [6] (fun v6 wc => ∃ (kq : Nat) (x6_29 : Bool), v6 = .bool x6_29 ∧ Aside0 (cmd_Check.j1 kq t133 x6_29 a0_0 a0_1 a0_2 a0_3 a0_4 a0_5 a0_6 l0_7 l0_8 = some r) ∧ Aside0 (kq ≤ kj2) ∧ Aside0 (wc.heap[gb132]? = some (.cells #[.int .i64 a0_0, .string a0_1, .string a0_2, .string a0_3, .int .i64 a0_4, .int .i64 a0_5, .string a0_6, (.slice A0_7 l0_7.length c0_7), (.slice A0_8 l0_8.length c0_8)] 25 (0, 0))) ∧ Aside0 (Below w.heap.size w wc))
    case first => as_aux_lemma =>
     have H := HC30.out
     clear HC30
     by_cases c33 : (Go.bits .and .i64 t133 2) = 0
     · as_aux_lemma =>
      rw [if_pos c33] at H
      have c33b0 := beq_iff_eq.mpr c33
      have c33b1 := bne_eq_false_iff_eq.mpr c33
      clear c33
      (first | rw [c33b0] | (simp only [i64_w, i32_w]; rw [c33b0]) | skip)
      by_cases c34 : (Go.bits .and .i64 t133 4) = 0
      · as_aux_lemma =>
       rw [if_pos c34] at H
       have c34b0 := beq_iff_eq.mpr c34
       have c34b1 := bne_eq_false_iff_eq.mpr c34
       clear c34
       by_cases c35 : (Go.bits .and .i64 t133 32) = 0
       ·
        rw [if_pos c35] at H
        have c35b0 := beq_iff_eq.mpr c35
        have c35b1 := bne_eq_false_iff_eq.mpr c35
        clear c35
        by_cases c36 : t150 = 0
        ·
         rw [if_pos c36] at H
         have c36b0 := beq_iff_eq.mpr c36
         have c36b1 := bne_eq_false_iff_eq.mpr c36
         clear c36
         have H' := am H
         clear H
         go_wp2
         go_meet
         case rel => exact ⟨_, (decide (t149 > 1048576)), rs, H', ⟨by have := HJ2.out; first | omega | exact Nat.le_refl _⟩, ⟨bk BK132.out⟩, ⟨bws HB.out⟩⟩
        ·
         rw [if_neg c36] at H
         have c36b0 := beq_eq_false_iff_ne.mpr c36
         have c36b1 := bne_iff_ne.mpr c36
         have H' := am H
         clear H
         go_wp2
         go_meet
         case rel => exact ⟨_, (true), rs, H', ⟨by have := HJ2.out; first | omega | exact Nat.le_refl _⟩, ⟨bk BK132.out⟩, ⟨bws HB.out⟩⟩
       · as_aux_lemma =>
        rw [if_neg c35] at H
        have c35b0 := beq_eq_false_iff_ne.mpr c35
        have c35b1 := bne_iff_ne.mpr c35
        replace H := obE H
        obtain ⟨t151, A37, H⟩ := H
        by_cases c38 : t151 = true
        ·
         subst c38
         rw [if_pos rfl] at H
         by_cases c39 : t150 = 0
         ·
          rw [if_pos c39] at H
          have c39b0 := beq_iff_eq.mpr c39
          have c39b1 := bne_eq_false_iff_eq.mpr c39
          clear c39
          have H' := am H
          clear H
          obtain ⟨hcz40_0, hcz40_1, hcz40_2, hcz40_3, hcz40_4, hcz40_5, hcz40_6, hcz40_7, hcz40_8, hfz40_0, hfz40_1, hfz40_2, hfz40_3, hfz40_4, hfz40_5, hfz40_6, hfz40_7, hfz40_8⟩ := cz9 BK132.out
          go_wp2_with (first | (go_at_call 37; (with_reducible refine (cmd_digits.calls a0_6 true _ A37.out).mono ?_); rintro e w41 ⟨rfl, hb⟩; replace BK132 := bb BK132.out hb; replace HB := am (below_step (bws HB.out) hb); (try clear hb)))
          go_meet
          case rel => exact ⟨_, (decide (t149 > 1048576)), rs, H', ⟨by have := HJ2.out; first | omega | exact Nat.le_refl _⟩, ⟨bk BK132.out⟩, ⟨bws HB.out⟩⟩
         ·
          rw [if_neg c39] at H
          have c39b0 := beq_eq_false_iff_ne.mpr c39
          have c39b1 := bne_iff_ne.mpr c39
          have H' := am H
          clear H
          obtain ⟨hcz42_0, hcz42_1, hcz42_2, hcz42_3, hcz42_4, hcz42_5, hcz42_6, hcz42_7, hcz42_8, hfz42_0, hfz42_1, hfz42_2, hfz42_3, hfz42_4, hfz42_5, hfz42_6, hfz42_7, hfz42_8⟩ := cz9 BK132.out
          go_wp2_with (first | (go_at_call 37; (with_reducible refine (cmd_digits.calls a0_6 true _ A37.out).mono ?_); rintro e w43 ⟨rfl, hb⟩; replace BK132 := bb BK132.out hb; replace HB := am (below_step (bws HB.out) hb); (try clear hb)))
          go_meet
          case rel => exact ⟨_, (true), rs, H', ⟨by have := HJ2.out; first | omega | exact Nat.le_refl _⟩, ⟨bk BK132.out⟩, ⟨bws HB.out⟩⟩
        ·
         replace c38 := Bool.eq_false_iff.mpr c38
         subst c38
         rw [if_neg (show ¬ (false = true) by decide)] at H
         have H' := am H
         clear H
         obtain ⟨hcz44_0, hcz44_1, hcz44_2, hcz44_3, hcz44_4, hcz44_5, hcz44_6, hcz44_7, hcz44_8, hfz44_0, hfz44_1, hfz44_2, hfz44_3, hfz44_4, hfz44_5, hfz44_6, hfz44_7, hfz44_8⟩ := cz9 BK132.out
         go_wp2_with (first | (go_at_call 37; (with_reducible refine (cmd_digits.calls a0_6 false _ A37.out).mono ?_); rintro e w45 ⟨rfl, hb⟩; replace BK132 := bb BK132.out hb; replace HB := am (below_step (bws HB.out) hb); (try clear hb)))
         go_meet
         case rel => exact ⟨_, (true), rs, H', ⟨by have := HJ2.out; first | omega | exact Nat.le_refl _⟩, ⟨bk BK132.out⟩, ⟨bws HB.out⟩⟩
      · as_aux_lemma =>
       rw [if_neg c34] at H
       have c34b0 := beq_eq_false_iff_ne.mpr c34
       have c34b1 := bne_iff_ne.mpr c34
       replace H := obE H
       obtain ⟨t152, A46, H⟩ := H
       by_cases c47 : t152 = true
       · as_aux_lemma =>
        subst c47
        rw [if_pos rfl] at H
        by_cases c48 : (Go.bits .and .i64 t133 32) = 0
        ·
         rw [if_pos c48] at H
         have c48b0 := beq_iff_eq.mpr c48
         have c48b1 := bne_eq_false_iff_eq.mpr c48
         clear c48
         by_cases c49 : t150 = 0
         ·
          rw [if_pos c49] at H
          have c49b0 := beq_iff_eq.mpr c49
          have c49b1 := bne_eq_false_iff_eq.mpr c49
          clear c49
          have H' := am H
          clear H
          obtain ⟨hcz50_0, hcz50_1, hcz50_2, hcz50_3, hcz50_4, hcz50_5, hcz50_6, hcz50_7, hcz50_8, hfz50_0, hfz50_1, hfz50_2, hfz50_3, hfz50_4, hfz50_5, hfz50_6, hfz50_7, hfz50_8⟩ := cz9 BK132.out
          go_wp2_with (first | (go_at_call 36; (with_reducible refine (names_Key.calls a0_3 true _ A46.out ?sideG).mono ?_); (case sideG => first | exact HG.out | exact gg_below HG.out (bws HB.out)); rintro e w' ⟨rfl, ⟨nd, rfl⟩⟩))
          go_meet
          case rel => exact ⟨_, (decide (t149 > 1048576)), rs, H', ⟨by have := HJ2.out; first | omega | exact Nat.le_refl _⟩, ⟨bk BK132.out⟩, ⟨bws HB.out⟩⟩
         ·
          rw [if_neg c49] at H
          have c49b0 := beq_eq_false_iff_ne.mpr c49
          have c49b1 := bne_iff_ne.mpr c49
          have H' := am H
          clear H
          obtain ⟨hcz51_0, hcz51_1, hcz51_2, hcz51_3, hcz51_4, hcz51_5, hcz51_6, hcz51_7, hcz51_8, hfz51_0, hfz51_1, hfz51_2, hfz51_3, hfz51_4, hfz51_5, hfz51_6, hfz51_7, hfz51_8⟩ := cz9 BK132.out
          go_wp2_with (first | (go_at_call 36; (with_reducible refine (names_Key.calls a0_3 true _ A46.out ?sideG).mono ?_); (case sideG => first | exact HG.out | exact gg_below HG.out (bws HB.out)); rintro e w' ⟨rfl, ⟨nd, rfl⟩⟩))
          go_meet
          case rel => exact ⟨_, (true), rs, H', ⟨by have := HJ2.out; first | omega | exact Nat.le_refl _⟩, ⟨bk BK132.out⟩, ⟨bws HB.out⟩⟩
        · as_aux_lemma =>
         rw [if_neg c48] at H
         have c48b0 := beq_eq_false_iff_ne.mpr c48
         have c48b1 := bne_iff_ne.mpr c48
         replace H := obE H
         obtain ⟨t153, A52, H⟩ := H
         by_cases c53 : t153 = true
         ·
          subst c53
          rw [if_pos rfl] at H
          by_cases c54 : t150 = 0
          ·
           rw [if_pos c54] at H
           have c54b0 := beq_iff_eq.mpr c54
           have c54b1 := bne_eq_false_iff_eq.mpr c54
           clear c54
           have H' := am H
           clear H
           obtain ⟨hcz55_0, hcz55_1, hcz55_2, hcz55_3, hcz55_4, hcz55_5, hcz55_6, hcz55_7, hcz55_8, hfz55_0, hfz55_1, hfz55_2, hfz55_3, hfz55_4, hfz55_5, hfz55_6, hfz55_7, hfz55_8⟩ := cz9 BK132.out
           go_wp2_with (first | (go_at_call 36; (with_reducible refine (names_Key.calls a0_3 true _ A46.out ?sideG).mono ?_); (case sideG => first | exact HG.out | exact gg_below HG.out (bws HB.out)); rintro e w' ⟨rfl, ⟨nd, rfl⟩⟩) | (go_at_call 37; (with_reducible refine (cmd_digits.calls a0_6 true _ A52.out).mono ?_); rintro e w56 ⟨rfl, hb⟩; replace BK132 := bb BK132.out hb; replace HB := am (below_step (bws HB.out) hb); (try clear hb)))
           go_meet
           case rel => exact ⟨_, (decide (t149 > 1048576)), rs, H', ⟨by have := HJ2.out; first | omega | exact Nat.le_refl _⟩, ⟨bk BK132.out⟩, ⟨bws HB.out⟩⟩
          ·
           rw [if_neg c54] at H
           have c54b0 := beq_eq_false_iff_ne.mpr c54
           have c54b1 := bne_iff_ne.mpr c54
           have H' := am H
           clear H
           obtain ⟨hcz57_0, hcz57_1, hcz57_2, hcz57_3, hcz57_4, hcz57_5, hcz57_6, hcz57_7, hcz57_8, hfz57_0, hfz57_1, hfz57_2, hfz57_3, hfz57_4, hfz57_5, hfz57_6, hfz57_7, hfz57_8⟩ := cz9 BK132.out
           go_wp2_with (first | (go_at_call 36; (with_reducible refine (names_Key.calls a0_3 true _ A46.out ?sideG).mono ?_); (case sideG => first | exact HG.out | exact gg_below HG.out (bws HB.out)); rintro e w' ⟨rfl, ⟨nd, rfl⟩⟩) | (go_at_call 37; (with_reducible refine (cmd_digits.calls a0_6 true _ A52.out).mono ?_); rintro e w58 ⟨rfl, hb⟩; replace BK132 := bb BK132.out hb; replace HB := am (below_step (bws HB.out) hb); (try clear hb)))
           go_meet
           case rel => exact ⟨_, (true), rs, H', ⟨by have := HJ2.out; first | omega | exact Nat.le_refl _⟩, ⟨bk BK132.out⟩, ⟨bws HB.out⟩⟩
         ·
          replace c53 := Bool.eq_false_iff.mpr c53
          subst c53
          rw [if_neg (show ¬ (false = true) by decide)] at H
          have H' := am H
          clear H
          obtain ⟨hcz59_0, hcz59_1, hcz59_2, hcz59_3, hcz59_4, hcz59_5, hcz59_6, hcz59_7, hcz59_8, hfz59_0, hfz59_1, hfz59_2, hfz59_3, hfz59_4, hfz59_5, hfz59_6, hfz59_7, hfz59_8⟩ := cz9 BK132.out
          go_wp2_with (first | (go_at_call 36; (with_reducible refine (names_Key.calls a0_3 true _ A46.out ?sideG).mono ?_); (case sideG => first | exact HG.out | exact gg_below HG.out (bws HB.out)); rintro e w' ⟨rfl, ⟨nd, rfl⟩⟩) | (go_at_call 37; (with_reducible refine (cmd_digits.calls a0_6 false _ A52.out).mono ?_); rintro e w60 ⟨rfl, hb⟩; replace BK132 := bb BK132.out hb; replace HB := am (below_step (bws HB.out) hb); (try clear hb)))
          go_meet
          case rel => exact ⟨_, (true), rs, H', ⟨by have := HJ2.out; first | omega | exact Nat.le_refl _⟩, ⟨bk BK132.out⟩, ⟨bws HB.out⟩⟩
       ·
        replace c47 := Bool.eq_false_iff.mpr c47
        subst c47
        rw [if_neg (show ¬ (false = true) by decide)] at H
        have H' := am H
        clear H
        obtain ⟨hcz61_0, hcz61_1, hcz61_2, hcz61_3, hcz61_4, hcz61_5, hcz61_6, hcz61_7, hcz61_8, hfz61_0, hfz61_1, hfz61_2, hfz61_3, hfz61_4, hfz61_5, hfz61_6, hfz61_7, hfz61_8⟩ := cz9 BK132.out
        go_wp2_with (first | (go_at_call 36; (with_reducible refine (names_Key.calls a0_3 false _ A46.out ?sideG).mono ?_); (case sideG => first | exact HG.out | exact gg_below HG.out (bws HB.out)); rintro e w' ⟨rfl, ⟨nd, rfl⟩⟩))
        go_meet
        case rel => exact ⟨_, (true), rs, H', ⟨by have := HJ2.out; first | omega | exact Nat.le_refl _⟩, ⟨bk BK132.out⟩, ⟨bws HB.out⟩⟩
     · as_aux_lemma =>
      rw [if_neg c33] at H
      have c33b0 := beq_eq_false_iff_ne.mpr c33
      have c33b1 := bne_iff_ne.mpr c33
      (first | rw [c33b0] | (simp only [i64_w, i32_w]; rw [c33b0]) | skip)
      replace H := obE H
      obtain ⟨t154, A62, H⟩ := H
      by_cases c63 : t154 = true
      · as_aux_lemma =>
       subst c63
       rw [if_pos rfl] at H
       by_cases c64 : (Go.bits .and .i64 t133 4) = 0
       · as_aux_lemma =>
        rw [if_pos c64] at H
        have c64b0 := beq_iff_eq.mpr c64
        have c64b1 := bne_eq_false_iff_eq.mpr c64
        clear c64
        by_cases c65 : (Go.bits .and .i64 t133 32) = 0
        ·
         rw [if_pos c65] at H
         have c65b0 := beq_iff_eq.mpr c65
         have c65b1 := bne_eq_false_iff_eq.mpr c65
         clear c65
         by_cases c66 : t150 = 0
         ·
          rw [if_pos c66] at H
          have c66b0 := beq_iff_eq.mpr c66
          have c66b1 := bne_eq_false_iff_eq.mpr c66
          clear c66
          have H' := am H
          clear H
          obtain ⟨hcz67_0, hcz67_1, hcz67_2, hcz67_3, hcz67_4, hcz67_5, hcz67_6, hcz67_7, hcz67_8, hfz67_0, hfz67_1, hfz67_2, hfz67_3, hfz67_4, hfz67_5, hfz67_6, hfz67_7, hfz67_8⟩ := cz9 BK132.out
          go_wp2_with (first | (go_at_call 35; (with_reducible refine (names_Bucket.calls kj2 a0_2 true _ A62.out ?sideG).mono ?_); (case sideG => first | exact HG.out | exact gg_below HG.out (bws HB.out)); rintro e w' ⟨rfl, ⟨nd, rfl⟩⟩))
          go_meet
          case rel => exact ⟨_, (decide (t149 > 1048576)), rs, H', ⟨by have := HJ2.out; first | omega | exact Nat.le_refl _⟩, ⟨bk BK132.out⟩, ⟨bws HB.out⟩⟩
         ·
          rw [if_neg c66] at H
          have c66b0 := beq_eq_false_iff_ne.mpr c66
          have c66b1 := bne_iff_ne.mpr c66
          have H' := am H
          clear H
          obtain ⟨hcz68_0, hcz68_1, hcz68_2, hcz68_3, hcz68_4, hcz68_5, hcz68_6, hcz68_7, hcz68_8, hfz68_0, hfz68_1, hfz68_2, hfz68_3, hfz68_4, hfz68_5, hfz68_6, hfz68_7, hfz68_8⟩ := cz9 BK132.out
          go_wp2_with (first | (go_at_call 35; (with_reducible refine (names_Bucket.calls kj2 a0_2 true _ A62.out ?sideG).mono ?_); (case sideG => first | exact HG.out | exact gg_below HG.out (bws HB.out)); rintro e w' ⟨rfl, ⟨nd, rfl⟩⟩))
          go_meet
          case rel => exact ⟨_, (true), rs, H', ⟨by have := HJ2.out; first | omega | exact Nat.le_refl _⟩, ⟨bk BK132.out⟩, ⟨bws HB.out⟩⟩
        · as_aux_lemma =>
         rw [if_neg c65] at H
         have c65b0 := beq_eq_false_iff_ne.mpr c65
         have c65b1 := bne_iff_ne.mpr c65
         replace H := obE H
         obtain ⟨t155, A69, H⟩ := H
         by_cases c70 : t155 = true
         ·
          subst c70
          rw [if_pos rfl] at H
          by_cases c71 : t150 = 0
          ·
           rw [if_pos c71] at H
           have c71b0 := beq_iff_eq.mpr c71
           have c71b1 := bne_eq_false_iff_eq.mpr c71
           clear c71
           have H' := am H
           clear H
           obtain ⟨hcz72_0, hcz72_1, hcz72_2, hcz72_3, hcz72_4, hcz72_5, hcz72_6, hcz72_7, hcz72_8, hfz72_0, hfz72_1, hfz72_2, hfz72_3, hfz72_4, hfz72_5, hfz72_6, hfz72_7, hfz72_8⟩ := cz9 BK132.out
           go_wp2_with (first | (go_at_call 35; (with_reducible refine (names_Bucket.calls kj2 a0_2 true _ A62.out ?sideG).mono ?_); (case sideG => first | exact HG.out | exact gg_below HG.out (bws HB.out)); rintro e w' ⟨rfl, ⟨nd, rfl⟩⟩) | (go_at_call 37; (with_reducible refine (cmd_digits.calls a0_6 true _ A69.out).mono ?_); rintro e w73 ⟨rfl, hb⟩; replace BK132 := bb BK132.out hb; replace HB := am (below_step (bws HB.out) hb); (try clear hb)))
           go_meet
           case rel => exact ⟨_, (decide (t149 > 1048576)), rs, H', ⟨by have := HJ2.out; first | omega | exact Nat.le_refl _⟩, ⟨bk BK132.out⟩, ⟨bws HB.out⟩⟩
          ·
           rw [if_neg c71] at H
           have c71b0 := beq_eq_false_iff_ne.mpr c71
           have c71b1 := bne_iff_ne.mpr c71
           have H' := am H
           clear H
           obtain ⟨hcz74_0, hcz74_1, hcz74_2, hcz74_3, hcz74_4, hcz74_5, hcz74_6, hcz74_7, hcz74_8, hfz74_0, hfz74_1, hfz74_2, hfz74_3, hfz74_4, hfz74_5, hfz74_6, hfz74_7, hfz74_8⟩ := cz9 BK132.out
           go_wp2_with (first | (go_at_call 35; (with_reducible refine (names_Bucket.calls kj2 a0_2 true _ A62.out ?sideG).mono ?_); (case sideG => first | exact HG.out | exact gg_below HG.out (bws HB.out)); rintro e w' ⟨rfl, ⟨nd, rfl⟩⟩) | (go_at_call 37; (with_reducible refine (cmd_digits.calls a0_6 true _ A69.out).mono ?_); rintro e w75 ⟨rfl, hb⟩; replace BK132 := bb BK132.out hb; replace HB := am (below_step (bws HB.out) hb); (try clear hb)))
           go_meet
           case rel => exact ⟨_, (true), rs, H', ⟨by have := HJ2.out; first | omega | exact Nat.le_refl _⟩, ⟨bk BK132.out⟩, ⟨bws HB.out⟩⟩
         ·
          replace c70 := Bool.eq_false_iff.mpr c70
          subst c70
          rw [if_neg (show ¬ (false = true) by decide)] at H
          have H' := am H
          clear H
          obtain ⟨hcz76_0, hcz76_1, hcz76_2, hcz76_3, hcz76_4, hcz76_5, hcz76_6, hcz76_7, hcz76_8, hfz76_0, hfz76_1, hfz76_2, hfz76_3, hfz76_4, hfz76_5, hfz76_6, hfz76_7, hfz76_8⟩ := cz9 BK132.out
          go_wp2_with (first | (go_at_call 35; (with_reducible refine (names_Bucket.calls kj2 a0_2 true _ A62.out ?sideG).mono ?_); (case sideG => first | exact HG.out | exact gg_below HG.out (bws HB.out)); rintro e w' ⟨rfl, ⟨nd, rfl⟩⟩) | (go_at_call 37; (with_reducible refine (cmd_digits.calls a0_6 false _ A69.out).mono ?_); rintro e w77 ⟨rfl, hb⟩; replace BK132 := bb BK132.out hb; replace HB := am (below_step (bws HB.out) hb); (try clear hb)))
          go_meet
          case rel => exact ⟨_, (true), rs, H', ⟨by have := HJ2.out; first | omega | exact Nat.le_refl _⟩, ⟨bk BK132.out⟩, ⟨bws HB.out⟩⟩
       · as_aux_lemma =>
        rw [if_neg c64] at H
        have c64b0 := beq_eq_false_iff_ne.mpr c64
        have c64b1 := bne_iff_ne.mpr c64
        replace H := obE H
        obtain ⟨t156, A78, H⟩ := H
        by_cases c79 : t156 = true
        · as_aux_lemma =>
         subst c79
         rw [if_pos rfl] at H
         by_cases c80 : (Go.bits .and .i64 t133 32) = 0
         ·
          rw [if_pos c80] at H
          have c80b0 := beq_iff_eq.mpr c80
          have c80b1 := bne_eq_false_iff_eq.mpr c80
          clear c80
          by_cases c81 : t150 = 0
          ·
           rw [if_pos c81] at H
           have c81b0 := beq_iff_eq.mpr c81
           have c81b1 := bne_eq_false_iff_eq.mpr c81
           clear c81
           have H' := am H
           clear H
           obtain ⟨hcz82_0, hcz82_1, hcz82_2, hcz82_3, hcz82_4, hcz82_5, hcz82_6, hcz82_7, hcz82_8, hfz82_0, hfz82_1, hfz82_2, hfz82_3, hfz82_4, hfz82_5, hfz82_6, hfz82_7, hfz82_8⟩ := cz9 BK132.out
           go_wp2_with (first | (go_at_call 35; (with_reducible refine (names_Bucket.calls kj2 a0_2 true _ A62.out ?sideG).mono ?_); (case sideG => first | exact HG.out | exact gg_below HG.out (bws HB.out)); rintro e w' ⟨rfl, ⟨nd, rfl⟩⟩) | (go_at_call 36; (with_reducible refine (names_Key.calls a0_3 true _ A78.out ?sideG).mono ?_); (case sideG => first | exact HG.out | exact gg_below HG.out (bws HB.out)); rintro e w' ⟨rfl, ⟨nd, rfl⟩⟩))
           go_meet
           case rel => exact ⟨_, (decide (t149 > 1048576)), rs, H', ⟨by have := HJ2.out; first | omega | exact Nat.le_refl _⟩, ⟨bk BK132.out⟩, ⟨bws HB.out⟩⟩
          ·
           rw [if_neg c81] at H
           have c81b0 := beq_eq_false_iff_ne.mpr c81
           have c81b1 := bne_iff_ne.mpr c81
           have H' := am H
           clear H
           obtain ⟨hcz83_0, hcz83_1, hcz83_2, hcz83_3, hcz83_4, hcz83_5, hcz83_6, hcz83_7, hcz83_8, hfz83_0, hfz83_1, hfz83_2, hfz83_3, hfz83_4, hfz83_5, hfz83_6, hfz83_7, hfz83_8⟩ := cz9 BK132.out
           go_wp2_with (first | (go_at_call 35; (with_reducible refine (names_Bucket.calls kj2 a0_2 true _ A62.out ?sideG).mono ?_); (case sideG => first | exact HG.out | exact gg_below HG.out (bws HB.out)); rintro e w' ⟨rfl, ⟨nd, rfl⟩⟩) | (go_at_call 36; (with_reducible refine (names_Key.calls a0_3 true _ A78.out ?sideG).mono ?_); (case sideG => first | exact HG.out | exact gg_below HG.out (bws HB.out)); rintro e w' ⟨rfl, ⟨nd, rfl⟩⟩))
           go_meet
           case rel => exact ⟨_, (true), rs, H', ⟨by have := HJ2.out; first | omega | exact Nat.le_refl _⟩, ⟨bk BK132.out⟩, ⟨bws HB.out⟩⟩
         · as_aux_lemma =>
          rw [if_neg c80] at H
          have c80b0 := beq_eq_false_iff_ne.mpr c80
          have c80b1 := bne_iff_ne.mpr c80
          replace H := obE H
          obtain ⟨t157, A84, H⟩ := H
          by_cases c85 : t157 = true
          ·
           subst c85
           rw [if_pos rfl] at H
           by_cases c86 : t150 = 0
           ·
            rw [if_pos c86] at H
            have c86b0 := beq_iff_eq.mpr c86
            have c86b1 := bne_eq_false_iff_eq.mpr c86
            clear c86
            have H' := am H
            clear H
            obtain ⟨hcz87_0, hcz87_1, hcz87_2, hcz87_3, hcz87_4, hcz87_5, hcz87_6, hcz87_7, hcz87_8, hfz87_0, hfz87_1, hfz87_2, hfz87_3, hfz87_4, hfz87_5, hfz87_6, hfz87_7, hfz87_8⟩ := cz9 BK132.out
            go_wp2_with (first | (go_at_call 35; (with_reducible refine (names_Bucket.calls kj2 a0_2 true _ A62.out ?sideG).mono ?_); (case sideG => first | exact HG.out | exact gg_below HG.out (bws HB.out)); rintro e w' ⟨rfl, ⟨nd, rfl⟩⟩) | (go_at_call 36; (with_reducible refine (names_Key.calls a0_3 true _ A78.out ?sideG).mono ?_); (case sideG => first | exact HG.out | exact gg_below HG.out (bws HB.out)); rintro e w' ⟨rfl, ⟨nd, rfl⟩⟩) | (go_at_call 37; (with_reducible refine (cmd_digits.calls a0_6 true _ A84.out).mono ?_); rintro e w88 ⟨rfl, hb⟩; replace BK132 := bb BK132.out hb; replace HB := am (below_step (bws HB.out) hb); (try clear hb)))
            go_meet
            case rel => exact ⟨_, (decide (t149 > 1048576)), rs, H', ⟨by have := HJ2.out; first | omega | exact Nat.le_refl _⟩, ⟨bk BK132.out⟩, ⟨bws HB.out⟩⟩
           ·
            rw [if_neg c86] at H
            have c86b0 := beq_eq_false_iff_ne.mpr c86
            have c86b1 := bne_iff_ne.mpr c86
            have H' := am H
            clear H
            obtain ⟨hcz89_0, hcz89_1, hcz89_2, hcz89_3, hcz89_4, hcz89_5, hcz89_6, hcz89_7, hcz89_8, hfz89_0, hfz89_1, hfz89_2, hfz89_3, hfz89_4, hfz89_5, hfz89_6, hfz89_7, hfz89_8⟩ := cz9 BK132.out
            go_wp2_with (first | (go_at_call 35; (with_reducible refine (names_Bucket.calls kj2 a0_2 true _ A62.out ?sideG).mono ?_); (case sideG => first | exact HG.out | exact gg_below HG.out (bws HB.out)); rintro e w' ⟨rfl, ⟨nd, rfl⟩⟩) | (go_at_call 36; (with_reducible refine (names_Key.calls a0_3 true _ A78.out ?sideG).mono ?_); (case sideG => first | exact HG.out | exact gg_below HG.out (bws HB.out)); rintro e w' ⟨rfl, ⟨nd, rfl⟩⟩) | (go_at_call 37; (with_reducible refine (cmd_digits.calls a0_6 true _ A84.out).mono ?_); rintro e w90 ⟨rfl, hb⟩; replace BK132 := bb BK132.out hb; replace HB := am (below_step (bws HB.out) hb); (try clear hb)))
            go_meet
            case rel => exact ⟨_, (true), rs, H', ⟨by have := HJ2.out; first | omega | exact Nat.le_refl _⟩, ⟨bk BK132.out⟩, ⟨bws HB.out⟩⟩
          ·
           replace c85 := Bool.eq_false_iff.mpr c85
           subst c85
           rw [if_neg (show ¬ (false = true) by decide)] at H
           have H' := am H
           clear H
           obtain ⟨hcz91_0, hcz91_1, hcz91_2, hcz91_3, hcz91_4, hcz91_5, hcz91_6, hcz91_7, hcz91_8, hfz91_0, hfz91_1, hfz91_2, hfz91_3, hfz91_4, hfz91_5, hfz91_6, hfz91_7, hfz91_8⟩ := cz9 BK132.out
           go_wp2_with (first | (go_at_call 35; (with_reducible refine (names_Bucket.calls kj2 a0_2 true _ A62.out ?sideG).mono ?_); (case sideG => first | exact HG.out | exact gg_below HG.out (bws HB.out)); rintro e w' ⟨rfl, ⟨nd, rfl⟩⟩) | (go_at_call 36; (with_reducible refine (names_Key.calls a0_3 true _ A78.out ?sideG).mono ?_); (case sideG => first | exact HG.out | exact gg_below HG.out (bws HB.out)); rintro e w' ⟨rfl, ⟨nd, rfl⟩⟩) | (go_at_call 37; (with_reducible refine (cmd_digits.calls a0_6 false _ A84.out).mono ?_); rintro e w92 ⟨rfl, hb⟩; replace BK132 := bb BK132.out hb; replace HB := am (below_step (bws HB.out) hb); (try clear hb)))
           go_meet
           case rel => exact ⟨_, (true), rs, H', ⟨by have := HJ2.out; first | omega | exact Nat.le_refl _⟩, ⟨bk BK132.out⟩, ⟨bws HB.out⟩⟩
        ·
         replace c79 := Bool.eq_false_iff.mpr c79
         subst c79
         rw [if_neg (show ¬ (false = true) by decide)] at H
         have H' := am H
         clear H
         obtain ⟨hcz93_0, hcz93_1, hcz93_2, hcz93_3, hcz93_4, hcz93_5, hcz93_6, hcz93_7, hcz93_8, hfz93_0, hfz93_1, hfz93_2, hfz93_3, hfz93_4, hfz93_5, hfz93_6, hfz93_7, hfz93_8⟩ := cz9 BK132.out
         go_wp2_with (first | (go_at_call 35; (with_reducible refine (names_Bucket.calls kj2 a0_2 true _ A62.out ?sideG).mono ?_); (case sideG => first | exact HG.out | exact gg_below HG.out (bws HB.out)); rintro e w' ⟨rfl, ⟨nd, rfl⟩⟩) | (go_at_call 36; (with_reducible refine (names_Key.calls a0_3 false _ A78.out ?sideG).mono ?_); (case sideG => first | exact HG.out | exact gg_below HG.out (bws HB.out)); rintro e w' ⟨rfl, ⟨nd, rfl⟩⟩))
         go_meet
         case rel => exact ⟨_, (true), rs, H', ⟨by have := HJ2.out; first | omega | exact Nat.le_refl _⟩, ⟨bk BK132.out⟩, ⟨bws HB.out⟩⟩
      ·
       replace c63 := Bool.eq_false_iff.mpr c63
       subst c63
       rw [if_neg (show ¬ (false = true) by decide)] at H
       have H' := am H
       clear H
       obtain ⟨hcz94_0, hcz94_1, hcz94_2, hcz94_3, hcz94_4, hcz94_5, hcz94_6, hcz94_7, hcz94_8, hfz94_0, hfz94_1, hfz94_2, hfz94_3, hfz94_4, hfz94_5, hfz94_6, hfz94_7, hfz94_8⟩ := cz9 BK132.out
       go_wp2_with (first | (go_at_call 35; (with_reducible refine (names_Bucket.calls kj2 a0_2 false _ A62.out ?sideG).mono ?_); (case sideG => first | exact HG.out | exact gg_below HG.out (bws HB.out)); rintro e w' ⟨rfl, ⟨nd, rfl⟩⟩))
       go_meet
       case rel => exact ⟨_, (true), rs, H', ⟨by have := HJ2.out; first | omega | exact Nat.le_refl _⟩, ⟨bk BK132.out⟩, ⟨bws HB.out⟩⟩
    case rest => as_aux_lemma =>
     clear HC30
     obtain ⟨kq, x6_29, rfl, HA, HJ29, BK132, HB⟩ := hcut
     cases kq with
     | zero => exact absurd HA.out (by simp [cmd_Check.j1])
     | succ kj29 =>
      have H := HA.out
      clear HA
      simp only [cmd_Check.j1] at H
      have HC95 := am H
      clear H
      go_upto_region 6 with (fail)
      go_cut [6] (fun v6 wc => ∃ (kq : Nat) (x6_94 : Bool), v6 = .bool x6_94 ∧ Aside0 (cmd_Check.j2 kq x6_94 a0_0 a0_1 a0_2 a0_3 a0_4 a0_5 a0_6 l0_7 l0_8 = some r) ∧ Aside0 (kq ≤ kj29) ∧ Aside0 (wc.heap[gb132]? = some (.cells #[.int .i64 a0_0, .string a0_1, .string a0_2, .string a0_3, .int .i64 a0_4, .int .i64 a0_5, .string a0_6, (.slice A0_7 l0_7.length c0_7), (.slice A0_8 l0_8.length c0_8)] 25 (0, 0))) ∧ Aside0 (Below w.heap.size w wc))
      case first => as_aux_lemma =>
       have H := HC95.out
       clear HC95
       by_cases c96 : x6_29 = true
       ·
        subst c96
        rw [if_pos rfl] at H
        have H' := am H
        clear H
        go_wp2
        go_meet
        case rel => exact ⟨_, (true), rs, H', ⟨by have := HJ2.out; have := HJ29.out; first | omega | exact Nat.le_refl _⟩, ⟨bk BK132.out⟩, ⟨bws HB.out⟩⟩
       · as_aux_lemma =>
        replace c96 := Bool.eq_false_iff.mpr c96
        subst c96
        rw [if_neg (show ¬ (false = true) by decide)] at H
        replace H := iteD H
        rcases H with ⟨c97b0, H⟩ | ⟨c97b0, H⟩
        ·
         (first | rw [c97b0] | (simp only [i64_w, i32_w]; rw [c97b0]) | skip)
         have H' := am H
         clear H
         obtain ⟨hcz98_0, hcz98_1, hcz98_2, hcz98_3, hcz98_4, hcz98_5, hcz98_6, hcz98_7, hcz98_8, hfz98_0, hfz98_1, hfz98_2, hfz98_3, hfz98_4, hfz98_5, hfz98_6, hfz98_7, hfz98_8⟩ := cz9 BK132.out
         go_wp2
         go_meet
         case rel => exact ⟨_, (true), rs, H', ⟨by have := HJ2.out; have := HJ29.out; first | omega | exact Nat.le_refl _⟩, ⟨bk BK132.out⟩, ⟨bws HB.out⟩⟩
        · as_aux_lemma =>
         (first | rw [c97b0] | (simp only [i64_w, i32_w]; rw [c97b0]) | skip)
         replace H := iteD H
         rcases H with ⟨c99b0, H⟩ | ⟨c99b0, H⟩
         ·
          have H' := am H
          clear H
          obtain ⟨hcz100_0, hcz100_1, hcz100_2, hcz100_3, hcz100_4, hcz100_5, hcz100_6, hcz100_7, hcz100_8, hfz100_0, hfz100_1, hfz100_2, hfz100_3, hfz100_4, hfz100_5, hfz100_6, hfz100_7, hfz100_8⟩ := cz9 BK132.out
          go_wp2
          go_meet
          case rel => exact ⟨_, (true), rs, H', ⟨by have := HJ2.out; have := HJ29.out; first | omega | exact Nat.le_refl _⟩, ⟨bk BK132.out⟩, ⟨bws HB.out⟩⟩
         · as_aux_lemma =>
          by_cases c101 : (Go.bits .and .i64 t133 8) = 0
          · as_aux_lemma =>
           rw [if_pos c101] at H
           have c101b0 := beq_iff_eq.mpr c101
           have c101b1 := bne_eq_false_iff_eq.mpr c101
           clear c101
           replace H := iteD H
           rcases H with ⟨c102b0, H⟩ | ⟨c102b0, H⟩
           ·
            have H' := am H
            clear H
            obtain ⟨hcz103_0, hcz103_1, hcz103_2, hcz103_3, hcz103_4, hcz103_5, hcz103_6, hcz103_7, hcz103_8, hfz103_0, hfz103_1, hfz103_2, hfz103_3, hfz103_4, hfz103_5, hfz103_6, hfz103_7, hfz103_8⟩ := cz9 BK132.out
            go_wp2
            go_meet
            case rel => exact ⟨_, (true), rs, H', ⟨by have := HJ2.out; have := HJ29.out; first | omega | exact Nat.le_refl _⟩, ⟨bk BK132.out⟩, ⟨bws HB.out⟩⟩
           · as_aux_lemma =>
            replace H := iteD H
            rcases H with ⟨c104b0, H⟩ | ⟨c104b0, H⟩
            ·
             have H' := am H
             clear H
             obtain ⟨hcz105_0, hcz105_1, hcz105_2, hcz105_3, hcz105_4, hcz105_5, hcz105_6, hcz105_7, hcz105_8, hfz105_0, hfz105_1, hfz105_2, hfz105_3, hfz105_4, hfz105_5, hfz105_6, hfz105_7, hfz105_8⟩ := cz9 BK132.out
             go_wp2
             go_meet
             case rel => exact ⟨_, (true), rs, H', ⟨by have := HJ2.out; have := HJ29.out; first | omega | exact Nat.le_refl _⟩, ⟨bk BK132.out⟩, ⟨bws HB.out⟩⟩
            ·
             by_cases c106 : (Go.bits .and .i64 t133 16) = 0
             ·
              rw [if_pos c106] at H
              have c106b0 := beq_iff_eq.mpr c106
              have c106b1 := bne_eq_false_iff_eq.mpr c106
              clear c106
              have H' := am H
              clear H
              obtain ⟨hcz107_0, hcz107_1, hcz107_2, hcz107_3, hcz107_4, hcz107_5, hcz107_6, hcz107_7, hcz107_8, hfz107_0, hfz107_1, hfz107_2, hfz107_3, hfz107_4, hfz107_5, hfz107_6, hfz107_7, hfz107_8⟩ := cz9 BK132.out
              go_wp2
              go_meet
              case rel => exact ⟨_, (decide ((l0_8.length : Int) > 100)), rs, H', ⟨by have := HJ2.out; have := HJ29.out; first | omega | exact Nat.le_refl _⟩, ⟨bk BK132.out⟩, ⟨bws HB.out⟩⟩
             ·
              rw [if_neg c106] at H
              have c106b0 := beq_eq_false_iff_ne.mpr c106
              have c106b1 := bne_iff_ne.mpr c106
              by_cases c108 : a0_5 = 0
              ·
               rw [if_pos c108] at H
               have c108b0 := beq_iff_eq.mpr c108
               have c108b1 := bne_eq_false_iff_eq.mpr c108
               clear c108
               have H' := am H
               clear H
               obtain ⟨hcz109_0, hcz109_1, hcz109_2, hcz109_3, hcz109_4, hcz109_5, hcz109_6, hcz109_7, hcz109_8, hfz109_0, hfz109_1, hfz109_2, hfz109_3, hfz109_4, hfz109_5, hfz109_6, hfz109_7, hfz109_8⟩ := cz9 BK132.out
               go_wp2
               go_meet
               case rel => exact ⟨_, (true), rs, H', ⟨by have := HJ2.out; have := HJ29.out; first | omega | exact Nat.le_refl _⟩, ⟨bk BK132.out⟩, ⟨bws HB.out⟩⟩
              ·
               rw [if_neg c108] at H
               have c108b0 := beq_eq_false_iff_ne.mpr c108
               have c108b1 := bne_iff_ne.mpr c108
               have H' := am H
               clear H
               obtain ⟨hcz110_0, hcz110_1, hcz110_2, hcz110_3, hcz110_4, hcz110_5, hcz110_6, hcz110_7, hcz110_8, hfz110_0, hfz110_1, hfz110_2, hfz110_3, hfz110_4, hfz110_5, hfz110_6, hfz110_7, hfz110_8⟩ := cz9 BK132.out
               go_wp2
               go_meet
               case rel => exact ⟨_, (decide ((l0_8.length : Int) > 100)), rs, H', ⟨by have := HJ2.out; have := HJ29.out; first | omega | exact Nat.le_refl _⟩, ⟨bk BK132.out⟩, ⟨bws HB.out⟩⟩
          · as_aux_lemma =>
           rw [if_neg c101] at H
           have c101b0 := beq_eq_false_iff_ne.mpr c101
           have c101b1 := bne_iff_ne.mpr c101
           by_cases c111 : a0_4 = 0
           · as_aux_lemma =>
            rw [if_pos c111] at H
            have c111b0 := beq_iff_eq.mpr c111
            have c111b1 := bne_eq_false_iff_eq.mpr c111
            clear c111
            by_cases c112 : a0_0 = 10
            · as_aux_lemma =>
             rw [if_pos c112] at H
             have c112b0 := beq_iff_eq.mpr c112
             have c112b1 := bne_eq_false_iff_eq.mpr c112
             clear c112
             replace H := iteD H
             rcases H with ⟨c113b0, H⟩ | ⟨c113b0, H⟩
             ·
              have H' := am H
              clear H
              obtain ⟨hcz114_0, hcz114_1, hcz114_2, hcz114_3, hcz114_4, hcz114_5, hcz114_6, hcz114_7, hcz114_8, hfz114_0, hfz114_1, hfz114_2, hfz114_3, hfz114_4, hfz114_5, hfz114_6, hfz114_7, hfz114_8⟩ := cz9 BK132.out
              go_wp2
              go_meet
              case rel => exact ⟨_, (true), rs, H', ⟨by have := HJ2.out; have := HJ29.out; first | omega | exact Nat.le_refl _⟩, ⟨bk BK132.out⟩, ⟨bws HB.out⟩⟩
             · as_aux_lemma =>
              replace H := iteD H
              rcases H with ⟨c115b0, H⟩ | ⟨c115b0, H⟩
              ·
               have H' := am H
               clear H
               obtain ⟨hcz116_0, hcz116_1, hcz116_2, hcz116_3, hcz116_4, hcz116_5, hcz116_6, hcz116_7, hcz116_8, hfz116_0, hfz116_1, hfz116_2, hfz116_3, hfz116_4, hfz116_5, hfz116_6, hfz116_7, hfz116_8⟩ := cz9 BK132.out
               go_wp2
               go_meet
               case rel => exact ⟨_, (true), rs, H', ⟨by have := HJ2.out; have := HJ29.out; first | omega | exact Nat.le_refl _⟩, ⟨bk BK132.out⟩, ⟨bws HB.out⟩⟩
              ·
               by_cases c117 : (Go.bits .and .i64 t133 16) = 0
               ·
                rw [if_pos c117] at H
                have c117b0 := beq_iff_eq.mpr c117
                have c117b1 := bne_eq_false_iff_eq.mpr c117
                clear c117
                have H' := am H
                clear H
                obtain ⟨hcz118_0, hcz118_1, hcz118_2, hcz118_3, hcz118_4, hcz118_5, hcz118_6, hcz118_7, hcz118_8, hfz118_0, hfz118_1, hfz118_2, hfz118_3, hfz118_4, hfz118_5, hfz118_6, hfz118_7, hfz118_8⟩ := cz9 BK132.out
                go_wp2
                go_meet
                case rel => exact ⟨_, (decide ((l0_8.length : Int) > 100)), rs, H', ⟨by have := HJ2.out; have := HJ29.out; first | omega | exact Nat.le_refl _⟩, ⟨bk BK132.out⟩, ⟨bws HB.out⟩⟩
               ·
                rw [if_neg c117] at H
                have c117b0 := beq_eq_false_iff_ne.mpr c117
                have c117b1 := bne_iff_ne.mpr c117
                by_cases c119 : a0_5 = 0
                ·
                 rw [if_pos c119] at H
                 have c119b0 := beq_iff_eq.mpr c119
                 have c119b1 := bne_eq_false_iff_eq.mpr c119
                 clear c119
                 have H' := am H
                 clear H
                 obtain ⟨hcz120_0, hcz120_1, hcz120_2, hcz120_3, hcz120_4, hcz120_5, hcz120_6, hcz120_7, hcz120_8, hfz120_0, hfz120_1, hfz120_2, hfz120_3, hfz120_4, hfz120_5, hfz120_6, hfz120_7, hfz120_8⟩ := cz9 BK132.out
                 go_wp2
                 go_meet
                 case rel => exact ⟨_, (true), rs, H', ⟨by have := HJ2.out; have := HJ29.out; first | omega | exact Nat.le_refl _⟩, ⟨bk BK132.out⟩, ⟨bws HB.out⟩⟩
                ·
                 rw [if_neg c119] at H
                 have c119b0 := beq_eq_false_iff_ne.mpr c119
                 have c119b1 := bne_iff_ne.mpr c119
                 have H' := am H
                 clear H
                 obtain ⟨hcz121_0, hcz121_1, hcz121_2, hcz121_3, hcz121_4, hcz121_5, hcz121_6, hcz121_7, hcz121_8, hfz121_0, hfz121_1, hfz121_2, hfz121_3, hfz121_4, hfz121_5, hfz121_6, hfz121_7, hfz121_8⟩ := cz9 BK132.out
                 go_wp2
                 go_meet
                 case rel => exact ⟨_, (decide ((l0_8.length : Int) > 100)), rs, H', ⟨by have := HJ2.out; have := HJ29.out; first | omega | exact Nat.le_refl _⟩, ⟨bk BK132.out⟩, ⟨bws HB.out⟩⟩
            ·
             rw [if_neg c112] at H
             have c112b0 := beq_eq_false_iff_ne.mpr c112
             have c112b1 := bne_iff_ne.mpr c112
             have H' := am H
             clear H
             obtain ⟨hcz122_0, hcz122_1, hcz122_2, hcz122_3, hcz122_4, hcz122_5, hcz122_6, hcz122_7, hcz122_8, hfz122_0, hfz122_1, hfz122_2, hfz122_3, hfz122_4, hfz122_5, hfz122_6, hfz122_7, hfz122_8⟩ := cz9 BK132.out
             go_wp2
             go_meet
             case rel => exact ⟨_, (true), rs, H', ⟨by have := HJ2.out; have := HJ29.out; first | omega | exact Nat.le_refl _⟩, ⟨bk BK132.out⟩, ⟨bws HB.out⟩⟩
           · as_aux_lemma =>
            rw [if_neg c111] at H
            have c111b0 := beq_eq_false_iff_ne.mpr c111
            have c111b1 := bne_iff_ne.mpr c111
            replace H := iteD H
            rcases H with ⟨c123b0, H⟩ | ⟨c123b0, H⟩
            ·
             have H' := am H
             clear H
             obtain ⟨hcz124_0, hcz124_1, hcz124_2, hcz124_3, hcz124_4, hcz124_5, hcz124_6, hcz124_7, hcz124_8, hfz124_0, hfz124_1, hfz124_2, hfz124_3, hfz124_4, hfz124_5, hfz124_6, hfz124_7, hfz124_8⟩ := cz9 BK132.out
             go_wp2
             go_meet
             case rel => exact ⟨_, (true), rs, H', ⟨by have := HJ2.out; have := HJ29.out; first | omega | exact Nat.le_refl _⟩, ⟨bk BK132.out⟩, ⟨bws HB.out⟩⟩
            · as_aux_lemma =>
             replace H := iteD H
             rcases H with ⟨c125b0, H⟩ | ⟨c125b0, H⟩
             ·
              have H' := am H
              clear H
              obtain ⟨hcz126_0, hcz126_1, hcz126_2, hcz126_3, hcz126_4, hcz126_5, hcz126_6, hcz126_7, hcz126_8, hfz126_0, hfz126_1, hfz126_2, hfz126_3, hfz126_4, hfz126_5, hfz126_6, hfz126_7, hfz126_8⟩ := cz9 BK132.out
              go_wp2
              go_meet
              case rel => exact ⟨_, (true), rs, H', ⟨by have := HJ2.out; have := HJ29.out; first | omega | exact Nat.le_refl _⟩, ⟨bk BK132.out⟩, ⟨bws HB.out⟩⟩
             ·
              by_cases c127 : (Go.bits .and .i64 t133 16) = 0
              ·
               rw [if_pos c127] at H
               have c127b0 := beq_iff_eq.mpr c127
               have c127b1 := bne_eq_false_iff_eq.mpr c127
               clear c127
               have H' := am H
               clear H
               obtain ⟨hcz128_0, hcz128_1, hcz128_2, hcz128_3, hcz128_4, hcz128_5, hcz128_6, hcz128_7, hcz128_8, hfz128_0, hfz128_1, hfz128_2, hfz128_3, hfz128_4, hfz128_5, hfz128_6, hfz128_7, hfz128_8⟩ := cz9 BK132.out
               go_wp2
               go_meet
               case rel => exact ⟨_, (decide ((l0_8.length : Int) > 100)), rs, H', ⟨by have := HJ2.out; have := HJ29.out; first | omega | exact Nat.le_refl _⟩, ⟨bk BK132.out⟩, ⟨bws HB.out⟩⟩
              ·
               rw [if_neg c127] at H
               have c127b0 := beq_eq_false_iff_ne.mpr c127
               have c127b1 := bne_iff_ne.mpr c127
               by_cases c129 : a0_5 = 0
               ·
                rw [if_pos c129] at H
                have c129b0 := beq_iff_eq.mpr c129
                have c129b1 := bne_eq_false_iff_eq.mpr c129
                clear c129
                have H' := am H
                clear H
                obtain ⟨hcz130_0, hcz130_1, hcz130_2, hcz130_3, hcz130_4, hcz130_5, hcz130_6, hcz130_7, hcz130_8, hfz130_0, hfz130_1, hfz130_2, hfz130_3, hfz130_4, hfz130_5, hfz130_6, hfz130_7, hfz130_8⟩ := cz9 BK132.out
                go_wp2
                go_meet
                case rel => exact ⟨_, (true), rs, H', ⟨by have := HJ2.out; have := HJ29.out; first | omega | exact Nat.le_refl _⟩, ⟨bk BK132.out⟩, ⟨bws HB.out⟩⟩
               ·
                rw [if_neg c129] at H
                have c129b0 := beq_eq_false_iff_ne.mpr c129
                have c129b1 := bne_iff_ne.mpr c129
                have H' := am H
                clear H
                obtain ⟨hcz131_0, hcz131_1, hcz131_2, hcz131_3, hcz131_4, hcz131_5, hcz131_6, hcz131_7, hcz131_8, hfz131_0, hfz131_1, hfz131_2, hfz131_3, hfz131_4, hfz131_5, hfz131_6, hfz131_7, hfz131_8⟩ := cz9 BK132.out
                go_wp2
                go_meet
                case rel => exact ⟨_, (decide ((l0_8.length : Int) > 100)), rs, H', ⟨by have := HJ2.out; have := HJ29.out; first | omega | exact Nat.le_refl _⟩, ⟨bk BK132.out⟩, ⟨bws HB.out⟩⟩
      case rest => as_aux_lemma =>
       clear HC95
       obtain ⟨kq, x6_94, rfl, HA, HJ94, BK132, HB⟩ := hcut
       cases kq with
       | zero => exact absurd HA.out (by simp [cmd_Check.j2])
       | succ kj94 =>
        have H := HA.out
        clear HA
        simp only [cmd_Check.j2] at H
        have H' := am H
        clear H
        obtain ⟨hcz132_0, hcz132_1, hcz132_2, hcz132_3, hcz132_4, hcz132_5, hcz132_6, hcz132_7, hcz132_8, hfz132_0, hfz132_1, hfz132_2, hfz132_3, hfz132_4, hfz132_5, hfz132_6, hfz132_7, hfz132_8⟩ := cz9 BK132.out
        go_wp2
        go_loopg [6, 133] kj94 (fun kq v6 v133 w' => ∃ (x6_4 : Bool) (x133_4 : Int), v6 = .bool x6_4 ∧ v133 = .int .i64 x133_4 ∧ Aside0 (cmd_Check.l0 kq x6_4 l0_8 (l0_8.length : Int) x133_4 = some r) ∧ Aside0 (kq ≤ kj94) ∧ Aside0 (w'.heap[gb132]? = some (.cells #[.int .i64 a0_0, .string a0_1, .string a0_2, .string a0_3, .int .i64 a0_4, .int .i64 a0_5, .string a0_6, (.slice A0_7 l0_7.length c0_7), (.slice A0_8 l0_8.length c0_8)] 25 (0, 0))) ∧ Aside0 (Below w.heap.size w w'))
        case atStart => exact ⟨(x6_94), (0), rs, rs, H', ⟨Nat.le_refl _⟩, ⟨bk BK132.out⟩, ⟨bws HB.out⟩⟩
        case round => as_aux_lemma =>
         clear H'
         try clear hcz132_0 hcz132_1 hcz132_2 hcz132_3 hcz132_4 hcz132_5 hcz132_6 hcz132_7 hcz132_8 hfz132_0 hfz132_1 hfz132_2 hfz132_3 hfz132_4 hfz132_5 hfz132_6 hfz132_7 hfz132_8
         obtain ⟨x6_4, x133_4, rfl, rfl, HA, HK4, BK132, HB⟩ := hrel
         cases gk with
         | zero => exact absurd HA.out (by simp [cmd_Check.l0])
         | succ k4 =>
          have H := HA.out
          clear HA
          simp only [cmd_Check.l0] at H
          replace H := iteD H
          rcases H with ⟨c133b0, H⟩ | ⟨c133b0, H⟩
          · as_aux_lemma =>
           replace H := iteD H
           rcases H with ⟨c134b0, H⟩ | ⟨_, H⟩
           · as_aux_lemma =>
            replace H := iteD H
            rcases H with ⟨c135b0, H⟩ | ⟨_, H⟩
            · as_aux_lemma =>
             by_cases c136 : x6_4 = true
             ·
              subst c136
              rw [if_pos rfl] at H
              have H' := am H
              clear H
              have p158 := pz x133_4
              have q158 := pl x133_4 (l0_8.length : Int)
              obtain ⟨ad158, e158, hx158_0, hx158_1⟩ := at_T62 HR0_8.out x133_4 (of_eq_true p158) (of_eq_true q158)
              cases e158
              replace hx158_0 := bc HB.out hx158_0
              replace hx158_1 := bc HB.out hx158_1
              go_wp2_with (first | ((with_reducible refine gate_dst (N := 8) rfl ?_); (try (refine gate_guard (by rfl) ?_; dsimp only)); refine bx 8 #[.int .i64 0, .string (⟨#[]⟩ : ByteArray)] 62 ?_; intro gb159 hg w137 hbox hb; have BK159 := am (hbox); have GW159 := gsz hg HB.out; have GE159 := gsz hg HB.out; have NB132_159 := nlt (g := gb132) hg BK132.out; have NB159_132 := ngt (g := gb132) hg BK132.out; replace BK132 := bb BK132.out hb; replace HB := am (below_step (bws HB.out) hb); clear hb hbox hg; have hnb138 := NB159_132.out; have hnc138 := NB132_159.out; obtain ⟨hcz139_0, hcz139_1, hfz139_0, hfz139_1⟩ := cz2 BK159.out))
              go_roundg k4
              case measure => have := HJ2.out; have := HJ29.out; have := HJ94.out; have := HK4.out; omega
              case rel => exact ⟨(true), (wrap64 (x133_4 + 1)), rs, rs, H', ⟨by have := HJ2.out; have := HJ29.out; have := HJ94.out; have := HK4.out; omega⟩, ⟨bkf BK132.out⟩, ⟨bws HB.out⟩⟩
             · as_aux_lemma =>
              replace c136 := Bool.eq_false_iff.mpr c136
              subst c136
              rw [if_neg (show ¬ (false = true) by decide)] at H
              replace H := iteD H
              rcases H with ⟨c140b0, H⟩ | ⟨c140b0, H⟩
              ·
               have H' := am H
               clear H
               have p158 := pz x133_4
               have q158 := pl x133_4 (l0_8.length : Int)
               obtain ⟨ad158, e158, hx158_0, hx158_1⟩ := at_T62 HR0_8.out x133_4 (of_eq_true p158) (of_eq_true q158)
               cases e158
               replace hx158_0 := bc HB.out hx158_0
               replace hx158_1 := bc HB.out hx158_1
               go_wp2_with (first | ((with_reducible refine gate_dst (N := 8) rfl ?_); (try (refine gate_guard (by rfl) ?_; dsimp only)); refine bx 8 #[.int .i64 0, .string (⟨#[]⟩ : ByteArray)] 62 ?_; intro gb159 hg w141 hbox hb; have BK159 := am (hbox); have GW159 := gsz hg HB.out; have GE159 := gsz hg HB.out; have NB132_159 := nlt (g := gb132) hg BK132.out; have NB159_132 := ngt (g := gb132) hg BK132.out; replace BK132 := bb BK132.out hb; replace HB := am (below_step (bws HB.out) hb); clear hb hbox hg; have hnb142 := NB159_132.out; have hnc142 := NB132_159.out; obtain ⟨hcz143_0, hcz143_1, hfz143_0, hfz143_1⟩ := cz2 BK159.out))
               go_roundg k4
               case measure => have := HJ2.out; have := HJ29.out; have := HJ94.out; have := HK4.out; omega
               case rel => exact ⟨(true), (wrap64 (x133_4 + 1)), rs, rs, H', ⟨by have := HJ2.out; have := HJ29.out; have := HJ94.out; have := HK4.out; omega⟩, ⟨bkf BK132.out⟩, ⟨bws HB.out⟩⟩
              ·
               replace H := iteD H
               rcases H with ⟨c144b0, H⟩ | ⟨c144b0, H⟩
               ·
                have H' := am H
                clear H
                have p158 := pz x133_4
                have q158 := pl x133_4 (l0_8.length : Int)
                obtain ⟨ad158, e158, hx158_0, hx158_1⟩ := at_T62 HR0_8.out x133_4 (of_eq_true p158) (of_eq_true q158)
                cases e158
                replace hx158_0 := bc HB.out hx158_0
                replace hx158_1 := bc HB.out hx158_1
                go_wp2_with (first | ((with_reducible refine gate_dst (N := 8) rfl ?_); (try (refine gate_guard (by rfl) ?_; dsimp only)); refine bx 8 #[.int .i64 0, .string (⟨#[]⟩ : ByteArray)] 62 ?_; intro gb159 hg w145 hbox hb; have BK159 := am (hbox); have GW159 := gsz hg HB.out; have GE159 := gsz hg HB.out; have NB132_159 := nlt (g := gb132) hg BK132.out; have NB159_132 := ngt (g := gb132) hg BK132.out; replace BK132 := bb BK132.out hb; replace HB := am (below_step (bws HB.out) hb); clear hb hbox hg; have hnb146 := NB159_132.out; have hnc146 := NB132_159.out; obtain ⟨hcz147_0, hcz147_1, hfz147_0, hfz147_1⟩ := cz2 BK159.out))
                go_roundg k4
                case measure => have := HJ2.out; have := HJ29.out; have := HJ94.out; have := HK4.out; omega
                case rel => exact ⟨(true), (wrap64 (x133_4 + 1)), rs, rs, H', ⟨by have := HJ2.out; have := HJ29.out; have := HJ94.out; have := HK4.out; omega⟩, ⟨bkf BK132.out⟩, ⟨bws HB.out⟩⟩
               ·
                replace H := obE H
                obtain ⟨t160, A148, H⟩ := H
                have H' := am H
                clear H
                have p158 := pz x133_4
                have q158 := pl x133_4 (l0_8.length : Int)
                obtain ⟨ad158, e158, hx158_0, hx158_1⟩ := at_T62 HR0_8.out x133_4 (of_eq_true p158) (of_eq_true q158)
                cases e158
                replace hx158_0 := bc HB.out hx158_0
                replace hx158_1 := bc HB.out hx158_1
                go_wp2_with (first | ((with_reducible refine gate_dst (N := 8) rfl ?_); (try (refine gate_guard (by rfl) ?_; dsimp only)); refine bx 8 #[.int .i64 0, .string (⟨#[]⟩ : ByteArray)] 62 ?_; intro gb159 hg w149 hbox hb; have BK159 := am (hbox); have GW159 := gsz hg HB.out; have GE159 := gsz hg HB.out; have NB132_159 := nlt (g := gb132) hg BK132.out; have NB159_132 := ngt (g := gb132) hg BK132.out; replace BK132 := bb BK132.out hb; replace HB := am (below_step (bws HB.out) hb); clear hb hbox hg; have hnb150 := NB159_132.out; have hnc150 := NB132_159.out; obtain ⟨hcz151_0, hcz151_1, hfz151_0, hfz151_1⟩ := cz2 BK159.out) | (go_at_call 37; (with_reducible refine (cmd_digits.calls ((rd_T62 l0_8 x133_4).f1) t160 _ A148.out).mono ?_); rintro e w152 ⟨rfl, hb⟩; replace BK132 := am (blk_below (g := gb132) (o := .cells #[.int .i64 a0_0, .string a0_1, .string a0_2, .string a0_3, .int .i64 a0_4, .int .i64 a0_5, .string a0_6, .slice A0_7 l0_7.length c0_7, .slice (some ad158) l0_8.length c0_8] 25 (0, 0)) (bkf BK132.out) hb); replace BK159 := am (blk_below (g := gb159) (o := .cells #[.int .i64 ((rd_T62 l0_8 x133_4).f0), .string ((rd_T62 l0_8 x133_4).f1)] 62 (0, 0)) (bkp BK159.out) hb); replace HB := am (below_step (bws HB.out) hb); (try clear hb)))
                go_roundg k4
                case measure => have := HJ2.out; have := HJ29.out; have := HJ94.out; have := HK4.out; omega
                case rel => exact ⟨(!t160), (wrap64 (x133_4 + 1)), rs, rs, H', ⟨by have := HJ2.out; have := HJ29.out; have := HJ94.out; have := HK4.out; omega⟩, ⟨bk BK132.out⟩, ⟨bws HB.out⟩⟩
            ·
             exact absurd H (by simp)
           ·
            exact absurd H (by simp)
          ·
           by_cases c153 : x6_4 = true
           ·
            subst c153
            rw [if_pos rfl] at H
            obtain rfl := Option.some.inj H
            go_wp2
            go_ret
            exact ⟨rf, bws HB.out⟩
           ·
            replace c153 := Bool.eq_false_iff.mpr c153
            subst c153
            rw [if_neg (show ¬ (false = true) by decide)] at H
            obtain rfl := Option.some.inj H
            go_wp2
            go_ret
            exact ⟨rf, bws HB.out⟩
end Go.Proofs.YtdidopoalmkhlaaDoor.Or
end
section
namespace Go.Proofs.YtdidopoalmkhlaaDoor.Or
open Go.RowKit Go.Proofs.YtdidopoalmkhlaaDoorW.PrintWords Go.Proofs.YtdidopoalmkhlaaDoorW.PrintLast Go.Proofs.YtdidopoalmkhlaaDoorW.PrintMore
attribute [local go_sem] max2_int min2_int max_two min_two max_three min_three max_four min_four
set_option linter.unusedVariables false
set_option linter.unusedSimpArgs false
def octet_Number.l0 : Nat → Int → List Int → Option (ByteArray)
 | 0, _, _ => none
 | k + 1, x0, x3 => if x0 ≥ 128 then (if x3.length < 140737488355328 then (octet_Number.l0 k (x0 / 128) (x3 ++ [Go.bits .or .u8 ((x0) % 256) 128])) else (none)) else (if x3.length < 140737488355328 then (some (strOfNums (x3 ++ [(x0) % 256]))) else (none))
def octet_Number.f (k : Nat) (a0 : Int) : Option (ByteArray) := octet_Number.l0 k a0 ([] : List Int)
theorem octet_Number.mono_l : ∀ k, (∀ y0 y1, LeO (octet_Number.l0 k y0 y1) (octet_Number.l0 (k + 1) y0 y1))
 | 0 => fun _ _ r h => by simp [octet_Number.l0] at h
 | k + 1 => by
  have ih0 := octet_Number.mono_l k
  ·
   intro y0 y1
   unfold octet_Number.l0
   repeat' (with_reducible first | exact ih0 _ _ | exact LeO.refl _ | exact LeO.none _ | refine LeO.ite ?_ ?_ | refine LeO.bind ?_ (fun _ => ?_))
theorem octet_Number.mono : ∀ a0 k, LeO (octet_Number.f k a0) (octet_Number.f (k + 1) a0) := by
 intro a0 k
 have ih0 := octet_Number.mono_l k
 unfold octet_Number.f
 repeat' (with_reducible first | exact ih0 _ _ | exact LeO.refl _ | exact LeO.none _ | refine LeO.ite ?_ ?_ | refine LeO.bind ?_ (fun _ => ?_))
set_option maxHeartbeats 8000000 in
set_option maxRecDepth 100000 in
theorem octet_Number.calls (k : Nat) (a0 : Int) (r : ByteArray) (w : World) (h : octet_Number.f k a0 = some r) :
  Calls Tryd.prog 57 #[.int .u64 a0] w fun e w' => e = .returned (.string r) ∧ Below w.heap.size w w' := by
 have HB := am (Below.refl w.heap.size w)
 have H := h
 clear h
 unfold octet_Number.f at H
 have H' := am H
 clear H
 go_enter Tryd.func57, Tryd.ntmps57
 go_wp2
 go_loopg [0, 3] k (fun kq v0 v3 w' => ∃ (x0_1 : Int) (x3_1 : List Int), v0 = .int .u64 x0_1 ∧ Aside0 (octet_Number.l0 kq x0_1 x3_1 = some r) ∧ Aside0 (kq ≤ k) ∧ Aside0 (Kd.R (Kd.int .u8) 5 w' w.heap.size (fun _ => True) v3 x3_1) ∧ Aside0 (Below w.heap.size w w'))
 case atStart => exact ⟨(a0), (([] : List Int)), rs, H', ⟨Nat.le_refl _⟩, ⟨niR⟩, ⟨bw HB.out⟩⟩
 case round =>
  clear H'
  obtain ⟨x0_1, x3_1, rfl, HA, HK1, HO_3, HB⟩ := hrel
  cases gk with
  | zero => exact absurd HA.out (by simp [octet_Number.l0])
  | succ k1 =>
   have H := HA.out
   clear HA
   simp only [octet_Number.l0] at H
   by_cases c2 : x0_1 ≥ 128
   ·
    rw [if_pos c2] at H
    have c2b0 := decide_eq_true c2
    clear c2
    by_cases c3 : x3_1.length < 140737488355328
    ·
     rw [if_pos c3] at H
     have LMc3 := am c3
     clear c3
     obtain ⟨y161, hy161⟩ : ∃ y_ : List Int, y_ = (x3_1 ++ [Go.bits .or .u8 ((x0_1) % 256) 128]) := ⟨_, rfl⟩
     replace H : (octet_Number.l0 k1 (x0_1 / 128) y161) = some r := by first | (rw [hy161]; with_reducible exact H) | (have H2_ := (Option.bind_some _ _).symm.trans H; rw [hy161]; with_reducible exact H2_) | (have H2_ := (Option.bind_some _ _).symm.trans H; with_reducible exact H2_) | with_reducible exact H | (rw [hy161]; exact H) | exact H
     have Ny161 := am hy161
     clear hy161
     have H' := am H
     clear H
     go_wp2_with (first | ((with_reducible refine gate_builtin (b := .append) (xs := #[.tmp 6, .tmp 10]) rfl ?_); at_builtin; refine Kd.R_append (Kd.int .u8) (w0 := w) w.heap.size rfl (.tmp 6) (.tmp 10) 101 5 (.int .u8 0) 1 rfl Tryd.underlying101 info5 rfl (by decide) (by omega) u3 x3_1 (Go.bits .or .u8 ((x0_1) % 256) 128) [.int .u8 (Go.bits .or .u8 ((x0_1) % 256) 128)] (fun _ => True) (fun _ => False) rfl rfl ?aP (fun _ hk => hk.elim) ?aF ?aO ?aB ?aS ?aL ?_; (case aP => exact rfl); (case aB => exact (bw HB.out)); (case aF => exact (fun _ _ => trivial)); (case aO => exact (kR HO_3.out)); (case aS => exact (below_size (bw HB.out))); (case aL => have := LMc3.out; omega); intro v162 w4 ho hb hg hat; rw [← Ny161.out] at ho; have n0_ := am (hb); have n1_ := am (ho); clear HB; clear HO_3; have HB := n0_; have HO163 := n1_; clear n0_ n1_; clear ho hb hg hat))
     go_roundg k1
     case measure => have := HK1.out; omega
     case rel => exact ⟨(x0_1 / 128), (y161), rs, H', ⟨by have := HK1.out; omega⟩, ⟨kR HO163.out⟩, ⟨bw HB.out⟩⟩
    ·
     rw [if_neg c3] at H
     exact absurd H (by simp)
   ·
    rw [if_neg c2] at H
    have c2b0 := decide_eq_false c2
    clear c2
    by_cases c5 : x3_1.length < 140737488355328
    ·
     rw [if_pos c5] at H
     have LMc5 := am c5
     clear c5
     obtain ⟨y164, hy164⟩ : ∃ y_ : List Int, y_ = (x3_1 ++ [(x0_1) % 256]) := ⟨_, rfl⟩
     replace H : (some (strOfNums y164)) = some r := by first | (rw [hy164]; with_reducible exact H) | (have H2_ := (Option.bind_some _ _).symm.trans H; rw [hy164]; with_reducible exact H2_) | (have H2_ := (Option.bind_some _ _).symm.trans H; with_reducible exact H2_) | with_reducible exact H | (rw [hy164]; exact H) | exact H
     have Ny164 := am hy164
     clear hy164
     obtain rfl := Option.some.inj H
     go_wp2_with (first | ((with_reducible refine gate_builtin (b := .append) (xs := #[.tmp 14, .tmp 17]) rfl ?_); at_builtin; refine Kd.R_append (Kd.int .u8) (w0 := w) w.heap.size rfl (.tmp 14) (.tmp 17) 101 5 (.int .u8 0) 1 rfl Tryd.underlying101 info5 rfl (by decide) (by omega) u3 x3_1 ((x0_1) % 256) [.int .u8 ((x0_1) % 256)] (fun _ => True) (fun _ => False) rfl rfl ?aP (fun _ hk => hk.elim) ?aF ?aO ?aB ?aS ?aL ?_; (case aP => exact rfl); (case aB => exact (bw HB.out)); (case aF => exact (fun _ _ => trivial)); (case aO => exact (kR HO_3.out)); (case aS => exact (below_size (bw HB.out))); (case aL => have := LMc5.out; omega); intro v165 w6 ho hb hg hat; rw [← Ny164.out] at ho; have n0_ := am (hb); have n1_ := am (ho); clear HB; clear HO_3; have HB := n0_; have HO166 := n1_; clear n0_ n1_; clear ho hb hg hat; have hcv7 := own_string (P := Tryd.prog) Tryd.underlying101 Tryd.underlying5 Tryd.underlying9 (Kd.own_of_R HO166.out)))
     go_ret
     exact ⟨rf, bw HB.out⟩
    ·
     rw [if_neg c5] at H
     exact absurd H (by simp)
def octet_Text.f (k : Nat) (a0 : ByteArray) : Option (ByteArray) := (octet_Number.f k (IntKind.u64.wrap ((a0.size : Int)))).bind fun t167 => (if t167.size + a0.size ≤ 9223372036854775807 then (some (t167 ++ a0)) else (none))
theorem octet_Text.mono : ∀ a0 k, LeO (octet_Text.f k a0) (octet_Text.f (k + 1) a0) := by
 intro a0 k
 unfold octet_Text.f
 repeat' (with_reducible first | exact octet_Number.mono _ _ | exact LeO.refl _ | exact LeO.none _ | refine LeO.ite ?_ ?_ | refine LeO.bind ?_ (fun _ => ?_))
set_option maxHeartbeats 8000000 in
set_option maxRecDepth 100000 in
theorem octet_Text.calls (k : Nat) (a0 : ByteArray) (r : ByteArray) (w : World) (h : octet_Text.f k a0 = some r) :
  Calls Tryd.prog 58 #[.string a0] w fun e w' => e = .returned (.string r) ∧ Below w.heap.size w w' := by
 have HB := am (Below.refl w.heap.size w)
 have H := h
 clear h
 unfold octet_Text.f at H
 replace H := obE H
 obtain ⟨t167, A2, H⟩ := H
 by_cases c3 : t167.size + a0.size ≤ 9223372036854775807
 ·
  rw [if_pos c3] at H
  have c3b0 := eq_true c3
  have c3b1 := decide_eq_true c3
  try have c3b2 : (9223372036854775807 < t167.size + a0.size) = False := eq_false (Nat.not_lt.2 c3)
  (try (have c3b3 := c3b2; simp only [ByteArray.size_append] at c3b3))
  obtain rfl := Option.some.inj H
  go_enter Tryd.func58, Tryd.ntmps58
  go_wp2_with (first | ((with_reducible refine gate_callee (f := 57) rfl ?_); refine goesL_ (some 6) rfl rfl Tryd.func57 (by kernel_rfl) rfl #[.int .u64 (IntKind.u64.wrap ((a0.size : Int)))] rfl gl ?_; (with_reducible refine (octet_Number.calls k (IntKind.u64.wrap ((a0.size : Int))) t167 _ A2.out).mono ?_); rintro e w4 ⟨rfl, hb⟩; refine ⟨_, rfl, ?_⟩; replace HB := am (below_step (bw HB.out) hb); (try clear hb)))
  go_ret
  exact ⟨rf, bw HB.out⟩
 ·
  rw [if_neg c3] at H
  exact absurd H (by simp)
def cmd_told_txt (k : Nat) (b : Bool) (s t : ByteArray) : Option ByteArray := if b = true then ((octet_Text.f k t).bind fun x => if s.size + x.size ≤ 9223372036854775807 then some (s ++ x) else none) else some s
def cmd_told_num (k : Nat) (b : Bool) (s : ByteArray) (n : Int) : Option ByteArray := if b = true then ((octet_Number.f k (IntKind.u64.wrap n)).bind fun x => if s.size + x.size ≤ 9223372036854775807 then some (s ++ x) else none) else some s
def cmd_told_l0 (k : Nat) : List (S82) → ByteArray → Option ByteArray
 | [], s => some s
 | y :: r, s => (octet_Text.f k y.f0).bind fun a => (octet_Number.f k (IntKind.u64.wrap y.f1)).bind fun b => if a.size + b.size ≤ 9223372036854775807 then (if s.size + (a ++ b).size ≤ 9223372036854775807 then cmd_told_l0 k r (s ++ (a ++ b)) else none) else none
def cmd_told_l1 (k : Nat) : List (S62) → ByteArray → Option ByteArray
 | [], s => some s
 | y :: r, s => (octet_Number.f k (IntKind.u64.wrap y.f0)).bind fun a => (octet_Text.f k y.f1).bind fun b => if a.size + b.size ≤ 9223372036854775807 then (if s.size + (a ++ b).size ≤ 9223372036854775807 then cmd_told_l1 k r (s ++ (a ++ b)) else none) else none
def cmd_told.f (k : Nat) (a0_0 : Int) (a0_1 : ByteArray) (a0_2 : ByteArray) (a0_3 : ByteArray) (a0_4 : Int) (a0_5 : Int) (a0_6 : ByteArray) (l0_7 : List (S82)) (l0_8 : List (S62)) : Option ByteArray :=
 (cmd_fields.f k a0_0).bind fun f => (octet_Number.f k (IntKind.u64.wrap a0_0)).bind fun s0 => (cmd_told_txt k (Go.bits .and .i64 f 1 != 0) s0 a0_1).bind fun s1 => (cmd_told_txt k (Go.bits .and .i64 f 2 != 0) s1 a0_2).bind fun s2 => (cmd_told_txt k (Go.bits .and .i64 f 4 != 0) s2 a0_3).bind fun s3 =>
  (cmd_told_num k (Go.bits .and .i64 f 8 != 0) s3 a0_4).bind fun s4 => (cmd_told_num k (Go.bits .and .i64 f 16 != 0) s4 a0_5).bind fun s5 => (cmd_told_txt k (Go.bits .and .i64 f 32 != 0) s5 a0_6).bind fun s6 => (cmd_told_num k (Go.bits .and .i64 f 64 != 0) s6 (l0_7.length : Int)).bind fun s7 => (cmd_told_l0 k l0_7 s7).bind fun s8 =>
  (cmd_told_num k (Go.bits .and .i64 f 128 != 0) s8 (l0_8.length : Int)).bind fun s9 => cmd_told_l1 k l0_8 s9
theorem cmd_told_txt_mono (k : Nat) (b : Bool) (s t : ByteArray) : LeO (cmd_told_txt k b s t) (cmd_told_txt (k + 1) b s t) := by
 unfold cmd_told_txt
 exact LeO.ite (LeO.bind (octet_Text.mono _ _) fun _ => LeO.refl _) (LeO.refl _)
theorem cmd_told_num_mono (k : Nat) (b : Bool) (s : ByteArray) (n : Int) : LeO (cmd_told_num k b s n) (cmd_told_num (k + 1) b s n) := by
 unfold cmd_told_num
 exact LeO.ite (LeO.bind (octet_Number.mono _ _) fun _ => LeO.refl _) (LeO.refl _)
theorem cmd_told_l0_mono (k : Nat) : ∀ l s, LeO (cmd_told_l0 k l s) (cmd_told_l0 (k + 1) l s)
 | [], _ => LeO.refl _
 | y :: r, s => by
  rw [cmd_told_l0, cmd_told_l0]
  exact LeO.bind (octet_Text.mono _ _) fun _ => LeO.bind (octet_Number.mono _ _) fun _ => LeO.ite (LeO.ite (cmd_told_l0_mono k r _) (LeO.refl _)) (LeO.refl _)
theorem cmd_told_l1_mono (k : Nat) : ∀ l s, LeO (cmd_told_l1 k l s) (cmd_told_l1 (k + 1) l s)
 | [], _ => LeO.refl _
 | y :: r, s => by
  rw [cmd_told_l1, cmd_told_l1]
  exact LeO.bind (octet_Number.mono _ _) fun _ => LeO.bind (octet_Text.mono _ _) fun _ => LeO.ite (LeO.ite (cmd_told_l1_mono k r _) (LeO.refl _)) (LeO.refl _)
theorem cmd_told.mono : ∀ a0 a1 a2 a3 a4 a5 a6 a7 a8 k, LeO (cmd_told.f k a0 a1 a2 a3 a4 a5 a6 a7 a8) (cmd_told.f (k + 1) a0 a1 a2 a3 a4 a5 a6 a7 a8) := by
 intro a0 a1 a2 a3 a4 a5 a6 a7 a8 k
 unfold cmd_told.f
 repeat' (with_reducible first | exact octet_Number.mono _ _ | exact cmd_told_txt_mono _ _ _ _ | exact cmd_told_num_mono _ _ _ _ | exact cmd_told_l0_mono _ _ _ | exact cmd_told_l1_mono _ _ _ | exact cmd_fields.mono _ _ | exact LeO.refl _ | refine LeO.bind ?_ (fun _ => ?_))
theorem cmd_told_t1 (k gf gs : Nat) (f bit : Int) (s t r : ByteArray) (w0 W : World) (hB : Below w0.heap.size w0 W) (hge : w0.heap.size ≤ gs) (hf : W.heap[gf]? = some (.cells #[.int .i64 f] 3 (0, 0))) (hs : W.heap[gs]? = some (.cells #[.string s] 9 (0, 0))) (h : cmd_told_txt k (Go.bits .and .i64 f bit != 0) s t = some r) :
  Calls Tryd.prog 61 #[.int .i64 bit, .string t, .pointer (some ⟨gf, 0, none⟩), .pointer (some ⟨gs, 0, none⟩)] W fun e W' => (∃ v, e = .returned v) ∧ W'.heap[gs]? = some (.cells #[.string r] 9 (0, 0)) ∧ Below w0.heap.size w0 W' ∧ KeepBut W W' gs none := by
 have HF := am hf
 have HS := am hs
 have HB := am hB
 obtain ⟨cf, ff⟩ := cz1 hf
 obtain ⟨cs, fs⟩ := cz1 hs
 clear hf hs hB
 unfold cmd_told_txt at h
 by_cases hb : (Go.bits .and .i64 f bit != 0) = true
 ·
  rw [if_pos hb] at h
  replace h := obE h
  obtain ⟨x, A, h⟩ := h
  split at h
  ·
   rename_i hsz
   cases h
   have h9 : (9223372036854775807 < s.size + x.size) = False := eq_false (Nat.not_lt.2 hsz)
   clear hsz
   go_enter Tryd.func61, Tryd.ntmps61
   go_wp2
   refine start_ (n := 5) (S := fun w' => w'.cell? ⟨gs, 0, none⟩ = some (.string s)) (ds := [4]) #[false, false, false, false, false] (by kernel_rfl) rfl rfl cs (fun hHeld => ?_)
   refine hp 1 (some 11) ?_
   refine ht 0 (some 10) hHeld ?_
   refine hcall 2 (some 12) 58 #[.string t] (octet_Text.calls k t x _ A.out) ?_
   rintro e w3 ⟨rfl, hb⟩
   have HS3 := bb (blk_drew HS.out) hb
   have c3 := (cz1 HS3.out).1
   have f3 := (cz1 HS3.out).2
   refine ⟨_, _, rfl, c3, by simp only [Act.put, List.setIfInBounds_toArray, List.set_cons_zero, List.set_cons_succ]; rfl, ?_⟩
   refine hp 3 (some 13) ?_
   refine hstore 4 ?_
   refine done_ (by kernel_rfl) ?_
   go_wp2
   go_end0
   exact ⟨⟨_, rfl⟩, bkp HS3.out, below_set (below_step HB.out.drew hb) hge, (KeepBut.of_below hb _ _).set_ 0 _⟩
  ·
   cases h
 ·
  rw [if_neg hb] at h
  cases h
  replace hb := Bool.eq_false_iff.mpr hb
  go_enter Tryd.func61, Tryd.ntmps61
  go_wp2
  go_end0
  exact ⟨⟨_, rfl⟩, HS.out, HB.out, KeepBut.refl _ _ _⟩
theorem cmd_told_t2 (k gf gs : Nat) (f bit : Int) (s : ByteArray) (n : Int) (r : ByteArray) (w0 W : World) (hB : Below w0.heap.size w0 W) (hge : w0.heap.size ≤ gs) (hf : W.heap[gf]? = some (.cells #[.int .i64 f] 3 (0, 0))) (hs : W.heap[gs]? = some (.cells #[.string s] 9 (0, 0))) (h : cmd_told_num k (Go.bits .and .i64 f bit != 0) s n = some r) :
  Calls Tryd.prog 62 #[.int .i64 bit, .int .i64 n, .pointer (some ⟨gf, 0, none⟩), .pointer (some ⟨gs, 0, none⟩)] W fun e W' => (∃ v, e = .returned v) ∧ W'.heap[gs]? = some (.cells #[.string r] 9 (0, 0)) ∧ Below w0.heap.size w0 W' ∧ KeepBut W W' gs none := by
 have HF := am hf
 have HS := am hs
 have HB := am hB
 obtain ⟨cf, ff⟩ := cz1 hf
 obtain ⟨cs, fs⟩ := cz1 hs
 clear hf hs hB
 unfold cmd_told_num at h
 by_cases hb : (Go.bits .and .i64 f bit != 0) = true
 ·
  rw [if_pos hb] at h
  replace h := obE h
  obtain ⟨x, A, h⟩ := h
  split at h
  ·
   rename_i hsz
   cases h
   have h9 : (9223372036854775807 < s.size + x.size) = False := eq_false (Nat.not_lt.2 hsz)
   clear hsz
   go_enter Tryd.func62, Tryd.ntmps62
   go_wp2
   refine start_ (n := 6) (S := fun w' => w'.cell? ⟨gs, 0, none⟩ = some (.string s)) (ds := [5]) #[false, false, false, false, false, false] (by kernel_rfl) rfl rfl cs (fun hHeld => ?_)
   refine hp 1 (some 11) ?_
   refine ht 0 (some 10) hHeld ?_
   refine hp 2 (some 12) ?_
   refine hcall 3 (some 13) 57 #[.int .u64 (IntKind.u64.wrap n)] (octet_Number.calls k _ x _ A.out) ?_
   rintro e w3 ⟨rfl, hb⟩
   have HS3 := bb (blk_drew HS.out) hb
   have c3 := (cz1 HS3.out).1
   have f3 := (cz1 HS3.out).2
   refine ⟨_, _, rfl, c3, by simp only [Act.put, List.setIfInBounds_toArray, List.set_cons_zero, List.set_cons_succ]; rfl, ?_⟩
   refine hp 4 (some 14) ?_
   refine hstore 5 ?_
   refine done_ (by kernel_rfl) ?_
   go_wp2
   go_end0
   exact ⟨⟨_, rfl⟩, bkp HS3.out, below_set (below_step HB.out.drew hb) hge, (KeepBut.of_below hb _ _).set_ 0 _⟩
  ·
   cases h
 ·
  rw [if_neg hb] at h
  cases h
  replace hb := Bool.eq_false_iff.mpr hb
  go_enter Tryd.func62, Tryd.ntmps62
  go_wp2
  go_end0
  exact ⟨⟨_, rfl⟩, HS.out, HB.out, KeepBut.refl _ _ _⟩
structure cmd_told_St (w : World) (gc gf gs : Nat) (cs : Array Value) (f : Int) (s : ByteArray) (W : World) : Prop where
 c : W.heap[gc]? = some (.cells cs 25 (0, 0))
 f : W.heap[gf]? = some (.cells #[.int .i64 f] 3 (0, 0))
 s : W.heap[gs]? = some (.cells #[.string s] 9 (0, 0))
 b : Below w.heap.size w W
 ge : w.heap.size ≤ gs
theorem cmd_told_St.step {w W W' : World} {gc gf gs : Nat} {cs : Array Value} {f : Int} {s r : ByteArray} (h : cmd_told_St w gc gf gs cs f s W) (hs : W'.heap[gs]? = some (.cells #[.string r] 9 (0, 0))) (hb : Below w.heap.size w W') (hk : KeepBut W W' gs none) : cmd_told_St w gc gf gs cs f r W' :=
 ⟨hk.blk h.c (blk_ne h.c h.s (by decide)) (by simp), hk.blk h.f (blk_ne h.f h.s (by decide)) (by simp), hs, hb, h.ge⟩
theorem cmd_told_St.below {w W W' : World} {gc gf gs : Nat} {cs : Array Value} {f : Int} {s : ByteArray} (h : cmd_told_St w gc gf gs cs f s W) (hb : Below W.heap.size W W') : cmd_told_St w gc gf gs cs f s W' := ⟨blk_below h.c hb, blk_below h.f hb, blk_below h.s hb, below_step h.b hb, h.ge⟩
theorem cmd_told_St.put {w W : World} {gc gf gs : Nat} {cs : Array Value} {f : Int} {s : ByteArray} (h : cmd_told_St w gc gf gs cs f s W) (r : ByteArray) : cmd_told_St w gc gf gs cs f r (W.setCell ⟨gs, 0, none⟩ (.string r)) :=
 h.step (blk_put h.s 0 _ rfl) (below_set h.b h.ge) ((KeepBut.refl _ _ _).set_ 0 _)
theorem cmd_told_u1 (k gc gf gs : Nat) (cs : Array Value) (f bit : Int) (s t r : ByteArray) (w W : World) (hS : cmd_told_St w gc gf gs cs f s W) (h : cmd_told_txt k (Go.bits .and .i64 f bit != 0) s t = some r) :
  Calls Tryd.prog 61 #[.int .i64 bit, .string t, .pointer (some ⟨gf, 0, none⟩), .pointer (some ⟨gs, 0, none⟩)] W fun e W' => (∃ v, e = .returned v) ∧ cmd_told_St w gc gf gs cs f r W' :=
 (cmd_told_t1 k gf gs f bit s t r w W hS.b hS.ge hS.f hS.s h).mono fun _ _ ⟨h1, h2, h3, h4⟩ => ⟨h1, hS.step h2 h3 h4⟩
theorem cmd_told_u2 (k gc gf gs : Nat) (cs : Array Value) (f bit : Int) (s : ByteArray) (n : Int) (r : ByteArray) (w W : World) (hS : cmd_told_St w gc gf gs cs f s W) (h : cmd_told_num k (Go.bits .and .i64 f bit != 0) s n = some r) :
  Calls Tryd.prog 62 #[.int .i64 bit, .int .i64 n, .pointer (some ⟨gf, 0, none⟩), .pointer (some ⟨gs, 0, none⟩)] W fun e W' => (∃ v, e = .returned v) ∧ cmd_told_St w gc gf gs cs f r W' :=
 (cmd_told_t2 k gf gs f bit s n r w W hS.b hS.ge hS.f hS.s h).mono fun _ _ ⟨h1, h2, h3, h4⟩ => ⟨h1, hS.step h2 h3 h4⟩
theorem cmd_told_c9 {W : World} {g : Nat} {t : TypeId} {CS : Array Value} {a0 a1 a2 a3 a4 a5 a6 a7 a8 : Value} (h : W.heap[g]? = some (.cells CS t (0, 0))) (e : Aside0 (CS = #[a0, a1, a2, a3, a4, a5, a6, a7, a8])) : W.cell? ⟨g, 0, none⟩ = some a0 ∧ W.cell? ⟨g, 1, none⟩ = some a1 ∧ W.cell? ⟨g, 2, none⟩ = some a2 ∧ W.cell? ⟨g, 3, none⟩ = some a3 ∧ W.cell? ⟨g, 4, none⟩ = some a4 ∧ W.cell? ⟨g, 5, none⟩ = some a5 ∧ W.cell? ⟨g, 6, none⟩ = some a6 ∧ W.cell? ⟨g, 7, none⟩ = some a7 ∧ W.cell? ⟨g, 8, none⟩ = some a8 := by
 rw [e.out] at h
 exact ⟨(blk_cell h 0).trans rfl, (blk_cell h 1).trans rfl, (blk_cell h 2).trans rfl, (blk_cell h 3).trans rfl, (blk_cell h 4).trans rfl, (blk_cell h 5).trans rfl, (blk_cell h 6).trans rfl, (blk_cell h 7).trans rfl, (blk_cell h 8).trans rfl⟩
theorem cmd_told_rd7 (l : List (S82)) (i : Nat) (h : i < l.length) : l.drop i = rd_T82 l (i : Int) :: l.drop (i + 1) := by
 rw [List.drop_eq_getElem_cons h]
 congr 1
 show l[i] = l.getD (i : Int).toNat _
 rw [Int.toNat_natCast, List.getD_eq_getElem?_getD, List.getElem?_eq_getElem h]
 rfl
theorem cmd_told_rd8 (l : List (S62)) (i : Nat) (h : i < l.length) : l.drop i = rd_T62 l (i : Int) :: l.drop (i + 1) := by
 rw [List.drop_eq_getElem_cons h]
 congr 1
 show l[i] = l.getD (i : Int).toNat _
 rw [Int.toNat_natCast, List.getD_eq_getElem?_getD, List.getElem?_eq_getElem h]
 rfl
set_option maxHeartbeats 8000000 in
set_option maxRecDepth 100000 in
theorem cmd_told.calls (k : Nat) (a0_0 : Int) (a0_1 : ByteArray) (a0_2 : ByteArray) (a0_3 : ByteArray) (a0_4 : Int) (a0_5 : Int) (a0_6 : ByteArray) (A0_7 : Option Addr) (c0_7 : Nat) (l0_7 : List (S82)) (A0_8 : Option Addr) (c0_8 : Nat) (l0_8 : List (S62)) (r : ByteArray) (w : World) (hr0_7 : Kd.C k82 w A0_7 l0_7.length l0_7) (hc0_7 : l0_7.length ≤ c0_7) (hr0_8 : Kd.C k62 w A0_8 l0_8.length l0_8) (hc0_8 : l0_8.length ≤ c0_8) (h : cmd_told.f k a0_0 a0_1 a0_2 a0_3 a0_4 a0_5 a0_6 l0_7 l0_8 = some r) :
  Calls Tryd.prog 23 #[.agg #[.int .i64 a0_0, .string a0_1, .string a0_2, .string a0_3, .int .i64 a0_4, .int .i64 a0_5, .string a0_6, .slice A0_7 l0_7.length c0_7, .slice A0_8 l0_8.length c0_8]] w fun e w' => e = .returned (.string r) ∧ Below w.heap.size w w' := by
 have HR7 := am hr0_7
 have HR8 := am hr0_8
 clear hr0_7 hr0_8 hc0_7 hc0_8
 have HB := am (Below.refl w.heap.size w)
 unfold cmd_told.f at h
 replace h := obE h
 obtain ⟨f, A0, h⟩ := h
 replace h := obE h
 obtain ⟨s0, A1, h⟩ := h
 replace h := obE h
 obtain ⟨s1, A2, h⟩ := h
 replace h := obE h
 obtain ⟨s2, A3, h⟩ := h
 replace h := obE h
 obtain ⟨s3, A4, h⟩ := h
 replace h := obE h
 obtain ⟨s4, A5, h⟩ := h
 replace h := obE h
 obtain ⟨s5, A6, h⟩ := h
 replace h := obE h
 obtain ⟨s6, A7, h⟩ := h
 replace h := obE h
 obtain ⟨s7, A8, h⟩ := h
 replace h := obE h
 obtain ⟨s8, A9, h⟩ := h
 replace h := obE h
 obtain ⟨s9, A10, h⟩ := h
 have A11 := am h
 clear h
 have hmf : ∀ (fn : Fn) (first cap : Array Value) (w : World), (Instr.makeFunc fn first cap).run Tryd.prog w = .ok (.func fn first cap) w := fun _ _ _ _ => rfl
 obtain ⟨CS, hCS⟩ : ∃ CS : Array Value, CS = #[.int .i64 a0_0, .string a0_1, .string a0_2, .string a0_3, .int .i64 a0_4, .int .i64 a0_5, .string a0_6, .slice A0_7 l0_7.length c0_7, .slice A0_8 l0_8.length c0_8] := ⟨_, rfl⟩
 have HCS := am hCS
 clear hCS
 go_enter Tryd.func23, Tryd.ntmps23
 go_wp2_with (first
  | ((with_reducible refine gate_dst (N := 1) rfl ?_); refine bx 1 #[.int .i64 a0_0, .string a0_1, .string a0_2, .string a0_3, .int .i64 a0_4, .int .i64 a0_5, .string a0_6, .slice A0_7 l0_7.length c0_7, .slice A0_8 l0_8.length c0_8] 25 ?_; intro gc hg w1 hbox hb; rw [← HCS.out] at hbox; have BC := am hbox; replace HB := am (below_step HB.out hb); clear hb hbox hg; obtain ⟨c0, c1, c2, c3, c4, c5, c6, c7, c8⟩ := cmd_told_c9 BC.out HCS)
  | (go_at_call 30; (with_reducible refine (cmd_fields.calls k a0_0 f _ A0.out).mono ?_); rintro e w2 ⟨rfl, hd⟩; obtain ⟨nd, rfl⟩ := hd.out; replace BC := am (blk_drewN BC.out nd); replace HB := am (pw_below_drewN HB.out nd); clear hd)
  | ((with_reducible refine gate_dst (N := 3) rfl ?_); refine bx 3 #[.int .i64 0] 3 ?_; intro gf hg w3 hbox hb; have BF := am hbox; have GF := gsz hg HB.out; have NCF := nlt (g := gc) hg BC.out; replace BC := bb BC.out hb; replace HB := am (below_step HB.out hb); clear hb hbox hg c0 c1 c2 c3 c4 c5 c6 c7 c8; obtain ⟨cf, ff⟩ := cz1 BF.out; obtain ⟨c0, c1, c2, c3, c4, c5, c6, c7, c8⟩ := cmd_told_c9 BC.out HCS; have hne := NCF.out; have hne2 := Ne.symm NCF.out)
  | (go_at_call 57; (with_reducible refine (octet_Number.calls k _ s0 _ A1.out).mono ?_); rintro e w4 ⟨rfl, hb⟩; replace BC := am (blk_below (g := gc) (o := .cells CS 25 (0, 0)) (bkf BC.out) hb); replace BF := am (blk_below (g := gf) (o := .cells #[.int .i64 f] 3 (0, 0)) (bkp BF.out) hb); replace HB := am (below_step (below_set HB.out GF.out) hb); clear hb cf ff c0 c1 c2 c3 c4 c5 c6 c7 c8 hne hne2)
  | ((with_reducible refine gate_dst (N := 4) rfl ?_); refine bx 4 #[.string ⟨#[]⟩] 9 ?_; intro gs hg w5 hbox hb; have BS := am hbox; have GS := gsz hg HB.out; have NCS := nlt (g := gc) hg BC.out; have NFS := nlt (g := gf) hg BF.out; replace BC := bb BC.out hb; replace BF := bb BF.out hb; replace HB := am (below_step HB.out hb); clear hb hbox hg; obtain ⟨cs, fs⟩ := cz1 BS.out; obtain ⟨c0, c1, c2, c3, c4, c5, c6, c7, c8⟩ := cmd_told_c9 BC.out HCS; have hne := NCS.out; have hne2 := Ne.symm NCS.out; have HS := am (show cmd_told_St w gc gf gs CS f s0 (w5.setCell ⟨gs, 0, none⟩ (.string s0)) from ⟨bkf BC.out, bkf BF.out, bkp BS.out, below_set HB.out GS.out, GS.out⟩); clear BC BF BS NCF NFS NCS HB)
  | (go_at_call 61; (with_reducible refine (cmd_told_u1 k gc gf gs CS f 1 s0 a0_1 s1 w _ HS.out A2.out).mono ?_); rintro e w6 ⟨⟨v, rfl⟩, hs⟩; replace HS := am hs; clear hs hne hne2 cs fs c0 c1 c2 c3 c4 c5 c6 c7 c8 A2; obtain ⟨c0, c1, c2, c3, c4, c5, c6, c7, c8⟩ := cmd_told_c9 HS.out.c HCS)
  | (go_at_call 61; (with_reducible refine (cmd_told_u1 k gc gf gs CS f 2 s1 a0_2 s2 w _ HS.out A3.out).mono ?_); rintro e w7 ⟨⟨v, rfl⟩, hs⟩; replace HS := am hs; clear hs c0 c1 c2 c3 c4 c5 c6 c7 c8 A3; obtain ⟨c0, c1, c2, c3, c4, c5, c6, c7, c8⟩ := cmd_told_c9 HS.out.c HCS)
  | (go_at_call 61; (with_reducible refine (cmd_told_u1 k gc gf gs CS f 4 s2 a0_3 s3 w _ HS.out A4.out).mono ?_); rintro e w8 ⟨⟨v, rfl⟩, hs⟩; replace HS := am hs; clear hs c0 c1 c2 c3 c4 c5 c6 c7 c8 A4; obtain ⟨c0, c1, c2, c3, c4, c5, c6, c7, c8⟩ := cmd_told_c9 HS.out.c HCS)
  | (go_at_call 62; (with_reducible refine (cmd_told_u2 k gc gf gs CS f 8 s3 a0_4 s4 w _ HS.out A5.out).mono ?_); rintro e w9 ⟨⟨v, rfl⟩, hs⟩; replace HS := am hs; clear hs c0 c1 c2 c3 c4 c5 c6 c7 c8 A5; obtain ⟨c0, c1, c2, c3, c4, c5, c6, c7, c8⟩ := cmd_told_c9 HS.out.c HCS)
  | (go_at_call 62; (with_reducible refine (cmd_told_u2 k gc gf gs CS f 16 s4 a0_5 s5 w _ HS.out A6.out).mono ?_); rintro e w10 ⟨⟨v, rfl⟩, hs⟩; replace HS := am hs; clear hs c0 c1 c2 c3 c4 c5 c6 c7 c8 A6; obtain ⟨c0, c1, c2, c3, c4, c5, c6, c7, c8⟩ := cmd_told_c9 HS.out.c HCS)
  | (go_at_call 61; (with_reducible refine (cmd_told_u1 k gc gf gs CS f 32 s5 a0_6 s6 w _ HS.out A7.out).mono ?_); rintro e w11 ⟨⟨v, rfl⟩, hs⟩; replace HS := am hs; clear hs c0 c1 c2 c3 c4 c5 c6 c7 c8 A7; obtain ⟨c0, c1, c2, c3, c4, c5, c6, c7, c8⟩ := cmd_told_c9 HS.out.c HCS)
  | (go_at_call 62; (with_reducible refine (cmd_told_u2 k gc gf gs CS f 64 s6 (l0_7.length : Int) s7 w _ HS.out A8.out).mono ?_); rintro e w12 ⟨⟨v, rfl⟩, hs⟩; replace HS := am hs; clear hs c0 c1 c2 c3 c4 c5 c6 c7 c8 A8; obtain ⟨c0, c1, c2, c3, c4, c5, c6, c7, c8⟩ := cmd_told_c9 HS.out.c HCS))
 clear c0 c1 c2 c3 c4 c5 c6 c7 c8
 go_loopg [52] l0_7.length (fun n v52 w' => ∃ (x : Int) (i : Nat) (s' : ByteArray), v52 = .int .i64 x ∧ Aside0 (x = (i : Int) ∧ i + n = l0_7.length) ∧ Aside0 (cmd_told_l0 k (l0_7.drop i) s' = some s8) ∧ Aside0 (cmd_told_St w gc gf gs CS f s' w'))
 case atStart => exact ⟨0, 0, s7, rfl, am ⟨rfl, by omega⟩, am (by rw [List.drop_zero]; exact A9.out), HS⟩
 case round =>
  obtain ⟨x, i, s', rfl, HN, HL, HS⟩ := hrel
  have hlen : l0_7.length ≤ 9223372036854775807 := HR7.out.2.1
  cases gk with
  | zero =>
   have e1 := HN.out.2
   have q1 : decide (x < (l0_7.length : Int)) = false := decide_eq_false (by rw [HN.out.1]; omega)
   have HL2 : Aside0 (s' = s8) := am (by have h1 := HL.out; rw [List.drop_of_length_le (by omega)] at h1; exact Option.some.inj h1)
   clear e1 hlen
   obtain ⟨c0, c1, c2, c3, c4, c5, c6, c7, c8⟩ := cmd_told_c9 HS.out.c HCS
   rw [HL2.out] at HS
   go_wp2_with (go_at_call 62; (with_reducible refine (cmd_told_u2 k gc gf gs CS f 128 s8 (l0_8.length : Int) s9 w _ HS.out A10.out).mono ?_); rintro e w13 ⟨⟨v, rfl⟩, hs⟩; replace HS := am hs; clear hs c0 c1 c2 c3 c4 c5 c6 c7 c8; obtain ⟨c0, c1, c2, c3, c4, c5, c6, c7, c8⟩ := cmd_told_c9 HS.out.c HCS)
   clear c0 c1 c2 c3 c4 c5 c6 c7 c8
   go_loopg [75] l0_8.length (fun n v75 w' => ∃ (x : Int) (i : Nat) (s' : ByteArray), v75 = .int .i64 x ∧ Aside0 (x = (i : Int) ∧ i + n = l0_8.length) ∧ Aside0 (cmd_told_l1 k (l0_8.drop i) s' = some r) ∧ Aside0 (cmd_told_St w gc gf gs CS f s' w'))
   case atStart => exact ⟨0, 0, s9, rfl, am ⟨rfl, by omega⟩, am (by rw [List.drop_zero]; exact A11.out), HS⟩
   case round =>
    obtain ⟨x, i, s', rfl, HN, HL, HS⟩ := hrel
    have hlen : l0_8.length ≤ 9223372036854775807 := HR8.out.2.1
    cases gk with
    | zero =>
     have e1 := HN.out.2
     have q1 : decide (x < (l0_8.length : Int)) = false := decide_eq_false (by rw [HN.out.1]; omega)
     have HL2 : Aside0 (s' = r) := am (by have h1 := HL.out; rw [List.drop_of_length_le (by omega)] at h1; exact Option.some.inj h1)
     clear e1 hlen
     obtain ⟨c0, c1, c2, c3, c4, c5, c6, c7, c8⟩ := cmd_told_c9 HS.out.c HCS
     rw [HL2.out] at HS
     have cs := (cz1 HS.out.s).1
     go_wp2
     go_ret
     exact ⟨rfl, HS.out.b⟩
    | succ m =>
     have e1 := HN.out.2
     have e2 := HN.out.1
     have p1 : (0 ≤ x) = True := eq_true (by omega)
     have q1 : (x < (l0_8.length : Int)) = True := eq_true (by omega)
     have q2 : decide (x < (l0_8.length : Int)) = true := decide_eq_true (by omega)
     have HX : Aside0 (wrap64 (x + 1) = ((i + 1 : Nat) : Int)) := am (by rw [IntWalk.wrap64_in _ (by omega)]; omega)
     have h1 := HL.out
     rw [cmd_told_rd8 _ i (by omega), cmd_told_l1, ← e2] at h1
     replace h1 := obE h1
     obtain ⟨t1, B1, h1⟩ := h1
     replace h1 := obE h1
     obtain ⟨t2, B2, h1⟩ := h1
     by_cases z1 : t1.size + t2.size ≤ 9223372036854775807
     ·
      rw [if_pos z1] at h1
      by_cases z2 : s'.size + (t1 ++ t2).size ≤ 9223372036854775807
      ·
       rw [if_pos z2] at h1
       have HL2 := am h1
       have z3 : (9223372036854775807 < t1.size + t2.size) = False := eq_false (Nat.not_lt.2 z1)
       have z4 : (9223372036854775807 < s'.size + (t1.size + t2.size)) = False := eq_false (Nat.not_lt.2 (by rw [ByteArray.size_append] at z2; exact z2))
       obtain ⟨ad, ea, x0, x1⟩ := at_T62 HR8.out x (of_eq_true p1) (of_eq_true q1)
       cases ea
       have y0 := bc HS.out.b x0
       have y1 := bc HS.out.b x1
       clear h1 z1 z2 HL e1 e2 hlen
       go_wp2_with ((with_reducible refine gate_dst (N := 10) rfl ?_); refine bx 10 #[.int .i64 0, .string ⟨#[]⟩] 62 ?_; intro gp hg wp hbox hb; have BP := am hbox; have GP := gsz hg HS.out.b; have NPS := nlt (g := gs) hg HS.out.s; replace HS := am (show cmd_told_St w gc gf gs CS f s' wp from ⟨blk_below HS.out.c hb, blk_below HS.out.f hb, blk_below HS.out.s hb, below_step HS.out.b hb, HS.out.ge⟩); clear hb hbox hg y0 y1; have y0 := bc HS.out.b x0; have y1 := bc HS.out.b x1; obtain ⟨cp0, cp1, fp0, fp1⟩ := cz2 BP.out)
       obtain ⟨W, hW⟩ : ∃ W, W = (wp.setCell ⟨gp, 0, none⟩ (.int .i64 (rd_T62 l0_8 x).f0)).setCell ⟨gp, 1, none⟩ (.string (rd_T62 l0_8 x).f1) := ⟨_, rfl⟩
       have BW : Aside0 (W.heap[gp]? = some (.cells #[.int .i64 (rd_T62 l0_8 x).f0, .string (rd_T62 l0_8 x).f1] 62 (0, 0))) := am (by rw [hW]; exact bkp BP.out)
       have HW : Aside0 (cmd_told_St w gc gf gs CS f s' W) := am (by
        have n1 := blk_ne HS.out.c BP.out (by decide)
        have n2 := blk_ne HS.out.f BP.out (by decide)
        have n3 := blk_ne HS.out.s BP.out (by decide)
        rw [hW]
        exact ⟨blk_far (blk_far HS.out.c n1 _) n1 _, blk_far (blk_far HS.out.f n2 _) n2 _, blk_far (blk_far HS.out.s n3 _) n3 _, below_set (below_set HS.out.b GP.out) GP.out, HS.out.ge⟩)
       clear y0 y1 x0 x1 cp0 cp1 fp0 fp1
       rw [← hW]
       clear hW HS BP NPS
       have cs := (cz1 HW.out.s).1
       obtain ⟨cp0, cp1, fp0, fp1⟩ := cz2 BW.out
       refine start_ (n := 11) (S := fun w' => w'.cell? ⟨gs, 0, none⟩ = some (.string s') ∧ w'.cell? ⟨gp, 0, none⟩ = some (.int .i64 (rd_T62 l0_8 x).f0) ∧ w'.cell? ⟨gp, 1, none⟩ = some (.string (rd_T62 l0_8 x).f1)) (ds := [10]) #[false, false, false, false, false, false, false, false, false, false, false] (by kernel_rfl) rfl rfl ⟨cs, cp0, cp1⟩ (fun hHeld => ?_)
       clear cs cp0 cp1 fp0 fp1
       replace HW := am (show cmd_told_St w gc gf gs CS f s' W.drew from ⟨blk_drew HW.out.c, blk_drew HW.out.f, blk_drew HW.out.s, HW.out.b.drew, HW.out.ge⟩)
       replace BW := am (blk_drew BW.out)
       generalize W.drew = W1 at HW BW hHeld ⊢
       refine hp 1 (some 80) ?_
       refine hp 5 (some 84) ?_
       refine ht 0 (some 79) hHeld ?_
       refine ht 2 (some 81) hHeld ?_
       refine hp 3 (some 82) ?_
       refine ht 6 (some 85) hHeld ?_
       refine hcall 4 (some 83) 57 #[.int .u64 (IntKind.u64.wrap (rd_T62 l0_8 x).f0)] (octet_Number.calls k _ t1 _ B1.out) ?_
       rintro e W2 ⟨rfl, hb⟩
       replace HW := am (HW.out.below hb)
       replace BW := bb BW.out hb
       clear hb hHeld
       have hHeld := And.intro (cz1 HW.out.s).1 (And.intro (cz2 BW.out).1 (cz2 BW.out).2.1)
       refine ⟨_, _, rfl, hHeld, by simp only [Act.put, List.setIfInBounds_toArray, List.set_cons_zero, List.set_cons_succ]; rfl, ?_⟩
       refine hcall 7 (some 86) 58 #[.string (rd_T62 l0_8 x).f1] (octet_Text.calls k _ t2 _ B2.out) ?_
       rintro e W3 ⟨rfl, hb⟩
       replace HW := am (HW.out.below hb)
       replace BW := bb BW.out hb
       clear hb hHeld
       have hHeld := And.intro (cz1 HW.out.s).1 (And.intro (cz2 BW.out).1 (cz2 BW.out).2.1)
       refine ⟨_, _, rfl, hHeld, by simp only [Act.put, List.setIfInBounds_toArray, List.set_cons_zero, List.set_cons_succ]; rfl, ?_⟩
       refine hp 8 (some 87) ?_
       refine hp 9 (some 88) ?_
       have fs := (cz1 HW.out.s).2
       have cs := (cz1 HW.out.s).1
       refine hstore 10 ?_
       refine done_ (by kernel_rfl) ?_
       replace HW := am (HW.out.put (s' ++ (t1 ++ t2)))
       clear cs fs hHeld
       go_wp2
       go_roundg m
       case measure => omega
       case rel => exact ⟨_, i + 1, _, rfl, am ⟨HX.out, by have := HN.out.2; omega⟩, HL2, HW⟩
      ·
       rw [if_neg z2] at h1
       cases h1
     ·
      rw [if_neg z1] at h1
      cases h1
  | succ m =>
   have e1 := HN.out.2
   have e2 := HN.out.1
   have p1 : (0 ≤ x) = True := eq_true (by omega)
   have q1 : (x < (l0_7.length : Int)) = True := eq_true (by omega)
   have q2 : decide (x < (l0_7.length : Int)) = true := decide_eq_true (by omega)
   have HX : Aside0 (wrap64 (x + 1) = ((i + 1 : Nat) : Int)) := am (by rw [IntWalk.wrap64_in _ (by omega)]; omega)
   have h1 := HL.out
   rw [cmd_told_rd7 _ i (by omega), cmd_told_l0, ← e2] at h1
   replace h1 := obE h1
   obtain ⟨t1, B1, h1⟩ := h1
   replace h1 := obE h1
   obtain ⟨t2, B2, h1⟩ := h1
   by_cases z1 : t1.size + t2.size ≤ 9223372036854775807
   ·
    rw [if_pos z1] at h1
    by_cases z2 : s'.size + (t1 ++ t2).size ≤ 9223372036854775807
    ·
     rw [if_pos z2] at h1
     have HL2 := am h1
     have z3 : (9223372036854775807 < t1.size + t2.size) = False := eq_false (Nat.not_lt.2 z1)
     have z4 : (9223372036854775807 < s'.size + (t1.size + t2.size)) = False := eq_false (Nat.not_lt.2 (by rw [ByteArray.size_append] at z2; exact z2))
     obtain ⟨ad, ea, x0, x1⟩ := at_T82 HR7.out x (of_eq_true p1) (of_eq_true q1)
     cases ea
     have y0 := bc HS.out.b x0
     have y1 := bc HS.out.b x1
     clear h1 z1 z2 HL e1 e2 hlen
     go_wp2_with ((with_reducible refine gate_dst (N := 8) rfl ?_); refine bx 8 #[.string ⟨#[]⟩, .int .i64 0] 82 ?_; intro gp hg wp hbox hb; have BP := am hbox; have GP := gsz hg HS.out.b; have NPS := nlt (g := gs) hg HS.out.s; replace HS := am (show cmd_told_St w gc gf gs CS f s' wp from ⟨blk_below HS.out.c hb, blk_below HS.out.f hb, blk_below HS.out.s hb, below_step HS.out.b hb, HS.out.ge⟩); clear hb hbox hg y0 y1; have y0 := bc HS.out.b x0; have y1 := bc HS.out.b x1; obtain ⟨cp0, cp1, fp0, fp1⟩ := cz2 BP.out)
     obtain ⟨W, hW⟩ : ∃ W, W = (wp.setCell ⟨gp, 0, none⟩ (.string (rd_T82 l0_7 x).f0)).setCell ⟨gp, 1, none⟩ (.int .i64 (rd_T82 l0_7 x).f1) := ⟨_, rfl⟩
     have BW : Aside0 (W.heap[gp]? = some (.cells #[.string (rd_T82 l0_7 x).f0, .int .i64 (rd_T82 l0_7 x).f1] 82 (0, 0))) := am (by rw [hW]; exact bkp BP.out)
     have HW : Aside0 (cmd_told_St w gc gf gs CS f s' W) := am (by
      have n1 := blk_ne HS.out.c BP.out (by decide)
      have n2 := blk_ne HS.out.f BP.out (by decide)
      have n3 := blk_ne HS.out.s BP.out (by decide)
      rw [hW]
      exact ⟨blk_far (blk_far HS.out.c n1 _) n1 _, blk_far (blk_far HS.out.f n2 _) n2 _, blk_far (blk_far HS.out.s n3 _) n3 _, below_set (below_set HS.out.b GP.out) GP.out, HS.out.ge⟩)
     clear y0 y1 x0 x1 cp0 cp1 fp0 fp1
     rw [← hW]
     clear hW HS BP NPS
     have cs := (cz1 HW.out.s).1
     obtain ⟨cp0, cp1, fp0, fp1⟩ := cz2 BW.out
     refine start_ (n := 11) (S := fun w' => w'.cell? ⟨gs, 0, none⟩ = some (.string s') ∧ w'.cell? ⟨gp, 0, none⟩ = some (.string (rd_T82 l0_7 x).f0) ∧ w'.cell? ⟨gp, 1, none⟩ = some (.int .i64 (rd_T82 l0_7 x).f1)) (ds := [10]) #[false, false, false, false, false, false, false, false, false, false, false] (by kernel_rfl) rfl rfl ⟨cs, cp0, cp1⟩ (fun hHeld => ?_)
     clear cs cp0 cp1 fp0 fp1
     replace HW := am (show cmd_told_St w gc gf gs CS f s' W.drew from ⟨blk_drew HW.out.c, blk_drew HW.out.f, blk_drew HW.out.s, HW.out.b.drew, HW.out.ge⟩)
     replace BW := am (blk_drew BW.out)
     generalize W.drew = W1 at HW BW hHeld ⊢
     refine hp 1 (some 57) ?_
     refine hp 4 (some 60) ?_
     refine ht 0 (some 56) hHeld ?_
     refine ht 2 (some 58) hHeld ?_
     refine ht 5 (some 61) hHeld ?_
     refine hp 6 (some 62) ?_
     refine hcall 3 (some 59) 58 #[.string (rd_T82 l0_7 x).f0] (octet_Text.calls k _ t1 _ B1.out) ?_
     rintro e W2 ⟨rfl, hb⟩
     replace HW := am (HW.out.below hb)
     replace BW := bb BW.out hb
     clear hb hHeld
     have hHeld := And.intro (cz1 HW.out.s).1 (And.intro (cz2 BW.out).1 (cz2 BW.out).2.1)
     refine ⟨_, _, rfl, hHeld, by simp only [Act.put, List.setIfInBounds_toArray, List.set_cons_zero, List.set_cons_succ]; rfl, ?_⟩
     refine hcall 7 (some 63) 57 #[.int .u64 (IntKind.u64.wrap (rd_T82 l0_7 x).f1)] (octet_Number.calls k _ t2 _ B2.out) ?_
     rintro e W3 ⟨rfl, hb⟩
     replace HW := am (HW.out.below hb)
     replace BW := bb BW.out hb
     clear hb hHeld
     have hHeld := And.intro (cz1 HW.out.s).1 (And.intro (cz2 BW.out).1 (cz2 BW.out).2.1)
     refine ⟨_, _, rfl, hHeld, by simp only [Act.put, List.setIfInBounds_toArray, List.set_cons_zero, List.set_cons_succ]; rfl, ?_⟩
     refine hp 8 (some 64) ?_
     refine hp 9 (some 65) ?_
     have fs := (cz1 HW.out.s).2
     have cs := (cz1 HW.out.s).1
     refine hstore 10 ?_
     refine done_ (by kernel_rfl) ?_
     replace HW := am (HW.out.put (s' ++ (t1 ++ t2)))
     clear cs fs hHeld
     go_wp2
     go_roundg m
     case measure => omega
     case rel => exact ⟨_, i + 1, _, rfl, am ⟨HX.out, by have := HN.out.2; omega⟩, HL2, HW⟩
    ·
     rw [if_neg z2] at h1
     cases h1
   ·
    rw [if_neg z1] at h1
    cases h1
def cmd_Encode.f (k : Nat) (a0_0 : Int) (a0_1 : ByteArray) (a0_2 : ByteArray) (a0_3 : ByteArray) (a0_4 : Int) (a0_5 : Int) (a0_6 : ByteArray) (l0_7 : List (S82)) (l0_8 : List (S62)) : Option (ByteArray × Int) := (cmd_Check.f k a0_0 a0_1 a0_2 a0_3 a0_4 a0_5 a0_6 l0_7 l0_8).bind fun t169 => (if t169 = 0 then ((cmd_told.f k a0_0 a0_1 a0_2 a0_3 a0_4 a0_5 a0_6 l0_7 l0_8).bind fun t170 => (some (t170, 0))) else (some ((⟨#[]⟩ : ByteArray), 1)))
theorem cmd_Encode.mono : ∀ a0 a1 a2 a3 a4 a5 a6 a7 a8 k, LeO (cmd_Encode.f k a0 a1 a2 a3 a4 a5 a6 a7 a8) (cmd_Encode.f (k + 1) a0 a1 a2 a3 a4 a5 a6 a7 a8) := by
 intro a0 a1 a2 a3 a4 a5 a6 a7 a8 k
 unfold cmd_Encode.f
 repeat' (with_reducible first | exact cmd_Check.mono _ _ _ _ _ _ _ _ _ _ | exact cmd_told.mono _ _ _ _ _ _ _ _ _ _ | exact LeO.refl _ | exact LeO.none _ | refine LeO.ite ?_ ?_ | refine LeO.bind ?_ (fun _ => ?_))
set_option maxHeartbeats 8000000 in
set_option maxRecDepth 100000 in
theorem cmd_Encode.calls (k : Nat) (a0_0 : Int) (a0_1 : ByteArray) (a0_2 : ByteArray) (a0_3 : ByteArray) (a0_4 : Int) (a0_5 : Int) (a0_6 : ByteArray) (A0_7 : Option Addr) (c0_7 : Nat) (l0_7 : List (S82)) (A0_8 : Option Addr) (c0_8 : Nat) (l0_8 : List (S62)) (r1 : ByteArray) (r2 : Int) (w : World) (hr0_7 : Kd.C k82 w A0_7 l0_7.length l0_7) (hc0_7 : l0_7.length ≤ c0_7) (hr0_8 : Kd.C k62 w A0_8 l0_8.length l0_8) (hc0_8 : l0_8.length ≤ c0_8) (h : cmd_Encode.f k a0_0 a0_1 a0_2 a0_3 a0_4 a0_5 a0_6 l0_7 l0_8 = some (r1, r2)) (hG : GG w) :
  Calls Tryd.prog 8 #[.agg #[.int .i64 a0_0, .string a0_1, .string a0_2, .string a0_3, .int .i64 a0_4, .int .i64 a0_5, .string a0_6, .slice A0_7 l0_7.length c0_7, .slice A0_8 l0_8.length c0_8]] w fun e w' => e = .returned (.tuple #[.string r1, .int .i64 r2]) ∧ Below w.heap.size w w' := by
 have HG := am hG
 clear hG
 have hu25 := Tryd.underlying25
 have HR0_7 := am hr0_7
 have HC0_7 := am hc0_7
 clear hr0_7 hc0_7
 have HR0_8 := am hr0_8
 have HC0_8 := am hc0_8
 clear hr0_8 hc0_8
 have HB := am (Below.refl w.heap.size w)
 have H := h
 clear h
 unfold cmd_Encode.f at H
 replace H := obE H
 obtain ⟨t169, A2, H⟩ := H
 by_cases c3 : t169 = 0
 ·
  rw [if_pos c3] at H
  have c3b0 := beq_iff_eq.mpr c3
  have c3b1 := bne_eq_false_iff_eq.mpr c3
  clear c3
  replace H := obE H
  obtain ⟨t170, A4, H⟩ := H
  simp only [Option.some.injEq, Prod.mk.injEq] at H
  obtain ⟨rfl, rfl⟩ := H
  go_enter Tryd.func8, Tryd.ntmps8
  go_wp2_with (first | ((with_reducible refine gate_dst (N := 1) rfl ?_); refine bx 1 #[.int .i64 a0_0, .string a0_1, .string a0_2, .string a0_3, .int .i64 a0_4, .int .i64 a0_5, .string a0_6, .slice A0_7 l0_7.length c0_7, .slice A0_8 l0_8.length c0_8] 25 ?_; intro gb168 hg w5 hbox hb; have BK168 := am (hbox); have GW168 := gsz hg HB.out; have GE168 := gsz hg HB.out; replace HB := am (below_step (bw HB.out) hb); clear hb hbox hg; obtain ⟨hcz6_0, hcz6_1, hcz6_2, hcz6_3, hcz6_4, hcz6_5, hcz6_6, hcz6_7, hcz6_8, hfz6_0, hfz6_1, hfz6_2, hfz6_3, hfz6_4, hfz6_5, hfz6_6, hfz6_7, hfz6_8⟩ := cz9 BK168.out) | ((with_reducible refine gate_callee (f := 14) rfl ?_); refine goesL_ (some 5) rfl rfl Tryd.func14 (by kernel_rfl) rfl #[.agg #[.int .i64 a0_0, .string a0_1, .string a0_2, .string a0_3, .int .i64 a0_4, .int .i64 a0_5, .string a0_6, .slice A0_7 l0_7.length c0_7, .slice A0_8 l0_8.length c0_8]] rfl gl ?_; (with_reducible refine (cmd_Check.calls k a0_0 a0_1 a0_2 a0_3 a0_4 a0_5 a0_6 _ _ l0_7 _ _ l0_8 t169 _ ?side1 ?side2 ?side3 ?side4 A2.out ?sideG).mono ?_); (case sideG => first | exact HG.out | exact gg_below HG.out (bws HB.out)); (case side1 => exact kC (Kd.C_below HR0_7.out HB.out)); (case side2 => exact HC0_7.out); (case side3 => exact kC (Kd.C_below HR0_8.out HB.out)); (case side4 => exact HC0_8.out); rintro e w7 ⟨rfl, hb⟩; refine ⟨_, rfl, ?_⟩; replace BK168 := bb BK168.out hb; replace HB := am (below_step (bws HB.out) hb); (try clear hb); obtain ⟨hcz8_0, hcz8_1, hcz8_2, hcz8_3, hcz8_4, hcz8_5, hcz8_6, hcz8_7, hcz8_8, hfz8_0, hfz8_1, hfz8_2, hfz8_3, hfz8_4, hfz8_5, hfz8_6, hfz8_7, hfz8_8⟩ := cz9 BK168.out) | ((with_reducible refine gate_callee (f := 23) rfl ?_); refine goesL_ (some 8) rfl rfl Tryd.func23 (by kernel_rfl) rfl #[.agg #[.int .i64 a0_0, .string a0_1, .string a0_2, .string a0_3, .int .i64 a0_4, .int .i64 a0_5, .string a0_6, .slice A0_7 l0_7.length c0_7, .slice A0_8 l0_8.length c0_8]] rfl gl ?_; (with_reducible refine (cmd_told.calls k a0_0 a0_1 a0_2 a0_3 a0_4 a0_5 a0_6 _ _ l0_7 _ _ l0_8 t170 _ ?side1 ?side2 ?side3 ?side4 A4.out).mono ?_); (case side1 => exact kC (Kd.C_below HR0_7.out HB.out)); (case side2 => exact HC0_7.out); (case side3 => exact kC (Kd.C_below HR0_8.out HB.out)); (case side4 => exact HC0_8.out); rintro e w9 ⟨rfl, hb⟩; refine ⟨_, rfl, ?_⟩; replace BK168 := bb BK168.out hb; replace HB := am (below_step (bws HB.out) hb); (try clear hb)))
  go_ret2
  exact ⟨rf, bws HB.out⟩
 ·
  rw [if_neg c3] at H
  have c3b0 := beq_eq_false_iff_ne.mpr c3
  have c3b1 := bne_iff_ne.mpr c3
  simp only [Option.some.injEq, Prod.mk.injEq] at H
  obtain ⟨rfl, rfl⟩ := H
  go_enter Tryd.func8, Tryd.ntmps8
  go_wp2_with (first | ((with_reducible refine gate_dst (N := 1) rfl ?_); refine bx 1 #[.int .i64 a0_0, .string a0_1, .string a0_2, .string a0_3, .int .i64 a0_4, .int .i64 a0_5, .string a0_6, .slice A0_7 l0_7.length c0_7, .slice A0_8 l0_8.length c0_8] 25 ?_; intro gb168 hg w10 hbox hb; have BK168 := am (hbox); have GW168 := gsz hg HB.out; have GE168 := gsz hg HB.out; replace HB := am (below_step (bw HB.out) hb); clear hb hbox hg; obtain ⟨hcz11_0, hcz11_1, hcz11_2, hcz11_3, hcz11_4, hcz11_5, hcz11_6, hcz11_7, hcz11_8, hfz11_0, hfz11_1, hfz11_2, hfz11_3, hfz11_4, hfz11_5, hfz11_6, hfz11_7, hfz11_8⟩ := cz9 BK168.out) | ((with_reducible refine gate_callee (f := 14) rfl ?_); refine goesL_ (some 5) rfl rfl Tryd.func14 (by kernel_rfl) rfl #[.agg #[.int .i64 a0_0, .string a0_1, .string a0_2, .string a0_3, .int .i64 a0_4, .int .i64 a0_5, .string a0_6, .slice A0_7 l0_7.length c0_7, .slice A0_8 l0_8.length c0_8]] rfl gl ?_; (with_reducible refine (cmd_Check.calls k a0_0 a0_1 a0_2 a0_3 a0_4 a0_5 a0_6 _ _ l0_7 _ _ l0_8 t169 _ ?side1 ?side2 ?side3 ?side4 A2.out ?sideG).mono ?_); (case sideG => first | exact HG.out | exact gg_below HG.out (bws HB.out)); (case side1 => exact kC (Kd.C_below HR0_7.out HB.out)); (case side2 => exact HC0_7.out); (case side3 => exact kC (Kd.C_below HR0_8.out HB.out)); (case side4 => exact HC0_8.out); rintro e w12 ⟨rfl, hb⟩; refine ⟨_, rfl, ?_⟩; replace BK168 := bb BK168.out hb; replace HB := am (below_step (bws HB.out) hb); (try clear hb)))
  go_ret2
  exact ⟨rf, bws HB.out⟩
def digest_Hex.f (a0 : ByteArray) : Option ByteArray := Sha.hexF a0
theorem digest_Hex.calls (a0 : ByteArray) (r : ByteArray) (w : World) (h : digest_Hex.f a0 = some r) :
  Calls Tryd.prog 26 #[.string a0] w fun e w' => e = .returned (.string r) ∧ Below w.heap.size w w' := by
 unfold digest_Hex.f Sha.hexF at h
 split at h
 ·
  rename_i hc
  cases h
  exact Sha.Hex a0 hc w
 ·
  cases h
def digest_Tagged.f (a0 : Int) (l1 : List ByteArray) : Option ByteArray := Sha.tagF a0 l1
theorem digest_Tagged.calls (a0 : Int) (A1 : Option Addr) (c1 : Nat) (l1 : List ByteArray) (r : ByteArray) (w : World) (hr1 : Kd.C Kd.string w A1 l1.length l1) (hc1 : l1.length ≤ c1) (h : digest_Tagged.f a0 l1 = some r) (hG : GG w) :
  Calls Tryd.prog 27 #[.int .u8 a0, .slice A1 l1.length c1] w fun e w' => e = .returned (.string r) ∧ Below w.heap.size w w' := by
 unfold digest_Tagged.f Sha.tagF at h
 split at h
 ·
  rename_i hc
  cases h
  rw [Sha.Y_int a0 hc.1 hc.2.1]
  exact Sha.Tagged _ A1 c1 l1 w hr1 hc1 hc.2.2 hG.1
 ·
  cases h
end Go.Proofs.YtdidopoalmkhlaaDoor.Or
end
