/- Merged of several texts of this session's by merge.py. -/
import Derived.ChangeArms
import Derived.Deep.Slices
import Derived.Test.YtoiockmmlanimaaDoorMp1
import Derived.Test.YtoiockmmlanimaaDoorRows
import Derived.Laws.CopyRow
import Derived.Laws.AppendOwn
import Derived.Lib.AppendZerosOnto
import Derived.Lib.Overlaps
import Derived.Test.YtoiockmmlanimaaDoorProg
import Derived.Below
import Derived.Deep.Draws
import Derived.Deep.AppendLies
import Derived.Maps.AppendAt
import Derived.OwnWalk
import Derived.Laws.BytesArg
import Derived.Laws.MakeOwn
import Derived.Laws.OwnMore
import Derived.Deep.OwnRows
import Derived.Tactics
import Derived.Lib.ConvBytes
import Derived.Laws.Slices
import Derived.WalkKit
import Derived.KernelRfl
import Derived.RowKit3
import Derived.Deep.LoopGhost
import Derived.Deep.QuietTactic
import Derived.BigQuiet
import Derived.WideLaws
import Derived.Deep.DeepCutAuto
import Derived.Deep.CutBlock
import Derived.Deep.RegionHeld3
import Derived.Laws.Rows
import Derived.Lib.AppendStr
import Derived.ArgAppend
import Derived.Laws.IdiomCopy
import Derived.OrdersHeld
import Derived.Laws.BitsLemmas
import Derived.RowKit
import Derived.Test.YtoiockmmlanimaaDoorMp2
import Derived.Lib.Hide
import Derived.IntWalk
import Derived.LoopN
import Derived.Laws.Cover1
section
namespace Go.Proofs.YtoiockmmlanimaaDoor.KO
open Go.Proofs.YtoiockmmlanimaaDoorW.PrintWords Go.Deep
def WT {H : Type} (P : Program) (t : TypeId) (x : DataW H) : Prop := ∀ m ∈ DataW.weights P t x, m ≤ reachBytes
structure Opens (P : Program) (t : TypeId) {α : Type} (d : Kd α) (L : α → Prop) (bk : α → Nat) : Prop where
 out : ∀ {H : Type} (enc : TypeId × Value → H) (w : World) (base : Nat) (spare : Nat → Bool) (held : Bool) (fuel : Nat) (cs : List Value) (x : DataW H × List MemPlace),
  DataW.trod enc P w base spare held fuel t cs = some x → ∃ y, d.K w y cs ∧ (WT P t x.1 → L y) ∧ bk y ≤ Rows.uptoBulk x.1
theorem opens_int {P : Program} {t : TypeId} {k : IntKind} (ht : P.underlying t = some (.int k)) : Opens P t (Kd.int k) (fun n => (Lit.int k n).wf = true) (fun _ => 1) := ⟨by
 intro H enc w base spare held fuel cs x h
 obtain ⟨n, rfl, rfl, hw⟩ := DataW.trod_int ht h
 exact ⟨n, rfl, fun _ => hw, by simp [Rows.uptoBulk]⟩⟩
theorem opens_bool {P : Program} {t : TypeId} (ht : P.underlying t = some .bool) : Opens P t Kd.bool (fun _ => True) (fun _ => 1) := ⟨by
 intro H enc w base spare held fuel cs x h
 obtain ⟨n, rfl, rfl⟩ := DataW.trod_bool ht h
 exact ⟨n, rfl, fun _ => trivial, by simp [Rows.uptoBulk]⟩⟩
theorem opens_string {P : Program} {t : TypeId} (ht : P.underlying t = some .string) : Opens P t Kd.string (fun s => s.size ≤ reachBytes) (fun s => s.size + 1) := ⟨by
 intro H enc w base spare held fuel cs x h
 obtain ⟨s, rfl, rfl, hm⟩ := DataW.trod_string ht h
 refine ⟨s, rfl, fun hw => ?_, ?_⟩
 ·
  have := hw s.data.toList.length (by simp [DataW.weights])
  simpa using this
 ·
  simp [Rows.uptoBulk]⟩
theorem weightsAll_mem {H : Type} {P : Program} {e : TypeId} {m : Nat} : ∀ {l : List (DataW H)} {x : DataW H}, x ∈ l → m ∈ DataW.weights P e x → m ∈ DataW.weightsAll P e l
 | y :: l, x, hx, hm => by
  rw [DataW.weightsAll, List.mem_append]
  rcases List.mem_cons.1 hx with rfl | hx
  ·
   exact .inl hm
  ·
   exact .inr (weightsAll_mem hx hm)
theorem bulkAll_eq {H : Type} : ∀ l : List (DataW H), Rows.uptoBulkAll l = (l.map Rows.uptoBulk).sum
 | [] => by simp [Rows.uptoBulkAll]
 | x :: l => by rw [Rows.uptoBulkAll, bulkAll_eq l]; simp
theorem cells_at {w : World} {base : Nat} {a : Addr} {n : Nat} {cs : List Value} (h : w.cells? base a n = some cs) : cs.length = n ∧ ∀ i u, cs[i]? = some u → w.cell? (a.add i) = some u := by
 obtain ⟨_, hl, hc⟩ := World.cells?_some h
 refine ⟨hl, fun i u hu => ?_⟩
 have hi : i < n := by
  rcases Nat.lt_or_ge i cs.length with h0 | h0
  ·
   omega
  ·
   rw [List.getElem?_eq_none h0] at hu; cases hu
 rw [hc i hi, hu]
theorem add_add (a : Addr) (i j : Nat) : (a.add i).add j = a.add (i + j) := by
 unfold Addr.add
 by_cases h0 : i = 0
 ·
  subst h0; simp
 ·
  by_cases h1 : j = 0
  ·
   subst h1; simp
  ·
   rw [if_neg h1, if_neg h0, if_neg (by omega)]
   simp [Nat.add_assoc]
theorem sum_le {α β : Type} (f : α → Nat) (g : β → Nat) : ∀ (l : List α) (m : List β), l.length = m.length → (∀ (i : Nat) (x : α) (y : β), l[i]? = some x → m[i]? = some y → f x ≤ g y) → (l.map f).sum ≤ (m.map g).sum
 | [], [], _, _ => by simp
 | x :: l, y :: m, hl, h => by
  have h0 := h 0 x y rfl rfl
  have h1 := sum_le f g l m (by simpa using hl) (fun i a b ha hb => h (i + 1) a b ha hb)
  simp only [List.map_cons, List.sum_cons]
  omega
 | [], _ :: _, hl, _ => by simp at hl
 | _ :: _, [], hl, _ => by simp at hl
theorem choose_list {α : Type} {Q : Nat → α → Prop} : ∀ n, (∀ i, i < n → ∃ y, Q i y) → ∃ ys : List α, ys.length = n ∧ ∀ (i : Nat) (y : α), ys[i]? = some y → Q i y
 | 0, _ => ⟨[], rfl, fun i y h => by simp at h⟩
 | n + 1, h => by
  obtain ⟨ys, hl, hq⟩ := choose_list n (fun i hi => h i (by omega))
  obtain ⟨y, hy⟩ := h n (by omega)
  refine ⟨ys ++ [y], by simp [hl], fun i z hz => ?_⟩
  rcases Nat.lt_or_ge i n with hi | hi
  ·
   rw [List.getElem?_append_left (by omega)] at hz
   exact hq i z hz
  ·
   rw [List.getElem?_append_right (by omega)] at hz
   have : i - ys.length = 0 := by
    rcases Nat.eq_zero_or_pos (i - ys.length) with h0 | h0
    ·
     exact h0
    ·
     rw [List.getElem?_eq_none (by simp; omega)] at hz; cases hz
   rw [this] at hz
   obtain rfl : y = z := by simpa using hz
   obtain rfl : i = n := by omega
   exact hy
theorem opens_slice {P : Program} {t e : TypeId} {α : Type} {d : Kd α} {L : α → Prop} {bk : α → Nat} {b : Nat} (ht : P.underlying t = some (.slice e)) (he : Opens P e d L bk) (hs : P.cellsOf e = d.sz) (hb : P.bytesOf e = b) :
  Opens P t (Kd.slice e d) (fun ys => ys.length * b ≤ reachBytes ∧ ∀ y ∈ ys, L y) (fun ys => (ys.map bk).sum + 1) := ⟨by
 intro H enc w base spare held fuel cs x h
 rcases open_slice ht h with ⟨rfl, rfl⟩ | ⟨a, len, cap, m, n, D, Pl, rfl, _, hlc, hcm, hm, rfl, hx⟩
 ·
  exact ⟨[], ⟨none, 0, rfl, by simp, by simp, by simp, fun h0 => by simp at h0⟩, fun _ => ⟨by simp, fun y hy => by simp at hy⟩, by simp [Rows.uptoBulk]⟩
 ·
  have hlm : len ≤ m := by rw [hm]; split <;> omega
  obtain ⟨ys, hyl, hys⟩ := choose_list (Q := fun i y => (∃ c, c.length = d.sz ∧ d.K w y c ∧ ∀ j u, c[j]? = some u → w.cell? (a.add (i * d.sz + j)) = some u) ∧ (WT P e (D i) → L y) ∧ bk y ≤ Rows.uptoBulk (D i)) len (fun i hi => by
   obtain ⟨cs', hc, ht'⟩ := hx i (by omega)
   obtain ⟨y, hK, hL, hB⟩ := he.out enc w base spare held n cs' _ ht'
   obtain ⟨hl, hat⟩ := cells_at hc
   refine ⟨y, ⟨cs', d.K_len hK, hK, fun j u hu => ?_⟩, hL, hB⟩
   have := hat j u hu
   rw [hs] at this
   rw [← this, add_add])
  refine ⟨ys, ⟨some a, cap, by rw [hyl], by omega, by rw [hyl], by have : maxLen = 9223372036854775807 := rfl; omega, fun _ => ⟨a, rfl, fun j p hp => ?_⟩⟩, fun hw => ⟨?_, fun y hy => ?_⟩, ?_⟩
  ·
   obtain ⟨⟨c, h1, h2, h3⟩, _⟩ := hys j p hp
   exact ⟨c, h1, h2, h3⟩
  ·
   have := hw ((((List.range len).map D).length + ((List.range (m - len)).map fun j => D (len + j)).length) * P.bytesOf e) (by simp [DataW.weights, ht])
   rw [hb] at this
   refine Nat.le_trans (Nat.mul_le_mul_right _ ?_) this
   simp [hyl]
  ·
   obtain ⟨i, hi⟩ := List.mem_iff_getElem?.1 hy
   obtain ⟨_, hL, _⟩ := hys i y hi
   have hil : i < len := by
    rcases Nat.lt_or_ge i ys.length with h0 | h0
    ·
     omega
    ·
     rw [List.getElem?_eq_none h0] at hi; cases hi
   refine hL (fun k hk => hw k ?_)
   simp only [DataW.weights, ht, List.mem_cons, List.mem_append]
   refine .inr (.inl (weightsAll_mem (List.mem_map.2 ⟨i, by simpa using hil, rfl⟩) hk))
  ·
   simp only [Rows.uptoBulk, bulkAll_eq]
   have := sum_le bk Rows.uptoBulk ys ((List.range len).map D) (by simp [hyl]) (fun i y z hy hz => by
    obtain ⟨_, _, hB⟩ := hys i y hy
    rw [List.getElem?_map] at hz
    obtain ⟨j, hj, rfl⟩ := Option.map_eq_some_iff.1 hz
    have : j = i := by
     rw [List.getElem?_range] at hj
     ·
      exact (Option.some.inj hj).symm
     ·
      rcases Nat.lt_or_ge i len with h0 | h0
      ·
       exact h0
      ·
       rw [List.getElem?_eq_none (by simpa using h0)] at hj; cases hj
    subst this
    exact hB)
   omega⟩
structure OpensFs (P : Program) (off : Nat) (fs : List Field) (tot : Nat) {α : Type} (d : Kd α) (L : α → Prop) (bk : α → Nat) : Prop where
 out : ∀ {H : Type} (enc : TypeId × Value → H) (w : World) (base : Nat) (spare : Nat → Bool) (held : Bool) (fuel : Nat) (cs : List Value) (xs : List (DataW H × List MemPlace)),
  xs.length = fs.length → (∀ (i : Nat) (f : Field), fs[i]? = some f → DataW.trod enc P w base spare held fuel f.type ((cs.drop f.offset).take (P.cellsOf f.type)) = xs[i]?) → cs.length = tot →
  ∃ y, d.K w y (cs.drop off) ∧ ((∀ m ∈ DataW.weightsEach P (fs.map (·.type)) (xs.map (·.1)), m ≤ reachBytes) → L y) ∧ bk y ≤ Rows.uptoBulkAll (xs.map (·.1))
theorem opens_last {P : Program} {off tot : Nat} {f : Field} {α : Type} {d : Kd α} {L : α → Prop} {bk : α → Nat} (ho : f.offset = off) (h : Opens P f.type d L bk) (hc : off + P.cellsOf f.type = tot) : OpensFs P off [f] tot d L bk := ⟨by
 intro H enc w base spare held fuel cs xs hl hx hcs
 match xs, hl with
 | [x], _ =>
  have h0 := hx 0 f rfl
  simp only [List.getElem?_cons_zero] at h0
  rw [ho, List.take_of_length_le (by rw [List.length_drop]; omega)] at h0
  obtain ⟨y, hK, hL, hB⟩ := h.out enc w base spare held fuel _ _ h0
  exact ⟨y, hK, fun hw => hL (fun m hm => hw m (by simp [DataW.weightsEach, hm])), by simpa [Rows.uptoBulkAll] using hB⟩⟩
theorem opens_cons {P : Program} {off off' tot : Nat} {f : Field} {fs : List Field} {α β : Type} {d : Kd α} {L : α → Prop} {bk : α → Nat} {d' : Kd β} {L' : β → Prop} {bk' : β → Nat} (ho : f.offset = off) (h : Opens P f.type d L bk) (hc : off + P.cellsOf f.type = off') (hr : OpensFs P off' fs tot d' L' bk') :
  OpensFs P off (f :: fs) tot (Kd.pair d d') (fun y => L y.1 ∧ L' y.2) (fun y => bk y.1 + bk' y.2) := ⟨by
 intro H enc w base spare held fuel cs xs hl hx hcs
 match xs, hl with
 | x :: xs, hl =>
  have h0 := hx 0 f rfl
  simp only [List.getElem?_cons_zero] at h0
  rw [ho] at h0
  obtain ⟨y, hK, hL, hB⟩ := h.out enc w base spare held fuel _ _ h0
  obtain ⟨z, hK', hL', hB'⟩ := hr.out enc w base spare held fuel cs xs (by simpa using hl) (fun i g hg => hx (i + 1) g hg) hcs
  refine ⟨(y, z), ⟨_, _, ?_, hK, hK'⟩, fun hw => ⟨hL (fun m hm => hw m ?_), hL' (fun m hm => hw m ?_)⟩, ?_⟩
  ·
   rw [← hc, ← List.drop_drop, List.take_append_drop]
  ·
   simp only [List.map_cons, DataW.weightsEach, List.mem_append]; exact .inl hm
  ·
   simp only [List.map_cons, DataW.weightsEach, List.mem_append]; exact .inr hm
  ·
   simp only [List.map_cons, Rows.uptoBulkAll]; omega⟩
theorem opens_struct {P : Program} {t : TypeId} {fs : Array Field} {α β : Type} {d : Kd α} {L : α → Prop} {bk : α → Nat} (f : β → α) (g : α → β) (hfg : ∀ a, f (g a) = a) (ht : P.underlying t = some (.struct fs)) (h : OpensFs P 0 fs.toList (P.cellsOf t) d L bk) :
  Opens P t (Kd.iso d f) (fun y => L (f y)) (fun y => bk (f y) + 1) := ⟨by
 intro H enc w base spare held fuel cs x hx
 obtain ⟨xs, n, rfl, rfl, hl, hxl, hat⟩ := DataW.trod_struct ht hx
 obtain ⟨y, hK, hL, hB⟩ := h.out enc w base spare held n cs xs (by simpa using hxl) (fun i f hf => hat i f (by simpa using hf)) hl
 refine ⟨g y, ?_, fun hw => ?_, ?_⟩
 ·
  show d.K w (f (g y)) cs
  rw [hfg]
  simpa using hK
 ·
  show L (f (g y))
  rw [hfg]
  exact hL (fun m hm => hw m (by simpa [DataW.weights, ht] using hm))
 ·
  show bk (f (g y)) + 1 ≤ _
  rw [hfg]
  simp only [Rows.uptoBulk]
  omega⟩
end Go.Proofs.YtoiockmmlanimaaDoor.KO
end
section
namespace Go.Proofs.YtoiockmmlanimaaDoorW.PrintWords
open Go Go.RowKit
theorem bc {w W : World} {a : Addr} {v : Value} (h : Below w.heap.size w W) (hx : w.cell? a = some v) : W.cell? a = some v := (h.cell (World.block_lt_of_cell? w _ hx)).trans hx
theorem nf {w : World} {a : Addr} {v : Value} {g : Nat} {q : Prop} (h : w.cell? a = some v) (hg : w.heap.size ≤ g) (t : a.block < w.heap.size → w.heap.size ≤ g → q := by intro h1 h2; first | exact Nat.ne_of_lt (Nat.lt_of_lt_of_le (by first | rwa [add_block] at h1 | exact h1) h2) | (rw [add_block]; exact Nat.ne_of_lt (Nat.lt_of_lt_of_le (by first | rwa [add_block] at h1 | exact h1) h2)) | (show (Addr.add _ _).block ≠ _; rw [add_block]; exact Nat.ne_of_lt (Nat.lt_of_lt_of_le (by first | rwa [add_block] at h1 | exact h1) h2)) | (dsimp only; exact Nat.ne_of_lt (Nat.lt_of_lt_of_le (by first | rwa [add_block] at h1 | exact h1) h2))) : q := t (World.block_lt_of_cell? _ _ h) hg
theorem bw {p q : Prop} (h : p) (t : p → q := by intro h; repeat (first | (with_reducible first | exact h | apply below_alloc | apply pw_below_drewN | apply below_drew1) | exact h)) : q := t h
theorem bws {p q : Prop} (h : p) (t : p → q := by intro h; repeat (first | (with_reducible first | exact h | apply below_alloc | apply pw_below_drewN | apply below_drew1 | refine below_set ?_ (Aside0.out (by assumption))) | exact h)) : q := t h
theorem bk {p q : Prop} (h : p) (t : p → q := by intro h; (with_reducible repeat (first | refine blk_drewN ?_ _ | refine blk_drew ?_ | refine blk_alloc ?_ _)); exact h) : q := t h
theorem bkp {p q : Prop} (h : p) (t : p → q := by intro h; (with_reducible repeat (first | exact h | refine blk_drewN ?_ _ | refine blk_drew ?_ | refine blk_alloc ?_ _ | apply blk_put | refine blk_far ?_ (Aside0.out (by assumption)) _)); all_goals first | exact h | rfl) : q := t h
theorem kR {p q : Prop} (h : p) (t : p → q := by intro h; (with_reducible repeat (first | apply Kd.R_alloc | apply Kd.R_drewN | apply Kd.R_drew)); exact h) : q := t h
theorem kV {p q : Prop} (h : p) (t : p → q := by intro h; (with_reducible repeat (first | apply Kd.V_alloc | apply Kd.V_drewN | apply Kd.V_drew)); exact h) : q := t h
theorem kS {p q : Prop} (h : p) (t : p → q := by intro h; (with_reducible repeat (first | apply Kd.S_alloc | apply Kd.S_drewN | apply Kd.S_drew)); exact h) : q := t h
theorem kN {p q : Prop} (h : p) (t : p → q := by intro h; (with_reducible repeat (first | apply Kd.N_alloc | apply Kd.N_drewN | apply Kd.N_drew)); exact h) : q := t h
theorem kC {p q : Prop} (h : p) (t : p → q := by intro h; repeat (first | exact h | (with_reducible refine Kd.C_alloc ?_ _) | (with_reducible refine Kd.C_drewN ?_ _) | (with_reducible refine Kd.C_drew ?_))) : q := t h
theorem asm {q : Prop} (t : q := by first | (with_reducible assumption) | assumption) : q := t
theorem gl {q : Prop} (t : q := by (try simp only [List.map_toArray, List.map_cons, List.map_nil]); first | done | rfl | (simp only [List.length_drop, List.length_take]; rfl) | (rw [IntKind.wrap_u64, Int.emod_eq_of_lt (by omega) (by omega)]; rfl)) : q := t
end Go.Proofs.YtoiockmmlanimaaDoorW.PrintWords
namespace Go.Proofs.YtoiockmmlanimaaDoorW.PrintLast
open Go Go.RowKit Go.Proofs.YtoiockmmlanimaaDoorW.PrintWords
section
variable {P : Program} {ops : Array Oper} {Q : Exit → Act → World → Prop} {md : Region.Mode} {S : World → Prop} {ds : List Nat} {T : Bool × List (List Nat × List Nat)}
theorem pu (i : Nat) (N : Option Tmp) {oi : Oper} {v : Value} {fuel : Nat} {l : Array Bool} {a a' : Act} {w : World} (hT : rtab md ops = T) (h : wpAnyLast P md ops Q S ds fuel (l.setIfInBounds i true) a' w) (hi : ops[i]? = some oi := by exact rfl) (hN : oi.dst = N := by exact rfl) (hc : anyT T l.toList (l.setIfInBounds i true).toList i = true := by kernel_rfl)
  (hQ : ∀ c a w, Q (.panic c) (a.put oi.dst v) w → Q (.panic c) a w := by exact fun _ _ _ h => h) (hg : Region.wanted oi (yielded ops a.tmps) = true := by rfl) (hy : ∀ w, (execOp a.eval oi).run P w = .ok (.value v) w := by intro w'; go_simp; with_reducible rfl)
  (ha : a.put N v = a' := by simp only [Act.put, List.setIfInBounds_toArray, List.set_cons_zero, List.set_cons_succ, i64_w, i32_w]; rfl) : wpAnyLast P md ops Q S ds (fuel + 1) l a w := pure_ _ hi hN (any_of hT hc) hQ (.inl ⟨hg, hy⟩) ha h
theorem un (i : Nat) (N : Option Tmp) {oi : Oper} {fuel : Nat} {l : Array Bool} {a a' : Act} {w : World} (hT : rtab md ops = T) (h : wpAnyLast P md ops Q S ds fuel (l.setIfInBounds i true) a' w) (hi : ops[i]? = some oi := by exact rfl) (hN : oi.dst = N := by exact rfl) (hc : anyT T l.toList (l.setIfInBounds i true).toList i = true := by kernel_rfl)
  (hQ : ∀ c a w, Q (.panic c) (a.put oi.dst undef) w → Q (.panic c) a w := by exact fun _ _ _ h => h) (hg : Region.wanted oi (yielded ops a.tmps) = false := by rfl)
  (ha : a.put N undef = a' := by simp only [Act.put, List.setIfInBounds_toArray, List.set_cons_zero, List.set_cons_succ, i64_w, i32_w]; rfl) : wpAnyLast P md ops Q S ds (fuel + 1) l a w := pure_ _ hi hN (any_of hT hc) hQ (.inr ⟨hg, rfl⟩) ha h
theorem tk (i : Nat) (N : Option Tmp) {oi : Oper} {v : Value} {fuel : Nat} {l : Array Bool} {a a' : Act} {w : World} {B : List Nat} (hT : rtab md ops = T) (hB : waitsOk T.2 B = true) (hS : S w) (h : wpAnyLast P md ops Q S ds fuel (l.setIfInBounds i true) a' w) (hi : ops[i]? = some oi := by exact rfl) (hN : oi.dst = N := by exact rfl) (hc : takeW T B ds l.toList (l.setIfInBounds i true).toList i = true := by kernel_rfl)
  (hQ : ∀ c a w, Q (.panic c) (a.put oi.dst v) w → Q (.panic c) a w := by exact fun _ _ _ h => h) (hg : Region.wanted oi (yielded ops a.tmps) = true := by rfl) (hy : ∀ w, S w → (execOp a.eval oi).run P w = .ok (.value v) w := by intro w' hs; (repeat (have s := And.left hs; replace hs := And.right hs)); go_simp; with_reducible rfl)
  (ha : a.put N v = a' := by simp only [Act.put, List.setIfInBounds_toArray, List.set_cons_zero, List.set_cons_succ, i64_w, i32_w]; rfl) : wpAnyLast P md ops Q S ds (fuel + 1) l a w := take_ _ hi hN (take_ofW hT hB hc) hQ (.inl ⟨hg, hy⟩) hS ha h
end
end Go.Proofs.YtoiockmmlanimaaDoorW.PrintLast
end
section
namespace Go.Proofs.YtoiockmmlanimaaDoor.RowK
open Go
set_option linter.unusedVariables false
set_option linter.unusedSimpArgs false
theorem run_copy_rowK {P : Program} (w : World) (dT sT ty elem : TypeId) (k g o dLen dCap : Nat) (a : Addr) (sLen sCap n : Nat) (cur : Array Value) (t : TypeId) (cs : List Value)
  (hu : P.underlying dT = some (.slice elem)) (hs : (P.info? elem).map (·.size) = some k)
  (hg : w.heap[g]? = some (.cells cur t (0, 0))) (hn : n = Nat.min sLen dLen) (hcl : cs.length = n * k)
  (hsrc : ∀ j v, cs[j]? = some v → w.cell? (a.add j) = some v) (hfit : o + cs.length ≤ cur.size) (h1 : ∀ v ∈ cs, v.oneCell' = true) :
  (Builtin.copy_ #[dT, sT] ty #[.slice (some ⟨g, o, none⟩) dLen dCap, .slice (some a) sLen sCap]).run P w =
   .ok (goInt n) (w.setRow g (cur.toList.take o ++ cs ++ cur.toList.drop (o + cs.length)).toArray) := by
 have hl := run_loadCells_list (P := P) w a cs hsrc
 rw [hcl] at hl
 have hst := run_storeCells_at P g o t cs 0 cur w hg (by simpa using hfit) h1
 cases hq : P.info? elem with
 | none => simp [hq] at hs
 | some i =>
  have hi : i.size = k := by simpa [hq] using hs
  simp [Builtin.copy_, run_underlying hu, Builtin.lenOf, Builtin.firstCells, sizeOf, typeInfo, hq, hi, ← hn, hl, hst]
theorem setRow_other (w : World) (g : Nat) (cs : Array Value) (k : Nat) (h : k ≠ g) : (w.setRow g cs).heap[k]? = w.heap[k]? := by
 unfold World.setRow
 simp only [Array.getElem?_modify]
 rw [if_neg (fun e => h e.symm)]
theorem ownsRow_low {w : World} {base base' size n : Nat} {e : TypeId} {v : Value} {xs : List Value} (h : w.ownsRow base e size v n xs) (hb : base' ≤ base) : w.ownsRow base' e size v n xs := by
 refine ⟨h.1, ?_⟩
 rcases h.2 with h2 | ⟨g, cap, cur, e1, e2, e3⟩
 ·
  exact .inl h2
 ·
  exact .inr ⟨g, cap, cur, e1, Nat.le_trans hb e2, e3⟩
theorem put_mid (A Z B vs : List Value) : ∀ (p : Nat), A.length = p → vs.length ≤ Z.length → (A ++ Z).take p ++ vs ++ (A ++ Z).drop (p + vs.length) = A ++ vs ++ Z.drop vs.length := by
 intro p hp hz
 subst hp
 rw [List.take_left, List.drop_append]
 simp
theorem shift_list (cur xs vs : List Value) (p q k : Nat) (hx : cur.take q = xs) (hp : p ≤ q) (hq : q + k ≤ cur.length) (hv : vs.length = k) (hk : p + k ≤ q + k)
  (d1 : List Value) (hd1 : d1 = cur.take (p + k) ++ xs.drop p ++ cur.drop (p + k + (xs.drop p).length))
  (d2 : List Value) (hd2 : d2 = d1.take p ++ vs ++ d1.drop (p + vs.length)) :
  d2.take (q + k) = xs.take p ++ vs ++ xs.drop p ∧ d2.length = cur.length ∧ d1.length = cur.length := by
 have hxl : xs.length = q := by rw [← hx, List.length_take]; omega
 have hA : xs.take p = cur.take p := by rw [← hx, List.take_take, Nat.min_eq_left hp]
 obtain ⟨B, hB⟩ : ∃ B, xs.drop p = B := ⟨_, rfl⟩
 have hBl : B.length = q - p := by rw [← hB, List.length_drop, hxl]
 obtain ⟨R, hR⟩ : ∃ R, cur.drop (p + k + B.length) = R := ⟨_, rfl⟩
 have hRl : R.length = cur.length - (p + k + B.length) := by rw [← hR, List.length_drop]
 have ht : cur.take (p + k) = cur.take p ++ (cur.drop p).take k := by rw [List.take_add]
 obtain ⟨A, hA'⟩ : ∃ A, cur.take p = A := ⟨_, rfl⟩
 have hAl : A.length = p := by rw [← hA', List.length_take]; omega
 obtain ⟨S, hS⟩ : ∃ S, (cur.drop p).take k = S := ⟨_, rfl⟩
 have hSl : S.length = k := by rw [← hS, List.length_take, List.length_drop]; omega
 rw [hB, hR, ht, hA', hS] at hd1
 rw [hA, hA', hB]
 have e1 : d1.take p = A := by rw [hd1, List.append_assoc, List.append_assoc, List.take_left' hAl]
 have e2 : d1.drop (p + vs.length) = B ++ R := by
  rw [hd1, List.append_assoc (A ++ S), List.drop_left' (by rw [List.length_append]; omega)]
 rw [e1, e2] at hd2
 refine ⟨?_, ?_, ?_⟩
 ·
  rw [hd2, ← List.append_assoc, List.take_left' (by simp only [List.length_append]; omega)]
 ·
  rw [hd2]; simp only [List.length_append]; omega
 ·
  rw [hd1]; simp only [List.length_append]; omega
theorem grow_list (xs vs Z cur d1 d2 : List Value) (p q k : Nat) (hxl : xs.length = q) (hp : p ≤ q) (hv : vs.length = k) (hcur : cur = xs.take p ++ Z) (hz : q + k - p ≤ Z.length)
  (hd1 : d1 = cur.take p ++ vs ++ cur.drop (p + vs.length)) (hd2 : d2 = d1.take (p + k) ++ xs.drop p ++ d1.drop (p + k + (xs.drop p).length)) :
  d2.take (q + k) = xs.take p ++ vs ++ xs.drop p ∧ d2.length = cur.length ∧ d1.length = cur.length := by
 obtain ⟨A, hA⟩ : ∃ A, xs.take p = A := ⟨_, rfl⟩
 have hAl : A.length = p := by rw [← hA, List.length_take]; omega
 obtain ⟨B, hB⟩ : ∃ B, xs.drop p = B := ⟨_, rfl⟩
 have hBl : B.length = q - p := by rw [← hB, List.length_drop, hxl]
 rw [hA] at hcur ⊢
 rw [hB] at hd2 ⊢
 have e1 : cur.take p = A := by rw [hcur, List.take_left' hAl]
 rw [e1] at hd1
 have hcl : cur.length = p + Z.length := by rw [hcur, List.length_append, hAl]
 have e2 : d1.take (p + k) = A ++ vs := by rw [hd1, List.take_left' (by rw [List.length_append]; omega)]
 have e3 : d1.length = cur.length := by rw [hd1]; simp only [List.length_append, List.length_drop]; omega
 rw [e2] at hd2
 refine ⟨?_, ?_, e3⟩
 ·
  rw [hd2, List.take_left' (by simp only [List.length_append]; omega)]
 ·
  rw [hd2]; simp only [List.length_append, List.length_drop]; omega
end Go.Proofs.YtoiockmmlanimaaDoor.RowK
end
section
namespace Go.Proofs.YtoiockmmlanimaaDoorW.PrintWords
open Go Go.RowKit
theorem blkF {w : World} {g b o : Nat} {t : TypeId} {cs : Array Value} (hp : g ≠ b) (h : w.heap[g]? = some (.cells cs t (0, 0))) (u : Value) : (w.setCell ⟨b, o, none⟩ u).heap[g]? = some (.cells cs t (0, 0)) := blk_far h hp u
theorem bkf {p q : Prop} (h : p) (t : p → q := by intro h; repeat (first | (with_reducible first | exact h | refine blk_drewN ?_ _ | refine blk_drew ?_ | refine blk_alloc ?_ _ | apply blk_put) | (apply blkF; · exact Aside0.out (by assumption)) | rfl)) : q := t h
theorem cz1 {w : World} {g : Nat} {t : TypeId} {a0 : Value} (h : w.heap[g]? = some (.cells #[a0] t (0, 0))) : w.cell? ⟨g, 0, none⟩ = some a0 ∧ w.frozen? ⟨g, 0, none⟩ = false := ⟨(blk_cell h 0).trans rfl, blk_frozen h 0⟩
theorem cz2 {w : World} {g : Nat} {t : TypeId} {a0 a1 : Value} (h : w.heap[g]? = some (.cells #[a0, a1] t (0, 0))) : w.cell? ⟨g, 0, none⟩ = some a0 ∧ w.cell? ⟨g, 1, none⟩ = some a1 ∧ w.frozen? ⟨g, 0, none⟩ = false ∧ w.frozen? ⟨g, 1, none⟩ = false := ⟨(blk_cell h 0).trans rfl, (blk_cell h 1).trans rfl, blk_frozen h 0, blk_frozen h 1⟩
theorem cz3 {w : World} {g : Nat} {t : TypeId} {a0 a1 a2 : Value} (h : w.heap[g]? = some (.cells #[a0, a1, a2] t (0, 0))) : w.cell? ⟨g, 0, none⟩ = some a0 ∧ w.cell? ⟨g, 1, none⟩ = some a1 ∧ w.cell? ⟨g, 2, none⟩ = some a2 ∧ w.frozen? ⟨g, 0, none⟩ = false ∧ w.frozen? ⟨g, 1, none⟩ = false ∧ w.frozen? ⟨g, 2, none⟩ = false := ⟨(blk_cell h 0).trans rfl, (blk_cell h 1).trans rfl, (blk_cell h 2).trans rfl, blk_frozen h 0, blk_frozen h 1, blk_frozen h 2⟩
theorem cz4 {w : World} {g : Nat} {t : TypeId} {a0 a1 a2 a3 : Value} (h : w.heap[g]? = some (.cells #[a0, a1, a2, a3] t (0, 0))) : w.cell? ⟨g, 0, none⟩ = some a0 ∧ w.cell? ⟨g, 1, none⟩ = some a1 ∧ w.cell? ⟨g, 2, none⟩ = some a2 ∧ w.cell? ⟨g, 3, none⟩ = some a3 ∧ w.frozen? ⟨g, 0, none⟩ = false ∧ w.frozen? ⟨g, 1, none⟩ = false ∧ w.frozen? ⟨g, 2, none⟩ = false ∧ w.frozen? ⟨g, 3, none⟩ = false := ⟨(blk_cell h 0).trans rfl, (blk_cell h 1).trans rfl, (blk_cell h 2).trans rfl, (blk_cell h 3).trans rfl, blk_frozen h 0, blk_frozen h 1, blk_frozen h 2, blk_frozen h 3⟩
theorem cz5 {w : World} {g : Nat} {t : TypeId} {a0 a1 a2 a3 a4 : Value} (h : w.heap[g]? = some (.cells #[a0, a1, a2, a3, a4] t (0, 0))) : w.cell? ⟨g, 0, none⟩ = some a0 ∧ w.cell? ⟨g, 1, none⟩ = some a1 ∧ w.cell? ⟨g, 2, none⟩ = some a2 ∧ w.cell? ⟨g, 3, none⟩ = some a3 ∧ w.cell? ⟨g, 4, none⟩ = some a4 ∧ w.frozen? ⟨g, 0, none⟩ = false ∧ w.frozen? ⟨g, 1, none⟩ = false ∧ w.frozen? ⟨g, 2, none⟩ = false ∧ w.frozen? ⟨g, 3, none⟩ = false ∧ w.frozen? ⟨g, 4, none⟩ = false := ⟨(blk_cell h 0).trans rfl, (blk_cell h 1).trans rfl, (blk_cell h 2).trans rfl, (blk_cell h 3).trans rfl, (blk_cell h 4).trans rfl, blk_frozen h 0, blk_frozen h 1, blk_frozen h 2, blk_frozen h 3, blk_frozen h 4⟩
theorem cz6 {w : World} {g : Nat} {t : TypeId} {a0 a1 a2 a3 a4 a5 : Value} (h : w.heap[g]? = some (.cells #[a0, a1, a2, a3, a4, a5] t (0, 0))) : w.cell? ⟨g, 0, none⟩ = some a0 ∧ w.cell? ⟨g, 1, none⟩ = some a1 ∧ w.cell? ⟨g, 2, none⟩ = some a2 ∧ w.cell? ⟨g, 3, none⟩ = some a3 ∧ w.cell? ⟨g, 4, none⟩ = some a4 ∧ w.cell? ⟨g, 5, none⟩ = some a5 ∧ w.frozen? ⟨g, 0, none⟩ = false ∧ w.frozen? ⟨g, 1, none⟩ = false ∧ w.frozen? ⟨g, 2, none⟩ = false ∧ w.frozen? ⟨g, 3, none⟩ = false ∧ w.frozen? ⟨g, 4, none⟩ = false ∧ w.frozen? ⟨g, 5, none⟩ = false := ⟨(blk_cell h 0).trans rfl, (blk_cell h 1).trans rfl, (blk_cell h 2).trans rfl, (blk_cell h 3).trans rfl, (blk_cell h 4).trans rfl, (blk_cell h 5).trans rfl, blk_frozen h 0, blk_frozen h 1, blk_frozen h 2, blk_frozen h 3, blk_frozen h 4, blk_frozen h 5⟩
theorem cz7 {w : World} {g : Nat} {t : TypeId} {a0 a1 a2 a3 a4 a5 a6 : Value} (h : w.heap[g]? = some (.cells #[a0, a1, a2, a3, a4, a5, a6] t (0, 0))) : w.cell? ⟨g, 0, none⟩ = some a0 ∧ w.cell? ⟨g, 1, none⟩ = some a1 ∧ w.cell? ⟨g, 2, none⟩ = some a2 ∧ w.cell? ⟨g, 3, none⟩ = some a3 ∧ w.cell? ⟨g, 4, none⟩ = some a4 ∧ w.cell? ⟨g, 5, none⟩ = some a5 ∧ w.cell? ⟨g, 6, none⟩ = some a6 ∧ w.frozen? ⟨g, 0, none⟩ = false ∧ w.frozen? ⟨g, 1, none⟩ = false ∧ w.frozen? ⟨g, 2, none⟩ = false ∧ w.frozen? ⟨g, 3, none⟩ = false ∧ w.frozen? ⟨g, 4, none⟩ = false ∧ w.frozen? ⟨g, 5, none⟩ = false ∧ w.frozen? ⟨g, 6, none⟩ = false := ⟨(blk_cell h 0).trans rfl, (blk_cell h 1).trans rfl, (blk_cell h 2).trans rfl, (blk_cell h 3).trans rfl, (blk_cell h 4).trans rfl, (blk_cell h 5).trans rfl, (blk_cell h 6).trans rfl, blk_frozen h 0, blk_frozen h 1, blk_frozen h 2, blk_frozen h 3, blk_frozen h 4, blk_frozen h 5, blk_frozen h 6⟩
theorem cz8 {w : World} {g : Nat} {t : TypeId} {a0 a1 a2 a3 a4 a5 a6 a7 : Value} (h : w.heap[g]? = some (.cells #[a0, a1, a2, a3, a4, a5, a6, a7] t (0, 0))) : w.cell? ⟨g, 0, none⟩ = some a0 ∧ w.cell? ⟨g, 1, none⟩ = some a1 ∧ w.cell? ⟨g, 2, none⟩ = some a2 ∧ w.cell? ⟨g, 3, none⟩ = some a3 ∧ w.cell? ⟨g, 4, none⟩ = some a4 ∧ w.cell? ⟨g, 5, none⟩ = some a5 ∧ w.cell? ⟨g, 6, none⟩ = some a6 ∧ w.cell? ⟨g, 7, none⟩ = some a7 ∧ w.frozen? ⟨g, 0, none⟩ = false ∧ w.frozen? ⟨g, 1, none⟩ = false ∧ w.frozen? ⟨g, 2, none⟩ = false ∧ w.frozen? ⟨g, 3, none⟩ = false ∧ w.frozen? ⟨g, 4, none⟩ = false ∧ w.frozen? ⟨g, 5, none⟩ = false ∧ w.frozen? ⟨g, 6, none⟩ = false ∧ w.frozen? ⟨g, 7, none⟩ = false := ⟨(blk_cell h 0).trans rfl, (blk_cell h 1).trans rfl, (blk_cell h 2).trans rfl, (blk_cell h 3).trans rfl, (blk_cell h 4).trans rfl, (blk_cell h 5).trans rfl, (blk_cell h 6).trans rfl, (blk_cell h 7).trans rfl, blk_frozen h 0, blk_frozen h 1, blk_frozen h 2, blk_frozen h 3, blk_frozen h 4, blk_frozen h 5, blk_frozen h 6, blk_frozen h 7⟩
theorem am {p : Prop} (h : p) : Aside0 p := ⟨h⟩
theorem rf {q : Prop} (t : q := by first | rfl | (simp [errW_none, errW_some] <;> rfl) | (simp [*, errW_none, errW_some] <;> rfl)) : q := t
theorem rs {q : Prop} (t : q := by first | rfl | (simp; done) | (simp [*]; done)) : q := t
theorem om {q : Prop} (t : q := by first | omega | exact Nat.le_refl _) : q := t
theorem niR {q : Prop} (t : q := by first | exact Kd.R_nil _ _ _ _ _ | exact Kd.N_nil _ _ _ _ _ | exact Kd.V_nil _ _ _ _ _ | exact Kd.Q_nil _ _ _ _ _ | exact Kd.S_nil _ _ _ _ _) : q := t
theorem niS {q : Prop} (t : q := by first | exact Kd.S_nil _ _ _ _ _ | exact Kd.N_nil _ _ _ _ _ | exact Kd.V_nil _ _ _ _ _ | exact Kd.Q_nil _ _ _ _ _ | exact Kd.R_nil _ _ _ _ _) : q := t
theorem obE {α β : Type} {o : Option α} {f : α → Option β} {r : β} (h : o.bind f = some r) : ∃ a, Aside0 (o = some a) ∧ f a = some r := by
 obtain ⟨a, h1, h2⟩ := Option.bind_eq_some_iff.mp h
 exact ⟨a, ⟨h1⟩, h2⟩
theorem iteD {c : Prop} [Decidable c] {α : Type} {a b r : α} (H : (if c then a else b) = r) : (decide c = true ∧ a = r) ∨ (decide c = false ∧ b = r) := by
 by_cases h : c
 ·
  exact .inl ⟨decide_eq_true h, by rw [if_pos h] at H; exact H⟩
 ·
  exact .inr ⟨decide_eq_false h, by rw [if_neg h] at H; exact H⟩
theorem bb {w0 w w' : World} {g : Nat} {o : Obj} (h : w0.heap[g]? = some o) (hb : Below w.heap.size w w') (t : w0.heap[g]? = some o → w.heap[g]? = some o := by intro h; (with_reducible repeat (first | refine blk_drewN ?_ _ | refine blk_drew ?_ | refine blk_alloc ?_ _)); exact h) : Aside0 (w'.heap[g]? = some o) := ⟨blk_below (t h) hb⟩
theorem nlt {w : World} {g g' : Nat} {p : Prop} (hg : g' = w.heap.size) (h : p) (t : p → ∃ o, w.heap[g]? = some o := by intro h; apply Exists.intro; (with_reducible repeat (first | refine blk_drewN ?_ _ | refine blk_drew ?_ | refine blk_alloc ?_ _)); exact h) : Aside0 (g ≠ g') := by
 obtain ⟨o, ho⟩ := t h
 exact ⟨by rw [hg]; exact Nat.ne_of_lt (blk_lt ho)⟩
theorem ngt {w : World} {g g' : Nat} {p : Prop} (hg : g' = w.heap.size) (h : p) (t : p → ∃ o, w.heap[g]? = some o := by intro h; apply Exists.intro; (with_reducible repeat (first | refine blk_drewN ?_ _ | refine blk_drew ?_ | refine blk_alloc ?_ _)); exact h) : Aside0 (g' ≠ g) := ⟨Ne.symm (nlt hg h t).out⟩
theorem gsz {w w0 wc : World} {g : Nat} (hg : g = wc.heap.size) (h : Below w.heap.size w w0) (t : Below w.heap.size w w0 → Below w.heap.size w wc := by intro h; repeat (first | (with_reducible first | exact h | apply below_alloc | apply pw_below_drewN | apply below_drew1 | refine below_set ?_ (Aside0.out (by assumption))) | exact h)) : Aside0 (w.heap.size ≤ g) := ⟨by rw [hg]; exact below_size (t h)⟩
theorem pz (x : Int) (t : decide (0 ≤ x) = true := by first | (with_reducible assumption) | assumption) : (0 ≤ x) = True := eq_true (of_decide_eq_true t)
theorem pl (x y : Int) (t : decide (x < y) = true := by first | (with_reducible assumption) | assumption) : (x < y) = True := eq_true (of_decide_eq_true t)
theorem cf {w : World} {a : Addr} {v : Value} {g : Nat} {p q : Prop} (hw : w.cell? a = some v) (hg : w.heap.size ≤ g) (hX : p) (t : a.block ≠ g → p → q := by intro hn h; repeat (first | (with_reducible exact h) | refine (cell_far hn _).trans ?_)) : q := t (Nat.ne_of_lt (Nat.lt_of_lt_of_le (World.block_lt_of_cell? _ _ hw) hg)) hX
section
variable {P : Program} {ops : Array Oper} {rest : List Oper} {o : Oper} {a : Act} {Q : Exit → Act → World → Prop}
theorem bx {W : World} (N : Tmp) (cs : Array Value) (t : TypeId) (h : ∀ g, g = W.heap.size → ∀ w1, w1.heap[g]? = some (.cells cs t (0, 0)) → Below W.heap.size W w1 → wpList P ops Q rest (a.put o.dst (.pointer (some ⟨g, 0, none⟩))) w1) (hgd : o.guard = none := by rfl) (hd : o.dst = some N := by rfl)
  (hrun : (execOp a.eval o).run P W = .ok (.value (.pointer (some ⟨W.heap.size, 0, none⟩))) (W.alloc (.cells cs t (0, 0))) := by first | (go_simp; done) | (go_simp; rfl)) : wpList P ops Q (o :: rest) a W := box_event hgd hd hrun h
end
end Go.Proofs.YtoiockmmlanimaaDoorW.PrintWords
end
section
namespace Go.Proofs.YtoiockmmlanimaaDoorW.PrintLast
open Go Go.RowKit Go.Proofs.YtoiockmmlanimaaDoorW.PrintWords
section
variable {P : Program} {ops : Array Oper} {Q : Exit → Act → World → Prop} {md : Region.Mode} {S : World → Prop} {ds : List Nat}
theorem hp (i : Nat) (N : Option Tmp) {oi : Oper} {v : Value} {fuel : Nat} {l : Array Bool} {a a' : Act} {w : World} (h : wpAnyLast P md ops Q S ds fuel (l.setIfInBounds i true) a' w) (hi : ops[i]? = some oi := by exact rfl) (hN : oi.dst = N := by exact rfl) (hc : anyB md ops l (l.setIfInBounds i true) i = true := by kernel_rfl)
  (hQ : ∀ c a w, Q (.panic c) (a.put oi.dst v) w → Q (.panic c) a w := by exact fun _ _ _ h => h) (hg : Region.wanted oi (yielded ops a.tmps) = true := by rfl) (hy : ∀ w, (execOp a.eval oi).run P w = .ok (.value v) w := by intro w'; go_simp; with_reducible rfl)
  (ha : a.put N v = a' := by simp only [Act.put, List.setIfInBounds_toArray, List.set_cons_zero, List.set_cons_succ, i64_w, i32_w]; rfl) : wpAnyLast P md ops Q S ds (fuel + 1) l a w := pure_ _ hi hN hc hQ (.inl ⟨hg, hy⟩) ha h
theorem hu (i : Nat) (N : Option Tmp) {oi : Oper} {fuel : Nat} {l : Array Bool} {a a' : Act} {w : World} (h : wpAnyLast P md ops Q S ds fuel (l.setIfInBounds i true) a' w) (hi : ops[i]? = some oi := by exact rfl) (hN : oi.dst = N := by exact rfl) (hc : anyB md ops l (l.setIfInBounds i true) i = true := by kernel_rfl)
  (hQ : ∀ c a w, Q (.panic c) (a.put oi.dst undef) w → Q (.panic c) a w := by exact fun _ _ _ h => h) (hg : Region.wanted oi (yielded ops a.tmps) = false := by rfl)
  (ha : a.put N undef = a' := by simp only [Act.put, List.setIfInBounds_toArray, List.set_cons_zero, List.set_cons_succ, i64_w, i32_w]; rfl) : wpAnyLast P md ops Q S ds (fuel + 1) l a w := pure_ _ hi hN hc hQ (.inr ⟨hg, rfl⟩) ha h
theorem ht (i : Nat) (N : Option Tmp) {oi : Oper} {v : Value} {fuel : Nat} {l : Array Bool} {a a' : Act} {w : World} (hS : S w) (h : wpAnyLast P md ops Q S ds fuel (l.setIfInBounds i true) a' w) (hi : ops[i]? = some oi := by exact rfl) (hN : oi.dst = N := by exact rfl) (hc : takeB md ops ds l (l.setIfInBounds i true) i = true := by kernel_rfl)
  (hQ : ∀ c a w, Q (.panic c) (a.put oi.dst v) w → Q (.panic c) a w := by exact fun _ _ _ h => h) (hg : Region.wanted oi (yielded ops a.tmps) = true := by rfl) (hy : ∀ w, S w → (execOp a.eval oi).run P w = .ok (.value v) w := by intro w' hs; (repeat (have s := And.left hs; replace hs := And.right hs)); go_simp; with_reducible rfl)
  (ha : a.put N v = a' := by simp only [Act.put, List.setIfInBounds_toArray, List.set_cons_zero, List.set_cons_succ, i64_w, i32_w]; rfl) : wpAnyLast P md ops Q S ds (fuel + 1) l a w := take_ _ hi hN hc hQ (.inl ⟨hg, hy⟩) hS ha h
theorem hcall (i : Nat) (N : Option Tmp) (f : FuncId) (args : Array Value) {R : Ending → World → Prop} {oi : Oper} {fuel : Nat} {l : Array Bool} {a : Act} {w : World} (hcall : Calls P f args w R)
  (h : ∀ e w', R e w' → ∃ v a', e = .returned v ∧ S w' ∧ a.put N v = a' ∧ wpAnyLast P md ops Q S ds fuel (l.setIfInBounds i true) a' w') (hi : ops[i]? = some oi := by exact rfl) (hN : oi.dst = N := by exact rfl) (hc : readyB md ops l (l.setIfInBounds i true) i = true := by kernel_rfl) (hd : i ∉ ds := by decide)
  (hg : Region.wanted oi (yielded ops a.tmps) = true := by rfl) (hrun : (execOp a.eval oi).run P w = .ok (.enter f args) w := by first | (go_simp; done) | (go_simp; rfl)) : wpAnyLast P md ops Q S ds (fuel + 1) l a w := by
 refine one_ (i := i) (N := N) _ hi hN hc hd (fun K hK => ?_)
 refine call_ f args hg hN hrun (hcall.mono ?_)
 intro e w' hR
 obtain ⟨v, a', rfl, hS, rfl, h⟩ := h e w' hR
 exact ⟨v, rfl, hK.out _ _ hS (fun _ => h)⟩
theorem hval (i : Nat) (N : Option Tmp) (v : Value) (w1 : World) {oi : Oper} {fuel : Nat} {l : Array Bool} {a a' : Act} {w : World} (hS : S w1) (h : wpAnyLast P md ops Q S ds fuel (l.setIfInBounds i true) a' w1) (hi : ops[i]? = some oi := by exact rfl) (hN : oi.dst = N := by exact rfl) (hc : readyB md ops l (l.setIfInBounds i true) i = true := by kernel_rfl) (hd : i ∉ ds := by decide)
  (hg : Region.wanted oi (yielded ops a.tmps) = true := by rfl) (hrun : (execOp a.eval oi).run P w = .ok (.value v) w1 := by first | (go_simp; done) | (go_simp; rfl) | (go_simp; constructor <;> rfl))
  (ha : a.put N v = a' := by simp only [Act.put, List.setIfInBounds_toArray, List.set_cons_zero, List.set_cons_succ, i64_w, i32_w]; rfl) : wpAnyLast P md ops Q S ds (fuel + 1) l a w := by
 refine one_ (i := i) (N := N) _ hi hN hc hd (fun K hK => ?_)
 refine value_ hg hN hrun ?_
 subst ha
 exact hK.out _ _ hS (fun _ => h)
theorem hstore (i : Nat) {oi : Oper} {fuel : Nat} {l : Array Bool} {a : Act} {w w1 : World} (h : wpAnyLast P md ops Q S ds fuel (l.setIfInBounds i true) a w1) (hi : ops[i]? = some oi := by exact rfl) (hN : oi.dst = none := by exact rfl) (hc : readyB md ops l (l.setIfInBounds i true) i = true := by kernel_rfl) (hd : i ∈ ds := by decide)
  (hg : Region.wanted oi (yielded ops a.tmps) = true := by rfl) (hrun : (execOp a.eval oi).run P w = .ok .skip w1 := by first | (go_simp; done) | (go_simp; rfl)) : wpAnyLast P md ops Q S ds (fuel + 1) l a w := by
 refine last_ (i := i) (N := none) _ hi hN hc hd (fun K hK => ?_)
 refine skip_ hg hN hrun ?_
 exact hK.out _ _ h
end
end Go.Proofs.YtoiockmmlanimaaDoorW.PrintLast
end
section
namespace Go.Proofs.YtoiockmmlanimaaDoor.Op
open Go.RowKit Go.Proofs.YtoiockmmlanimaaDoorW.PrintWords Go.Proofs.YtoiockmmlanimaaDoorW.PrintLast Go.Proofs.YtoiockmmlanimaaDoorW.PrintMore
attribute [local go_sem] max2_int min2_int max_two min_two max_three min_three max_four min_four
set_option linter.unusedVariables false
set_option linter.unusedSimpArgs false
def errW : Option Int → Value
 | none => .nilIface
 | some c => .iface 0 (.int .i64 c)
theorem errW_none : errW none = .nilIface := rfl
theorem errW_some (c : Int) : errW (some c) = .iface 0 (.int .i64 c) := rfl
theorem info5 : (Tryd.prog.info? 5).map (fun i => (i.zero, i.size, i.bytes)) = some (some (.int .u8 0), 1, 1) := by kernel_rfl
theorem info9 : (Tryd.prog.info? 9).map (fun i => (i.zero, i.size, i.bytes)) = some (some (.string ⟨#[]⟩), 1, 16) := by kernel_rfl
theorem info46 : (Tryd.prog.info? 46).map (fun i => (i.zero, i.size, i.bytes)) = some (some (.agg #[(.int .i64 0), (.int .i64 0), (.string ⟨#[]⟩), (.slice none 0 0)]), 4, 56) := by kernel_rfl
theorem info52 : (Tryd.prog.info? 52).map (fun i => (i.zero, i.size, i.bytes)) = some (some (.agg #[(.int .i64 0), (.int .i64 0), (.string ⟨#[]⟩), (.slice none 0 0)]), 4, 56) := by kernel_rfl
theorem info61 : (Tryd.prog.info? 61).map (fun i => (i.zero, i.size, i.bytes)) = some (some (.agg #[(.int .i64 0), (.string ⟨#[]⟩)]), 2, 24) := by kernel_rfl
theorem info63 : (Tryd.prog.info? 63).map (fun i => (i.zero, i.size, i.bytes)) = some (some (.agg #[(.string ⟨#[]⟩), (.int .i64 0)]), 2, 24) := by kernel_rfl
theorem info85 : (Tryd.prog.info? 85).map (fun i => (i.zero, i.size, i.bytes)) = some (some (.agg #[(.string ⟨#[]⟩), (.int .i64 0)]), 2, 24) := by kernel_rfl
-- the values' own types
structure S63 where
 f0 : ByteArray
 f1 : Int
def z63 : S63 := ⟨(⟨#[]⟩ : ByteArray), (0 : Int)⟩
def k63 : Kd S63 := Kd.iso (Kd.pair Kd.string (Kd.int .i64)) (fun x : S63 => (x.f0, x.f1))
theorem k63_open {w : World} {x : S63} {cs : List Value} (h : k63.K w x cs) : cs = [.string x.f0, .int .i64 x.f1] := by
 obtain ⟨_, _, rfl, rfl, rfl⟩ := h
 exact rfl
theorem k63_openM {w : World} {base : Nat} {ok : Nat → Prop} {x : S63} {cs : List Value} (h : k63.M w base ok x cs) : cs = [.string x.f0, .int .i64 x.f1] := by
 obtain ⟨_, _, rfl, rfl, rfl⟩ := h
 exact rfl
theorem k63_mk (w : World) (x : S63)  : k63.K w x [.string x.f0, .int .i64 x.f1] := ⟨[.string x.f0], [.int .i64 x.f1], rfl, rfl, rfl⟩
theorem k63_mkM (w : World) (base : Nat) (ok : Nat → Prop) (x : S63)  : k63.M w base ok x [.string x.f0, .int .i64 x.f1] := ⟨[.string x.f0], [.int .i64 x.f1], rfl, rfl, rfl⟩
theorem k63_mkF (W : World) (ok : Nat → Prop) (x : S63) : Kd.FK k63 W ok x [.string x.f0, .int .i64 x.f1] := fun W2 _ => k63_mk W2 x
def rd_T63 (xs : List S63) (i : Int) : S63 := xs.getD i.toNat z63
theorem at_T63 {w : World} {A : Option Addr} {n : Nat} {xs : List S63} (h : Kd.C k63 w A n xs) (i : Int) (h0 : 0 ≤ i) (h1 : i < n) : ∃ ad , A = some ad ∧ w.cell? (ad.add (i.toNat * 2)) = some (.string (rd_T63 xs i).f0) ∧ w.cell? ⟨(ad.add (i.toNat * 2)).block, (ad.add (i.toNat * 2)).off + 1, none⟩ = some (.int .i64 (rd_T63 xs i).f1) := by
 obtain ⟨ad, c, e, _, hK, hc0⟩ := Kd.C_get h z63 i h0 h1
 have hc : ∀ j u, c[j]? = some u → w.cell? (ad.add (i.toNat * 2 + j)) = some u := hc0
 obtain rfl := k63_open hK
 exact ⟨ad, e, hc 0 _ rfl, by rw [← add_field _ _ 1 (by omega)]; exact hc 1 _ rfl⟩
structure S85 where
 f0 : ByteArray
 f1 : Int
def z85 : S85 := ⟨(⟨#[]⟩ : ByteArray), (0 : Int)⟩
def k85 : Kd S85 := Kd.iso (Kd.pair Kd.string (Kd.int .i64)) (fun x : S85 => (x.f0, x.f1))
theorem k85_open {w : World} {x : S85} {cs : List Value} (h : k85.K w x cs) : cs = [.string x.f0, .int .i64 x.f1] := by
 obtain ⟨_, _, rfl, rfl, rfl⟩ := h
 exact rfl
theorem k85_openM {w : World} {base : Nat} {ok : Nat → Prop} {x : S85} {cs : List Value} (h : k85.M w base ok x cs) : cs = [.string x.f0, .int .i64 x.f1] := by
 obtain ⟨_, _, rfl, rfl, rfl⟩ := h
 exact rfl
theorem k85_mk (w : World) (x : S85)  : k85.K w x [.string x.f0, .int .i64 x.f1] := ⟨[.string x.f0], [.int .i64 x.f1], rfl, rfl, rfl⟩
theorem k85_mkM (w : World) (base : Nat) (ok : Nat → Prop) (x : S85)  : k85.M w base ok x [.string x.f0, .int .i64 x.f1] := ⟨[.string x.f0], [.int .i64 x.f1], rfl, rfl, rfl⟩
theorem k85_mkF (W : World) (ok : Nat → Prop) (x : S85) : Kd.FK k85 W ok x [.string x.f0, .int .i64 x.f1] := fun W2 _ => k85_mk W2 x
def rd_T85 (xs : List S85) (i : Int) : S85 := xs.getD i.toNat z85
theorem at_T85 {w : World} {A : Option Addr} {n : Nat} {xs : List S85} (h : Kd.C k85 w A n xs) (i : Int) (h0 : 0 ≤ i) (h1 : i < n) : ∃ ad , A = some ad ∧ w.cell? (ad.add (i.toNat * 2)) = some (.string (rd_T85 xs i).f0) ∧ w.cell? ⟨(ad.add (i.toNat * 2)).block, (ad.add (i.toNat * 2)).off + 1, none⟩ = some (.int .i64 (rd_T85 xs i).f1) := by
 obtain ⟨ad, c, e, _, hK, hc0⟩ := Kd.C_get h z85 i h0 h1
 have hc : ∀ j u, c[j]? = some u → w.cell? (ad.add (i.toNat * 2 + j)) = some u := hc0
 obtain rfl := k85_open hK
 exact ⟨ad, e, hc 0 _ rfl, by rw [← add_field _ _ 1 (by omega)]; exact hc 1 _ rfl⟩
def rd_L4 (xs : List (List S63)) (i : Int) : (List S63) := xs.getD i.toNat ([] : List S63)
theorem at_L4 {w : World} {A : Option Addr} {n : Nat} {xs : List (List S63)} (h : Kd.C (Kd.slice 63 k63) w A n xs) (i : Int) (h0 : 0 ≤ i) (h1 : i < n) : ∃ ad A0 c0, A = some ad ∧ w.cell? (ad.add i.toNat) = some (.slice A0 (rd_L4 xs i).length c0) ∧ (rd_L4 xs i).length ≤ c0 ∧ k63.C w A0 (rd_L4 xs i).length (rd_L4 xs i) := by
 obtain ⟨ad, c, e, _, hK, hc0⟩ := Kd.C_get h ([] : List S63) i h0 h1
 have hc : ∀ j u, c[j]? = some u → w.cell? (ad.add (i.toNat * 1 + j)) = some u := hc0
 obtain ⟨A0, c0, rfl, l0, g0⟩ := hK
 exact ⟨ad, A0, c0, e, by have hq := hc 0 _ rfl; rwa [Nat.mul_one, Nat.add_zero] at hq, l0, g0⟩
structure S46 where
 f0 : Int
 f1 : Int
 f2 : ByteArray
 f3 : (List S63)
def z46 : S46 := ⟨(0 : Int), (0 : Int), (⟨#[]⟩ : ByteArray), ([] : List S63)⟩
def k46 : Kd S46 := Kd.iso (Kd.pair (Kd.int .i64) (Kd.pair (Kd.int .i64) (Kd.pair Kd.string (Kd.slice 63 k63)))) (fun x : S46 => (x.f0, x.f1, x.f2, x.f3))
theorem k46_open {w : World} {x : S46} {cs : List Value} (h : k46.K w x cs) : ∃ A3 c3, cs = [.int .i64 x.f0, .int .i64 x.f1, .string x.f2, .slice A3 x.f3.length c3] ∧ x.f3.length ≤ c3 ∧ k63.C w A3 x.f3.length x.f3 := by
 obtain ⟨_, _, rfl, rfl, ⟨_, _, rfl, rfl, ⟨_, _, rfl, rfl, ⟨A3, c3, rfl, l3, g3⟩⟩⟩⟩ := h
 exact ⟨A3, c3, rfl, l3, g3⟩
theorem k46_openM {w : World} {base : Nat} {ok : Nat → Prop} {x : S46} {cs : List Value} (h : k46.M w base ok x cs) : ∃ v3, cs = [.int .i64 x.f0, .int .i64 x.f1, .string x.f2, v3] ∧ k63.R 63 w base ok v3 x.f3 := by
 obtain ⟨_, _, rfl, rfl, ⟨_, _, rfl, rfl, ⟨_, _, rfl, rfl, ⟨v3, rfl, g3⟩⟩⟩⟩ := h
 exact ⟨v3, rfl, g3⟩
theorem k46_mk (w : World) (x : S46) {A3 : Option Addr} {c3 : Nat} (l3 : x.f3.length ≤ c3) (g3 : k63.C w A3 x.f3.length x.f3) : k46.K w x [.int .i64 x.f0, .int .i64 x.f1, .string x.f2, .slice A3 x.f3.length c3] := ⟨[.int .i64 x.f0], [.int .i64 x.f1, .string x.f2, .slice A3 x.f3.length c3], rfl, rfl, ⟨[.int .i64 x.f1], [.string x.f2, .slice A3 x.f3.length c3], rfl, rfl, ⟨[.string x.f2], [.slice A3 x.f3.length c3], rfl, rfl, ⟨A3, c3, rfl, l3, g3⟩⟩⟩⟩
theorem k46_mkM (w : World) (base : Nat) (ok : Nat → Prop) (x : S46) {v3 : Value} (g3 : k63.R 63 w base ok v3 x.f3) : k46.M w base ok x [.int .i64 x.f0, .int .i64 x.f1, .string x.f2, v3] := ⟨[.int .i64 x.f0], [.int .i64 x.f1, .string x.f2, v3], rfl, rfl, ⟨[.int .i64 x.f1], [.string x.f2, v3], rfl, rfl, ⟨[.string x.f2], [v3], rfl, rfl, ⟨v3, rfl, g3⟩⟩⟩⟩
theorem k46_openF {W : World} {ok : Nat → Prop} {x : S46} {cs : List Value} (h : Kd.FK k46 W ok x cs) : ∃ A3 c3, cs = [.int .i64 x.f0, .int .i64 x.f1, .string x.f2, .slice A3 x.f3.length c3] ∧ x.f3.length ≤ c3 ∧ Kd.F k63 W ok A3 x.f3.length x.f3 := by
 obtain ⟨A3, c3, rfl, l3, _⟩ := k46_open (Kd.FK_now h)
 exact ⟨A3, c3, rfl, l3, (fun W' hW => by obtain ⟨A3_, c3_, he, l3_, g3_⟩ := k46_open (h W' hW); injection (Option.some.inj (show some (Value.slice A3 x.f3.length c3) = some (Value.slice A3_ x.f3.length c3_) from congrArg (fun l => l[3]?) he)) with ha_ _ _; rw [ha_]; exact g3_)⟩
theorem k46_mkF (W : World) (ok : Nat → Prop) (x : S46) {A3 : Option Addr} {c3 : Nat} (l3 : x.f3.length ≤ c3) (g3 : Kd.F k63 W ok A3 x.f3.length x.f3) : Kd.FK k46 W ok x [.int .i64 x.f0, .int .i64 x.f1, .string x.f2, .slice A3 x.f3.length c3] := fun W2 hW => k46_mk W2 x l3 (g3 W2 hW)
def rd_T46 (xs : List S46) (i : Int) : S46 := xs.getD i.toNat z46
theorem at_T46 {w : World} {A : Option Addr} {n : Nat} {xs : List S46} (h : Kd.C k46 w A n xs) (i : Int) (h0 : 0 ≤ i) (h1 : i < n) : ∃ ad A3 c3, A = some ad ∧ w.cell? (ad.add (i.toNat * 4)) = some (.int .i64 (rd_T46 xs i).f0) ∧ w.cell? ⟨(ad.add (i.toNat * 4)).block, (ad.add (i.toNat * 4)).off + 1, none⟩ = some (.int .i64 (rd_T46 xs i).f1) ∧ w.cell? ⟨(ad.add (i.toNat * 4)).block, (ad.add (i.toNat * 4)).off + 2, none⟩ = some (.string (rd_T46 xs i).f2) ∧ w.cell? ⟨(ad.add (i.toNat * 4)).block, (ad.add (i.toNat * 4)).off + 3, none⟩ = some (.slice A3 (rd_T46 xs i).f3.length c3) ∧ (rd_T46 xs i).f3.length ≤ c3 ∧ k63.C w A3 (rd_T46 xs i).f3.length (rd_T46 xs i).f3 := by
 obtain ⟨ad, c, e, _, hK, hc0⟩ := Kd.C_get h z46 i h0 h1
 have hc : ∀ j u, c[j]? = some u → w.cell? (ad.add (i.toNat * 4 + j)) = some u := hc0
 obtain ⟨A3, c3, rfl, l3, g3⟩ := k46_open hK
 exact ⟨ad, A3, c3, e, hc 0 _ rfl, by rw [← add_field _ _ 1 (by omega)]; exact hc 1 _ rfl, by rw [← add_field _ _ 2 (by omega)]; exact hc 2 _ rfl, by rw [← add_field _ _ 3 (by omega)]; exact hc 3 _ rfl, l3, g3⟩
def rd_L6 (xs : List (List S85)) (i : Int) : (List S85) := xs.getD i.toNat ([] : List S85)
theorem at_L6 {w : World} {A : Option Addr} {n : Nat} {xs : List (List S85)} (h : Kd.C (Kd.slice 85 k85) w A n xs) (i : Int) (h0 : 0 ≤ i) (h1 : i < n) : ∃ ad A0 c0, A = some ad ∧ w.cell? (ad.add i.toNat) = some (.slice A0 (rd_L6 xs i).length c0) ∧ (rd_L6 xs i).length ≤ c0 ∧ k85.C w A0 (rd_L6 xs i).length (rd_L6 xs i) := by
 obtain ⟨ad, c, e, _, hK, hc0⟩ := Kd.C_get h ([] : List S85) i h0 h1
 have hc : ∀ j u, c[j]? = some u → w.cell? (ad.add (i.toNat * 1 + j)) = some u := hc0
 obtain ⟨A0, c0, rfl, l0, g0⟩ := hK
 exact ⟨ad, A0, c0, e, by have hq := hc 0 _ rfl; rwa [Nat.mul_one, Nat.add_zero] at hq, l0, g0⟩
structure S52 where
 f0 : Int
 f1 : Int
 f2 : ByteArray
 f3 : (List S85)
def z52 : S52 := ⟨(0 : Int), (0 : Int), (⟨#[]⟩ : ByteArray), ([] : List S85)⟩
def k52 : Kd S52 := Kd.iso (Kd.pair (Kd.int .i64) (Kd.pair (Kd.int .i64) (Kd.pair Kd.string (Kd.slice 85 k85)))) (fun x : S52 => (x.f0, x.f1, x.f2, x.f3))
theorem k52_open {w : World} {x : S52} {cs : List Value} (h : k52.K w x cs) : ∃ A3 c3, cs = [.int .i64 x.f0, .int .i64 x.f1, .string x.f2, .slice A3 x.f3.length c3] ∧ x.f3.length ≤ c3 ∧ k85.C w A3 x.f3.length x.f3 := by
 obtain ⟨_, _, rfl, rfl, ⟨_, _, rfl, rfl, ⟨_, _, rfl, rfl, ⟨A3, c3, rfl, l3, g3⟩⟩⟩⟩ := h
 exact ⟨A3, c3, rfl, l3, g3⟩
theorem k52_openM {w : World} {base : Nat} {ok : Nat → Prop} {x : S52} {cs : List Value} (h : k52.M w base ok x cs) : ∃ v3, cs = [.int .i64 x.f0, .int .i64 x.f1, .string x.f2, v3] ∧ k85.R 85 w base ok v3 x.f3 := by
 obtain ⟨_, _, rfl, rfl, ⟨_, _, rfl, rfl, ⟨_, _, rfl, rfl, ⟨v3, rfl, g3⟩⟩⟩⟩ := h
 exact ⟨v3, rfl, g3⟩
theorem k52_mk (w : World) (x : S52) {A3 : Option Addr} {c3 : Nat} (l3 : x.f3.length ≤ c3) (g3 : k85.C w A3 x.f3.length x.f3) : k52.K w x [.int .i64 x.f0, .int .i64 x.f1, .string x.f2, .slice A3 x.f3.length c3] := ⟨[.int .i64 x.f0], [.int .i64 x.f1, .string x.f2, .slice A3 x.f3.length c3], rfl, rfl, ⟨[.int .i64 x.f1], [.string x.f2, .slice A3 x.f3.length c3], rfl, rfl, ⟨[.string x.f2], [.slice A3 x.f3.length c3], rfl, rfl, ⟨A3, c3, rfl, l3, g3⟩⟩⟩⟩
theorem k52_mkM (w : World) (base : Nat) (ok : Nat → Prop) (x : S52) {v3 : Value} (g3 : k85.R 85 w base ok v3 x.f3) : k52.M w base ok x [.int .i64 x.f0, .int .i64 x.f1, .string x.f2, v3] := ⟨[.int .i64 x.f0], [.int .i64 x.f1, .string x.f2, v3], rfl, rfl, ⟨[.int .i64 x.f1], [.string x.f2, v3], rfl, rfl, ⟨[.string x.f2], [v3], rfl, rfl, ⟨v3, rfl, g3⟩⟩⟩⟩
theorem k52_openF {W : World} {ok : Nat → Prop} {x : S52} {cs : List Value} (h : Kd.FK k52 W ok x cs) : ∃ A3 c3, cs = [.int .i64 x.f0, .int .i64 x.f1, .string x.f2, .slice A3 x.f3.length c3] ∧ x.f3.length ≤ c3 ∧ Kd.F k85 W ok A3 x.f3.length x.f3 := by
 obtain ⟨A3, c3, rfl, l3, _⟩ := k52_open (Kd.FK_now h)
 exact ⟨A3, c3, rfl, l3, (fun W' hW => by obtain ⟨A3_, c3_, he, l3_, g3_⟩ := k52_open (h W' hW); injection (Option.some.inj (show some (Value.slice A3 x.f3.length c3) = some (Value.slice A3_ x.f3.length c3_) from congrArg (fun l => l[3]?) he)) with ha_ _ _; rw [ha_]; exact g3_)⟩
theorem k52_mkF (W : World) (ok : Nat → Prop) (x : S52) {A3 : Option Addr} {c3 : Nat} (l3 : x.f3.length ≤ c3) (g3 : Kd.F k85 W ok A3 x.f3.length x.f3) : Kd.FK k52 W ok x [.int .i64 x.f0, .int .i64 x.f1, .string x.f2, .slice A3 x.f3.length c3] := fun W2 hW => k52_mk W2 x l3 (g3 W2 hW)
def rd_T52 (xs : List S52) (i : Int) : S52 := xs.getD i.toNat z52
theorem at_T52 {w : World} {A : Option Addr} {n : Nat} {xs : List S52} (h : Kd.C k52 w A n xs) (i : Int) (h0 : 0 ≤ i) (h1 : i < n) : ∃ ad A3 c3, A = some ad ∧ w.cell? (ad.add (i.toNat * 4)) = some (.int .i64 (rd_T52 xs i).f0) ∧ w.cell? ⟨(ad.add (i.toNat * 4)).block, (ad.add (i.toNat * 4)).off + 1, none⟩ = some (.int .i64 (rd_T52 xs i).f1) ∧ w.cell? ⟨(ad.add (i.toNat * 4)).block, (ad.add (i.toNat * 4)).off + 2, none⟩ = some (.string (rd_T52 xs i).f2) ∧ w.cell? ⟨(ad.add (i.toNat * 4)).block, (ad.add (i.toNat * 4)).off + 3, none⟩ = some (.slice A3 (rd_T52 xs i).f3.length c3) ∧ (rd_T52 xs i).f3.length ≤ c3 ∧ k85.C w A3 (rd_T52 xs i).f3.length (rd_T52 xs i).f3 := by
 obtain ⟨ad, c, e, _, hK, hc0⟩ := Kd.C_get h z52 i h0 h1
 have hc : ∀ j u, c[j]? = some u → w.cell? (ad.add (i.toNat * 4 + j)) = some u := hc0
 obtain ⟨A3, c3, rfl, l3, g3⟩ := k52_open hK
 exact ⟨ad, A3, c3, e, hc 0 _ rfl, by rw [← add_field _ _ 1 (by omega)]; exact hc 1 _ rfl, by rw [← add_field _ _ 2 (by omega)]; exact hc 2 _ rfl, by rw [← add_field _ _ 3 (by omega)]; exact hc 3 _ rfl, l3, g3⟩
structure S61 where
 f0 : Int
 f1 : ByteArray
def z61 : S61 := ⟨(0 : Int), (⟨#[]⟩ : ByteArray)⟩
def k61 : Kd S61 := Kd.iso (Kd.pair (Kd.int .i64) Kd.string) (fun x : S61 => (x.f0, x.f1))
theorem k61_open {w : World} {x : S61} {cs : List Value} (h : k61.K w x cs) : cs = [.int .i64 x.f0, .string x.f1] := by
 obtain ⟨_, _, rfl, rfl, rfl⟩ := h
 exact rfl
theorem k61_openM {w : World} {base : Nat} {ok : Nat → Prop} {x : S61} {cs : List Value} (h : k61.M w base ok x cs) : cs = [.int .i64 x.f0, .string x.f1] := by
 obtain ⟨_, _, rfl, rfl, rfl⟩ := h
 exact rfl
theorem k61_mk (w : World) (x : S61)  : k61.K w x [.int .i64 x.f0, .string x.f1] := ⟨[.int .i64 x.f0], [.string x.f1], rfl, rfl, rfl⟩
theorem k61_mkM (w : World) (base : Nat) (ok : Nat → Prop) (x : S61)  : k61.M w base ok x [.int .i64 x.f0, .string x.f1] := ⟨[.int .i64 x.f0], [.string x.f1], rfl, rfl, rfl⟩
theorem k61_mkF (W : World) (ok : Nat → Prop) (x : S61) : Kd.FK k61 W ok x [.int .i64 x.f0, .string x.f1] := fun W2 _ => k61_mk W2 x
def rd_T61 (xs : List S61) (i : Int) : S61 := xs.getD i.toNat z61
theorem at_T61 {w : World} {A : Option Addr} {n : Nat} {xs : List S61} (h : Kd.C k61 w A n xs) (i : Int) (h0 : 0 ≤ i) (h1 : i < n) : ∃ ad , A = some ad ∧ w.cell? (ad.add (i.toNat * 2)) = some (.int .i64 (rd_T61 xs i).f0) ∧ w.cell? ⟨(ad.add (i.toNat * 2)).block, (ad.add (i.toNat * 2)).off + 1, none⟩ = some (.string (rd_T61 xs i).f1) := by
 obtain ⟨ad, c, e, _, hK, hc0⟩ := Kd.C_get h z61 i h0 h1
 have hc : ∀ j u, c[j]? = some u → w.cell? (ad.add (i.toNat * 2 + j)) = some u := hc0
 obtain rfl := k61_open hK
 exact ⟨ad, e, hc 0 _ rfl, by rw [← add_field _ _ 1 (by omega)]; exact hc 1 _ rfl⟩
theorem cz9 {w : World} {g : Nat} {t : TypeId} {a0 a1 a2 a3 a4 a5 a6 a7 a8 : Value} (h : w.heap[g]? = some (.cells #[a0, a1, a2, a3, a4, a5, a6, a7, a8] t (0, 0))) : w.cell? ⟨g, 0, none⟩ = some a0 ∧ w.cell? ⟨g, 1, none⟩ = some a1 ∧ w.cell? ⟨g, 2, none⟩ = some a2 ∧ w.cell? ⟨g, 3, none⟩ = some a3 ∧ w.cell? ⟨g, 4, none⟩ = some a4 ∧ w.cell? ⟨g, 5, none⟩ = some a5 ∧ w.cell? ⟨g, 6, none⟩ = some a6 ∧ w.cell? ⟨g, 7, none⟩ = some a7 ∧ w.cell? ⟨g, 8, none⟩ = some a8 ∧ w.frozen? ⟨g, 0, none⟩ = false ∧ w.frozen? ⟨g, 1, none⟩ = false ∧ w.frozen? ⟨g, 2, none⟩ = false ∧ w.frozen? ⟨g, 3, none⟩ = false ∧ w.frozen? ⟨g, 4, none⟩ = false ∧ w.frozen? ⟨g, 5, none⟩ = false ∧ w.frozen? ⟨g, 6, none⟩ = false ∧ w.frozen? ⟨g, 7, none⟩ = false ∧ w.frozen? ⟨g, 8, none⟩ = false :=
 ⟨(blk_cell h 0).trans rfl, (blk_cell h 1).trans rfl, (blk_cell h 2).trans rfl, (blk_cell h 3).trans rfl, (blk_cell h 4).trans rfl, (blk_cell h 5).trans rfl, (blk_cell h 6).trans rfl, (blk_cell h 7).trans rfl, (blk_cell h 8).trans rfl, blk_frozen h 0, blk_frozen h 1, blk_frozen h 2, blk_frozen h 3, blk_frozen h 4, blk_frozen h 5, blk_frozen h 6, blk_frozen h 7, blk_frozen h 8⟩
theorem eqA85 (d : Nat) (w : World) (x0 y0 : ByteArray) (x1 y1 : Int) :
  (Op.equalIn (d + 2) 85 (.agg #[.string x0, .int .i64 x1]) (.agg #[.string y0, .int .i64 y1])).run Tryd.prog w = .ok (x0.toList == y0.toList && (x1 == y1)) w := by
 refine eqA_of Tryd.underlying85 (by kernel_rfl) ?_
 refine eqf_cons (by rfl) (by go_simp; rfl) (by go_simp; rfl) (by go_simp) ?_
 exact eqf_last (by rfl) (by go_simp; rfl) (by go_simp; rfl) (by go_simp)
def stowagelaw13_Piece.l0 : Nat → List (S63) → List (S85) → Int → Option ((List (S85)))
 | 0, _, _, _ => none
 | k + 1, x0, x3, x4 => if x4 < (x0.length : Int) then (if 0 ≤ x4 then (if x3.length < 5864062014805 then (stowagelaw13_Piece.l0 k x0 (x3 ++ [(⟨(rd_T63 x0 x4).f0, (rd_T63 x0 x4).f1⟩ : S85)]) (wrap64 (x4 + 1))) else (none)) else (none)) else (some x3)
def stowagelaw13_Piece.f (k : Nat) (l0 : List (S63)) : Option ((List (S85))) := stowagelaw13_Piece.l0 k l0 ([] : List (S85)) 0
theorem stowagelaw13_Piece.mono_l : ∀ k, (∀ y0 y1 y2, LeO (stowagelaw13_Piece.l0 k y0 y1 y2) (stowagelaw13_Piece.l0 (k + 1) y0 y1 y2))
 | 0 => fun _ _ _ r h => by simp [stowagelaw13_Piece.l0] at h
 | k + 1 => by
  have ih0 := stowagelaw13_Piece.mono_l k
  ·
   intro y0 y1 y2
   unfold stowagelaw13_Piece.l0
   repeat' (with_reducible first | exact ih0 _ _ _ | exact LeO.refl _ | exact LeO.none _ | refine LeO.ite ?_ ?_ | refine LeO.bind ?_ (fun _ => ?_))
theorem stowagelaw13_Piece.mono : ∀ a0 k, LeO (stowagelaw13_Piece.f k a0) (stowagelaw13_Piece.f (k + 1) a0) := by
 intro a0 k
 have ih0 := stowagelaw13_Piece.mono_l k
 unfold stowagelaw13_Piece.f
 repeat' (with_reducible first | exact ih0 _ _ _ | exact LeO.refl _ | exact LeO.none _ | refine LeO.ite ?_ ?_ | refine LeO.bind ?_ (fun _ => ?_))
set_option maxHeartbeats 8000000 in
set_option maxRecDepth 100000 in
theorem stowagelaw13_Piece.calls (k : Nat) (A0 : Option Addr) (c0 : Nat) (l0 : List (S63)) (r : List (S85)) (w : World) (hr0 : Kd.C k63 w A0 l0.length l0) (hc0 : l0.length ≤ c0) (h : stowagelaw13_Piece.f k l0 = some r) :
  Calls Tryd.prog 37 #[.slice A0 l0.length c0] w fun e w' => ∃ v0_ : Value, e = .returned (v0_) ∧ Kd.R k85 85 w' w.heap.size (fun _ => True) v0_ r ∧ Below w.heap.size w w' := by
 have hu63 := Tryd.underlying63
 have HR0 := am hr0
 have HC0 := am hc0
 clear hr0 hc0
 have HB := am (Below.refl w.heap.size w)
 have H := h
 clear h
 unfold stowagelaw13_Piece.f at H
 have H' := am H
 clear H
 go_enter Tryd.func37, Tryd.ntmps37
 go_wp2
 go_loopg [3, 4] k (fun kq v3 v4 w' => ∃ (x3_1 : List (S85)) (x4_1 : Int), v4 = .int .i64 x4_1 ∧ Aside0 (stowagelaw13_Piece.l0 kq l0 x3_1 x4_1 = some r) ∧ Aside0 (kq ≤ k) ∧ Aside0 (Kd.R k85 85 w' w.heap.size (fun _ => True) v3 x3_1) ∧ Aside0 (Below w.heap.size w w'))
 case atStart => exact ⟨(([] : List (S85))), (0), rs, H', ⟨Nat.le_refl _⟩, ⟨niR⟩, ⟨bw HB.out⟩⟩
 case round =>
  clear H'
  obtain ⟨x3_1, x4_1, rfl, HA, HK1, HO_3, HB⟩ := hrel
  cases gk with
  | zero => exact absurd HA.out (by simp [stowagelaw13_Piece.l0])
  | succ k1 =>
   have H := HA.out
   clear HA
   simp only [stowagelaw13_Piece.l0] at H
   replace H := iteD H
   rcases H with ⟨c2b0, H⟩ | ⟨c2b0, H⟩
   ·
    replace H := iteD H
    rcases H with ⟨c3b0, H⟩ | ⟨_, H⟩
    ·
     by_cases c4 : x3_1.length < 5864062014805
     ·
      rw [if_pos c4] at H
      have LMc4 := am c4
      clear c4
      obtain ⟨y102, hy102⟩ : ∃ y_ : List (S85), y_ = (x3_1 ++ [(⟨(rd_T63 l0 x4_1).f0, (rd_T63 l0 x4_1).f1⟩ : S85)]) := ⟨_, rfl⟩
      replace H : (stowagelaw13_Piece.l0 k1 l0 y102 (wrap64 (x4_1 + 1))) = some r := by first | (rw [hy102]; with_reducible exact H) | (have H2_ := (Option.bind_some _ _).symm.trans H; rw [hy102]; with_reducible exact H2_) | (have H2_ := (Option.bind_some _ _).symm.trans H; with_reducible exact H2_) | with_reducible exact H | (rw [hy102]; exact H) | exact H
      have Ny102 := am hy102
      clear hy102
      have H' := am H
      clear H
      have p101 := pz x4_1
      have q101 := pl x4_1 (l0.length : Int)
      obtain ⟨ad101, e101, hx101_0, hx101_1⟩ := at_T63 HR0.out x4_1 (of_eq_true p101) (of_eq_true q101)
      cases e101
      replace hx101_0 := bc HB.out hx101_0
      replace hx101_1 := bc HB.out hx101_1
      go_wp2_with (first | ((with_reducible refine gate_builtin (b := .append) (xs := #[.tmp 11, .tmp 16]) rfl ?_); at_builtin; refine Kd.R_append k85 (w0 := w) w.heap.size rfl (.tmp 11) (.tmp 16) 30 85 (.agg #[(.string ⟨#[]⟩), (.int .i64 0)]) 24 rfl Tryd.underlying30 info85 rfl (by decide) (by omega) u3 x3_1 (⟨(rd_T63 l0 x4_1).f0, (rd_T63 l0 x4_1).f1⟩ : S85) [.string ((rd_T63 l0 x4_1).f0), .int .i64 ((rd_T63 l0 x4_1).f1)] (fun _ => True) (fun _ => False) rfl rfl ?aP (fun _ hk => hk.elim) ?aF ?aO ?aB ?aS ?aL ?_; (case aP => exact k85_mkM _ _ _ (⟨(rd_T63 l0 x4_1).f0, (rd_T63 l0 x4_1).f1⟩ : S85)); (case aB => exact (bw HB.out)); (case aF => exact (fun _ _ => trivial)); (case aO => exact (kR HO_3.out)); (case aS => exact (below_size (bw HB.out))); (case aL => have := LMc4.out; omega); intro v103 w5 ho hb hg hat; rw [← Ny102.out] at ho; have n0_ := am (hb); have n1_ := am (ho); clear HB; clear HO_3; have HB := n0_; have HO104 := n1_; clear n0_ n1_; clear ho hb hg hat))
      go_roundg k1
      case measure => have := HK1.out; omega
      case rel => exact ⟨(y102), (wrap64 (x4_1 + 1)), rs, H', ⟨by have := HK1.out; omega⟩, ⟨kR HO104.out⟩, ⟨bw HB.out⟩⟩
     ·
      rw [if_neg c4] at H
      exact absurd H (by simp)
    ·
     exact absurd H (by simp)
   ·
    obtain rfl := Option.some.inj H
    go_wp2
    go_ret
    exact ⟨_, rf, kR HO_3.out, bw HB.out⟩
def stowagelaw14_Refs.l0 : Nat → List (S46) → List (S52) → Int → Option ((List (S52)))
 | 0, _, _, _ => none
 | k + 1, x0, x3, x4 => if x4 < (x0.length : Int) then (if 0 ≤ x4 then ((stowagelaw13_Piece.f k ((rd_T46 x0 x4).f3)).bind fun t109 => (if x3.length < 2513169434916 then (stowagelaw14_Refs.l0 k x0 (x3 ++ [(⟨(rd_T46 x0 x4).f0, (rd_T46 x0 x4).f1, (rd_T46 x0 x4).f2, t109⟩ : S52)]) (wrap64 (x4 + 1))) else (none))) else (none)) else (some x3)
def stowagelaw14_Refs.f (k : Nat) (l0 : List (S46)) : Option ((List (S52))) := stowagelaw14_Refs.l0 k l0 ([] : List (S52)) 0
theorem stowagelaw14_Refs.mono_l : ∀ k, (∀ y0 y1 y2, LeO (stowagelaw14_Refs.l0 k y0 y1 y2) (stowagelaw14_Refs.l0 (k + 1) y0 y1 y2))
 | 0 => fun _ _ _ r h => by simp [stowagelaw14_Refs.l0] at h
 | k + 1 => by
  have ih0 := stowagelaw14_Refs.mono_l k
  ·
   intro y0 y1 y2
   unfold stowagelaw14_Refs.l0
   repeat' (with_reducible first | exact ih0 _ _ _ | exact stowagelaw13_Piece.mono _ _ | exact LeO.refl _ | exact LeO.none _ | refine LeO.ite ?_ ?_ | refine LeO.bind ?_ (fun _ => ?_))
theorem stowagelaw14_Refs.mono : ∀ a0 k, LeO (stowagelaw14_Refs.f k a0) (stowagelaw14_Refs.f (k + 1) a0) := by
 intro a0 k
 have ih0 := stowagelaw14_Refs.mono_l k
 unfold stowagelaw14_Refs.f
 repeat' (with_reducible first | exact ih0 _ _ _ | exact stowagelaw13_Piece.mono _ _ | exact LeO.refl _ | exact LeO.none _ | refine LeO.ite ?_ ?_ | refine LeO.bind ?_ (fun _ => ?_))
def stowagelaw14_Refs.T5 : Bool × List (List Nat × List Nat) := (true, [([], []), ([], []), ([], []), ([1, 2], [1, 2]), ([3], [3]), ([4], [4]), ([], []), ([], []), ([6, 7], [6, 7]), ([8], [8]), ([9], [9]), ([], []), ([], []), ([11, 12], [11, 12]), ([13], [13]), ([14], [14]), ([], []), ([], []), ([16, 17], [16, 17]), ([18], [18]), ([19], [19]), ([20], [20]), ([5, 10, 15, 21], [5, 10, 15, 21]), ([22], [22]), ([0, 23, 21], [0, 23]), ([24, 24, 0, 1, 2, 3, 4, 5, 6, 7, 8, 9, 10, 11, 12, 13, 14, 15, 16, 17, 18, 19, 20, 21, 22, 23, 24], [0, 24])])
def stowagelaw14_Refs.B5 : List Nat := [0, 0, 0, 6, 14, 30, 0, 0, 192, 448, 960, 0, 0, 6144, 14336, 30720, 0, 0, 196608, 458752, 983040, 2031616, 4194302, 8388606, 16777215, 33554431]
theorem stowagelaw14_Refs.tab5 : rtab .any (opsOf Tryd.f11 5) = stowagelaw14_Refs.T5 := by kernel_rfl
theorem stowagelaw14_Refs.bits5 : waitsOk stowagelaw14_Refs.T5.2 stowagelaw14_Refs.B5 = true := by kernel_rfl
set_option maxHeartbeats 8000000 in
set_option maxRecDepth 100000 in
theorem stowagelaw14_Refs.calls (k : Nat) (A0 : Option Addr) (c0 : Nat) (l0 : List (S46)) (r : List (S52)) (w : World) (hr0 : Kd.C k46 w A0 l0.length l0) (hc0 : l0.length ≤ c0) (h : stowagelaw14_Refs.f k l0 = some r) :
  Calls Tryd.prog 11 #[.slice A0 l0.length c0] w fun e w' => ∃ v0_ : Value, e = .returned (v0_) ∧ Kd.S k52 52 w' w.heap.size (fun _ => True) v0_ r ∧ Below w.heap.size w w' := by
 have hu52 := Tryd.underlying52
 have HR0 := am hr0
 have HC0 := am hc0
 clear hr0 hc0
 have HB := am (Below.refl w.heap.size w)
 have H := h
 clear h
 unfold stowagelaw14_Refs.f at H
 have H' := am H
 clear H
 go_enter Tryd.func11, Tryd.ntmps11
 go_wp2
 go_loopg [3, 4] k (fun kq v3 v4 w' => ∃ (x3_1 : List (S52)) (x4_1 : Int), v4 = .int .i64 x4_1 ∧ Aside0 (stowagelaw14_Refs.l0 kq l0 x3_1 x4_1 = some r) ∧ Aside0 (kq ≤ k) ∧ Aside0 (Kd.S k52 52 w' w.heap.size (fun _ => True) v3 x3_1) ∧ Aside0 (Below w.heap.size w w'))
 case atStart => exact ⟨(([] : List (S52))), (0), rs, H', ⟨Nat.le_refl _⟩, ⟨niS⟩, ⟨bw HB.out⟩⟩
 case round =>
  clear H'
  obtain ⟨x3_1, x4_1, rfl, HA, HK1, HO_3, HB⟩ := hrel
  cases gk with
  | zero => exact absurd HA.out (by simp [stowagelaw14_Refs.l0])
  | succ k1 =>
   have H := HA.out
   clear HA
   simp only [stowagelaw14_Refs.l0] at H
   replace H := iteD H
   rcases H with ⟨c2b0, H⟩ | ⟨c2b0, H⟩
   ·
    replace H := iteD H
    rcases H with ⟨c3b0, H⟩ | ⟨_, H⟩
    ·
     replace H := obE H
     obtain ⟨t109, A4, H⟩ := H
     by_cases c5 : x3_1.length < 2513169434916
     ·
      rw [if_pos c5] at H
      have LMc5 := am c5
      clear c5
      obtain ⟨y112, hy112⟩ : ∃ y_ : List (S52), y_ = (x3_1 ++ [(⟨(rd_T46 l0 x4_1).f0, (rd_T46 l0 x4_1).f1, (rd_T46 l0 x4_1).f2, t109⟩ : S52)]) := ⟨_, rfl⟩
      replace H : (stowagelaw14_Refs.l0 k1 l0 y112 (wrap64 (x4_1 + 1))) = some r := by first | (rw [hy112]; with_reducible exact H) | (have H2_ := (Option.bind_some _ _).symm.trans H; rw [hy112]; with_reducible exact H2_) | (have H2_ := (Option.bind_some _ _).symm.trans H; with_reducible exact H2_) | with_reducible exact H | (rw [hy112]; exact H) | exact H
      have Ny112 := am hy112
      clear hy112
      have H' := am H
      clear H
      try go_wp2
      replace HO_3 := am (Kd.S_drew HO_3.out)
      replace HB := am (below_drew1 HB.out)
      have p105 := pz x4_1
      have q105 := pl x4_1 (l0.length : Int)
      obtain ⟨ad105, A105_3, c105_3, e105, hw105_0, hw105_1, hw105_2, hw105_3, hl105_3, hi105_3⟩ := at_T46 HR0.out x4_1 (of_eq_true p105) (of_eq_true q105)
      cases e105
      have hx105_0 := bc HB.out hw105_0
      have hx105_1 := bc HB.out hw105_1
      have hx105_2 := bc HB.out hw105_2
      have hx105_3 := bc HB.out hw105_3
      have HR105_3 := am hi105_3
      have HC105_3 := am hl105_3
      clear hi105_3 hl105_3
      have p106 := pz x4_1
      have q106 := pl x4_1 (l0.length : Int)
      obtain ⟨ad106, A106_3, c106_3, e106, hw106_0, hw106_1, hw106_2, hw106_3, hl106_3, hi106_3⟩ := at_T46 HR0.out x4_1 (of_eq_true p106) (of_eq_true q106)
      obtain rfl : ad105 = ad106 := (by injection e106)
      have hx106_0 := bc HB.out hw106_0
      have hx106_1 := bc HB.out hw106_1
      have hx106_2 := bc HB.out hw106_2
      have hx106_3 := bc HB.out hw106_3
      have HR106_3 := am hi106_3
      have HC106_3 := am hl106_3
      clear hi106_3 hl106_3
      have ea_ := Option.some.inj (hx105_3.symm.trans hx106_3)
      injection ea_ with ea_ en_ ec_
      subst ea_
      subst ec_
      clear en_
      have p107 := pz x4_1
      have q107 := pl x4_1 (l0.length : Int)
      obtain ⟨ad107, A107_3, c107_3, e107, hw107_0, hw107_1, hw107_2, hw107_3, hl107_3, hi107_3⟩ := at_T46 HR0.out x4_1 (of_eq_true p107) (of_eq_true q107)
      obtain rfl : ad105 = ad107 := (by injection e107)
      have hx107_0 := bc HB.out hw107_0
      have hx107_1 := bc HB.out hw107_1
      have hx107_2 := bc HB.out hw107_2
      have hx107_3 := bc HB.out hw107_3
      have HR107_3 := am hi107_3
      have HC107_3 := am hl107_3
      clear hi107_3 hl107_3
      have ea_ := Option.some.inj (hx105_3.symm.trans hx107_3)
      injection ea_ with ea_ en_ ec_
      subst ea_
      subst ec_
      clear en_
      have p108 := pz x4_1
      have q108 := pl x4_1 (l0.length : Int)
      obtain ⟨ad108, A108_3, c108_3, e108, hw108_0, hw108_1, hw108_2, hw108_3, hl108_3, hi108_3⟩ := at_T46 HR0.out x4_1 (of_eq_true p108) (of_eq_true q108)
      obtain rfl : ad105 = ad108 := (by injection e108)
      have hx108_0 := bc HB.out hw108_0
      have hx108_1 := bc HB.out hw108_1
      have hx108_2 := bc HB.out hw108_2
      have hx108_3 := bc HB.out hw108_3
      have HR108_3 := am hi108_3
      have HC108_3 := am hl108_3
      clear hi108_3 hl108_3
      have ea_ := Option.some.inj (hx105_3.symm.trans hx108_3)
      injection ea_ with ea_ en_ ec_
      subst ea_
      subst ec_
      clear en_
      refine start_ (n := 26) (S := fun w' => w'.cell? (ad105.add ((x4_1).toNat * 4)) = some (.int .i64 ((rd_T46 l0 x4_1).f0)) ∧ w'.cell? ⟨(ad105.add ((x4_1).toNat * 4)).block, (ad105.add ((x4_1).toNat * 4)).off + 1, none⟩ = some (.int .i64 ((rd_T46 l0 x4_1).f1)) ∧ w'.cell? ⟨(ad105.add ((x4_1).toNat * 4)).block, (ad105.add ((x4_1).toNat * 4)).off + 2, none⟩ = some (.string ((rd_T46 l0 x4_1).f2)) ∧ w'.cell? ⟨(ad105.add ((x4_1).toNat * 4)).block, (ad105.add ((x4_1).toNat * 4)).off + 3, none⟩ = some (.slice A105_3 ((rd_T46 l0 x4_1).f3).length c105_3)) (ds := []) #[false, false, false, false, false, false, false, false, false, false, false, false, false, false, false, false, false, false, false, false, false, false, false, false, false, false] (by kernel_rfl) rfl rfl ⟨(bc HB.out hw105_0), (bc HB.out hw105_1), (bc HB.out hw105_2), (bc HB.out hw105_3)⟩ (fun hHeld => ?_); refine with_tabW stowagelaw14_Refs.tab5 stowagelaw14_Refs.bits5 (fun HT_ HW_ => ?_)
      generalize wr.drew = w6 at HO_3 HB HR105_3 HR106_3 HR107_3 HR108_3 hx105_0 hx105_1 hx105_2 hx105_3 hx106_0 hx106_1 hx106_2 hx106_3 hx107_0 hx107_1 hx107_2 hx107_3 hx108_0 hx108_1 hx108_2 hx108_3 hHeld ⊢
      refine pu 0 (some 11) HT_.out ?_
      refine pu 1 (some 12) HT_.out ?_
      refine pu 2 (some 13) HT_.out ?_
      refine pu 3 (some 14) HT_.out ?_
      refine pu 4 (some 15) HT_.out ?_
      refine pu 6 (some 17) HT_.out ?_
      refine pu 7 (some 18) HT_.out ?_
      refine pu 8 (some 19) HT_.out ?_
      refine pu 9 (some 20) HT_.out ?_
      refine pu 11 (some 22) HT_.out ?_
      refine pu 12 (some 23) HT_.out ?_
      refine pu 13 (some 24) HT_.out ?_
      refine pu 14 (some 25) HT_.out ?_
      refine pu 16 (some 27) HT_.out ?_
      refine pu 17 (some 28) HT_.out ?_
      refine pu 18 (some 29) HT_.out ?_
      refine pu 19 (some 30) HT_.out ?_
      refine tk 5 (some 16) HT_.out HW_.out hHeld ?_
      refine tk 10 (some 21) HT_.out HW_.out hHeld ?_
      refine tk 15 (some 26) HT_.out HW_.out hHeld ?_
      refine tk 20 (some 31) HT_.out HW_.out hHeld ?_
      refine one_ (i := 21) (N := some 32) #[true, true, true, true, true, true, true, true, true, true, true, true, true, true, true, true, true, true, true, true, true, true, false, false, false, false] rfl rfl (one_of HT_.out (by kernel_rfl)) (by decide) (fun K hK => ?_)
      refine goes_ Tryd.func37 (by kernel_rfl) rfl #[.slice A105_3 ((rd_T46 l0 x4_1).f3).length c105_3] (by rfl) rfl rfl gl ?_
      with_reducible refine (stowagelaw13_Piece.calls k1 _ _ ((rd_T46 l0 x4_1).f3) t109 _ ?side1 ?side2 A4.out).mono ?_
      (case side1 => exact kC (Kd.C_below HR108_3.out HB.out))
      (case side2 => exact HC108_3.out)
      rintro e w7 ⟨v110, rfl, ho0, hb⟩
      refine ⟨_, rfl, ?_⟩
      replace HO_3 := am (Kd.S_elder' (kS HO_3.out) (Kd.R_base ho0) hb)
      have HO111 := am (Kd.R_lower ho0 (below_size (bw HB.out)))
      replace HB := am (below_step (bw HB.out) hb)
      (try clear hb)
      (try clear hb2)
      (try clear hk)
      (try clear hi)
      (try clear ho0)
      obtain ⟨Ao8, co8, eo8⟩ := Kd.R_slice HO111.out
      (first | subst eo8 | (injection eo8 with f1_ f2_ f3_; have f4_ := f1_.symm; have f5_ := f3_.symm; clear f1_ f2_ f3_; subst f4_; subst f5_))
      refine hK.out _ _ ⟨(bc HB.out hw105_0), (bc HB.out hw105_1), (bc HB.out hw105_2), (bc HB.out hw105_3)⟩ (fun hHeld => ?_)
      clear hK K
      refine norm_ (a' := ?_) ?_ ?_
      rotate_left
      ·
       show Act.put _ (some 32) _ = _
       simp only [Act.put, List.setIfInBounds_toArray, List.set_cons_zero, List.set_cons_succ, i64_w, i32_w]
       rfl
      refine pu 22 (some 33) HT_.out ?_
      refine one_ (i := 23) (N := some 34) #[true, true, true, true, true, true, true, true, true, true, true, true, true, true, true, true, true, true, true, true, true, true, true, true, false, false] rfl rfl (one_of HT_.out (by kernel_rfl)) (by decide) (fun K hK => ?_)
      refine value_ (w1 := ?_) (v := ?_) (by rfl) rfl ?_ ?_
      rotate_left 2
      ·
       go_simp
       constructor
       ·
        rfl
       ·
        rfl
      refine hK.out _ _ ⟨(World.cell?_alloc_lt _ _ _ (World.block_lt_of_cell? _ _ ((bc HB.out hw105_0)))).trans ((bc HB.out hw105_0)), (World.cell?_alloc_lt _ _ _ (World.block_lt_of_cell? _ _ ((bc HB.out hw105_1)))).trans ((bc HB.out hw105_1)), (World.cell?_alloc_lt _ _ _ (World.block_lt_of_cell? _ _ ((bc HB.out hw105_2)))).trans ((bc HB.out hw105_2)), (World.cell?_alloc_lt _ _ _ (World.block_lt_of_cell? _ _ ((bc HB.out hw105_3)))).trans ((bc HB.out hw105_3))⟩ (fun hHeld => ?_)
      clear hK K
      refine norm_ (a' := ?_) ?_ ?_
      rotate_left
      ·
       show Act.put _ (some 34) _ = _
       simp only [Act.put, List.setIfInBounds_toArray, List.set_cons_zero, List.set_cons_succ, i64_w, i32_w]
       rfl
      refine one_ (i := 24) (N := some 35) #[true, true, true, true, true, true, true, true, true, true, true, true, true, true, true, true, true, true, true, true, true, true, true, true, true, false] rfl rfl (one_of HT_.out (by kernel_rfl)) (by decide) (fun K hK => ?_)
      refine Kd.S_append_step k52 (w0 := w) w.heap.size (by rfl) (.tmp 11) (.tmp 34) 35 52 (.agg #[(.int .i64 0), (.int .i64 0), (.string ⟨#[]⟩), (.slice none 0 0)]) 56 rfl Tryd.underlying35 info52 rfl (by decide) (by omega) u3 x3_1 (⟨(rd_T46 l0 x4_1).f0, (rd_T46 l0 x4_1).f1, (rd_T46 l0 x4_1).f2, t109⟩ : S52) [.int .i64 ((rd_T46 l0 x4_1).f0), .int .i64 ((rd_T46 l0 x4_1).f1), .string ((rd_T46 l0 x4_1).f2), .slice Ao8 t109.length co8] (fun _ => True) (fun k_ => some k_ = (.slice Ao8 t109.length co8 : Value).ownBlock) rfl rfl ?aP (fun k_ hk_ => ((Kd.R_mono (ok' := fun k_ => ((fun _ => True)) k_ ∧ some k_ ≠ (u3 : Value).ownBlock) (Kd.R_apart' (HO111.out) (Kd.S_typed HO_3.out) (by decide)) (fun k_ hk => ⟨trivial, hk.2⟩))).1 k_ hk_.symm) ?aF ?aO ?aB ?aS ?aL ?_
      (case aP => exact k52_mkM _ _ _ (⟨(rd_T46 l0 x4_1).f0, (rd_T46 l0 x4_1).f1, (rd_T46 l0 x4_1).f2, t109⟩ : S52) (Kd.R_mono (Kd.R_tight rfl (Kd.R_mono (ok' := fun k_ => ((fun _ => True)) k_ ∧ some k_ ≠ (u3 : Value).ownBlock) (Kd.R_apart' (HO111.out) (Kd.S_typed HO_3.out) (by decide)) (fun k_ hk => ⟨trivial, hk.2⟩))) (fun _ h_ => h_)))
      (case aB => exact (bw HB.out))
      (case aF => exact (fun _ _ => trivial))
      (case aO => exact (by (with_reducible repeat (first | apply Kd.S_alloc | apply Kd.S_drewN | apply Kd.S_drew)); exact Kd.S_mono HO_3.out (fun k_ hk => ⟨trivial, fun e_ => hk.2 e_⟩)))
      (case aS => exact (below_size (bw HB.out)))
      (case aL => have := LMc5.out; omega)
      intro v113 w9 ho hb hg hat
      rw [← Ny112.out] at ho
      have n0_ := am (hb)
      have n1_ := am (ho)
      clear HB
      clear HO_3
      clear HO111
      have HB := n0_
      have HO114 := n1_
      clear n0_ n1_
      clear ho hb hg hat
      refine hK.out _ _ ⟨(bc HB.out hw105_0), (bc HB.out hw105_1), (bc HB.out hw105_2), (bc HB.out hw105_3)⟩ (fun hHeld => ?_)
      clear hK K
      refine norm_ (a' := ?_) ?_ ?_
      rotate_left
      ·
       show Act.put _ (some 35) _ = _
       simp only [Act.put, List.setIfInBounds_toArray, List.set_cons_zero, List.set_cons_succ, i64_w, i32_w]
       rfl
      refine pu 25 (some 3) HT_.out ?_
      refine done_ (done_of HT_.out (by kernel_rfl)) ?_
      try go_wp2
      go_roundg k1
      case measure => have := HK1.out; omega
      case rel => exact ⟨(y112), (wrap64 (x4_1 + 1)), rs, H', ⟨by have := HK1.out; omega⟩, ⟨kS HO114.out⟩, ⟨bw HB.out⟩⟩
     ·
      rw [if_neg c5] at H
      exact absurd H (by simp)
    ·
     exact absurd H (by simp)
   ·
    obtain rfl := Option.some.inj H
    go_wp2
    go_ret
    exact ⟨_, rf, kS HO_3.out, bw HB.out⟩
def chain_digits.l0 : Nat → ByteArray → Int → Int → Option (Bool)
 | 0, _, _, _ => none
 | k + 1, x0, x5, x6 => if x6 < x5 then (if 0 ≤ x6 then (if x6 < (x0.size : Int) then (if (bt x0 x6) < 48 then (if (bt x0 x6) < 97 then (some false) else (if (bt x0 x6) > 102 then (some false) else (chain_digits.l0 k x0 x5 (wrap64 (x6 + 1))))) else (if (bt x0 x6) > 57 then (if (bt x0 x6) < 97 then (some false) else (if (bt x0 x6) > 102 then (some false) else (chain_digits.l0 k x0 x5 (wrap64 (x6 + 1))))) else (chain_digits.l0 k x0 x5 (wrap64 (x6 + 1))))) else (none)) else (none)) else (some ((x0.size : Int) == 64))
def chain_digits.f (k : Nat) (a0 : ByteArray) : Option (Bool) := chain_digits.l0 k a0 (a0.size : Int) 0
theorem chain_digits.mono_l : ∀ k, (∀ y0 y1 y2, LeO (chain_digits.l0 k y0 y1 y2) (chain_digits.l0 (k + 1) y0 y1 y2))
 | 0 => fun _ _ _ r h => by simp [chain_digits.l0] at h
 | k + 1 => by
  have ih0 := chain_digits.mono_l k
  ·
   intro y0 y1 y2
   unfold chain_digits.l0
   repeat' (with_reducible first | exact ih0 _ _ _ | exact LeO.refl _ | exact LeO.none _ | refine LeO.ite ?_ ?_ | refine LeO.bind ?_ (fun _ => ?_))
theorem chain_digits.mono : ∀ a0 k, LeO (chain_digits.f k a0) (chain_digits.f (k + 1) a0) := by
 intro a0 k
 have ih0 := chain_digits.mono_l k
 unfold chain_digits.f
 repeat' (with_reducible first | exact ih0 _ _ _ | exact LeO.refl _ | exact LeO.none _ | refine LeO.ite ?_ ?_ | refine LeO.bind ?_ (fun _ => ?_))
set_option maxHeartbeats 8000000 in
set_option maxRecDepth 100000 in
theorem chain_digits.calls (k : Nat) (a0 : ByteArray) (r : Bool) (w : World) (h : chain_digits.f k a0 = some r) :
  Calls Tryd.prog 46 #[.string a0] w fun e w' => e = .returned (.bool r) ∧ Drawn0 w w' := by
 have H := h
 clear h
 unfold chain_digits.f at H
 have H' := am H
 clear H
 go_enter Tryd.func46, Tryd.ntmps46
 go_wp2
 go_loopg [6] k (fun kq v6 w' => ∃ (x6_1 : Int), v6 = .int .i64 x6_1 ∧ Aside0 (chain_digits.l0 kq a0 (a0.size : Int) x6_1 = some r) ∧ Aside0 (kq ≤ k) ∧ Drawn0 w w')
 case atStart => exact ⟨(0), rs, H', ⟨Nat.le_refl _⟩, by repeat (first | exact Drawn0.refl _ | apply Drawn0.step)⟩
 case round =>
  clear H'
  obtain ⟨x6_1, rfl, HA, HK1, ⟨m1, rfl⟩⟩ := hrel
  cases gk with
  | zero => exact absurd HA.out (by simp [chain_digits.l0])
  | succ k1 =>
   have H := HA.out
   clear HA
   simp only [chain_digits.l0] at H
   replace H := iteD H
   rcases H with ⟨c2b0, H⟩ | ⟨c2b0, H⟩
   ·
    replace H := iteD H
    rcases H with ⟨c3b0, H⟩ | ⟨_, H⟩
    ·
     replace H := iteD H
     rcases H with ⟨c4b0, H⟩ | ⟨_, H⟩
     ·
      replace H := iteD H
      rcases H with ⟨c6b0, H⟩ | ⟨c6b0, H⟩
      ·
       replace H := iteD H
       rcases H with ⟨c8b0, H⟩ | ⟨c8b0, H⟩
       ·
        obtain rfl := Option.some.inj H
        have p5 := pz x6_1
        have q5 := pl x6_1 (a0.size : Int)
        have hx5 := bt_at a0 x6_1
        have p7 := pz x6_1
        have q7 := pl x6_1 (a0.size : Int)
        have hx7 := bt_at a0 x6_1
        go_wp2
        go_ret
        exact ⟨by first | rfl | (simp; done) | (simp [*]; done), by repeat (first | exact Drawn0.refl _ | apply Drawn0.step)⟩
       ·
        replace H := iteD H
        rcases H with ⟨c10b0, H⟩ | ⟨c10b0, H⟩
        ·
         obtain rfl := Option.some.inj H
         have p5 := pz x6_1
         have q5 := pl x6_1 (a0.size : Int)
         have hx5 := bt_at a0 x6_1
         have p7 := pz x6_1
         have q7 := pl x6_1 (a0.size : Int)
         have hx7 := bt_at a0 x6_1
         have p9 := pz x6_1
         have q9 := pl x6_1 (a0.size : Int)
         have hx9 := bt_at a0 x6_1
         go_wp2
         go_ret
         exact ⟨by first | rfl | (simp; done) | (simp [*]; done), by repeat (first | exact Drawn0.refl _ | apply Drawn0.step)⟩
        ·
         have H' := am H
         clear H
         have p5 := pz x6_1
         have q5 := pl x6_1 (a0.size : Int)
         have hx5 := bt_at a0 x6_1
         have p7 := pz x6_1
         have q7 := pl x6_1 (a0.size : Int)
         have hx7 := bt_at a0 x6_1
         have p9 := pz x6_1
         have q9 := pl x6_1 (a0.size : Int)
         have hx9 := bt_at a0 x6_1
         go_wp2
         go_roundg k1
         case measure => have := HK1.out; omega
         case rel => exact ⟨(wrap64 (x6_1 + 1)), rs, H', ⟨by have := HK1.out; omega⟩, by repeat (first | exact Drawn0.refl _ | apply Drawn0.step)⟩
      ·
       replace H := iteD H
       rcases H with ⟨c12b0, H⟩ | ⟨c12b0, H⟩
       ·
        replace H := iteD H
        rcases H with ⟨c14b0, H⟩ | ⟨c14b0, H⟩
        ·
         obtain rfl := Option.some.inj H
         have p5 := pz x6_1
         have q5 := pl x6_1 (a0.size : Int)
         have hx5 := bt_at a0 x6_1
         have p11 := pz x6_1
         have q11 := pl x6_1 (a0.size : Int)
         have hx11 := bt_at a0 x6_1
         have p13 := pz x6_1
         have q13 := pl x6_1 (a0.size : Int)
         have hx13 := bt_at a0 x6_1
         go_wp2
         go_ret
         exact ⟨by first | rfl | (simp; done) | (simp [*]; done), by repeat (first | exact Drawn0.refl _ | apply Drawn0.step)⟩
        ·
         replace H := iteD H
         rcases H with ⟨c16b0, H⟩ | ⟨c16b0, H⟩
         ·
          obtain rfl := Option.some.inj H
          have p5 := pz x6_1
          have q5 := pl x6_1 (a0.size : Int)
          have hx5 := bt_at a0 x6_1
          have p11 := pz x6_1
          have q11 := pl x6_1 (a0.size : Int)
          have hx11 := bt_at a0 x6_1
          have p13 := pz x6_1
          have q13 := pl x6_1 (a0.size : Int)
          have hx13 := bt_at a0 x6_1
          have p15 := pz x6_1
          have q15 := pl x6_1 (a0.size : Int)
          have hx15 := bt_at a0 x6_1
          go_wp2
          go_ret
          exact ⟨by first | rfl | (simp; done) | (simp [*]; done), by repeat (first | exact Drawn0.refl _ | apply Drawn0.step)⟩
         ·
          have H' := am H
          clear H
          have p5 := pz x6_1
          have q5 := pl x6_1 (a0.size : Int)
          have hx5 := bt_at a0 x6_1
          have p11 := pz x6_1
          have q11 := pl x6_1 (a0.size : Int)
          have hx11 := bt_at a0 x6_1
          have p13 := pz x6_1
          have q13 := pl x6_1 (a0.size : Int)
          have hx13 := bt_at a0 x6_1
          have p15 := pz x6_1
          have q15 := pl x6_1 (a0.size : Int)
          have hx15 := bt_at a0 x6_1
          go_wp2
          go_roundg k1
          case measure => have := HK1.out; omega
          case rel => exact ⟨(wrap64 (x6_1 + 1)), rs, H', ⟨by have := HK1.out; omega⟩, by repeat (first | exact Drawn0.refl _ | apply Drawn0.step)⟩
       ·
        have H' := am H
        clear H
        have p5 := pz x6_1
        have q5 := pl x6_1 (a0.size : Int)
        have hx5 := bt_at a0 x6_1
        have p11 := pz x6_1
        have q11 := pl x6_1 (a0.size : Int)
        have hx11 := bt_at a0 x6_1
        go_wp2
        go_roundg k1
        case measure => have := HK1.out; omega
        case rel => exact ⟨(wrap64 (x6_1 + 1)), rs, H', ⟨by have := HK1.out; omega⟩, by repeat (first | exact Drawn0.refl _ | apply Drawn0.step)⟩
     ·
      exact absurd H (by simp)
    ·
     exact absurd H (by simp)
   ·
    obtain rfl := Option.some.inj H
    go_wp2
    go_ret
    exact ⟨by first | rfl | (simp; done) | (simp [*]; done), by repeat (first | exact Drawn0.refl _ | apply Drawn0.step)⟩
def chain_Pieces.l0 : Nat → Int → List (S63) → Int → Int → Option (Int × Int)
 | 0, _, _, _, _ => none
 | k + 1, x4, x10, x11, x12 => if x12 < x11 then (if 0 ≤ x12 then (if x12 < (x10.length : Int) then ((chain_digits.f k ((rd_T63 x10 x12).f0)).bind fun t117 => (if t117 = true then (if ((rd_T63 x10 x12).f1) < 1 then (some (0, 1)) else (if ((rd_T63 x10 x12).f1) > 4096 then (some (0, 1)) else (chain_Pieces.l0 k (wrap64 (x4 + ((rd_T63 x10 x12).f1))) x10 x11 (wrap64 (x12 + 1))))) else (some (0, 1)))) else (none)) else (none)) else (some (x4, 0))
def chain_Pieces.f (k : Nat) (l0 : List (S63)) : Option (Int × Int) := if (l0.length : Int) > 512 then (some (0, 1)) else (chain_Pieces.l0 k 0 l0 (l0.length : Int) 0)
theorem chain_Pieces.mono_l : ∀ k, (∀ y0 y1 y2 y3, LeO (chain_Pieces.l0 k y0 y1 y2 y3) (chain_Pieces.l0 (k + 1) y0 y1 y2 y3))
 | 0 => fun _ _ _ _ r h => by simp [chain_Pieces.l0] at h
 | k + 1 => by
  have ih0 := chain_Pieces.mono_l k
  ·
   intro y0 y1 y2 y3
   unfold chain_Pieces.l0
   repeat' (with_reducible first | exact ih0 _ _ _ _ | exact chain_digits.mono _ _ | exact LeO.refl _ | exact LeO.none _ | refine LeO.ite ?_ ?_ | refine LeO.bind ?_ (fun _ => ?_))
theorem chain_Pieces.mono : ∀ a0 k, LeO (chain_Pieces.f k a0) (chain_Pieces.f (k + 1) a0) := by
 intro a0 k
 have ih0 := chain_Pieces.mono_l k
 unfold chain_Pieces.f
 repeat' (with_reducible first | exact ih0 _ _ _ _ | exact chain_digits.mono _ _ | exact LeO.refl _ | exact LeO.none _ | refine LeO.ite ?_ ?_ | refine LeO.bind ?_ (fun _ => ?_))
set_option maxHeartbeats 8000000 in
set_option maxRecDepth 100000 in
theorem chain_Pieces.calls (k : Nat) (A0 : Option Addr) (c0 : Nat) (l0 : List (S63)) (r1 : Int) (r2 : Int) (w : World) (hr0 : Kd.C k63 w A0 l0.length l0) (hc0 : l0.length ≤ c0) (h : chain_Pieces.f k l0 = some (r1, r2)) :
  Calls Tryd.prog 42 #[.slice A0 l0.length c0] w fun e w' => e = .returned (.tuple #[.int .i64 r1, .int .i64 r2]) ∧ Below w.heap.size w w' := by
 have hu63 := Tryd.underlying63
 have HR0 := am hr0
 have HC0 := am hc0
 clear hr0 hc0
 have HB := am (Below.refl w.heap.size w)
 have H := h
 clear h
 unfold chain_Pieces.f at H
 by_cases c2 : (l0.length : Int) > 512
 ·
  rw [if_pos c2] at H
  have c2b0 := decide_eq_true c2
  have c2b1 : decide (512 < l0.length) = true := decide_eq_true (by omega)
  clear c2
  simp only [Option.some.injEq, Prod.mk.injEq] at H
  obtain ⟨rfl, rfl⟩ := H
  go_enter Tryd.func42, Tryd.ntmps42
  go_wp2
  go_ret2
  exact ⟨rf, bw HB.out⟩
 ·
  rw [if_neg c2] at H
  have c2b0 := decide_eq_false c2
  have c2b1 : decide (512 < l0.length) = false := decide_eq_false (by omega)
  clear c2
  have H' := am H
  clear H
  go_enter Tryd.func42, Tryd.ntmps42
  go_wp2
  go_loopg [4, 12] k (fun kq v4 v12 w' => ∃ (x4_1 : Int) (x12_1 : Int), v4 = .int .i64 x4_1 ∧ v12 = .int .i64 x12_1 ∧ Aside0 (chain_Pieces.l0 kq x4_1 l0 (l0.length : Int) x12_1 = some (r1, r2)) ∧ Aside0 (kq ≤ k) ∧ Aside0 (Below w.heap.size w w'))
  case atStart => exact ⟨(0), (0), rs, rs, H', ⟨Nat.le_refl _⟩, ⟨bw HB.out⟩⟩
  case round =>
   clear H'
   try clear c2
   try clear c2b0
   try clear c2b1
   obtain ⟨x4_1, x12_1, rfl, rfl, HA, HK1, HB⟩ := hrel
   cases gk with
   | zero => exact absurd HA.out (by simp [chain_Pieces.l0])
   | succ k1 =>
    have H := HA.out
    clear HA
    simp only [chain_Pieces.l0] at H
    replace H := iteD H
    rcases H with ⟨c3b0, H⟩ | ⟨c3b0, H⟩
    ·
     replace H := iteD H
     rcases H with ⟨c4b0, H⟩ | ⟨_, H⟩
     ·
      replace H := iteD H
      rcases H with ⟨c5b0, H⟩ | ⟨_, H⟩
      ·
       replace H := obE H
       obtain ⟨t117, A6, H⟩ := H
       by_cases c7 : t117 = true
       ·
        subst c7
        rw [if_pos rfl] at H
        replace H := iteD H
        rcases H with ⟨c8b0, H⟩ | ⟨c8b0, H⟩
        ·
         simp only [Option.some.injEq, Prod.mk.injEq] at H
         obtain ⟨rfl, rfl⟩ := H
         have p115 := pz x12_1
         have q115 := pl x12_1 (l0.length : Int)
         obtain ⟨ad115, e115, hx115_0, hx115_1⟩ := at_T63 HR0.out x12_1 (of_eq_true p115) (of_eq_true q115)
         cases e115
         replace hx115_0 := bc HB.out hx115_0
         replace hx115_1 := bc HB.out hx115_1
         go_wp2_with (first | ((with_reducible refine gate_dst (N := 6) rfl ?_); refine bx 6 #[.string (⟨#[]⟩ : ByteArray), .int .i64 0] 63 ?_; intro gb116 hg w9 hbox hb; have BK116 := am (hbox); have GW116 := gsz hg HB.out; have GE116 := gsz hg HB.out; replace HB := am (below_step (bw HB.out) hb); clear hb hbox hg; obtain ⟨hcz10_0, hcz10_1, hfz10_0, hfz10_1⟩ := cz2 BK116.out) | ((with_reducible refine gate_callee (f := 46) rfl ?_); refine goesL_ (some 18) rfl rfl Tryd.func46 (by kernel_rfl) rfl #[.string ((rd_T63 l0 x12_1).f0)] rfl gl ?_; (with_reducible refine (chain_digits.calls k1 ((rd_T63 l0 x12_1).f0) true _ A6.out).mono ?_); rintro e w' ⟨rfl, ⟨nd, rfl⟩⟩; refine ⟨_, rfl, ?_⟩))
         go_ret2
         exact ⟨rf, bws HB.out⟩
        ·
         replace H := iteD H
         rcases H with ⟨c11b0, H⟩ | ⟨c11b0, H⟩
         ·
          simp only [Option.some.injEq, Prod.mk.injEq] at H
          obtain ⟨rfl, rfl⟩ := H
          have p115 := pz x12_1
          have q115 := pl x12_1 (l0.length : Int)
          obtain ⟨ad115, e115, hx115_0, hx115_1⟩ := at_T63 HR0.out x12_1 (of_eq_true p115) (of_eq_true q115)
          cases e115
          replace hx115_0 := bc HB.out hx115_0
          replace hx115_1 := bc HB.out hx115_1
          go_wp2_with (first | ((with_reducible refine gate_dst (N := 6) rfl ?_); refine bx 6 #[.string (⟨#[]⟩ : ByteArray), .int .i64 0] 63 ?_; intro gb116 hg w12 hbox hb; have BK116 := am (hbox); have GW116 := gsz hg HB.out; have GE116 := gsz hg HB.out; replace HB := am (below_step (bw HB.out) hb); clear hb hbox hg; obtain ⟨hcz13_0, hcz13_1, hfz13_0, hfz13_1⟩ := cz2 BK116.out) | ((with_reducible refine gate_callee (f := 46) rfl ?_); refine goesL_ (some 18) rfl rfl Tryd.func46 (by kernel_rfl) rfl #[.string ((rd_T63 l0 x12_1).f0)] rfl gl ?_; (with_reducible refine (chain_digits.calls k1 ((rd_T63 l0 x12_1).f0) true _ A6.out).mono ?_); rintro e w' ⟨rfl, ⟨nd, rfl⟩⟩; refine ⟨_, rfl, ?_⟩))
          go_ret2
          exact ⟨rf, bws HB.out⟩
         ·
          have H' := am H
          clear H
          have p115 := pz x12_1
          have q115 := pl x12_1 (l0.length : Int)
          obtain ⟨ad115, e115, hx115_0, hx115_1⟩ := at_T63 HR0.out x12_1 (of_eq_true p115) (of_eq_true q115)
          cases e115
          replace hx115_0 := bc HB.out hx115_0
          replace hx115_1 := bc HB.out hx115_1
          go_wp2_with (first | ((with_reducible refine gate_dst (N := 6) rfl ?_); refine bx 6 #[.string (⟨#[]⟩ : ByteArray), .int .i64 0] 63 ?_; intro gb116 hg w14 hbox hb; have BK116 := am (hbox); have GW116 := gsz hg HB.out; have GE116 := gsz hg HB.out; replace HB := am (below_step (bw HB.out) hb); clear hb hbox hg; obtain ⟨hcz15_0, hcz15_1, hfz15_0, hfz15_1⟩ := cz2 BK116.out) | ((with_reducible refine gate_callee (f := 46) rfl ?_); refine goesL_ (some 18) rfl rfl Tryd.func46 (by kernel_rfl) rfl #[.string ((rd_T63 l0 x12_1).f0)] rfl gl ?_; (with_reducible refine (chain_digits.calls k1 ((rd_T63 l0 x12_1).f0) true _ A6.out).mono ?_); rintro e w' ⟨rfl, ⟨nd, rfl⟩⟩; refine ⟨_, rfl, ?_⟩))
          go_roundg k1
          case measure => have := HK1.out; omega
          case rel => exact ⟨(wrap64 (x4_1 + ((rd_T63 l0 x12_1).f1))), (wrap64 (x12_1 + 1)), rs, rs, H', ⟨by have := HK1.out; omega⟩, ⟨bws HB.out⟩⟩
       ·
        replace c7 := Bool.eq_false_iff.mpr c7
        subst c7
        rw [if_neg (show ¬ (false = true) by decide)] at H
        simp only [Option.some.injEq, Prod.mk.injEq] at H
        obtain ⟨rfl, rfl⟩ := H
        have p115 := pz x12_1
        have q115 := pl x12_1 (l0.length : Int)
        obtain ⟨ad115, e115, hx115_0, hx115_1⟩ := at_T63 HR0.out x12_1 (of_eq_true p115) (of_eq_true q115)
        cases e115
        replace hx115_0 := bc HB.out hx115_0
        replace hx115_1 := bc HB.out hx115_1
        go_wp2_with (first | ((with_reducible refine gate_dst (N := 6) rfl ?_); refine bx 6 #[.string (⟨#[]⟩ : ByteArray), .int .i64 0] 63 ?_; intro gb116 hg w16 hbox hb; have BK116 := am (hbox); have GW116 := gsz hg HB.out; have GE116 := gsz hg HB.out; replace HB := am (below_step (bw HB.out) hb); clear hb hbox hg; obtain ⟨hcz17_0, hcz17_1, hfz17_0, hfz17_1⟩ := cz2 BK116.out) | ((with_reducible refine gate_callee (f := 46) rfl ?_); refine goesL_ (some 18) rfl rfl Tryd.func46 (by kernel_rfl) rfl #[.string ((rd_T63 l0 x12_1).f0)] rfl gl ?_; (with_reducible refine (chain_digits.calls k1 ((rd_T63 l0 x12_1).f0) false _ A6.out).mono ?_); rintro e w' ⟨rfl, ⟨nd, rfl⟩⟩; refine ⟨_, rfl, ?_⟩))
        go_ret2
        exact ⟨rf, bws HB.out⟩
      ·
       exact absurd H (by simp)
     ·
      exact absurd H (by simp)
    ·
     simp only [Option.some.injEq, Prod.mk.injEq] at H
     obtain ⟨rfl, rfl⟩ := H
     go_wp2
     go_ret2
     exact ⟨rf, bw HB.out⟩
def digest_Unhex.f (a0 : ByteArray) : Option (ByteArray × Int) := Sha.unhexF a0
theorem digest_Unhex.calls (a0 : ByteArray) (r1 : ByteArray) (r2 : Int) (w : World) (h : digest_Unhex.f a0 = some (r1, r2)) :
  Calls Tryd.prog 43 #[.string a0] w fun e w' => e = .returned (.tuple #[.string r1, .int .i64 r2]) ∧ Below w.heap.size w w' := by
 unfold digest_Unhex.f Sha.unhexF at h
 split at h
 ·
  rename_i hc
  have h1 := Option.some.inj h
  have e1 : (Sha.unhexR (Sha.unhexL a0.data.toList)).1 = r1 := congrArg Prod.fst h1
  have e2 : (Sha.unhexR (Sha.unhexL a0.data.toList)).2 = r2 := congrArg Prod.snd h1
  rw [← e1, ← e2]
  exact Sha.Unhex a0 hc w
 ·
  cases h
def parts_Check.j0 : Nat → Bool → Int → Int → ByteArray → List (S63) → Option (Int)
 | 0, _, _, _, _, _ => none
 | k + 1, x36, x119000, x119001, x119002, x119003 => if x36 = true then (some 1) else ((digest_Unhex.f x119002).bind fun bt121 => (if bt121.2 = 0 then (some 0) else (some 1)))
def parts_Check.f (k : Nat) (a0_0 : Int) (a0_1 : Int) (a0_2 : ByteArray) (l0_3 : List (S63)) : Option (Int) := (chain_Pieces.f k l0_3).bind fun bt119 => (if a0_0 < 1 then (parts_Check.j0 k true a0_0 a0_1 a0_2 l0_3) else (if a0_0 > 100 then (parts_Check.j0 k true a0_0 a0_1 a0_2 l0_3) else (if bt119.2 = 0 then (if bt119.1 = a0_1 then (parts_Check.j0 k ((a0_2.size : Int) != 64) a0_0 a0_1 a0_2 l0_3) else (parts_Check.j0 k true a0_0 a0_1 a0_2 l0_3)) else (parts_Check.j0 k true a0_0 a0_1 a0_2 l0_3))))
theorem parts_Check.mono_l : ∀ k, (∀ y0 y1 y2 y3 y4, LeO (parts_Check.j0 k y0 y1 y2 y3 y4) (parts_Check.j0 (k + 1) y0 y1 y2 y3 y4))
 | 0 => fun _ _ _ _ _ r h => by simp [parts_Check.j0] at h
 | k + 1 => by
  have ih0 := parts_Check.mono_l k
  ·
   intro y0 y1 y2 y3 y4
   unfold parts_Check.j0
   repeat' (with_reducible first | exact ih0 _ _ _ _ _ | exact chain_Pieces.mono _ _ | exact LeO.refl _ | exact LeO.none _ | refine LeO.ite ?_ ?_ | refine LeO.bind ?_ (fun _ => ?_))
theorem parts_Check.mono : ∀ a0 a1 a2 a3 k, LeO (parts_Check.f k a0 a1 a2 a3) (parts_Check.f (k + 1) a0 a1 a2 a3) := by
 intro a0 a1 a2 a3 k
 have ih0 := parts_Check.mono_l k
 unfold parts_Check.f
 repeat' (with_reducible first | exact ih0 _ _ _ _ _ | exact chain_Pieces.mono _ _ | exact LeO.refl _ | exact LeO.none _ | refine LeO.ite ?_ ?_ | refine LeO.bind ?_ (fun _ => ?_))
set_option maxHeartbeats 8000000 in
set_option maxRecDepth 100000 in
theorem parts_Check.calls (k : Nat) (a0_0 : Int) (a0_1 : Int) (a0_2 : ByteArray) (A0_3 : Option Addr) (c0_3 : Nat) (l0_3 : List (S63)) (r : Int) (w : World) (hr0_3 : Kd.C k63 w A0_3 l0_3.length l0_3) (hc0_3 : l0_3.length ≤ c0_3) (h : parts_Check.f k a0_0 a0_1 a0_2 l0_3 = some r) :
  Calls Tryd.prog 19 #[.agg #[.int .i64 a0_0, .int .i64 a0_1, .string a0_2, .slice A0_3 l0_3.length c0_3]] w fun e w' => e = .returned (.int .i64 r) ∧ Below w.heap.size w w' := by
 have hu46 := Tryd.underlying46
 have HR0_3 := am hr0_3
 have HC0_3 := am hc0_3
 clear hr0_3 hc0_3
 have HB := am (Below.refl w.heap.size w)
 have H := h
 clear h
 unfold parts_Check.f at H
 replace H := obE H
 obtain ⟨⟨t119, t120⟩, A2, H⟩ := H
 try dsimp only at H
 have HC3 := am H
 clear H
 go_enter Tryd.func19, Tryd.ntmps19
 go_upto_region 2 with (first | ((with_reducible refine gate_dst (N := 1) rfl ?_); (try (refine gate_guard (by rfl) ?_; dsimp only)); refine bx 1 #[.int .i64 a0_0, .int .i64 a0_1, .string a0_2, .slice A0_3 l0_3.length c0_3] 46 ?_; intro gb118 hg w4 hbox hb; have BK118 := am (hbox); have GW118 := gsz hg HB.out; have GE118 := gsz hg HB.out; replace HB := am (below_step (bw HB.out) hb); clear hb hbox hg; obtain ⟨hcz5_0, hcz5_1, hcz5_2, hcz5_3, hfz5_0, hfz5_1, hfz5_2, hfz5_3⟩ := cz4 BK118.out) | ((with_reducible refine gate_callee (f := 42) rfl ?_); refine goesL_ (some 10) rfl rfl Tryd.func42 (by kernel_rfl) rfl #[.slice A0_3 l0_3.length c0_3] rfl gl ?_; (with_reducible refine (chain_Pieces.calls k _ _ l0_3 t119 t120 _ ?side1 ?side2 A2.out).mono ?_); (case side1 => exact kC (Kd.C_below HR0_3.out HB.out)); (case side2 => exact HC0_3.out); rintro e w6 ⟨rfl, hb⟩; refine ⟨_, rfl, ?_⟩; replace BK118 := bb BK118.out hb; replace HB := am (below_step (bws HB.out) hb); (try clear hb)))
 (try simp only [Act.put, List.setIfInBounds_toArray, List.set_cons_zero, List.set_cons_succ])
 go_cut [36] (fun v36 wc => ∃ (kq : Nat) (x36_2 : Bool), v36 = .bool x36_2 ∧ Aside0 (parts_Check.j0 kq x36_2 a0_0 a0_1 a0_2 l0_3 = some r) ∧ Aside0 (kq ≤ k) ∧ Aside0 (wc.heap[gb118]? = some (.cells #[.int .i64 a0_0, .int .i64 a0_1, .string a0_2, (.slice A0_3 l0_3.length c0_3)] 46 (0, 0))) ∧ Aside0 (Below w.heap.size w wc))
 case first =>
  have H := HC3.out
  clear HC3
  replace H := iteD H
  rcases H with ⟨c7b0, H⟩ | ⟨c7b0, H⟩
  ·
   (first | rw [c7b0] | (simp only [i64_w, i32_w]; rw [c7b0]) | skip)
   have H' := am H
   clear H
   obtain ⟨hcz8_0, hcz8_1, hcz8_2, hcz8_3, hfz8_0, hfz8_1, hfz8_2, hfz8_3⟩ := cz4 BK118.out
   go_wp2
   go_meet
   case rel => exact ⟨_, (true), rs, H', ⟨om⟩, ⟨bk BK118.out⟩, ⟨bws HB.out⟩⟩
  ·
   (first | rw [c7b0] | (simp only [i64_w, i32_w]; rw [c7b0]) | skip)
   replace H := iteD H
   rcases H with ⟨c9b0, H⟩ | ⟨c9b0, H⟩
   ·
    have H' := am H
    clear H
    obtain ⟨hcz10_0, hcz10_1, hcz10_2, hcz10_3, hfz10_0, hfz10_1, hfz10_2, hfz10_3⟩ := cz4 BK118.out
    go_wp2
    go_meet
    case rel => exact ⟨_, (true), rs, H', ⟨om⟩, ⟨bk BK118.out⟩, ⟨bws HB.out⟩⟩
   ·
    by_cases c11 : t120 = 0
    ·
     rw [if_pos c11] at H
     have c11b0 := beq_iff_eq.mpr c11
     have c11b1 := bne_eq_false_iff_eq.mpr c11
     clear c11
     by_cases c12 : t119 = a0_1
     ·
      rw [if_pos c12] at H
      have c12b0 := beq_iff_eq.mpr c12
      have c12b1 := bne_eq_false_iff_eq.mpr c12
      clear c12
      have H' := am H
      clear H
      obtain ⟨hcz13_0, hcz13_1, hcz13_2, hcz13_3, hfz13_0, hfz13_1, hfz13_2, hfz13_3⟩ := cz4 BK118.out
      go_wp2
      go_meet
      case rel => exact ⟨_, (((a0_2.size : Int) != 64)), rs, H', ⟨om⟩, ⟨bk BK118.out⟩, ⟨bws HB.out⟩⟩
     ·
      rw [if_neg c12] at H
      have c12b0 := beq_eq_false_iff_ne.mpr c12
      have c12b1 := bne_iff_ne.mpr c12
      have H' := am H
      clear H
      obtain ⟨hcz14_0, hcz14_1, hcz14_2, hcz14_3, hfz14_0, hfz14_1, hfz14_2, hfz14_3⟩ := cz4 BK118.out
      go_wp2
      go_meet
      case rel => exact ⟨_, (true), rs, H', ⟨om⟩, ⟨bk BK118.out⟩, ⟨bws HB.out⟩⟩
    ·
     rw [if_neg c11] at H
     have c11b0 := beq_eq_false_iff_ne.mpr c11
     have c11b1 := bne_iff_ne.mpr c11
     have H' := am H
     clear H
     obtain ⟨hcz15_0, hcz15_1, hcz15_2, hcz15_3, hfz15_0, hfz15_1, hfz15_2, hfz15_3⟩ := cz4 BK118.out
     go_wp2
     go_meet
     case rel => exact ⟨_, (true), rs, H', ⟨om⟩, ⟨bk BK118.out⟩, ⟨bws HB.out⟩⟩
 case rest =>
  clear HC3
  try clear hcz5_0 hcz5_1 hcz5_2 hcz5_3 hfz5_0 hfz5_1 hfz5_2 hfz5_3
  obtain ⟨kq, x36_2, rfl, HA, HJ2, BK118, HB⟩ := hcut
  cases kq with
  | zero => exact absurd HA.out (by simp [parts_Check.j0])
  | succ kj2 =>
   have H := HA.out
   clear HA
   simp only [parts_Check.j0] at H
   by_cases c16 : x36_2 = true
   ·
    subst c16
    rw [if_pos rfl] at H
    obtain rfl := Option.some.inj H
    go_wp2
    go_ret
    exact ⟨rf, bws HB.out⟩
   ·
    replace c16 := Bool.eq_false_iff.mpr c16
    subst c16
    rw [if_neg (show ¬ (false = true) by decide)] at H
    replace H := obE H
    obtain ⟨⟨t121, t122⟩, A17, H⟩ := H
    try dsimp only at H
    by_cases c18 : t122 = 0
    ·
     rw [if_pos c18] at H
     have c18b0 := beq_iff_eq.mpr c18
     have c18b1 := bne_eq_false_iff_eq.mpr c18
     clear c18
     obtain rfl := Option.some.inj H
     obtain ⟨hcz19_0, hcz19_1, hcz19_2, hcz19_3, hfz19_0, hfz19_1, hfz19_2, hfz19_3⟩ := cz4 BK118.out
     go_wp2_with (first | ((with_reducible refine gate_callee (f := 43) rfl ?_); refine goesL_ (some 40) rfl rfl Tryd.func43 (by kernel_rfl) rfl #[.string a0_2] rfl gl ?_; (with_reducible refine (digest_Unhex.calls a0_2 t121 t122 _ A17.out).mono ?_); rintro e w20 ⟨rfl, hb⟩; refine ⟨_, rfl, ?_⟩; replace BK118 := bb BK118.out hb; replace HB := am (below_step (bws HB.out) hb); (try clear hb)))
     go_ret
     exact ⟨rf, bws HB.out⟩
    ·
     rw [if_neg c18] at H
     have c18b0 := beq_eq_false_iff_ne.mpr c18
     have c18b1 := bne_iff_ne.mpr c18
     obtain rfl := Option.some.inj H
     obtain ⟨hcz21_0, hcz21_1, hcz21_2, hcz21_3, hfz21_0, hfz21_1, hfz21_2, hfz21_3⟩ := cz4 BK118.out
     go_wp2_with (first | ((with_reducible refine gate_callee (f := 43) rfl ?_); refine goesL_ (some 40) rfl rfl Tryd.func43 (by kernel_rfl) rfl #[.string a0_2] rfl gl ?_; (with_reducible refine (digest_Unhex.calls a0_2 t121 t122 _ A17.out).mono ?_); rintro e w22 ⟨rfl, hb⟩; refine ⟨_, rfl, ?_⟩; replace BK118 := bb BK118.out hb; replace HB := am (below_step (bws HB.out) hb); (try clear hb)))
     go_ret
     exact ⟨rf, bws HB.out⟩
def parts_right.l0 : Nat → List (S46) → List (S46) → Int → Int → Option (Bool)
 | 0, _, _, _, _ => none
 | k + 1, x0, x5, x6, x7 => if x7 < x6 then (if 0 ≤ x7 then (if x7 < (x5.length : Int) then ((parts_Check.f k ((rd_T46 x5 x7).f0) ((rd_T46 x5 x7).f1) ((rd_T46 x5 x7).f2) ((rd_T46 x5 x7).f3)).bind fun t125 => (if t125 = 0 then (if x7 > 0 then (if 0 ≤ (wrap64 (x7 - 1)) then (if (wrap64 (x7 - 1)) < (x0.length : Int) then (if ((rd_T46 x5 x7).f0) ≤ ((rd_T46 x0 (wrap64 (x7 - 1))).f0) then (some false) else (parts_right.l0 k x0 x5 x6 (wrap64 (x7 + 1)))) else (none)) else (none)) else (parts_right.l0 k x0 x5 x6 (wrap64 (x7 + 1)))) else (some false))) else (none)) else (none)) else (some true)
def parts_right.f (k : Nat) (l0 : List (S46)) : Option (Bool) := parts_right.l0 k l0 l0 (l0.length : Int) 0
theorem parts_right.mono_l : ∀ k, (∀ y0 y1 y2 y3, LeO (parts_right.l0 k y0 y1 y2 y3) (parts_right.l0 (k + 1) y0 y1 y2 y3))
 | 0 => fun _ _ _ _ r h => by simp [parts_right.l0] at h
 | k + 1 => by
  have ih0 := parts_right.mono_l k
  ·
   intro y0 y1 y2 y3
   unfold parts_right.l0
   repeat' (with_reducible first | exact ih0 _ _ _ _ | exact parts_Check.mono _ _ _ _ _ | exact LeO.refl _ | exact LeO.none _ | refine LeO.ite ?_ ?_ | refine LeO.bind ?_ (fun _ => ?_))
theorem parts_right.mono : ∀ a0 k, LeO (parts_right.f k a0) (parts_right.f (k + 1) a0) := by
 intro a0 k
 have ih0 := parts_right.mono_l k
 unfold parts_right.f
 repeat' (with_reducible first | exact ih0 _ _ _ _ | exact parts_Check.mono _ _ _ _ _ | exact LeO.refl _ | exact LeO.none _ | refine LeO.ite ?_ ?_ | refine LeO.bind ?_ (fun _ => ?_))
def parts_right.T4 : Bool × List (List Nat × List Nat) := (true, [([], []), ([0], [0]), ([1], [1]), ([2, 1], [2]), ([3], [3]), ([4, 3], [3, 4]), ([5, 3, 3], [3, 5]), ([6], [6]), ([7, 6], [6, 7]), ([6], [6]), ([6], [6]), ([10, 6], [6, 10]), ([9, 11, 6], [6, 9, 11]), ([12, 6], [6, 12]), ([13, 6], [6, 13]), ([8, 14, 6], [6, 8, 14]), ([6, 15, 3], [3, 6, 15]), ([3, 16], [3, 16])])
def parts_right.B4 : List Nat := [0, 1, 3, 7, 15, 31, 63, 127, 255, 127, 127, 1151, 3711, 7807, 15999, 32767, 65535, 131071]
theorem parts_right.tab4 : rtab .any (opsOf Tryd.f29 4) = parts_right.T4 := by kernel_rfl
theorem parts_right.bits4 : waitsOk parts_right.T4.2 parts_right.B4 = true := by kernel_rfl
set_option maxHeartbeats 8000000 in
set_option maxRecDepth 100000 in
theorem parts_right.calls (k : Nat) (A0 : Option Addr) (c0 : Nat) (l0 : List (S46)) (r : Bool) (w : World) (hr0 : Kd.C k46 w A0 l0.length l0) (hc0 : l0.length ≤ c0) (h : parts_right.f k l0 = some r) :
  Calls Tryd.prog 29 #[.slice A0 l0.length c0] w fun e w' => e = .returned (.bool r) ∧ Below w.heap.size w w' := by
 have hu46 := Tryd.underlying46
 have HR0 := am hr0
 have HC0 := am hc0
 clear hr0 hc0
 have HB := am (Below.refl w.heap.size w)
 have H := h
 clear h
 unfold parts_right.f at H
 have H' := am H
 clear H
 go_enter Tryd.func29, Tryd.ntmps29
 go_wp2
 go_loopg [7] k (fun kq v7 w' => ∃ (x7_1 : Int), v7 = .int .i64 x7_1 ∧ Aside0 (parts_right.l0 kq l0 l0 (l0.length : Int) x7_1 = some r) ∧ Aside0 (kq ≤ k) ∧ Aside0 (Below w.heap.size w w'))
 case atStart => exact ⟨(0), rs, H', ⟨Nat.le_refl _⟩, ⟨bw HB.out⟩⟩
 case round =>
  clear H'
  obtain ⟨x7_1, rfl, HA, HK1, HB⟩ := hrel
  cases gk with
  | zero => exact absurd HA.out (by simp [parts_right.l0])
  | succ k1 =>
   have H := HA.out
   clear HA
   simp only [parts_right.l0] at H
   replace H := iteD H
   rcases H with ⟨c2b0, H⟩ | ⟨c2b0, H⟩
   ·
    replace H := iteD H
    rcases H with ⟨c3b0, H⟩ | ⟨_, H⟩
    ·
     replace H := iteD H
     rcases H with ⟨c4b0, H⟩ | ⟨_, H⟩
     ·
      replace H := obE H
      obtain ⟨t125, A5, H⟩ := H
      by_cases c6 : t125 = 0
      ·
       rw [if_pos c6] at H
       have c6b0 := beq_iff_eq.mpr c6
       have c6b1 := bne_eq_false_iff_eq.mpr c6
       clear c6
       replace H := iteD H
       rcases H with ⟨c7b0, H⟩ | ⟨c7b0, H⟩
       ·
        obtain ⟨ji8, hji8⟩ : ∃ j_ : Int, (wrap64 (x7_1 - 1)) = j_ := ⟨_, rfl⟩
        replace H : (if 0 ≤ (ji8) then (if (ji8) < (l0.length : Int) then (if ((rd_T46 l0 x7_1).f0) ≤ ((rd_T46 l0 (ji8)).f0) then (some false) else (parts_right.l0 k1 l0 l0 (l0.length : Int) (wrap64 (x7_1 + 1)))) else (none)) else (none)) = some r := by first | (rw [hji8] at H; exact H) | (simp only [hji8] at H ⊢; exact H)
        (try rw [hji8] at A5)
        have hji8w : (IntKind.i64.wrap (x7_1 - 1)) = ji8 := (i64_w _).trans hji8
        replace H := iteD H
        rcases H with ⟨c9b0, H⟩ | ⟨_, H⟩
        ·
         replace H := iteD H
         rcases H with ⟨c10b0, H⟩ | ⟨_, H⟩
         ·
          replace H := iteD H
          rcases H with ⟨c11b0, H⟩ | ⟨c11b0, H⟩
          ·
           obtain rfl := Option.some.inj H
           have p123 := pz x7_1
           have q123 := pl x7_1 (l0.length : Int)
           obtain ⟨ad123, A123_3, c123_3, e123, hx123_0, hx123_1, hx123_2, hx123_3, hl123_3, hi123_3⟩ := at_T46 HR0.out x7_1 (of_eq_true p123) (of_eq_true q123)
           cases e123
           replace hx123_0 := bc HB.out hx123_0
           replace hx123_1 := bc HB.out hx123_1
           replace hx123_2 := bc HB.out hx123_2
           replace hx123_3 := bc HB.out hx123_3
           have HR123_3 := am hi123_3
           have HC123_3 := am hl123_3
           clear hi123_3 hl123_3
           try go_wp2_with (first | ((with_reducible refine gate_dst (N := 4) rfl ?_); refine bx 4 #[.int .i64 0, .int .i64 0, .string (⟨#[]⟩ : ByteArray), .slice none 0 0] 46 ?_; intro gb124 hg w12 hbox hb; have BK124 := am (hbox); have GW124 := gsz hg HB.out; have GE124 := gsz hg HB.out; replace HB := am (below_step (bw HB.out) hb); clear hb hbox hg; obtain ⟨hcz13_0, hcz13_1, hcz13_2, hcz13_3, hfz13_0, hfz13_1, hfz13_2, hfz13_3⟩ := cz4 BK124.out))
           have n0_ : Aside0 (((((w12.setCell ⟨gb124, 0, none⟩ (.int .i64 ((rd_T46 l0 x7_1).f0))).setCell ⟨gb124, 1, none⟩ (.int .i64 ((rd_T46 l0 x7_1).f1))).setCell ⟨gb124, 2, none⟩ (.string ((rd_T46 l0 x7_1).f2))).setCell ⟨gb124, 3, none⟩ (.slice A123_3 ((rd_T46 l0 x7_1).f3).length c123_3)).heap[gb124]? = some (.cells #[.int .i64 ((rd_T46 l0 x7_1).f0), .int .i64 ((rd_T46 l0 x7_1).f1), .string ((rd_T46 l0 x7_1).f2), .slice A123_3 ((rd_T46 l0 x7_1).f3).length c123_3] 46 (0, 0))) := ⟨bkp BK124.out⟩
           have n1_ : Aside0 (Below w.heap.size w ((((w12.setCell ⟨gb124, 0, none⟩ (.int .i64 ((rd_T46 l0 x7_1).f0))).setCell ⟨gb124, 1, none⟩ (.int .i64 ((rd_T46 l0 x7_1).f1))).setCell ⟨gb124, 2, none⟩ (.string ((rd_T46 l0 x7_1).f2))).setCell ⟨gb124, 3, none⟩ (.slice A123_3 ((rd_T46 l0 x7_1).f3).length c123_3))) := ⟨bws HB.out⟩
           (try clear BK124)
           (try clear HB)
           generalize ((((w12.setCell ⟨gb124, 0, none⟩ (.int .i64 ((rd_T46 l0 x7_1).f0))).setCell ⟨gb124, 1, none⟩ (.int .i64 ((rd_T46 l0 x7_1).f1))).setCell ⟨gb124, 2, none⟩ (.string ((rd_T46 l0 x7_1).f2))).setCell ⟨gb124, 3, none⟩ (.slice A123_3 ((rd_T46 l0 x7_1).f3).length c123_3)) = w14 at n0_ n1_ ⊢
           have BK124 := n0_
           have HB := n1_
           clear n0_ n1_
           replace BK124 := am (blk_drew BK124.out)
           replace HB := am (below_drew1 HB.out)
           have p126 := pz (ji8)
           have q126 := pl (ji8) (l0.length : Int)
           obtain ⟨ad126, A126_3, c126_3, e126, hw126_0, hw126_1, hw126_2, hw126_3, hl126_3, hi126_3⟩ := at_T46 HR0.out (ji8) (of_eq_true p126) (of_eq_true q126)
           obtain rfl : ad123 = ad126 := (by injection e126)
           have hx126_0 := bc HB.out hw126_0
           have hx126_1 := bc HB.out hw126_1
           have hx126_2 := bc HB.out hw126_2
           have hx126_3 := bc HB.out hw126_3
           have HR126_3 := am hi126_3
           have HC126_3 := am hl126_3
           clear hi126_3 hl126_3
           refine start_ (n := 18) (S := fun w' => w'.cell? ⟨gb124, 0, none⟩ = some (.int .i64 ((rd_T46 l0 x7_1).f0)) ∧ w'.cell? ⟨gb124, 1, none⟩ = some (.int .i64 ((rd_T46 l0 x7_1).f1)) ∧ w'.cell? ⟨gb124, 2, none⟩ = some (.string ((rd_T46 l0 x7_1).f2)) ∧ w'.cell? ⟨gb124, 3, none⟩ = some (.slice A123_3 ((rd_T46 l0 x7_1).f3).length c123_3) ∧ w'.cell? (ad123.add (((ji8)).toNat * 4)) = some (.int .i64 ((rd_T46 l0 (ji8)).f0)) ∧ w'.cell? ⟨(ad123.add (((ji8)).toNat * 4)).block, (ad123.add (((ji8)).toNat * 4)).off + 1, none⟩ = some (.int .i64 ((rd_T46 l0 (ji8)).f1)) ∧ w'.cell? ⟨(ad123.add (((ji8)).toNat * 4)).block, (ad123.add (((ji8)).toNat * 4)).off + 2, none⟩ = some (.string ((rd_T46 l0 (ji8)).f2)) ∧ w'.cell? ⟨(ad123.add (((ji8)).toNat * 4)).block, (ad123.add (((ji8)).toNat * 4)).off + 3, none⟩ = some (.slice A126_3 ((rd_T46 l0 (ji8)).f3).length c126_3)) (ds := []) #[false, false, false, false, false, false, false, false, false, false, false, false, false, false, false, false, false, false] (by kernel_rfl) rfl rfl ⟨(blk_cell BK124.out 0).trans rfl, (blk_cell BK124.out 1).trans rfl, (blk_cell BK124.out 2).trans rfl, (blk_cell BK124.out 3).trans rfl, (bc HB.out hw126_0), (bc HB.out hw126_1), (bc HB.out hw126_2), (bc HB.out hw126_3)⟩ (fun hHeld => ?_); refine with_tabW parts_right.tab4 parts_right.bits4 (fun HT_ HW_ => ?_)
           generalize w14.drew = w15 at BK124 HB HR126_3 hx126_0 hx126_1 hx126_2 hx126_3 hHeld ⊢
           refine tk 0 (some 12) HT_.out HW_.out hHeld ?_
           refine one_ (i := 1) (N := some 13) #[true, true, false, false, false, false, false, false, false, false, false, false, false, false, false, false, false, false] rfl rfl (one_of HT_.out (by kernel_rfl)) (by decide) (fun K hK => ?_)
           refine goes_ Tryd.func19 (by kernel_rfl) rfl #[.agg #[.int .i64 ((rd_T46 l0 x7_1).f0), .int .i64 ((rd_T46 l0 x7_1).f1), .string ((rd_T46 l0 x7_1).f2), .slice A123_3 ((rd_T46 l0 x7_1).f3).length c123_3]] (by rfl) rfl rfl gl ?_
           with_reducible refine (parts_Check.calls k1 ((rd_T46 l0 x7_1).f0) ((rd_T46 l0 x7_1).f1) ((rd_T46 l0 x7_1).f2) _ _ ((rd_T46 l0 x7_1).f3) t125 _ ?side1 ?side2 A5.out).mono ?_
           (case side1 => exact kC (Kd.C_below HR123_3.out HB.out))
           (case side2 => exact HC123_3.out)
           rintro e w16 ⟨rfl, hb⟩
           refine ⟨_, rfl, ?_⟩
           replace BK124 := bb BK124.out hb
           replace HB := am (below_step (bws HB.out) hb)
           (try clear hb)
           (try clear hb2)
           (try clear hk)
           (try clear hi)
           refine hK.out _ _ ⟨(blk_cell BK124.out 0).trans rfl, (blk_cell BK124.out 1).trans rfl, (blk_cell BK124.out 2).trans rfl, (blk_cell BK124.out 3).trans rfl, (bc HB.out hw126_0), (bc HB.out hw126_1), (bc HB.out hw126_2), (bc HB.out hw126_3)⟩ (fun hHeld => ?_)
           clear hK K
           refine norm_ (a' := ?_) ?_ ?_
           rotate_left
           ·
            show Act.put _ (some 13) _ = _
            simp only [Act.put, List.setIfInBounds_toArray, List.set_cons_zero, List.set_cons_succ, i64_w, i32_w]
            rfl
           refine pu 2 (some 14) HT_.out ?_
           refine pu 3 (some 15) HT_.out ?_
           refine pu 4 (some 16) HT_.out ?_
           refine pu 5 (some 17) HT_.out ?_
           refine pu 6 (some 18) HT_.out ?_
           refine pu 7 (some 19) HT_.out ?_
           refine pu 9 (some 21) HT_.out ?_
           refine pu 10 (some 22) HT_.out ?_
           refine pu 11 (some 23) HT_.out ?_
           refine pu 12 (some 24) HT_.out ?_
           refine pu 13 (some 25) HT_.out ?_
           refine tk 8 (some 20) HT_.out HW_.out hHeld ?_
           refine tk 14 (some 26) HT_.out HW_.out hHeld ?_
           refine pu 15 (some 27) HT_.out ?_
           refine pu 16 (some 28) HT_.out ?_
           refine pu 17 (some 29) HT_.out ?_
           refine done_ (done_of HT_.out (by kernel_rfl)) ?_
           try go_wp2
           go_ret
           exact ⟨by first | rfl | (simp [errW_none, errW_some] <;> rfl) | (simp only [← hji8]; first | rfl | (simp [errW_none, errW_some] <;> rfl)) | (simp [*, errW_none, errW_some] <;> rfl), bws HB.out⟩
          ·
           have H' := am H
           clear H
           have p123 := pz x7_1
           have q123 := pl x7_1 (l0.length : Int)
           obtain ⟨ad123, A123_3, c123_3, e123, hx123_0, hx123_1, hx123_2, hx123_3, hl123_3, hi123_3⟩ := at_T46 HR0.out x7_1 (of_eq_true p123) (of_eq_true q123)
           cases e123
           replace hx123_0 := bc HB.out hx123_0
           replace hx123_1 := bc HB.out hx123_1
           replace hx123_2 := bc HB.out hx123_2
           replace hx123_3 := bc HB.out hx123_3
           have HR123_3 := am hi123_3
           have HC123_3 := am hl123_3
           clear hi123_3 hl123_3
           try go_wp2_with (first | ((with_reducible refine gate_dst (N := 4) rfl ?_); refine bx 4 #[.int .i64 0, .int .i64 0, .string (⟨#[]⟩ : ByteArray), .slice none 0 0] 46 ?_; intro gb124 hg w17 hbox hb; have BK124 := am (hbox); have GW124 := gsz hg HB.out; have GE124 := gsz hg HB.out; replace HB := am (below_step (bw HB.out) hb); clear hb hbox hg; obtain ⟨hcz18_0, hcz18_1, hcz18_2, hcz18_3, hfz18_0, hfz18_1, hfz18_2, hfz18_3⟩ := cz4 BK124.out))
           have n0_ : Aside0 (((((w17.setCell ⟨gb124, 0, none⟩ (.int .i64 ((rd_T46 l0 x7_1).f0))).setCell ⟨gb124, 1, none⟩ (.int .i64 ((rd_T46 l0 x7_1).f1))).setCell ⟨gb124, 2, none⟩ (.string ((rd_T46 l0 x7_1).f2))).setCell ⟨gb124, 3, none⟩ (.slice A123_3 ((rd_T46 l0 x7_1).f3).length c123_3)).heap[gb124]? = some (.cells #[.int .i64 ((rd_T46 l0 x7_1).f0), .int .i64 ((rd_T46 l0 x7_1).f1), .string ((rd_T46 l0 x7_1).f2), .slice A123_3 ((rd_T46 l0 x7_1).f3).length c123_3] 46 (0, 0))) := ⟨bkp BK124.out⟩
           have n1_ : Aside0 (Below w.heap.size w ((((w17.setCell ⟨gb124, 0, none⟩ (.int .i64 ((rd_T46 l0 x7_1).f0))).setCell ⟨gb124, 1, none⟩ (.int .i64 ((rd_T46 l0 x7_1).f1))).setCell ⟨gb124, 2, none⟩ (.string ((rd_T46 l0 x7_1).f2))).setCell ⟨gb124, 3, none⟩ (.slice A123_3 ((rd_T46 l0 x7_1).f3).length c123_3))) := ⟨bws HB.out⟩
           (try clear BK124)
           (try clear HB)
           generalize ((((w17.setCell ⟨gb124, 0, none⟩ (.int .i64 ((rd_T46 l0 x7_1).f0))).setCell ⟨gb124, 1, none⟩ (.int .i64 ((rd_T46 l0 x7_1).f1))).setCell ⟨gb124, 2, none⟩ (.string ((rd_T46 l0 x7_1).f2))).setCell ⟨gb124, 3, none⟩ (.slice A123_3 ((rd_T46 l0 x7_1).f3).length c123_3)) = w19 at n0_ n1_ ⊢
           have BK124 := n0_
           have HB := n1_
           clear n0_ n1_
           replace BK124 := am (blk_drew BK124.out)
           replace HB := am (below_drew1 HB.out)
           have p126 := pz (ji8)
           have q126 := pl (ji8) (l0.length : Int)
           obtain ⟨ad126, A126_3, c126_3, e126, hw126_0, hw126_1, hw126_2, hw126_3, hl126_3, hi126_3⟩ := at_T46 HR0.out (ji8) (of_eq_true p126) (of_eq_true q126)
           obtain rfl : ad123 = ad126 := (by injection e126)
           have hx126_0 := bc HB.out hw126_0
           have hx126_1 := bc HB.out hw126_1
           have hx126_2 := bc HB.out hw126_2
           have hx126_3 := bc HB.out hw126_3
           have HR126_3 := am hi126_3
           have HC126_3 := am hl126_3
           clear hi126_3 hl126_3
           refine start_ (n := 18) (S := fun w' => w'.cell? ⟨gb124, 0, none⟩ = some (.int .i64 ((rd_T46 l0 x7_1).f0)) ∧ w'.cell? ⟨gb124, 1, none⟩ = some (.int .i64 ((rd_T46 l0 x7_1).f1)) ∧ w'.cell? ⟨gb124, 2, none⟩ = some (.string ((rd_T46 l0 x7_1).f2)) ∧ w'.cell? ⟨gb124, 3, none⟩ = some (.slice A123_3 ((rd_T46 l0 x7_1).f3).length c123_3) ∧ w'.cell? (ad123.add (((ji8)).toNat * 4)) = some (.int .i64 ((rd_T46 l0 (ji8)).f0)) ∧ w'.cell? ⟨(ad123.add (((ji8)).toNat * 4)).block, (ad123.add (((ji8)).toNat * 4)).off + 1, none⟩ = some (.int .i64 ((rd_T46 l0 (ji8)).f1)) ∧ w'.cell? ⟨(ad123.add (((ji8)).toNat * 4)).block, (ad123.add (((ji8)).toNat * 4)).off + 2, none⟩ = some (.string ((rd_T46 l0 (ji8)).f2)) ∧ w'.cell? ⟨(ad123.add (((ji8)).toNat * 4)).block, (ad123.add (((ji8)).toNat * 4)).off + 3, none⟩ = some (.slice A126_3 ((rd_T46 l0 (ji8)).f3).length c126_3)) (ds := []) #[false, false, false, false, false, false, false, false, false, false, false, false, false, false, false, false, false, false] (by kernel_rfl) rfl rfl ⟨(blk_cell BK124.out 0).trans rfl, (blk_cell BK124.out 1).trans rfl, (blk_cell BK124.out 2).trans rfl, (blk_cell BK124.out 3).trans rfl, (bc HB.out hw126_0), (bc HB.out hw126_1), (bc HB.out hw126_2), (bc HB.out hw126_3)⟩ (fun hHeld => ?_); refine with_tabW parts_right.tab4 parts_right.bits4 (fun HT_ HW_ => ?_)
           generalize w19.drew = w20 at BK124 HB HR126_3 hx126_0 hx126_1 hx126_2 hx126_3 hHeld ⊢
           refine tk 0 (some 12) HT_.out HW_.out hHeld ?_
           refine one_ (i := 1) (N := some 13) #[true, true, false, false, false, false, false, false, false, false, false, false, false, false, false, false, false, false] rfl rfl (one_of HT_.out (by kernel_rfl)) (by decide) (fun K hK => ?_)
           refine goes_ Tryd.func19 (by kernel_rfl) rfl #[.agg #[.int .i64 ((rd_T46 l0 x7_1).f0), .int .i64 ((rd_T46 l0 x7_1).f1), .string ((rd_T46 l0 x7_1).f2), .slice A123_3 ((rd_T46 l0 x7_1).f3).length c123_3]] (by rfl) rfl rfl gl ?_
           with_reducible refine (parts_Check.calls k1 ((rd_T46 l0 x7_1).f0) ((rd_T46 l0 x7_1).f1) ((rd_T46 l0 x7_1).f2) _ _ ((rd_T46 l0 x7_1).f3) t125 _ ?side1 ?side2 A5.out).mono ?_
           (case side1 => exact kC (Kd.C_below HR123_3.out HB.out))
           (case side2 => exact HC123_3.out)
           rintro e w21 ⟨rfl, hb⟩
           refine ⟨_, rfl, ?_⟩
           replace BK124 := bb BK124.out hb
           replace HB := am (below_step (bws HB.out) hb)
           (try clear hb)
           (try clear hb2)
           (try clear hk)
           (try clear hi)
           refine hK.out _ _ ⟨(blk_cell BK124.out 0).trans rfl, (blk_cell BK124.out 1).trans rfl, (blk_cell BK124.out 2).trans rfl, (blk_cell BK124.out 3).trans rfl, (bc HB.out hw126_0), (bc HB.out hw126_1), (bc HB.out hw126_2), (bc HB.out hw126_3)⟩ (fun hHeld => ?_)
           clear hK K
           refine norm_ (a' := ?_) ?_ ?_
           rotate_left
           ·
            show Act.put _ (some 13) _ = _
            simp only [Act.put, List.setIfInBounds_toArray, List.set_cons_zero, List.set_cons_succ, i64_w, i32_w]
            rfl
           refine pu 2 (some 14) HT_.out ?_
           refine pu 3 (some 15) HT_.out ?_
           refine pu 4 (some 16) HT_.out ?_
           refine pu 5 (some 17) HT_.out ?_
           refine pu 6 (some 18) HT_.out ?_
           refine pu 7 (some 19) HT_.out ?_
           refine pu 9 (some 21) HT_.out ?_
           refine pu 10 (some 22) HT_.out ?_
           refine pu 11 (some 23) HT_.out ?_
           refine pu 12 (some 24) HT_.out ?_
           refine pu 13 (some 25) HT_.out ?_
           refine tk 8 (some 20) HT_.out HW_.out hHeld ?_
           refine tk 14 (some 26) HT_.out HW_.out hHeld ?_
           refine pu 15 (some 27) HT_.out ?_
           refine pu 16 (some 28) HT_.out ?_
           refine pu 17 (some 29) HT_.out ?_
           refine done_ (done_of HT_.out (by kernel_rfl)) ?_
           try go_wp2
           go_roundg k1
           case measure => have := HK1.out; omega
           case rel => exact ⟨(wrap64 (x7_1 + 1)), rs, H', ⟨by have := HK1.out; omega⟩, ⟨bws HB.out⟩⟩
         ·
          exact absurd H (by simp)
        ·
         exact absurd H (by simp)
       ·
        have H' := am H
        clear H
        have p123 := pz x7_1
        have q123 := pl x7_1 (l0.length : Int)
        obtain ⟨ad123, A123_3, c123_3, e123, hx123_0, hx123_1, hx123_2, hx123_3, hl123_3, hi123_3⟩ := at_T46 HR0.out x7_1 (of_eq_true p123) (of_eq_true q123)
        cases e123
        replace hx123_0 := bc HB.out hx123_0
        replace hx123_1 := bc HB.out hx123_1
        replace hx123_2 := bc HB.out hx123_2
        replace hx123_3 := bc HB.out hx123_3
        have HR123_3 := am hi123_3
        have HC123_3 := am hl123_3
        clear hi123_3 hl123_3
        try go_wp2_with (first | ((with_reducible refine gate_dst (N := 4) rfl ?_); refine bx 4 #[.int .i64 0, .int .i64 0, .string (⟨#[]⟩ : ByteArray), .slice none 0 0] 46 ?_; intro gb124 hg w22 hbox hb; have BK124 := am (hbox); have GW124 := gsz hg HB.out; have GE124 := gsz hg HB.out; replace HB := am (below_step (bw HB.out) hb); clear hb hbox hg; obtain ⟨hcz23_0, hcz23_1, hcz23_2, hcz23_3, hfz23_0, hfz23_1, hfz23_2, hfz23_3⟩ := cz4 BK124.out))
        have n0_ : Aside0 (((((w22.setCell ⟨gb124, 0, none⟩ (.int .i64 ((rd_T46 l0 x7_1).f0))).setCell ⟨gb124, 1, none⟩ (.int .i64 ((rd_T46 l0 x7_1).f1))).setCell ⟨gb124, 2, none⟩ (.string ((rd_T46 l0 x7_1).f2))).setCell ⟨gb124, 3, none⟩ (.slice A123_3 ((rd_T46 l0 x7_1).f3).length c123_3)).heap[gb124]? = some (.cells #[.int .i64 ((rd_T46 l0 x7_1).f0), .int .i64 ((rd_T46 l0 x7_1).f1), .string ((rd_T46 l0 x7_1).f2), .slice A123_3 ((rd_T46 l0 x7_1).f3).length c123_3] 46 (0, 0))) := ⟨bkp BK124.out⟩
        have n1_ : Aside0 (Below w.heap.size w ((((w22.setCell ⟨gb124, 0, none⟩ (.int .i64 ((rd_T46 l0 x7_1).f0))).setCell ⟨gb124, 1, none⟩ (.int .i64 ((rd_T46 l0 x7_1).f1))).setCell ⟨gb124, 2, none⟩ (.string ((rd_T46 l0 x7_1).f2))).setCell ⟨gb124, 3, none⟩ (.slice A123_3 ((rd_T46 l0 x7_1).f3).length c123_3))) := ⟨bws HB.out⟩
        (try clear BK124)
        (try clear HB)
        generalize ((((w22.setCell ⟨gb124, 0, none⟩ (.int .i64 ((rd_T46 l0 x7_1).f0))).setCell ⟨gb124, 1, none⟩ (.int .i64 ((rd_T46 l0 x7_1).f1))).setCell ⟨gb124, 2, none⟩ (.string ((rd_T46 l0 x7_1).f2))).setCell ⟨gb124, 3, none⟩ (.slice A123_3 ((rd_T46 l0 x7_1).f3).length c123_3)) = w24 at n0_ n1_ ⊢
        have BK124 := n0_
        have HB := n1_
        clear n0_ n1_
        replace BK124 := am (blk_drew BK124.out)
        replace HB := am (below_drew1 HB.out)
        refine start_ (n := 18) (S := fun w' => w'.cell? ⟨gb124, 0, none⟩ = some (.int .i64 ((rd_T46 l0 x7_1).f0)) ∧ w'.cell? ⟨gb124, 1, none⟩ = some (.int .i64 ((rd_T46 l0 x7_1).f1)) ∧ w'.cell? ⟨gb124, 2, none⟩ = some (.string ((rd_T46 l0 x7_1).f2)) ∧ w'.cell? ⟨gb124, 3, none⟩ = some (.slice A123_3 ((rd_T46 l0 x7_1).f3).length c123_3)) (ds := []) #[false, false, false, false, false, false, false, false, false, false, false, false, false, false, false, false, false, false] (by kernel_rfl) rfl rfl ⟨(blk_cell BK124.out 0).trans rfl, (blk_cell BK124.out 1).trans rfl, (blk_cell BK124.out 2).trans rfl, (blk_cell BK124.out 3).trans rfl⟩ (fun hHeld => ?_); refine with_tabW parts_right.tab4 parts_right.bits4 (fun HT_ HW_ => ?_)
        generalize w24.drew = w25 at BK124 HB hHeld ⊢
        refine tk 0 (some 12) HT_.out HW_.out hHeld ?_
        refine one_ (i := 1) (N := some 13) #[true, true, false, false, false, false, false, false, false, false, false, false, false, false, false, false, false, false] rfl rfl (one_of HT_.out (by kernel_rfl)) (by decide) (fun K hK => ?_)
        refine goes_ Tryd.func19 (by kernel_rfl) rfl #[.agg #[.int .i64 ((rd_T46 l0 x7_1).f0), .int .i64 ((rd_T46 l0 x7_1).f1), .string ((rd_T46 l0 x7_1).f2), .slice A123_3 ((rd_T46 l0 x7_1).f3).length c123_3]] (by rfl) rfl rfl gl ?_
        with_reducible refine (parts_Check.calls k1 ((rd_T46 l0 x7_1).f0) ((rd_T46 l0 x7_1).f1) ((rd_T46 l0 x7_1).f2) _ _ ((rd_T46 l0 x7_1).f3) t125 _ ?side1 ?side2 A5.out).mono ?_
        (case side1 => exact kC (Kd.C_below HR123_3.out HB.out))
        (case side2 => exact HC123_3.out)
        rintro e w26 ⟨rfl, hb⟩
        refine ⟨_, rfl, ?_⟩
        replace BK124 := bb BK124.out hb
        replace HB := am (below_step (bws HB.out) hb)
        (try clear hb)
        (try clear hb2)
        (try clear hk)
        (try clear hi)
        refine hK.out _ _ ⟨(blk_cell BK124.out 0).trans rfl, (blk_cell BK124.out 1).trans rfl, (blk_cell BK124.out 2).trans rfl, (blk_cell BK124.out 3).trans rfl⟩ (fun hHeld => ?_)
        clear hK K
        refine norm_ (a' := ?_) ?_ ?_
        rotate_left
        ·
         show Act.put _ (some 13) _ = _
         simp only [Act.put, List.setIfInBounds_toArray, List.set_cons_zero, List.set_cons_succ, i64_w, i32_w]
         rfl
        refine pu 2 (some 14) HT_.out ?_
        refine pu 3 (some 15) HT_.out ?_
        refine pu 4 (some 16) HT_.out ?_
        refine pu 5 (some 17) HT_.out ?_
        refine pu 6 (some 18) HT_.out ?_
        refine un 7 (some 19) HT_.out ?_
        refine un 8 (some 20) HT_.out ?_
        refine un 9 (some 21) HT_.out ?_
        refine un 10 (some 22) HT_.out ?_
        refine un 11 (some 23) HT_.out ?_
        refine un 12 (some 24) HT_.out ?_
        refine un 13 (some 25) HT_.out ?_
        refine un 14 (some 26) HT_.out ?_
        refine un 15 (some 27) HT_.out ?_
        refine pu 16 (some 28) HT_.out ?_
        refine pu 17 (some 29) HT_.out ?_
        refine done_ (done_of HT_.out (by kernel_rfl)) ?_
        try go_wp2
        go_roundg k1
        case measure => have := HK1.out; omega
        case rel => exact ⟨(wrap64 (x7_1 + 1)), rs, H', ⟨by have := HK1.out; omega⟩, ⟨bws HB.out⟩⟩
      ·
       rw [if_neg c6] at H
       have c6b0 := beq_eq_false_iff_ne.mpr c6
       have c6b1 := bne_iff_ne.mpr c6
       obtain rfl := Option.some.inj H
       have p123 := pz x7_1
       have q123 := pl x7_1 (l0.length : Int)
       obtain ⟨ad123, A123_3, c123_3, e123, hx123_0, hx123_1, hx123_2, hx123_3, hl123_3, hi123_3⟩ := at_T46 HR0.out x7_1 (of_eq_true p123) (of_eq_true q123)
       cases e123
       replace hx123_0 := bc HB.out hx123_0
       replace hx123_1 := bc HB.out hx123_1
       replace hx123_2 := bc HB.out hx123_2
       replace hx123_3 := bc HB.out hx123_3
       have HR123_3 := am hi123_3
       have HC123_3 := am hl123_3
       clear hi123_3 hl123_3
       try go_wp2_with (first | ((with_reducible refine gate_dst (N := 4) rfl ?_); refine bx 4 #[.int .i64 0, .int .i64 0, .string (⟨#[]⟩ : ByteArray), .slice none 0 0] 46 ?_; intro gb124 hg w27 hbox hb; have BK124 := am (hbox); have GW124 := gsz hg HB.out; have GE124 := gsz hg HB.out; replace HB := am (below_step (bw HB.out) hb); clear hb hbox hg; obtain ⟨hcz28_0, hcz28_1, hcz28_2, hcz28_3, hfz28_0, hfz28_1, hfz28_2, hfz28_3⟩ := cz4 BK124.out))
       have n0_ : Aside0 (((((w27.setCell ⟨gb124, 0, none⟩ (.int .i64 ((rd_T46 l0 x7_1).f0))).setCell ⟨gb124, 1, none⟩ (.int .i64 ((rd_T46 l0 x7_1).f1))).setCell ⟨gb124, 2, none⟩ (.string ((rd_T46 l0 x7_1).f2))).setCell ⟨gb124, 3, none⟩ (.slice A123_3 ((rd_T46 l0 x7_1).f3).length c123_3)).heap[gb124]? = some (.cells #[.int .i64 ((rd_T46 l0 x7_1).f0), .int .i64 ((rd_T46 l0 x7_1).f1), .string ((rd_T46 l0 x7_1).f2), .slice A123_3 ((rd_T46 l0 x7_1).f3).length c123_3] 46 (0, 0))) := ⟨bkp BK124.out⟩
       have n1_ : Aside0 (Below w.heap.size w ((((w27.setCell ⟨gb124, 0, none⟩ (.int .i64 ((rd_T46 l0 x7_1).f0))).setCell ⟨gb124, 1, none⟩ (.int .i64 ((rd_T46 l0 x7_1).f1))).setCell ⟨gb124, 2, none⟩ (.string ((rd_T46 l0 x7_1).f2))).setCell ⟨gb124, 3, none⟩ (.slice A123_3 ((rd_T46 l0 x7_1).f3).length c123_3))) := ⟨bws HB.out⟩
       (try clear BK124)
       (try clear HB)
       generalize ((((w27.setCell ⟨gb124, 0, none⟩ (.int .i64 ((rd_T46 l0 x7_1).f0))).setCell ⟨gb124, 1, none⟩ (.int .i64 ((rd_T46 l0 x7_1).f1))).setCell ⟨gb124, 2, none⟩ (.string ((rd_T46 l0 x7_1).f2))).setCell ⟨gb124, 3, none⟩ (.slice A123_3 ((rd_T46 l0 x7_1).f3).length c123_3)) = w29 at n0_ n1_ ⊢
       have BK124 := n0_
       have HB := n1_
       clear n0_ n1_
       replace BK124 := am (blk_drew BK124.out)
       replace HB := am (below_drew1 HB.out)
       refine start_ (n := 18) (S := fun w' => w'.cell? ⟨gb124, 0, none⟩ = some (.int .i64 ((rd_T46 l0 x7_1).f0)) ∧ w'.cell? ⟨gb124, 1, none⟩ = some (.int .i64 ((rd_T46 l0 x7_1).f1)) ∧ w'.cell? ⟨gb124, 2, none⟩ = some (.string ((rd_T46 l0 x7_1).f2)) ∧ w'.cell? ⟨gb124, 3, none⟩ = some (.slice A123_3 ((rd_T46 l0 x7_1).f3).length c123_3)) (ds := []) #[false, false, false, false, false, false, false, false, false, false, false, false, false, false, false, false, false, false] (by kernel_rfl) rfl rfl ⟨(blk_cell BK124.out 0).trans rfl, (blk_cell BK124.out 1).trans rfl, (blk_cell BK124.out 2).trans rfl, (blk_cell BK124.out 3).trans rfl⟩ (fun hHeld => ?_); refine with_tabW parts_right.tab4 parts_right.bits4 (fun HT_ HW_ => ?_)
       generalize w29.drew = w30 at BK124 HB hHeld ⊢
       refine tk 0 (some 12) HT_.out HW_.out hHeld ?_
       refine one_ (i := 1) (N := some 13) #[true, true, false, false, false, false, false, false, false, false, false, false, false, false, false, false, false, false] rfl rfl (one_of HT_.out (by kernel_rfl)) (by decide) (fun K hK => ?_)
       refine goes_ Tryd.func19 (by kernel_rfl) rfl #[.agg #[.int .i64 ((rd_T46 l0 x7_1).f0), .int .i64 ((rd_T46 l0 x7_1).f1), .string ((rd_T46 l0 x7_1).f2), .slice A123_3 ((rd_T46 l0 x7_1).f3).length c123_3]] (by rfl) rfl rfl gl ?_
       with_reducible refine (parts_Check.calls k1 ((rd_T46 l0 x7_1).f0) ((rd_T46 l0 x7_1).f1) ((rd_T46 l0 x7_1).f2) _ _ ((rd_T46 l0 x7_1).f3) t125 _ ?side1 ?side2 A5.out).mono ?_
       (case side1 => exact kC (Kd.C_below HR123_3.out HB.out))
       (case side2 => exact HC123_3.out)
       rintro e w31 ⟨rfl, hb⟩
       refine ⟨_, rfl, ?_⟩
       replace BK124 := bb BK124.out hb
       replace HB := am (below_step (bws HB.out) hb)
       (try clear hb)
       (try clear hb2)
       (try clear hk)
       (try clear hi)
       refine hK.out _ _ ⟨(blk_cell BK124.out 0).trans rfl, (blk_cell BK124.out 1).trans rfl, (blk_cell BK124.out 2).trans rfl, (blk_cell BK124.out 3).trans rfl⟩ (fun hHeld => ?_)
       clear hK K
       refine norm_ (a' := ?_) ?_ ?_
       rotate_left
       ·
        show Act.put _ (some 13) _ = _
        simp only [Act.put, List.setIfInBounds_toArray, List.set_cons_zero, List.set_cons_succ, i64_w, i32_w]
        rfl
       refine pu 2 (some 14) HT_.out ?_
       refine pu 3 (some 15) HT_.out ?_
       refine un 4 (some 16) HT_.out ?_
       refine un 5 (some 17) HT_.out ?_
       refine un 6 (some 18) HT_.out ?_
       refine un 7 (some 19) HT_.out ?_
       refine un 8 (some 20) HT_.out ?_
       refine un 9 (some 21) HT_.out ?_
       refine un 10 (some 22) HT_.out ?_
       refine un 11 (some 23) HT_.out ?_
       refine un 12 (some 24) HT_.out ?_
       refine un 13 (some 25) HT_.out ?_
       refine un 14 (some 26) HT_.out ?_
       refine un 15 (some 27) HT_.out ?_
       refine un 16 (some 28) HT_.out ?_
       refine pu 17 (some 29) HT_.out ?_
       refine done_ (done_of HT_.out (by kernel_rfl)) ?_
       try go_wp2
       go_ret
       exact ⟨rf, bws HB.out⟩
     ·
      exact absurd H (by simp)
    ·
     exact absurd H (by simp)
   ·
    obtain rfl := Option.some.inj H
    go_wp2
    go_ret
    exact ⟨rf, bw HB.out⟩
def parts_find_bs (l : List (S46)) (t : Int) : Nat → Nat → Nat → Nat
 | 0, i, _ => i
 | n + 1, i, j => if i < j then (if wrap64 ((rd_T46 l (((i + j) / 2 : Nat) : Int)).f0 - t) < 0 then parts_find_bs l t n ((i + j) / 2 + 1) j else parts_find_bs l t n i ((i + j) / 2)) else i
def parts_find.f (l0 : List (S46)) (a1 : Int) : Option (Int × Bool) :=
 if l0.length ≤ 4611686018427387904 then some ((parts_find_bs l0 a1 l0.length 0 l0.length : Nat), decide (parts_find_bs l0 a1 l0.length 0 l0.length < l0.length) && wrap64 ((rd_T46 l0 ((parts_find_bs l0 a1 l0.length 0 l0.length : Nat) : Int)).f0 - a1) == 0) else none
set_option maxHeartbeats 1000000 in
theorem parts_find_cmp (x : S46) (A3 : Option Addr) (l3 c3 : Nat) (t : Int) (w : World) :
  Calls Tryd.prog 61 #[.agg #[.int .i64 x.f0, .int .i64 x.f1, .string x.f2, .slice A3 l3 c3], .int .i64 t] w fun e w' => e = .returned (.int .i64 (wrap64 (x.f0 - t))) ∧ Below w.heap.size w w' := by
 go_enter Tryd.func61, Tryd.ntmps61
 go_wp2
 go_ret
 exact ⟨rfl, (Below.refl _ _).alloc (Nat.le_refl _) _⟩
theorem parts_find_bs_stop (l : List (S46)) (t : Int) (n i : Nat) : parts_find_bs l t n i i = i := by
 cases n with
 | zero => rfl
 | succ n => rw [parts_find_bs, if_neg (Nat.lt_irrefl i)]
set_option maxRecDepth 100000 in
set_option maxHeartbeats 4000000 in
theorem parts_find_search (A0 : Option Addr) (c0 : Nat) (l0 : List (S46)) (t : Int) (w : World) (hr0 : Kd.C k46 w A0 l0.length l0) (hc0 : l0.length ≤ c0) (hl : l0.length ≤ 4611686018427387904) (R : Nat) (hR : parts_find_bs l0 t l0.length 0 l0.length = R) :
  Calls Tryd.prog 60 #[.slice A0 l0.length c0, .int .i64 t, .func (.func 61) #[] #[]] w fun e w' => e = .returned (.tuple #[.int .i64 (R : Nat), .bool (decide (R < l0.length) && wrap64 ((rd_T46 l0 ((R : Nat) : Int)).f0 - t) == 0)]) ∧ Below w.heap.size w w' := by
 have HRR := Lib.hid hR
 have HC := Lib.hid hr0
 clear hR hr0
 go_enter Tryd.func60, Tryd.ntmps60
 go_wp2
 go_loopg [9, 10] l0.length (fun kq v9 v10 w' => ∃ (i j : Nat), v9 = .int .i64 (i : Int) ∧ v10 = .int .i64 (j : Int) ∧ i ≤ j ∧ j ≤ l0.length ∧ j - i ≤ kq ∧ Hid (parts_find_bs l0 t kq i j = R) ∧ Hid (Below w.heap.size w w'))
 case atStart => exact ⟨0, l0.length, rfl, rfl, Nat.zero_le _, Nat.le_refl _, by omega, HRR, Lib.hid (Below.refl _ _)⟩
 case round =>
  obtain ⟨i, j, rfl, rfl, hij, hjn, hk, HA, HB⟩ := hrel
  by_cases hlt : i < j
  ·
   cases gk with
   | zero => exact absurd hk (by omega)
   | succ k1 =>
    have e1 : decide ((i : Int) < (j : Int)) = true := decide_eq_true (by omega)
    have H := HA.out
    rw [parts_find_bs, if_pos hlt] at H
    have e2 : IntKind.i64.wrap ((i : Int) + (j : Int)) = ((i + j : Nat) : Int) := by rw [IntWalk.i64_in _ (by omega)]; omega
    rw [show (((i + j) / 2 : Nat) : Int) = ((i : Int) + (j : Int)) / 2 by omega] at H
    obtain ⟨c, hc⟩ : ∃ c, wrap64 ((rd_T46 l0 (((i : Int) + (j : Int)) / 2)).f0 - t) = c := ⟨_, rfl⟩
    rw [hc] at H
    have HA := Lib.hid H
    have hc := Lib.hid hc
    clear H
    have hh1 : i ≤ (i + j) / 2 := by omega
    have hh2 : (i + j) / 2 < j := by omega
    obtain ⟨ad, A3, c3, e, x0, x1, x2, x3, _, _⟩ := at_T46 HC.out (((i + j) / 2 : Nat) : Int) (by omega) (by omega)
    rw [Int.toNat_natCast] at x0 x1 x2 x3
    cases e
    replace x0 := bc HB.out x0
    replace x1 := bc HB.out x1
    replace x2 := bc HB.out x2
    replace x3 := bc HB.out x3
    go_wp2_with (go_at_call 61; refine (parts_find_cmp (rd_T46 l0 (((i : Int) + (j : Int)) / 2)) A3 _ c3 t _).mono ?_; rw [hc.out]; rintro e w' ⟨rfl, hb⟩)
    ·
     have H := HA.out
     have hlt : c < 0 := by assumption
     rw [if_pos hlt] at H
     go_roundg k1
     case measure => omega
     case rel => exact ⟨(i + j) / 2 + 1, j, congrArg (Value.int .i64) (by omega), rfl, by omega, hjn, by omega, Lib.hid H, Lib.hid (HB.out.trans (hb.mono HB.out.size))⟩
    ·
     have H := HA.out
     have hlt : ¬ c < 0 := by omega
     rw [if_neg hlt] at H
     go_roundg k1
     case measure => omega
     case rel => exact ⟨i, (i + j) / 2, rfl, congrArg (Value.int .i64) (by omega), by omega, by omega, by omega, Lib.hid H, Lib.hid (HB.out.trans (hb.mono HB.out.size))⟩
  ·
   have e1 : decide ((i : Int) < (j : Int)) = false := decide_eq_false (by omega)
   obtain rfl : i = j := by omega
   have H := HA.out
   rw [parts_find_bs_stop] at H
   subst H
   by_cases hi : i < l0.length
   ·
    obtain ⟨ad, A3, c3, e, x0, x1, x2, x3, _, _⟩ := at_T46 HC.out (i : Int) (by omega) (by omega)
    rw [Int.toNat_natCast] at x0 x1 x2 x3
    cases e
    replace x0 := bc HB.out x0
    replace x1 := bc HB.out x1
    replace x2 := bc HB.out x2
    replace x3 := bc HB.out x3
    have hd : decide (i < l0.length) = true := decide_eq_true hi
    go_wp2_with (go_at_call 61; refine (parts_find_cmp (rd_T46 l0 (i : Int)) A3 _ c3 t _).mono ?_; rintro e w' ⟨rfl, hb⟩)
    go_ret2
    refine ⟨?_, HB.out.trans (hb.mono HB.out.size)⟩
    simp [hi]
   ·
    have hd : decide (i < l0.length) = false := decide_eq_false hi
    go_wp2
    go_ret2
    refine ⟨?_, HB.out⟩
    simp [hi]
theorem parts_find.calls (A0 : Option Addr) (c0 : Nat) (l0 : List (S46)) (a1 : Int) (r1 : Int) (r2 : Bool) (w : World) (hr0 : Kd.C k46 w A0 l0.length l0) (hc0 : l0.length ≤ c0) (h : parts_find.f l0 a1 = some (r1, r2)) :
  Calls Tryd.prog 30 #[.slice A0 l0.length c0, .int .i64 a1] w fun e w' => e = .returned (.tuple #[.int .i64 r1, .bool r2]) ∧ Below w.heap.size w w' := by
 unfold parts_find.f at h
 split at h
 ·
  rename_i hl
  cases h
  have hS := parts_find_search A0 c0 l0 a1 w hr0 hc0 hl _ rfl
  obtain ⟨R, hR⟩ : ∃ R, parts_find_bs l0 a1 l0.length 0 l0.length = R := ⟨_, rfl⟩
  rw [hR] at hS ⊢
  clear hR
  obtain ⟨B, hB⟩ : ∃ B, (decide (R < l0.length) && wrap64 ((rd_T46 l0 ((R : Nat) : Int)).f0 - a1) == 0) = B := ⟨_, rfl⟩
  rw [hB] at hS ⊢
  clear hB
  go_enter Tryd.func30, Tryd.ntmps30
  go_wp2_with (go_at_call 60; refine hS.mono ?_; rintro e w' ⟨rfl, hb⟩)
  go_ret2
  exact ⟨rfl, hb⟩
 ·
  cases h
def digest_Hex.f (a0 : ByteArray) : Option ByteArray := Sha.hexF a0
theorem digest_Hex.calls (a0 : ByteArray) (r : ByteArray) (w : World) (h : digest_Hex.f a0 = some r) :
  Calls Tryd.prog 31 #[.string a0] w fun e w' => e = .returned (.string r) ∧ Below w.heap.size w w' := by
 unfold digest_Hex.f Sha.hexF at h
 split at h
 ·
  rename_i hc
  cases h
  exact Sha.Hex a0 hc w
 ·
  cases h
def digest_Tagged.f (a0 : Int) (l1 : List ByteArray) : Option ByteArray := Sha.tagF a0 l1
theorem digest_Tagged.calls (a0 : Int) (A1 : Option Addr) (c1 : Nat) (l1 : List ByteArray) (r : ByteArray) (w : World) (hr1 : Kd.C Kd.string w A1 l1.length l1) (hc1 : l1.length ≤ c1) (h : digest_Tagged.f a0 l1 = some r) (hG : GG w) :
  Calls Tryd.prog 32 #[.int .u8 a0, .slice A1 l1.length c1] w fun e w' => e = .returned (.string r) ∧ Below w.heap.size w w' := by
 unfold digest_Tagged.f Sha.tagF at h
 split at h
 ·
  rename_i hc
  cases h
  rw [Sha.Y_int a0 hc.1 hc.2.1]
  exact Sha.Tagged _ A1 c1 l1 w hr1 hc1 hc.2.2 hG
 ·
  cases h
end Go.Proofs.YtoiockmmlanimaaDoor.Op
end
