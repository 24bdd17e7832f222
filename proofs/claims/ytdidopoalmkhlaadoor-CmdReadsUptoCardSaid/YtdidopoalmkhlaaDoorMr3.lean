/- Merged of several texts of this session's by merge.py. -/
import Derived.ChangeArms
import Derived.Deep.Slices
import Derived.Test.YtdidopoalmkhlaaDoorMr1
import Derived.Test.YtdidopoalmkhlaaDoorRows
import Derived.ArgAppend
import Derived.Below
import Derived.BigQuiet
import Derived.Deep.AppendLies
import Derived.Deep.CutBlock
import Derived.Deep.DeepCutAuto
import Derived.Deep.Draws
import Derived.Deep.LoopGhost
import Derived.Deep.OwnRows
import Derived.Deep.QuietTactic
import Derived.Deep.RegionHeld3
import Derived.KernelRfl
import Derived.Laws.BytesArg
import Derived.Laws.IdiomCopy
import Derived.Laws.MakeOwn
import Derived.Laws.OwnMore
import Derived.Laws.Rows
import Derived.Laws.Slices
import Derived.Lib.AppendStr
import Derived.Lib.ConvBytes
import Derived.Maps.AppendAt
import Derived.OwnWalk
import Derived.RowKit
import Derived.RowKit3
import Derived.Tactics
import Derived.WalkKit
import Derived.WideLaws
import Derived.ProofKit
import Derived.LaidMore
import Derived.OpenShut
import Derived.HandedShaped
import Derived.Test.YtdidopoalmkhlaaDoorMr2
import Derived.Shelf.Strings.Search1
import Derived.Shelf.Strings.Search2
import Derived.Shelf.Strings.Search3
import Derived.Shelf.LaysM
import Derived.Shelf.Strings.Shaped
import Derived.Test.YtdidopoalmkhlaaDoorProg
import Derived.OrdersHeld
import Derived.Laws.BitsLemmas
import Derived.Lib.Hide
import Derived.IntWalk
import Derived.Lib.LazyBuf
import Derived.Lib.SliceRun
import Derived.Lib.Walk
section
namespace Go.Proofs.YtdidopoalmkhlaaDoor.KO
open Go.Proofs.YtdidopoalmkhlaaDoorW.PrintWords Go.Deep
def WT {H : Type} (P : Program) (t : TypeId) (x : DataW H) : Prop := ∀ m ∈ DataW.weights P t x, m ≤ reachBytes
structure Opens (P : Program) (t : TypeId) {α : Type} (d : Kd α) (L : α → Prop) (bk : α → Nat) : Prop where
 out : ∀ {H : Type} (enc : TypeId × Value → H) (w : World) (base : Nat) (spare : Nat → Bool) (held : Bool) (fuel : Nat) (cs : List Value) (x : DataW H × List MemPlace),
  DataW.trod enc P w base spare held fuel t cs = some x → ∃ y, d.K w y cs ∧ (WT P t x.1 → L y) ∧ bk y ≤ Rows.uptoBulk x.1
theorem add_add (a : Addr) (i j : Nat) : (a.add i).add j = a.add (i + j) := by
 unfold Addr.add
 by_cases h0 : i = 0
 ·
  subst h0; simp
 ·
  by_cases h1 : j = 0
  ·
   subst h1; simp
  ·
   rw [if_neg h1, if_neg h0, if_neg (by omega)]
   simp [Nat.add_assoc]
structure OpensFs (P : Program) (off : Nat) (fs : List Field) (tot : Nat) {α : Type} (d : Kd α) (L : α → Prop) (bk : α → Nat) : Prop where
 out : ∀ {H : Type} (enc : TypeId × Value → H) (w : World) (base : Nat) (spare : Nat → Bool) (held : Bool) (fuel : Nat) (cs : List Value) (xs : List (DataW H × List MemPlace)),
  xs.length = fs.length → (∀ (i : Nat) (f : Field), fs[i]? = some f → DataW.trod enc P w base spare held fuel f.type ((cs.drop f.offset).take (P.cellsOf f.type)) = xs[i]?) → cs.length = tot →
  ∃ y, d.K w y (cs.drop off) ∧ ((∀ m ∈ DataW.weightsEach P (fs.map (·.type)) (xs.map (·.1)), m ≤ reachBytes) → L y) ∧ bk y ≤ Rows.uptoBulkAll (xs.map (·.1))
end Go.Proofs.YtdidopoalmkhlaaDoor.KO
end
section
namespace Go.Proofs.YtdidopoalmkhlaaDoorW.PrintWords
open Go Go.RowKit
theorem bc {w W : World} {a : Addr} {v : Value} (h : Below w.heap.size w W) (hx : w.cell? a = some v) : W.cell? a = some v := (h.cell (World.block_lt_of_cell? w _ hx)).trans hx
theorem bw {p q : Prop} (h : p) (t : p → q := by intro h; repeat (first | (with_reducible first | exact h | apply below_alloc | apply pw_below_drewN | apply below_drew1) | exact h)) : q := t h
theorem bws {p q : Prop} (h : p) (t : p → q := by intro h; repeat (first | (with_reducible first | exact h | apply below_alloc | apply pw_below_drewN | apply below_drew1 | refine below_set ?_ (Aside0.out (by assumption))) | exact h)) : q := t h
theorem bk {p q : Prop} (h : p) (t : p → q := by intro h; (with_reducible repeat (first | refine blk_drewN ?_ _ | refine blk_drew ?_ | refine blk_alloc ?_ _)); exact h) : q := t h
theorem bkp {p q : Prop} (h : p) (t : p → q := by intro h; (with_reducible repeat (first | exact h | refine blk_drewN ?_ _ | refine blk_drew ?_ | refine blk_alloc ?_ _ | apply blk_put | refine blk_far ?_ (Aside0.out (by assumption)) _)); all_goals first | exact h | rfl) : q := t h
theorem kR {p q : Prop} (h : p) (t : p → q := by intro h; (with_reducible repeat (first | apply Kd.R_alloc | apply Kd.R_drewN | apply Kd.R_drew)); exact h) : q := t h
theorem kC {p q : Prop} (h : p) (t : p → q := by intro h; repeat (first | exact h | (with_reducible refine Kd.C_alloc ?_ _) | (with_reducible refine Kd.C_drewN ?_ _) | (with_reducible refine Kd.C_drew ?_))) : q := t h
theorem asm {q : Prop} (t : q := by first | (with_reducible assumption) | assumption) : q := t
theorem gl {q : Prop} (t : q := by (try simp only [List.map_toArray, List.map_cons, List.map_nil]); first | done | rfl | (simp only [List.length_drop, List.length_take]; rfl) | (rw [IntKind.wrap_u64, Int.emod_eq_of_lt (by omega) (by omega)]; rfl)) : q := t
end Go.Proofs.YtdidopoalmkhlaaDoorW.PrintWords
namespace Go.Proofs.YtdidopoalmkhlaaDoorW.PrintLast
open Go Go.RowKit Go.Proofs.YtdidopoalmkhlaaDoorW.PrintWords
section
variable {P : Program} {ops : Array Oper} {Q : Exit → Act → World → Prop} {md : Region.Mode} {S : World → Prop} {ds : List Nat} {T : Bool × List (List Nat × List Nat)}
theorem pu (i : Nat) (N : Option Tmp) {oi : Oper} {v : Value} {fuel : Nat} {l : Array Bool} {a a' : Act} {w : World} (hT : rtab md ops = T) (h : wpAnyLast P md ops Q S ds fuel (l.setIfInBounds i true) a' w) (hi : ops[i]? = some oi := by exact rfl) (hN : oi.dst = N := by exact rfl) (hc : anyT T l.toList (l.setIfInBounds i true).toList i = true := by kernel_rfl)
  (hQ : ∀ c a w, Q (.panic c) (a.put oi.dst v) w → Q (.panic c) a w := by exact fun _ _ _ h => h) (hg : Region.wanted oi (yielded ops a.tmps) = true := by rfl) (hy : ∀ w, (execOp a.eval oi).run P w = .ok (.value v) w := by intro w'; go_simp; with_reducible rfl)
  (ha : a.put N v = a' := by simp only [Act.put, List.setIfInBounds_toArray, List.set_cons_zero, List.set_cons_succ, i64_w, i32_w]; rfl) : wpAnyLast P md ops Q S ds (fuel + 1) l a w := pure_ _ hi hN (any_of hT hc) hQ (.inl ⟨hg, hy⟩) ha h
theorem un (i : Nat) (N : Option Tmp) {oi : Oper} {fuel : Nat} {l : Array Bool} {a a' : Act} {w : World} (hT : rtab md ops = T) (h : wpAnyLast P md ops Q S ds fuel (l.setIfInBounds i true) a' w) (hi : ops[i]? = some oi := by exact rfl) (hN : oi.dst = N := by exact rfl) (hc : anyT T l.toList (l.setIfInBounds i true).toList i = true := by kernel_rfl)
  (hQ : ∀ c a w, Q (.panic c) (a.put oi.dst undef) w → Q (.panic c) a w := by exact fun _ _ _ h => h) (hg : Region.wanted oi (yielded ops a.tmps) = false := by rfl)
  (ha : a.put N undef = a' := by simp only [Act.put, List.setIfInBounds_toArray, List.set_cons_zero, List.set_cons_succ, i64_w, i32_w]; rfl) : wpAnyLast P md ops Q S ds (fuel + 1) l a w := pure_ _ hi hN (any_of hT hc) hQ (.inr ⟨hg, rfl⟩) ha h
theorem tk (i : Nat) (N : Option Tmp) {oi : Oper} {v : Value} {fuel : Nat} {l : Array Bool} {a a' : Act} {w : World} {B : List Nat} (hT : rtab md ops = T) (hB : waitsOk T.2 B = true) (hS : S w) (h : wpAnyLast P md ops Q S ds fuel (l.setIfInBounds i true) a' w) (hi : ops[i]? = some oi := by exact rfl) (hN : oi.dst = N := by exact rfl) (hc : takeW T B ds l.toList (l.setIfInBounds i true).toList i = true := by kernel_rfl)
  (hQ : ∀ c a w, Q (.panic c) (a.put oi.dst v) w → Q (.panic c) a w := by exact fun _ _ _ h => h) (hg : Region.wanted oi (yielded ops a.tmps) = true := by rfl) (hy : ∀ w, S w → (execOp a.eval oi).run P w = .ok (.value v) w := by intro w' hs; (repeat (have s := And.left hs; replace hs := And.right hs)); go_simp; with_reducible rfl)
  (ha : a.put N v = a' := by simp only [Act.put, List.setIfInBounds_toArray, List.set_cons_zero, List.set_cons_succ, i64_w, i32_w]; rfl) : wpAnyLast P md ops Q S ds (fuel + 1) l a w := take_ _ hi hN (take_ofW hT hB hc) hQ (.inl ⟨hg, hy⟩) hS ha h
end
end Go.Proofs.YtdidopoalmkhlaaDoorW.PrintLast
end
section
set_option linter.unusedVariables false
set_option linter.unusedSimpArgs false
namespace Go.Proofs.YtdidopoalmkhlaaDoorW.PrintWords
open Go.RowKit
section
variable {P : Program} {ops : Array Oper} {rest : List Oper} {o : Oper} {a : Act} {Q : Exit → Act → World → Prop}
end
section
variable {P : Program}
end
section
variable {P : Program} {ops : Array Oper} {rest : List Oper} {o : Oper} {a : Act} {Q : Exit → Act → World → Prop}
end
section
variable {P : Program} {ops : Array Oper} {rest : List Oper} {o : Oper} {a : Act} {Q : Exit → Act → World → Prop}
end
section
variable {P : Program} {ops : Array Oper} {o : Oper} {a : Act} {Q : Exit → Act → World → Prop} {K : Act → World → Prop}
end
section
variable {α : Type} {enc : α → Value} {d : α}
end
section
variable {α : Type} {P : Program} {ops : Array Oper} {rest : List Oper} {o : Oper} {a : Act} {Q : Exit → Act → World → Prop}
end
section
variable {P : Program}
end
section
variable {α : Type} {R R' : α → List Value → Prop} {e : TypeId} {size : Nat} {w w1 : World} {base : Nat} {v : Value} {ps : List α}
end
section
variable {P : Program} {ops : Array Oper} {rest : List Oper} {o : Oper} {a : Act} {Q : Exit → Act → World → Prop} {α : Type} {R : α → List Value → Prop}
end
section
variable {P : Program} {ops : Array Oper} {o : Oper} {a : Act} {Q : Exit → Act → World → Prop} {K : Act → World → Prop} {α : Type} {R : α → List Value → Prop}
end
section
variable {α : Type} {P : Program}
end
section
variable {P : Program} {ops : Array Oper} {rest : List Oper} {o : Oper} {a : Act} {Q : Exit → Act → World → Prop}
end
namespace Kd
section
variable {α : Type} {d : Kd α} {e : Nat} {w w1 : World} {base : Nat} {ok ok' : Nat → Prop} {v : Value} {xs : List α}
end
section
variable {P : Program} {ops : Array Oper} {rest : List Oper} {o : Oper} {a : Act} {Q : Exit → Act → World → Prop} {α : Type}
end
section
variable {P : Program} {ops : Array Oper} {o : Oper} {a : Act} {Q : Exit → Act → World → Prop} {Kc : Act → World → Prop} {α : Type}
end
end Kd
namespace Kd
section
variable {α : Type} {F : Kd α → Kd α} {sz : Nat} {E : List Nat} {hs : ∀ n, (upto F sz E n).sz = sz} {hE : ∀ n q, q ∈ (upto F sz E n).E → q ∈ E}
end
end Kd
namespace Kd
end Kd
namespace Kd
section
variable {α β : Type} {d : Kd α} {d' : Kd β} {e e' : Nat} {w w1 W : World} {base b b' : Nat} {ok ok' okv oku : Nat → Prop} {v u : Value} {xs : List α} {ys : List β}
end
section
variable {w W : World} {A : Option Addr} {n : Nat}
variable {α : Type} {enc : α → Value} {h1 : ∀ x, (enc x).oneCell' = true} {e base g cap : Nat} {ok : Nat → Prop} {xs : List α}
end
section
variable {P : Program} {ops : Array Oper} {rest : List Oper} {o : Oper} {a : Act} {Q : Exit → Act → World → Prop}
variable {α : Type}
end
end Kd
section
variable {P : Program}
end
section
variable {w w1 : World} {base n size : Nat} {e : TypeId} {v : Value} {xs : List Value}
end
section
variable {P : Program}
end
namespace Kd
section
variable {α : Type} {d : Kd α} {e : Nat} {w w1 W : World} {base : Nat} {ok ok' : Nat → Prop} {v : Value} {xs : List α}
end
section
variable {P : Program} {ops : Array Oper} {rest : List Oper} {o : Oper} {a : Act} {Q' : Exit → Act → World → Prop} {Kc : Act → World → Prop} {α : Type}
end
end Kd
namespace Kd
section
variable {α : Type} {d : Kd α} {e e' : Nat} {w w1 W : World} {base : Nat} {ok : Nat → Prop} {u v : Value} {xs : List α}
end
end Kd
namespace Kd
section
variable {α : Type} {d : Kd α} {e base g n cap : Nat} {ok okp : Nat → Prop} {W : World} {xs : List α}
end
end Kd
namespace Kd
section
variable {α : Type} {F : Kd α → Kd α} {sz : Nat} {E : List Nat} {hs : ∀ n, (upto F sz E n).sz = sz} {hE : ∀ n q, q ∈ (upto F sz E n).E → q ∈ E}
end
end Kd
namespace Kd
section
variable {P : Program} {ops : Array Oper} {rest : List Oper} {o : Oper} {a : Act} {Q : Exit → Act → World → Prop} {α : Type}
end
end Kd
namespace Kd
section
variable {P : Program} {ops : Array Oper} {rest : List Oper} {o : Oper} {a : Act} {Q : Exit → Act → World → Prop} {α : Type}
end
end Kd
namespace Kd
section
variable {α : Type} {k : Kd α} {w : World} {A : Option Addr} {xs : List α} {m c : Nat}
end
end Kd
section
variable {P : Program}
end
namespace Kd
section
variable {α β : Type} {d : Kd α} {d' : Kd β} {e e' base base' n : Nat} {ok ok' : Nat → Prop} {w W w1 W1 : World} {v u : Value} {xs : List α} {ys : List β} {A : Option Addr} {c : Nat}
end
section
variable {α : Type} {enc : α → Value} {h1 : ∀ x, (enc x).oneCell' = true} {w W : World} {A : Option Addr} {n g : Nat} {xs : List α}
end
end Kd
namespace Kd
section
variable {α : Type} {d : Kd α} {e base g : Nat} {ok : Nat → Prop} {w w1 : World} {v : Value} {xs : List α} {o : Obj}
end
end Kd
section
variable {P : Program} {ops : Array Oper} {rest : List Oper} {o : Oper} {a : Act} {Q : Exit → Act → World → Prop}
end
namespace Kd
section
variable {α : Type} {enc : α → Value} {h1 : ∀ x, (enc x).oneCell' = true} {e base g n cap : Nat} {ok : Nat → Prop} {W : World} {xs : List α}
end
end Kd
section
variable {P : Program} {ops : Array Oper} {rest : List Oper} {o : Oper} {a : Act} {Q : Exit → Act → World → Prop}
end
namespace Kd
section
variable {α : Type} {enc : α → Value} {h1 : ∀ x, (enc x).oneCell' = true} {e base g n cap : Nat} {ok : Nat → Prop} {W : World} {xs : List α}
end
end Kd
section
variable {P : Program} {ops : Array Oper} {rest : List Oper} {o : Oper} {a : Act} {Q : Exit → Act → World → Prop} {W : World}
end
section
variable {P : Program} {ops : Array Oper} {o : Oper} {a : Act} {Q : Exit → Act → World → Prop} {Kc : Act → World → Prop}
namespace Kd
variable {α : Type}
end Kd
end
section
variable {P : Program} {tmps : Array Value} {w : World}
end
namespace Kd
section
variable {P : Program} {α : Type}
end
section
variable {P : Program} {ops : Array Oper} {rest : List Oper} {o : Oper} {a : Act} {Q : Exit → Act → World → Prop} {Kc : Act → World → Prop} {α : Type}
end
end Kd
end Go.Proofs.YtdidopoalmkhlaaDoorW.PrintWords
namespace Go.Proofs.YtdidopoalmkhlaaDoorW.PrintWords
open Go.RowKit
namespace Foot
variable {P Q : World → Prop} {W W1 : World} {ok ok' : Nat → Prop}
end Foot
namespace Kd
section
variable {α β : Type} {d : Kd α} {e base n n' cc g N : Nat} {ok ok' okp S : Nat → Prop} {w w0 w1 W W1 : World} {A A' : Option Addr} {u v v1 : Value} {xs : List α} {xs' : List β} {d' : Kd β} {x : α} {c : List Value}
theorem F_now (h : F d W ok A n xs) : d.C W A n xs := Foot.now h
theorem F_mono (h : F d W ok A n xs) (hok : ∀ k, ok k → ok' k) : F d W ok' A n xs := Foot.mono h hok
theorem F_bound (h : F d W ok A n xs) : F d W (fun k => ok k ∧ k < W.heap.size) A n xs := Foot.bound h
theorem R_F (h : d.R e W base ok (.slice A n cc) xs) : F d W ok A n xs := fun W' hW => by
 have h2 := R_reads' (R_step h hW)
 rw [h2.1]
 exact h2.2.2
end
end Kd
end Go.Proofs.YtdidopoalmkhlaaDoorW.PrintWords
namespace Go.Proofs.YtdidopoalmkhlaaDoorW.PrintMore
open Go.RowKit Go.Proofs.YtdidopoalmkhlaaDoorW.PrintWords
namespace Kd
open Go.Proofs.YtdidopoalmkhlaaDoorW.PrintWords.Kd
end Kd
namespace Kd
open Go.Proofs.YtdidopoalmkhlaaDoorW.PrintWords.Kd
section
variable {α : Type} {d : Kd α} {e base g N : Nat} {ok : Nat → Prop} {W w1 : World} {u v : Value} {xs : List α}
end
end Kd
end Go.Proofs.YtdidopoalmkhlaaDoorW.PrintMore
namespace Go.Proofs.YtdidopoalmkhlaaDoorW.PrintWords
open Go.RowKit
section
variable {P : Program} {ops : Array Oper} {rest : List Oper} {o : Oper} {a : Act} {Q : Exit → Act → World → Prop} {W : World}
end
namespace Kd
section
variable {α : Type} {d : Kd α} {e base : Nat} {ok : Nat → Prop} {W w1 : World} {v : Value} {xs : List α}
end
section
variable {α : Type} {d : Kd α} {e base g n cap : Nat} {ok oki okp : Nat → Prop} {W : World} {xs : List α} {i : Int} {c : List Value}
end
section
variable {α : Type} {d : Kd α} {e base b b' g N : Nat} {ok ok1 : Nat → Prop} {W W2 w1 : World} {u v : Value} {xs ys : List α} {S : Nat → Prop}
end
end Kd
end Go.Proofs.YtdidopoalmkhlaaDoorW.PrintWords
namespace Go.Proofs.YtdidopoalmkhlaaDoorW.PrintWords
open Go.RowKit
namespace Kd
section
variable {α β : Type} {d : Kd α} {e base base' n m c g N' lo hi : Nat} {ok ok' S : Nat → Prop} {w W w1 : World} {A : Option Addr} {ad : Addr} {u v v1 : Value} {xs : List α}
theorem V_at (h : V d e W base ok (.slice A n c) xs) : n = xs.length ∧ n ≤ c ∧ F d W ok A xs.length xs := by
 obtain ⟨A', c', hv, hl, hf⟩ := h
 injection hv with ha hn hc
 subst ha; subst hc
 exact ⟨hn, by rw [hn]; exact hl, hf⟩
theorem V_reads' (h : V d e W base ok (.slice A n c) xs) : n = xs.length ∧ n ≤ c ∧ d.C W A xs.length xs := ⟨(V_at h).1, (V_at h).2.1, F_now (V_at h).2.2⟩
theorem R_V (h : d.R e W base ok v xs) : V d e W base' ok v xs := by
 obtain ⟨A, c, rfl⟩ := R_slice h
 exact ⟨A, c, rfl, (R_reads' h).2.1, R_F h⟩
theorem V_mono (h : V d e W base ok v xs) (hok : ∀ k, ok k → ok' k) : V d e W base ok' v xs := V_map h (fun _ hf => F_mono hf hok)
theorem V_below (h : V d e W base ok v xs) (hb : Below W.heap.size W w1) : V d e w1 base ok v xs := V_map h (fun _ hf => F_below hf hb)
end
end Kd
end Go.Proofs.YtdidopoalmkhlaaDoorW.PrintWords
end
section
namespace Go.Proofs.YtdidopoalmkhlaaDoor.KO
open Go Go.RowKit Go.Proofs.YtdidopoalmkhlaaDoorW.PrintWords
structure Out where
 f0 : Int
 f1 : Int
 f2 : ByteArray
def kOut : Kd Out := Kd.iso (Kd.pair (Kd.int .i64) (Kd.pair (Kd.int .i64) Kd.string)) (fun x : Out => (x.f0, x.f1, x.f2))
theorem table_of_laid {W : World} (h : laidMetH Tryd.prog Rows.cmdReadsRow.laid W) : Sha.table W := by
 rw [MakeChecks.laidMetH_plain _ _ _ (by kernel_rfl)] at h
 obtain ⟨ps, ⟨g, t, cs, fuel, p, q, hg, ht, hv, hd, _, _⟩, _, _⟩ := h
 obtain rfl := Option.some.inj ((show Tryd.prog.globalNamed "stowage/digest.rounds" = some 0 by kernel_rfl).symm.trans hg)
 obtain rfl := Option.some.inj ((show (Tryd.prog.globals[0]?).map (·.type) = some 140 by kernel_rfl).symm.trans ht)
 obtain ⟨xs, m, _, ex, _, hl, hel⟩ := DataW.trod_array Tryd.underlying140 hd
 have c5 : Tryd.prog.cellsOf 131 = 1 := by kernel_rfl
 have hdat : (Rows.laid_stowage_digest_rounds : DataW Unit) = .agg (Sha.Ks.map fun x => .lit (.int .u32 (x.toNat : Int))) := by kernel_rfl
 have hlen : Sha.Ks.length = 64 := by kernel_rfl
 have e3 : xs.map (·.1) = Sha.Ks.map fun x => (.lit (.int .u32 (x.toNat : Int)) : DataW Unit) := (DataW.agg.inj (hdat.symm.trans (Prod.mk.inj ex).1)).symm
 have key : ∀ r, r < 64 → W.cell? ⟨0, r, none⟩ = some (Sha.U (Sha.Ks.getD r 0)) := by
  intro r hr
  have hE := hel r hr
  rw [c5, Nat.mul_one, List.getElem?_eq_getElem (by omega)] at hE
  obtain ⟨z, e1, e2, _⟩ := DataW.trod_int Tryd.underlying131 hE
  have e4 : (xs.map (·.1))[r]? = (Sha.Ks.map fun x => (.lit (.int .u32 (x.toNat : Int)) : DataW Unit))[r]? := by rw [e3]
  rw [List.getElem?_map, List.getElem?_map, List.getElem?_eq_getElem (by omega : r < xs.length), List.getElem?_eq_getElem (by omega : r < Sha.Ks.length), e2] at e4
  have hz : z = ((Sha.Ks.getD r 0).toNat : Int) := by
   simp only [Option.map_some, Option.some.injEq, DataW.lit.injEq, Lit.int.injEq, true_and] at e4
   rw [e4, List.getD, List.getElem?_eq_getElem (by omega : r < Sha.Ks.length)]
   rfl
  rw [World.var?_cell hg hv r, Sha.U_def, ← hz]
  have : cs.toList[r]? = some (.int .u32 z) := by
   have h0 : ((cs.toList.drop r).take 1)[0]? = some (.int .u32 z) := by rw [e1]; rfl
   simpa using h0
  simpa using this
 have h0 := key 0 (by omega)
 cases hh : W.heap[0]? with
 | none => simp [World.cell?, hh] at h0
 | some ob =>
  cases ob with
  | cells c t fr =>
   refine ⟨c, t, fr, hh, fun i hi => ?_⟩
   rw [← key i hi, cell_of_row W 0 i c t fr hh]
  | _ => simp [World.cell?, hh] at h0
end Go.Proofs.YtdidopoalmkhlaaDoor.KO
end
section
/-
 DERIVED: THE SHELF's CONTRACTS AT THIS DUMP, IN PLAIN WORDS (tools/lay-plain.mjs out of 'YtdidopoalmkhlaaDoorShelfRaw.lean', which tools/lay-shelf.mjs wrote): THE SAME DECLARATIONS UNDER THE SAME NAMES: 'import', 'namespace', 'open', 'def', 'theorem' AND NOTHING ELSE: no command of the shelf's: FOR A HAND-IN. Each laying: the table of numbers ('.._ren') and one theorem, a field a fact of the dump's own or the kernel's comparison; each contract: ONE APPLICATION.
-/
namespace Go.Proofs
open Go.Shelf
def Tryd.lays217_ren : Go.Shelf.Ren := ⟨fun | 217 => 94 | 266 => 98 | n => n, fun | 9 => 9 | 5 => 5 | 3 => 3 | n => n, fun | n => n⟩
def Tryd.lays224_ren : Go.Shelf.Ren := ⟨fun | 224 => 96 | n => n, fun | 3 => 3 | n => n, fun | n => n⟩
def Tryd.lays314_ren : Go.Shelf.Ren := ⟨fun | 314 => 99 | n => n, fun | 9 => 9 | 51 => 131 | 3 => 3 | 4 => 4 | 5 => 5 | 46 => 102 | n => n, fun | n => n⟩
def Tryd.lays267_ren : Go.Shelf.Ren := ⟨fun | 267 => 97 | 314 => 99 | n => n, fun | 9 => 9 | 3 => 3 | 146 => 146 | 51 => 131 | 4 => 4 | 5 => 5 | 46 => 102 | n => n, fun | n => n⟩
def Tryd.lays219_ren : Go.Shelf.Ren := ⟨fun | 219 => 93 | 217 => 94 | 225 => 95 | 224 => 96 | 267 => 97 | 266 => 98 | 314 => 99 | n => n, fun | 9 => 9 | 3 => 3 | 4 => 4 | 5 => 5 | 46 => 102 | 146 => 146 | 51 => 131 | n => n, fun | 1 => 1 | n => n⟩
def Tryd.lays143_ren : Go.Shelf.Ren := ⟨fun | 143 => 88 | 219 => 93 | 217 => 94 | 225 => 95 | 224 => 96 | 267 => 97 | 266 => 98 | 314 => 99 | n => n, fun | 9 => 9 | 3 => 3 | 4 => 4 | 5 => 5 | 46 => 102 | 146 => 146 | 51 => 131 | n => n, fun | 1 => 1 | n => n⟩
def Tryd.lays144_ren : Go.Shelf.Ren := ⟨fun | 144 => 74 | 143 => 88 | 219 => 93 | 217 => 94 | 225 => 95 | 224 => 96 | 267 => 97 | 266 => 98 | 314 => 99 | n => n, fun | 9 => 9 | 4 => 4 | 3 => 3 | 5 => 5 | 46 => 102 | 146 => 146 | 51 => 131 | n => n, fun | 1 => 1 | n => n⟩
theorem Tryd.lays144 : Go.Proofs.Lays.n144 Tryd.prog Tryd.lays144_ren := {
 mixed := by kernel_rfl
 f143 := Tryd.func88.trans (congrArg some (by kernel_rfl))
 f144 := Tryd.func74.trans (congrArg some (by kernel_rfl))
 f217 := Tryd.func94.trans (congrArg some (by kernel_rfl))
 f219 := Tryd.func93.trans (congrArg some (by kernel_rfl))
 f224 := Tryd.func96.trans (congrArg some (by kernel_rfl))
 f225 := Tryd.func95.trans (congrArg some (by kernel_rfl))
 f266 := Tryd.func98.trans (congrArg some (by kernel_rfl))
 f267 := Tryd.func97.trans (congrArg some (by kernel_rfl))
 f314 := Tryd.func99.trans (congrArg some (by kernel_rfl))
 t3 := Tryd.underlying3
 a3 := Tryd.isAgg3
 z3 := Tryd.sizeOf3
 v3 := Tryd.zeroValue3
 t4 := Tryd.underlying4
 a4 := Tryd.isAgg4
 z4 := Tryd.sizeOf4
 v4 := Tryd.zeroValue4
 t5 := Tryd.underlying5
 a5 := Tryd.isAgg5
 z5 := Tryd.sizeOf5
 v5 := Tryd.zeroValue5
 t9 := Tryd.underlying9
 a9 := Tryd.isAgg9
 z9 := Tryd.sizeOf9
 v9 := Tryd.zeroValue9
 t46 := Tryd.underlying102
 a46 := Tryd.isAgg102
 z46 := Tryd.sizeOf102
 v46 := Tryd.zeroValue102
 t51 := Tryd.underlying131
 a51 := Tryd.isAgg131
 z51 := Tryd.sizeOf131
 v51 := Tryd.zeroValue131
 t146 := Tryd.underlying146
 a146 := Tryd.isAgg146
 z146 := Tryd.sizeOf146
 v146 := Tryd.zeroValue146
 g1 := by kernel_rfl }
open Go.RowKit Go.Lib in
theorem Tryd.strings_Contains (s sub : ByteArray) (m : Int) (w : World) (hs : s.size < 4294967281) (hm : w.cell? ⟨1, 0, none⟩ = some (.int .i64 m)) :
  Calls Tryd.prog 74 #[.string s, .string sub] w fun e w' => e = .returned (.bool (Lib.contains s.data.toList sub.data.toList)) ∧ w' = w := Any.strings_Contains Tryd.lays144 s sub m w hs hm
def Tryd.laysM219_ren : Go.Shelf.Ren := ⟨fun | 219 => 93 | 217 => 94 | 225 => 95 | 224 => 96 | 267 => 97 | 266 => 98 | 314 => 99 | n => n, fun | 9 => 9 | 3 => 3 | 4 => 4 | 5 => 5 | 46 => 102 | 146 => 146 | 51 => 131 | n => n, fun | 1 => 1 | n => n⟩
def Tryd.laysM143_ren : Go.Shelf.Ren := ⟨fun | 143 => 88 | 219 => 93 | 217 => 94 | 225 => 95 | 224 => 96 | 267 => 97 | 266 => 98 | 314 => 99 | n => n, fun | 9 => 9 | 3 => 3 | 4 => 4 | 5 => 5 | 46 => 102 | 146 => 146 | 51 => 131 | n => n, fun | 1 => 1 | n => n⟩
def Tryd.laysM144_ren : Go.Shelf.Ren := ⟨fun | 144 => 74 | 143 => 88 | 219 => 93 | 217 => 94 | 225 => 95 | 224 => 96 | 267 => 97 | 266 => 98 | 314 => 99 | n => n, fun | 9 => 9 | 4 => 4 | 3 => 3 | 5 => 5 | 46 => 102 | 146 => 146 | 51 => 131 | n => n, fun | 1 => 1 | n => n⟩
end Go.Proofs
end
section
namespace Go.Proofs.YtdidopoalmkhlaaDoorW.PrintWords
open Go Go.RowKit
theorem blkF {w : World} {g b o : Nat} {t : TypeId} {cs : Array Value} (hp : g ≠ b) (h : w.heap[g]? = some (.cells cs t (0, 0))) (u : Value) : (w.setCell ⟨b, o, none⟩ u).heap[g]? = some (.cells cs t (0, 0)) := blk_far h hp u
theorem bkf {p q : Prop} (h : p) (t : p → q := by intro h; repeat (first | (with_reducible first | exact h | refine blk_drewN ?_ _ | refine blk_drew ?_ | refine blk_alloc ?_ _ | apply blk_put) | (apply blkF; · exact Aside0.out (by assumption)) | rfl)) : q := t h
theorem cz1 {w : World} {g : Nat} {t : TypeId} {a0 : Value} (h : w.heap[g]? = some (.cells #[a0] t (0, 0))) : w.cell? ⟨g, 0, none⟩ = some a0 ∧ w.frozen? ⟨g, 0, none⟩ = false := ⟨(blk_cell h 0).trans rfl, blk_frozen h 0⟩
theorem cz2 {w : World} {g : Nat} {t : TypeId} {a0 a1 : Value} (h : w.heap[g]? = some (.cells #[a0, a1] t (0, 0))) : w.cell? ⟨g, 0, none⟩ = some a0 ∧ w.cell? ⟨g, 1, none⟩ = some a1 ∧ w.frozen? ⟨g, 0, none⟩ = false ∧ w.frozen? ⟨g, 1, none⟩ = false := ⟨(blk_cell h 0).trans rfl, (blk_cell h 1).trans rfl, blk_frozen h 0, blk_frozen h 1⟩
theorem cz3 {w : World} {g : Nat} {t : TypeId} {a0 a1 a2 : Value} (h : w.heap[g]? = some (.cells #[a0, a1, a2] t (0, 0))) : w.cell? ⟨g, 0, none⟩ = some a0 ∧ w.cell? ⟨g, 1, none⟩ = some a1 ∧ w.cell? ⟨g, 2, none⟩ = some a2 ∧ w.frozen? ⟨g, 0, none⟩ = false ∧ w.frozen? ⟨g, 1, none⟩ = false ∧ w.frozen? ⟨g, 2, none⟩ = false := ⟨(blk_cell h 0).trans rfl, (blk_cell h 1).trans rfl, (blk_cell h 2).trans rfl, blk_frozen h 0, blk_frozen h 1, blk_frozen h 2⟩
theorem am {p : Prop} (h : p) : Aside0 p := ⟨h⟩
theorem rf {q : Prop} (t : q := by first | rfl | (simp [errW_none, errW_some] <;> rfl) | (simp [*, errW_none, errW_some] <;> rfl)) : q := t
theorem rs {q : Prop} (t : q := by first | rfl | (simp; done) | (simp [*]; done)) : q := t
theorem om {q : Prop} (t : q := by first | omega | exact Nat.le_refl _) : q := t
theorem niR {q : Prop} (t : q := by first | exact Kd.R_nil _ _ _ _ _ | exact Kd.N_nil _ _ _ _ _ | exact Kd.V_nil _ _ _ _ _ | exact Kd.Q_nil _ _ _ _ _ | exact Kd.S_nil _ _ _ _ _) : q := t
theorem obE {α β : Type} {o : Option α} {f : α → Option β} {r : β} (h : o.bind f = some r) : ∃ a, Aside0 (o = some a) ∧ f a = some r := by
 obtain ⟨a, h1, h2⟩ := Option.bind_eq_some_iff.mp h
 exact ⟨a, ⟨h1⟩, h2⟩
theorem iteD {c : Prop} [Decidable c] {α : Type} {a b r : α} (H : (if c then a else b) = r) : (decide c = true ∧ a = r) ∨ (decide c = false ∧ b = r) := by
 by_cases h : c
 ·
  exact .inl ⟨decide_eq_true h, by rw [if_pos h] at H; exact H⟩
 ·
  exact .inr ⟨decide_eq_false h, by rw [if_neg h] at H; exact H⟩
theorem bb {w0 w w' : World} {g : Nat} {o : Obj} (h : w0.heap[g]? = some o) (hb : Below w.heap.size w w') (t : w0.heap[g]? = some o → w.heap[g]? = some o := by intro h; (with_reducible repeat (first | refine blk_drewN ?_ _ | refine blk_drew ?_ | refine blk_alloc ?_ _)); exact h) : Aside0 (w'.heap[g]? = some o) := ⟨blk_below (t h) hb⟩
theorem nlt {w : World} {g g' : Nat} {p : Prop} (hg : g' = w.heap.size) (h : p) (t : p → ∃ o, w.heap[g]? = some o := by intro h; apply Exists.intro; (with_reducible repeat (first | refine blk_drewN ?_ _ | refine blk_drew ?_ | refine blk_alloc ?_ _)); exact h) : Aside0 (g ≠ g') := by
 obtain ⟨o, ho⟩ := t h
 exact ⟨by rw [hg]; exact Nat.ne_of_lt (blk_lt ho)⟩
theorem ngt {w : World} {g g' : Nat} {p : Prop} (hg : g' = w.heap.size) (h : p) (t : p → ∃ o, w.heap[g]? = some o := by intro h; apply Exists.intro; (with_reducible repeat (first | refine blk_drewN ?_ _ | refine blk_drew ?_ | refine blk_alloc ?_ _)); exact h) : Aside0 (g' ≠ g) := ⟨Ne.symm (nlt hg h t).out⟩
theorem gsz {w w0 wc : World} {g : Nat} (hg : g = wc.heap.size) (h : Below w.heap.size w w0) (t : Below w.heap.size w w0 → Below w.heap.size w wc := by intro h; repeat (first | (with_reducible first | exact h | apply below_alloc | apply pw_below_drewN | apply below_drew1 | refine below_set ?_ (Aside0.out (by assumption))) | exact h)) : Aside0 (w.heap.size ≤ g) := ⟨by rw [hg]; exact below_size (t h)⟩
theorem pz (x : Int) (t : decide (0 ≤ x) = true := by first | (with_reducible assumption) | assumption) : (0 ≤ x) = True := eq_true (of_decide_eq_true t)
theorem pl (x y : Int) (t : decide (x < y) = true := by first | (with_reducible assumption) | assumption) : (x < y) = True := eq_true (of_decide_eq_true t)
theorem cf {w : World} {a : Addr} {v : Value} {g : Nat} {p q : Prop} (hw : w.cell? a = some v) (hg : w.heap.size ≤ g) (hX : p) (t : a.block ≠ g → p → q := by intro hn h; repeat (first | (with_reducible exact h) | refine (cell_far hn _).trans ?_)) : q := t (Nat.ne_of_lt (Nat.lt_of_lt_of_le (World.block_lt_of_cell? _ _ hw) hg)) hX
section
variable {P : Program} {ops : Array Oper} {rest : List Oper} {o : Oper} {a : Act} {Q : Exit → Act → World → Prop}
theorem bx {W : World} (N : Tmp) (cs : Array Value) (t : TypeId) (h : ∀ g, g = W.heap.size → ∀ w1, w1.heap[g]? = some (.cells cs t (0, 0)) → Below W.heap.size W w1 → wpList P ops Q rest (a.put o.dst (.pointer (some ⟨g, 0, none⟩))) w1) (hgd : o.guard = none := by rfl) (hd : o.dst = some N := by rfl)
  (hrun : (execOp a.eval o).run P W = .ok (.value (.pointer (some ⟨W.heap.size, 0, none⟩))) (W.alloc (.cells cs t (0, 0))) := by first | (go_simp; done) | (go_simp; rfl)) : wpList P ops Q (o :: rest) a W := box_event hgd hd hrun h
end
end Go.Proofs.YtdidopoalmkhlaaDoorW.PrintWords
end
section
namespace Go.Proofs.YtdidopoalmkhlaaDoorW.PrintLast
open Go Go.RowKit Go.Proofs.YtdidopoalmkhlaaDoorW.PrintWords
section
variable {P : Program} {ops : Array Oper} {Q : Exit → Act → World → Prop} {md : Region.Mode} {S : World → Prop} {ds : List Nat}
theorem hp (i : Nat) (N : Option Tmp) {oi : Oper} {v : Value} {fuel : Nat} {l : Array Bool} {a a' : Act} {w : World} (h : wpAnyLast P md ops Q S ds fuel (l.setIfInBounds i true) a' w) (hi : ops[i]? = some oi := by exact rfl) (hN : oi.dst = N := by exact rfl) (hc : anyB md ops l (l.setIfInBounds i true) i = true := by kernel_rfl)
  (hQ : ∀ c a w, Q (.panic c) (a.put oi.dst v) w → Q (.panic c) a w := by exact fun _ _ _ h => h) (hg : Region.wanted oi (yielded ops a.tmps) = true := by rfl) (hy : ∀ w, (execOp a.eval oi).run P w = .ok (.value v) w := by intro w'; go_simp; with_reducible rfl)
  (ha : a.put N v = a' := by simp only [Act.put, List.setIfInBounds_toArray, List.set_cons_zero, List.set_cons_succ, i64_w, i32_w]; rfl) : wpAnyLast P md ops Q S ds (fuel + 1) l a w := pure_ _ hi hN hc hQ (.inl ⟨hg, hy⟩) ha h
theorem hu (i : Nat) (N : Option Tmp) {oi : Oper} {fuel : Nat} {l : Array Bool} {a a' : Act} {w : World} (h : wpAnyLast P md ops Q S ds fuel (l.setIfInBounds i true) a' w) (hi : ops[i]? = some oi := by exact rfl) (hN : oi.dst = N := by exact rfl) (hc : anyB md ops l (l.setIfInBounds i true) i = true := by kernel_rfl)
  (hQ : ∀ c a w, Q (.panic c) (a.put oi.dst undef) w → Q (.panic c) a w := by exact fun _ _ _ h => h) (hg : Region.wanted oi (yielded ops a.tmps) = false := by rfl)
  (ha : a.put N undef = a' := by simp only [Act.put, List.setIfInBounds_toArray, List.set_cons_zero, List.set_cons_succ, i64_w, i32_w]; rfl) : wpAnyLast P md ops Q S ds (fuel + 1) l a w := pure_ _ hi hN hc hQ (.inr ⟨hg, rfl⟩) ha h
theorem ht (i : Nat) (N : Option Tmp) {oi : Oper} {v : Value} {fuel : Nat} {l : Array Bool} {a a' : Act} {w : World} (hS : S w) (h : wpAnyLast P md ops Q S ds fuel (l.setIfInBounds i true) a' w) (hi : ops[i]? = some oi := by exact rfl) (hN : oi.dst = N := by exact rfl) (hc : takeB md ops ds l (l.setIfInBounds i true) i = true := by kernel_rfl)
  (hQ : ∀ c a w, Q (.panic c) (a.put oi.dst v) w → Q (.panic c) a w := by exact fun _ _ _ h => h) (hg : Region.wanted oi (yielded ops a.tmps) = true := by rfl) (hy : ∀ w, S w → (execOp a.eval oi).run P w = .ok (.value v) w := by intro w' hs; (repeat (have s := And.left hs; replace hs := And.right hs)); go_simp; with_reducible rfl)
  (ha : a.put N v = a' := by simp only [Act.put, List.setIfInBounds_toArray, List.set_cons_zero, List.set_cons_succ, i64_w, i32_w]; rfl) : wpAnyLast P md ops Q S ds (fuel + 1) l a w := take_ _ hi hN hc hQ (.inl ⟨hg, hy⟩) hS ha h
theorem hcall (i : Nat) (N : Option Tmp) (f : FuncId) (args : Array Value) {R : Ending → World → Prop} {oi : Oper} {fuel : Nat} {l : Array Bool} {a : Act} {w : World} (hcall : Calls P f args w R)
  (h : ∀ e w', R e w' → ∃ v a', e = .returned v ∧ S w' ∧ a.put N v = a' ∧ wpAnyLast P md ops Q S ds fuel (l.setIfInBounds i true) a' w') (hi : ops[i]? = some oi := by exact rfl) (hN : oi.dst = N := by exact rfl) (hc : readyB md ops l (l.setIfInBounds i true) i = true := by kernel_rfl) (hd : i ∉ ds := by decide)
  (hg : Region.wanted oi (yielded ops a.tmps) = true := by rfl) (hrun : (execOp a.eval oi).run P w = .ok (.enter f args) w := by first | (go_simp; done) | (go_simp; rfl)) : wpAnyLast P md ops Q S ds (fuel + 1) l a w := by
 refine one_ (i := i) (N := N) _ hi hN hc hd (fun K hK => ?_)
 refine call_ f args hg hN hrun (hcall.mono ?_)
 intro e w' hR
 obtain ⟨v, a', rfl, hS, rfl, h⟩ := h e w' hR
 exact ⟨v, rfl, hK.out _ _ hS (fun _ => h)⟩
theorem hval (i : Nat) (N : Option Tmp) (v : Value) (w1 : World) {oi : Oper} {fuel : Nat} {l : Array Bool} {a a' : Act} {w : World} (hS : S w1) (h : wpAnyLast P md ops Q S ds fuel (l.setIfInBounds i true) a' w1) (hi : ops[i]? = some oi := by exact rfl) (hN : oi.dst = N := by exact rfl) (hc : readyB md ops l (l.setIfInBounds i true) i = true := by kernel_rfl) (hd : i ∉ ds := by decide)
  (hg : Region.wanted oi (yielded ops a.tmps) = true := by rfl) (hrun : (execOp a.eval oi).run P w = .ok (.value v) w1 := by first | (go_simp; done) | (go_simp; rfl) | (go_simp; constructor <;> rfl))
  (ha : a.put N v = a' := by simp only [Act.put, List.setIfInBounds_toArray, List.set_cons_zero, List.set_cons_succ, i64_w, i32_w]; rfl) : wpAnyLast P md ops Q S ds (fuel + 1) l a w := by
 refine one_ (i := i) (N := N) _ hi hN hc hd (fun K hK => ?_)
 refine value_ hg hN hrun ?_
 subst ha
 exact hK.out _ _ hS (fun _ => h)
theorem hstore (i : Nat) {oi : Oper} {fuel : Nat} {l : Array Bool} {a : Act} {w w1 : World} (h : wpAnyLast P md ops Q S ds fuel (l.setIfInBounds i true) a w1) (hi : ops[i]? = some oi := by exact rfl) (hN : oi.dst = none := by exact rfl) (hc : readyB md ops l (l.setIfInBounds i true) i = true := by kernel_rfl) (hd : i ∈ ds := by decide)
  (hg : Region.wanted oi (yielded ops a.tmps) = true := by rfl) (hrun : (execOp a.eval oi).run P w = .ok .skip w1 := by first | (go_simp; done) | (go_simp; rfl)) : wpAnyLast P md ops Q S ds (fuel + 1) l a w := by
 refine last_ (i := i) (N := none) _ hi hN hc hd (fun K hK => ?_)
 refine skip_ hg hN hrun ?_
 exact hK.out _ _ h
end
end Go.Proofs.YtdidopoalmkhlaaDoorW.PrintLast
end
section
namespace Go.Proofs.YtdidopoalmkhlaaDoor.Or
open Go.RowKit Go.Proofs.YtdidopoalmkhlaaDoorW.PrintWords Go.Proofs.YtdidopoalmkhlaaDoorW.PrintLast Go.Proofs.YtdidopoalmkhlaaDoorW.PrintMore
attribute [local go_sem] max2_int min2_int max_two min_two max_three min_three max_four min_four
set_option linter.unusedVariables false
set_option linter.unusedSimpArgs false
def errW : Option Int → Value
 | none => .nilIface
 | some c => .iface 0 (.int .i64 c)
theorem errW_none : errW none = .nilIface := rfl
theorem errW_some (c : Int) : errW (some c) = .iface 0 (.int .i64 c) := rfl
theorem info5 : (Tryd.prog.info? 5).map (fun i => (i.zero, i.size, i.bytes)) = some (some (.int .u8 0), 1, 1) := by kernel_rfl
theorem info61 : (Tryd.prog.info? 61).map (fun i => (i.zero, i.size, i.bytes)) = some (some (.agg #[(.int .i64 0), (.string ⟨#[]⟩)]), 2, 24) := by kernel_rfl
theorem info95 : (Tryd.prog.info? 95).map (fun i => (i.zero, i.size, i.bytes)) = some (some (.agg #[(.string ⟨#[]⟩), (.int .i64 0)]), 2, 24) := by kernel_rfl
-- the values' own types
structure S82 where
 f0 : ByteArray
 f1 : Int
def z82 : S82 := ⟨(⟨#[]⟩ : ByteArray), (0 : Int)⟩
def k82 : Kd S82 := Kd.iso (Kd.pair Kd.string (Kd.int .i64)) (fun x : S82 => (x.f0, x.f1))
theorem k82_open {w : World} {x : S82} {cs : List Value} (h : k82.K w x cs) : cs = [.string x.f0, .int .i64 x.f1] := by
 obtain ⟨_, _, rfl, rfl, rfl⟩ := h
 exact rfl
theorem k82_mkM (w : World) (base : Nat) (ok : Nat → Prop) (x : S82)  : k82.M w base ok x [.string x.f0, .int .i64 x.f1] := ⟨[.string x.f0], [.int .i64 x.f1], rfl, rfl, rfl⟩
def rd_T82 (xs : List S82) (i : Int) : S82 := xs.getD i.toNat z82
theorem at_T82 {w : World} {A : Option Addr} {n : Nat} {xs : List S82} (h : Kd.C k82 w A n xs) (i : Int) (h0 : 0 ≤ i) (h1 : i < n) : ∃ ad , A = some ad ∧ w.cell? (ad.add (i.toNat * 2)) = some (.string (rd_T82 xs i).f0) ∧ w.cell? ⟨(ad.add (i.toNat * 2)).block, (ad.add (i.toNat * 2)).off + 1, none⟩ = some (.int .i64 (rd_T82 xs i).f1) := by
 obtain ⟨ad, c, e, _, hK, hc0⟩ := Kd.C_get h z82 i h0 h1
 have hc : ∀ j u, c[j]? = some u → w.cell? (ad.add (i.toNat * 2 + j)) = some u := hc0
 obtain rfl := k82_open hK
 exact ⟨ad, e, hc 0 _ rfl, by rw [← add_field _ _ 1 (by omega)]; exact hc 1 _ rfl⟩
structure S95 where
 f0 : ByteArray
 f1 : Int
def z95 : S95 := ⟨(⟨#[]⟩ : ByteArray), (0 : Int)⟩
def k95 : Kd S95 := Kd.iso (Kd.pair Kd.string (Kd.int .i64)) (fun x : S95 => (x.f0, x.f1))
theorem k95_open {w : World} {x : S95} {cs : List Value} (h : k95.K w x cs) : cs = [.string x.f0, .int .i64 x.f1] := by
 obtain ⟨_, _, rfl, rfl, rfl⟩ := h
 exact rfl
theorem k95_mkM (w : World) (base : Nat) (ok : Nat → Prop) (x : S95)  : k95.M w base ok x [.string x.f0, .int .i64 x.f1] := ⟨[.string x.f0], [.int .i64 x.f1], rfl, rfl, rfl⟩
def rd_T95 (xs : List S95) (i : Int) : S95 := xs.getD i.toNat z95
theorem at_T95 {w : World} {A : Option Addr} {n : Nat} {xs : List S95} (h : Kd.C k95 w A n xs) (i : Int) (h0 : 0 ≤ i) (h1 : i < n) : ∃ ad , A = some ad ∧ w.cell? (ad.add (i.toNat * 2)) = some (.string (rd_T95 xs i).f0) ∧ w.cell? ⟨(ad.add (i.toNat * 2)).block, (ad.add (i.toNat * 2)).off + 1, none⟩ = some (.int .i64 (rd_T95 xs i).f1) := by
 obtain ⟨ad, c, e, _, hK, hc0⟩ := Kd.C_get h z95 i h0 h1
 have hc : ∀ j u, c[j]? = some u → w.cell? (ad.add (i.toNat * 2 + j)) = some u := hc0
 obtain rfl := k95_open hK
 exact ⟨ad, e, hc 0 _ rfl, by rw [← add_field _ _ 1 (by omega)]; exact hc 1 _ rfl⟩
structure S62 where
 f0 : Int
 f1 : ByteArray
def z62 : S62 := ⟨(0 : Int), (⟨#[]⟩ : ByteArray)⟩
def k62 : Kd S62 := Kd.iso (Kd.pair (Kd.int .i64) Kd.string) (fun x : S62 => (x.f0, x.f1))
theorem k62_open {w : World} {x : S62} {cs : List Value} (h : k62.K w x cs) : cs = [.int .i64 x.f0, .string x.f1] := by
 obtain ⟨_, _, rfl, rfl, rfl⟩ := h
 exact rfl
theorem k62_mkM (w : World) (base : Nat) (ok : Nat → Prop) (x : S62)  : k62.M w base ok x [.int .i64 x.f0, .string x.f1] := ⟨[.int .i64 x.f0], [.string x.f1], rfl, rfl, rfl⟩
def rd_T62 (xs : List S62) (i : Int) : S62 := xs.getD i.toNat z62
theorem at_T62 {w : World} {A : Option Addr} {n : Nat} {xs : List S62} (h : Kd.C k62 w A n xs) (i : Int) (h0 : 0 ≤ i) (h1 : i < n) : ∃ ad , A = some ad ∧ w.cell? (ad.add (i.toNat * 2)) = some (.int .i64 (rd_T62 xs i).f0) ∧ w.cell? ⟨(ad.add (i.toNat * 2)).block, (ad.add (i.toNat * 2)).off + 1, none⟩ = some (.string (rd_T62 xs i).f1) := by
 obtain ⟨ad, c, e, _, hK, hc0⟩ := Kd.C_get h z62 i h0 h1
 have hc : ∀ j u, c[j]? = some u → w.cell? (ad.add (i.toNat * 2 + j)) = some u := hc0
 obtain rfl := k62_open hK
 exact ⟨ad, e, hc 0 _ rfl, by rw [← add_field _ _ 1 (by omega)]; exact hc 1 _ rfl⟩
structure S61 where
 f0 : Int
 f1 : ByteArray
def z61 : S61 := ⟨(0 : Int), (⟨#[]⟩ : ByteArray)⟩
def k61 : Kd S61 := Kd.iso (Kd.pair (Kd.int .i64) Kd.string) (fun x : S61 => (x.f0, x.f1))
theorem k61_open {w : World} {x : S61} {cs : List Value} (h : k61.K w x cs) : cs = [.int .i64 x.f0, .string x.f1] := by
 obtain ⟨_, _, rfl, rfl, rfl⟩ := h
 exact rfl
theorem k61_mkM (w : World) (base : Nat) (ok : Nat → Prop) (x : S61)  : k61.M w base ok x [.int .i64 x.f0, .string x.f1] := ⟨[.int .i64 x.f0], [.string x.f1], rfl, rfl, rfl⟩
def rd_T61 (xs : List S61) (i : Int) : S61 := xs.getD i.toNat z61
theorem at_T61 {w : World} {A : Option Addr} {n : Nat} {xs : List S61} (h : Kd.C k61 w A n xs) (i : Int) (h0 : 0 ≤ i) (h1 : i < n) : ∃ ad , A = some ad ∧ w.cell? (ad.add (i.toNat * 2)) = some (.int .i64 (rd_T61 xs i).f0) ∧ w.cell? ⟨(ad.add (i.toNat * 2)).block, (ad.add (i.toNat * 2)).off + 1, none⟩ = some (.string (rd_T61 xs i).f1) := by
 obtain ⟨ad, c, e, _, hK, hc0⟩ := Kd.C_get h z61 i h0 h1
 have hc : ∀ j u, c[j]? = some u → w.cell? (ad.add (i.toNat * 2 + j)) = some u := hc0
 obtain rfl := k61_open hK
 exact ⟨ad, e, hc 0 _ rfl, by rw [← add_field _ _ 1 (by omega)]; exact hc 1 _ rfl⟩
def rd_L6 (xs : List (List S82)) (i : Int) : (List S82) := xs.getD i.toNat ([] : List S82)
def rd_L7 (xs : List (List S62)) (i : Int) : (List S62) := xs.getD i.toNat ([] : List S62)
structure S25 where
 f0 : Int
 f1 : ByteArray
 f2 : ByteArray
 f3 : ByteArray
 f4 : Int
 f5 : Int
 f6 : ByteArray
 f7 : (List S82)
 f8 : (List S62)
def z25 : S25 := ⟨(0 : Int), (⟨#[]⟩ : ByteArray), (⟨#[]⟩ : ByteArray), (⟨#[]⟩ : ByteArray), (0 : Int), (0 : Int), (⟨#[]⟩ : ByteArray), ([] : List S82), ([] : List S62)⟩
def k25 : Kd S25 := Kd.iso (Kd.pair (Kd.int .i64) (Kd.pair Kd.string (Kd.pair Kd.string (Kd.pair Kd.string (Kd.pair (Kd.int .i64) (Kd.pair (Kd.int .i64) (Kd.pair Kd.string (Kd.pair (Kd.slice 82 k82) (Kd.slice 62 k62))))))))) (fun x : S25 => (x.f0, x.f1, x.f2, x.f3, x.f4, x.f5, x.f6, x.f7, x.f8))
def rd_T25 (xs : List S25) (i : Int) : S25 := xs.getD i.toNat z25
theorem cz9 {w : World} {g : Nat} {t : TypeId} {a0 a1 a2 a3 a4 a5 a6 a7 a8 : Value} (h : w.heap[g]? = some (.cells #[a0, a1, a2, a3, a4, a5, a6, a7, a8] t (0, 0))) : w.cell? ⟨g, 0, none⟩ = some a0 ∧ w.cell? ⟨g, 1, none⟩ = some a1 ∧ w.cell? ⟨g, 2, none⟩ = some a2 ∧ w.cell? ⟨g, 3, none⟩ = some a3 ∧ w.cell? ⟨g, 4, none⟩ = some a4 ∧ w.cell? ⟨g, 5, none⟩ = some a5 ∧ w.cell? ⟨g, 6, none⟩ = some a6 ∧ w.cell? ⟨g, 7, none⟩ = some a7 ∧ w.cell? ⟨g, 8, none⟩ = some a8 ∧ w.frozen? ⟨g, 0, none⟩ = false ∧ w.frozen? ⟨g, 1, none⟩ = false ∧ w.frozen? ⟨g, 2, none⟩ = false ∧ w.frozen? ⟨g, 3, none⟩ = false ∧ w.frozen? ⟨g, 4, none⟩ = false ∧ w.frozen? ⟨g, 5, none⟩ = false ∧ w.frozen? ⟨g, 6, none⟩ = false ∧ w.frozen? ⟨g, 7, none⟩ = false ∧ w.frozen? ⟨g, 8, none⟩ = false :=
 ⟨(blk_cell h 0).trans rfl, (blk_cell h 1).trans rfl, (blk_cell h 2).trans rfl, (blk_cell h 3).trans rfl, (blk_cell h 4).trans rfl, (blk_cell h 5).trans rfl, (blk_cell h 6).trans rfl, (blk_cell h 7).trans rfl, (blk_cell h 8).trans rfl, blk_frozen h 0, blk_frozen h 1, blk_frozen h 2, blk_frozen h 3, blk_frozen h 4, blk_frozen h 5, blk_frozen h 6, blk_frozen h 7, blk_frozen h 8⟩
theorem eqA61 (d : Nat) (w : World) (x0 y0 : Int) (x1 y1 : ByteArray) :
  (Op.equalIn (d + 2) 61 (.agg #[.int .i64 x0, .string x1]) (.agg #[.int .i64 y0, .string y1])).run Tryd.prog w = .ok (x0 == y0 && (x1.toList == y1.toList)) w := by
 refine eqA_of Tryd.underlying61 (by kernel_rfl) ?_
 refine eqf_cons (by rfl) (by go_simp; rfl) (by go_simp; rfl) (by go_simp) ?_
 exact eqf_last (by rfl) (by go_simp; rfl) (by go_simp; rfl) (by go_simp)
theorem eqA62 (d : Nat) (w : World) (x0 y0 : Int) (x1 y1 : ByteArray) :
  (Op.equalIn (d + 2) 62 (.agg #[.int .i64 x0, .string x1]) (.agg #[.int .i64 y0, .string y1])).run Tryd.prog w = .ok (x0 == y0 && (x1.toList == y1.toList)) w := by
 refine eqA_of Tryd.underlying62 (by kernel_rfl) ?_
 refine eqf_cons (by rfl) (by go_simp; rfl) (by go_simp; rfl) (by go_simp) ?_
 exact eqf_last (by rfl) (by go_simp; rfl) (by go_simp; rfl) (by go_simp)
theorem eqA82 (d : Nat) (w : World) (x0 y0 : ByteArray) (x1 y1 : Int) :
  (Op.equalIn (d + 2) 82 (.agg #[.string x0, .int .i64 x1]) (.agg #[.string y0, .int .i64 y1])).run Tryd.prog w = .ok (x0.toList == y0.toList && (x1 == y1)) w := by
 refine eqA_of Tryd.underlying82 (by kernel_rfl) ?_
 refine eqf_cons (by rfl) (by go_simp; rfl) (by go_simp; rfl) (by go_simp) ?_
 exact eqf_last (by rfl) (by go_simp; rfl) (by go_simp; rfl) (by go_simp)
theorem eqA95 (d : Nat) (w : World) (x0 y0 : ByteArray) (x1 y1 : Int) :
  (Op.equalIn (d + 2) 95 (.agg #[.string x0, .int .i64 x1]) (.agg #[.string y0, .int .i64 y1])).run Tryd.prog w = .ok (x0.toList == y0.toList && (x1 == y1)) w := by
 refine eqA_of Tryd.underlying95 (by kernel_rfl) ?_
 refine eqf_cons (by rfl) (by go_simp; rfl) (by go_simp; rfl) (by go_simp) ?_
 exact eqf_last (by rfl) (by go_simp; rfl) (by go_simp; rfl) (by go_simp)
def stowagelaw13_Piece.l0 : Nat → List (S82) → List (S95) → Int → Option ((List (S95)))
 | 0, _, _, _ => none
 | k + 1, x0, x3, x4 => if x4 < (x0.length : Int) then (if 0 ≤ x4 then (if x3.length < 5864062014805 then (stowagelaw13_Piece.l0 k x0 (x3 ++ [(⟨(rd_T82 x0 x4).f0, (rd_T82 x0 x4).f1⟩ : S95)]) (wrap64 (x4 + 1))) else (none)) else (none)) else (some x3)
def stowagelaw13_Piece.f (k : Nat) (l0 : List (S82)) : Option ((List (S95))) := stowagelaw13_Piece.l0 k l0 ([] : List (S95)) 0
theorem stowagelaw13_Piece.mono_l : ∀ k, (∀ y0 y1 y2, LeO (stowagelaw13_Piece.l0 k y0 y1 y2) (stowagelaw13_Piece.l0 (k + 1) y0 y1 y2))
 | 0 => fun _ _ _ r h => by simp [stowagelaw13_Piece.l0] at h
 | k + 1 => by
  have ih0 := stowagelaw13_Piece.mono_l k
  ·
   intro y0 y1 y2
   unfold stowagelaw13_Piece.l0
   repeat' (with_reducible first | exact ih0 _ _ _ | exact LeO.refl _ | exact LeO.none _ | refine LeO.ite ?_ ?_ | refine LeO.bind ?_ (fun _ => ?_))
theorem stowagelaw13_Piece.mono : ∀ a0 k, LeO (stowagelaw13_Piece.f k a0) (stowagelaw13_Piece.f (k + 1) a0) := by
 intro a0 k
 have ih0 := stowagelaw13_Piece.mono_l k
 unfold stowagelaw13_Piece.f
 repeat' (with_reducible first | exact ih0 _ _ _ | exact LeO.refl _ | exact LeO.none _ | refine LeO.ite ?_ ?_ | refine LeO.bind ?_ (fun _ => ?_))
set_option maxHeartbeats 8000000 in
set_option maxRecDepth 100000 in
theorem stowagelaw13_Piece.calls (k : Nat) (A0 : Option Addr) (c0 : Nat) (l0 : List (S82)) (r : List (S95)) (w : World) (hr0 : Kd.C k82 w A0 l0.length l0) (hc0 : l0.length ≤ c0) (h : stowagelaw13_Piece.f k l0 = some r) :
  Calls Tryd.prog 25 #[.slice A0 l0.length c0] w fun e w' => ∃ v0_ : Value, e = .returned (v0_) ∧ Kd.R k95 95 w' w.heap.size (fun _ => True) v0_ r ∧ Below w.heap.size w w' := by
 have hu82 := Tryd.underlying82
 have HR0 := am hr0
 have HC0 := am hc0
 clear hr0 hc0
 have HB := am (Below.refl w.heap.size w)
 have H := h
 clear h
 unfold stowagelaw13_Piece.f at H
 have H' := am H
 clear H
 go_enter Tryd.func25, Tryd.ntmps25
 go_wp2
 go_loopg [3, 4] k (fun kq v3 v4 w' => ∃ (x3_1 : List (S95)) (x4_1 : Int), v4 = .int .i64 x4_1 ∧ Aside0 (stowagelaw13_Piece.l0 kq l0 x3_1 x4_1 = some r) ∧ Aside0 (kq ≤ k) ∧ Aside0 (Kd.R k95 95 w' w.heap.size (fun _ => True) v3 x3_1) ∧ Aside0 (Below w.heap.size w w'))
 case atStart => exact ⟨(([] : List (S95))), (0), rs, H', ⟨Nat.le_refl _⟩, ⟨niR⟩, ⟨bw HB.out⟩⟩
 case round =>
  clear H'
  obtain ⟨x3_1, x4_1, rfl, HA, HK1, HO_3, HB⟩ := hrel
  cases gk with
  | zero => exact absurd HA.out (by simp [stowagelaw13_Piece.l0])
  | succ k1 =>
   have H := HA.out
   clear HA
   simp only [stowagelaw13_Piece.l0] at H
   replace H := iteD H
   rcases H with ⟨c2b0, H⟩ | ⟨c2b0, H⟩
   ·
    replace H := iteD H
    rcases H with ⟨c3b0, H⟩ | ⟨_, H⟩
    ·
     by_cases c4 : x3_1.length < 5864062014805
     ·
      rw [if_pos c4] at H
      have LMc4 := am c4
      clear c4
      obtain ⟨y102, hy102⟩ : ∃ y_ : List (S95), y_ = (x3_1 ++ [(⟨(rd_T82 l0 x4_1).f0, (rd_T82 l0 x4_1).f1⟩ : S95)]) := ⟨_, rfl⟩
      replace H : (stowagelaw13_Piece.l0 k1 l0 y102 (wrap64 (x4_1 + 1))) = some r := by first | (rw [hy102]; with_reducible exact H) | (have H2_ := (Option.bind_some _ _).symm.trans H; rw [hy102]; with_reducible exact H2_) | (have H2_ := (Option.bind_some _ _).symm.trans H; with_reducible exact H2_) | with_reducible exact H | (rw [hy102]; exact H) | exact H
      have Ny102 := am hy102
      clear hy102
      have H' := am H
      clear H
      have p101 := pz x4_1
      have q101 := pl x4_1 (l0.length : Int)
      obtain ⟨ad101, e101, hx101_0, hx101_1⟩ := at_T82 HR0.out x4_1 (of_eq_true p101) (of_eq_true q101)
      cases e101
      replace hx101_0 := bc HB.out hx101_0
      replace hx101_1 := bc HB.out hx101_1
      go_wp2_with (first | ((with_reducible refine gate_builtin (b := .append) (xs := #[.tmp 11, .tmp 16]) rfl ?_); at_builtin; refine Kd.R_append k95 (w0 := w) w.heap.size rfl (.tmp 11) (.tmp 16) 31 95 (.agg #[(.string ⟨#[]⟩), (.int .i64 0)]) 24 rfl Tryd.underlying31 info95 rfl (by decide) (by omega) u3 x3_1 (⟨(rd_T82 l0 x4_1).f0, (rd_T82 l0 x4_1).f1⟩ : S95) [.string ((rd_T82 l0 x4_1).f0), .int .i64 ((rd_T82 l0 x4_1).f1)] (fun _ => True) (fun _ => False) rfl rfl ?aP (fun _ hk => hk.elim) ?aF ?aO ?aB ?aS ?aL ?_; (case aP => exact k95_mkM _ _ _ (⟨(rd_T82 l0 x4_1).f0, (rd_T82 l0 x4_1).f1⟩ : S95)); (case aB => exact (bw HB.out)); (case aF => exact (fun _ _ => trivial)); (case aO => exact (kR HO_3.out)); (case aS => exact (below_size (bw HB.out))); (case aL => have := LMc4.out; omega); intro v103 w5 ho hb hg hat; rw [← Ny102.out] at ho; have n0_ := am (hb); have n1_ := am (ho); clear HB; clear HO_3; have HB := n0_; have HO104 := n1_; clear n0_ n1_; clear ho hb hg hat))
      go_roundg k1
      case measure => have := HK1.out; omega
      case rel => exact ⟨(y102), (wrap64 (x4_1 + 1)), rs, H', ⟨by have := HK1.out; omega⟩, ⟨kR HO104.out⟩, ⟨bw HB.out⟩⟩
     ·
      rw [if_neg c4] at H
      exact absurd H (by simp)
    ·
     exact absurd H (by simp)
   ·
    obtain rfl := Option.some.inj H
    go_wp2
    go_ret
    exact ⟨_, rf, kR HO_3.out, bw HB.out⟩
def stowagelaw16_Ref.l0 : Nat → List (S61) → Int → Int → ByteArray → ByteArray → ByteArray → Int → Int → ByteArray → List (S82) → List (S62) → Option (Int × ByteArray × ByteArray × ByteArray × Int × Int × ByteArray × (List (S95)) × (List (S61)))
 | 0, _, _, _, _, _, _, _, _, _, _, _ => none
 | k + 1, x3, x4, x106000, x106001, x106002, x106003, x106004, x106005, x106006, x106007, x106008 => if x4 < (x106008.length : Int) then (if 0 ≤ x4 then (if x3.length < 5864062014805 then (stowagelaw16_Ref.l0 k (x3 ++ [(⟨(rd_T62 x106008 x4).f0, (rd_T62 x106008 x4).f1⟩ : S61)]) (wrap64 (x4 + 1)) x106000 x106001 x106002 x106003 x106004 x106005 x106006 x106007 x106008) else (none)) else (none)) else ((stowagelaw13_Piece.f k x106007).bind fun t111 => (some (x106000, x106001, x106002, x106003, x106004, x106005, x106006, t111, x3)))
def stowagelaw16_Ref.f (k : Nat) (a0_0 : Int) (a0_1 : ByteArray) (a0_2 : ByteArray) (a0_3 : ByteArray) (a0_4 : Int) (a0_5 : Int) (a0_6 : ByteArray) (l0_7 : List (S82)) (l0_8 : List (S62)) : Option (Int × ByteArray × ByteArray × ByteArray × Int × Int × ByteArray × (List (S95)) × (List (S61))) := stowagelaw16_Ref.l0 k ([] : List (S61)) 0 a0_0 a0_1 a0_2 a0_3 a0_4 a0_5 a0_6 l0_7 l0_8
theorem stowagelaw16_Ref.mono_l : ∀ k, (∀ y0 y1 y2 y3 y4 y5 y6 y7 y8 y9 y10, LeO (stowagelaw16_Ref.l0 k y0 y1 y2 y3 y4 y5 y6 y7 y8 y9 y10) (stowagelaw16_Ref.l0 (k + 1) y0 y1 y2 y3 y4 y5 y6 y7 y8 y9 y10))
 | 0 => fun _ _ _ _ _ _ _ _ _ _ _ r h => by simp [stowagelaw16_Ref.l0] at h
 | k + 1 => by
  have ih0 := stowagelaw16_Ref.mono_l k
  ·
   intro y0 y1 y2 y3 y4 y5 y6 y7 y8 y9 y10
   unfold stowagelaw16_Ref.l0
   repeat' (with_reducible first | exact ih0 _ _ _ _ _ _ _ _ _ _ _ | exact stowagelaw13_Piece.mono _ _ | exact LeO.refl _ | exact LeO.none _ | refine LeO.ite ?_ ?_ | refine LeO.bind ?_ (fun _ => ?_))
theorem stowagelaw16_Ref.mono : ∀ a0 a1 a2 a3 a4 a5 a6 a7 a8 k, LeO (stowagelaw16_Ref.f k a0 a1 a2 a3 a4 a5 a6 a7 a8) (stowagelaw16_Ref.f (k + 1) a0 a1 a2 a3 a4 a5 a6 a7 a8) := by
 intro a0 a1 a2 a3 a4 a5 a6 a7 a8 k
 have ih0 := stowagelaw16_Ref.mono_l k
 unfold stowagelaw16_Ref.f
 repeat' (with_reducible first | exact ih0 _ _ _ _ _ _ _ _ _ _ _ | exact stowagelaw13_Piece.mono _ _ | exact LeO.refl _ | exact LeO.none _ | refine LeO.ite ?_ ?_ | refine LeO.bind ?_ (fun _ => ?_))
def stowagelaw16_Ref.T6 : Bool × List (List Nat × List Nat) := (true, [([], []), ([0], [0]), ([], []), ([2], [2]), ([], []), ([4], [4]), ([], []), ([6], [6]), ([], []), ([8], [8]), ([], []), ([10], [10]), ([], []), ([12], [12]), ([], []), ([14], [14]), ([15], [15]), ([], []), ([1, 3, 5, 7, 9, 11, 13, 16, 17], [1, 3, 5, 7, 9, 11, 13, 16, 17]), ([18, 16, 0, 1, 2, 3, 4, 5, 6, 7, 8, 9, 10, 11, 12, 13, 14, 15, 16, 17, 18], [18])])
def stowagelaw16_Ref.B6 : List Nat := [0, 1, 0, 4, 0, 16, 0, 64, 0, 256, 0, 1024, 0, 4096, 0, 16384, 49152, 0, 262143, 524287]
theorem stowagelaw16_Ref.tab6 : rtab .any (opsOf Tryd.f10 6) = stowagelaw16_Ref.T6 := by kernel_rfl
theorem stowagelaw16_Ref.bits6 : waitsOk stowagelaw16_Ref.T6.2 stowagelaw16_Ref.B6 = true := by kernel_rfl
set_option maxHeartbeats 8000000 in
set_option maxRecDepth 100000 in
theorem stowagelaw16_Ref.calls (k : Nat) (a0_0 : Int) (a0_1 : ByteArray) (a0_2 : ByteArray) (a0_3 : ByteArray) (a0_4 : Int) (a0_5 : Int) (a0_6 : ByteArray) (A0_7 : Option Addr) (c0_7 : Nat) (l0_7 : List (S82)) (A0_8 : Option Addr) (c0_8 : Nat) (l0_8 : List (S62)) (r1 : Int) (r2 : ByteArray) (r3 : ByteArray) (r4 : ByteArray) (r5 : Int) (r6 : Int) (r7 : ByteArray) (r8 : List (S95)) (r9 : List (S61)) (w : World) (hr0_7 : Kd.C k82 w A0_7 l0_7.length l0_7) (hc0_7 : l0_7.length ≤ c0_7) (hr0_8 : Kd.C k62 w A0_8 l0_8.length l0_8) (hc0_8 : l0_8.length ≤ c0_8) (h : stowagelaw16_Ref.f k a0_0 a0_1 a0_2 a0_3 a0_4 a0_5 a0_6 l0_7 l0_8 = some (r1, r2, r3, r4, r5, r6, r7, r8, r9)) :
  Calls Tryd.prog 10 #[.agg #[.int .i64 a0_0, .string a0_1, .string a0_2, .string a0_3, .int .i64 a0_4, .int .i64 a0_5, .string a0_6, .slice A0_7 l0_7.length c0_7, .slice A0_8 l0_8.length c0_8]] w fun e w' => ∃ v7_ v8_ : Value, e = .returned (.agg #[.int .i64 r1, .string r2, .string r3, .string r4, .int .i64 r5, .int .i64 r6, .string r7, v7_, v8_]) ∧ Kd.R k95 95 w' w.heap.size (fun _ => True) v7_ r8 ∧ Kd.R k61 61 w' w.heap.size (fun _ => True) v8_ r9 ∧ Below w.heap.size w w' := by
 have hu25 := Tryd.underlying25
 have hu34 := Tryd.underlying34
 have hu62 := Tryd.underlying62
 have HR0_7 := am hr0_7
 have HC0_7 := am hc0_7
 clear hr0_7 hc0_7
 have HR0_8 := am hr0_8
 have HC0_8 := am hc0_8
 clear hr0_8 hc0_8
 have HB := am (Below.refl w.heap.size w)
 have H := h
 clear h
 unfold stowagelaw16_Ref.f at H
 have H' := am H
 clear H
 go_enter Tryd.func10, Tryd.ntmps10
 go_wp2_with (first | ((with_reducible refine gate_dst (N := 1) rfl ?_); refine bx 1 #[.int .i64 a0_0, .string a0_1, .string a0_2, .string a0_3, .int .i64 a0_4, .int .i64 a0_5, .string a0_6, .slice A0_7 l0_7.length c0_7, .slice A0_8 l0_8.length c0_8] 25 ?_; intro gb105 hg w2 hbox hb; have BK105 := am (hbox); have GW105 := gsz hg HB.out; have GE105 := gsz hg HB.out; replace HB := am (below_step (bw HB.out) hb); clear hb hbox hg) | ((with_reducible refine gate_dst (N := 2) rfl ?_); refine bx 2 #[.int .i64 0, .string (⟨#[]⟩ : ByteArray), .string (⟨#[]⟩ : ByteArray), .string (⟨#[]⟩ : ByteArray), .int .i64 0, .int .i64 0, .string (⟨#[]⟩ : ByteArray), .slice none 0 0, .slice none 0 0] 34 ?_; intro gb106 hg w3 hbox hb; have BK106 := am (hbox); have GW106 := gsz hg HB.out; have GE106 := gsz hg HB.out; have NB105_106 := nlt (g := gb105) hg BK105.out; have NB106_105 := ngt (g := gb105) hg BK105.out; replace BK105 := bb BK105.out hb; replace HB := am (below_step (bws HB.out) hb); clear hb hbox hg))
 go_loopg [3, 4] k (fun kq v3 v4 w' => ∃ (x3_1 : List (S61)) (x4_1 : Int), v4 = .int .i64 x4_1 ∧ Aside0 (stowagelaw16_Ref.l0 kq x3_1 x4_1 a0_0 a0_1 a0_2 a0_3 a0_4 a0_5 a0_6 l0_7 l0_8 = some (r1, r2, r3, r4, r5, r6, r7, r8, r9)) ∧ Aside0 (kq ≤ k) ∧ Aside0 (Kd.R k61 61 w' w.heap.size (fun _ => True) v3 x3_1) ∧ Aside0 (w'.heap[gb105]? = some (.cells #[.int .i64 a0_0, .string a0_1, .string a0_2, .string a0_3, .int .i64 a0_4, .int .i64 a0_5, .string a0_6, (.slice A0_7 l0_7.length c0_7), (.slice A0_8 l0_8.length c0_8)] 25 (0, 0))) ∧ Aside0 (w'.heap[gb106]? = some (.cells #[.int .i64 0, .string (⟨#[]⟩ : ByteArray), .string (⟨#[]⟩ : ByteArray), .string (⟨#[]⟩ : ByteArray), .int .i64 0, .int .i64 0, .string (⟨#[]⟩ : ByteArray), (.slice none 0 0), (.slice none 0 0)] 34 (0, 0))) ∧ Aside0 (Below w.heap.size w w'))
 case atStart => exact ⟨(([] : List (S61))), (0), rs, H', ⟨Nat.le_refl _⟩, ⟨niR⟩, ⟨bk BK105.out⟩, ⟨bk BK106.out⟩, ⟨bws HB.out⟩⟩
 case round =>
  clear H'
  obtain ⟨x3_1, x4_1, rfl, HA, HK1, HO_3, BK105, BK106, HB⟩ := hrel
  cases gk with
  | zero => exact absurd HA.out (by simp [stowagelaw16_Ref.l0])
  | succ k1 =>
   have H := HA.out
   clear HA
   simp only [stowagelaw16_Ref.l0] at H
   replace H := iteD H
   rcases H with ⟨c4b0, H⟩ | ⟨c4b0, H⟩
   ·
    replace H := iteD H
    rcases H with ⟨c5b0, H⟩ | ⟨_, H⟩
    ·
     by_cases c6 : x3_1.length < 5864062014805
     ·
      rw [if_pos c6] at H
      have LMc6 := am c6
      clear c6
      obtain ⟨y108, hy108⟩ : ∃ y_ : List (S61), y_ = (x3_1 ++ [(⟨(rd_T62 l0_8 x4_1).f0, (rd_T62 l0_8 x4_1).f1⟩ : S61)]) := ⟨_, rfl⟩
      replace H : (stowagelaw16_Ref.l0 k1 y108 (wrap64 (x4_1 + 1)) a0_0 a0_1 a0_2 a0_3 a0_4 a0_5 a0_6 l0_7 l0_8) = some (r1, r2, r3, r4, r5, r6, r7, r8, r9) := by first | (rw [hy108]; with_reducible exact H) | (have H2_ := (Option.bind_some _ _).symm.trans H; rw [hy108]; with_reducible exact H2_) | (have H2_ := (Option.bind_some _ _).symm.trans H; with_reducible exact H2_) | with_reducible exact H | (rw [hy108]; exact H) | exact H
      have Ny108 := am hy108
      clear hy108
      have H' := am H
      clear H
      have hnb7 := NB105_106.out
      have hnc7 := NB106_105.out
      obtain ⟨hcz8_0, hcz8_1, hcz8_2, hcz8_3, hcz8_4, hcz8_5, hcz8_6, hcz8_7, hcz8_8, hfz8_0, hfz8_1, hfz8_2, hfz8_3, hfz8_4, hfz8_5, hfz8_6, hfz8_7, hfz8_8⟩ := cz9 BK105.out
      have p107 := pz x4_1
      have q107 := pl x4_1 (l0_8.length : Int)
      obtain ⟨ad107, e107, hx107_0, hx107_1⟩ := at_T62 HR0_8.out x4_1 (of_eq_true p107) (of_eq_true q107)
      cases e107
      replace hx107_0 := bc HB.out hx107_0
      replace hx107_1 := bc HB.out hx107_1
      go_wp2_with (first | ((with_reducible refine gate_builtin (b := .append) (xs := #[.tmp 12, .tmp 18]) rfl ?_); at_builtin; refine Kd.R_append k61 (w0 := w) w.heap.size rfl (.tmp 12) (.tmp 18) 32 61 (.agg #[(.int .i64 0), (.string ⟨#[]⟩)]) 24 rfl Tryd.underlying32 info61 rfl (by decide) (by omega) u3 x3_1 (⟨(rd_T62 l0_8 x4_1).f0, (rd_T62 l0_8 x4_1).f1⟩ : S61) [.int .i64 ((rd_T62 l0_8 x4_1).f0), .string ((rd_T62 l0_8 x4_1).f1)] (fun _ => True) (fun _ => False) rfl rfl ?aP (fun _ hk => hk.elim) ?aF ?aO ?aB ?aS ?aL ?_; (case aP => exact k61_mkM _ _ _ (⟨(rd_T62 l0_8 x4_1).f0, (rd_T62 l0_8 x4_1).f1⟩ : S61)); (case aB => exact (bws HB.out)); (case aF => exact (fun _ _ => trivial)); (case aO => exact (kR HO_3.out)); (case aS => exact (below_size (bws HB.out))); (case aL => have := LMc6.out; omega); intro v109 w9 ho hb hg hat; rw [← Ny108.out] at ho; have n0_ := am (blk_grown (g := gb105) (o := .cells #[.int .i64 a0_0, .string a0_1, .string a0_2, .string a0_3, .int .i64 a0_4, .int .i64 a0_5, .string a0_6, .slice A0_7 l0_7.length c0_7, .slice (some ad107) l0_8.length c0_8] 25 (0, 0)) (bk BK105.out) hg (Kd.R_ne HO_3.out BK105.out (by decide))); have n1_ := am (blk_grown (g := gb106) (o := .cells #[.int .i64 0, .string (⟨#[]⟩ : ByteArray), .string (⟨#[]⟩ : ByteArray), .string (⟨#[]⟩ : ByteArray), .int .i64 0, .int .i64 0, .string (⟨#[]⟩ : ByteArray), .slice none 0 0, .slice none 0 0] 34 (0, 0)) (bk BK106.out) hg (Kd.R_ne HO_3.out BK106.out (by decide))); have n2_ := am (hb); have n3_ := am (ho); clear BK105; clear BK106; clear HB; clear HO_3; have BK105 := n0_; have BK106 := n1_; have HB := n2_; have HO110 := n3_; clear n0_ n1_ n2_ n3_; clear ho hb hg hat))
      go_roundg k1
      case measure => have := HK1.out; omega
      case rel => exact ⟨(y108), (wrap64 (x4_1 + 1)), rs, H', ⟨by have := HK1.out; omega⟩, ⟨kR HO110.out⟩, ⟨bk BK105.out⟩, ⟨bk BK106.out⟩, ⟨bws HB.out⟩⟩
     ·
      rw [if_neg c6] at H
      exact absurd H (by simp)
    ·
     exact absurd H (by simp)
   ·
    replace H := obE H
    obtain ⟨t111, A10, H⟩ := H
    simp only [Option.some.injEq, Prod.mk.injEq] at H
    obtain ⟨rfl, rfl, rfl, rfl, rfl, rfl, rfl, rfl, rfl⟩ := H
    have hnb11 := NB105_106.out
    have hnc11 := NB106_105.out
    obtain ⟨hcz12_0, hcz12_1, hcz12_2, hcz12_3, hcz12_4, hcz12_5, hcz12_6, hcz12_7, hcz12_8, hfz12_0, hfz12_1, hfz12_2, hfz12_3, hfz12_4, hfz12_5, hfz12_6, hfz12_7, hfz12_8⟩ := cz9 BK105.out
    try go_wp2
    replace HO_3 := am (Kd.R_drew HO_3.out)
    replace BK105 := am (blk_drew BK105.out)
    replace BK106 := am (blk_drew BK106.out)
    replace HB := am (below_drew1 HB.out)
    refine start_ (n := 20) (S := fun w' => w'.cell? ⟨gb105, 0, none⟩ = some (.int .i64 a0_0) ∧ w'.cell? ⟨gb105, 1, none⟩ = some (.string a0_1) ∧ w'.cell? ⟨gb105, 2, none⟩ = some (.string a0_2) ∧ w'.cell? ⟨gb105, 3, none⟩ = some (.string a0_3) ∧ w'.cell? ⟨gb105, 4, none⟩ = some (.int .i64 a0_4) ∧ w'.cell? ⟨gb105, 5, none⟩ = some (.int .i64 a0_5) ∧ w'.cell? ⟨gb105, 6, none⟩ = some (.string a0_6) ∧ w'.cell? ⟨gb105, 7, none⟩ = some (.slice A0_7 l0_7.length c0_7) ∧ w'.cell? ⟨gb105, 8, none⟩ = some (.slice A0_8 l0_8.length c0_8)) (ds := []) #[false, false, false, false, false, false, false, false, false, false, false, false, false, false, false, false, false, false, false, false] (by kernel_rfl) rfl rfl ⟨(blk_cell BK105.out 0).trans rfl, (blk_cell BK105.out 1).trans rfl, (blk_cell BK105.out 2).trans rfl, (blk_cell BK105.out 3).trans rfl, (blk_cell BK105.out 4).trans rfl, (blk_cell BK105.out 5).trans rfl, (blk_cell BK105.out 6).trans rfl, (blk_cell BK105.out 7).trans rfl, (blk_cell BK105.out 8).trans rfl⟩ (fun hHeld => ?_); refine with_tabW stowagelaw16_Ref.tab6 stowagelaw16_Ref.bits6 (fun HT_ HW_ => ?_)
    generalize wr.drew = w13 at HO_3 BK105 BK106 HB hHeld ⊢
    refine pu 0 (some 20) HT_.out ?_
    refine pu 2 (some 22) HT_.out ?_
    refine pu 4 (some 24) HT_.out ?_
    refine pu 6 (some 26) HT_.out ?_
    refine pu 8 (some 28) HT_.out ?_
    refine pu 10 (some 30) HT_.out ?_
    refine pu 12 (some 32) HT_.out ?_
    refine pu 14 (some 34) HT_.out ?_
    refine pu 17 (some 37) HT_.out ?_
    refine tk 1 (some 21) HT_.out HW_.out hHeld ?_
    refine tk 3 (some 23) HT_.out HW_.out hHeld ?_
    refine tk 5 (some 25) HT_.out HW_.out hHeld ?_
    refine tk 7 (some 27) HT_.out HW_.out hHeld ?_
    refine tk 9 (some 29) HT_.out HW_.out hHeld ?_
    refine tk 11 (some 31) HT_.out HW_.out hHeld ?_
    refine tk 13 (some 33) HT_.out HW_.out hHeld ?_
    refine tk 15 (some 35) HT_.out HW_.out hHeld ?_
    refine one_ (i := 16) (N := some 36) #[true, true, true, true, true, true, true, true, true, true, true, true, true, true, true, true, true, true, false, false] rfl rfl (one_of HT_.out (by kernel_rfl)) (by decide) (fun K hK => ?_)
    refine goes_ Tryd.func25 (by kernel_rfl) rfl #[.slice A0_7 l0_7.length c0_7] (by rfl) rfl rfl gl ?_
    with_reducible refine (stowagelaw13_Piece.calls k1 _ _ l0_7 t111 _ ?side1 ?side2 A10.out).mono ?_
    (case side1 => exact kC (Kd.C_below HR0_7.out HB.out))
    (case side2 => exact HC0_7.out)
    rintro e w14 ⟨v112, rfl, ho0, hb⟩
    refine ⟨_, rfl, ?_⟩
    replace HO_3 := am (Kd.R_below (kR HO_3.out) hb)
    have HO113 := am (Kd.R_lower ho0 (below_size (bws HB.out)))
    replace BK105 := bb BK105.out hb
    replace BK106 := bb BK106.out hb
    replace HB := am (below_step (bws HB.out) hb)
    (try clear hb)
    (try clear hb2)
    (try clear hk)
    (try clear hi)
    (try clear ho0)
    obtain ⟨Ao15, co15, eo15⟩ := Kd.R_slice HO_3.out
    (first | subst eo15 | (injection eo15 with f1_ f2_ f3_; have f4_ := f1_.symm; have f5_ := f3_.symm; clear f1_ f2_ f3_; subst f4_; subst f5_))
    obtain ⟨Ao16, co16, eo16⟩ := Kd.R_slice HO113.out
    (first | subst eo16 | (injection eo16 with f1_ f2_ f3_; have f4_ := f1_.symm; have f5_ := f3_.symm; clear f1_ f2_ f3_; subst f4_; subst f5_))
    refine hK.out _ _ ⟨(blk_cell BK105.out 0).trans rfl, (blk_cell BK105.out 1).trans rfl, (blk_cell BK105.out 2).trans rfl, (blk_cell BK105.out 3).trans rfl, (blk_cell BK105.out 4).trans rfl, (blk_cell BK105.out 5).trans rfl, (blk_cell BK105.out 6).trans rfl, (blk_cell BK105.out 7).trans rfl, (blk_cell BK105.out 8).trans rfl⟩ (fun hHeld => ?_)
    clear hK K
    refine norm_ (a' := ?_) ?_ ?_
    rotate_left
    ·
     show Act.put _ (some 36) _ = _
     simp only [Act.put, List.setIfInBounds_toArray, List.set_cons_zero, List.set_cons_succ, i64_w, i32_w]
     rfl
    refine pu 18 (some 38) HT_.out ?_
    refine one_ (i := 19) (N := none) #[true, true, true, true, true, true, true, true, true, true, true, true, true, true, true, true, true, true, true, true] rfl rfl (one_of HT_.out (by kernel_rfl)) (by decide) (fun K hK => ?_)
    have hs17 : w14.cell? ⟨gb106, 0, none⟩ = some (.int .i64 0) := (blk_cell BK106.out 0).trans rfl
    have hfs17 := blk_frozen BK106.out 0
    have hns17_0 := NB105_106.out
    have hms17_0 := NB106_105.out
    have hs18 : w14.cell? ⟨gb106, 1, none⟩ = some (.string (⟨#[]⟩ : ByteArray)) := (blk_cell BK106.out 1).trans rfl
    have hfs18 := blk_frozen BK106.out 1
    have hns18_0 := NB105_106.out
    have hms18_0 := NB106_105.out
    have hs19 : w14.cell? ⟨gb106, 2, none⟩ = some (.string (⟨#[]⟩ : ByteArray)) := (blk_cell BK106.out 2).trans rfl
    have hfs19 := blk_frozen BK106.out 2
    have hns19_0 := NB105_106.out
    have hms19_0 := NB106_105.out
    have hs20 : w14.cell? ⟨gb106, 3, none⟩ = some (.string (⟨#[]⟩ : ByteArray)) := (blk_cell BK106.out 3).trans rfl
    have hfs20 := blk_frozen BK106.out 3
    have hns20_0 := NB105_106.out
    have hms20_0 := NB106_105.out
    have hs21 : w14.cell? ⟨gb106, 4, none⟩ = some (.int .i64 0) := (blk_cell BK106.out 4).trans rfl
    have hfs21 := blk_frozen BK106.out 4
    have hns21_0 := NB105_106.out
    have hms21_0 := NB106_105.out
    have hs22 : w14.cell? ⟨gb106, 5, none⟩ = some (.int .i64 0) := (blk_cell BK106.out 5).trans rfl
    have hfs22 := blk_frozen BK106.out 5
    have hns22_0 := NB105_106.out
    have hms22_0 := NB106_105.out
    have hs23 : w14.cell? ⟨gb106, 6, none⟩ = some (.string (⟨#[]⟩ : ByteArray)) := (blk_cell BK106.out 6).trans rfl
    have hfs23 := blk_frozen BK106.out 6
    have hns23_0 := NB105_106.out
    have hms23_0 := NB106_105.out
    have hs24 : w14.cell? ⟨gb106, 7, none⟩ = some (.slice none 0 0) := (blk_cell BK106.out 7).trans rfl
    have hfs24 := blk_frozen BK106.out 7
    have hns24_0 := NB105_106.out
    have hms24_0 := NB106_105.out
    have hs25 : w14.cell? ⟨gb106, 8, none⟩ = some (.slice none 0 0) := (blk_cell BK106.out 8).trans rfl
    have hfs25 := blk_frozen BK106.out 8
    have hns25_0 := NB105_106.out
    have hms25_0 := NB106_105.out
    refine skip_ (w1 := ?_) (by rfl) rfl ?_ ?_
    rotate_left
    ·
     go_simp
     rfl
    refine hK.out _ _ ⟨((cell_far (p := ⟨gb106, _, none⟩) NB105_106.out _).trans (((cell_far (p := ⟨gb106, _, none⟩) NB105_106.out _).trans (((cell_far (p := ⟨gb106, _, none⟩) NB105_106.out _).trans (((cell_far (p := ⟨gb106, _, none⟩) NB105_106.out _).trans (((cell_far (p := ⟨gb106, _, none⟩) NB105_106.out _).trans (((cell_far (p := ⟨gb106, _, none⟩) NB105_106.out _).trans (((cell_far (p := ⟨gb106, _, none⟩) NB105_106.out _).trans (((cell_far (p := ⟨gb106, _, none⟩) NB105_106.out _).trans (((cell_far (p := ⟨gb106, _, none⟩) NB105_106.out _).trans (hHeld.1)))))))))))))))))), ((cell_far (p := ⟨gb106, _, none⟩) NB105_106.out _).trans (((cell_far (p := ⟨gb106, _, none⟩) NB105_106.out _).trans (((cell_far (p := ⟨gb106, _, none⟩) NB105_106.out _).trans (((cell_far (p := ⟨gb106, _, none⟩) NB105_106.out _).trans (((cell_far (p := ⟨gb106, _, none⟩) NB105_106.out _).trans (((cell_far (p := ⟨gb106, _, none⟩) NB105_106.out _).trans (((cell_far (p := ⟨gb106, _, none⟩) NB105_106.out _).trans (((cell_far (p := ⟨gb106, _, none⟩) NB105_106.out _).trans (((cell_far (p := ⟨gb106, _, none⟩) NB105_106.out _).trans (hHeld.2.1)))))))))))))))))), ((cell_far (p := ⟨gb106, _, none⟩) NB105_106.out _).trans (((cell_far (p := ⟨gb106, _, none⟩) NB105_106.out _).trans (((cell_far (p := ⟨gb106, _, none⟩) NB105_106.out _).trans (((cell_far (p := ⟨gb106, _, none⟩) NB105_106.out _).trans (((cell_far (p := ⟨gb106, _, none⟩) NB105_106.out _).trans (((cell_far (p := ⟨gb106, _, none⟩) NB105_106.out _).trans (((cell_far (p := ⟨gb106, _, none⟩) NB105_106.out _).trans (((cell_far (p := ⟨gb106, _, none⟩) NB105_106.out _).trans (((cell_far (p := ⟨gb106, _, none⟩) NB105_106.out _).trans (hHeld.2.2.1)))))))))))))))))), ((cell_far (p := ⟨gb106, _, none⟩) NB105_106.out _).trans (((cell_far (p := ⟨gb106, _, none⟩) NB105_106.out _).trans (((cell_far (p := ⟨gb106, _, none⟩) NB105_106.out _).trans (((cell_far (p := ⟨gb106, _, none⟩) NB105_106.out _).trans (((cell_far (p := ⟨gb106, _, none⟩) NB105_106.out _).trans (((cell_far (p := ⟨gb106, _, none⟩) NB105_106.out _).trans (((cell_far (p := ⟨gb106, _, none⟩) NB105_106.out _).trans (((cell_far (p := ⟨gb106, _, none⟩) NB105_106.out _).trans (((cell_far (p := ⟨gb106, _, none⟩) NB105_106.out _).trans (hHeld.2.2.2.1)))))))))))))))))), ((cell_far (p := ⟨gb106, _, none⟩) NB105_106.out _).trans (((cell_far (p := ⟨gb106, _, none⟩) NB105_106.out _).trans (((cell_far (p := ⟨gb106, _, none⟩) NB105_106.out _).trans (((cell_far (p := ⟨gb106, _, none⟩) NB105_106.out _).trans (((cell_far (p := ⟨gb106, _, none⟩) NB105_106.out _).trans (((cell_far (p := ⟨gb106, _, none⟩) NB105_106.out _).trans (((cell_far (p := ⟨gb106, _, none⟩) NB105_106.out _).trans (((cell_far (p := ⟨gb106, _, none⟩) NB105_106.out _).trans (((cell_far (p := ⟨gb106, _, none⟩) NB105_106.out _).trans (hHeld.2.2.2.2.1)))))))))))))))))), ((cell_far (p := ⟨gb106, _, none⟩) NB105_106.out _).trans (((cell_far (p := ⟨gb106, _, none⟩) NB105_106.out _).trans (((cell_far (p := ⟨gb106, _, none⟩) NB105_106.out _).trans (((cell_far (p := ⟨gb106, _, none⟩) NB105_106.out _).trans (((cell_far (p := ⟨gb106, _, none⟩) NB105_106.out _).trans (((cell_far (p := ⟨gb106, _, none⟩) NB105_106.out _).trans (((cell_far (p := ⟨gb106, _, none⟩) NB105_106.out _).trans (((cell_far (p := ⟨gb106, _, none⟩) NB105_106.out _).trans (((cell_far (p := ⟨gb106, _, none⟩) NB105_106.out _).trans (hHeld.2.2.2.2.2.1)))))))))))))))))), ((cell_far (p := ⟨gb106, _, none⟩) NB105_106.out _).trans (((cell_far (p := ⟨gb106, _, none⟩) NB105_106.out _).trans (((cell_far (p := ⟨gb106, _, none⟩) NB105_106.out _).trans (((cell_far (p := ⟨gb106, _, none⟩) NB105_106.out _).trans (((cell_far (p := ⟨gb106, _, none⟩) NB105_106.out _).trans (((cell_far (p := ⟨gb106, _, none⟩) NB105_106.out _).trans (((cell_far (p := ⟨gb106, _, none⟩) NB105_106.out _).trans (((cell_far (p := ⟨gb106, _, none⟩) NB105_106.out _).trans (((cell_far (p := ⟨gb106, _, none⟩) NB105_106.out _).trans (hHeld.2.2.2.2.2.2.1)))))))))))))))))), ((cell_far (p := ⟨gb106, _, none⟩) NB105_106.out _).trans (((cell_far (p := ⟨gb106, _, none⟩) NB105_106.out _).trans (((cell_far (p := ⟨gb106, _, none⟩) NB105_106.out _).trans (((cell_far (p := ⟨gb106, _, none⟩) NB105_106.out _).trans (((cell_far (p := ⟨gb106, _, none⟩) NB105_106.out _).trans (((cell_far (p := ⟨gb106, _, none⟩) NB105_106.out _).trans (((cell_far (p := ⟨gb106, _, none⟩) NB105_106.out _).trans (((cell_far (p := ⟨gb106, _, none⟩) NB105_106.out _).trans (((cell_far (p := ⟨gb106, _, none⟩) NB105_106.out _).trans (hHeld.2.2.2.2.2.2.2.1)))))))))))))))))), ((cell_far (p := ⟨gb106, _, none⟩) NB105_106.out _).trans (((cell_far (p := ⟨gb106, _, none⟩) NB105_106.out _).trans (((cell_far (p := ⟨gb106, _, none⟩) NB105_106.out _).trans (((cell_far (p := ⟨gb106, _, none⟩) NB105_106.out _).trans (((cell_far (p := ⟨gb106, _, none⟩) NB105_106.out _).trans (((cell_far (p := ⟨gb106, _, none⟩) NB105_106.out _).trans (((cell_far (p := ⟨gb106, _, none⟩) NB105_106.out _).trans (((cell_far (p := ⟨gb106, _, none⟩) NB105_106.out _).trans (((cell_far (p := ⟨gb106, _, none⟩) NB105_106.out _).trans (hHeld.2.2.2.2.2.2.2.2))))))))))))))))))⟩ (fun hHeld => ?_)
    clear hK K
    refine done_ (done_of HT_.out (by kernel_rfl)) ?_
    try go_wp2
    refine bodyPost_ret (results_cell_row rfl _ _ gb106 34 #[.int .i64 a0_0, .string a0_1, .string a0_2, .string a0_3, .int .i64 a0_4, .int .i64 a0_5, .string a0_6, .slice Ao16 t111.length co16, .slice Ao15 x3_1.length co15] (0, 0) _ rfl (bkp BK106.out) Tryd.underlying34 rfl (by kernel_rfl)) rfl ?_
    exact ⟨_, _, rf, by (with_reducible repeat (first | apply Kd.R_alloc | apply Kd.R_drewN | apply Kd.R_drew)); exact Kd.R_mono (Kd.R_far (p := ⟨gb106, 8, none⟩) (Kd.R_far (p := ⟨gb106, 7, none⟩) (Kd.R_far (p := ⟨gb106, 6, none⟩) (Kd.R_far (p := ⟨gb106, 5, none⟩) (Kd.R_far (p := ⟨gb106, 4, none⟩) (Kd.R_far (p := ⟨gb106, 3, none⟩) (Kd.R_far (p := ⟨gb106, 2, none⟩) (Kd.R_far (p := ⟨gb106, 1, none⟩) (Kd.R_far (p := ⟨gb106, 0, none⟩) (Kd.R_types HO113.out BK106.out (by decide)) (fun _ hk => hk.2) (.int .i64 a0_0)) (fun _ hk => hk.2) (.string a0_1)) (fun _ hk => hk.2) (.string a0_2)) (fun _ hk => hk.2) (.string a0_3)) (fun _ hk => hk.2) (.int .i64 a0_4)) (fun _ hk => hk.2) (.int .i64 a0_5)) (fun _ hk => hk.2) (.string a0_6)) (fun _ hk => hk.2) (.slice Ao16 t111.length co16)) (fun _ hk => hk.2) (.slice Ao15 x3_1.length co15)) (fun _ hk => trivial), by (with_reducible repeat (first | apply Kd.R_alloc | apply Kd.R_drewN | apply Kd.R_drew)); exact Kd.R_mono (Kd.R_far (p := ⟨gb106, 8, none⟩) (Kd.R_far (p := ⟨gb106, 7, none⟩) (Kd.R_far (p := ⟨gb106, 6, none⟩) (Kd.R_far (p := ⟨gb106, 5, none⟩) (Kd.R_far (p := ⟨gb106, 4, none⟩) (Kd.R_far (p := ⟨gb106, 3, none⟩) (Kd.R_far (p := ⟨gb106, 2, none⟩) (Kd.R_far (p := ⟨gb106, 1, none⟩) (Kd.R_far (p := ⟨gb106, 0, none⟩) (Kd.R_types HO_3.out BK106.out (by decide)) (fun _ hk => hk.2) (.int .i64 a0_0)) (fun _ hk => hk.2) (.string a0_1)) (fun _ hk => hk.2) (.string a0_2)) (fun _ hk => hk.2) (.string a0_3)) (fun _ hk => hk.2) (.int .i64 a0_4)) (fun _ hk => hk.2) (.int .i64 a0_5)) (fun _ hk => hk.2) (.string a0_6)) (fun _ hk => hk.2) (.slice Ao16 t111.length co16)) (fun _ hk => hk.2) (.slice Ao15 x3_1.length co15)) (fun _ hk => trivial), bws HB.out⟩
mutual
def cmd_fields.j0 : Nat → Int → Int → Bool → Option (Int)
 | 0, _, _, _ => none
 | k + 1, x3, x4, x5 => if x5 = true then (some 3) else (if x4 = 3 then (some (Go.bits .or .i64 (Go.bits .or .i64 x3 32) 64)) else (if x4 = 4 then (cmd_fields.j1 k x3 x4 (x4 == 4)) else (cmd_fields.j1 k x3 x4 (x4 == 6))))
def cmd_fields.j1 : Nat → Int → Int → Bool → Option (Int)
 | 0, _, _, _ => none
 | k + 1, x3, x4, x13 => if x13 = true then (some x3) else (if x4 = 5 then (cmd_fields.j2 k x3 x4 (x4 == 5)) else (cmd_fields.j2 k x3 x4 (x4 == 9)))
def cmd_fields.j2 : Nat → Int → Int → Bool → Option (Int)
 | 0, _, _, _ => none
 | k + 1, x3, x4, x17 => if x17 = true then (some (Go.bits .or .i64 x3 8)) else (if x4 = 7 then (some (Go.bits .or .i64 (Go.bits .or .i64 (Go.bits .or .i64 (Go.bits .or .i64 x3 8) 16) 32) 64)) else (if x4 = 8 then (some (Go.bits .or .i64 (Go.bits .or .i64 x3 8) 128)) else (if x4 = 10 then (some 8) else (some 0))))
end
def cmd_fields.f (k : Nat) (a0 : Int) : Option (Int) := if a0 = 1 then (cmd_fields.j0 k 7 a0 (a0 == 1)) else (cmd_fields.j0 k 7 a0 (a0 == 2))
theorem cmd_fields.mono_l : ∀ k, (∀ y0 y1 y2, LeO (cmd_fields.j0 k y0 y1 y2) (cmd_fields.j0 (k + 1) y0 y1 y2)) ∧ (∀ y0 y1 y2, LeO (cmd_fields.j1 k y0 y1 y2) (cmd_fields.j1 (k + 1) y0 y1 y2)) ∧ (∀ y0 y1 y2, LeO (cmd_fields.j2 k y0 y1 y2) (cmd_fields.j2 (k + 1) y0 y1 y2))
 | 0 => ⟨fun _ _ _ r h => by simp [cmd_fields.j0] at h, fun _ _ _ r h => by simp [cmd_fields.j1] at h, fun _ _ _ r h => by simp [cmd_fields.j2] at h⟩
 | k + 1 => by
  obtain ⟨ih0, ih1, ih2⟩ := cmd_fields.mono_l k
  refine ⟨?_, ?_, ?_⟩
  all_goals intros
  all_goals first | unfold cmd_fields.j0 | unfold cmd_fields.j1 | unfold cmd_fields.j2
  all_goals repeat' (with_reducible first | exact ih0 _ _ _ | exact ih1 _ _ _ | exact ih2 _ _ _ | exact LeO.refl _ | exact LeO.none _ | refine LeO.ite ?_ ?_ | refine LeO.bind ?_ (fun _ => ?_))
theorem cmd_fields.mono : ∀ a0 k, LeO (cmd_fields.f k a0) (cmd_fields.f (k + 1) a0) := by
 intro a0 k
 obtain ⟨ih0, ih1, ih2⟩ := cmd_fields.mono_l k
 unfold cmd_fields.f
 repeat' (with_reducible first | exact ih0 _ _ _ | exact ih1 _ _ _ | exact ih2 _ _ _ | exact LeO.refl _ | exact LeO.none _ | refine LeO.ite ?_ ?_ | refine LeO.bind ?_ (fun _ => ?_))
set_option maxHeartbeats 8000000 in
set_option maxRecDepth 100000 in
theorem cmd_fields.calls (k : Nat) (a0 : Int) (r : Int) (w : World) (h : cmd_fields.f k a0 = some r) :
  Calls Tryd.prog 30 #[.int .i64 a0] w fun e w' => e = .returned (.int .i64 r) ∧ Drawn0 w w' := by
 have H := h
 clear h
 unfold cmd_fields.f at H
 have HC2 := am H
 clear H
 go_enter Tryd.func30, Tryd.ntmps30
 go_upto_if 5 with (fail)
 go_cut [5] (fun v5 wc => ∃ (kq : Nat) (x5_1 : Bool), v5 = .bool x5_1 ∧ Aside0 (cmd_fields.j0 kq 7 a0 x5_1 = some r) ∧ Aside0 (kq ≤ k) ∧ Drawn0 w wc)
 case first =>
  have H := HC2.out
  clear HC2
  by_cases c3 : a0 = 1
  ·
   rw [if_pos c3] at H
   have c3b0 := beq_iff_eq.mpr c3
   have c3b1 := bne_eq_false_iff_eq.mpr c3
   clear c3
   (first | rw [c3b0] | (simp only [i64_w, i32_w]; rw [c3b0]) | skip)
   have H' := am H
   clear H
   go_wp2
   go_meet
   case rel => exact ⟨_, ((a0 == 1)), rs, H', ⟨om⟩, by repeat (first | exact Drawn0.refl _ | apply Drawn0.step)⟩
  ·
   rw [if_neg c3] at H
   have c3b0 := beq_eq_false_iff_ne.mpr c3
   have c3b1 := bne_iff_ne.mpr c3
   (first | rw [c3b0] | (simp only [i64_w, i32_w]; rw [c3b0]) | skip)
   have H' := am H
   clear H
   go_wp2
   go_meet
   case rel => exact ⟨_, ((a0 == 2)), rs, H', ⟨om⟩, by repeat (first | exact Drawn0.refl _ | apply Drawn0.step)⟩
 case rest =>
  clear HC2
  obtain ⟨kq, x5_1, rfl, HA, HJ1, ⟨mc1, rfl⟩⟩ := hcut
  cases kq with
  | zero => exact absurd HA.out (by simp [cmd_fields.j0])
  | succ kj1 =>
   have H := HA.out
   clear HA
   simp only [cmd_fields.j0] at H
   by_cases c4 : x5_1 = true
   ·
    subst c4
    rw [if_pos rfl] at H
    obtain rfl := Option.some.inj H
    go_wp2
    go_ret
    exact ⟨by first | rfl | (simp; done) | (simp [*]; done), by repeat (first | exact Drawn0.refl _ | apply Drawn0.step)⟩
   ·
    replace c4 := Bool.eq_false_iff.mpr c4
    subst c4
    rw [if_neg (show ¬ (false = true) by decide)] at H
    by_cases c5 : a0 = 3
    ·
     rw [if_pos c5] at H
     have c5b0 := beq_iff_eq.mpr c5
     have c5b1 := bne_eq_false_iff_eq.mpr c5
     clear c5
     obtain rfl := Option.some.inj H
     go_wp2
     go_ret
     exact ⟨by first | rfl | (simp; done) | (simp [*]; done), by repeat (first | exact Drawn0.refl _ | apply Drawn0.step)⟩
    ·
     rw [if_neg c5] at H
     have c5b0 := beq_eq_false_iff_ne.mpr c5
     have c5b1 := bne_iff_ne.mpr c5
     have HC6 := am H
     clear H
     go_upto_if 13 with (fail)
     go_cut [13] (fun v13 wc => ∃ (kq : Nat) (x13_5 : Bool), v13 = .bool x13_5 ∧ Aside0 (cmd_fields.j1 kq 7 a0 x13_5 = some r) ∧ Aside0 (kq ≤ kj1) ∧ Drawn0 w wc)
     case first =>
      have H := HC6.out
      clear HC6
      by_cases c7 : a0 = 4
      ·
       rw [if_pos c7] at H
       have c7b0 := beq_iff_eq.mpr c7
       have c7b1 := bne_eq_false_iff_eq.mpr c7
       clear c7
       (first | rw [c7b0] | (simp only [i64_w, i32_w]; rw [c7b0]) | skip)
       have H' := am H
       clear H
       go_wp2
       go_meet
       case rel => exact ⟨_, ((a0 == 4)), rs, H', ⟨by have := HJ1.out; first | omega | exact Nat.le_refl _⟩, by repeat (first | exact Drawn0.refl _ | apply Drawn0.step)⟩
      ·
       rw [if_neg c7] at H
       have c7b0 := beq_eq_false_iff_ne.mpr c7
       have c7b1 := bne_iff_ne.mpr c7
       (first | rw [c7b0] | (simp only [i64_w, i32_w]; rw [c7b0]) | skip)
       have H' := am H
       clear H
       go_wp2
       go_meet
       case rel => exact ⟨_, ((a0 == 6)), rs, H', ⟨by have := HJ1.out; first | omega | exact Nat.le_refl _⟩, by repeat (first | exact Drawn0.refl _ | apply Drawn0.step)⟩
     case rest =>
      clear HC6
      try clear c4
      try clear c5
      try clear c5b0
      try clear c5b1
      obtain ⟨kq, x13_5, rfl, HA, HJ5, ⟨mc5, rfl⟩⟩ := hcut
      cases kq with
      | zero => exact absurd HA.out (by simp [cmd_fields.j1])
      | succ kj5 =>
       have H := HA.out
       clear HA
       simp only [cmd_fields.j1] at H
       by_cases c8 : x13_5 = true
       ·
        subst c8
        rw [if_pos rfl] at H
        obtain rfl := Option.some.inj H
        go_wp2
        go_ret
        exact ⟨by first | rfl | (simp; done) | (simp [*]; done), by repeat (first | exact Drawn0.refl _ | apply Drawn0.step)⟩
       ·
        replace c8 := Bool.eq_false_iff.mpr c8
        subst c8
        rw [if_neg (show ¬ (false = true) by decide)] at H
        have HC9 := am H
        clear H
        go_upto_if 17 with (fail)
        go_cut [17] (fun v17 wc => ∃ (kq : Nat) (x17_8 : Bool), v17 = .bool x17_8 ∧ Aside0 (cmd_fields.j2 kq 7 a0 x17_8 = some r) ∧ Aside0 (kq ≤ kj5) ∧ Drawn0 w wc)
        case first =>
         have H := HC9.out
         clear HC9
         by_cases c10 : a0 = 5
         ·
          rw [if_pos c10] at H
          have c10b0 := beq_iff_eq.mpr c10
          have c10b1 := bne_eq_false_iff_eq.mpr c10
          clear c10
          (first | rw [c10b0] | (simp only [i64_w, i32_w]; rw [c10b0]) | skip)
          have H' := am H
          clear H
          go_wp2
          go_meet
          case rel => exact ⟨_, ((a0 == 5)), rs, H', ⟨by have := HJ1.out; have := HJ5.out; first | omega | exact Nat.le_refl _⟩, by repeat (first | exact Drawn0.refl _ | apply Drawn0.step)⟩
         ·
          rw [if_neg c10] at H
          have c10b0 := beq_eq_false_iff_ne.mpr c10
          have c10b1 := bne_iff_ne.mpr c10
          (first | rw [c10b0] | (simp only [i64_w, i32_w]; rw [c10b0]) | skip)
          have H' := am H
          clear H
          go_wp2
          go_meet
          case rel => exact ⟨_, ((a0 == 9)), rs, H', ⟨by have := HJ1.out; have := HJ5.out; first | omega | exact Nat.le_refl _⟩, by repeat (first | exact Drawn0.refl _ | apply Drawn0.step)⟩
        case rest =>
         clear HC9
         try clear c4
         try clear c5
         try clear c5b0
         try clear c5b1
         try clear c8
         obtain ⟨kq, x17_8, rfl, HA, HJ8, ⟨mc8, rfl⟩⟩ := hcut
         cases kq with
         | zero => exact absurd HA.out (by simp [cmd_fields.j2])
         | succ kj8 =>
          have H := HA.out
          clear HA
          simp only [cmd_fields.j2] at H
          by_cases c11 : x17_8 = true
          ·
           subst c11
           rw [if_pos rfl] at H
           obtain rfl := Option.some.inj H
           go_wp2
           go_ret
           exact ⟨by first | rfl | (simp; done) | (simp [*]; done), by repeat (first | exact Drawn0.refl _ | apply Drawn0.step)⟩
          ·
           replace c11 := Bool.eq_false_iff.mpr c11
           subst c11
           rw [if_neg (show ¬ (false = true) by decide)] at H
           by_cases c12 : a0 = 7
           ·
            rw [if_pos c12] at H
            have c12b0 := beq_iff_eq.mpr c12
            have c12b1 := bne_eq_false_iff_eq.mpr c12
            clear c12
            obtain rfl := Option.some.inj H
            go_wp2
            go_ret
            exact ⟨by first | rfl | (simp; done) | (simp [*]; done), by repeat (first | exact Drawn0.refl _ | apply Drawn0.step)⟩
           ·
            rw [if_neg c12] at H
            have c12b0 := beq_eq_false_iff_ne.mpr c12
            have c12b1 := bne_iff_ne.mpr c12
            by_cases c13 : a0 = 8
            ·
             rw [if_pos c13] at H
             have c13b0 := beq_iff_eq.mpr c13
             have c13b1 := bne_eq_false_iff_eq.mpr c13
             clear c13
             obtain rfl := Option.some.inj H
             go_wp2
             go_ret
             exact ⟨by first | rfl | (simp; done) | (simp [*]; done), by repeat (first | exact Drawn0.refl _ | apply Drawn0.step)⟩
            ·
             rw [if_neg c13] at H
             have c13b0 := beq_eq_false_iff_ne.mpr c13
             have c13b1 := bne_iff_ne.mpr c13
             by_cases c14 : a0 = 10
             ·
              rw [if_pos c14] at H
              have c14b0 := beq_iff_eq.mpr c14
              have c14b1 := bne_eq_false_iff_eq.mpr c14
              clear c14
              obtain rfl := Option.some.inj H
              go_wp2
              go_ret
              exact ⟨by first | rfl | (simp; done) | (simp [*]; done), by repeat (first | exact Drawn0.refl _ | apply Drawn0.step)⟩
             ·
              rw [if_neg c14] at H
              have c14b0 := beq_eq_false_iff_ne.mpr c14
              have c14b1 := bne_iff_ne.mpr c14
              obtain rfl := Option.some.inj H
              go_wp2
              go_ret
              exact ⟨by first | rfl | (simp; done) | (simp [*]; done), by repeat (first | exact Drawn0.refl _ | apply Drawn0.step)⟩
end Go.Proofs.YtdidopoalmkhlaaDoor.Or
end
section
namespace Go.Proofs.YtdidopoalmkhlaaDoor.Or
open Go.RowKit Go.Proofs.YtdidopoalmkhlaaDoorW.PrintWords Go.Proofs.YtdidopoalmkhlaaDoorW.PrintLast Go.Proofs.YtdidopoalmkhlaaDoorW.PrintMore
attribute [local go_sem] max2_int min2_int max_two min_two max_three min_three max_four min_four
set_option linter.unusedVariables false
set_option linter.unusedSimpArgs false
attribute [local go_sem high] eqA62 eqA82
def api_Piece_68.l0 : Nat → List (S82) → List (S82) → Int → Int → Option (Bool)
 | 0, _, _, _, _ => none
 | k + 1, x0, x1, x12, x13 => if x13 < x12 then (if 0 ≤ x13 then (if x13 < (x0.length : Int) then (if x13 < (x1.length : Int) then (if (!((((rd_T82 x0 x13).f0).toList) == (((rd_T82 x1 x13).f0).toList)) || (!(((rd_T82 x0 x13).f1) == ((rd_T82 x1 x13).f1)))) = true then (some false) else (api_Piece_68.l0 k x0 x1 x12 (wrap64 (x13 + 1)))) else (none)) else (none)) else (none)) else (some true)
def api_Piece_68.f (k : Nat) (l0 : List (S82)) (l1 : List (S82)) : Option (Bool) := if (l0.length : Int) = (l1.length : Int) then (api_Piece_68.l0 k l0 l1 (l0.length : Int) 0) else (some false)
theorem api_Piece_68.mono_l : ∀ k, (∀ y0 y1 y2 y3, LeO (api_Piece_68.l0 k y0 y1 y2 y3) (api_Piece_68.l0 (k + 1) y0 y1 y2 y3))
 | 0 => fun _ _ _ _ r h => by simp [api_Piece_68.l0] at h
 | k + 1 => by
  have ih0 := api_Piece_68.mono_l k
  ·
   intro y0 y1 y2 y3
   unfold api_Piece_68.l0
   repeat' (with_reducible first | exact ih0 _ _ _ _ | exact LeO.refl _ | exact LeO.none _ | refine LeO.ite ?_ ?_ | refine LeO.bind ?_ (fun _ => ?_))
theorem api_Piece_68.mono : ∀ a0 a1 k, LeO (api_Piece_68.f k a0 a1) (api_Piece_68.f (k + 1) a0 a1) := by
 intro a0 a1 k
 have ih0 := api_Piece_68.mono_l k
 unfold api_Piece_68.f
 repeat' (with_reducible first | exact ih0 _ _ _ _ | exact LeO.refl _ | exact LeO.none _ | refine LeO.ite ?_ ?_ | refine LeO.bind ?_ (fun _ => ?_))
set_option maxHeartbeats 8000000 in
set_option maxRecDepth 100000 in
theorem api_Piece_68.calls (k : Nat) (A0 : Option Addr) (c0 : Nat) (l0 : List (S82)) (A1 : Option Addr) (c1 : Nat) (l1 : List (S82)) (r : Bool) (w : World) (hr0 : Kd.C k82 w A0 l0.length l0) (hc0 : l0.length ≤ c0) (hr1 : Kd.C k82 w A1 l1.length l1) (hc1 : l1.length ≤ c1) (h : api_Piece_68.f k l0 l1 = some r) :
  Calls Tryd.prog 68 #[.slice A0 l0.length c0, .slice A1 l1.length c1] w fun e w' => e = .returned (.bool r) ∧ Drawn0 w w' := by
 have hu82 := Tryd.underlying82
 have HR0 := am hr0
 have HC0 := am hc0
 clear hr0 hc0
 have HR1 := am hr1
 have HC1 := am hc1
 clear hr1 hc1
 have H := h
 clear h
 unfold api_Piece_68.f at H
 by_cases c3 : (l0.length : Int) = (l1.length : Int)
 ·
  rw [if_pos c3] at H
  have c3b0 := beq_iff_eq.mpr c3
  have c3b1 := bne_eq_false_iff_eq.mpr c3
  have c3b2 : (l0.length == l1.length) = true := by first | simpa using c3 | (simp at c3 ⊢; omega)
  clear c3
  have H' := am H
  clear H
  go_enter Tryd.func68, Tryd.ntmps68
  go_wp2
  repeat (go_quiet (fail); try go_wp2)
  go_loopg [13] k (fun kq v13 w' => ∃ (x13_1 : Int), v13 = .int .i64 x13_1 ∧ Aside0 (api_Piece_68.l0 kq l0 l1 (l0.length : Int) x13_1 = some r) ∧ Aside0 (kq ≤ k) ∧ Drawn0 w w')
  case atStart => exact ⟨(0), rs, H', ⟨Nat.le_refl _⟩, by repeat (first | exact Drawn0.refl _ | apply Drawn0.step)⟩
  case round =>
   clear H'
   try clear c3
   try clear c3b0
   try clear c3b1
   try clear c3b2
   obtain ⟨x13_1, rfl, HA, HK1, ⟨m1, rfl⟩⟩ := hrel
   cases gk with
   | zero => exact absurd HA.out (by simp [api_Piece_68.l0])
   | succ k1 =>
    have H := HA.out
    clear HA
    simp only [api_Piece_68.l0] at H
    replace H := iteD H
    rcases H with ⟨c4b0, H⟩ | ⟨c4b0, H⟩
    ·
     replace H := iteD H
     rcases H with ⟨c5b0, H⟩ | ⟨_, H⟩
     ·
      replace H := iteD H
      rcases H with ⟨c6b0, H⟩ | ⟨_, H⟩
      ·
       replace H := iteD H
       rcases H with ⟨c7b0, H⟩ | ⟨_, H⟩
       ·
        by_cases c8 : (!((((rd_T82 l0 x13_1).f0).toList) == (((rd_T82 l1 x13_1).f0).toList)) || (!(((rd_T82 l0 x13_1).f1) == ((rd_T82 l1 x13_1).f1)))) = true
        ·
         rw [if_pos c8] at H
         have c8b0 : (!((((rd_T82 l0 x13_1).f0).toList) == (((rd_T82 l1 x13_1).f0).toList)) || (!(((rd_T82 l0 x13_1).f1) == ((rd_T82 l1 x13_1).f1)))) = true := c8
         clear c8
         obtain rfl := Option.some.inj H
         have p114 := pz x13_1
         have q114 := pl x13_1 (l0.length : Int)
         obtain ⟨ad114, e114, hx114_0, hx114_1⟩ := at_T82 HR0.out x13_1 (of_eq_true p114) (of_eq_true q114)
         cases e114
         have p115 := pz x13_1
         have q115 := pl x13_1 (l1.length : Int)
         obtain ⟨ad115, e115, hx115_0, hx115_1⟩ := at_T82 HR1.out x13_1 (of_eq_true p115) (of_eq_true q115)
         cases e115
         go_wp2
         repeat (go_quiet (fail); try go_wp2)
         go_ret
         exact ⟨by first | rfl | (simp; done) | (simp [*]; done), by repeat (first | exact Drawn0.refl _ | apply Drawn0.step)⟩
        ·
         rw [if_neg c8] at H
         have c8b0 : (!((((rd_T82 l0 x13_1).f0).toList) == (((rd_T82 l1 x13_1).f0).toList)) || (!(((rd_T82 l0 x13_1).f1) == ((rd_T82 l1 x13_1).f1)))) = false := by simpa using c8
         clear c8
         have H' := am H
         clear H
         have p114 := pz x13_1
         have q114 := pl x13_1 (l0.length : Int)
         obtain ⟨ad114, e114, hx114_0, hx114_1⟩ := at_T82 HR0.out x13_1 (of_eq_true p114) (of_eq_true q114)
         cases e114
         have p115 := pz x13_1
         have q115 := pl x13_1 (l1.length : Int)
         obtain ⟨ad115, e115, hx115_0, hx115_1⟩ := at_T82 HR1.out x13_1 (of_eq_true p115) (of_eq_true q115)
         cases e115
         go_wp2
         repeat (go_quiet (fail); try go_wp2)
         go_roundg k1
         case measure => have := HK1.out; omega
         case rel => exact ⟨(wrap64 (x13_1 + 1)), rs, H', ⟨by have := HK1.out; omega⟩, by repeat (first | exact Drawn0.refl _ | apply Drawn0.step)⟩
       ·
        exact absurd H (by simp)
      ·
       exact absurd H (by simp)
     ·
      exact absurd H (by simp)
    ·
     obtain rfl := Option.some.inj H
     go_wp2
     repeat (go_quiet (fail); try go_wp2)
     go_ret
     exact ⟨by first | rfl | (simp; done) | (simp [*]; done), by repeat (first | exact Drawn0.refl _ | apply Drawn0.step)⟩
 ·
  rw [if_neg c3] at H
  have c3b0 := beq_eq_false_iff_ne.mpr c3
  have c3b1 := bne_iff_ne.mpr c3
  have c3b2 : (l0.length == l1.length) = false := by first | simpa using c3 | (simp at c3 ⊢; omega)
  obtain rfl := Option.some.inj H
  go_enter Tryd.func68, Tryd.ntmps68
  go_wp2
  repeat (go_quiet (fail); try go_wp2)
  go_ret
  exact ⟨by first | rfl | (simp; done) | (simp [*]; done), by repeat (first | exact Drawn0.refl _ | apply Drawn0.step)⟩
def api_Pick_69.l0 : Nat → List (S62) → List (S62) → Int → Int → Option (Bool)
 | 0, _, _, _, _ => none
 | k + 1, x0, x1, x12, x13 => if x13 < x12 then (if 0 ≤ x13 then (if x13 < (x0.length : Int) then (if x13 < (x1.length : Int) then (if (!(((rd_T62 x0 x13).f0) == ((rd_T62 x1 x13).f0)) || (!((((rd_T62 x0 x13).f1).toList) == (((rd_T62 x1 x13).f1).toList)))) = true then (some false) else (api_Pick_69.l0 k x0 x1 x12 (wrap64 (x13 + 1)))) else (none)) else (none)) else (none)) else (some true)
def api_Pick_69.f (k : Nat) (l0 : List (S62)) (l1 : List (S62)) : Option (Bool) := if (l0.length : Int) = (l1.length : Int) then (api_Pick_69.l0 k l0 l1 (l0.length : Int) 0) else (some false)
theorem api_Pick_69.mono_l : ∀ k, (∀ y0 y1 y2 y3, LeO (api_Pick_69.l0 k y0 y1 y2 y3) (api_Pick_69.l0 (k + 1) y0 y1 y2 y3))
 | 0 => fun _ _ _ _ r h => by simp [api_Pick_69.l0] at h
 | k + 1 => by
  have ih0 := api_Pick_69.mono_l k
  ·
   intro y0 y1 y2 y3
   unfold api_Pick_69.l0
   repeat' (with_reducible first | exact ih0 _ _ _ _ | exact LeO.refl _ | exact LeO.none _ | refine LeO.ite ?_ ?_ | refine LeO.bind ?_ (fun _ => ?_))
theorem api_Pick_69.mono : ∀ a0 a1 k, LeO (api_Pick_69.f k a0 a1) (api_Pick_69.f (k + 1) a0 a1) := by
 intro a0 a1 k
 have ih0 := api_Pick_69.mono_l k
 unfold api_Pick_69.f
 repeat' (with_reducible first | exact ih0 _ _ _ _ | exact LeO.refl _ | exact LeO.none _ | refine LeO.ite ?_ ?_ | refine LeO.bind ?_ (fun _ => ?_))
set_option maxHeartbeats 8000000 in
set_option maxRecDepth 100000 in
theorem api_Pick_69.calls (k : Nat) (A0 : Option Addr) (c0 : Nat) (l0 : List (S62)) (A1 : Option Addr) (c1 : Nat) (l1 : List (S62)) (r : Bool) (w : World) (hr0 : Kd.C k62 w A0 l0.length l0) (hc0 : l0.length ≤ c0) (hr1 : Kd.C k62 w A1 l1.length l1) (hc1 : l1.length ≤ c1) (h : api_Pick_69.f k l0 l1 = some r) :
  Calls Tryd.prog 69 #[.slice A0 l0.length c0, .slice A1 l1.length c1] w fun e w' => e = .returned (.bool r) ∧ Drawn0 w w' := by
 have hu62 := Tryd.underlying62
 have HR0 := am hr0
 have HC0 := am hc0
 clear hr0 hc0
 have HR1 := am hr1
 have HC1 := am hc1
 clear hr1 hc1
 have H := h
 clear h
 unfold api_Pick_69.f at H
 by_cases c3 : (l0.length : Int) = (l1.length : Int)
 ·
  rw [if_pos c3] at H
  have c3b0 := beq_iff_eq.mpr c3
  have c3b1 := bne_eq_false_iff_eq.mpr c3
  have c3b2 : (l0.length == l1.length) = true := by first | simpa using c3 | (simp at c3 ⊢; omega)
  clear c3
  have H' := am H
  clear H
  go_enter Tryd.func69, Tryd.ntmps69
  go_wp2
  repeat (go_quiet (fail); try go_wp2)
  go_loopg [13] k (fun kq v13 w' => ∃ (x13_1 : Int), v13 = .int .i64 x13_1 ∧ Aside0 (api_Pick_69.l0 kq l0 l1 (l0.length : Int) x13_1 = some r) ∧ Aside0 (kq ≤ k) ∧ Drawn0 w w')
  case atStart => exact ⟨(0), rs, H', ⟨Nat.le_refl _⟩, by repeat (first | exact Drawn0.refl _ | apply Drawn0.step)⟩
  case round =>
   clear H'
   try clear c3
   try clear c3b0
   try clear c3b1
   try clear c3b2
   obtain ⟨x13_1, rfl, HA, HK1, ⟨m1, rfl⟩⟩ := hrel
   cases gk with
   | zero => exact absurd HA.out (by simp [api_Pick_69.l0])
   | succ k1 =>
    have H := HA.out
    clear HA
    simp only [api_Pick_69.l0] at H
    replace H := iteD H
    rcases H with ⟨c4b0, H⟩ | ⟨c4b0, H⟩
    ·
     replace H := iteD H
     rcases H with ⟨c5b0, H⟩ | ⟨_, H⟩
     ·
      replace H := iteD H
      rcases H with ⟨c6b0, H⟩ | ⟨_, H⟩
      ·
       replace H := iteD H
       rcases H with ⟨c7b0, H⟩ | ⟨_, H⟩
       ·
        by_cases c8 : (!(((rd_T62 l0 x13_1).f0) == ((rd_T62 l1 x13_1).f0)) || (!((((rd_T62 l0 x13_1).f1).toList) == (((rd_T62 l1 x13_1).f1).toList)))) = true
        ·
         rw [if_pos c8] at H
         have c8b0 : (!(((rd_T62 l0 x13_1).f0) == ((rd_T62 l1 x13_1).f0)) || (!((((rd_T62 l0 x13_1).f1).toList) == (((rd_T62 l1 x13_1).f1).toList)))) = true := c8
         clear c8
         obtain rfl := Option.some.inj H
         have p116 := pz x13_1
         have q116 := pl x13_1 (l0.length : Int)
         obtain ⟨ad116, e116, hx116_0, hx116_1⟩ := at_T62 HR0.out x13_1 (of_eq_true p116) (of_eq_true q116)
         cases e116
         have p117 := pz x13_1
         have q117 := pl x13_1 (l1.length : Int)
         obtain ⟨ad117, e117, hx117_0, hx117_1⟩ := at_T62 HR1.out x13_1 (of_eq_true p117) (of_eq_true q117)
         cases e117
         go_wp2
         repeat (go_quiet (fail); try go_wp2)
         go_ret
         exact ⟨by first | rfl | (simp; done) | (simp [*]; done), by repeat (first | exact Drawn0.refl _ | apply Drawn0.step)⟩
        ·
         rw [if_neg c8] at H
         have c8b0 : (!(((rd_T62 l0 x13_1).f0) == ((rd_T62 l1 x13_1).f0)) || (!((((rd_T62 l0 x13_1).f1).toList) == (((rd_T62 l1 x13_1).f1).toList)))) = false := by simpa using c8
         clear c8
         have H' := am H
         clear H
         have p116 := pz x13_1
         have q116 := pl x13_1 (l0.length : Int)
         obtain ⟨ad116, e116, hx116_0, hx116_1⟩ := at_T62 HR0.out x13_1 (of_eq_true p116) (of_eq_true q116)
         cases e116
         have p117 := pz x13_1
         have q117 := pl x13_1 (l1.length : Int)
         obtain ⟨ad117, e117, hx117_0, hx117_1⟩ := at_T62 HR1.out x13_1 (of_eq_true p117) (of_eq_true q117)
         cases e117
         go_wp2
         repeat (go_quiet (fail); try go_wp2)
         go_roundg k1
         case measure => have := HK1.out; omega
         case rel => exact ⟨(wrap64 (x13_1 + 1)), rs, H', ⟨by have := HK1.out; omega⟩, by repeat (first | exact Drawn0.refl _ | apply Drawn0.step)⟩
       ·
        exact absurd H (by simp)
      ·
       exact absurd H (by simp)
     ·
      exact absurd H (by simp)
    ·
     obtain rfl := Option.some.inj H
     go_wp2
     repeat (go_quiet (fail); try go_wp2)
     go_ret
     exact ⟨by first | rfl | (simp; done) | (simp [*]; done), by repeat (first | exact Drawn0.refl _ | apply Drawn0.step)⟩
 ·
  rw [if_neg c3] at H
  have c3b0 := beq_eq_false_iff_ne.mpr c3
  have c3b1 := bne_iff_ne.mpr c3
  have c3b2 : (l0.length == l1.length) = false := by first | simpa using c3 | (simp at c3 ⊢; omega)
  obtain rfl := Option.some.inj H
  go_enter Tryd.func69, Tryd.ntmps69
  go_wp2
  repeat (go_quiet (fail); try go_wp2)
  go_ret
  exact ⟨by first | rfl | (simp; done) | (simp [*]; done), by repeat (first | exact Drawn0.refl _ | apply Drawn0.step)⟩
def cmd_same.f (k : Nat) (a0_0 : Int) (a0_1 : ByteArray) (a0_2 : ByteArray) (a0_3 : ByteArray) (a0_4 : Int) (a0_5 : Int) (a0_6 : ByteArray) (l0_7 : List (S82)) (l0_8 : List (S62)) (a1_0 : Int) (a1_1 : ByteArray) (a1_2 : ByteArray) (a1_3 : ByteArray) (a1_4 : Int) (a1_5 : Int) (a1_6 : ByteArray) (l1_7 : List (S82)) (l1_8 : List (S62)) : Option (Bool) := if a0_0 = a1_0 then (if a0_1.toList = a1_1.toList then (if a0_2.toList = a1_2.toList then (if a0_3.toList = a1_3.toList then (if a0_4 = a1_4 then (if a0_5 = a1_5 then (if a0_6.toList = a1_6.toList then ((api_Piece_68.f k l0_7 l1_7).bind fun t120 => (if t120 = true then ((api_Pick_69.f k l0_8 l1_8).bind fun t121 => (some t121)) else (some false))) else (some false)) else (some false)) else (some false)) else (some false)) else (some false)) else (some false)) else (some false)
theorem cmd_same.mono : ∀ a0 a1 a2 a3 a4 a5 a6 a7 a8 a9 a10 a11 a12 a13 a14 a15 a16 a17 k, LeO (cmd_same.f k a0 a1 a2 a3 a4 a5 a6 a7 a8 a9 a10 a11 a12 a13 a14 a15 a16 a17) (cmd_same.f (k + 1) a0 a1 a2 a3 a4 a5 a6 a7 a8 a9 a10 a11 a12 a13 a14 a15 a16 a17) := by
 intro a0 a1 a2 a3 a4 a5 a6 a7 a8 a9 a10 a11 a12 a13 a14 a15 a16 a17 k
 unfold cmd_same.f
 repeat' (with_reducible first | exact api_Pick_69.mono _ _ _ | exact api_Piece_68.mono _ _ _ | exact LeO.refl _ | exact LeO.none _ | refine LeO.ite ?_ ?_ | refine LeO.bind ?_ (fun _ => ?_))
set_option maxHeartbeats 8000000 in
set_option maxRecDepth 100000 in
theorem cmd_same.calls (k : Nat) (a0_0 : Int) (a0_1 : ByteArray) (a0_2 : ByteArray) (a0_3 : ByteArray) (a0_4 : Int) (a0_5 : Int) (a0_6 : ByteArray) (A0_7 : Option Addr) (c0_7 : Nat) (l0_7 : List (S82)) (A0_8 : Option Addr) (c0_8 : Nat) (l0_8 : List (S62)) (a1_0 : Int) (a1_1 : ByteArray) (a1_2 : ByteArray) (a1_3 : ByteArray) (a1_4 : Int) (a1_5 : Int) (a1_6 : ByteArray) (A1_7 : Option Addr) (c1_7 : Nat) (l1_7 : List (S82)) (A1_8 : Option Addr) (c1_8 : Nat) (l1_8 : List (S62)) (r : Bool) (w : World) (hr0_7 : Kd.C k82 w A0_7 l0_7.length l0_7) (hc0_7 : l0_7.length ≤ c0_7) (hr0_8 : Kd.C k62 w A0_8 l0_8.length l0_8) (hc0_8 : l0_8.length ≤ c0_8) (hr1_7 : Kd.C k82 w A1_7 l1_7.length l1_7) (hc1_7 : l1_7.length ≤ c1_7) (hr1_8 : Kd.C k62 w A1_8 l1_8.length l1_8) (hc1_8 : l1_8.length ≤ c1_8) (h : cmd_same.f k a0_0 a0_1 a0_2 a0_3 a0_4 a0_5 a0_6 l0_7 l0_8 a1_0 a1_1 a1_2 a1_3 a1_4 a1_5 a1_6 l1_7 l1_8 = some r) :
  Calls Tryd.prog 31 #[.agg #[.int .i64 a0_0, .string a0_1, .string a0_2, .string a0_3, .int .i64 a0_4, .int .i64 a0_5, .string a0_6, .slice A0_7 l0_7.length c0_7, .slice A0_8 l0_8.length c0_8], .agg #[.int .i64 a1_0, .string a1_1, .string a1_2, .string a1_3, .int .i64 a1_4, .int .i64 a1_5, .string a1_6, .slice A1_7 l1_7.length c1_7, .slice A1_8 l1_8.length c1_8]] w fun e w' => e = .returned (.bool r) ∧ Below w.heap.size w w' := by
 have hu25 := Tryd.underlying25
 have HR0_7 := am hr0_7
 have HC0_7 := am hc0_7
 clear hr0_7 hc0_7
 have HR0_8 := am hr0_8
 have HC0_8 := am hc0_8
 clear hr0_8 hc0_8
 have HR1_7 := am hr1_7
 have HC1_7 := am hc1_7
 clear hr1_7 hc1_7
 have HR1_8 := am hr1_8
 have HC1_8 := am hc1_8
 clear hr1_8 hc1_8
 have HB := am (Below.refl w.heap.size w)
 have H := h
 clear h
 unfold cmd_same.f at H
 by_cases c3 : a0_0 = a1_0
 ·
  rw [if_pos c3] at H
  have c3b0 := beq_iff_eq.mpr c3
  have c3b1 := bne_eq_false_iff_eq.mpr c3
  clear c3
  by_cases c4 : a0_1.toList = a1_1.toList
  ·
   rw [if_pos c4] at H
   have c4b0 := beq_iff_eq.mpr c4
   have c4b1 := bne_eq_false_iff_eq.mpr c4
   clear c4
   by_cases c5 : a0_2.toList = a1_2.toList
   ·
    rw [if_pos c5] at H
    have c5b0 := beq_iff_eq.mpr c5
    have c5b1 := bne_eq_false_iff_eq.mpr c5
    clear c5
    by_cases c6 : a0_3.toList = a1_3.toList
    ·
     rw [if_pos c6] at H
     have c6b0 := beq_iff_eq.mpr c6
     have c6b1 := bne_eq_false_iff_eq.mpr c6
     clear c6
     by_cases c7 : a0_4 = a1_4
     ·
      rw [if_pos c7] at H
      have c7b0 := beq_iff_eq.mpr c7
      have c7b1 := bne_eq_false_iff_eq.mpr c7
      clear c7
      by_cases c8 : a0_5 = a1_5
      ·
       rw [if_pos c8] at H
       have c8b0 := beq_iff_eq.mpr c8
       have c8b1 := bne_eq_false_iff_eq.mpr c8
       clear c8
       by_cases c9 : a0_6.toList = a1_6.toList
       ·
        rw [if_pos c9] at H
        have c9b0 := beq_iff_eq.mpr c9
        have c9b1 := bne_eq_false_iff_eq.mpr c9
        clear c9
        replace H := obE H
        obtain ⟨t120, A10, H⟩ := H
        by_cases c11 : t120 = true
        ·
         subst c11
         rw [if_pos rfl] at H
         replace H := obE H
         obtain ⟨t121, A12, H⟩ := H
         obtain rfl := Option.some.inj H
         go_enter Tryd.func31, Tryd.ntmps31
         go_wp2_with (first | ((with_reducible refine gate_dst (N := 2) rfl ?_); refine bx 2 #[.int .i64 a0_0, .string a0_1, .string a0_2, .string a0_3, .int .i64 a0_4, .int .i64 a0_5, .string a0_6, .slice A0_7 l0_7.length c0_7, .slice A0_8 l0_8.length c0_8] 25 ?_; intro gb118 hg w13 hbox hb; have BK118 := am (hbox); have GW118 := gsz hg HB.out; have GE118 := gsz hg HB.out; replace HB := am (below_step (bw HB.out) hb); clear hb hbox hg) | ((with_reducible refine gate_dst (N := 3) rfl ?_); refine bx 3 #[.int .i64 a1_0, .string a1_1, .string a1_2, .string a1_3, .int .i64 a1_4, .int .i64 a1_5, .string a1_6, .slice A1_7 l1_7.length c1_7, .slice A1_8 l1_8.length c1_8] 25 ?_; intro gb119 hg w14 hbox hb; have BK119 := am (hbox); have GW119 := gsz hg HB.out; have GE119 := gsz hg HB.out; have NB118_119 := nlt (g := gb118) hg BK118.out; have NB119_118 := ngt (g := gb118) hg BK118.out; replace BK118 := bb BK118.out hb; replace HB := am (below_step (bws HB.out) hb); clear hb hbox hg; have hnb15 := NB118_119.out; have hnc15 := NB119_118.out; obtain ⟨hcz16_0, hcz16_1, hcz16_2, hcz16_3, hcz16_4, hcz16_5, hcz16_6, hcz16_7, hcz16_8, hfz16_0, hfz16_1, hfz16_2, hfz16_3, hfz16_4, hfz16_5, hfz16_6, hfz16_7, hfz16_8⟩ := cz9 BK118.out; obtain ⟨hcz17_0, hcz17_1, hcz17_2, hcz17_3, hcz17_4, hcz17_5, hcz17_6, hcz17_7, hcz17_8, hfz17_0, hfz17_1, hfz17_2, hfz17_3, hfz17_4, hfz17_5, hfz17_6, hfz17_7, hfz17_8⟩ := cz9 BK119.out) | (go_at_call 68; (with_reducible refine (api_Piece_68.calls k _ _ l0_7 _ _ l1_7 true _ ?side1 ?side2 ?side3 ?side4 A10.out).mono ?_); (case side1 => exact kC (Kd.C_below HR0_7.out HB.out)); (case side2 => exact HC0_7.out); (case side3 => exact kC (Kd.C_below HR1_7.out HB.out)); (case side4 => exact HC1_7.out); rintro e w' ⟨rfl, ⟨nd, rfl⟩⟩) | (go_at_call 69; (with_reducible refine (api_Pick_69.calls k _ _ l0_8 _ _ l1_8 t121 _ ?side1 ?side2 ?side3 ?side4 A12.out).mono ?_); (case side1 => repeat (first | exact (Kd.C_below HR0_8.out (bws HB.out)) | (with_reducible refine Kd.C_alloc ?_ _) | (with_reducible refine Kd.C_drewN ?_ _) | (with_reducible refine Kd.C_drew ?_))); (case side2 => exact HC0_8.out); (case side3 => repeat (first | exact (Kd.C_below HR1_8.out (bws HB.out)) | (with_reducible refine Kd.C_alloc ?_ _) | (with_reducible refine Kd.C_drewN ?_ _) | (with_reducible refine Kd.C_drew ?_))); (case side4 => exact HC1_8.out); rintro e w' ⟨rfl, ⟨nd, rfl⟩⟩))
         go_ret
         exact ⟨rf, bws HB.out⟩
        ·
         replace c11 := Bool.eq_false_iff.mpr c11
         subst c11
         rw [if_neg (show ¬ (false = true) by decide)] at H
         obtain rfl := Option.some.inj H
         go_enter Tryd.func31, Tryd.ntmps31
         go_wp2_with (first | ((with_reducible refine gate_dst (N := 2) rfl ?_); refine bx 2 #[.int .i64 a0_0, .string a0_1, .string a0_2, .string a0_3, .int .i64 a0_4, .int .i64 a0_5, .string a0_6, .slice A0_7 l0_7.length c0_7, .slice A0_8 l0_8.length c0_8] 25 ?_; intro gb118 hg w18 hbox hb; have BK118 := am (hbox); have GW118 := gsz hg HB.out; have GE118 := gsz hg HB.out; replace HB := am (below_step (bw HB.out) hb); clear hb hbox hg) | ((with_reducible refine gate_dst (N := 3) rfl ?_); refine bx 3 #[.int .i64 a1_0, .string a1_1, .string a1_2, .string a1_3, .int .i64 a1_4, .int .i64 a1_5, .string a1_6, .slice A1_7 l1_7.length c1_7, .slice A1_8 l1_8.length c1_8] 25 ?_; intro gb119 hg w19 hbox hb; have BK119 := am (hbox); have GW119 := gsz hg HB.out; have GE119 := gsz hg HB.out; have NB118_119 := nlt (g := gb118) hg BK118.out; have NB119_118 := ngt (g := gb118) hg BK118.out; replace BK118 := bb BK118.out hb; replace HB := am (below_step (bws HB.out) hb); clear hb hbox hg; have hnb20 := NB118_119.out; have hnc20 := NB119_118.out; obtain ⟨hcz21_0, hcz21_1, hcz21_2, hcz21_3, hcz21_4, hcz21_5, hcz21_6, hcz21_7, hcz21_8, hfz21_0, hfz21_1, hfz21_2, hfz21_3, hfz21_4, hfz21_5, hfz21_6, hfz21_7, hfz21_8⟩ := cz9 BK118.out; obtain ⟨hcz22_0, hcz22_1, hcz22_2, hcz22_3, hcz22_4, hcz22_5, hcz22_6, hcz22_7, hcz22_8, hfz22_0, hfz22_1, hfz22_2, hfz22_3, hfz22_4, hfz22_5, hfz22_6, hfz22_7, hfz22_8⟩ := cz9 BK119.out) | (go_at_call 68; (with_reducible refine (api_Piece_68.calls k _ _ l0_7 _ _ l1_7 false _ ?side1 ?side2 ?side3 ?side4 A10.out).mono ?_); (case side1 => exact kC (Kd.C_below HR0_7.out HB.out)); (case side2 => exact HC0_7.out); (case side3 => exact kC (Kd.C_below HR1_7.out HB.out)); (case side4 => exact HC1_7.out); rintro e w' ⟨rfl, ⟨nd, rfl⟩⟩))
         go_ret
         exact ⟨rf, bws HB.out⟩
       ·
        rw [if_neg c9] at H
        have c9b0 := beq_eq_false_iff_ne.mpr c9
        have c9b1 := bne_iff_ne.mpr c9
        obtain rfl := Option.some.inj H
        go_enter Tryd.func31, Tryd.ntmps31
        go_wp2_with (first | ((with_reducible refine gate_dst (N := 2) rfl ?_); refine bx 2 #[.int .i64 a0_0, .string a0_1, .string a0_2, .string a0_3, .int .i64 a0_4, .int .i64 a0_5, .string a0_6, .slice A0_7 l0_7.length c0_7, .slice A0_8 l0_8.length c0_8] 25 ?_; intro gb118 hg w23 hbox hb; have BK118 := am (hbox); have GW118 := gsz hg HB.out; have GE118 := gsz hg HB.out; replace HB := am (below_step (bw HB.out) hb); clear hb hbox hg) | ((with_reducible refine gate_dst (N := 3) rfl ?_); refine bx 3 #[.int .i64 a1_0, .string a1_1, .string a1_2, .string a1_3, .int .i64 a1_4, .int .i64 a1_5, .string a1_6, .slice A1_7 l1_7.length c1_7, .slice A1_8 l1_8.length c1_8] 25 ?_; intro gb119 hg w24 hbox hb; have BK119 := am (hbox); have GW119 := gsz hg HB.out; have GE119 := gsz hg HB.out; have NB118_119 := nlt (g := gb118) hg BK118.out; have NB119_118 := ngt (g := gb118) hg BK118.out; replace BK118 := bb BK118.out hb; replace HB := am (below_step (bws HB.out) hb); clear hb hbox hg; have hnb25 := NB118_119.out; have hnc25 := NB119_118.out; obtain ⟨hcz26_0, hcz26_1, hcz26_2, hcz26_3, hcz26_4, hcz26_5, hcz26_6, hcz26_7, hcz26_8, hfz26_0, hfz26_1, hfz26_2, hfz26_3, hfz26_4, hfz26_5, hfz26_6, hfz26_7, hfz26_8⟩ := cz9 BK118.out; obtain ⟨hcz27_0, hcz27_1, hcz27_2, hcz27_3, hcz27_4, hcz27_5, hcz27_6, hcz27_7, hcz27_8, hfz27_0, hfz27_1, hfz27_2, hfz27_3, hfz27_4, hfz27_5, hfz27_6, hfz27_7, hfz27_8⟩ := cz9 BK119.out))
        go_ret
        exact ⟨rf, bws HB.out⟩
      ·
       rw [if_neg c8] at H
       have c8b0 := beq_eq_false_iff_ne.mpr c8
       have c8b1 := bne_iff_ne.mpr c8
       obtain rfl := Option.some.inj H
       go_enter Tryd.func31, Tryd.ntmps31
       go_wp2_with (first | ((with_reducible refine gate_dst (N := 2) rfl ?_); refine bx 2 #[.int .i64 a0_0, .string a0_1, .string a0_2, .string a0_3, .int .i64 a0_4, .int .i64 a0_5, .string a0_6, .slice A0_7 l0_7.length c0_7, .slice A0_8 l0_8.length c0_8] 25 ?_; intro gb118 hg w28 hbox hb; have BK118 := am (hbox); have GW118 := gsz hg HB.out; have GE118 := gsz hg HB.out; replace HB := am (below_step (bw HB.out) hb); clear hb hbox hg) | ((with_reducible refine gate_dst (N := 3) rfl ?_); refine bx 3 #[.int .i64 a1_0, .string a1_1, .string a1_2, .string a1_3, .int .i64 a1_4, .int .i64 a1_5, .string a1_6, .slice A1_7 l1_7.length c1_7, .slice A1_8 l1_8.length c1_8] 25 ?_; intro gb119 hg w29 hbox hb; have BK119 := am (hbox); have GW119 := gsz hg HB.out; have GE119 := gsz hg HB.out; have NB118_119 := nlt (g := gb118) hg BK118.out; have NB119_118 := ngt (g := gb118) hg BK118.out; replace BK118 := bb BK118.out hb; replace HB := am (below_step (bws HB.out) hb); clear hb hbox hg; have hnb30 := NB118_119.out; have hnc30 := NB119_118.out; obtain ⟨hcz31_0, hcz31_1, hcz31_2, hcz31_3, hcz31_4, hcz31_5, hcz31_6, hcz31_7, hcz31_8, hfz31_0, hfz31_1, hfz31_2, hfz31_3, hfz31_4, hfz31_5, hfz31_6, hfz31_7, hfz31_8⟩ := cz9 BK118.out; obtain ⟨hcz32_0, hcz32_1, hcz32_2, hcz32_3, hcz32_4, hcz32_5, hcz32_6, hcz32_7, hcz32_8, hfz32_0, hfz32_1, hfz32_2, hfz32_3, hfz32_4, hfz32_5, hfz32_6, hfz32_7, hfz32_8⟩ := cz9 BK119.out))
       go_ret
       exact ⟨rf, bws HB.out⟩
     ·
      rw [if_neg c7] at H
      have c7b0 := beq_eq_false_iff_ne.mpr c7
      have c7b1 := bne_iff_ne.mpr c7
      obtain rfl := Option.some.inj H
      go_enter Tryd.func31, Tryd.ntmps31
      go_wp2_with (first | ((with_reducible refine gate_dst (N := 2) rfl ?_); refine bx 2 #[.int .i64 a0_0, .string a0_1, .string a0_2, .string a0_3, .int .i64 a0_4, .int .i64 a0_5, .string a0_6, .slice A0_7 l0_7.length c0_7, .slice A0_8 l0_8.length c0_8] 25 ?_; intro gb118 hg w33 hbox hb; have BK118 := am (hbox); have GW118 := gsz hg HB.out; have GE118 := gsz hg HB.out; replace HB := am (below_step (bw HB.out) hb); clear hb hbox hg) | ((with_reducible refine gate_dst (N := 3) rfl ?_); refine bx 3 #[.int .i64 a1_0, .string a1_1, .string a1_2, .string a1_3, .int .i64 a1_4, .int .i64 a1_5, .string a1_6, .slice A1_7 l1_7.length c1_7, .slice A1_8 l1_8.length c1_8] 25 ?_; intro gb119 hg w34 hbox hb; have BK119 := am (hbox); have GW119 := gsz hg HB.out; have GE119 := gsz hg HB.out; have NB118_119 := nlt (g := gb118) hg BK118.out; have NB119_118 := ngt (g := gb118) hg BK118.out; replace BK118 := bb BK118.out hb; replace HB := am (below_step (bws HB.out) hb); clear hb hbox hg; have hnb35 := NB118_119.out; have hnc35 := NB119_118.out; obtain ⟨hcz36_0, hcz36_1, hcz36_2, hcz36_3, hcz36_4, hcz36_5, hcz36_6, hcz36_7, hcz36_8, hfz36_0, hfz36_1, hfz36_2, hfz36_3, hfz36_4, hfz36_5, hfz36_6, hfz36_7, hfz36_8⟩ := cz9 BK118.out; obtain ⟨hcz37_0, hcz37_1, hcz37_2, hcz37_3, hcz37_4, hcz37_5, hcz37_6, hcz37_7, hcz37_8, hfz37_0, hfz37_1, hfz37_2, hfz37_3, hfz37_4, hfz37_5, hfz37_6, hfz37_7, hfz37_8⟩ := cz9 BK119.out))
      go_ret
      exact ⟨rf, bws HB.out⟩
    ·
     rw [if_neg c6] at H
     have c6b0 := beq_eq_false_iff_ne.mpr c6
     have c6b1 := bne_iff_ne.mpr c6
     obtain rfl := Option.some.inj H
     go_enter Tryd.func31, Tryd.ntmps31
     go_wp2_with (first | ((with_reducible refine gate_dst (N := 2) rfl ?_); refine bx 2 #[.int .i64 a0_0, .string a0_1, .string a0_2, .string a0_3, .int .i64 a0_4, .int .i64 a0_5, .string a0_6, .slice A0_7 l0_7.length c0_7, .slice A0_8 l0_8.length c0_8] 25 ?_; intro gb118 hg w38 hbox hb; have BK118 := am (hbox); have GW118 := gsz hg HB.out; have GE118 := gsz hg HB.out; replace HB := am (below_step (bw HB.out) hb); clear hb hbox hg) | ((with_reducible refine gate_dst (N := 3) rfl ?_); refine bx 3 #[.int .i64 a1_0, .string a1_1, .string a1_2, .string a1_3, .int .i64 a1_4, .int .i64 a1_5, .string a1_6, .slice A1_7 l1_7.length c1_7, .slice A1_8 l1_8.length c1_8] 25 ?_; intro gb119 hg w39 hbox hb; have BK119 := am (hbox); have GW119 := gsz hg HB.out; have GE119 := gsz hg HB.out; have NB118_119 := nlt (g := gb118) hg BK118.out; have NB119_118 := ngt (g := gb118) hg BK118.out; replace BK118 := bb BK118.out hb; replace HB := am (below_step (bws HB.out) hb); clear hb hbox hg; have hnb40 := NB118_119.out; have hnc40 := NB119_118.out; obtain ⟨hcz41_0, hcz41_1, hcz41_2, hcz41_3, hcz41_4, hcz41_5, hcz41_6, hcz41_7, hcz41_8, hfz41_0, hfz41_1, hfz41_2, hfz41_3, hfz41_4, hfz41_5, hfz41_6, hfz41_7, hfz41_8⟩ := cz9 BK118.out; obtain ⟨hcz42_0, hcz42_1, hcz42_2, hcz42_3, hcz42_4, hcz42_5, hcz42_6, hcz42_7, hcz42_8, hfz42_0, hfz42_1, hfz42_2, hfz42_3, hfz42_4, hfz42_5, hfz42_6, hfz42_7, hfz42_8⟩ := cz9 BK119.out))
     go_ret
     exact ⟨rf, bws HB.out⟩
   ·
    rw [if_neg c5] at H
    have c5b0 := beq_eq_false_iff_ne.mpr c5
    have c5b1 := bne_iff_ne.mpr c5
    obtain rfl := Option.some.inj H
    go_enter Tryd.func31, Tryd.ntmps31
    go_wp2_with (first | ((with_reducible refine gate_dst (N := 2) rfl ?_); refine bx 2 #[.int .i64 a0_0, .string a0_1, .string a0_2, .string a0_3, .int .i64 a0_4, .int .i64 a0_5, .string a0_6, .slice A0_7 l0_7.length c0_7, .slice A0_8 l0_8.length c0_8] 25 ?_; intro gb118 hg w43 hbox hb; have BK118 := am (hbox); have GW118 := gsz hg HB.out; have GE118 := gsz hg HB.out; replace HB := am (below_step (bw HB.out) hb); clear hb hbox hg) | ((with_reducible refine gate_dst (N := 3) rfl ?_); refine bx 3 #[.int .i64 a1_0, .string a1_1, .string a1_2, .string a1_3, .int .i64 a1_4, .int .i64 a1_5, .string a1_6, .slice A1_7 l1_7.length c1_7, .slice A1_8 l1_8.length c1_8] 25 ?_; intro gb119 hg w44 hbox hb; have BK119 := am (hbox); have GW119 := gsz hg HB.out; have GE119 := gsz hg HB.out; have NB118_119 := nlt (g := gb118) hg BK118.out; have NB119_118 := ngt (g := gb118) hg BK118.out; replace BK118 := bb BK118.out hb; replace HB := am (below_step (bws HB.out) hb); clear hb hbox hg; have hnb45 := NB118_119.out; have hnc45 := NB119_118.out; obtain ⟨hcz46_0, hcz46_1, hcz46_2, hcz46_3, hcz46_4, hcz46_5, hcz46_6, hcz46_7, hcz46_8, hfz46_0, hfz46_1, hfz46_2, hfz46_3, hfz46_4, hfz46_5, hfz46_6, hfz46_7, hfz46_8⟩ := cz9 BK118.out; obtain ⟨hcz47_0, hcz47_1, hcz47_2, hcz47_3, hcz47_4, hcz47_5, hcz47_6, hcz47_7, hcz47_8, hfz47_0, hfz47_1, hfz47_2, hfz47_3, hfz47_4, hfz47_5, hfz47_6, hfz47_7, hfz47_8⟩ := cz9 BK119.out))
    go_ret
    exact ⟨rf, bws HB.out⟩
  ·
   rw [if_neg c4] at H
   have c4b0 := beq_eq_false_iff_ne.mpr c4
   have c4b1 := bne_iff_ne.mpr c4
   obtain rfl := Option.some.inj H
   go_enter Tryd.func31, Tryd.ntmps31
   go_wp2_with (first | ((with_reducible refine gate_dst (N := 2) rfl ?_); refine bx 2 #[.int .i64 a0_0, .string a0_1, .string a0_2, .string a0_3, .int .i64 a0_4, .int .i64 a0_5, .string a0_6, .slice A0_7 l0_7.length c0_7, .slice A0_8 l0_8.length c0_8] 25 ?_; intro gb118 hg w48 hbox hb; have BK118 := am (hbox); have GW118 := gsz hg HB.out; have GE118 := gsz hg HB.out; replace HB := am (below_step (bw HB.out) hb); clear hb hbox hg) | ((with_reducible refine gate_dst (N := 3) rfl ?_); refine bx 3 #[.int .i64 a1_0, .string a1_1, .string a1_2, .string a1_3, .int .i64 a1_4, .int .i64 a1_5, .string a1_6, .slice A1_7 l1_7.length c1_7, .slice A1_8 l1_8.length c1_8] 25 ?_; intro gb119 hg w49 hbox hb; have BK119 := am (hbox); have GW119 := gsz hg HB.out; have GE119 := gsz hg HB.out; have NB118_119 := nlt (g := gb118) hg BK118.out; have NB119_118 := ngt (g := gb118) hg BK118.out; replace BK118 := bb BK118.out hb; replace HB := am (below_step (bws HB.out) hb); clear hb hbox hg; have hnb50 := NB118_119.out; have hnc50 := NB119_118.out; obtain ⟨hcz51_0, hcz51_1, hcz51_2, hcz51_3, hcz51_4, hcz51_5, hcz51_6, hcz51_7, hcz51_8, hfz51_0, hfz51_1, hfz51_2, hfz51_3, hfz51_4, hfz51_5, hfz51_6, hfz51_7, hfz51_8⟩ := cz9 BK118.out; obtain ⟨hcz52_0, hcz52_1, hcz52_2, hcz52_3, hcz52_4, hcz52_5, hcz52_6, hcz52_7, hcz52_8, hfz52_0, hfz52_1, hfz52_2, hfz52_3, hfz52_4, hfz52_5, hfz52_6, hfz52_7, hfz52_8⟩ := cz9 BK119.out))
   go_ret
   exact ⟨rf, bws HB.out⟩
 ·
  rw [if_neg c3] at H
  have c3b0 := beq_eq_false_iff_ne.mpr c3
  have c3b1 := bne_iff_ne.mpr c3
  obtain rfl := Option.some.inj H
  go_enter Tryd.func31, Tryd.ntmps31
  go_wp2_with (first | ((with_reducible refine gate_dst (N := 2) rfl ?_); refine bx 2 #[.int .i64 a0_0, .string a0_1, .string a0_2, .string a0_3, .int .i64 a0_4, .int .i64 a0_5, .string a0_6, .slice A0_7 l0_7.length c0_7, .slice A0_8 l0_8.length c0_8] 25 ?_; intro gb118 hg w53 hbox hb; have BK118 := am (hbox); have GW118 := gsz hg HB.out; have GE118 := gsz hg HB.out; replace HB := am (below_step (bw HB.out) hb); clear hb hbox hg) | ((with_reducible refine gate_dst (N := 3) rfl ?_); refine bx 3 #[.int .i64 a1_0, .string a1_1, .string a1_2, .string a1_3, .int .i64 a1_4, .int .i64 a1_5, .string a1_6, .slice A1_7 l1_7.length c1_7, .slice A1_8 l1_8.length c1_8] 25 ?_; intro gb119 hg w54 hbox hb; have BK119 := am (hbox); have GW119 := gsz hg HB.out; have GE119 := gsz hg HB.out; have NB118_119 := nlt (g := gb118) hg BK118.out; have NB119_118 := ngt (g := gb118) hg BK118.out; replace BK118 := bb BK118.out hb; replace HB := am (below_step (bws HB.out) hb); clear hb hbox hg; have hnb55 := NB118_119.out; have hnc55 := NB119_118.out; obtain ⟨hcz56_0, hcz56_1, hcz56_2, hcz56_3, hcz56_4, hcz56_5, hcz56_6, hcz56_7, hcz56_8, hfz56_0, hfz56_1, hfz56_2, hfz56_3, hfz56_4, hfz56_5, hfz56_6, hfz56_7, hfz56_8⟩ := cz9 BK118.out; obtain ⟨hcz57_0, hcz57_1, hcz57_2, hcz57_3, hcz57_4, hcz57_5, hcz57_6, hcz57_7, hcz57_8, hfz57_0, hfz57_1, hfz57_2, hfz57_3, hfz57_4, hfz57_5, hfz57_6, hfz57_7, hfz57_8⟩ := cz9 BK119.out))
  go_ret
  exact ⟨rf, bws HB.out⟩
end Go.Proofs.YtdidopoalmkhlaaDoor.Or
end
section
namespace Go.Proofs.YtdidopoalmkhlaaDoor.Or
open Go.RowKit Go.Proofs.YtdidopoalmkhlaaDoorW.PrintWords Go.Proofs.YtdidopoalmkhlaaDoorW.PrintLast Go.Proofs.YtdidopoalmkhlaaDoorW.PrintMore
attribute [local go_sem] max2_int min2_int max_two min_two max_three min_three max_four min_four
set_option linter.unusedVariables false
set_option linter.unusedSimpArgs false
def api_Piece_70.f (l0 : List (S82)) : Option (List (S82)) := if l0.length ≤ 1000000000 then some l0 else none
def api_Piece_70_cells (ys : List S82) : List Value := ys.flatMap fun y => [.string y.f0, .int .i64 y.f1]
theorem api_Piece_70_cells_length (ys : List S82) : (api_Piece_70_cells ys).length = ys.length * 2 := by
 induction ys with
 | nil => rfl
 | cons y ys ih => simp only [api_Piece_70_cells, List.flatMap_cons, List.length_append, List.length_cons, List.length_nil] at ih ⊢; rw [ih]; omega
theorem api_Piece_70_cells_snoc (ys : List S82) (y : S82) : api_Piece_70_cells (ys ++ [y]) = api_Piece_70_cells ys ++ [.string y.f0, .int .i64 y.f1] := by simp [api_Piece_70_cells]
theorem api_Piece_70_one (ys : List S82) : ∀ u ∈ api_Piece_70_cells ys, u.oneCell' = true := by
 intro u hu
 obtain ⟨y, _, hy⟩ := List.mem_flatMap.1 hu
 simp only [List.mem_cons, List.not_mem_nil, or_false] at hy
 rcases hy with rfl | rfl <;> rfl
theorem api_Piece_70_reps (w : World) (base : Nat) (ok : Nat → Prop) : ∀ ys : List S82, Reps (k82.M w base ok) 2 ys (api_Piece_70_cells ys) := by
 intro ys
 have H : ∀ zs : List S82, ∀ ys : List S82, Reps (k82.M w base ok) 2 ys (api_Piece_70_cells ys) → Reps (k82.M w base ok) 2 (ys ++ zs) (api_Piece_70_cells (ys ++ zs)) := by
  intro zs
  induction zs with
  | nil => intro ys h; simpa using h
  | cons z zs ih =>
   intro ys h
   have h1 := ih (ys ++ [z]) (by rw [api_Piece_70_cells_snoc]; exact h.snoc (k82_mkM _ _ _ z) rfl)
   simpa using h1
 simpa using H ys [] (Reps.none _ _)
theorem api_Piece_70_row {w : World} {base : Nat} {v : Value} {ys : List S82} (h : w.ownsRow base 82 2 v ys.length (api_Piece_70_cells ys)) : Kd.R k82 82 w base (fun _ => True) v ys :=
 ⟨fun _ _ => trivial, _, h, api_Piece_70_reps _ _ _ ys⟩
theorem api_Piece_70_at (w : World) (ad : Addr) : ∀ (l : List S82) (o : Nat), (∀ (i : Nat) (y : S82), l[i]? = some y → w.cell? (ad.add (o + i * 2)) = some (.string y.f0) ∧ w.cell? (ad.add (o + i * 2 + 1)) = some (.int .i64 y.f1)) → ∀ j u, (api_Piece_70_cells l)[j]? = some u → w.cell? (ad.add (o + j)) = some u := by
 intro l
 induction l with
 | nil => intro o _ j u hj; simp [api_Piece_70_cells] at hj
 | cons y l ih =>
  intro o H j u hj
  obtain ⟨g0, g1⟩ := H 0 y rfl
  rw [Nat.zero_mul, Nat.add_zero] at g0 g1
  have hc : api_Piece_70_cells (y :: l) = .string y.f0 :: .int .i64 y.f1 :: api_Piece_70_cells l := rfl
  rw [hc] at hj
  match j, hj with
  | 0, hj => simp at hj; subst hj; exact g0
  | 1, hj => simp at hj; subst hj; exact g1
  | j + 2, hj =>
   have := ih (o + 2) (fun i z hz => by
    have := H (i + 1) z hz
    rw [show o + (i + 1) * 2 = o + 2 + i * 2 by omega] at this
    exact this) j u (by simpa using hj)
   rw [show o + (j + 2) = o + 2 + j by omega]
   exact this
set_option maxRecDepth 100000 in
set_option maxHeartbeats 1000000 in
theorem api_Piece_70_nil (c0 : Nat) (w : World) :
  Calls Tryd.prog 70 #[.slice none 0 c0] w fun e w' => e = .returned (.slice none 0 0) ∧ Below w.heap.size w w' := by
 have q22 : ∀ (w : World) (a : Option Addr) (n c n' c' : Nat), (binOp .eql 22 (.slice a n c) (.slice none n' c')).run Tryd.prog w = .ok (.bool a.isNone) w := fun w a n c n' c' => Lib.run_eql_slice_nil w _ _ a n c n' c' Tryd.underlying22
 go_enter Tryd.func70, Tryd.ntmps70
 go_wp2
 go_ret
 exact ⟨rfl, Below.refl _ _⟩
set_option maxRecDepth 100000 in
set_option maxHeartbeats 1000000 in
theorem api_Piece_70_some (ad : Addr) (c0 : Nat) (l0 : List (S82)) (w : World) (hr0 : Kd.C k82 w (some ad) l0.length l0) (hc0 : l0.length ≤ c0) (hl : l0.length ≤ 1000000000) :
  Calls Tryd.prog 70 #[.slice (some ad) l0.length c0] w fun e w' => ∃ v0_ : Value, e = .returned v0_ ∧ w'.ownsRow w.heap.size 82 2 v0_ l0.length (api_Piece_70_cells l0) ∧ Below w.heap.size w w' := by
 have q22 : ∀ (w : World) (a : Option Addr) (n c n' c' : Nat), (binOp .eql 22 (.slice a n c) (.slice none n' c')).run Tryd.prog w = .ok (.bool a.isNone) w := fun w a n c n' c' => Lib.run_eql_slice_nil w _ _ a n c n' c' Tryd.underlying22
 have hcells : Hid (∀ j u, (api_Piece_70_cells l0)[j]? = some u → w.cell? (ad.add j) = some u) := Lib.hid (by
  have := api_Piece_70_at w ad l0 0 (fun i y hy => by
   have hi : i < l0.length := by
    rcases Nat.lt_or_ge i l0.length with h | h
    ·
     exact h
    ·
     rw [List.getElem?_eq_none h] at hy; cases hy
   obtain ⟨ad', e, x0, x1⟩ := at_T82 hr0 (i : Int) (by omega) (by omega)
   cases e
   have hrd : rd_T82 l0 (i : Int) = y := by
    unfold rd_T82
    rw [Int.toNat_natCast, List.getD_eq_getElem?_getD, hy]
    rfl
   rw [hrd, Int.toNat_natCast] at x0 x1
   rw [Nat.zero_add]
   have ha : ∀ n j : Nat, 0 < j → ad.add (n + j) = ⟨(ad.add n).block, (ad.add n).off + j, none⟩ := fun n j hj => by
    unfold Addr.add
    rw [if_neg (by omega)]
    by_cases h0 : n = 0
    ·
     subst h0; simp
    ·
     rw [if_neg h0]; simp [Nat.add_assoc]
   exact ⟨x0, by rw [ha _ 1 (by omega)]; exact x1⟩)
  simpa using this)
 clear hr0
 obtain ⟨i0, hi, hz0, hz1, hz2⟩ : ∃ i0, Tryd.prog.info? 82 = some i0 ∧ i0.zero = some (.agg #[(.string ⟨#[]⟩), (.int .i64 0)]) ∧ i0.size = 2 ∧ i0.bytes = 24 := by
  have h : (Tryd.prog.info? 82).map (fun i => (i.zero, i.size, i.bytes)) = some (some (.agg #[(.string ⟨#[]⟩), (.int .i64 0)]), 2, 24) := by kernel_rfl
  cases hq : Tryd.prog.info? 82 with
  | none => rw [hq] at h; cases h
  | some i0 => rw [hq] at h; simp at h; exact ⟨i0, rfl, h.1, h.2.1, h.2.2⟩
 go_enter Tryd.func70, Tryd.ntmps70
 go_wp2_with (at_builtin; refine wpList_append_own _ rfl _ _ 22 rfl w.heap.size 82 i0 _ 2 24 Tryd.underlying22 hi hz0 hz1 hz2 rfl (by decide) _ _ _ rfl (World.ownsRow_made w #[] 0 (Nat.le_refl _) (Nat.zero_le _) (by simp)) ad l0.length c0 (api_Piece_70_cells l0) rfl ?qc1 ?qc2 ?qc3 ?qc4 ?qc5 ?qc6 ?_)
 case qc1 => exact api_Piece_70_cells_length l0
 case qc2 => intro j u hj; exact Lib.cell?_alloc_some _ (hcells.out j u hj)
 case qc3 => exact api_Piece_70_one l0
 case qc4 => unfold maxLen; omega
 case qc5 => omega
 case qc6 => simp
 intro v' w1 hown hgrow hnil
 go_wp2
 go_ret
 exact ⟨_, rfl, by simpa using hown, ((Below.refl _ w).alloc (Nat.le_refl _) _).grown hgrow (by simp) (fun k e => by simp [Value.ownBlock] at e; omega)⟩
theorem api_Piece_70_own (A0 : Option Addr) (c0 : Nat) (l0 : List (S82)) (w : World) (hr0 : Kd.C k82 w A0 l0.length l0) (hc0 : l0.length ≤ c0) (hl : l0.length ≤ 1000000000) :
  Calls Tryd.prog 70 #[.slice A0 l0.length c0] w fun e w' => ∃ v0_ : Value, e = .returned v0_ ∧ w'.ownsRow w.heap.size 82 2 v0_ l0.length (api_Piece_70_cells l0) ∧ Below w.heap.size w w' := by
 cases A0 with
 | none =>
  obtain rfl : l0 = [] := by
   rcases l0 with _ | ⟨y, l⟩
   ·
    rfl
   ·
    obtain ⟨ad', e, _⟩ := at_T82 hr0 0 (by omega) (by simp)
    cases e
  exact (api_Piece_70_nil c0 w).mono fun e w' ⟨h1, h2⟩ => ⟨_, h1, World.ownsRow_nil _ _ _ _, h2⟩
 | some ad => exact api_Piece_70_some ad c0 l0 w hr0 hc0 hl
theorem api_Piece_70.calls (A0 : Option Addr) (c0 : Nat) (l0 : List (S82)) (r : List (S82)) (w : World) (hr0 : Kd.C k82 w A0 l0.length l0) (hc0 : l0.length ≤ c0) (h : api_Piece_70.f l0 = some r) :
  Calls Tryd.prog 70 #[.slice A0 l0.length c0] w fun e w' => ∃ v0_ : Value, e = .returned v0_ ∧ Kd.R k82 82 w' w.heap.size (fun _ => True) v0_ r ∧ Below w.heap.size w w' := by
 unfold api_Piece_70.f at h
 split at h
 ·
  rename_i hl
  cases h
  exact (api_Piece_70_own A0 c0 l0 w hr0 hc0 hl).mono fun e w' ⟨v, h1, h2, h3⟩ => ⟨v, h1, api_Piece_70_row h2, h3⟩
 ·
  cases h
def api_Pick_71.f (l0 : List (S62)) : Option (List (S62)) := if l0.length ≤ 1000000000 then some l0 else none
def api_Pick_71_cells (ys : List S62) : List Value := ys.flatMap fun y => [.int .i64 y.f0, .string y.f1]
theorem api_Pick_71_cells_length (ys : List S62) : (api_Pick_71_cells ys).length = ys.length * 2 := by
 induction ys with
 | nil => rfl
 | cons y ys ih => simp only [api_Pick_71_cells, List.flatMap_cons, List.length_append, List.length_cons, List.length_nil] at ih ⊢; rw [ih]; omega
theorem api_Pick_71_cells_snoc (ys : List S62) (y : S62) : api_Pick_71_cells (ys ++ [y]) = api_Pick_71_cells ys ++ [.int .i64 y.f0, .string y.f1] := by simp [api_Pick_71_cells]
theorem api_Pick_71_one (ys : List S62) : ∀ u ∈ api_Pick_71_cells ys, u.oneCell' = true := by
 intro u hu
 obtain ⟨y, _, hy⟩ := List.mem_flatMap.1 hu
 simp only [List.mem_cons, List.not_mem_nil, or_false] at hy
 rcases hy with rfl | rfl <;> rfl
theorem api_Pick_71_reps (w : World) (base : Nat) (ok : Nat → Prop) : ∀ ys : List S62, Reps (k62.M w base ok) 2 ys (api_Pick_71_cells ys) := by
 intro ys
 have H : ∀ zs : List S62, ∀ ys : List S62, Reps (k62.M w base ok) 2 ys (api_Pick_71_cells ys) → Reps (k62.M w base ok) 2 (ys ++ zs) (api_Pick_71_cells (ys ++ zs)) := by
  intro zs
  induction zs with
  | nil => intro ys h; simpa using h
  | cons z zs ih =>
   intro ys h
   have h1 := ih (ys ++ [z]) (by rw [api_Pick_71_cells_snoc]; exact h.snoc (k62_mkM _ _ _ z) rfl)
   simpa using h1
 simpa using H ys [] (Reps.none _ _)
theorem api_Pick_71_row {w : World} {base : Nat} {v : Value} {ys : List S62} (h : w.ownsRow base 62 2 v ys.length (api_Pick_71_cells ys)) : Kd.R k62 62 w base (fun _ => True) v ys :=
 ⟨fun _ _ => trivial, _, h, api_Pick_71_reps _ _ _ ys⟩
theorem api_Pick_71_at (w : World) (ad : Addr) : ∀ (l : List S62) (o : Nat), (∀ (i : Nat) (y : S62), l[i]? = some y → w.cell? (ad.add (o + i * 2)) = some (.int .i64 y.f0) ∧ w.cell? (ad.add (o + i * 2 + 1)) = some (.string y.f1)) → ∀ j u, (api_Pick_71_cells l)[j]? = some u → w.cell? (ad.add (o + j)) = some u := by
 intro l
 induction l with
 | nil => intro o _ j u hj; simp [api_Pick_71_cells] at hj
 | cons y l ih =>
  intro o H j u hj
  obtain ⟨g0, g1⟩ := H 0 y rfl
  rw [Nat.zero_mul, Nat.add_zero] at g0 g1
  have hc : api_Pick_71_cells (y :: l) = .int .i64 y.f0 :: .string y.f1 :: api_Pick_71_cells l := rfl
  rw [hc] at hj
  match j, hj with
  | 0, hj => simp at hj; subst hj; exact g0
  | 1, hj => simp at hj; subst hj; exact g1
  | j + 2, hj =>
   have := ih (o + 2) (fun i z hz => by
    have := H (i + 1) z hz
    rw [show o + (i + 1) * 2 = o + 2 + i * 2 by omega] at this
    exact this) j u (by simpa using hj)
   rw [show o + (j + 2) = o + 2 + j by omega]
   exact this
set_option maxRecDepth 100000 in
set_option maxHeartbeats 1000000 in
theorem api_Pick_71_nil (c0 : Nat) (w : World) :
  Calls Tryd.prog 71 #[.slice none 0 c0] w fun e w' => e = .returned (.slice none 0 0) ∧ Below w.heap.size w w' := by
 have q22 : ∀ (w : World) (a : Option Addr) (n c n' c' : Nat), (binOp .eql 23 (.slice a n c) (.slice none n' c')).run Tryd.prog w = .ok (.bool a.isNone) w := fun w a n c n' c' => Lib.run_eql_slice_nil w _ _ a n c n' c' Tryd.underlying23
 go_enter Tryd.func71, Tryd.ntmps71
 go_wp2
 go_ret
 exact ⟨rfl, Below.refl _ _⟩
set_option maxRecDepth 100000 in
set_option maxHeartbeats 1000000 in
theorem api_Pick_71_some (ad : Addr) (c0 : Nat) (l0 : List (S62)) (w : World) (hr0 : Kd.C k62 w (some ad) l0.length l0) (hc0 : l0.length ≤ c0) (hl : l0.length ≤ 1000000000) :
  Calls Tryd.prog 71 #[.slice (some ad) l0.length c0] w fun e w' => ∃ v0_ : Value, e = .returned v0_ ∧ w'.ownsRow w.heap.size 62 2 v0_ l0.length (api_Pick_71_cells l0) ∧ Below w.heap.size w w' := by
 have q22 : ∀ (w : World) (a : Option Addr) (n c n' c' : Nat), (binOp .eql 23 (.slice a n c) (.slice none n' c')).run Tryd.prog w = .ok (.bool a.isNone) w := fun w a n c n' c' => Lib.run_eql_slice_nil w _ _ a n c n' c' Tryd.underlying23
 have hcells : Hid (∀ j u, (api_Pick_71_cells l0)[j]? = some u → w.cell? (ad.add j) = some u) := Lib.hid (by
  have := api_Pick_71_at w ad l0 0 (fun i y hy => by
   have hi : i < l0.length := by
    rcases Nat.lt_or_ge i l0.length with h | h
    ·
     exact h
    ·
     rw [List.getElem?_eq_none h] at hy; cases hy
   obtain ⟨ad', e, x0, x1⟩ := at_T62 hr0 (i : Int) (by omega) (by omega)
   cases e
   have hrd : rd_T62 l0 (i : Int) = y := by
    unfold rd_T62
    rw [Int.toNat_natCast, List.getD_eq_getElem?_getD, hy]
    rfl
   rw [hrd, Int.toNat_natCast] at x0 x1
   rw [Nat.zero_add]
   have ha : ∀ n j : Nat, 0 < j → ad.add (n + j) = ⟨(ad.add n).block, (ad.add n).off + j, none⟩ := fun n j hj => by
    unfold Addr.add
    rw [if_neg (by omega)]
    by_cases h0 : n = 0
    ·
     subst h0; simp
    ·
     rw [if_neg h0]; simp [Nat.add_assoc]
   exact ⟨x0, by rw [ha _ 1 (by omega)]; exact x1⟩)
  simpa using this)
 clear hr0
 obtain ⟨i0, hi, hz0, hz1, hz2⟩ : ∃ i0, Tryd.prog.info? 62 = some i0 ∧ i0.zero = some (.agg #[(.int .i64 0), (.string ⟨#[]⟩)]) ∧ i0.size = 2 ∧ i0.bytes = 24 := by
  have h : (Tryd.prog.info? 62).map (fun i => (i.zero, i.size, i.bytes)) = some (some (.agg #[(.int .i64 0), (.string ⟨#[]⟩)]), 2, 24) := by kernel_rfl
  cases hq : Tryd.prog.info? 62 with
  | none => rw [hq] at h; cases h
  | some i0 => rw [hq] at h; simp at h; exact ⟨i0, rfl, h.1, h.2.1, h.2.2⟩
 go_enter Tryd.func71, Tryd.ntmps71
 go_wp2_with (at_builtin; refine wpList_append_own _ rfl _ _ 23 rfl w.heap.size 62 i0 _ 2 24 Tryd.underlying23 hi hz0 hz1 hz2 rfl (by decide) _ _ _ rfl (World.ownsRow_made w #[] 0 (Nat.le_refl _) (Nat.zero_le _) (by simp)) ad l0.length c0 (api_Pick_71_cells l0) rfl ?qc1 ?qc2 ?qc3 ?qc4 ?qc5 ?qc6 ?_)
 case qc1 => exact api_Pick_71_cells_length l0
 case qc2 => intro j u hj; exact Lib.cell?_alloc_some _ (hcells.out j u hj)
 case qc3 => exact api_Pick_71_one l0
 case qc4 => unfold maxLen; omega
 case qc5 => omega
 case qc6 => simp
 intro v' w1 hown hgrow hnil
 go_wp2
 go_ret
 exact ⟨_, rfl, by simpa using hown, ((Below.refl _ w).alloc (Nat.le_refl _) _).grown hgrow (by simp) (fun k e => by simp [Value.ownBlock] at e; omega)⟩
theorem api_Pick_71_own (A0 : Option Addr) (c0 : Nat) (l0 : List (S62)) (w : World) (hr0 : Kd.C k62 w A0 l0.length l0) (hc0 : l0.length ≤ c0) (hl : l0.length ≤ 1000000000) :
  Calls Tryd.prog 71 #[.slice A0 l0.length c0] w fun e w' => ∃ v0_ : Value, e = .returned v0_ ∧ w'.ownsRow w.heap.size 62 2 v0_ l0.length (api_Pick_71_cells l0) ∧ Below w.heap.size w w' := by
 cases A0 with
 | none =>
  obtain rfl : l0 = [] := by
   rcases l0 with _ | ⟨y, l⟩
   ·
    rfl
   ·
    obtain ⟨ad', e, _⟩ := at_T62 hr0 0 (by omega) (by simp)
    cases e
  exact (api_Pick_71_nil c0 w).mono fun e w' ⟨h1, h2⟩ => ⟨_, h1, World.ownsRow_nil _ _ _ _, h2⟩
 | some ad => exact api_Pick_71_some ad c0 l0 w hr0 hc0 hl
theorem api_Pick_71.calls (A0 : Option Addr) (c0 : Nat) (l0 : List (S62)) (r : List (S62)) (w : World) (hr0 : Kd.C k62 w A0 l0.length l0) (hc0 : l0.length ≤ c0) (h : api_Pick_71.f l0 = some r) :
  Calls Tryd.prog 71 #[.slice A0 l0.length c0] w fun e w' => ∃ v0_ : Value, e = .returned v0_ ∧ Kd.R k62 62 w' w.heap.size (fun _ => True) v0_ r ∧ Below w.heap.size w w' := by
 unfold api_Pick_71.f at h
 split at h
 ·
  rename_i hl
  cases h
  exact (api_Pick_71_own A0 c0 l0 w hr0 hc0 hl).mono fun e w' ⟨v, h1, h2, h3⟩ => ⟨v, h1, api_Pick_71_row h2, h3⟩
 ·
  cases h
def cmd_cut_t (f bit : Int) (s : ByteArray) : ByteArray := if (Go.bits .and .i64 f bit != 0) = true then s else ⟨#[]⟩
def cmd_cut_n (f bit : Int) (n : Int) : Int := if (Go.bits .and .i64 f bit != 0) = true then n else 0
def cmd_cut.f (a0_0 : Int) (a0_1 : ByteArray) (a0_2 : ByteArray) (a0_3 : ByteArray) (a0_4 : Int) (a0_5 : Int) (a0_6 : ByteArray) (l0_7 : List (S82)) (l0_8 : List (S62)) (a1 : Int) : Option (Int × ByteArray × ByteArray × ByteArray × Int × Int × ByteArray × List (S82) × List (S62)) :=
 (if (Go.bits .and .i64 a1 64 != 0) = true then api_Piece_70.f l0_7 else some []).bind fun p => (if (Go.bits .and .i64 a1 128 != 0) = true then api_Pick_71.f l0_8 else some []).bind fun q =>
  some (a0_0, cmd_cut_t a1 1 a0_1, cmd_cut_t a1 2 a0_2, cmd_cut_t a1 4 a0_3, cmd_cut_n a1 8 a0_4, cmd_cut_n a1 16 a0_5, cmd_cut_t a1 32 a0_6, p, q)
theorem cmd_cut_c9 {W : World} {g : Nat} {t : TypeId} {CS : Array Value} {a0 a1 a2 a3 a4 a5 a6 a7 a8 : Value} (h : W.heap[g]? = some (.cells CS t (0, 0))) (e : Aside0 (CS = #[a0, a1, a2, a3, a4, a5, a6, a7, a8])) : W.cell? ⟨g, 0, none⟩ = some a0 ∧ W.cell? ⟨g, 1, none⟩ = some a1 ∧ W.cell? ⟨g, 2, none⟩ = some a2 ∧ W.cell? ⟨g, 3, none⟩ = some a3 ∧ W.cell? ⟨g, 4, none⟩ = some a4 ∧ W.cell? ⟨g, 5, none⟩ = some a5 ∧ W.cell? ⟨g, 6, none⟩ = some a6 ∧ W.cell? ⟨g, 7, none⟩ = some a7 ∧ W.cell? ⟨g, 8, none⟩ = some a8 := by
 rw [e.out] at h
 exact ⟨(blk_cell h 0).trans rfl, (blk_cell h 1).trans rfl, (blk_cell h 2).trans rfl, (blk_cell h 3).trans rfl, (blk_cell h 4).trans rfl, (blk_cell h 5).trans rfl, (blk_cell h 6).trans rfl, (blk_cell h 7).trans rfl, (blk_cell h 8).trans rfl⟩
theorem cmd_cut_f9 {W : World} {g : Nat} {t : TypeId} {CS : Array Value} (h : W.heap[g]? = some (.cells CS t (0, 0))) : W.frozen? ⟨g, 0, none⟩ = false ∧ W.frozen? ⟨g, 1, none⟩ = false ∧ W.frozen? ⟨g, 2, none⟩ = false ∧ W.frozen? ⟨g, 3, none⟩ = false ∧ W.frozen? ⟨g, 4, none⟩ = false ∧ W.frozen? ⟨g, 5, none⟩ = false ∧ W.frozen? ⟨g, 6, none⟩ = false ∧ W.frozen? ⟨g, 7, none⟩ = false ∧ W.frozen? ⟨g, 8, none⟩ = false :=
 ⟨blk_frozen h 0, blk_frozen h 1, blk_frozen h 2, blk_frozen h 3, blk_frozen h 4, blk_frozen h 5, blk_frozen h 6, blk_frozen h 7, blk_frozen h 8⟩
structure cmd_cut_S (w : World) (gc gr go : Nat) (CS ZS OS : Array Value) (W : World) : Prop where
 c : W.heap[gc]? = some (.cells CS 25 (0, 0))
 r : W.heap[gr]? = some (.cells ZS 25 (0, 0))
 o : W.heap[go]? = some (.cells OS 25 (0, 0))
 b : Below w.heap.size w W
 lr : w.heap.size ≤ gr
 lo : w.heap.size ≤ go
 nco : gc ≠ go
 nro : gr ≠ go
 ncr : gc ≠ gr
theorem cmd_cut_S.put {w W : World} {gc gr go : Nat} {CS ZS OS OS' : Array Value} (h : cmd_cut_S w gc gr go CS ZS OS W) (i : Nat) (u : Value) (e : OS.setIfInBounds i u = OS') : cmd_cut_S w gc gr go CS ZS OS' (W.setCell ⟨go, i, none⟩ u) :=
 ⟨blk_far h.c h.nco _, blk_far h.r h.nro _, blk_put h.o i u e, below_set h.b h.lo, h.lr, h.lo, h.nco, h.nro, h.ncr⟩
theorem cmd_cut_S.below {w W W' : World} {gc gr go : Nat} {CS ZS OS : Array Value} (h : cmd_cut_S w gc gr go CS ZS OS W) (hb : Below W.heap.size W W') : cmd_cut_S w gc gr go CS ZS OS W' :=
 ⟨blk_below h.c hb, blk_below h.r hb, blk_below h.o hb, below_step h.b hb, h.lr, h.lo, h.nco, h.nro, h.ncr⟩
theorem cmd_cut_S.drew {w W : World} {gc gr go : Nat} {CS ZS OS : Array Value} (h : cmd_cut_S w gc gr go CS ZS OS W) : cmd_cut_S w gc gr go CS ZS OS W.drew := ⟨blk_drew h.c, blk_drew h.r, blk_drew h.o, h.b.drew, h.lr, h.lo, h.nco, h.nro, h.ncr⟩
theorem cmd_cut_S.far {w W : World} {gc gr go g t : Nat} {CS ZS OS cs : Array Value} (h : cmd_cut_S w gc gr go CS ZS OS W) (hg : W.heap[g]? = some (.cells cs t (0, 0))) (ht : 25 ≠ t) (hl : w.heap.size ≤ g) (i : Nat) (u : Value) : cmd_cut_S w gc gr go CS ZS OS (W.setCell ⟨g, i, none⟩ u) :=
 ⟨blk_far h.c (blk_ne h.c hg ht) _, blk_far h.r (blk_ne h.r hg ht) _, blk_far h.o (blk_ne h.o hg ht) _, below_set h.b hl, h.lr, h.lo, h.nco, h.nro, h.ncr⟩
def cmd_cut_os (k : Int) (t1 t2 t3 t6 : ByteArray) : Nat → Array Value
 | 0 => #[.int .i64 k, .string ⟨#[]⟩, .string ⟨#[]⟩, .string ⟨#[]⟩, .int .i64 0, .int .i64 0, .string ⟨#[]⟩, .slice none 0 0, .slice none 0 0]
 | 1 => #[.int .i64 k, .string t1, .string ⟨#[]⟩, .string ⟨#[]⟩, .int .i64 0, .int .i64 0, .string ⟨#[]⟩, .slice none 0 0, .slice none 0 0]
 | 2 => #[.int .i64 k, .string t1, .string t2, .string ⟨#[]⟩, .int .i64 0, .int .i64 0, .string ⟨#[]⟩, .slice none 0 0, .slice none 0 0]
 | 3 => #[.int .i64 k, .string t1, .string t2, .string t3, .int .i64 0, .int .i64 0, .string ⟨#[]⟩, .slice none 0 0, .slice none 0 0]
 | _ => #[.int .i64 k, .string t1, .string t2, .string t3, .int .i64 0, .int .i64 0, .string t6, .slice none 0 0, .slice none 0 0]
theorem cmd_cut_c12 {W : World} {g : Nat} {t : TypeId} {CS : Array Value} {a0 a1 a2 a3 a4 a5 a6 a7 a8 a9 a10 a11 : Value} (h : W.heap[g]? = some (.cells CS t (0, 0))) (e : Aside0 (CS = #[a0, a1, a2, a3, a4, a5, a6, a7, a8, a9, a10, a11])) : (W.cell? ⟨g, 0, none⟩ = some a0 ∧ W.cell? ⟨g, 1, none⟩ = some a1 ∧ W.cell? ⟨g, 2, none⟩ = some a2) ∧ (W.cell? ⟨g, 3, none⟩ = some a3 ∧ W.cell? ⟨g, 4, none⟩ = some a4 ∧ W.cell? ⟨g, 5, none⟩ = some a5) ∧ (W.cell? ⟨g, 6, none⟩ = some a6 ∧ W.cell? ⟨g, 7, none⟩ = some a7 ∧ W.cell? ⟨g, 8, none⟩ = some a8) ∧ (W.cell? ⟨g, 9, none⟩ = some a9 ∧ W.cell? ⟨g, 10, none⟩ = some a10 ∧ W.cell? ⟨g, 11, none⟩ = some a11) := by
 rw [e.out] at h
 exact ⟨⟨(blk_cell h 0).trans rfl, (blk_cell h 1).trans rfl, (blk_cell h 2).trans rfl⟩, ⟨(blk_cell h 3).trans rfl, (blk_cell h 4).trans rfl, (blk_cell h 5).trans rfl⟩, ⟨(blk_cell h 6).trans rfl, (blk_cell h 7).trans rfl, (blk_cell h 8).trans rfl⟩, ⟨(blk_cell h 9).trans rfl, (blk_cell h 10).trans rfl, (blk_cell h 11).trans rfl⟩⟩
-- the result, cell by cell
set_option maxHeartbeats 1000000 in
theorem cmd_cut_fin {w W : World} {gc gr go : Nat} {CS ZS OS : Array Value} (h : cmd_cut_S w gc gr go CS ZS OS W) (hz : ZS = #[.int .i64 0, .string ⟨#[]⟩, .string ⟨#[]⟩, .string ⟨#[]⟩, .int .i64 0, .int .i64 0, .string ⟨#[]⟩, .slice none 0 0, .slice none 0 0]) (u0 u1 u2 u3 u4 u5 u6 u7 u8 : Value) :
  (((((((((W.setCell ⟨gr, 0, none⟩ u0).setCell ⟨gr, 1, none⟩ u1).setCell ⟨gr, 2, none⟩ u2).setCell ⟨gr, 3, none⟩ u3).setCell ⟨gr, 4, none⟩ u4).setCell ⟨gr, 5, none⟩ u5).setCell ⟨gr, 6, none⟩ u6).setCell ⟨gr, 7, none⟩ u7).setCell ⟨gr, 8, none⟩ u8).heap[gr]? = some (.cells #[u0, u1, u2, u3, u4, u5, u6, u7, u8] 25 (0, 0)) ∧ Below w.heap.size w (((((((((W.setCell ⟨gr, 0, none⟩ u0).setCell ⟨gr, 1, none⟩ u1).setCell ⟨gr, 2, none⟩ u2).setCell ⟨gr, 3, none⟩ u3).setCell ⟨gr, 4, none⟩ u4).setCell ⟨gr, 5, none⟩ u5).setCell ⟨gr, 6, none⟩ u6).setCell ⟨gr, 7, none⟩ u7).setCell ⟨gr, 8, none⟩ u8) ∧ ∀ (α : Type) (d : Kd α) (v : Value) (xs : List α) {e : Nat}, (∀ q, q ∈ e :: d.E → q ≠ 25) → d.R e W w.heap.size (fun _ => True) v xs → d.R e (((((((((W.setCell ⟨gr, 0, none⟩ u0).setCell ⟨gr, 1, none⟩ u1).setCell ⟨gr, 2, none⟩ u2).setCell ⟨gr, 3, none⟩ u3).setCell ⟨gr, 4, none⟩ u4).setCell ⟨gr, 5, none⟩ u5).setCell ⟨gr, 6, none⟩ u6).setCell ⟨gr, 7, none⟩ u7).setCell ⟨gr, 8, none⟩ u8) w.heap.size (fun _ => True) v xs := by
 have hr := h.r
 rw [hz] at hr
 have b0 := blk_put (cs' := #[u0, .string ⟨#[]⟩, .string ⟨#[]⟩, .string ⟨#[]⟩, .int .i64 0, .int .i64 0, .string ⟨#[]⟩, .slice none 0 0, .slice none 0 0]) hr 0 u0 rfl
 have b1 := blk_put (cs' := #[u0, u1, .string ⟨#[]⟩, .string ⟨#[]⟩, .int .i64 0, .int .i64 0, .string ⟨#[]⟩, .slice none 0 0, .slice none 0 0]) b0 1 u1 rfl
 have b2 := blk_put (cs' := #[u0, u1, u2, .string ⟨#[]⟩, .int .i64 0, .int .i64 0, .string ⟨#[]⟩, .slice none 0 0, .slice none 0 0]) b1 2 u2 rfl
 have b3 := blk_put (cs' := #[u0, u1, u2, u3, .int .i64 0, .int .i64 0, .string ⟨#[]⟩, .slice none 0 0, .slice none 0 0]) b2 3 u3 rfl
 have b4 := blk_put (cs' := #[u0, u1, u2, u3, u4, .int .i64 0, .string ⟨#[]⟩, .slice none 0 0, .slice none 0 0]) b3 4 u4 rfl
 have b5 := blk_put (cs' := #[u0, u1, u2, u3, u4, u5, .string ⟨#[]⟩, .slice none 0 0, .slice none 0 0]) b4 5 u5 rfl
 have b6 := blk_put (cs' := #[u0, u1, u2, u3, u4, u5, u6, .slice none 0 0, .slice none 0 0]) b5 6 u6 rfl
 have b7 := blk_put (cs' := #[u0, u1, u2, u3, u4, u5, u6, u7, .slice none 0 0]) b6 7 u7 rfl
 have b8 := blk_put (cs' := #[u0, u1, u2, u3, u4, u5, u6, u7, u8]) b7 8 u8 rfl
 refine ⟨b8, ?_, ?_⟩
 ·
  exact below_set (below_set (below_set (below_set (below_set (below_set (below_set (below_set (below_set h.b h.lr) h.lr) h.lr) h.lr) h.lr) h.lr) h.lr) h.lr) h.lr
 ·
  intro α d v xs e ht hv
  have hk := Kd.R_types hv hr ht
  exact Kd.R_mono (Kd.R_far (p := ⟨gr, 8, none⟩) (Kd.R_far (p := ⟨gr, 7, none⟩) (Kd.R_far (p := ⟨gr, 6, none⟩) (Kd.R_far (p := ⟨gr, 5, none⟩) (Kd.R_far (p := ⟨gr, 4, none⟩) (Kd.R_far (p := ⟨gr, 3, none⟩) (Kd.R_far (p := ⟨gr, 2, none⟩) (Kd.R_far (p := ⟨gr, 1, none⟩) (Kd.R_far (p := ⟨gr, 0, none⟩) hk (fun _ hk => hk.2) u0) (fun _ hk => hk.2) u1) (fun _ hk => hk.2) u2) (fun _ hk => hk.2) u3) (fun _ hk => hk.2) u4) (fun _ hk => hk.2) u5) (fun _ hk => hk.2) u6) (fun _ hk => hk.2) u7) (fun _ hk => hk.2) u8) (fun _ _ => trivial)
set_option maxHeartbeats 8000000 in
set_option maxRecDepth 100000 in
theorem cmd_cut.calls (a0_0 : Int) (a0_1 : ByteArray) (a0_2 : ByteArray) (a0_3 : ByteArray) (a0_4 : Int) (a0_5 : Int) (a0_6 : ByteArray) (A0_7 : Option Addr) (c0_7 : Nat) (l0_7 : List (S82)) (A0_8 : Option Addr) (c0_8 : Nat) (l0_8 : List (S62)) (a1 : Int) (r1 : Int) (r2 : ByteArray) (r3 : ByteArray) (r4 : ByteArray) (r5 : Int) (r6 : Int) (r7 : ByteArray) (r8 : List (S82)) (r9 : List (S62)) (w : World) (hr0_7 : Kd.C k82 w A0_7 l0_7.length l0_7) (hc0_7 : l0_7.length ≤ c0_7) (hr0_8 : Kd.C k62 w A0_8 l0_8.length l0_8) (hc0_8 : l0_8.length ≤ c0_8) (h : cmd_cut.f a0_0 a0_1 a0_2 a0_3 a0_4 a0_5 a0_6 l0_7 l0_8 a1 = some (r1, r2, r3, r4, r5, r6, r7, r8, r9)) :
  Calls Tryd.prog 32 #[.agg #[.int .i64 a0_0, .string a0_1, .string a0_2, .string a0_3, .int .i64 a0_4, .int .i64 a0_5, .string a0_6, .slice A0_7 l0_7.length c0_7, .slice A0_8 l0_8.length c0_8], .int .i64 a1] w fun e w' => ∃ v7_ v8_ : Value, e = .returned (.agg #[.int .i64 r1, .string r2, .string r3, .string r4, .int .i64 r5, .int .i64 r6, .string r7, v7_, v8_]) ∧ Kd.R k82 82 w' w.heap.size (fun _ => True) v7_ r8 ∧ Kd.R k62 62 w' w.heap.size (fun _ => True) v8_ r9 ∧ Below w.heap.size w w' := by
 have HR7 := am hr0_7
 have HR8 := am hr0_8
 have HC7 := am hc0_7
 have HC8 := am hc0_8
 clear hr0_7 hr0_8 hc0_7 hc0_8
 have HB := am (Below.refl w.heap.size w)
 unfold cmd_cut.f at h
 replace h := obE h
 obtain ⟨p, A0, h⟩ := h
 replace h := obE h
 obtain ⟨q, A1, h⟩ := h
 simp only [Option.some.injEq, Prod.mk.injEq] at h
 obtain ⟨rfl, rfl, rfl, rfl, rfl, rfl, rfl, rfl, rfl⟩ := h
 obtain ⟨T1, hT1⟩ : ∃ T1, T1 = cmd_cut_t a1 1 a0_1 := ⟨_, rfl⟩
 obtain ⟨T2, hT2⟩ : ∃ T2, T2 = cmd_cut_t a1 2 a0_2 := ⟨_, rfl⟩
 obtain ⟨T3, hT3⟩ : ∃ T3, T3 = cmd_cut_t a1 4 a0_3 := ⟨_, rfl⟩
 obtain ⟨T6, hT6⟩ : ∃ T6, T6 = cmd_cut_t a1 32 a0_6 := ⟨_, rfl⟩
 obtain ⟨N4, hN4⟩ : ∃ N4, N4 = cmd_cut_n a1 8 a0_4 := ⟨_, rfl⟩
 obtain ⟨N5, hN5⟩ : ∃ N5, N5 = cmd_cut_n a1 16 a0_5 := ⟨_, rfl⟩
 rw [← hT1, ← hT2, ← hT3, ← hT6, ← hN4, ← hN5]
 have HT1 := am hT1
 have HT2 := am hT2
 have HT3 := am hT3
 have HT6 := am hT6
 have HN4 := am hN4
 have HN5 := am hN5
 clear hT1 hT2 hT3 hT6 hN4 hN5
 obtain ⟨CS, hCS⟩ : ∃ CS : Array Value, CS = #[.int .i64 a0_0, .string a0_1, .string a0_2, .string a0_3, .int .i64 a0_4, .int .i64 a0_5, .string a0_6, .slice A0_7 l0_7.length c0_7, .slice A0_8 l0_8.length c0_8] := ⟨_, rfl⟩
 have HCS := am hCS
 clear hCS
 obtain ⟨ZS, hZS⟩ : ∃ ZS : Array Value, ZS = #[.int .i64 0, .string ⟨#[]⟩, .string ⟨#[]⟩, .string ⟨#[]⟩, .int .i64 0, .int .i64 0, .string ⟨#[]⟩, .slice none 0 0, .slice none 0 0] := ⟨_, rfl⟩
 have HZS := am hZS
 clear hZS
 go_enter Tryd.func32, Tryd.ntmps32
 go_wp2_with (first
  | ((with_reducible refine gate_dst (N := 2) rfl ?_); refine bx 2 #[.int .i64 a0_0, .string a0_1, .string a0_2, .string a0_3, .int .i64 a0_4, .int .i64 a0_5, .string a0_6, .slice A0_7 l0_7.length c0_7, .slice A0_8 l0_8.length c0_8] 25 ?_; intro gc hg w1 hbox hb; rw [← HCS.out] at hbox; have BC := am hbox; replace HB := am (below_step HB.out hb); clear hb hbox hg; obtain ⟨c0, c1, c2, c3, c4, c5, c6, c7, c8⟩ := cmd_cut_c9 BC.out HCS)
  | ((with_reducible refine gate_dst (N := 4) rfl ?_); refine bx 4 #[.int .i64 0, .string ⟨#[]⟩, .string ⟨#[]⟩, .string ⟨#[]⟩, .int .i64 0, .int .i64 0, .string ⟨#[]⟩, .slice none 0 0, .slice none 0 0] 25 ?_; intro gr hg w2 hbox hb; rw [← HZS.out] at hbox; have BR := am hbox; have GR := gsz hg HB.out; have NCR := nlt (g := gc) hg BC.out; replace BC := bb BC.out hb; replace HB := am (below_step HB.out hb); clear hb hbox hg c0 c1 c2 c3 c4 c5 c6 c7 c8; obtain ⟨c0, c1, c2, c3, c4, c5, c6, c7, c8⟩ := cmd_cut_c9 BC.out HCS)
  | ((with_reducible refine gate_dst (N := 5) rfl ?_); refine bx 5 #[.int .i64 0, .string ⟨#[]⟩, .string ⟨#[]⟩, .string ⟨#[]⟩, .int .i64 0, .int .i64 0, .string ⟨#[]⟩, .slice none 0 0, .slice none 0 0] 25 ?_; intro go hg w3 hbox hb; rw [← HZS.out] at hbox; have BO := am hbox; have GO := gsz hg HB.out; have NCO := nlt (g := gc) hg BC.out; have NRO := nlt (g := gr) hg BR.out; replace BC := bb BC.out hb; replace BR := bb BR.out hb; replace HB := am (below_step HB.out hb); clear hb hbox hg c0 c1 c2 c3 c4 c5 c6 c7 c8; obtain ⟨z0, z1, z2, z3, z4, z5, z6, z7, z8⟩ := cmd_cut_c9 BO.out HZS; obtain ⟨y0, y1, y2, y3, y4, y5, y6, y7, y8⟩ := cmd_cut_f9 BO.out))
 -- ROUNDS
 obtain ⟨LS, hLS⟩ : ∃ LS : Array Value, LS = #[.int .i64 1, .pointer (some ⟨go, 1, none⟩), .pointer (some ⟨gc, 1, none⟩), .int .i64 2, .pointer (some ⟨go, 2, none⟩), .pointer (some ⟨gc, 2, none⟩), .int .i64 4, .pointer (some ⟨go, 3, none⟩), .pointer (some ⟨gc, 3, none⟩), .int .i64 32, .pointer (some ⟨go, 6, none⟩), .pointer (some ⟨gc, 6, none⟩)] := ⟨_, rfl⟩
 have HLS := am hLS
 have HS0 : cmd_cut_S w gc gr go CS ZS ZS w3 := ⟨BC.out, BR.out, BO.out, HB.out, GR.out, GO.out, NCO.out, NRO.out, NCR.out⟩
 have HS1 := am ((((((((((HS0.put 0 (.int .i64 a0_0) rfl).put 1 (.string ⟨#[]⟩) rfl).put 2 (.string ⟨#[]⟩) rfl).put 3 (.string ⟨#[]⟩) rfl).put 4 (.int .i64 0) rfl).put 5 (.int .i64 0) rfl).put 6 (.string ⟨#[]⟩) rfl).put 7 (.slice none 0 0) rfl).put 8 (.slice none 0 0) rfl).below (below_alloc (Below.refl _ _) (.cells LS 110 (0, 0))))
 obtain ⟨gl, hgl⟩ : ∃ gl, gl = w3.heap.size := ⟨_, rfl⟩
 obtain ⟨W, hW⟩ : ∃ W, W = (((((((((w3.setCell ⟨go, 0, none⟩ (.int .i64 a0_0)).setCell ⟨go, 1, none⟩ (.string ⟨#[]⟩)).setCell ⟨go, 2, none⟩ (.string ⟨#[]⟩)).setCell ⟨go, 3, none⟩ (.string ⟨#[]⟩)).setCell ⟨go, 4, none⟩ (.int .i64 0)).setCell ⟨go, 5, none⟩ (.int .i64 0)).setCell ⟨go, 6, none⟩ (.string ⟨#[]⟩)).setCell ⟨go, 7, none⟩ (.slice none 0 0)).setCell ⟨go, 8, none⟩ (.slice none 0 0)).alloc (.cells LS 110 (0, 0)) := ⟨_, rfl⟩
 rw [← hLS, ← hgl]
 have HS : Aside0 (cmd_cut_S w gc gr go CS ZS (cmd_cut_os a0_0 T1 T2 T3 T6 0) W) := am (by
  have h := HS1.out
  rw [← hW] at h
  have e : (((((((((ZS.setIfInBounds 0 (.int .i64 a0_0)).setIfInBounds 1 (.string ⟨#[]⟩)).setIfInBounds 2 (.string ⟨#[]⟩)).setIfInBounds 3 (.string ⟨#[]⟩)).setIfInBounds 4 (.int .i64 0)).setIfInBounds 5 (.int .i64 0)).setIfInBounds 6 (.string ⟨#[]⟩)).setIfInBounds 7 (.slice none 0 0)).setIfInBounds 8 (.slice none 0 0)) = cmd_cut_os a0_0 T1 T2 T3 T6 0 := by rw [HZS.out]; rfl
  rw [e] at h
  exact h)
 have HL : Aside0 (W.heap[gl]? = some (.cells LS 110 (0, 0))) := am (by
  rw [hW, hgl]
  have := heap_alloc_new (((((((((w3.setCell ⟨go, 0, none⟩ (.int .i64 a0_0)).setCell ⟨go, 1, none⟩ (.string ⟨#[]⟩)).setCell ⟨go, 2, none⟩ (.string ⟨#[]⟩)).setCell ⟨go, 3, none⟩ (.string ⟨#[]⟩)).setCell ⟨go, 4, none⟩ (.int .i64 0)).setCell ⟨go, 5, none⟩ (.int .i64 0)).setCell ⟨go, 6, none⟩ (.string ⟨#[]⟩)).setCell ⟨go, 7, none⟩ (.slice none 0 0)).setCell ⟨go, 8, none⟩ (.slice none 0 0)) (.cells LS 110 (0, 0))
  simpa only [World.size_setCell] using this)
 have GL : Aside0 (w.heap.size ≤ gl) := am (by rw [hgl]; exact HB.out.size)
 rw [← hW]
 clear hW hLS hgl HS0 HS1 BC BR BO HB NCR NCO NRO z0 z1 z2 z3 z4 z5 z6 z7 z8 y0 y1 y2 y3 y4 y5 y6 y7 y8
 go_loopg [25] 4 (fun n v25 w' => ∃ (i : Nat), v25 = .int .i64 (i : Int) ∧ Aside0 (i + n = 4) ∧ Aside0 (cmd_cut_S w gc gr go CS ZS (cmd_cut_os a0_0 T1 T2 T3 T6 i) w') ∧ Aside0 (w'.heap[gl]? = some (.cells LS 110 (0, 0))))
 case atStart => exact ⟨0, rfl, am rfl, HS, HL⟩
 case round =>
  clear HS HL
  obtain ⟨i, rfl, HN, HS, HL⟩ := hrel
  cases gk with
  | zero =>
   obtain rfl : i = 4 := by have := HN.out; omega
   clear HN
   clear HL
   obtain ⟨c0, c1, c2, c3, c4, c5, c6, c7, c8⟩ := cmd_cut_c9 HS.out.c HCS
   have co := (blk_cell HS.out.o 4).trans rfl
   have fo := blk_frozen HS.out.o 4
   go_upto_if 44 with (fail)
   go_cut [] (fun wc => Aside0 (cmd_cut_S w gc gr go CS ZS #[.int .i64 a0_0, .string T1, .string T2, .string T3, .int .i64 N4, .int .i64 0, .string T6, .slice none 0 0, .slice none 0 0] wc))
   case first =>
    by_cases hb : (Go.bits .and .i64 a1 8 != 0) = true
    ·
     have HE : Aside0 (N4 = a0_4) := am (by rw [HN4.out]; unfold cmd_cut_n; rw [if_pos hb])
     go_wp2
     go_meet
     case rel => exact am (by rw [HE.out]; exact HS.out.put 4 (.int .i64 a0_4) rfl)
    ·
     have HE : Aside0 (N4 = 0) := am (by rw [HN4.out]; unfold cmd_cut_n; rw [if_neg hb])
     replace hb := Bool.eq_false_iff.mpr hb
     go_wp2
     go_meet
     case rel => exact am (by rw [HE.out]; exact HS.out)
   case rest =>
    clear HS co fo c0 c1 c2 c3 c4 c5 c6 c7 c8
    have HS := hcut
    clear hcut
    obtain ⟨c0, c1, c2, c3, c4, c5, c6, c7, c8⟩ := cmd_cut_c9 HS.out.c HCS
    have co := (blk_cell HS.out.o 5).trans rfl
    have fo := blk_frozen HS.out.o 5
    go_upto_if 50 with (fail)
    go_cut [] (fun wc => Aside0 (cmd_cut_S w gc gr go CS ZS #[.int .i64 a0_0, .string T1, .string T2, .string T3, .int .i64 N4, .int .i64 N5, .string T6, .slice none 0 0, .slice none 0 0] wc))
    case first =>
     by_cases hb : (Go.bits .and .i64 a1 16 != 0) = true
     ·
      have HE : Aside0 (N5 = a0_5) := am (by rw [HN5.out]; unfold cmd_cut_n; rw [if_pos hb])
      go_wp2
      go_meet
      case rel => exact am (by rw [HE.out]; exact HS.out.put 5 (.int .i64 a0_5) rfl)
     ·
      have HE : Aside0 (N5 = 0) := am (by rw [HN5.out]; unfold cmd_cut_n; rw [if_neg hb])
      replace hb := Bool.eq_false_iff.mpr hb
      go_wp2
      go_meet
      case rel => exact am (by rw [HE.out]; exact HS.out)
    case rest =>
     clear HS co fo c0 c1 c2 c3 c4 c5 c6 c7 c8
     have HS := hcut
     clear hcut
     obtain ⟨c0, c1, c2, c3, c4, c5, c6, c7, c8⟩ := cmd_cut_c9 HS.out.c HCS
     go_upto_if 56 with (fail)
     go_cut [] (fun wc => ∃ v7 : Value, Aside0 (cmd_cut_S w gc gr go CS ZS #[.int .i64 a0_0, .string T1, .string T2, .string T3, .int .i64 N4, .int .i64 N5, .string T6, v7, .slice none 0 0] wc) ∧ Aside0 (Kd.R k82 82 wc w.heap.size (fun _ => True) v7 p))
     case first =>
      by_cases hb : (Go.bits .and .i64 a1 64 != 0) = true
      ·
       have HA := am (by have h := A0.out; rw [if_pos hb] at h; exact h)
       go_wp2_with (go_at_call 70; (with_reducible refine (api_Piece_70.calls _ _ l0_7 p _ ?s1 HC7.out HA.out).mono ?_); (case s1 => exact Kd.C_below HR7.out HS.out.b); rintro e w5 ⟨v7, rfl, hv, hbb⟩; obtain ⟨Ao, cp_, eo⟩ := Kd.R_slice hv; subst eo; have HV := am (Kd.R_lower hv HS.out.b.size); replace HS := am (HS.out.below hbb); clear hv hbb c0 c1 c2 c3 c4 c5 c6 c7 c8; have co := (blk_cell HS.out.o 7).trans rfl; have fo := blk_frozen HS.out.o 7)
       go_meet
       case rel => exact ⟨_, am (HS.out.put 7 (.slice Ao p.length cp_) rfl), am (Kd.R_mono (Kd.R_far (p := ⟨go, 7, none⟩) (Kd.R_types HV.out HS.out.o (by decide)) (fun _ hk => hk.2) (.slice Ao p.length cp_)) (fun _ _ => trivial))⟩
      ·
       have HE : Aside0 (p = []) := am (by have h := A0.out; rw [if_neg hb] at h; exact (Option.some.inj h).symm)
       replace hb := Bool.eq_false_iff.mpr hb
       go_wp2
       go_meet
       case rel => exact ⟨_, HS, am (by rw [HE.out]; exact Kd.R_nil _ _ _ _ _)⟩
     case rest =>
      clear HS c0 c1 c2 c3 c4 c5 c6 c7 c8
      obtain ⟨v7, HS, HV⟩ := hcut
      obtain ⟨B7, d7, e7⟩ := Kd.R_slice HV.out
      subst e7
      obtain ⟨c0, c1, c2, c3, c4, c5, c6, c7, c8⟩ := cmd_cut_c9 HS.out.c HCS
      go_upto_if 63 with (fail)
      go_cut [] (fun wc => ∃ v8 : Value, Aside0 (cmd_cut_S w gc gr go CS ZS #[.int .i64 a0_0, .string T1, .string T2, .string T3, .int .i64 N4, .int .i64 N5, .string T6, .slice B7 p.length d7, v8] wc) ∧ Aside0 (Kd.R k82 82 wc w.heap.size (fun _ => True) (.slice B7 p.length d7) p) ∧ Aside0 (Kd.R k62 62 wc w.heap.size (fun _ => True) v8 q))
      case first =>
       by_cases hb : (Go.bits .and .i64 a1 128 != 0) = true
       ·
        have HA := am (by have h := A1.out; rw [if_pos hb] at h; exact h)
        go_wp2_with (go_at_call 71; (with_reducible refine (api_Pick_71.calls _ _ l0_8 q _ ?s2 HC8.out HA.out).mono ?_); (case s2 => exact Kd.C_below HR8.out HS.out.b); rintro e w5 ⟨v8, rfl, hv, hbb⟩; obtain ⟨Ao, cp_, eo⟩ := Kd.R_slice hv; subst eo; have HU := am (Kd.R_lower hv HS.out.b.size); replace HS := am (HS.out.below hbb); replace HV := am (Kd.R_below HV.out hbb); clear hv hbb c0 c1 c2 c3 c4 c5 c6 c7 c8; have co := (blk_cell HS.out.o 8).trans rfl; have fo := blk_frozen HS.out.o 8)
        go_meet
        case rel => exact ⟨_, am (HS.out.put 8 (.slice Ao q.length cp_) rfl), am (Kd.R_mono (Kd.R_far (p := ⟨go, 8, none⟩) (Kd.R_types HV.out HS.out.o (by decide)) (fun _ hk => hk.2) (.slice Ao q.length cp_)) (fun _ _ => trivial)), am (Kd.R_mono (Kd.R_far (p := ⟨go, 8, none⟩) (Kd.R_types HU.out HS.out.o (by decide)) (fun _ hk => hk.2) (.slice Ao q.length cp_)) (fun _ _ => trivial))⟩
       ·
        have HE : Aside0 (q = []) := am (by have h := A1.out; rw [if_neg hb] at h; exact (Option.some.inj h).symm)
        replace hb := Bool.eq_false_iff.mpr hb
        go_wp2
        go_meet
        case rel => exact ⟨_, HS, HV, am (by rw [HE.out]; exact Kd.R_nil _ _ _ _ _)⟩
      case rest =>
       clear HS HV c0 c1 c2 c3 c4 c5 c6 c7 c8
       obtain ⟨v8, HS, HV, HU⟩ := hcut
       obtain ⟨B8, d8, e8⟩ := Kd.R_slice HU.out
       subst e8
       obtain ⟨c0, c1, c2, c3, c4, c5, c6, c7, c8⟩ := cmd_cut_c9 HS.out.o (am rfl)
       obtain ⟨z0, z1, z2, z3, z4, z5, z6, z7, z8⟩ := cmd_cut_c9 HS.out.r HZS
       obtain ⟨y0, y1, y2, y3, y4, y5, y6, y7, y8⟩ := cmd_cut_f9 HS.out.r
       have hne := HS.out.nro
       have hne2 := Ne.symm HS.out.nro
       go_wp2
       have hf := cmd_cut_fin HS.out HZS.out (.int .i64 a0_0) (.string T1) (.string T2) (.string T3) (.int .i64 N4) (.int .i64 N5) (.string T6) (.slice B7 p.length d7) (.slice B8 q.length d8)
       have g8 := hf.1
       have gB := hf.2.1
       have gV := hf.2.2 _ _ _ _ (by decide) HV.out
       have gU := hf.2.2 _ _ _ _ (by decide) HU.out
       clear hf z0 z1 z2 z3 z4 z5 z6 z7 z8 y0 y1 y2 y3 y4 y5 y6 y7 y8 c0 c1 c2 c3 c4 c5 c6 c7 c8 HS HV HU
       generalize ((((((((wc.setCell ⟨gr, 0, none⟩ (.int .i64 a0_0)).setCell ⟨gr, 1, none⟩ (.string T1)).setCell ⟨gr, 2, none⟩ (.string T2)).setCell ⟨gr, 3, none⟩ (.string T3)).setCell ⟨gr, 4, none⟩ (.int .i64 N4)).setCell ⟨gr, 5, none⟩ (.int .i64 N5)).setCell ⟨gr, 6, none⟩ (.string T6)).setCell ⟨gr, 7, none⟩ (.slice B7 p.length d7)).setCell ⟨gr, 8, none⟩ (.slice B8 q.length d8) = Z at g8 gB gV gU ⊢
       refine bodyPost_ret (results_single rfl (.cell gr 25 #[.int .i64 a0_0, .string T1, .string T2, .string T3, .int .i64 N4, .int .i64 N5, .string T6, .slice B7 p.length d7, .slice B8 q.length d8] (0, 0) _ rfl g8 Tryd.underlying25 rfl (by kernel_rfl) .nil)) rfl ?_
       exact ⟨_, _, rfl, gV, gU, gB⟩
  | succ m =>
   have hi : i = 0 ∨ i = 1 ∨ i = 2 ∨ i = 3 := by have := HN.out; omega
   rcases hi with rfl | rfl | rfl | rfl
   ·
    obtain rfl : m = 3 := by have := HN.out; omega
    clear HN
    obtain ⟨⟨l0, l1, l2⟩, ⟨l3, l4, l5⟩, ⟨l6, l7, l8⟩, ⟨l9, l10, l11⟩⟩ := cmd_cut_c12 HL.out HLS
    by_cases hb : (Go.bits .and .i64 a1 1 != 0) = true
    ·
     have HE : Aside0 (T1 = a0_1) := am (by rw [HT1.out]; unfold cmd_cut_t; rw [if_pos hb])
     go_wp2_with ((with_reducible refine gate_dst (N := 7) rfl ?_); refine bx 7 #[.int .i64 0, .pointer none, .pointer none] 110 ?_; intro gp hg wp hbox hbb; have BP := am hbox; have GP := gsz hg HS.out.b; have NPL := nlt (g := gl) hg HL.out; replace HS := am (HS.out.below hbb); replace HL := bb HL.out hbb; clear hbb hbox hg l0 l1 l2 l3 l4 l5 l6 l7 l8 l9 l10 l11; obtain ⟨cp0, cp1, cp2, fp0, fp1, fp2⟩ := cz3 BP.out; obtain ⟨⟨l0, l1, l2⟩, ⟨l3, l4, l5⟩, ⟨l6, l7, l8⟩, ⟨l9, l10, l11⟩⟩ := cmd_cut_c12 HL.out HLS)
     clear cp0 cp1 cp2 fp0 fp1 fp2 l0 l1 l2 l3 l4 l5 l6 l7 l8 l9 l10 l11
     obtain ⟨W, hW⟩ : ∃ W, W = ((wp.setCell ⟨gp, 0, none⟩ (.int .i64 1)).setCell ⟨gp, 1, none⟩ (.pointer (some ⟨go, 1, none⟩))).setCell ⟨gp, 2, none⟩ (.pointer (some ⟨gc, 1, none⟩)) := ⟨_, rfl⟩
     have BW : Aside0 (W.heap[gp]? = some (.cells #[.int .i64 1, .pointer (some ⟨go, 1, none⟩), .pointer (some ⟨gc, 1, none⟩)] 110 (0, 0))) := am (by rw [hW]; exact bkp BP.out)
     have LW : Aside0 (W.heap[gl]? = some (.cells LS 110 (0, 0))) := am (by rw [hW]; exact blk_far (blk_far (blk_far HL.out NPL.out _) NPL.out _) NPL.out _)
     have SW : Aside0 (cmd_cut_S w gc gr go CS ZS (cmd_cut_os a0_0 T1 T2 T3 T6 0) W) := am (by rw [hW]; exact ((HS.out.far BP.out (by decide) GP.out 0 _).far (bkp BP.out) (by decide) GP.out 1 _).far (cs := #[.int .i64 1, .pointer (some ⟨go, 1, none⟩), .pointer none]) (bkp BP.out) (by decide) GP.out 2 _)
     rw [← hW]
     clear hW HS HL BP NPL
     obtain ⟨cp0, cp1, cp2, fp0, fp1, fp2⟩ := cz3 BW.out
     have cc := cmd_cut_c9 SW.out.c HCS
     refine start_ (n := 8) (S := fun w' => w'.cell? ⟨gp, 1, none⟩ = some (.pointer (some ⟨go, 1, none⟩)) ∧ w'.cell? ⟨gp, 2, none⟩ = some (.pointer (some ⟨gc, 1, none⟩)) ∧ w'.cell? ⟨gc, 1, none⟩ = some (.string a0_1)) (ds := [7]) #[false, false, false, false, false, false, false, false] (by kernel_rfl) rfl rfl ⟨cp1, cp2, cc.2.1⟩ (fun hHeld => ?_)
     clear cp0 cp1 cp2 fp0 fp1 fp2 cc
     replace SW := am SW.out.drew
     replace LW := am (blk_drew LW.out)
     generalize W.drew = W1 at SW LW hHeld ⊢
     refine hp 0 (some 34) ?_
     refine hp 2 (some 36) ?_
     refine ht 1 (some 35) hHeld ?_
     refine ht 3 (some 37) hHeld ?_
     refine hp 4 (some 38) ?_
     refine ht 5 (some 39) hHeld ?_
     refine hp 6 (some 40) ?_
     have co := (blk_cell SW.out.o 1).trans rfl
     have fo := blk_frozen SW.out.o 1
     refine hstore 7 ?_
     refine done_ (by kernel_rfl) ?_
     clear co fo hHeld
     go_wp2
     go_roundg 3
     case measure => omega
     case rel => exact ⟨1, rfl, am rfl, am (SW.out.put 1 _ (by rw [HE.out]; rfl)), am (blk_far LW.out (Ne.symm (blk_ne SW.out.o LW.out (by decide))) _)⟩
    ·
     have HE : Aside0 (T1 = ⟨#[]⟩) := am (by rw [HT1.out]; unfold cmd_cut_t; rw [if_neg hb])
     replace hb := Bool.eq_false_iff.mpr hb
     go_wp2_with ((with_reducible refine gate_dst (N := 7) rfl ?_); refine bx 7 #[.int .i64 0, .pointer none, .pointer none] 110 ?_; intro gp hg wp hbox hbb; have BP := am hbox; have GP := gsz hg HS.out.b; have NPL := nlt (g := gl) hg HL.out; replace HS := am (HS.out.below hbb); replace HL := bb HL.out hbb; clear hbb hbox hg l0 l1 l2 l3 l4 l5 l6 l7 l8 l9 l10 l11; obtain ⟨cp0, cp1, cp2, fp0, fp1, fp2⟩ := cz3 BP.out; obtain ⟨⟨l0, l1, l2⟩, ⟨l3, l4, l5⟩, ⟨l6, l7, l8⟩, ⟨l9, l10, l11⟩⟩ := cmd_cut_c12 HL.out HLS)
     go_roundg 3
     case measure => omega
     case rel => exact ⟨1, rfl, am rfl, am (by rw [show cmd_cut_os a0_0 T1 T2 T3 T6 1 = cmd_cut_os a0_0 T1 T2 T3 T6 0 by show cmd_cut_os a0_0 T1 T2 T3 T6 1 = _; unfold cmd_cut_os; simp only []; rw [HE.out]]; exact ((HS.out.far BP.out (by decide) GP.out 0 _).far (bkp BP.out) (by decide) GP.out 1 _).far (cs := #[.int .i64 1, .pointer (some ⟨go, 1, none⟩), .pointer none]) (bkp BP.out) (by decide) GP.out 2 _), am (blk_far (blk_far (blk_far HL.out NPL.out _) NPL.out _) NPL.out _)⟩
   ·
    obtain rfl : m = 2 := by have := HN.out; omega
    clear HN
    obtain ⟨⟨l0, l1, l2⟩, ⟨l3, l4, l5⟩, ⟨l6, l7, l8⟩, ⟨l9, l10, l11⟩⟩ := cmd_cut_c12 HL.out HLS
    by_cases hb : (Go.bits .and .i64 a1 2 != 0) = true
    ·
     have HE : Aside0 (T2 = a0_2) := am (by rw [HT2.out]; unfold cmd_cut_t; rw [if_pos hb])
     go_wp2_with ((with_reducible refine gate_dst (N := 7) rfl ?_); refine bx 7 #[.int .i64 0, .pointer none, .pointer none] 110 ?_; intro gp hg wp hbox hbb; have BP := am hbox; have GP := gsz hg HS.out.b; have NPL := nlt (g := gl) hg HL.out; replace HS := am (HS.out.below hbb); replace HL := bb HL.out hbb; clear hbb hbox hg l0 l1 l2 l3 l4 l5 l6 l7 l8 l9 l10 l11; obtain ⟨cp0, cp1, cp2, fp0, fp1, fp2⟩ := cz3 BP.out; obtain ⟨⟨l0, l1, l2⟩, ⟨l3, l4, l5⟩, ⟨l6, l7, l8⟩, ⟨l9, l10, l11⟩⟩ := cmd_cut_c12 HL.out HLS)
     clear cp0 cp1 cp2 fp0 fp1 fp2 l0 l1 l2 l3 l4 l5 l6 l7 l8 l9 l10 l11
     obtain ⟨W, hW⟩ : ∃ W, W = ((wp.setCell ⟨gp, 0, none⟩ (.int .i64 2)).setCell ⟨gp, 1, none⟩ (.pointer (some ⟨go, 2, none⟩))).setCell ⟨gp, 2, none⟩ (.pointer (some ⟨gc, 2, none⟩)) := ⟨_, rfl⟩
     have BW : Aside0 (W.heap[gp]? = some (.cells #[.int .i64 2, .pointer (some ⟨go, 2, none⟩), .pointer (some ⟨gc, 2, none⟩)] 110 (0, 0))) := am (by rw [hW]; exact bkp BP.out)
     have LW : Aside0 (W.heap[gl]? = some (.cells LS 110 (0, 0))) := am (by rw [hW]; exact blk_far (blk_far (blk_far HL.out NPL.out _) NPL.out _) NPL.out _)
     have SW : Aside0 (cmd_cut_S w gc gr go CS ZS (cmd_cut_os a0_0 T1 T2 T3 T6 1) W) := am (by rw [hW]; exact ((HS.out.far BP.out (by decide) GP.out 0 _).far (bkp BP.out) (by decide) GP.out 1 _).far (cs := #[.int .i64 2, .pointer (some ⟨go, 2, none⟩), .pointer none]) (bkp BP.out) (by decide) GP.out 2 _)
     rw [← hW]
     clear hW HS HL BP NPL
     obtain ⟨cp0, cp1, cp2, fp0, fp1, fp2⟩ := cz3 BW.out
     have cc := cmd_cut_c9 SW.out.c HCS
     refine start_ (n := 8) (S := fun w' => w'.cell? ⟨gp, 1, none⟩ = some (.pointer (some ⟨go, 2, none⟩)) ∧ w'.cell? ⟨gp, 2, none⟩ = some (.pointer (some ⟨gc, 2, none⟩)) ∧ w'.cell? ⟨gc, 2, none⟩ = some (.string a0_2)) (ds := [7]) #[false, false, false, false, false, false, false, false] (by kernel_rfl) rfl rfl ⟨cp1, cp2, cc.2.2.1⟩ (fun hHeld => ?_)
     clear cp0 cp1 cp2 fp0 fp1 fp2 cc
     replace SW := am SW.out.drew
     replace LW := am (blk_drew LW.out)
     generalize W.drew = W1 at SW LW hHeld ⊢
     refine hp 0 (some 34) ?_
     refine hp 2 (some 36) ?_
     refine ht 1 (some 35) hHeld ?_
     refine ht 3 (some 37) hHeld ?_
     refine hp 4 (some 38) ?_
     refine ht 5 (some 39) hHeld ?_
     refine hp 6 (some 40) ?_
     have co := (blk_cell SW.out.o 2).trans rfl
     have fo := blk_frozen SW.out.o 2
     refine hstore 7 ?_
     refine done_ (by kernel_rfl) ?_
     clear co fo hHeld
     go_wp2
     go_roundg 2
     case measure => omega
     case rel => exact ⟨2, rfl, am rfl, am (SW.out.put 2 _ (by rw [HE.out]; rfl)), am (blk_far LW.out (Ne.symm (blk_ne SW.out.o LW.out (by decide))) _)⟩
    ·
     have HE : Aside0 (T2 = ⟨#[]⟩) := am (by rw [HT2.out]; unfold cmd_cut_t; rw [if_neg hb])
     replace hb := Bool.eq_false_iff.mpr hb
     go_wp2_with ((with_reducible refine gate_dst (N := 7) rfl ?_); refine bx 7 #[.int .i64 0, .pointer none, .pointer none] 110 ?_; intro gp hg wp hbox hbb; have BP := am hbox; have GP := gsz hg HS.out.b; have NPL := nlt (g := gl) hg HL.out; replace HS := am (HS.out.below hbb); replace HL := bb HL.out hbb; clear hbb hbox hg l0 l1 l2 l3 l4 l5 l6 l7 l8 l9 l10 l11; obtain ⟨cp0, cp1, cp2, fp0, fp1, fp2⟩ := cz3 BP.out; obtain ⟨⟨l0, l1, l2⟩, ⟨l3, l4, l5⟩, ⟨l6, l7, l8⟩, ⟨l9, l10, l11⟩⟩ := cmd_cut_c12 HL.out HLS)
     go_roundg 2
     case measure => omega
     case rel => exact ⟨2, rfl, am rfl, am (by rw [show cmd_cut_os a0_0 T1 T2 T3 T6 2 = cmd_cut_os a0_0 T1 T2 T3 T6 1 by show cmd_cut_os a0_0 T1 T2 T3 T6 2 = _; unfold cmd_cut_os; simp only []; rw [HE.out]]; exact ((HS.out.far BP.out (by decide) GP.out 0 _).far (bkp BP.out) (by decide) GP.out 1 _).far (cs := #[.int .i64 2, .pointer (some ⟨go, 2, none⟩), .pointer none]) (bkp BP.out) (by decide) GP.out 2 _), am (blk_far (blk_far (blk_far HL.out NPL.out _) NPL.out _) NPL.out _)⟩
   ·
    obtain rfl : m = 1 := by have := HN.out; omega
    clear HN
    obtain ⟨⟨l0, l1, l2⟩, ⟨l3, l4, l5⟩, ⟨l6, l7, l8⟩, ⟨l9, l10, l11⟩⟩ := cmd_cut_c12 HL.out HLS
    by_cases hb : (Go.bits .and .i64 a1 4 != 0) = true
    ·
     have HE : Aside0 (T3 = a0_3) := am (by rw [HT3.out]; unfold cmd_cut_t; rw [if_pos hb])
     go_wp2_with ((with_reducible refine gate_dst (N := 7) rfl ?_); refine bx 7 #[.int .i64 0, .pointer none, .pointer none] 110 ?_; intro gp hg wp hbox hbb; have BP := am hbox; have GP := gsz hg HS.out.b; have NPL := nlt (g := gl) hg HL.out; replace HS := am (HS.out.below hbb); replace HL := bb HL.out hbb; clear hbb hbox hg l0 l1 l2 l3 l4 l5 l6 l7 l8 l9 l10 l11; obtain ⟨cp0, cp1, cp2, fp0, fp1, fp2⟩ := cz3 BP.out; obtain ⟨⟨l0, l1, l2⟩, ⟨l3, l4, l5⟩, ⟨l6, l7, l8⟩, ⟨l9, l10, l11⟩⟩ := cmd_cut_c12 HL.out HLS)
     clear cp0 cp1 cp2 fp0 fp1 fp2 l0 l1 l2 l3 l4 l5 l6 l7 l8 l9 l10 l11
     obtain ⟨W, hW⟩ : ∃ W, W = ((wp.setCell ⟨gp, 0, none⟩ (.int .i64 4)).setCell ⟨gp, 1, none⟩ (.pointer (some ⟨go, 3, none⟩))).setCell ⟨gp, 2, none⟩ (.pointer (some ⟨gc, 3, none⟩)) := ⟨_, rfl⟩
     have BW : Aside0 (W.heap[gp]? = some (.cells #[.int .i64 4, .pointer (some ⟨go, 3, none⟩), .pointer (some ⟨gc, 3, none⟩)] 110 (0, 0))) := am (by rw [hW]; exact bkp BP.out)
     have LW : Aside0 (W.heap[gl]? = some (.cells LS 110 (0, 0))) := am (by rw [hW]; exact blk_far (blk_far (blk_far HL.out NPL.out _) NPL.out _) NPL.out _)
     have SW : Aside0 (cmd_cut_S w gc gr go CS ZS (cmd_cut_os a0_0 T1 T2 T3 T6 2) W) := am (by rw [hW]; exact ((HS.out.far BP.out (by decide) GP.out 0 _).far (bkp BP.out) (by decide) GP.out 1 _).far (cs := #[.int .i64 4, .pointer (some ⟨go, 3, none⟩), .pointer none]) (bkp BP.out) (by decide) GP.out 2 _)
     rw [← hW]
     clear hW HS HL BP NPL
     obtain ⟨cp0, cp1, cp2, fp0, fp1, fp2⟩ := cz3 BW.out
     have cc := cmd_cut_c9 SW.out.c HCS
     refine start_ (n := 8) (S := fun w' => w'.cell? ⟨gp, 1, none⟩ = some (.pointer (some ⟨go, 3, none⟩)) ∧ w'.cell? ⟨gp, 2, none⟩ = some (.pointer (some ⟨gc, 3, none⟩)) ∧ w'.cell? ⟨gc, 3, none⟩ = some (.string a0_3)) (ds := [7]) #[false, false, false, false, false, false, false, false] (by kernel_rfl) rfl rfl ⟨cp1, cp2, cc.2.2.2.1⟩ (fun hHeld => ?_)
     clear cp0 cp1 cp2 fp0 fp1 fp2 cc
     replace SW := am SW.out.drew
     replace LW := am (blk_drew LW.out)
     generalize W.drew = W1 at SW LW hHeld ⊢
     refine hp 0 (some 34) ?_
     refine hp 2 (some 36) ?_
     refine ht 1 (some 35) hHeld ?_
     refine ht 3 (some 37) hHeld ?_
     refine hp 4 (some 38) ?_
     refine ht 5 (some 39) hHeld ?_
     refine hp 6 (some 40) ?_
     have co := (blk_cell SW.out.o 3).trans rfl
     have fo := blk_frozen SW.out.o 3
     refine hstore 7 ?_
     refine done_ (by kernel_rfl) ?_
     clear co fo hHeld
     go_wp2
     go_roundg 1
     case measure => omega
     case rel => exact ⟨3, rfl, am rfl, am (SW.out.put 3 _ (by rw [HE.out]; rfl)), am (blk_far LW.out (Ne.symm (blk_ne SW.out.o LW.out (by decide))) _)⟩
    ·
     have HE : Aside0 (T3 = ⟨#[]⟩) := am (by rw [HT3.out]; unfold cmd_cut_t; rw [if_neg hb])
     replace hb := Bool.eq_false_iff.mpr hb
     go_wp2_with ((with_reducible refine gate_dst (N := 7) rfl ?_); refine bx 7 #[.int .i64 0, .pointer none, .pointer none] 110 ?_; intro gp hg wp hbox hbb; have BP := am hbox; have GP := gsz hg HS.out.b; have NPL := nlt (g := gl) hg HL.out; replace HS := am (HS.out.below hbb); replace HL := bb HL.out hbb; clear hbb hbox hg l0 l1 l2 l3 l4 l5 l6 l7 l8 l9 l10 l11; obtain ⟨cp0, cp1, cp2, fp0, fp1, fp2⟩ := cz3 BP.out; obtain ⟨⟨l0, l1, l2⟩, ⟨l3, l4, l5⟩, ⟨l6, l7, l8⟩, ⟨l9, l10, l11⟩⟩ := cmd_cut_c12 HL.out HLS)
     go_roundg 1
     case measure => omega
     case rel => exact ⟨3, rfl, am rfl, am (by rw [show cmd_cut_os a0_0 T1 T2 T3 T6 3 = cmd_cut_os a0_0 T1 T2 T3 T6 2 by show cmd_cut_os a0_0 T1 T2 T3 T6 3 = _; unfold cmd_cut_os; simp only []; rw [HE.out]]; exact ((HS.out.far BP.out (by decide) GP.out 0 _).far (bkp BP.out) (by decide) GP.out 1 _).far (cs := #[.int .i64 4, .pointer (some ⟨go, 3, none⟩), .pointer none]) (bkp BP.out) (by decide) GP.out 2 _), am (blk_far (blk_far (blk_far HL.out NPL.out _) NPL.out _) NPL.out _)⟩
   ·
    obtain rfl : m = 0 := by have := HN.out; omega
    clear HN
    obtain ⟨⟨l0, l1, l2⟩, ⟨l3, l4, l5⟩, ⟨l6, l7, l8⟩, ⟨l9, l10, l11⟩⟩ := cmd_cut_c12 HL.out HLS
    by_cases hb : (Go.bits .and .i64 a1 32 != 0) = true
    ·
     have HE : Aside0 (T6 = a0_6) := am (by rw [HT6.out]; unfold cmd_cut_t; rw [if_pos hb])
     go_wp2_with ((with_reducible refine gate_dst (N := 7) rfl ?_); refine bx 7 #[.int .i64 0, .pointer none, .pointer none] 110 ?_; intro gp hg wp hbox hbb; have BP := am hbox; have GP := gsz hg HS.out.b; have NPL := nlt (g := gl) hg HL.out; replace HS := am (HS.out.below hbb); replace HL := bb HL.out hbb; clear hbb hbox hg l0 l1 l2 l3 l4 l5 l6 l7 l8 l9 l10 l11; obtain ⟨cp0, cp1, cp2, fp0, fp1, fp2⟩ := cz3 BP.out; obtain ⟨⟨l0, l1, l2⟩, ⟨l3, l4, l5⟩, ⟨l6, l7, l8⟩, ⟨l9, l10, l11⟩⟩ := cmd_cut_c12 HL.out HLS)
     clear cp0 cp1 cp2 fp0 fp1 fp2 l0 l1 l2 l3 l4 l5 l6 l7 l8 l9 l10 l11
     obtain ⟨W, hW⟩ : ∃ W, W = ((wp.setCell ⟨gp, 0, none⟩ (.int .i64 32)).setCell ⟨gp, 1, none⟩ (.pointer (some ⟨go, 6, none⟩))).setCell ⟨gp, 2, none⟩ (.pointer (some ⟨gc, 6, none⟩)) := ⟨_, rfl⟩
     have BW : Aside0 (W.heap[gp]? = some (.cells #[.int .i64 32, .pointer (some ⟨go, 6, none⟩), .pointer (some ⟨gc, 6, none⟩)] 110 (0, 0))) := am (by rw [hW]; exact bkp BP.out)
     have LW : Aside0 (W.heap[gl]? = some (.cells LS 110 (0, 0))) := am (by rw [hW]; exact blk_far (blk_far (blk_far HL.out NPL.out _) NPL.out _) NPL.out _)
     have SW : Aside0 (cmd_cut_S w gc gr go CS ZS (cmd_cut_os a0_0 T1 T2 T3 T6 3) W) := am (by rw [hW]; exact ((HS.out.far BP.out (by decide) GP.out 0 _).far (bkp BP.out) (by decide) GP.out 1 _).far (cs := #[.int .i64 32, .pointer (some ⟨go, 6, none⟩), .pointer none]) (bkp BP.out) (by decide) GP.out 2 _)
     rw [← hW]
     clear hW HS HL BP NPL
     obtain ⟨cp0, cp1, cp2, fp0, fp1, fp2⟩ := cz3 BW.out
     have cc := cmd_cut_c9 SW.out.c HCS
     refine start_ (n := 8) (S := fun w' => w'.cell? ⟨gp, 1, none⟩ = some (.pointer (some ⟨go, 6, none⟩)) ∧ w'.cell? ⟨gp, 2, none⟩ = some (.pointer (some ⟨gc, 6, none⟩)) ∧ w'.cell? ⟨gc, 6, none⟩ = some (.string a0_6)) (ds := [7]) #[false, false, false, false, false, false, false, false] (by kernel_rfl) rfl rfl ⟨cp1, cp2, cc.2.2.2.2.2.2.1⟩ (fun hHeld => ?_)
     clear cp0 cp1 cp2 fp0 fp1 fp2 cc
     replace SW := am SW.out.drew
     replace LW := am (blk_drew LW.out)
     generalize W.drew = W1 at SW LW hHeld ⊢
     refine hp 0 (some 34) ?_
     refine hp 2 (some 36) ?_
     refine ht 1 (some 35) hHeld ?_
     refine ht 3 (some 37) hHeld ?_
     refine hp 4 (some 38) ?_
     refine ht 5 (some 39) hHeld ?_
     refine hp 6 (some 40) ?_
     have co := (blk_cell SW.out.o 6).trans rfl
     have fo := blk_frozen SW.out.o 6
     refine hstore 7 ?_
     refine done_ (by kernel_rfl) ?_
     clear co fo hHeld
     go_wp2
     go_roundg 0
     case measure => omega
     case rel => exact ⟨4, rfl, am rfl, am (SW.out.put 6 _ (by rw [HE.out]; rfl)), am (blk_far LW.out (Ne.symm (blk_ne SW.out.o LW.out (by decide))) _)⟩
    ·
     have HE : Aside0 (T6 = ⟨#[]⟩) := am (by rw [HT6.out]; unfold cmd_cut_t; rw [if_neg hb])
     replace hb := Bool.eq_false_iff.mpr hb
     go_wp2_with ((with_reducible refine gate_dst (N := 7) rfl ?_); refine bx 7 #[.int .i64 0, .pointer none, .pointer none] 110 ?_; intro gp hg wp hbox hbb; have BP := am hbox; have GP := gsz hg HS.out.b; have NPL := nlt (g := gl) hg HL.out; replace HS := am (HS.out.below hbb); replace HL := bb HL.out hbb; clear hbb hbox hg l0 l1 l2 l3 l4 l5 l6 l7 l8 l9 l10 l11; obtain ⟨cp0, cp1, cp2, fp0, fp1, fp2⟩ := cz3 BP.out; obtain ⟨⟨l0, l1, l2⟩, ⟨l3, l4, l5⟩, ⟨l6, l7, l8⟩, ⟨l9, l10, l11⟩⟩ := cmd_cut_c12 HL.out HLS)
     go_roundg 0
     case measure => omega
     case rel => exact ⟨4, rfl, am rfl, am (by rw [show cmd_cut_os a0_0 T1 T2 T3 T6 4 = cmd_cut_os a0_0 T1 T2 T3 T6 3 by show cmd_cut_os a0_0 T1 T2 T3 T6 4 = _; unfold cmd_cut_os; simp only []; rw [HE.out]]; exact ((HS.out.far BP.out (by decide) GP.out 0 _).far (bkp BP.out) (by decide) GP.out 1 _).far (cs := #[.int .i64 32, .pointer (some ⟨go, 6, none⟩), .pointer none]) (bkp BP.out) (by decide) GP.out 2 _), am (blk_far (blk_far (blk_far HL.out NPL.out _) NPL.out _) NPL.out _)⟩
end Go.Proofs.YtdidopoalmkhlaaDoor.Or
end
