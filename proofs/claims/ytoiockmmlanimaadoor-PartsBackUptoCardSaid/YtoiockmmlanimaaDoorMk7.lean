/- Merged of several texts of this session's by merge.py. -/
import Derived.KernelRfl
import Derived.ProofKit
import Derived.LaidMore
import Derived.OpenShut
import Derived.Test.YtoiockmmlanimaaDoorRows
import Derived.Test.YtoiockmmlanimaaDoorMk3
import Derived.Test.YtoiockmmlanimaaDoorMk6
import Derived.Test.YtoiockmmlanimaaDoorCards
import Derived.Test.YtoiockmmlanimaaDoorTie
import Derived.WalkKit
import Derived.Below
import Derived.Carry
import Derived.Deep.DeepHandedRow
import Derived.Deep.DeepLaidRun
import Derived.Test.YtoiockmmlanimaaDoorMk2
import Derived.HandedShaped
section
/- How parts and picks are read out of an argument, how small they are, and the table of the rounds' numbers. -/
namespace Go.Proofs.YtoiockmmlanimaaDoor.KO
open Go Go.RowKit Go.Proofs.YtoiockmmlanimaaDoorW.PrintWords Go.Proofs.YtoiockmmlanimaaDoor.Ok
theorem opensPiece : Opens Tryd.prog 63 k63 (fun y => y.f0.size ≤ reachBytes ∧ (Lit.int .i64 y.f1).wf = true) (fun y => ((y.f0.size + 1) + 1) + 1) :=
  opens_struct (fun x : S63 => (x.f0, x.f1)) (fun p => ⟨p.1, p.2⟩) (fun _ => rfl) Tryd.underlying63
    (opens_cons (off' := 1) rfl (opens_string Tryd.underlying9) (by kernel_rfl) (opens_last rfl (opens_int Tryd.underlying3) (by kernel_rfl)))
theorem opensPieces : Opens Tryd.prog 24 (Kd.slice 63 k63) (fun ys => ys.length * 24 ≤ reachBytes ∧ ∀ y ∈ ys, y.f0.size ≤ reachBytes ∧ (Lit.int .i64 y.f1).wf = true) (fun ys => (ys.map fun y => ((y.f0.size + 1) + 1) + 1).sum + 1) :=
  opens_slice Tryd.underlying24 opensPiece (by kernel_rfl) (by kernel_rfl)
theorem opensPart : Opens Tryd.prog 46 k46 (fun y => (Lit.int .i64 y.f0).wf = true ∧ (Lit.int .i64 y.f1).wf = true ∧ y.f2.size ≤ reachBytes ∧ (y.f3.length * 24 ≤ reachBytes ∧ ∀ z ∈ y.f3, z.f0.size ≤ reachBytes ∧ (Lit.int .i64 z.f1).wf = true)) (fun y => (1 + (1 + ((y.f2.size + 1) + ((y.f3.map fun z => ((z.f0.size + 1) + 1) + 1).sum + 1)))) + 1) :=
  opens_struct (fun x : S46 => (x.f0, x.f1, x.f2, x.f3)) (fun p => ⟨p.1, p.2.1, p.2.2.1, p.2.2.2⟩) (fun _ => rfl) Tryd.underlying46
    (opens_cons (off' := 1) rfl (opens_int Tryd.underlying3) (by kernel_rfl) (opens_cons (off' := 2) rfl (opens_int Tryd.underlying3) (by kernel_rfl) (opens_cons (off' := 3) rfl (opens_string Tryd.underlying9) (by kernel_rfl) (opens_last rfl opensPieces (by kernel_rfl)))))
theorem opensParts : Opens Tryd.prog 22 (Kd.slice 46 k46) (fun ys => ys.length * 56 ≤ reachBytes ∧ ∀ y ∈ ys, (Lit.int .i64 y.f0).wf = true ∧ (Lit.int .i64 y.f1).wf = true ∧ y.f2.size ≤ reachBytes ∧ (y.f3.length * 24 ≤ reachBytes ∧ ∀ z ∈ y.f3, z.f0.size ≤ reachBytes ∧ (Lit.int .i64 z.f1).wf = true)) (fun ys => (ys.map fun y => (1 + (1 + ((y.f2.size + 1) + ((y.f3.map fun z => ((z.f0.size + 1) + 1) + 1).sum + 1)))) + 1).sum + 1) :=
  opens_slice Tryd.underlying22 opensPart (by kernel_rfl) (by kernel_rfl)
theorem opensPick : Opens Tryd.prog 61 k61 (fun y => (Lit.int .i64 y.f0).wf = true ∧ y.f1.size ≤ reachBytes) (fun y => (1 + (y.f1.size + 1)) + 1) :=
  opens_struct (fun x : S61 => (x.f0, x.f1)) (fun p => ⟨p.1, p.2⟩) (fun _ => rfl) Tryd.underlying61
    (opens_cons (off' := 1) rfl (opens_int Tryd.underlying3) (by kernel_rfl) (opens_last rfl (opens_string Tryd.underlying9) (by kernel_rfl)))
theorem opensPicks : Opens Tryd.prog 23 (Kd.slice 61 k61) (fun ys => ys.length * 24 ≤ reachBytes ∧ ∀ y ∈ ys, (Lit.int .i64 y.f0).wf = true ∧ y.f1.size ≤ reachBytes) (fun ys => (ys.map fun y => (1 + (y.f1.size + 1)) + 1).sum + 1) :=
  opens_slice Tryd.underlying23 opensPick (by kernel_rfl) (by kernel_rfl)
theorem sum_ge {α : Type} (f : α → Nat) (hf : ∀ y, 1 ≤ f y) : ∀ l : List α, l.length ≤ (l.map f).sum ∧ ∀ y ∈ l, f y ≤ (l.map f).sum
  | [] => ⟨Nat.le_refl _, fun y hy => by cases hy⟩
  | z :: l => by
    obtain ⟨h1, h2⟩ := sum_ge f hf l
    have := hf z
    rw [List.map_cons, List.sum_cons]
    refine ⟨by rw [List.length_cons]; omega, fun y hy => ?_⟩
    rcases List.mem_cons.1 hy with rfl | hy
    · omega
    · have := h2 y hy; omega
theorem small_parts (l : List Pure.Part) {B : Nat} (h : (l.map fun y => (1 + (1 + ((y.f2.size + 1) + ((y.f3.map fun z => ((z.f0.size + 1) + 1) + 1).sum + 1)))) + 1).sum + 1 ≤ B) (hB : B ≤ 1048576) : Pure.Small l := by
  obtain ⟨h1, h2⟩ := sum_ge (fun y : Pure.Part => (1 + (1 + ((y.f2.size + 1) + ((y.f3.map fun z => ((z.f0.size + 1) + 1) + 1).sum + 1)))) + 1) (fun y => by omega) l
  refine ⟨by omega, fun p hp => ?_⟩
  have h3 : (1 + (1 + ((p.f2.size + 1) + ((p.f3.map fun z : Pure.Piece => ((z.f0.size + 1) + 1) + 1).sum + 1)))) + 1 ≤ _ := h2 p hp
  clear h1 h2
  obtain ⟨h4, h5⟩ := sum_ge (fun z : Pure.Piece => ((z.f0.size + 1) + 1) + 1) (fun y => by omega) p.f3
  generalize (p.f3.map fun z : Pure.Piece => ((z.f0.size + 1) + 1) + 1).sum = X at h3 h4 h5
  generalize ((l.map fun y : Pure.Part => (1 + (1 + ((y.f2.size + 1) + ((y.f3.map fun z => ((z.f0.size + 1) + 1) + 1).sum + 1)))) + 1)).sum = Z at h h3
  refine ⟨by omega, fun y hy => ?_, by omega⟩
  have := h5 y hy
  omega
theorem picks_len (l : List Pure.Pick) {B : Nat} (h : (l.map fun y => (1 + (y.f1.size + 1)) + 1).sum + 1 ≤ B) (hB : B ≤ 1048576) : l.length ≤ 1048576 := by
  obtain ⟨h1, _⟩ := sum_ge (fun y : Pure.Pick => (1 + (y.f1.size + 1)) + 1) (fun y => by omega) l
  omega
theorem wf_of {n : Int} (h : (Lit.int .i64 n).wf = true) : Pure.wf n := by
  simp only [Lit.wf, Bool.and_eq_true, decide_eq_true_eq] at h
  exact h
/-- A row that lies in a world, told by what lies in the blocks that are there. -/
theorem agree_C {α : Type} {d : Kd α} (hK : ∀ (W W' : World) (x : α) (cs : List Value), (∀ k, k < W.heap.size → W'.heap[k]? = W.heap[k]?) → d.K W x cs → d.K W' x cs) {W W' : World} (ha : ∀ k, k < W.heap.size → W'.heap[k]? = W.heap[k]?) {A : Option Addr} {n : Nat} {xs : List α} (h : d.C W A n xs) : d.C W' A n xs := by
  obtain ⟨h1, h2, h3⟩ := h
  refine ⟨h1, h2, fun hp => ?_⟩
  obtain ⟨ad, hA, hr⟩ := h3 hp
  refine ⟨ad, hA, fun j x hx => ?_⟩
  obtain ⟨cs, hl, hk, hc⟩ := hr j x hx
  exact ⟨cs, hl, hK W W' x cs ha hk, fun i u hu => (World.cell?_of_block (ha _ (World.block_lt_of_cell? W _ (hc i u hu)))).trans (hc i u hu)⟩
theorem V_top {W : World} {e base c : Nat} {A : Option Addr} {l : List Pure.Part} (hr : Kd.C k46 W A l.length l) (hc : l.length ≤ c) : Kd.V k46 e W base (fun _ => True) (.slice A l.length c) l :=
  Kd.V_mk hc (fun W' hW => agree_C (fun W W' x cs ha hk => by
    obtain ⟨A3, c3, rfl, hl3, g3⟩ := k46_open hk
    exact k46_mk W' x hl3 (agree_C (fun W W' y cs _ hk => by rw [k63_open hk]; exact k63_mk W' y) ha g3)) (fun k hk => hW k trivial hk) hr)
/-- The table of the rounds' numbers, out of what is laid. -/
theorem gg_of_laid {W : World} (h : laidMetH Tryd.prog Rows.partsWholeRow.laid W) : GG W := by
  rw [MakeChecks.laidMetH_plain _ _ _ (by kernel_rfl)] at h
  obtain ⟨ps, ⟨g, t, cs, fuel, p, q, hg, ht, hv, hd, _, _⟩, _, _⟩ := h
  obtain rfl := Option.some.inj ((show Tryd.prog.globalNamed "stowage/digest.rounds" = some 0 by kernel_rfl).symm.trans hg)
  obtain rfl := Option.some.inj ((show (Tryd.prog.globals[0]?).map (·.type) = some 143 by kernel_rfl).symm.trans ht)
  obtain ⟨xs, m, _, ex, _, hl, hel⟩ := DataW.trod_array Tryd.underlying143 hd
  have c5 : Tryd.prog.cellsOf 137 = 1 := by kernel_rfl
  have hdat : (Rows.laid_stowage_digest_rounds : DataW Unit) = .agg (Sha.Ks.map fun x => .lit (.int .u32 (x.toNat : Int))) := by kernel_rfl
  have hlen : Sha.Ks.length = 64 := by kernel_rfl
  have e3 : xs.map (·.1) = Sha.Ks.map fun x => (.lit (.int .u32 (x.toNat : Int)) : DataW Unit) := (DataW.agg.inj (hdat.symm.trans (Prod.mk.inj ex).1)).symm
  have key : ∀ r, r < 64 → W.cell? ⟨0, r, none⟩ = some (Sha.U (Sha.Ks.getD r 0)) := by
    intro r hr
    have hE := hel r hr
    rw [c5, Nat.mul_one, List.getElem?_eq_getElem (by omega)] at hE
    obtain ⟨z, e1, e2, _⟩ := DataW.trod_int Tryd.underlying137 hE
    have e4 : (xs.map (·.1))[r]? = (Sha.Ks.map fun x => (.lit (.int .u32 (x.toNat : Int)) : DataW Unit))[r]? := by rw [e3]
    rw [List.getElem?_map, List.getElem?_map, List.getElem?_eq_getElem (by omega : r < xs.length), List.getElem?_eq_getElem (by omega : r < Sha.Ks.length), e2] at e4
    have hz : z = ((Sha.Ks.getD r 0).toNat : Int) := by
      simp only [Option.map_some, Option.some.injEq, DataW.lit.injEq, Lit.int.injEq, true_and] at e4
      rw [e4, List.getD, List.getElem?_eq_getElem (by omega : r < Sha.Ks.length)]
      rfl
    rw [World.var?_cell hg hv r, Sha.U_def, ← hz]
    have : cs.toList[r]? = some (.int .u32 z) := by
      have h0 : ((cs.toList.drop r).take 1)[0]? = some (.int .u32 z) := by rw [e1]; rfl
      simpa using h0
    simpa using this
  have h0 := key 0 (by omega)
  cases hh : W.heap[0]? with
  | none => simp [World.cell?, hh] at h0
  | some ob =>
    cases ob with
    | cells c t fr =>
      refine ⟨c, t, fr, hh, fun i hi => ?_⟩
      rw [← key i hi, cell_of_row W 0 i c t fr hh]
    | _ => simp [World.cell?, hh] at h0
end Go.Proofs.YtoiockmmlanimaaDoor.KO
end
section
/- PartsBack, second form: what is told is read again: parts from their text, and a text in one form alone. Its conditions: those of the given card. -/
namespace Go.Proofs.YtoiockmmlanimaaDoor.partsBack
open Go.ChangeShapes Go.WideShapes Go.ChangeAt Go.RowKit Go.Proofs.YtoiockmmlanimaaDoor.Ok Go.Proofs.YtoiockmmlanimaaDoorW.PrintWords
open Go.ChangeMaps (open_string shut_string)
set_option linter.unusedVariables false
set_option linter.unusedSimpArgs false
theorem own : ownKnob Tryd.prog.godebug = none := by kernel_rfl
theorem laidOut : laidOutB Tryd.prog = true := by kernel_rfl
set_option maxRecDepth 100000 in
/-- What the walk gives, for every argument and every world: the same for both forms. -/
theorem contract (H : Type) (enc : TypeId × Value → H) (W : World) (base : Nat) (args : Array Value) (ds gs : List (DataW H)) (before : List MemPlace)
    (hval : ∀ (j : Nat) t v, Tryd.f8.params[j]? = some t → args[j]? = some v → Value.okWide Tryd.prog W .any base t v)
    (hW : DataW.Whole enc Tryd.prog Tryd.f8.params.toList Rows.partsBackSpec.vars false W args.toList ds gs before)
    (hsz : (DataW.weightsEach Tryd.prog (Tryd.f8.params.toList ++ (OpenSpec.ofChange Rows.partsBackSpec).bare.plain.varTypes Tryd.prog) (ds ++ gs)).all (· ≤ reachBytes) = true) (hcond : ∀ k, (Rows.OpenSpec.upto Rows.partsBackSpec).cond = some k → k H (ds ++ gs) = true) (hG : GG W) :
    Calls Tryd.prog 8 args W fun e W' => ∃ v, e = .returned v ∧ Rows.partsBackSpec.post enc Tryd.prog Tryd.f8 false true false false W args v W' := by
  have hW' := hW
  obtain ⟨p, q, hA0, hV, rfl, hfz, hnd⟩ := hW
  have hA : DataW.TrodAll enc Tryd.prog W 0 (fun _ => true) true Tryd.f8.params.toList args.toList ds p := hA0
  rw [Tryd.params8] at hA hval hsz
  obtain ⟨v0, vs0, d0, ds0, p0, q0, hargs, rfl, rfl, h0, r0⟩ := trodAll_cons hA
  obtain ⟨v1, vs1, d1, ds1, p1, q1, rfl, rfl, rfl, h1, r1⟩ := trodAll_cons r0
  obtain ⟨rfl, rfl, rfl⟩ := trodAll_nil r1
  obtain rfl : args = #[v0, v1] := by cases args; simp_all
  obtain ⟨rfl, rfl⟩ := trodVars_none hV
  obtain ⟨A0, len0, cap0, rfl⟩ := okWide_slice Tryd.underlying22 (hval 0 22 v0 rfl rfl)
  have k0 := h0
  have lt0 : ∀ x ∈ p0, x.block < W.heap.size := by obtain ⟨m, hm⟩ := k0; exact DataW.trod_lt m _ _ _ hm
  obtain ⟨fuel0, hf0⟩ := h0
  obtain ⟨l0, hK0, wt0, bk0⟩ := (KO.opensParts).out enc W _ _ _ fuel0 _ _ hf0
  obtain ⟨B0, c0, he0, hcap0, hr0⟩ := hK0
  simp only [Value.cells, List.cons.injEq, and_true] at he0
  injection he0 with e1 e2 e3
  subst e1 e2 e3
  obtain ⟨a1, rfl, rfl, rfl, y1⟩ := open_string Tryd.underlying9 (hval 1 9 v1 rfl rfl) h1
  have hup := hcond _ rfl
  simp only [Rows.uptoSmall, decide_eq_true_eq, List.cons_append, List.nil_append, Rows.uptoBulkAll, Rows.uptoBulk] at hup
  have e1 := Array.length_toList (xs := a1.data)
  have g1 : a1.data.size = a1.size := rfl
  have hb0 : (l0.map fun y : Pure.Part => (1 + (1 + ((y.f2.size + 1) + ((y.f3.map fun z => ((z.f0.size + 1) + 1) + 1).sum + 1)))) + 1).sum + 1 ≤ Rows.uptoBulk d0 := bk0
  have hs0 := KO.small_parts l0 hb0 (by omega)
  obtain ⟨k, hk⟩ := Pure.PartsBack_true l0 a1 hs0 (by omega)
  refine (stowagelaw14_PartsBack.calls k _ _ l0 a1 true W hr0 hcap0 hk hG).mono fun e W' ⟨he, bel⟩ => ?_
  subst he
  exact ⟨_, rfl, _, _, _, [], _, [], hW', trodAll_mk1 (shut_bool Tryd.underlying4 _), (trodAll_cons_mk (Below.trod laidOut (by kernel_rfl) (of_decide_eq_true (by kernel_rfl)) k0 bel lt0) (trodAll_cons_mk (shut_string Tryd.underlying9 y1) trodAll_mk0)), rfl, bel.frame _, fun h => by cases h⟩
/-- The cells of a datum without pointers. -/
def flat : DataW Unit → List Value
  | .lit (.int k n) => [.int k n]
  | .agg xs => flats xs
  | _ => []
where flats : List (DataW Unit) → List Value
  | [] => []
  | x :: xs => flat x ++ flats xs
def put (cs : List Value) : Obj → Obj
  | .cells _ t z => .cells cs.toArray t z
  | ob => ob
/-- A world for the witness: the listed tables hold what their text lays. -/
noncomputable def laidWorld (os : Os) : World :=
  { World.holding Tryd.prog os ⟨#[], #[], []⟩ with heap := Rows.partsBackUptoRow.laid.foldl (fun h x => match Tryd.prog.globalNamed x.1 with | some g => h.modify g (put (flat x.2)) | none => h) (World.holding Tryd.prog os ⟨#[], #[], []⟩).heap }
theorem laid_met (os : Os) : laidMet Tryd.prog Rows.partsBackUptoRow.laid ((laidWorld os).forCall (fun _ _ => 0) ⟨#[], #[.slice none 0 0, .string ByteArray.empty], []⟩).memory :=
  laidMet_of_run3 8 (by kernel_rfl) (by kernel_rfl) (by kernel_rfl)
theorem reads (os : Os) {H : Type} (enc : TypeId × Value → H) : ∃ places, DataW.whole enc Tryd.prog ((laidWorld os).forCall (fun _ _ => 0) ⟨#[], #[.slice none 0 0, .string ByteArray.empty], []⟩).memory Tryd.f8.params.toList Rows.partsBackSpec.vars false (#[.slice none 0 0, .string ByteArray.empty] : Array Value).toList 8 = some ([.nil, .lit (.string [])], [], places) :=
  ⟨[], by kernel_rfl⟩
set_option maxRecDepth 100000 in
theorem lifted (os : Os) (started : os.Started) (H : Type) (enc : TypeId × Value → H) (F : Stop.Interp) :
    ReturnsInHanded {} Tryd.checked os 8 .any ((Rows.OpenSpec.upto Rows.partsBackSpec).preRow enc Tryd.prog Tryd.f8 Rows.partsBackUptoRow.domain false Rows.partsBackUptoRow.laid) (((Rows.OpenSpec.upto Rows.partsBackSpec).at F).post enc Tryd.prog Tryd.f8 false true false false) := by
  obtain ⟨places, hx⟩ := reads os enc
  refine returnsInHanded_of_row (C := Tryd.checked) (s := (Rows.OpenSpec.upto Rows.partsBackSpec)) own started (by kernel_rfl) Tryd.func8
    (witness_row_at (enc := enc) (C := Tryd.checked) false (laidWorld os) #[.slice none 0 0, .string ByteArray.empty] rfl (by kernel_rfl) (by kernel_rfl) (by kernel_rfl)
      (OpenSpec.preRow_of_cond 8 hx (by kernel_rfl) (fun k hk => by cases hk; kernel_rfl) (by kernel_rfl) (laid_met os))) ?_
  intro W base args ds gs before hval hW _ hcond hsz hlaid hsh _
  exact contract H enc W base args ds gs before hval hW hsz hcond (KO.gg_of_laid hlaid)
theorem said : Rows.PartsBackUptoSaid :=
  OpenClaim.holds_of_cond 8 Tryd.f8 rfl rfl rfl rfl rfl rfl rfl ⟨rfl, rfl, rfl, rfl, rfl⟩ rfl rfl rfl rfl rfl (by kernel_rfl) Tryd.func8 (by kernel_rfl)
    (of_decide_eq_true (by kernel_rfl)) (by unfold Func.isWrapper; first | (rw [if_pos (by decide +kernel)]; kernel_rfl) | (rw [if_neg (by decide +kernel)]; exact ⟨rfl, rfl⟩))
    (fun os started H enc _ F => by rw [OpenClaim.pre_eq_preRow]; exact lifted os started H enc F)
/-- No parameter wants a stand-in; the program's own looks are off: what the card asks. -/
theorem plain (f : FuncId) (fn : Func) (hf : Tryd.pinned.checked.prog.funcNamed "stowage/stowagelaw14.PartsBack" = some f) (hfn : Tryd.pinned.checked.prog.funcs[f]? = some fn) :
    false = Tryd.pinned.checked.prog.looks [] ∧ ∀ (j : Nat) t, fn.params[j]? = some t → Tryd.pinned.checked.prog.wantsStandIn t = false := by
  obtain rfl : f = 8 := Option.some.inj ((show Tryd.prog.funcNamed "stowage/stowagelaw14.PartsBack" = some 8 by kernel_rfl).symm.trans hf) |>.symm
  obtain rfl : fn = Tryd.f8 := (Option.some.inj (Tryd.func8.symm.trans hfn)).symm
  refine ⟨by kernel_rfl, fun j t ht => ?_⟩
  rw [Tryd.params8] at ht
  have hm := Array.mem_of_getElem? ht
  simp only [List.mem_toArray, List.mem_cons, List.not_mem_nil, or_false] at hm
  rcases hm with rfl | rfl
  · exact (show Tryd.prog.wantsStandIn 22 = false by kernel_rfl)
  · exact (show Tryd.prog.wantsStandIn 9 = false by kernel_rfl)
/-- The card. -/
theorem card : Rows.PartsBackUptoCardSaid :=
  Claim7.holds_tied_plain_at .later [] _ _ _ _ said (fun _ h => by cases h) (by kernel_rfl) (fun _ h => by cases h) partsBackUpto_row_tie rfl ⟨rfl, rfl⟩ (by kernel_rfl) rfl plain (by kernel_rfl)
end Go.Proofs.YtoiockmmlanimaaDoor.partsBack
namespace Go.Proofs.YtoiockmmlanimaaDoor
theorem partsBack_cardUpto : Rows.PartsBackUptoCardSaid := partsBack.card
end Go.Proofs.YtoiockmmlanimaaDoor
end
