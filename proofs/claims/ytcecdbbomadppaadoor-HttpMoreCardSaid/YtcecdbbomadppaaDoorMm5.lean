/- Merged of several texts of this session's by merge.py. -/
import Derived.Test.YtcecdbbomadppaaDoorMm2
import Derived.ChangeArms
import Derived.Deep.Slices
import Derived.Test.YtcecdbbomadppaaDoorRows
import Derived.KernelRfl
import Derived.ProofKit
import Derived.LaidMore
import Derived.OpenShut
import Derived.HandedShaped
import Derived.Lib.Strings
import Derived.Lib.IndexAny
import Derived.Lib.IndexLaws
import Derived.Shelf.Strings.Trim
import Derived.Shelf.Small.Utf8
import Derived.Shelf.Small.Strs
import Derived.Shelf.Strconv.Atoi
import Derived.Shelf.Strings.Search1
import Derived.Shelf.Strings.Search2
import Derived.Shelf.Strings.Search3
import Derived.Shelf.Strings.Cut
import Derived.Shelf.Strings.Count
import Derived.Shelf.LaysM
import Derived.Shelf.Strings.Shaped
import Derived.Shelf.Strings.Prefix
import Derived.Shelf.Strings.Split
import Derived.Shelf.Strings.Runes
import Derived.Shelf.Strings.IndexAny
import Derived.Shelf.Strings.AsciiSet
import Derived.Shelf.Strings.IndexAnyAll
import Derived.Shelf.Unicode.DecodeSlow
import Derived.Test.YtcecdbbomadppaaDoorProg
import Derived.Test.YtcecdbbomadppaaDoorMm3
import Derived.Lib.SlTrimSet
import Derived.Lib.Split
import Derived.Lib.IndexMore
import Derived.Lib.Atoi
import Derived.Below
import Derived.Deep.Draws
import Derived.Deep.AppendLies
import Derived.Maps.AppendAt
import Derived.OwnWalk
import Derived.Laws.BytesArg
import Derived.Laws.MakeOwn
import Derived.Laws.OwnMore
import Derived.Deep.OwnRows
import Derived.Tactics
import Derived.Lib.ConvBytes
import Derived.Laws.Slices
import Derived.WalkKit
import Derived.RowKit3
import Derived.Deep.LoopGhost
import Derived.Deep.QuietTactic
import Derived.BigQuiet
import Derived.WideLaws
import Derived.Deep.DeepCutAuto
import Derived.Deep.CutBlock
import Derived.Deep.RegionHeld3
import Derived.Laws.Rows
import Derived.Lib.AppendStr
import Derived.ArgAppend
import Derived.Laws.IdiomCopy
import Derived.OrdersHeld
import Derived.Laws.BitsLemmas
import Derived.RowKit
import Derived.Test.YtcecdbbomadppaaDoorMm1
import Derived.Lib.Hide
import Derived.IntWalk
import Derived.LoopN
import Derived.Defers
import Derived.Recover
import Derived.Laws.RangeAny
import Derived.Laws.Runes
import Derived.WalkMore
import Derived.Lib.OthersKept
import Derived.Lib.AtoiErrMem
import Derived.Laws.IdiomStrings
import Derived.Shelf.Strings.SlTrimAscii
section
namespace Go.Proofs.YtcecdbbomadppaaDoor
open Go Go.RowKit Go.Proofs.YtcecdbbomadppaaDoorW.PrintWords
def methodsL : List ByteArray := [⟨#[71, 69, 84]⟩, ⟨#[72, 69, 65, 68]⟩, ⟨#[80, 85, 84]⟩, ⟨#[80, 79, 83, 84]⟩, ⟨#[68, 69, 76, 69, 84, 69]⟩]
def GG (w : World) : Prop := (∃ m : Int, w.cell? ⟨1, 0, none⟩ = some (.int .i64 m)) ∧ Kd.C Kd.string w (some ⟨0, 0, none⟩) methodsL.length methodsL
theorem gg_below {w w' : World} (h : GG w) (hb : Below w.heap.size w w') : GG w' := by
 obtain ⟨⟨m, hm⟩, h2⟩ := h
 exact ⟨⟨m, (hb.cell (World.block_lt_of_cell? w _ hm)).trans hm⟩, Kd.C_below h2 hb⟩
theorem GG.drew {w : World} (h : GG w) : GG w.drew := h
end Go.Proofs.YtcecdbbomadppaaDoor
end
section
namespace Go.Proofs.YtcecdbbomadppaaDoor.KO
open Go.Proofs.YtcecdbbomadppaaDoorW.PrintWords Go.Deep
def WT {H : Type} (P : Program) (t : TypeId) (x : DataW H) : Prop := ∀ m ∈ DataW.weights P t x, m ≤ reachBytes
structure Opens (P : Program) (t : TypeId) {α : Type} (d : Kd α) (L : α → Prop) (bk : α → Nat) : Prop where
 out : ∀ {H : Type} (enc : TypeId × Value → H) (w : World) (base : Nat) (spare : Nat → Bool) (held : Bool) (fuel : Nat) (cs : List Value) (x : DataW H × List MemPlace),
  DataW.trod enc P w base spare held fuel t cs = some x → ∃ y, d.K w y cs ∧ (WT P t x.1 → L y) ∧ bk y ≤ Rows.uptoBulk x.1
theorem opens_int {P : Program} {t : TypeId} {k : IntKind} (ht : P.underlying t = some (.int k)) : Opens P t (Kd.int k) (fun n => (Lit.int k n).wf = true) (fun _ => 1) := ⟨by
 intro H enc w base spare held fuel cs x h
 obtain ⟨n, rfl, rfl, hw⟩ := DataW.trod_int ht h
 exact ⟨n, rfl, fun _ => hw, by simp [Rows.uptoBulk]⟩⟩
theorem opens_bool {P : Program} {t : TypeId} (ht : P.underlying t = some .bool) : Opens P t Kd.bool (fun _ => True) (fun _ => 1) := ⟨by
 intro H enc w base spare held fuel cs x h
 obtain ⟨n, rfl, rfl⟩ := DataW.trod_bool ht h
 exact ⟨n, rfl, fun _ => trivial, by simp [Rows.uptoBulk]⟩⟩
theorem opens_string {P : Program} {t : TypeId} (ht : P.underlying t = some .string) : Opens P t Kd.string (fun s => s.size ≤ reachBytes) (fun s => s.size + 1) := ⟨by
 intro H enc w base spare held fuel cs x h
 obtain ⟨s, rfl, rfl, hm⟩ := DataW.trod_string ht h
 refine ⟨s, rfl, fun hw => ?_, ?_⟩
 ·
  have := hw s.data.toList.length (by simp [DataW.weights])
  simpa using this
 ·
  simp [Rows.uptoBulk]⟩
theorem weightsAll_mem {H : Type} {P : Program} {e : TypeId} {m : Nat} : ∀ {l : List (DataW H)} {x : DataW H}, x ∈ l → m ∈ DataW.weights P e x → m ∈ DataW.weightsAll P e l
 | y :: l, x, hx, hm => by
  rw [DataW.weightsAll, List.mem_append]
  rcases List.mem_cons.1 hx with rfl | hx
  ·
   exact .inl hm
  ·
   exact .inr (weightsAll_mem hx hm)
theorem bulkAll_eq {H : Type} : ∀ l : List (DataW H), Rows.uptoBulkAll l = (l.map Rows.uptoBulk).sum
 | [] => by simp [Rows.uptoBulkAll]
 | x :: l => by rw [Rows.uptoBulkAll, bulkAll_eq l]; simp
theorem cells_at {w : World} {base : Nat} {a : Addr} {n : Nat} {cs : List Value} (h : w.cells? base a n = some cs) : cs.length = n ∧ ∀ i u, cs[i]? = some u → w.cell? (a.add i) = some u := by
 obtain ⟨_, hl, hc⟩ := World.cells?_some h
 refine ⟨hl, fun i u hu => ?_⟩
 have hi : i < n := by
  rcases Nat.lt_or_ge i cs.length with h0 | h0
  ·
   omega
  ·
   rw [List.getElem?_eq_none h0] at hu; cases hu
 rw [hc i hi, hu]
theorem add_add (a : Addr) (i j : Nat) : (a.add i).add j = a.add (i + j) := by
 unfold Addr.add
 by_cases h0 : i = 0
 ·
  subst h0; simp
 ·
  by_cases h1 : j = 0
  ·
   subst h1; simp
  ·
   rw [if_neg h1, if_neg h0, if_neg (by omega)]
   simp [Nat.add_assoc]
theorem sum_le {α β : Type} (f : α → Nat) (g : β → Nat) : ∀ (l : List α) (m : List β), l.length = m.length → (∀ (i : Nat) (x : α) (y : β), l[i]? = some x → m[i]? = some y → f x ≤ g y) → (l.map f).sum ≤ (m.map g).sum
 | [], [], _, _ => by simp
 | x :: l, y :: m, hl, h => by
  have h0 := h 0 x y rfl rfl
  have h1 := sum_le f g l m (by simpa using hl) (fun i a b ha hb => h (i + 1) a b ha hb)
  simp only [List.map_cons, List.sum_cons]
  omega
 | [], _ :: _, hl, _ => by simp at hl
 | _ :: _, [], hl, _ => by simp at hl
theorem choose_list {α : Type} {Q : Nat → α → Prop} : ∀ n, (∀ i, i < n → ∃ y, Q i y) → ∃ ys : List α, ys.length = n ∧ ∀ (i : Nat) (y : α), ys[i]? = some y → Q i y
 | 0, _ => ⟨[], rfl, fun i y h => by simp at h⟩
 | n + 1, h => by
  obtain ⟨ys, hl, hq⟩ := choose_list n (fun i hi => h i (by omega))
  obtain ⟨y, hy⟩ := h n (by omega)
  refine ⟨ys ++ [y], by simp [hl], fun i z hz => ?_⟩
  rcases Nat.lt_or_ge i n with hi | hi
  ·
   rw [List.getElem?_append_left (by omega)] at hz
   exact hq i z hz
  ·
   rw [List.getElem?_append_right (by omega)] at hz
   have : i - ys.length = 0 := by
    rcases Nat.eq_zero_or_pos (i - ys.length) with h0 | h0
    ·
     exact h0
    ·
     rw [List.getElem?_eq_none (by simp; omega)] at hz; cases hz
   rw [this] at hz
   obtain rfl : y = z := by simpa using hz
   obtain rfl : i = n := by omega
   exact hy
theorem opens_slice {P : Program} {t e : TypeId} {α : Type} {d : Kd α} {L : α → Prop} {bk : α → Nat} {b : Nat} (ht : P.underlying t = some (.slice e)) (he : Opens P e d L bk) (hs : P.cellsOf e = d.sz) (hb : P.bytesOf e = b) :
  Opens P t (Kd.slice e d) (fun ys => ys.length * b ≤ reachBytes ∧ ∀ y ∈ ys, L y) (fun ys => (ys.map bk).sum + 1) := ⟨by
 intro H enc w base spare held fuel cs x h
 rcases open_slice ht h with ⟨rfl, rfl⟩ | ⟨a, len, cap, m, n, D, Pl, rfl, _, hlc, hcm, hm, rfl, hx⟩
 ·
  exact ⟨[], ⟨none, 0, rfl, by simp, by simp, by simp, fun h0 => by simp at h0⟩, fun _ => ⟨by simp, fun y hy => by simp at hy⟩, by simp [Rows.uptoBulk]⟩
 ·
  have hlm : len ≤ m := by rw [hm]; split <;> omega
  obtain ⟨ys, hyl, hys⟩ := choose_list (Q := fun i y => (∃ c, c.length = d.sz ∧ d.K w y c ∧ ∀ j u, c[j]? = some u → w.cell? (a.add (i * d.sz + j)) = some u) ∧ (WT P e (D i) → L y) ∧ bk y ≤ Rows.uptoBulk (D i)) len (fun i hi => by
   obtain ⟨cs', hc, ht'⟩ := hx i (by omega)
   obtain ⟨y, hK, hL, hB⟩ := he.out enc w base spare held n cs' _ ht'
   obtain ⟨hl, hat⟩ := cells_at hc
   refine ⟨y, ⟨cs', d.K_len hK, hK, fun j u hu => ?_⟩, hL, hB⟩
   have := hat j u hu
   rw [hs] at this
   rw [← this, add_add])
  refine ⟨ys, ⟨some a, cap, by rw [hyl], by omega, by rw [hyl], by have : maxLen = 9223372036854775807 := rfl; omega, fun _ => ⟨a, rfl, fun j p hp => ?_⟩⟩, fun hw => ⟨?_, fun y hy => ?_⟩, ?_⟩
  ·
   obtain ⟨⟨c, h1, h2, h3⟩, _⟩ := hys j p hp
   exact ⟨c, h1, h2, h3⟩
  ·
   have := hw ((((List.range len).map D).length + ((List.range (m - len)).map fun j => D (len + j)).length) * P.bytesOf e) (by simp [DataW.weights, ht])
   rw [hb] at this
   refine Nat.le_trans (Nat.mul_le_mul_right _ ?_) this
   simp [hyl]
  ·
   obtain ⟨i, hi⟩ := List.mem_iff_getElem?.1 hy
   obtain ⟨_, hL, _⟩ := hys i y hi
   have hil : i < len := by
    rcases Nat.lt_or_ge i ys.length with h0 | h0
    ·
     omega
    ·
     rw [List.getElem?_eq_none h0] at hi; cases hi
   refine hL (fun k hk => hw k ?_)
   simp only [DataW.weights, ht, List.mem_cons, List.mem_append]
   refine .inr (.inl (weightsAll_mem (List.mem_map.2 ⟨i, by simpa using hil, rfl⟩) hk))
  ·
   simp only [Rows.uptoBulk, bulkAll_eq]
   have := sum_le bk Rows.uptoBulk ys ((List.range len).map D) (by simp [hyl]) (fun i y z hy hz => by
    obtain ⟨_, _, hB⟩ := hys i y hy
    rw [List.getElem?_map] at hz
    obtain ⟨j, hj, rfl⟩ := Option.map_eq_some_iff.1 hz
    have : j = i := by
     rw [List.getElem?_range] at hj
     ·
      exact (Option.some.inj hj).symm
     ·
      rcases Nat.lt_or_ge i len with h0 | h0
      ·
       exact h0
      ·
       rw [List.getElem?_eq_none (by simpa using h0)] at hj; cases hj
    subst this
    exact hB)
   omega⟩
structure OpensFs (P : Program) (off : Nat) (fs : List Field) (tot : Nat) {α : Type} (d : Kd α) (L : α → Prop) (bk : α → Nat) : Prop where
 out : ∀ {H : Type} (enc : TypeId × Value → H) (w : World) (base : Nat) (spare : Nat → Bool) (held : Bool) (fuel : Nat) (cs : List Value) (xs : List (DataW H × List MemPlace)),
  xs.length = fs.length → (∀ (i : Nat) (f : Field), fs[i]? = some f → DataW.trod enc P w base spare held fuel f.type ((cs.drop f.offset).take (P.cellsOf f.type)) = xs[i]?) → cs.length = tot →
  ∃ y, d.K w y (cs.drop off) ∧ ((∀ m ∈ DataW.weightsEach P (fs.map (·.type)) (xs.map (·.1)), m ≤ reachBytes) → L y) ∧ bk y ≤ Rows.uptoBulkAll (xs.map (·.1))
theorem opens_last {P : Program} {off tot : Nat} {f : Field} {α : Type} {d : Kd α} {L : α → Prop} {bk : α → Nat} (ho : f.offset = off) (h : Opens P f.type d L bk) (hc : off + P.cellsOf f.type = tot) : OpensFs P off [f] tot d L bk := ⟨by
 intro H enc w base spare held fuel cs xs hl hx hcs
 match xs, hl with
 | [x], _ =>
  have h0 := hx 0 f rfl
  simp only [List.getElem?_cons_zero] at h0
  rw [ho, List.take_of_length_le (by rw [List.length_drop]; omega)] at h0
  obtain ⟨y, hK, hL, hB⟩ := h.out enc w base spare held fuel _ _ h0
  exact ⟨y, hK, fun hw => hL (fun m hm => hw m (by simp [DataW.weightsEach, hm])), by simpa [Rows.uptoBulkAll] using hB⟩⟩
theorem opens_cons {P : Program} {off off' tot : Nat} {f : Field} {fs : List Field} {α β : Type} {d : Kd α} {L : α → Prop} {bk : α → Nat} {d' : Kd β} {L' : β → Prop} {bk' : β → Nat} (ho : f.offset = off) (h : Opens P f.type d L bk) (hc : off + P.cellsOf f.type = off') (hr : OpensFs P off' fs tot d' L' bk') :
  OpensFs P off (f :: fs) tot (Kd.pair d d') (fun y => L y.1 ∧ L' y.2) (fun y => bk y.1 + bk' y.2) := ⟨by
 intro H enc w base spare held fuel cs xs hl hx hcs
 match xs, hl with
 | x :: xs, hl =>
  have h0 := hx 0 f rfl
  simp only [List.getElem?_cons_zero] at h0
  rw [ho] at h0
  obtain ⟨y, hK, hL, hB⟩ := h.out enc w base spare held fuel _ _ h0
  obtain ⟨z, hK', hL', hB'⟩ := hr.out enc w base spare held fuel cs xs (by simpa using hl) (fun i g hg => hx (i + 1) g hg) hcs
  refine ⟨(y, z), ⟨_, _, ?_, hK, hK'⟩, fun hw => ⟨hL (fun m hm => hw m ?_), hL' (fun m hm => hw m ?_)⟩, ?_⟩
  ·
   rw [← hc, ← List.drop_drop, List.take_append_drop]
  ·
   simp only [List.map_cons, DataW.weightsEach, List.mem_append]; exact .inl hm
  ·
   simp only [List.map_cons, DataW.weightsEach, List.mem_append]; exact .inr hm
  ·
   simp only [List.map_cons, Rows.uptoBulkAll]; omega⟩
theorem opens_struct {P : Program} {t : TypeId} {fs : Array Field} {α β : Type} {d : Kd α} {L : α → Prop} {bk : α → Nat} (f : β → α) (g : α → β) (hfg : ∀ a, f (g a) = a) (ht : P.underlying t = some (.struct fs)) (h : OpensFs P 0 fs.toList (P.cellsOf t) d L bk) :
  Opens P t (Kd.iso d f) (fun y => L (f y)) (fun y => bk (f y) + 1) := ⟨by
 intro H enc w base spare held fuel cs x hx
 obtain ⟨xs, n, rfl, rfl, hl, hxl, hat⟩ := DataW.trod_struct ht hx
 obtain ⟨y, hK, hL, hB⟩ := h.out enc w base spare held n cs xs (by simpa using hxl) (fun i f hf => hat i f (by simpa using hf)) hl
 refine ⟨g y, ?_, fun hw => ?_, ?_⟩
 ·
  show d.K w (f (g y)) cs
  rw [hfg]
  simpa using hK
 ·
  show L (f (g y))
  rw [hfg]
  exact hL (fun m hm => hw m (by simpa [DataW.weights, ht] using hm))
 ·
  show bk (f (g y)) + 1 ≤ _
  rw [hfg]
  simp only [Rows.uptoBulk]
  omega⟩
end Go.Proofs.YtcecdbbomadppaaDoor.KO
end
section
namespace Go.Proofs.YtcecdbbomadppaaDoor.KO
open Go Go.RowKit Go.Proofs.YtcecdbbomadppaaDoorW.PrintWords
theorem laid_one {P : Program} {w : World} {n : String} {d : DataW Unit} : ∀ {l : List (String × DataW Unit)} {ps : List MemPlace}, DataW.LaidVars P w l ps → (n, d) ∈ l →
  ∃ g t cs fuel p, P.globalNamed n = some g ∧ (P.globals[g]?).map (·.type) = some t ∧ w.var? P n = some cs ∧ DataW.trod (fun _ => ()) P w 0 (fun _ => true) false fuel t cs.toList = some (d, p)
 | [], _, _, hm => by cases hm
 | (m, c) :: l, ps, h, hm => by
  obtain ⟨g, t, cs, fuel, p, q, hg, ht, hv, hd, hr, _⟩ := h
  rcases List.mem_cons.1 hm with e | hm
  ·
   cases e
   exact ⟨g, t, cs, fuel, p, hg, ht, hv, hd⟩
  ·
   exact laid_one hr hm
theorem methods_of {W : World} {l : List (String × DataW Unit)} (hm : ("stowage/http.methods", Rows.laid_stowage_http_methods) ∈ l) (h : laidMet Tryd.prog l W) : Kd.C Kd.string W (some ⟨0, 0, none⟩) methodsL.length methodsL := by
 obtain ⟨ps, hl, _⟩ := h
 obtain ⟨g, t, cs, fuel, p, hg, ht, hv, hd⟩ := laid_one hl hm
 obtain rfl := Option.some.inj ((show Tryd.prog.globalNamed "stowage/http.methods" = some 0 by kernel_rfl).symm.trans hg)
 obtain rfl := Option.some.inj ((show (Tryd.prog.globals[0]?).map (·.type) = some 71 by kernel_rfl).symm.trans ht)
 obtain ⟨xs, m, _, ex, _, hl5, hel⟩ := DataW.trod_array Tryd.underlying71 hd
 have c5 : Tryd.prog.cellsOf 9 = 1 := by kernel_rfl
 have hdat : (Rows.laid_stowage_http_methods : DataW Unit) = .agg (methodsL.map fun x => .lit (.string x.data.toList)) := by rfl
 have hlen : methodsL.length = 5 := rfl
 have e3 : xs.map (·.1) = methodsL.map fun x => (.lit (.string x.data.toList) : DataW Unit) := (DataW.agg.inj (hdat.symm.trans (Prod.mk.inj ex).1)).symm
 refine ⟨rfl, by decide, fun _ => ⟨_, rfl, fun r x hx => ⟨[.string x], rfl, rfl, fun i u hu => ?_⟩⟩⟩
 have hr : r < 5 := by have := (List.getElem?_eq_some_iff.1 hx).1; rwa [hlen] at this
 have hE := hel r hr
 rw [c5, Nat.mul_one, List.getElem?_eq_getElem (by omega)] at hE
 obtain ⟨z, e1, e2, _⟩ := DataW.trod_string Tryd.underlying9 hE
 have e4 : (xs.map (·.1))[r]? = (methodsL.map fun x => (.lit (.string x.data.toList) : DataW Unit))[r]? := by rw [e3]
 rw [List.getElem?_map, List.getElem?_map, List.getElem?_eq_getElem (by omega : r < xs.length), hx, e2] at e4
 have hz : z.data.toList = x.data.toList := by
  simpa only [Option.map_some, Option.some.injEq, DataW.lit.injEq, Lit.string.injEq] using e4
 have hzx : z = x := by rw [← Lib.mk_data z, hz, Lib.mk_data]
 subst hzx
 have hc : cs.toList[r]? = some (.string z) := by
  have h0 : ((cs.toList.drop r).take 1)[0]? = some (.string z) := by rw [e1]; rfl
  simpa using h0
 match i, hu with
 | 0, hu =>
  cases hu
  have ea : (⟨0, 0, none⟩ : Addr).add (r * Kd.string.sz + 0) = ⟨0, r, none⟩ := by
   show (⟨0, 0, none⟩ : Addr).add (r * 1 + 0) = _
   rw [Nat.mul_one, Nat.add_zero]
   unfold Addr.add
   simp
   try exact fun h => h.symm
  rw [ea, World.var?_cell hg hv r]
  simpa using hc
 | i + 1, hu => simp at hu
end Go.Proofs.YtcecdbbomadppaaDoor.KO
end
section
namespace Go.Proofs.YtcecdbbomadppaaDoor.Q
open Go
def splitL (c : UInt8) : List UInt8 → List (List UInt8)
 | [] => [[]]
 | x :: l => if x == c then [] :: splitL c l else match splitL c l with
  | [] => [[x]]
  | p :: ps => (x :: p) :: ps
theorem splitL_hit (c x : UInt8) (l : List UInt8) (h : (x == c) = true) : splitL c (x :: l) = [] :: splitL c l := by
 rw [splitL, if_pos h]
theorem splitL_miss (c x : UInt8) (l p : List UInt8) (ps : List (List UInt8)) (h : (x == c) = false) (hs : splitL c l = p :: ps) : splitL c (x :: l) = (x :: p) :: ps := by
 rw [splitL, if_neg (by rw [h]; simp), hs]
theorem splitL_ne (c : UInt8) (l : List UInt8) : splitL c l ≠ [] := by
 cases l with
 | nil => simp [splitL]
 | cons x l =>
  unfold splitL
  split
  ·
   simp
  ·
   split <;> simp
theorem splitL_none (c : UInt8) : ∀ l : List UInt8, Lib.indexByte l c < 0 → splitL c l = [l]
 | [], _ => rfl
 | x :: l, h => by
  unfold Lib.indexByte at h
  cases hx : (x == c) with
  | true => rw [hx] at h; simp at h
  | false =>
   rw [hx] at h
   simp only [Bool.false_eq_true, if_false] at h
   have hge := Lib.indexByte_ge l c
   split at h
   ·
    rename_i h1
    have h2 : Lib.indexByte l c = -1 := by simpa using h1
    have := splitL_none c l (by omega)
    exact splitL_miss c x l _ _ hx this
   ·
    rename_i h1
    have : Lib.indexByte l c ≠ -1 := by simpa using h1
    omega
theorem splitL_some (c : UInt8) : ∀ (l : List UInt8) (i : Nat), Lib.indexByte l c = i → splitL c l = l.take i :: splitL c (l.drop (i + 1))
 | [], i, h => by simp [Lib.indexByte] at h
 | x :: l, i, h => by
  unfold Lib.indexByte at h
  cases hx : (x == c) with
  | true =>
   rw [hx] at h
   simp only [if_true] at h
   obtain rfl : i = 0 := by omega
   rw [splitL_hit c x l hx]
   simp
  | false =>
   rw [hx] at h
   simp only [Bool.false_eq_true, if_false] at h
   have hge := Lib.indexByte_ge l c
   split at h
   ·
    omega
   ·
    rename_i h1
    have h1 : Lib.indexByte l c ≠ -1 := by simpa using h1
    obtain ⟨j, rfl⟩ : ∃ j, i = j + 1 := ⟨i - 1, by omega⟩
    have := splitL_some c l j (by omega)
    rw [splitL_miss c x l _ _ hx this]
    simp
theorem splitL_length (c : UInt8) : ∀ l : List UInt8, (splitL c l).length = l.count c + 1
 | [] => rfl
 | x :: l => by
  have ih := splitL_length c l
  cases hx : (x == c) with
  | true =>
   rw [splitL_hit c x l hx]
   obtain rfl : x = c := by simpa using hx
   simp [ih]
  | false =>
   have : x ≠ c := by simpa using hx
   rw [List.count_cons_of_ne this]
   cases hs : splitL c l with
   | nil => exact absurd hs (splitL_ne c l)
   | cons p ps => rw [splitL_miss c x l p ps hx hs]; rw [hs] at ih; simpa using ih
theorem indexByte_lt (l : List UInt8) (c : UInt8) (i : Nat) (h : Lib.indexByte l c = i) : i < l.length := by
 have := (Lib.indexByte_some h).1
 rcases Nat.lt_or_ge i l.length with h1 | h1
 ·
  exact h1
 ·
  rw [List.getElem?_eq_none h1] at this; cases this
def cutB (c : UInt8) (l : List UInt8) : List UInt8 × List UInt8 := if Lib.indexByte l c < 0 then (l, []) else (l.take (Lib.indexByte l c).toNat, l.drop ((Lib.indexByte l c).toNat + 1))
theorem cutB_none (c : UInt8) (l : List UInt8) (h : Lib.indexByte l c < 0) : cutB c l = (l, []) := if_pos h
theorem cutB_some (c : UInt8) (l : List UInt8) (i : Nat) (h : Lib.indexByte l c = i) : cutB c l = (l.take i, l.drop (i + 1)) := by
 unfold cutB
 rw [h, if_neg (by omega)]
 simp
theorem cutB_length (c : UInt8) (l : List UInt8) : (cutB c l).1.length ≤ l.length ∧ (cutB c l).2.length ≤ l.length := by
 unfold cutB
 split <;> simp
 omega
end Go.Proofs.YtcecdbbomadppaaDoor.Q
end
section
/-
 DERIVED: THE SHELF's CONTRACTS AT THIS DUMP, IN PLAIN WORDS (tools/lay-plain.mjs out of 'YtcecdbbomadppaaDoorShelfRaw.lean', which tools/lay-shelf.mjs wrote): THE SAME DECLARATIONS UNDER THE SAME NAMES: 'import', 'namespace', 'open', 'def', 'theorem' AND NOTHING ELSE: no command of the shelf's: FOR A HAND-IN. Each laying: the table of numbers ('.._ren') and one theorem, a field a fact of the dump's own or the kernel's comparison; each contract: ONE APPLICATION.
-/
namespace Go.Proofs
open Go.Shelf
def Tryd.lays231_ren : Go.Shelf.Ren := ⟨fun | 231 => 39 | n => n, fun | 9 => 9 | 5 => 5 | 3 => 3 | 4 => 4 | n => n, fun | n => n⟩
theorem Tryd.lays231 : Go.Proofs.Lays.n231 Tryd.prog Tryd.lays231_ren := {
 mixed := by kernel_rfl
 f231 := Tryd.func39.trans (congrArg some (by kernel_rfl))
 t3 := Tryd.underlying3
 a3 := Tryd.isAgg3
 z3 := Tryd.sizeOf3
 v3 := Tryd.zeroValue3
 t4 := Tryd.underlying4
 a4 := Tryd.isAgg4
 z4 := Tryd.sizeOf4
 v4 := Tryd.zeroValue4
 t5 := Tryd.underlying5
 a5 := Tryd.isAgg5
 z5 := Tryd.sizeOf5
 v5 := Tryd.zeroValue5
 t9 := Tryd.underlying9
 a9 := Tryd.isAgg9
 z9 := Tryd.sizeOf9
 v9 := Tryd.zeroValue9 }
open Go.RowKit in
theorem Tryd.strings_trimLeftByte (s : ByteArray) (c : UInt8) (w : World) :
  Calls Tryd.prog 39 #[.string s, .int .u8 c.toNat] w fun e w' => e = .returned (.string ⟨(Lib.trimLeftB s.data.toList c).toArray⟩) ∧ w' = w := Any.strings_trimLeftByte Tryd.lays231 s c w
def Tryd.lays232_ren : Go.Shelf.Ren := ⟨fun | 232 => 40 | n => n, fun | 9 => 9 | 5 => 5 | 3 => 3 | 4 => 4 | n => n, fun | n => n⟩
theorem Tryd.lays232 : Go.Proofs.Lays.n232 Tryd.prog Tryd.lays232_ren := {
 mixed := by kernel_rfl
 f232 := Tryd.func40.trans (congrArg some (by kernel_rfl))
 t3 := Tryd.underlying3
 a3 := Tryd.isAgg3
 z3 := Tryd.sizeOf3
 v3 := Tryd.zeroValue3
 t4 := Tryd.underlying4
 a4 := Tryd.isAgg4
 z4 := Tryd.sizeOf4
 v4 := Tryd.zeroValue4
 t5 := Tryd.underlying5
 a5 := Tryd.isAgg5
 z5 := Tryd.sizeOf5
 v5 := Tryd.zeroValue5
 t9 := Tryd.underlying9
 a9 := Tryd.isAgg9
 z9 := Tryd.sizeOf9
 v9 := Tryd.zeroValue9 }
open Go.RowKit in
theorem Tryd.strings_trimRightByte (s : ByteArray) (c : UInt8) (w : World) (hs : s.size ≤ 9223372036854775807) :
  Calls Tryd.prog 40 #[.string s, .int .u8 c.toNat] w fun e w' => e = .returned (.string ⟨(Lib.trimRightB s.data.toList c).toArray⟩) ∧ w' = w := Any.strings_trimRightByte Tryd.lays232 s c w hs
def Tryd.lays160_ren : Go.Shelf.Ren := ⟨fun | 160 => 24 | 232 => 40 | 231 => 39 | 227 => 41 | 234 => 43 | 233 => 42 | 236 => 45 | 235 => 44 | 228 => 58 | 271 => 61 | 151 => 60 | 197 => 59 | 120 => 80 | 152 => 67 | 260 => 79 | 137 => 69 | 119 => 83 | 224 => 64 | 225 => 63 | 217 => 62 | 266 => 81 | n => n, fun | 9 => 9 | 4 => 4 | 3 => 3 | 5 => 5 | 117 => 88 | 116 => 87 | 0 => 0 | 124 => 91 | 21 => 21 | 105 => 99 | 46 => 104 | 119 => 121 | 139 => 124 | 138 => 123 | n => n, fun | 3 => 4 | 4 => 5 | n => n⟩
theorem Tryd.lays160 : Go.Proofs.Lays.n160 Tryd.prog Tryd.lays160_ren := {
 mixed := by kernel_rfl
 f119 := Tryd.func83.trans (congrArg some (by kernel_rfl))
 f120 := Tryd.func80.trans (congrArg some (by kernel_rfl))
 f137 := Tryd.func69.trans (congrArg some (by kernel_rfl))
 f151 := Tryd.func60.trans (congrArg some (by kernel_rfl))
 f152 := Tryd.func67.trans (congrArg some (by kernel_rfl))
 f160 := Tryd.func24.trans (congrArg some (by kernel_rfl))
 f197 := Tryd.func59.trans (congrArg some (by kernel_rfl))
 f217 := Tryd.func62.trans (congrArg some (by kernel_rfl))
 f224 := Tryd.func64.trans (congrArg some (by kernel_rfl))
 f225 := Tryd.func63.trans (congrArg some (by kernel_rfl))
 f227 := Tryd.func41.trans (congrArg some (by kernel_rfl))
 f228 := Tryd.func58.trans (congrArg some (by kernel_rfl))
 f231 := Tryd.func39.trans (congrArg some (by kernel_rfl))
 f232 := Tryd.func40.trans (congrArg some (by kernel_rfl))
 f233 := Tryd.func42.trans (congrArg some (by kernel_rfl))
 f234 := Tryd.func43.trans (congrArg some (by kernel_rfl))
 f235 := Tryd.func44.trans (congrArg some (by kernel_rfl))
 f236 := Tryd.func45.trans (congrArg some (by kernel_rfl))
 f260 := Tryd.func79.trans (congrArg some (by kernel_rfl))
 f266 := Tryd.func81.trans (congrArg some (by kernel_rfl))
 f271 := Tryd.func61.trans (congrArg some (by kernel_rfl))
 t0 := Tryd.underlying0
 a0 := Tryd.isAgg0
 z0 := Tryd.sizeOf0
 v0 := Tryd.zeroValue0
 t3 := Tryd.underlying3
 a3 := Tryd.isAgg3
 z3 := Tryd.sizeOf3
 v3 := Tryd.zeroValue3
 t4 := Tryd.underlying4
 a4 := Tryd.isAgg4
 z4 := Tryd.sizeOf4
 v4 := Tryd.zeroValue4
 t5 := Tryd.underlying5
 a5 := Tryd.isAgg5
 z5 := Tryd.sizeOf5
 v5 := Tryd.zeroValue5
 t9 := Tryd.underlying9
 a9 := Tryd.isAgg9
 z9 := Tryd.sizeOf9
 v9 := Tryd.zeroValue9
 t21 := Tryd.underlying21
 a21 := Tryd.isAgg21
 z21 := Tryd.sizeOf21
 v21 := Tryd.zeroValue21
 t46 := Tryd.underlying104
 a46 := Tryd.isAgg104
 z46 := Tryd.sizeOf104
 v46 := Tryd.zeroValue104
 t105 := Tryd.underlying99
 a105 := Tryd.isAgg99
 z105 := Tryd.sizeOf99
 v105 := Tryd.zeroValue99
 t116 := Tryd.underlying87
 a116 := Tryd.isAgg87
 z116 := Tryd.sizeOf87
 t117 := Tryd.underlying88
 a117 := Tryd.isAgg88
 z117 := Tryd.sizeOf88
 v117 := Tryd.zeroValue88
 t119 := Tryd.underlying121
 a119 := Tryd.isAgg121
 z119 := Tryd.sizeOf121
 t124 := Tryd.underlying91
 a124 := Tryd.isAgg91
 z124 := Tryd.sizeOf91
 v124 := Tryd.zeroValue91
 t138 := Tryd.underlying123
 a138 := Tryd.isAgg123
 z138 := Tryd.sizeOf123
 v138 := Tryd.zeroValue123
 t139 := Tryd.underlying124
 a139 := Tryd.isAgg124
 z139 := Tryd.sizeOf124
 v139 := Tryd.zeroValue124
 g3 := by kernel_rfl
 g4 := by kernel_rfl }
open Go.RowKit in
theorem Tryd.strings_Trim_one (s : ByteArray) (c : UInt8) (hc : c.toNat < 128) (w : World) (hs : s.size ≤ 9223372036854775807) :
  Calls Tryd.prog 24 #[.string s, .string ⟨#[c]⟩] w fun e w' => e = .returned (.string ⟨(Lib.trimB s.data.toList c).toArray⟩) ∧ (w' = w ∨ w' = w.drew) := Any.strings_Trim_one Tryd.lays160 s c hc w hs
def Tryd.lays119_ren : Go.Shelf.Ren := ⟨fun | 119 => 83 | n => n, fun | 21 => 21 | 4 => 4 | n => n, fun | n => n⟩
theorem Tryd.lays119 : Go.Proofs.Lays.n119 Tryd.prog Tryd.lays119_ren := {
 mixed := by kernel_rfl
 f119 := Tryd.func83.trans (congrArg some (by kernel_rfl))
 t4 := Tryd.underlying4
 a4 := Tryd.isAgg4
 z4 := Tryd.sizeOf4
 v4 := Tryd.zeroValue4
 t21 := Tryd.underlying21
 a21 := Tryd.isAgg21
 z21 := Tryd.sizeOf21
 v21 := Tryd.zeroValue21 }
theorem Tryd.utf8_ValidRune (r : Int) (w : World) :
  Calls Tryd.prog 83 #[.int .i32 r] w fun e w' => e = .returned (.bool (Lib.validRune r)) ∧ w' = w := Any.utf8_ValidRune Tryd.lays119 r w
def Tryd.lays120_ren : Go.Shelf.Ren := ⟨fun | 120 => 80 | n => n, fun | 5 => 5 | 4 => 4 | n => n, fun | n => n⟩
theorem Tryd.lays120 : Go.Proofs.Lays.n120 Tryd.prog Tryd.lays120_ren := {
 mixed := by kernel_rfl
 f120 := Tryd.func80.trans (congrArg some (by kernel_rfl))
 t4 := Tryd.underlying4
 a4 := Tryd.isAgg4
 z4 := Tryd.sizeOf4
 v4 := Tryd.zeroValue4
 t5 := Tryd.underlying5
 a5 := Tryd.isAgg5
 z5 := Tryd.sizeOf5
 v5 := Tryd.zeroValue5 }
theorem Tryd.utf8_RuneStart (b : Int) (w : World) (h0 : 0 ≤ b) (h1 : b < 256) :
  Calls Tryd.prog 80 #[.int .u8 b] w fun e w' => e = .returned (.bool (Lib.runeStart b)) ∧ w' = w := Any.utf8_RuneStart Tryd.lays120 b w h0 h1
def Tryd.lays137_ren : Go.Shelf.Ren := ⟨fun | 137 => 69 | 217 => 62 | 266 => 81 | n => n, fun | 9 => 9 | 5 => 5 | 3 => 3 | n => n, fun | n => n⟩
theorem Tryd.lays137 : Go.Proofs.Lays.n137 Tryd.prog Tryd.lays137_ren := {
 mixed := by kernel_rfl
 f137 := Tryd.func69.trans (congrArg some (by kernel_rfl))
 f217 := Tryd.func62.trans (congrArg some (by kernel_rfl))
 f266 := Tryd.func81.trans (congrArg some (by kernel_rfl))
 t3 := Tryd.underlying3
 a3 := Tryd.isAgg3
 z3 := Tryd.sizeOf3
 v3 := Tryd.zeroValue3
 t5 := Tryd.underlying5
 a5 := Tryd.isAgg5
 z5 := Tryd.sizeOf5
 v5 := Tryd.zeroValue5
 t9 := Tryd.underlying9
 a9 := Tryd.isAgg9
 z9 := Tryd.sizeOf9
 v9 := Tryd.zeroValue9 }
open Go.RowKit in
theorem Tryd.strings_IndexByte (s : ByteArray) (c : Int) (w : World) :
  Calls Tryd.prog 69 #[.string s, .int .u8 c] w fun e w' => e = .returned (.int .i64 (Lib.indexByte s.data.toList c.toNat.toUInt8)) ∧ w' = w := Any.strings_IndexByte Tryd.lays137 s c w
def Tryd.lays244_ren : Go.Shelf.Ren := ⟨fun | 244 => 70 | 247 => 84 | 287 => 54 | 321 => 71 | 322 => 72 | n => n, fun | 9 => 9 | 3 => 3 | 75 => 80 | 4 => 4 | 5 => 5 | 167 => 107 | 37 => 95 | 0 => 0 | 85 => 116 | 2 => 2 | 53 => 78 | 175 => 81 | 46 => 104 | 21 => 21 | 80 => 57 | n => n, fun | n => n⟩
theorem Tryd.lays244 : Go.Proofs.Lays.n244 Tryd.prog Tryd.lays244_ren := {
 mixed := by kernel_rfl
 f244 := Tryd.func70.trans (congrArg some (by kernel_rfl))
 f247 := Tryd.func84.trans (congrArg some (by kernel_rfl))
 f287 := Tryd.func54.trans (congrArg some (by kernel_rfl))
 f321 := Tryd.func71.trans (congrArg some (by kernel_rfl))
 f322 := Tryd.func72.trans (congrArg some (by kernel_rfl))
 t0 := Tryd.underlying0
 a0 := Tryd.isAgg0
 z0 := Tryd.sizeOf0
 v0 := Tryd.zeroValue0
 t2 := Tryd.underlying2
 a2 := Tryd.isAgg2
 z2 := Tryd.sizeOf2
 v2 := Tryd.zeroValue2
 t3 := Tryd.underlying3
 a3 := Tryd.isAgg3
 z3 := Tryd.sizeOf3
 v3 := Tryd.zeroValue3
 t4 := Tryd.underlying4
 a4 := Tryd.isAgg4
 z4 := Tryd.sizeOf4
 v4 := Tryd.zeroValue4
 t5 := Tryd.underlying5
 a5 := Tryd.isAgg5
 z5 := Tryd.sizeOf5
 v5 := Tryd.zeroValue5
 t9 := Tryd.underlying9
 a9 := Tryd.isAgg9
 z9 := Tryd.sizeOf9
 v9 := Tryd.zeroValue9
 t21 := Tryd.underlying21
 a21 := Tryd.isAgg21
 z21 := Tryd.sizeOf21
 v21 := Tryd.zeroValue21
 t37 := Tryd.underlying95
 a37 := Tryd.isAgg95
 z37 := Tryd.sizeOf95
 v37 := Tryd.zeroValue95
 t46 := Tryd.underlying104
 a46 := Tryd.isAgg104
 z46 := Tryd.sizeOf104
 v46 := Tryd.zeroValue104
 t53 := Tryd.underlying78
 a53 := Tryd.isAgg78
 z53 := Tryd.sizeOf78
 v53 := Tryd.zeroValue78
 t75 := Tryd.underlying80
 a75 := Tryd.isAgg80
 z75 := Tryd.sizeOf80
 v75 := Tryd.zeroValue80
 t85 := Tryd.underlying116
 a85 := Tryd.isAgg116
 z85 := Tryd.sizeOf116
 v85 := Tryd.zeroValue116
 t167 := Tryd.underlying107
 a167 := Tryd.isAgg107
 z167 := Tryd.sizeOf107
 v167 := Tryd.zeroValue107
 t175 := Tryd.underlying81
 a175 := Tryd.isAgg81
 z175 := Tryd.sizeOf81
 v175 := Tryd.zeroValue81 }
open Go.RowKit in
theorem Tryd.internal_strconv_Atoi (s : ByteArray) (n : Int) (hl : s.size ≤ 18) (h : Lib.atoi s.data.toList = some n) (w : World) :
  Calls Tryd.prog 70 #[.string s] w fun e w' => e = .returned (.tuple #[.int .i64 n, .nilIface]) ∧ ∃ t, w' = Lib.bytesWorld w 5 t := Any.internal_strconv_Atoi Tryd.lays244 s n hl h w
def Tryd.lays172_ren : Go.Shelf.Ren := ⟨fun | 172 => 53 | 244 => 70 | 245 => 55 | 247 => 84 | 279 => 73 | 280 => 74 | 281 => 75 | 282 => 76 | 287 => 54 | 316 => 85 | 171 => 87 | 205 => 86 | 321 => 71 | 322 => 72 | 243 => 88 | 246 => 89 | 283 => 90 | 284 => 91 | 285 => 92 | 286 => 93 | 129 => 95 | 317 => 94 | 318 => 96 | 319 => 97 | 320 => 98 | 337 => 99 | 338 => 100 | n => n, fun | 9 => 9 | 3 => 3 | 75 => 80 | 76 => 93 | 4 => 4 | 5 => 5 | 167 => 107 | 37 => 95 | 0 => 0 | 85 => 116 | 2 => 2 | 168 => 109 | 53 => 78 | 175 => 81 | 46 => 104 | 210 => 119 | 127 => 125 | 145 => 128 | 143 => 126 | 21 => 21 | 171 => 130 | 173 => 133 | 212 => 136 | 51 => 112 | 20 => 20 | 213 => 137 | 232 => 140 | 233 => 141 | 80 => 57 | n => n, fun | 15 => 2 | 16 => 3 | 17 => 6 | 18 => 7 | 19 => 8 | n => n⟩
theorem Tryd.lays172 : Go.Proofs.Lays.n172 Tryd.prog Tryd.lays172_ren := {
 mixed := by kernel_rfl
 f129 := Tryd.func95.trans (congrArg some (by kernel_rfl))
 f171 := Tryd.func87.trans (congrArg some (by kernel_rfl))
 f172 := Tryd.func53.trans (congrArg some (by kernel_rfl))
 f205 := Tryd.func86.trans (congrArg some (by kernel_rfl))
 f243 := Tryd.func88.trans (congrArg some (by kernel_rfl))
 f244 := Tryd.func70.trans (congrArg some (by kernel_rfl))
 f245 := Tryd.func55.trans (congrArg some (by kernel_rfl))
 f246 := Tryd.func89.trans (congrArg some (by kernel_rfl))
 f247 := Tryd.func84.trans (congrArg some (by kernel_rfl))
 f279 := Tryd.func73.trans (congrArg some (by kernel_rfl))
 f280 := Tryd.func74.trans (congrArg some (by kernel_rfl))
 f281 := Tryd.func75.trans (congrArg some (by kernel_rfl))
 f282 := Tryd.func76.trans (congrArg some (by kernel_rfl))
 f283 := Tryd.func90.trans (congrArg some (by kernel_rfl))
 f284 := Tryd.func91.trans (congrArg some (by kernel_rfl))
 f285 := Tryd.func92.trans (congrArg some (by kernel_rfl))
 f286 := Tryd.func93.trans (congrArg some (by kernel_rfl))
 f287 := Tryd.func54.trans (congrArg some (by kernel_rfl))
 f316 := Tryd.func85.trans (congrArg some (by kernel_rfl))
 f317 := Tryd.func94.trans (congrArg some (by kernel_rfl))
 f318 := Tryd.func96.trans (congrArg some (by kernel_rfl))
 f319 := Tryd.func97.trans (congrArg some (by kernel_rfl))
 f320 := Tryd.func98.trans (congrArg some (by kernel_rfl))
 f321 := Tryd.func71.trans (congrArg some (by kernel_rfl))
 f322 := Tryd.func72.trans (congrArg some (by kernel_rfl))
 f337 := Tryd.func99.trans (congrArg some (by kernel_rfl))
 f338 := Tryd.func100.trans (congrArg some (by kernel_rfl))
 t0 := Tryd.underlying0
 a0 := Tryd.isAgg0
 z0 := Tryd.sizeOf0
 v0 := Tryd.zeroValue0
 t2 := Tryd.underlying2
 a2 := Tryd.isAgg2
 z2 := Tryd.sizeOf2
 v2 := Tryd.zeroValue2
 t3 := Tryd.underlying3
 a3 := Tryd.isAgg3
 z3 := Tryd.sizeOf3
 v3 := Tryd.zeroValue3
 t4 := Tryd.underlying4
 a4 := Tryd.isAgg4
 z4 := Tryd.sizeOf4
 v4 := Tryd.zeroValue4
 t5 := Tryd.underlying5
 a5 := Tryd.isAgg5
 z5 := Tryd.sizeOf5
 v5 := Tryd.zeroValue5
 t9 := Tryd.underlying9
 a9 := Tryd.isAgg9
 z9 := Tryd.sizeOf9
 v9 := Tryd.zeroValue9
 t20 := Tryd.underlying20
 a20 := Tryd.isAgg20
 z20 := Tryd.sizeOf20
 v20 := Tryd.zeroValue20
 t21 := Tryd.underlying21
 a21 := Tryd.isAgg21
 z21 := Tryd.sizeOf21
 v21 := Tryd.zeroValue21
 t37 := Tryd.underlying95
 a37 := Tryd.isAgg95
 z37 := Tryd.sizeOf95
 v37 := Tryd.zeroValue95
 t46 := Tryd.underlying104
 a46 := Tryd.isAgg104
 z46 := Tryd.sizeOf104
 v46 := Tryd.zeroValue104
 t51 := Tryd.underlying112
 a51 := Tryd.isAgg112
 z51 := Tryd.sizeOf112
 v51 := Tryd.zeroValue112
 t53 := Tryd.underlying78
 a53 := Tryd.isAgg78
 z53 := Tryd.sizeOf78
 v53 := Tryd.zeroValue78
 t75 := Tryd.underlying80
 a75 := Tryd.isAgg80
 z75 := Tryd.sizeOf80
 v75 := Tryd.zeroValue80
 t76 := Tryd.underlying93
 a76 := Tryd.isAgg93
 z76 := Tryd.sizeOf93
 v76 := Tryd.zeroValue93
 t85 := Tryd.underlying116
 a85 := Tryd.isAgg116
 z85 := Tryd.sizeOf116
 v85 := Tryd.zeroValue116
 t127 := Tryd.underlying125
 a127 := Tryd.isAgg125
 z127 := Tryd.sizeOf125
 v127 := Tryd.zeroValue125
 t143 := Tryd.underlying126
 a143 := Tryd.isAgg126
 z143 := Tryd.sizeOf126
 v143 := Tryd.zeroValue126
 t145 := Tryd.underlying128
 a145 := Tryd.isAgg128
 z145 := Tryd.sizeOf128
 v145 := Tryd.zeroValue128
 t167 := Tryd.underlying107
 a167 := Tryd.isAgg107
 z167 := Tryd.sizeOf107
 v167 := Tryd.zeroValue107
 t168 := Tryd.underlying109
 a168 := Tryd.isAgg109
 z168 := Tryd.sizeOf109
 v168 := Tryd.zeroValue109
 t171 := Tryd.underlying130
 a171 := Tryd.isAgg130
 z171 := Tryd.sizeOf130
 v171 := Tryd.zeroValue130
 t173 := Tryd.underlying133
 a173 := Tryd.isAgg133
 z173 := Tryd.sizeOf133
 v173 := Tryd.zeroValue133
 t175 := Tryd.underlying81
 a175 := Tryd.isAgg81
 z175 := Tryd.sizeOf81
 v175 := Tryd.zeroValue81
 t210 := Tryd.underlying119
 a210 := Tryd.isAgg119
 z210 := Tryd.sizeOf119
 v210 := Tryd.zeroValue119
 t212 := Tryd.underlying136
 a212 := Tryd.isAgg136
 z212 := Tryd.sizeOf136
 v212 := Tryd.zeroValue136
 t213 := Tryd.underlying137
 a213 := Tryd.isAgg137
 z213 := Tryd.sizeOf137
 t232 := Tryd.underlying140
 a232 := Tryd.isAgg140
 z232 := Tryd.sizeOf140
 v232 := Tryd.zeroValue140
 t233 := Tryd.underlying141
 a233 := Tryd.isAgg141
 z233 := Tryd.sizeOf141
 v233 := Tryd.zeroValue141
 g15 := by kernel_rfl
 g16 := by kernel_rfl
 g17 := by kernel_rfl
 g18 := by kernel_rfl
 g19 := by kernel_rfl }
open Go.RowKit in
theorem Tryd.strconv_Atoi (s : ByteArray) (n : Int) (hl : s.size ≤ 18) (h : Lib.atoi s.data.toList = some n) (w : World) :
  Calls Tryd.prog 53 #[.string s] w fun e w' => e = .returned (.tuple #[.int .i64 n, .nilIface]) ∧ ∃ t, w' = Lib.bytesWorld w 5 t := Any.strconv_Atoi Tryd.lays172 s n hl h w
def Tryd.lays217_ren : Go.Shelf.Ren := ⟨fun | 217 => 62 | 266 => 81 | n => n, fun | 9 => 9 | 5 => 5 | 3 => 3 | n => n, fun | n => n⟩
theorem Tryd.lays217 : Go.Proofs.Lays.n217 Tryd.prog Tryd.lays217_ren := {
 mixed := by kernel_rfl
 f217 := Tryd.func62.trans (congrArg some (by kernel_rfl))
 f266 := Tryd.func81.trans (congrArg some (by kernel_rfl))
 t3 := Tryd.underlying3
 a3 := Tryd.isAgg3
 z3 := Tryd.sizeOf3
 v3 := Tryd.zeroValue3
 t5 := Tryd.underlying5
 a5 := Tryd.isAgg5
 z5 := Tryd.sizeOf5
 v5 := Tryd.zeroValue5
 t9 := Tryd.underlying9
 a9 := Tryd.isAgg9
 z9 := Tryd.sizeOf9
 v9 := Tryd.zeroValue9 }
open Go.RowKit Go.Lib in
theorem Tryd.stringslite_IndexByte (s : ByteArray) (c : Int) (w : World) :
  Calls Tryd.prog 62 #[.string s, .int .u8 c] w fun e w' => e = .returned (.int .i64 (Lib.indexByte s.data.toList c.toNat.toUInt8)) ∧ w' = w := Any.stringslite_IndexByte Tryd.lays217 s c w
def Tryd.lays224_ren : Go.Shelf.Ren := ⟨fun | 224 => 64 | n => n, fun | 3 => 3 | n => n, fun | n => n⟩
theorem Tryd.lays224 : Go.Proofs.Lays.n224 Tryd.prog Tryd.lays224_ren := {
 mixed := by kernel_rfl
 f224 := Tryd.func64.trans (congrArg some (by kernel_rfl))
 t3 := Tryd.underlying3
 a3 := Tryd.isAgg3
 z3 := Tryd.sizeOf3
 v3 := Tryd.zeroValue3 }
open Go.RowKit Go.Lib in
theorem Tryd.bytealg_Cutover (n : Int) (h0 : 0 ≤ n) (h1 : n < 4611686018427387904) (w : World) :
  Calls Tryd.prog 64 #[.int .i64 n] w fun e w' => e = .returned (.int .i64 ((n + 16) / 8)) ∧ w' = w := Any.bytealg_Cutover Tryd.lays224 n h0 h1 w
def Tryd.lays314_ren : Go.Shelf.Ren := ⟨fun | 314 => 82 | n => n, fun | 9 => 9 | 51 => 112 | 3 => 3 | 4 => 4 | 5 => 5 | 46 => 104 | n => n, fun | n => n⟩
theorem Tryd.lays314 : Go.Proofs.Lays.n314 Tryd.prog Tryd.lays314_ren := {
 mixed := by kernel_rfl
 f314 := Tryd.func82.trans (congrArg some (by kernel_rfl))
 t3 := Tryd.underlying3
 a3 := Tryd.isAgg3
 z3 := Tryd.sizeOf3
 v3 := Tryd.zeroValue3
 t4 := Tryd.underlying4
 a4 := Tryd.isAgg4
 z4 := Tryd.sizeOf4
 v4 := Tryd.zeroValue4
 t5 := Tryd.underlying5
 a5 := Tryd.isAgg5
 z5 := Tryd.sizeOf5
 v5 := Tryd.zeroValue5
 t9 := Tryd.underlying9
 a9 := Tryd.isAgg9
 z9 := Tryd.sizeOf9
 v9 := Tryd.zeroValue9
 t46 := Tryd.underlying104
 a46 := Tryd.isAgg104
 z46 := Tryd.sizeOf104
 v46 := Tryd.zeroValue104
 t51 := Tryd.underlying112
 a51 := Tryd.isAgg112
 z51 := Tryd.sizeOf112
 v51 := Tryd.zeroValue112 }
open Go.RowKit Go.Lib in
theorem Tryd.bytealg_hashStr (sep : ByteArray) (hs : sep.size < 4294967281) (w : World) :
  Calls Tryd.prog 82 #[.string sep] w fun e w' => e = .returned (.tuple #[.int .u32 (RK.H sep.data.toList % 4294967296), .int .u32 (16777619 ^ sep.size % 4294967296)]) ∧ w' = w := Any.bytealg_hashStr Tryd.lays314 sep hs w
def Tryd.lays267_ren : Go.Shelf.Ren := ⟨fun | 267 => 65 | 314 => 82 | n => n, fun | 9 => 9 | 3 => 3 | 146 => 113 | 51 => 112 | 4 => 4 | 5 => 5 | 46 => 104 | n => n, fun | n => n⟩
theorem Tryd.lays267 : Go.Proofs.Lays.n267 Tryd.prog Tryd.lays267_ren := {
 mixed := by kernel_rfl
 f267 := Tryd.func65.trans (congrArg some (by kernel_rfl))
 f314 := Tryd.func82.trans (congrArg some (by kernel_rfl))
 t3 := Tryd.underlying3
 a3 := Tryd.isAgg3
 z3 := Tryd.sizeOf3
 v3 := Tryd.zeroValue3
 t4 := Tryd.underlying4
 a4 := Tryd.isAgg4
 z4 := Tryd.sizeOf4
 v4 := Tryd.zeroValue4
 t5 := Tryd.underlying5
 a5 := Tryd.isAgg5
 z5 := Tryd.sizeOf5
 v5 := Tryd.zeroValue5
 t9 := Tryd.underlying9
 a9 := Tryd.isAgg9
 z9 := Tryd.sizeOf9
 v9 := Tryd.zeroValue9
 t46 := Tryd.underlying104
 a46 := Tryd.isAgg104
 z46 := Tryd.sizeOf104
 v46 := Tryd.zeroValue104
 t51 := Tryd.underlying112
 a51 := Tryd.isAgg112
 z51 := Tryd.sizeOf112
 v51 := Tryd.zeroValue112
 t146 := Tryd.underlying113
 a146 := Tryd.isAgg113
 z146 := Tryd.sizeOf113
 v146 := Tryd.zeroValue113 }
open Go.RowKit Go.Lib in
theorem Tryd.bytealg_IndexRabinKarp (s sep : ByteArray) (h1 : 1 ≤ sep.size) (h2 : sep.size ≤ s.size) (hs : s.size < 4294967281) (w : World) :
  Calls Tryd.prog 65 #[.string s, .string sep] w fun e w' => e = .returned (.int .i64 (Lib.index s.data.toList sep.data.toList)) ∧ w' = w := Any.bytealg_IndexRabinKarp Tryd.lays267 s sep h1 h2 hs w
def Tryd.lays219_ren : Go.Shelf.Ren := ⟨fun | 219 => 49 | 217 => 62 | 225 => 63 | 224 => 64 | 267 => 65 | 266 => 81 | 314 => 82 | n => n, fun | 9 => 9 | 3 => 3 | 4 => 4 | 5 => 5 | 46 => 104 | 146 => 113 | 51 => 112 | n => n, fun | 1 => 1 | n => n⟩
theorem Tryd.lays219 : Go.Proofs.Lays.n219 Tryd.prog Tryd.lays219_ren := {
 mixed := by kernel_rfl
 f217 := Tryd.func62.trans (congrArg some (by kernel_rfl))
 f219 := Tryd.func49.trans (congrArg some (by kernel_rfl))
 f224 := Tryd.func64.trans (congrArg some (by kernel_rfl))
 f225 := Tryd.func63.trans (congrArg some (by kernel_rfl))
 f266 := Tryd.func81.trans (congrArg some (by kernel_rfl))
 f267 := Tryd.func65.trans (congrArg some (by kernel_rfl))
 f314 := Tryd.func82.trans (congrArg some (by kernel_rfl))
 t3 := Tryd.underlying3
 a3 := Tryd.isAgg3
 z3 := Tryd.sizeOf3
 v3 := Tryd.zeroValue3
 t4 := Tryd.underlying4
 a4 := Tryd.isAgg4
 z4 := Tryd.sizeOf4
 v4 := Tryd.zeroValue4
 t5 := Tryd.underlying5
 a5 := Tryd.isAgg5
 z5 := Tryd.sizeOf5
 v5 := Tryd.zeroValue5
 t9 := Tryd.underlying9
 a9 := Tryd.isAgg9
 z9 := Tryd.sizeOf9
 v9 := Tryd.zeroValue9
 t46 := Tryd.underlying104
 a46 := Tryd.isAgg104
 z46 := Tryd.sizeOf104
 v46 := Tryd.zeroValue104
 t51 := Tryd.underlying112
 a51 := Tryd.isAgg112
 z51 := Tryd.sizeOf112
 v51 := Tryd.zeroValue112
 t146 := Tryd.underlying113
 a146 := Tryd.isAgg113
 z146 := Tryd.sizeOf113
 v146 := Tryd.zeroValue113
 g1 := by kernel_rfl }
open Go.RowKit Go.Lib in
theorem Tryd.stringslite_Index_one (s : ByteArray) (c : UInt8) (w : World) :
  Calls Tryd.prog 49 #[.string s, .string ⟨#[c]⟩] w fun e w' => e = .returned (.int .i64 (Lib.indexByte s.data.toList c)) ∧ w' = w := Any.stringslite_Index_one Tryd.lays219 s c w
open Go.RowKit Go.Lib in
theorem Tryd.stringslite_Index (s sub : ByteArray) (m : Int) (w : World) (hs : s.size < 4294967281) (hm : w.cell? ⟨1, 0, none⟩ = some (.int .i64 m)) :
  Calls Tryd.prog 49 #[.string s, .string sub] w fun e w' => e = .returned (.int .i64 (Lib.index s.data.toList sub.data.toList)) ∧ w' = w := Any.stringslite_Index Tryd.lays219 s sub m w hs hm
def Tryd.lays143_ren : Go.Shelf.Ren := ⟨fun | 143 => 29 | 219 => 49 | 217 => 62 | 225 => 63 | 224 => 64 | 267 => 65 | 266 => 81 | 314 => 82 | n => n, fun | 9 => 9 | 3 => 3 | 4 => 4 | 5 => 5 | 46 => 104 | 146 => 113 | 51 => 112 | n => n, fun | 1 => 1 | n => n⟩
theorem Tryd.lays143 : Go.Proofs.Lays.n143 Tryd.prog Tryd.lays143_ren := {
 mixed := by kernel_rfl
 f143 := Tryd.func29.trans (congrArg some (by kernel_rfl))
 f217 := Tryd.func62.trans (congrArg some (by kernel_rfl))
 f219 := Tryd.func49.trans (congrArg some (by kernel_rfl))
 f224 := Tryd.func64.trans (congrArg some (by kernel_rfl))
 f225 := Tryd.func63.trans (congrArg some (by kernel_rfl))
 f266 := Tryd.func81.trans (congrArg some (by kernel_rfl))
 f267 := Tryd.func65.trans (congrArg some (by kernel_rfl))
 f314 := Tryd.func82.trans (congrArg some (by kernel_rfl))
 t3 := Tryd.underlying3
 a3 := Tryd.isAgg3
 z3 := Tryd.sizeOf3
 v3 := Tryd.zeroValue3
 t4 := Tryd.underlying4
 a4 := Tryd.isAgg4
 z4 := Tryd.sizeOf4
 v4 := Tryd.zeroValue4
 t5 := Tryd.underlying5
 a5 := Tryd.isAgg5
 z5 := Tryd.sizeOf5
 v5 := Tryd.zeroValue5
 t9 := Tryd.underlying9
 a9 := Tryd.isAgg9
 z9 := Tryd.sizeOf9
 v9 := Tryd.zeroValue9
 t46 := Tryd.underlying104
 a46 := Tryd.isAgg104
 z46 := Tryd.sizeOf104
 v46 := Tryd.zeroValue104
 t51 := Tryd.underlying112
 a51 := Tryd.isAgg112
 z51 := Tryd.sizeOf112
 v51 := Tryd.zeroValue112
 t146 := Tryd.underlying113
 a146 := Tryd.isAgg113
 z146 := Tryd.sizeOf113
 v146 := Tryd.zeroValue113
 g1 := by kernel_rfl }
open Go.RowKit Go.Lib in
theorem Tryd.strings_Index_one (s : ByteArray) (c : UInt8) (w : World) :
  Calls Tryd.prog 29 #[.string s, .string ⟨#[c]⟩] w fun e w' => e = .returned (.int .i64 (Lib.indexByte s.data.toList c)) ∧ w' = w := Any.strings_Index_one Tryd.lays143 s c w
open Go.RowKit Go.Lib in
theorem Tryd.strings_Index (s sub : ByteArray) (m : Int) (w : World) (hs : s.size < 4294967281) (hm : w.cell? ⟨1, 0, none⟩ = some (.int .i64 m)) :
  Calls Tryd.prog 29 #[.string s, .string sub] w fun e w' => e = .returned (.int .i64 (Lib.index s.data.toList sub.data.toList)) ∧ w' = w := Any.strings_Index Tryd.lays143 s sub m w hs hm
def Tryd.lays220_ren : Go.Shelf.Ren := ⟨fun | 220 => 48 | 219 => 49 | 217 => 62 | 225 => 63 | 224 => 64 | 267 => 65 | 266 => 81 | 314 => 82 | n => n, fun | 9 => 9 | 4 => 4 | 3 => 3 | 5 => 5 | 46 => 104 | 146 => 113 | 51 => 112 | n => n, fun | 1 => 1 | n => n⟩
theorem Tryd.lays220 : Go.Proofs.Lays.n220 Tryd.prog Tryd.lays220_ren := {
 mixed := by kernel_rfl
 f217 := Tryd.func62.trans (congrArg some (by kernel_rfl))
 f219 := Tryd.func49.trans (congrArg some (by kernel_rfl))
 f220 := Tryd.func48.trans (congrArg some (by kernel_rfl))
 f224 := Tryd.func64.trans (congrArg some (by kernel_rfl))
 f225 := Tryd.func63.trans (congrArg some (by kernel_rfl))
 f266 := Tryd.func81.trans (congrArg some (by kernel_rfl))
 f267 := Tryd.func65.trans (congrArg some (by kernel_rfl))
 f314 := Tryd.func82.trans (congrArg some (by kernel_rfl))
 t3 := Tryd.underlying3
 a3 := Tryd.isAgg3
 z3 := Tryd.sizeOf3
 v3 := Tryd.zeroValue3
 t4 := Tryd.underlying4
 a4 := Tryd.isAgg4
 z4 := Tryd.sizeOf4
 v4 := Tryd.zeroValue4
 t5 := Tryd.underlying5
 a5 := Tryd.isAgg5
 z5 := Tryd.sizeOf5
 v5 := Tryd.zeroValue5
 t9 := Tryd.underlying9
 a9 := Tryd.isAgg9
 z9 := Tryd.sizeOf9
 v9 := Tryd.zeroValue9
 t46 := Tryd.underlying104
 a46 := Tryd.isAgg104
 z46 := Tryd.sizeOf104
 v46 := Tryd.zeroValue104
 t51 := Tryd.underlying112
 a51 := Tryd.isAgg112
 z51 := Tryd.sizeOf112
 v51 := Tryd.zeroValue112
 t146 := Tryd.underlying113
 a146 := Tryd.isAgg113
 z146 := Tryd.sizeOf113
 v146 := Tryd.zeroValue113
 g1 := by kernel_rfl }
open Go.RowKit Go.Lib in
theorem Tryd.stringslite_Cut (s sep : ByteArray) (m : Int) (w : World) (hs : s.size < 4294967281) (hm : w.cell? ⟨1, 0, none⟩ = some (.int .i64 m)) :
  Calls Tryd.prog 48 #[.string s, .string sep] w fun e w' => e = .returned (.tuple #[.string ⟨(Lib.cut s.data.toList sep.data.toList).1.toArray⟩, .string ⟨(Lib.cut s.data.toList sep.data.toList).2.1.toArray⟩, .bool (Lib.cut s.data.toList sep.data.toList).2.2]) ∧ ∃ n, w' = w.drewN n := Any.stringslite_Cut Tryd.lays220 s sep m w hs hm
def Tryd.lays145_ren : Go.Shelf.Ren := ⟨fun | 145 => 28 | 220 => 48 | 219 => 49 | 217 => 62 | 225 => 63 | 224 => 64 | 267 => 65 | 266 => 81 | 314 => 82 | n => n, fun | 9 => 9 | 4 => 4 | 59 => 72 | 3 => 3 | 5 => 5 | 46 => 104 | 146 => 113 | 51 => 112 | n => n, fun | 1 => 1 | n => n⟩
theorem Tryd.lays145 : Go.Proofs.Lays.n145 Tryd.prog Tryd.lays145_ren := {
 mixed := by kernel_rfl
 f145 := Tryd.func28.trans (congrArg some (by kernel_rfl))
 f217 := Tryd.func62.trans (congrArg some (by kernel_rfl))
 f219 := Tryd.func49.trans (congrArg some (by kernel_rfl))
 f220 := Tryd.func48.trans (congrArg some (by kernel_rfl))
 f224 := Tryd.func64.trans (congrArg some (by kernel_rfl))
 f225 := Tryd.func63.trans (congrArg some (by kernel_rfl))
 f266 := Tryd.func81.trans (congrArg some (by kernel_rfl))
 f267 := Tryd.func65.trans (congrArg some (by kernel_rfl))
 f314 := Tryd.func82.trans (congrArg some (by kernel_rfl))
 t3 := Tryd.underlying3
 a3 := Tryd.isAgg3
 z3 := Tryd.sizeOf3
 v3 := Tryd.zeroValue3
 t4 := Tryd.underlying4
 a4 := Tryd.isAgg4
 z4 := Tryd.sizeOf4
 v4 := Tryd.zeroValue4
 t5 := Tryd.underlying5
 a5 := Tryd.isAgg5
 z5 := Tryd.sizeOf5
 v5 := Tryd.zeroValue5
 t9 := Tryd.underlying9
 a9 := Tryd.isAgg9
 z9 := Tryd.sizeOf9
 v9 := Tryd.zeroValue9
 t46 := Tryd.underlying104
 a46 := Tryd.isAgg104
 z46 := Tryd.sizeOf104
 v46 := Tryd.zeroValue104
 t51 := Tryd.underlying112
 a51 := Tryd.isAgg112
 z51 := Tryd.sizeOf112
 v51 := Tryd.zeroValue112
 t59 := Tryd.underlying72
 a59 := Tryd.isAgg72
 z59 := Tryd.sizeOf72
 v59 := Tryd.zeroValue72
 t146 := Tryd.underlying113
 a146 := Tryd.isAgg113
 z146 := Tryd.sizeOf113
 v146 := Tryd.zeroValue113
 g1 := by kernel_rfl }
open Go.RowKit Go.Lib in
theorem Tryd.strings_Cut (s sep : ByteArray) (m : Int) (w : World) (hs : s.size < 4294967281) (hm : w.cell? ⟨1, 0, none⟩ = some (.int .i64 m)) :
  Calls Tryd.prog 28 #[.string s, .string sep] w fun e w' => e = .returned (.tuple #[.string ⟨(Lib.cut s.data.toList sep.data.toList).1.toArray⟩, .string ⟨(Lib.cut s.data.toList sep.data.toList).2.1.toArray⟩, .bool (Lib.cut s.data.toList sep.data.toList).2.2]) ∧ ∃ n, w' = w.drewN n := Any.strings_Cut Tryd.lays145 s sep m w hs hm
def Tryd.lays138_ren : Go.Shelf.Ren := ⟨fun | 138 => 57 | 195 => 77 | 218 => 78 | 143 => 29 | 219 => 49 | 217 => 62 | 225 => 63 | 224 => 64 | 267 => 65 | 266 => 81 | 314 => 82 | n => n, fun | 9 => 9 | 3 => 3 | 4 => 4 | 5 => 5 | 0 => 0 | 46 => 104 | 146 => 113 | 51 => 112 | n => n, fun | 1 => 1 | n => n⟩
theorem Tryd.lays138 : Go.Proofs.Lays.n138 Tryd.prog Tryd.lays138_ren := {
 mixed := by kernel_rfl
 f138 := Tryd.func57.trans (congrArg some (by kernel_rfl))
 f143 := Tryd.func29.trans (congrArg some (by kernel_rfl))
 f195 := Tryd.func77.trans (congrArg some (by kernel_rfl))
 f217 := Tryd.func62.trans (congrArg some (by kernel_rfl))
 f218 := Tryd.func78.trans (congrArg some (by kernel_rfl))
 f219 := Tryd.func49.trans (congrArg some (by kernel_rfl))
 f224 := Tryd.func64.trans (congrArg some (by kernel_rfl))
 f225 := Tryd.func63.trans (congrArg some (by kernel_rfl))
 f266 := Tryd.func81.trans (congrArg some (by kernel_rfl))
 f267 := Tryd.func65.trans (congrArg some (by kernel_rfl))
 f314 := Tryd.func82.trans (congrArg some (by kernel_rfl))
 t0 := Tryd.underlying0
 a0 := Tryd.isAgg0
 z0 := Tryd.sizeOf0
 v0 := Tryd.zeroValue0
 t3 := Tryd.underlying3
 a3 := Tryd.isAgg3
 z3 := Tryd.sizeOf3
 v3 := Tryd.zeroValue3
 t4 := Tryd.underlying4
 a4 := Tryd.isAgg4
 z4 := Tryd.sizeOf4
 v4 := Tryd.zeroValue4
 t5 := Tryd.underlying5
 a5 := Tryd.isAgg5
 z5 := Tryd.sizeOf5
 v5 := Tryd.zeroValue5
 t9 := Tryd.underlying9
 a9 := Tryd.isAgg9
 z9 := Tryd.sizeOf9
 v9 := Tryd.zeroValue9
 t46 := Tryd.underlying104
 a46 := Tryd.isAgg104
 z46 := Tryd.sizeOf104
 v46 := Tryd.zeroValue104
 t51 := Tryd.underlying112
 a51 := Tryd.isAgg112
 z51 := Tryd.sizeOf112
 v51 := Tryd.zeroValue112
 t146 := Tryd.underlying113
 a146 := Tryd.isAgg113
 z146 := Tryd.sizeOf113
 v146 := Tryd.zeroValue113
 g1 := by kernel_rfl }
open Go.RowKit Go.Lib in
theorem Tryd.strings_Count_one (s : ByteArray) (c : UInt8) (w : World) :
  Calls Tryd.prog 57 #[.string s, .string ⟨#[c]⟩] w fun e w' => e = .returned (.int .i64 (Lib.countByte s.data.toList c)) ∧ w' = w := Any.strings_Count_one Tryd.lays138 s c w
open Go.RowKit Go.Lib in
theorem Tryd.strings_Count (s sub : ByteArray) (m : Int) (w : World) (hs : s.size < 4294967281) (hm : w.cell? ⟨1, 0, none⟩ = some (.int .i64 m)) (h2 : 2 ≤ sub.size) :
  Calls Tryd.prog 57 #[.string s, .string sub] w fun e w' => e = .returned (.int .i64 (Lib.countB s sub)) ∧ w' = w := Any.strings_Count Tryd.lays138 s sub m w hs hm h2
def Tryd.laysM219_ren : Go.Shelf.Ren := ⟨fun | 219 => 49 | 217 => 62 | 225 => 63 | 224 => 64 | 267 => 65 | 266 => 81 | 314 => 82 | n => n, fun | 9 => 9 | 3 => 3 | 4 => 4 | 5 => 5 | 46 => 104 | 146 => 113 | 51 => 112 | n => n, fun | 1 => 1 | n => n⟩
theorem Tryd.laysM219 : Go.Proofs.LaysM.n219 Tryd.prog Tryd.laysM219_ren := {
 mixed := by kernel_rfl
 f217 := Tryd.func62.trans (congrArg some (by kernel_rfl))
 f219 := Tryd.func49.trans (congrArg some (by kernel_rfl))
 f224 := Tryd.func64.trans (congrArg some (by kernel_rfl))
 f225 := Tryd.func63.trans (congrArg some (by kernel_rfl))
 f266 := Tryd.func81.trans (congrArg some (by kernel_rfl))
 f267 := Tryd.func65.trans (congrArg some (by kernel_rfl))
 f314 := Tryd.func82.trans (congrArg some (by kernel_rfl))
 t3 := Tryd.underlying3
 a3 := Tryd.isAgg3
 z3 := Tryd.sizeOf3
 v3 := Tryd.zeroValue3
 t4 := Tryd.underlying4
 a4 := Tryd.isAgg4
 z4 := Tryd.sizeOf4
 v4 := Tryd.zeroValue4
 t5 := Tryd.underlying5
 a5 := Tryd.isAgg5
 z5 := Tryd.sizeOf5
 v5 := Tryd.zeroValue5
 t9 := Tryd.underlying9
 a9 := Tryd.isAgg9
 z9 := Tryd.sizeOf9
 v9 := Tryd.zeroValue9
 t46 := Tryd.underlying104
 a46 := Tryd.isAgg104
 z46 := Tryd.sizeOf104
 v46 := Tryd.zeroValue104
 t51 := Tryd.underlying112
 a51 := Tryd.isAgg112
 z51 := Tryd.sizeOf112
 v51 := Tryd.zeroValue112
 t146 := Tryd.underlying113
 a146 := Tryd.isAgg113
 z146 := Tryd.sizeOf113
 v146 := Tryd.zeroValue113
 g1 := by kernel_rfl
 i3 := by kernel_rfl
 i4 := by kernel_rfl
 i5 := by kernel_rfl
 i9 := by kernel_rfl
 i46 := by kernel_rfl
 i51 := by kernel_rfl
 i146 := by kernel_rfl
 m1 := by kernel_rfl
 s1_3 := fun w h => Go.Proofs.cell_of_shapedOpen_int (zero := #[.int .i64 0]) (t := 3) h (of_decide_eq_true (by kernel_rfl)) (by kernel_rfl) rfl (by kernel_rfl) (by kernel_rfl) Tryd.underlying3 }
open Go.RowKit Go.Lib in
theorem Tryd.stringslite_Index_shaped (s sub : ByteArray) (w : World) (h : w.ShapedOpen Tryd.prog) (hs : s.size < 4294967281) :
  Calls Tryd.prog 49 #[.string s, .string sub] w fun e w' => e = .returned (.int .i64 (Lib.index s.data.toList sub.data.toList)) ∧ w' = w := Any.stringslite_Index_shaped Tryd.laysM219 s sub w h hs
def Tryd.laysM143_ren : Go.Shelf.Ren := ⟨fun | 143 => 29 | 219 => 49 | 217 => 62 | 225 => 63 | 224 => 64 | 267 => 65 | 266 => 81 | 314 => 82 | n => n, fun | 9 => 9 | 3 => 3 | 4 => 4 | 5 => 5 | 46 => 104 | 146 => 113 | 51 => 112 | n => n, fun | 1 => 1 | n => n⟩
theorem Tryd.laysM143 : Go.Proofs.LaysM.n143 Tryd.prog Tryd.laysM143_ren := {
 mixed := by kernel_rfl
 f143 := Tryd.func29.trans (congrArg some (by kernel_rfl))
 f217 := Tryd.func62.trans (congrArg some (by kernel_rfl))
 f219 := Tryd.func49.trans (congrArg some (by kernel_rfl))
 f224 := Tryd.func64.trans (congrArg some (by kernel_rfl))
 f225 := Tryd.func63.trans (congrArg some (by kernel_rfl))
 f266 := Tryd.func81.trans (congrArg some (by kernel_rfl))
 f267 := Tryd.func65.trans (congrArg some (by kernel_rfl))
 f314 := Tryd.func82.trans (congrArg some (by kernel_rfl))
 t3 := Tryd.underlying3
 a3 := Tryd.isAgg3
 z3 := Tryd.sizeOf3
 v3 := Tryd.zeroValue3
 t4 := Tryd.underlying4
 a4 := Tryd.isAgg4
 z4 := Tryd.sizeOf4
 v4 := Tryd.zeroValue4
 t5 := Tryd.underlying5
 a5 := Tryd.isAgg5
 z5 := Tryd.sizeOf5
 v5 := Tryd.zeroValue5
 t9 := Tryd.underlying9
 a9 := Tryd.isAgg9
 z9 := Tryd.sizeOf9
 v9 := Tryd.zeroValue9
 t46 := Tryd.underlying104
 a46 := Tryd.isAgg104
 z46 := Tryd.sizeOf104
 v46 := Tryd.zeroValue104
 t51 := Tryd.underlying112
 a51 := Tryd.isAgg112
 z51 := Tryd.sizeOf112
 v51 := Tryd.zeroValue112
 t146 := Tryd.underlying113
 a146 := Tryd.isAgg113
 z146 := Tryd.sizeOf113
 v146 := Tryd.zeroValue113
 g1 := by kernel_rfl
 i3 := by kernel_rfl
 i4 := by kernel_rfl
 i5 := by kernel_rfl
 i9 := by kernel_rfl
 i46 := by kernel_rfl
 i51 := by kernel_rfl
 i146 := by kernel_rfl
 m1 := by kernel_rfl
 s1_3 := fun w h => Go.Proofs.cell_of_shapedOpen_int (zero := #[.int .i64 0]) (t := 3) h (of_decide_eq_true (by kernel_rfl)) (by kernel_rfl) rfl (by kernel_rfl) (by kernel_rfl) Tryd.underlying3 }
open Go.RowKit Go.Lib in
theorem Tryd.strings_Index_shaped (s sub : ByteArray) (w : World) (h : w.ShapedOpen Tryd.prog) (hs : s.size < 4294967281) :
  Calls Tryd.prog 29 #[.string s, .string sub] w fun e w' => e = .returned (.int .i64 (Lib.index s.data.toList sub.data.toList)) ∧ w' = w := Any.strings_Index_shaped Tryd.laysM143 s sub w h hs
def Tryd.laysM220_ren : Go.Shelf.Ren := ⟨fun | 220 => 48 | 219 => 49 | 217 => 62 | 225 => 63 | 224 => 64 | 267 => 65 | 266 => 81 | 314 => 82 | n => n, fun | 9 => 9 | 4 => 4 | 3 => 3 | 5 => 5 | 46 => 104 | 146 => 113 | 51 => 112 | n => n, fun | 1 => 1 | n => n⟩
theorem Tryd.laysM220 : Go.Proofs.LaysM.n220 Tryd.prog Tryd.laysM220_ren := {
 mixed := by kernel_rfl
 f217 := Tryd.func62.trans (congrArg some (by kernel_rfl))
 f219 := Tryd.func49.trans (congrArg some (by kernel_rfl))
 f220 := Tryd.func48.trans (congrArg some (by kernel_rfl))
 f224 := Tryd.func64.trans (congrArg some (by kernel_rfl))
 f225 := Tryd.func63.trans (congrArg some (by kernel_rfl))
 f266 := Tryd.func81.trans (congrArg some (by kernel_rfl))
 f267 := Tryd.func65.trans (congrArg some (by kernel_rfl))
 f314 := Tryd.func82.trans (congrArg some (by kernel_rfl))
 t3 := Tryd.underlying3
 a3 := Tryd.isAgg3
 z3 := Tryd.sizeOf3
 v3 := Tryd.zeroValue3
 t4 := Tryd.underlying4
 a4 := Tryd.isAgg4
 z4 := Tryd.sizeOf4
 v4 := Tryd.zeroValue4
 t5 := Tryd.underlying5
 a5 := Tryd.isAgg5
 z5 := Tryd.sizeOf5
 v5 := Tryd.zeroValue5
 t9 := Tryd.underlying9
 a9 := Tryd.isAgg9
 z9 := Tryd.sizeOf9
 v9 := Tryd.zeroValue9
 t46 := Tryd.underlying104
 a46 := Tryd.isAgg104
 z46 := Tryd.sizeOf104
 v46 := Tryd.zeroValue104
 t51 := Tryd.underlying112
 a51 := Tryd.isAgg112
 z51 := Tryd.sizeOf112
 v51 := Tryd.zeroValue112
 t146 := Tryd.underlying113
 a146 := Tryd.isAgg113
 z146 := Tryd.sizeOf113
 v146 := Tryd.zeroValue113
 g1 := by kernel_rfl
 i3 := by kernel_rfl
 i4 := by kernel_rfl
 i5 := by kernel_rfl
 i9 := by kernel_rfl
 i46 := by kernel_rfl
 i51 := by kernel_rfl
 i146 := by kernel_rfl
 m1 := by kernel_rfl
 s1_3 := fun w h => Go.Proofs.cell_of_shapedOpen_int (zero := #[.int .i64 0]) (t := 3) h (of_decide_eq_true (by kernel_rfl)) (by kernel_rfl) rfl (by kernel_rfl) (by kernel_rfl) Tryd.underlying3 }
open Go.RowKit Go.Lib in
theorem Tryd.stringslite_Cut_shaped (s sep : ByteArray) (w : World) (h : w.ShapedOpen Tryd.prog) (hs : s.size < 4294967281) :
  Calls Tryd.prog 48 #[.string s, .string sep] w fun e w' => e = .returned (.tuple #[.string ⟨(Lib.cut s.data.toList sep.data.toList).1.toArray⟩, .string ⟨(Lib.cut s.data.toList sep.data.toList).2.1.toArray⟩, .bool (Lib.cut s.data.toList sep.data.toList).2.2]) ∧ ∃ n, w' = w.drewN n := Any.stringslite_Cut_shaped Tryd.laysM220 s sep w h hs
def Tryd.laysM145_ren : Go.Shelf.Ren := ⟨fun | 145 => 28 | 220 => 48 | 219 => 49 | 217 => 62 | 225 => 63 | 224 => 64 | 267 => 65 | 266 => 81 | 314 => 82 | n => n, fun | 9 => 9 | 4 => 4 | 59 => 72 | 3 => 3 | 5 => 5 | 46 => 104 | 146 => 113 | 51 => 112 | n => n, fun | 1 => 1 | n => n⟩
theorem Tryd.laysM145 : Go.Proofs.LaysM.n145 Tryd.prog Tryd.laysM145_ren := {
 mixed := by kernel_rfl
 f145 := Tryd.func28.trans (congrArg some (by kernel_rfl))
 f217 := Tryd.func62.trans (congrArg some (by kernel_rfl))
 f219 := Tryd.func49.trans (congrArg some (by kernel_rfl))
 f220 := Tryd.func48.trans (congrArg some (by kernel_rfl))
 f224 := Tryd.func64.trans (congrArg some (by kernel_rfl))
 f225 := Tryd.func63.trans (congrArg some (by kernel_rfl))
 f266 := Tryd.func81.trans (congrArg some (by kernel_rfl))
 f267 := Tryd.func65.trans (congrArg some (by kernel_rfl))
 f314 := Tryd.func82.trans (congrArg some (by kernel_rfl))
 t3 := Tryd.underlying3
 a3 := Tryd.isAgg3
 z3 := Tryd.sizeOf3
 v3 := Tryd.zeroValue3
 t4 := Tryd.underlying4
 a4 := Tryd.isAgg4
 z4 := Tryd.sizeOf4
 v4 := Tryd.zeroValue4
 t5 := Tryd.underlying5
 a5 := Tryd.isAgg5
 z5 := Tryd.sizeOf5
 v5 := Tryd.zeroValue5
 t9 := Tryd.underlying9
 a9 := Tryd.isAgg9
 z9 := Tryd.sizeOf9
 v9 := Tryd.zeroValue9
 t46 := Tryd.underlying104
 a46 := Tryd.isAgg104
 z46 := Tryd.sizeOf104
 v46 := Tryd.zeroValue104
 t51 := Tryd.underlying112
 a51 := Tryd.isAgg112
 z51 := Tryd.sizeOf112
 v51 := Tryd.zeroValue112
 t59 := Tryd.underlying72
 a59 := Tryd.isAgg72
 z59 := Tryd.sizeOf72
 v59 := Tryd.zeroValue72
 t146 := Tryd.underlying113
 a146 := Tryd.isAgg113
 z146 := Tryd.sizeOf113
 v146 := Tryd.zeroValue113
 g1 := by kernel_rfl
 i3 := by kernel_rfl
 i4 := by kernel_rfl
 i5 := by kernel_rfl
 i9 := by kernel_rfl
 i46 := by kernel_rfl
 i51 := by kernel_rfl
 i59 := by kernel_rfl
 i146 := by kernel_rfl
 m1 := by kernel_rfl
 s1_3 := fun w h => Go.Proofs.cell_of_shapedOpen_int (zero := #[.int .i64 0]) (t := 3) h (of_decide_eq_true (by kernel_rfl)) (by kernel_rfl) rfl (by kernel_rfl) (by kernel_rfl) Tryd.underlying3 }
open Go.RowKit Go.Lib in
theorem Tryd.strings_Cut_shaped (s sep : ByteArray) (w : World) (h : w.ShapedOpen Tryd.prog) (hs : s.size < 4294967281) :
  Calls Tryd.prog 28 #[.string s, .string sep] w fun e w' => e = .returned (.tuple #[.string ⟨(Lib.cut s.data.toList sep.data.toList).1.toArray⟩, .string ⟨(Lib.cut s.data.toList sep.data.toList).2.1.toArray⟩, .bool (Lib.cut s.data.toList sep.data.toList).2.2]) ∧ ∃ n, w' = w.drewN n := Any.strings_Cut_shaped Tryd.laysM145 s sep w h hs
def Tryd.laysM138_ren : Go.Shelf.Ren := ⟨fun | 138 => 57 | 195 => 77 | 218 => 78 | 143 => 29 | 219 => 49 | 217 => 62 | 225 => 63 | 224 => 64 | 267 => 65 | 266 => 81 | 314 => 82 | n => n, fun | 9 => 9 | 3 => 3 | 4 => 4 | 5 => 5 | 0 => 0 | 46 => 104 | 146 => 113 | 51 => 112 | n => n, fun | 1 => 1 | n => n⟩
theorem Tryd.laysM138 : Go.Proofs.LaysM.n138 Tryd.prog Tryd.laysM138_ren := {
 mixed := by kernel_rfl
 f138 := Tryd.func57.trans (congrArg some (by kernel_rfl))
 f143 := Tryd.func29.trans (congrArg some (by kernel_rfl))
 f195 := Tryd.func77.trans (congrArg some (by kernel_rfl))
 f217 := Tryd.func62.trans (congrArg some (by kernel_rfl))
 f218 := Tryd.func78.trans (congrArg some (by kernel_rfl))
 f219 := Tryd.func49.trans (congrArg some (by kernel_rfl))
 f224 := Tryd.func64.trans (congrArg some (by kernel_rfl))
 f225 := Tryd.func63.trans (congrArg some (by kernel_rfl))
 f266 := Tryd.func81.trans (congrArg some (by kernel_rfl))
 f267 := Tryd.func65.trans (congrArg some (by kernel_rfl))
 f314 := Tryd.func82.trans (congrArg some (by kernel_rfl))
 t0 := Tryd.underlying0
 a0 := Tryd.isAgg0
 z0 := Tryd.sizeOf0
 v0 := Tryd.zeroValue0
 t3 := Tryd.underlying3
 a3 := Tryd.isAgg3
 z3 := Tryd.sizeOf3
 v3 := Tryd.zeroValue3
 t4 := Tryd.underlying4
 a4 := Tryd.isAgg4
 z4 := Tryd.sizeOf4
 v4 := Tryd.zeroValue4
 t5 := Tryd.underlying5
 a5 := Tryd.isAgg5
 z5 := Tryd.sizeOf5
 v5 := Tryd.zeroValue5
 t9 := Tryd.underlying9
 a9 := Tryd.isAgg9
 z9 := Tryd.sizeOf9
 v9 := Tryd.zeroValue9
 t46 := Tryd.underlying104
 a46 := Tryd.isAgg104
 z46 := Tryd.sizeOf104
 v46 := Tryd.zeroValue104
 t51 := Tryd.underlying112
 a51 := Tryd.isAgg112
 z51 := Tryd.sizeOf112
 v51 := Tryd.zeroValue112
 t146 := Tryd.underlying113
 a146 := Tryd.isAgg113
 z146 := Tryd.sizeOf113
 v146 := Tryd.zeroValue113
 g1 := by kernel_rfl
 i0 := by kernel_rfl
 i3 := by kernel_rfl
 i4 := by kernel_rfl
 i5 := by kernel_rfl
 i9 := by kernel_rfl
 i46 := by kernel_rfl
 i51 := by kernel_rfl
 i146 := by kernel_rfl
 m1 := by kernel_rfl
 s1_3 := fun w h => Go.Proofs.cell_of_shapedOpen_int (zero := #[.int .i64 0]) (t := 3) h (of_decide_eq_true (by kernel_rfl)) (by kernel_rfl) rfl (by kernel_rfl) (by kernel_rfl) Tryd.underlying3 }
open Go.RowKit Go.Lib in
theorem Tryd.strings_Count_shaped (s sub : ByteArray) (w : World) (h : w.ShapedOpen Tryd.prog) (hs : s.size < 4294967281) (h2 : 2 ≤ sub.size) :
  Calls Tryd.prog 57 #[.string s, .string sub] w fun e w' => e = .returned (.int .i64 (Lib.countB s sub)) ∧ w' = w := Any.strings_Count_shaped Tryd.laysM138 s sub w h hs h2
def Tryd.lays206_ren : Go.Shelf.Ren := ⟨fun | 206 => 46 | n => n, fun | 9 => 9 | 4 => 4 | 3 => 3 | n => n, fun | n => n⟩
theorem Tryd.lays206 : Go.Proofs.Lays.n206 Tryd.prog Tryd.lays206_ren := {
 mixed := by kernel_rfl
 f206 := Tryd.func46.trans (congrArg some (by kernel_rfl))
 t3 := Tryd.underlying3
 a3 := Tryd.isAgg3
 z3 := Tryd.sizeOf3
 v3 := Tryd.zeroValue3
 t4 := Tryd.underlying4
 a4 := Tryd.isAgg4
 z4 := Tryd.sizeOf4
 v4 := Tryd.zeroValue4
 t9 := Tryd.underlying9
 a9 := Tryd.isAgg9
 z9 := Tryd.sizeOf9
 v9 := Tryd.zeroValue9 }
open Go.RowKit Go.Lib in
theorem Tryd.stringslite_HasPrefix (s p : ByteArray) (w : World) :
  Calls Tryd.prog 46 #[.string s, .string p] w fun e w' => e = .returned (.bool (Lib.hasPrefix s.data.toList p.data.toList)) ∧ w' = w := Any.stringslite_HasPrefix Tryd.lays206 s p w
def Tryd.lays99_ren : Go.Shelf.Ren := ⟨fun | 99 => 25 | 206 => 46 | n => n, fun | 9 => 9 | 4 => 4 | 3 => 3 | n => n, fun | n => n⟩
theorem Tryd.lays99 : Go.Proofs.Lays.n99 Tryd.prog Tryd.lays99_ren := {
 mixed := by kernel_rfl
 f99 := Tryd.func25.trans (congrArg some (by kernel_rfl))
 f206 := Tryd.func46.trans (congrArg some (by kernel_rfl))
 t3 := Tryd.underlying3
 a3 := Tryd.isAgg3
 z3 := Tryd.sizeOf3
 v3 := Tryd.zeroValue3
 t4 := Tryd.underlying4
 a4 := Tryd.isAgg4
 z4 := Tryd.sizeOf4
 v4 := Tryd.zeroValue4
 t9 := Tryd.underlying9
 a9 := Tryd.isAgg9
 z9 := Tryd.sizeOf9
 v9 := Tryd.zeroValue9 }
open Go.RowKit Go.Lib in
theorem Tryd.strings_HasPrefix (s p : ByteArray) (w : World) :
  Calls Tryd.prog 25 #[.string s, .string p] w fun e w' => e = .returned (.bool (Lib.hasPrefix s.data.toList p.data.toList)) ∧ w' = w := Any.strings_HasPrefix Tryd.lays99 s p w
def Tryd.lays207_ren : Go.Shelf.Ren := ⟨fun | 207 => 66 | n => n, fun | 9 => 9 | 4 => 4 | 3 => 3 | n => n, fun | n => n⟩
theorem Tryd.lays207 : Go.Proofs.Lays.n207 Tryd.prog Tryd.lays207_ren := {
 mixed := by kernel_rfl
 f207 := Tryd.func66.trans (congrArg some (by kernel_rfl))
 t3 := Tryd.underlying3
 a3 := Tryd.isAgg3
 z3 := Tryd.sizeOf3
 v3 := Tryd.zeroValue3
 t4 := Tryd.underlying4
 a4 := Tryd.isAgg4
 z4 := Tryd.sizeOf4
 v4 := Tryd.zeroValue4
 t9 := Tryd.underlying9
 a9 := Tryd.isAgg9
 z9 := Tryd.sizeOf9
 v9 := Tryd.zeroValue9 }
open Go.RowKit Go.Lib in
theorem Tryd.stringslite_HasSuffix (s p : ByteArray) (w : World) (hs : s.size ≤ 9223372036854775807) :
  Calls Tryd.prog 66 #[.string s, .string p] w fun e w' => e = .returned (.bool (Lib.hasSuffix s.data.toList p.data.toList)) ∧ w' = w := Any.stringslite_HasSuffix Tryd.lays207 s p w hs
def Tryd.lays209_ren : Go.Shelf.Ren := ⟨fun | 209 => 50 | 207 => 66 | n => n, fun | 9 => 9 | 4 => 4 | 3 => 3 | n => n, fun | n => n⟩
theorem Tryd.lays209 : Go.Proofs.Lays.n209 Tryd.prog Tryd.lays209_ren := {
 mixed := by kernel_rfl
 f207 := Tryd.func66.trans (congrArg some (by kernel_rfl))
 f209 := Tryd.func50.trans (congrArg some (by kernel_rfl))
 t3 := Tryd.underlying3
 a3 := Tryd.isAgg3
 z3 := Tryd.sizeOf3
 v3 := Tryd.zeroValue3
 t4 := Tryd.underlying4
 a4 := Tryd.isAgg4
 z4 := Tryd.sizeOf4
 v4 := Tryd.zeroValue4
 t9 := Tryd.underlying9
 a9 := Tryd.isAgg9
 z9 := Tryd.sizeOf9
 v9 := Tryd.zeroValue9 }
open Go.RowKit Go.Lib in
theorem Tryd.stringslite_TrimSuffix (s p : ByteArray) (w : World) (hs : s.size ≤ 9223372036854775807) :
  Calls Tryd.prog 50 #[.string s, .string p] w fun e w' => e = .returned (.string ⟨(Lib.trimSuffix s.data.toList p.data.toList).toArray⟩) ∧ w' = w := Any.stringslite_TrimSuffix Tryd.lays209 s p w hs
def Tryd.lays102_ren : Go.Shelf.Ren := ⟨fun | 102 => 30 | 209 => 50 | 207 => 66 | n => n, fun | 9 => 9 | 4 => 4 | 3 => 3 | n => n, fun | n => n⟩
theorem Tryd.lays102 : Go.Proofs.Lays.n102 Tryd.prog Tryd.lays102_ren := {
 mixed := by kernel_rfl
 f102 := Tryd.func30.trans (congrArg some (by kernel_rfl))
 f207 := Tryd.func66.trans (congrArg some (by kernel_rfl))
 f209 := Tryd.func50.trans (congrArg some (by kernel_rfl))
 t3 := Tryd.underlying3
 a3 := Tryd.isAgg3
 z3 := Tryd.sizeOf3
 v3 := Tryd.zeroValue3
 t4 := Tryd.underlying4
 a4 := Tryd.isAgg4
 z4 := Tryd.sizeOf4
 v4 := Tryd.zeroValue4
 t9 := Tryd.underlying9
 a9 := Tryd.isAgg9
 z9 := Tryd.sizeOf9
 v9 := Tryd.zeroValue9 }
open Go.RowKit Go.Lib in
theorem Tryd.strings_TrimSuffix (s p : ByteArray) (w : World) (hs : s.size ≤ 9223372036854775807) :
  Calls Tryd.prog 30 #[.string s, .string p] w fun e w' => e = .returned (.string ⟨(Lib.trimSuffix s.data.toList p.data.toList).toArray⟩) ∧ w' = w := Any.strings_TrimSuffix Tryd.lays102 s p w hs
open Go.RowKit Go.Lib in
theorem Tryd.strings_Count_any (s sep : ByteArray) (m : Int) (w : World) (hs : s.size < 4294967281) (hm : w.cell? ⟨1, 0, none⟩ = some (.int .i64 m)) (h1 : 1 ≤ sep.size) :
  Calls Tryd.prog 57 #[.string s, .string sep] w fun e w' => e = .returned (.int .i64 (Lib.countB s sep)) ∧ w' = w := Any.strings_Count_any Tryd.lays138 s sep m w hs hm h1
def Tryd.lays221_ren : Go.Shelf.Ren := ⟨fun | 221 => 37 | 268 => 56 | 138 => 57 | 143 => 29 | 195 => 77 | 197 => 59 | 218 => 78 | 219 => 49 | 260 => 79 | 217 => 62 | 225 => 63 | 224 => 64 | 267 => 65 | 266 => 81 | 314 => 82 | n => n, fun | 9 => 9 | 3 => 3 | 31 => 66 | 4 => 4 | 0 => 0 | 105 => 99 | 21 => 21 | 5 => 5 | 46 => 104 | 119 => 121 | 139 => 124 | 138 => 123 | 146 => 113 | 51 => 112 | n => n, fun | 1 => 1 | 3 => 4 | 4 => 5 | n => n⟩
theorem Tryd.lays221 : Go.Proofs.Lays.n221 Tryd.prog Tryd.lays221_ren := {
 mixed := by kernel_rfl
 f138 := Tryd.func57.trans (congrArg some (by kernel_rfl))
 f143 := Tryd.func29.trans (congrArg some (by kernel_rfl))
 f195 := Tryd.func77.trans (congrArg some (by kernel_rfl))
 f197 := Tryd.func59.trans (congrArg some (by kernel_rfl))
 f217 := Tryd.func62.trans (congrArg some (by kernel_rfl))
 f218 := Tryd.func78.trans (congrArg some (by kernel_rfl))
 f219 := Tryd.func49.trans (congrArg some (by kernel_rfl))
 f221 := Tryd.func37.trans (congrArg some (by kernel_rfl))
 f224 := Tryd.func64.trans (congrArg some (by kernel_rfl))
 f225 := Tryd.func63.trans (congrArg some (by kernel_rfl))
 f260 := Tryd.func79.trans (congrArg some (by kernel_rfl))
 f266 := Tryd.func81.trans (congrArg some (by kernel_rfl))
 f267 := Tryd.func65.trans (congrArg some (by kernel_rfl))
 f268 := Tryd.func56.trans (congrArg some (by kernel_rfl))
 f314 := Tryd.func82.trans (congrArg some (by kernel_rfl))
 t0 := Tryd.underlying0
 a0 := Tryd.isAgg0
 z0 := Tryd.sizeOf0
 v0 := Tryd.zeroValue0
 t3 := Tryd.underlying3
 a3 := Tryd.isAgg3
 z3 := Tryd.sizeOf3
 v3 := Tryd.zeroValue3
 t4 := Tryd.underlying4
 a4 := Tryd.isAgg4
 z4 := Tryd.sizeOf4
 v4 := Tryd.zeroValue4
 t5 := Tryd.underlying5
 a5 := Tryd.isAgg5
 z5 := Tryd.sizeOf5
 v5 := Tryd.zeroValue5
 t9 := Tryd.underlying9
 a9 := Tryd.isAgg9
 z9 := Tryd.sizeOf9
 v9 := Tryd.zeroValue9
 t21 := Tryd.underlying21
 a21 := Tryd.isAgg21
 z21 := Tryd.sizeOf21
 v21 := Tryd.zeroValue21
 t31 := Tryd.underlying66
 a31 := Tryd.isAgg66
 z31 := Tryd.sizeOf66
 v31 := Tryd.zeroValue66
 t46 := Tryd.underlying104
 a46 := Tryd.isAgg104
 z46 := Tryd.sizeOf104
 v46 := Tryd.zeroValue104
 t51 := Tryd.underlying112
 a51 := Tryd.isAgg112
 z51 := Tryd.sizeOf112
 v51 := Tryd.zeroValue112
 t105 := Tryd.underlying99
 a105 := Tryd.isAgg99
 z105 := Tryd.sizeOf99
 v105 := Tryd.zeroValue99
 t119 := Tryd.underlying121
 a119 := Tryd.isAgg121
 z119 := Tryd.sizeOf121
 t138 := Tryd.underlying123
 a138 := Tryd.isAgg123
 z138 := Tryd.sizeOf123
 v138 := Tryd.zeroValue123
 t139 := Tryd.underlying124
 a139 := Tryd.isAgg124
 z139 := Tryd.sizeOf124
 v139 := Tryd.zeroValue124
 t146 := Tryd.underlying113
 a146 := Tryd.isAgg113
 z146 := Tryd.sizeOf113
 v146 := Tryd.zeroValue113
 g1 := by kernel_rfl
 g3 := by kernel_rfl
 g4 := by kernel_rfl }
open Go.RowKit Go.Lib in
theorem Tryd.strings_genSplit (s sep : ByteArray) (sv : Nat) (n : Int) (N : Nat) (m : Int) (w : World) (hs : s.size < 4294967281) (hm : w.cell? ⟨1, 0, none⟩ = some (.int .i64 m)) (h1 : 1 ≤ sep.size) (hsv : sv ≤ sep.size) (hn0 : n ≠ 0) (hn63 : n ≤ 9223372036854775807) (hN : (N : Int) = min (if n < 0 then (Lib.countB s sep : Int) + 1 else n) ((s.size : Int) + 1)) :
  Calls Tryd.prog 37 #[.string s, .string sep, .int .i64 sv, .int .i64 n] w fun e w' =>
   e = .returned (.slice (some ⟨w.heap.size, 0, none⟩) (Lib.splitB sep sv (N - 1) s).length N) ∧ w' = w.alloc (.cells (Lib.cellsOf (Lib.splitB sep sv (N - 1) s) N) 9) := Any.strings_genSplit Tryd.lays221 (by kernel_rfl) s sep sv n N m w hs hm h1 hsv hn0 hn63 hN
def Tryd.lays146_ren : Go.Shelf.Ren := ⟨fun | 146 => 22 | 221 => 37 | 268 => 56 | 138 => 57 | 143 => 29 | 195 => 77 | 197 => 59 | 218 => 78 | 219 => 49 | 260 => 79 | 217 => 62 | 225 => 63 | 224 => 64 | 267 => 65 | 266 => 81 | 314 => 82 | n => n, fun | 9 => 9 | 31 => 66 | 3 => 3 | 4 => 4 | 0 => 0 | 105 => 99 | 21 => 21 | 5 => 5 | 46 => 104 | 119 => 121 | 139 => 124 | 138 => 123 | 146 => 113 | 51 => 112 | n => n, fun | 1 => 1 | 3 => 4 | 4 => 5 | n => n⟩
theorem Tryd.lays146 : Go.Proofs.Lays.n146 Tryd.prog Tryd.lays146_ren := {
 mixed := by kernel_rfl
 f138 := Tryd.func57.trans (congrArg some (by kernel_rfl))
 f143 := Tryd.func29.trans (congrArg some (by kernel_rfl))
 f146 := Tryd.func22.trans (congrArg some (by kernel_rfl))
 f195 := Tryd.func77.trans (congrArg some (by kernel_rfl))
 f197 := Tryd.func59.trans (congrArg some (by kernel_rfl))
 f217 := Tryd.func62.trans (congrArg some (by kernel_rfl))
 f218 := Tryd.func78.trans (congrArg some (by kernel_rfl))
 f219 := Tryd.func49.trans (congrArg some (by kernel_rfl))
 f221 := Tryd.func37.trans (congrArg some (by kernel_rfl))
 f224 := Tryd.func64.trans (congrArg some (by kernel_rfl))
 f225 := Tryd.func63.trans (congrArg some (by kernel_rfl))
 f260 := Tryd.func79.trans (congrArg some (by kernel_rfl))
 f266 := Tryd.func81.trans (congrArg some (by kernel_rfl))
 f267 := Tryd.func65.trans (congrArg some (by kernel_rfl))
 f268 := Tryd.func56.trans (congrArg some (by kernel_rfl))
 f314 := Tryd.func82.trans (congrArg some (by kernel_rfl))
 t0 := Tryd.underlying0
 a0 := Tryd.isAgg0
 z0 := Tryd.sizeOf0
 v0 := Tryd.zeroValue0
 t3 := Tryd.underlying3
 a3 := Tryd.isAgg3
 z3 := Tryd.sizeOf3
 v3 := Tryd.zeroValue3
 t4 := Tryd.underlying4
 a4 := Tryd.isAgg4
 z4 := Tryd.sizeOf4
 v4 := Tryd.zeroValue4
 t5 := Tryd.underlying5
 a5 := Tryd.isAgg5
 z5 := Tryd.sizeOf5
 v5 := Tryd.zeroValue5
 t9 := Tryd.underlying9
 a9 := Tryd.isAgg9
 z9 := Tryd.sizeOf9
 v9 := Tryd.zeroValue9
 t21 := Tryd.underlying21
 a21 := Tryd.isAgg21
 z21 := Tryd.sizeOf21
 v21 := Tryd.zeroValue21
 t31 := Tryd.underlying66
 a31 := Tryd.isAgg66
 z31 := Tryd.sizeOf66
 v31 := Tryd.zeroValue66
 t46 := Tryd.underlying104
 a46 := Tryd.isAgg104
 z46 := Tryd.sizeOf104
 v46 := Tryd.zeroValue104
 t51 := Tryd.underlying112
 a51 := Tryd.isAgg112
 z51 := Tryd.sizeOf112
 v51 := Tryd.zeroValue112
 t105 := Tryd.underlying99
 a105 := Tryd.isAgg99
 z105 := Tryd.sizeOf99
 v105 := Tryd.zeroValue99
 t119 := Tryd.underlying121
 a119 := Tryd.isAgg121
 z119 := Tryd.sizeOf121
 t138 := Tryd.underlying123
 a138 := Tryd.isAgg123
 z138 := Tryd.sizeOf123
 v138 := Tryd.zeroValue123
 t139 := Tryd.underlying124
 a139 := Tryd.isAgg124
 z139 := Tryd.sizeOf124
 v139 := Tryd.zeroValue124
 t146 := Tryd.underlying113
 a146 := Tryd.isAgg113
 z146 := Tryd.sizeOf113
 v146 := Tryd.zeroValue113
 g1 := by kernel_rfl
 g3 := by kernel_rfl
 g4 := by kernel_rfl }
open Go.RowKit Go.Lib in
theorem Tryd.strings_Split (s sep : ByteArray) (m : Int) (w : World) (hs : s.size < 4294967281) (hm : w.cell? ⟨1, 0, none⟩ = some (.int .i64 m)) (h1 : 1 ≤ sep.size) :
  Calls Tryd.prog 22 #[.string s, .string sep] w fun e w' =>
   e = .returned (.slice (some ⟨w.heap.size, 0, none⟩) (Lib.countB s sep + 1) (Lib.countB s sep + 1)) ∧ w' = w.alloc (.cells ((Lib.splitB sep 0 (Lib.countB s sep) s).map Value.string).toArray 9) := Any.strings_Split Tryd.lays146 (by kernel_rfl) s sep m w hs hm h1
def Tryd.lays152_ren : Go.Shelf.Ren := ⟨fun | 152 => 67 | 137 => 69 | 119 => 83 | 224 => 64 | 225 => 63 | 217 => 62 | 266 => 81 | n => n, fun | 9 => 9 | 21 => 21 | 3 => 3 | 4 => 4 | 5 => 5 | 0 => 0 | 46 => 104 | n => n, fun | n => n⟩
theorem Tryd.lays152 : Go.Proofs.Lays.n152 Tryd.prog Tryd.lays152_ren := {
 mixed := by kernel_rfl
 f119 := Tryd.func83.trans (congrArg some (by kernel_rfl))
 f137 := Tryd.func69.trans (congrArg some (by kernel_rfl))
 f152 := Tryd.func67.trans (congrArg some (by kernel_rfl))
 f217 := Tryd.func62.trans (congrArg some (by kernel_rfl))
 f224 := Tryd.func64.trans (congrArg some (by kernel_rfl))
 f225 := Tryd.func63.trans (congrArg some (by kernel_rfl))
 f266 := Tryd.func81.trans (congrArg some (by kernel_rfl))
 t0 := Tryd.underlying0
 a0 := Tryd.isAgg0
 z0 := Tryd.sizeOf0
 v0 := Tryd.zeroValue0
 t3 := Tryd.underlying3
 a3 := Tryd.isAgg3
 z3 := Tryd.sizeOf3
 v3 := Tryd.zeroValue3
 t4 := Tryd.underlying4
 a4 := Tryd.isAgg4
 z4 := Tryd.sizeOf4
 v4 := Tryd.zeroValue4
 t5 := Tryd.underlying5
 a5 := Tryd.isAgg5
 z5 := Tryd.sizeOf5
 v5 := Tryd.zeroValue5
 t9 := Tryd.underlying9
 a9 := Tryd.isAgg9
 z9 := Tryd.sizeOf9
 v9 := Tryd.zeroValue9
 t21 := Tryd.underlying21
 a21 := Tryd.isAgg21
 z21 := Tryd.sizeOf21
 v21 := Tryd.zeroValue21
 t46 := Tryd.underlying104
 a46 := Tryd.isAgg104
 z46 := Tryd.sizeOf104
 v46 := Tryd.zeroValue104 }
open Go.RowKit Go.Lib in
theorem Tryd.strings_IndexRune_ascii (s : ByteArray) (r : Int) (w : World) (h0 : 0 ≤ r) (h1 : r < 128) :
  Calls Tryd.prog 67 #[.string s, .int .i32 r] w fun e w' => e = .returned (.int .i64 (Lib.indexByte s.data.toList r.toNat.toUInt8)) ∧ w' = w := Any.strings_IndexRune_ascii Tryd.lays152 s r w h0 h1
def Tryd.lays151_ren : Go.Shelf.Ren := ⟨fun | 151 => 60 | 152 => 67 | 137 => 69 | 119 => 83 | 224 => 64 | 225 => 63 | 217 => 62 | 266 => 81 | n => n, fun | 9 => 9 | 21 => 21 | 4 => 4 | 3 => 3 | 5 => 5 | 0 => 0 | 46 => 104 | n => n, fun | n => n⟩
theorem Tryd.lays151 : Go.Proofs.Lays.n151 Tryd.prog Tryd.lays151_ren := {
 mixed := by kernel_rfl
 f119 := Tryd.func83.trans (congrArg some (by kernel_rfl))
 f137 := Tryd.func69.trans (congrArg some (by kernel_rfl))
 f151 := Tryd.func60.trans (congrArg some (by kernel_rfl))
 f152 := Tryd.func67.trans (congrArg some (by kernel_rfl))
 f217 := Tryd.func62.trans (congrArg some (by kernel_rfl))
 f224 := Tryd.func64.trans (congrArg some (by kernel_rfl))
 f225 := Tryd.func63.trans (congrArg some (by kernel_rfl))
 f266 := Tryd.func81.trans (congrArg some (by kernel_rfl))
 t0 := Tryd.underlying0
 a0 := Tryd.isAgg0
 z0 := Tryd.sizeOf0
 v0 := Tryd.zeroValue0
 t3 := Tryd.underlying3
 a3 := Tryd.isAgg3
 z3 := Tryd.sizeOf3
 v3 := Tryd.zeroValue3
 t4 := Tryd.underlying4
 a4 := Tryd.isAgg4
 z4 := Tryd.sizeOf4
 v4 := Tryd.zeroValue4
 t5 := Tryd.underlying5
 a5 := Tryd.isAgg5
 z5 := Tryd.sizeOf5
 v5 := Tryd.zeroValue5
 t9 := Tryd.underlying9
 a9 := Tryd.isAgg9
 z9 := Tryd.sizeOf9
 v9 := Tryd.zeroValue9
 t21 := Tryd.underlying21
 a21 := Tryd.isAgg21
 z21 := Tryd.sizeOf21
 v21 := Tryd.zeroValue21
 t46 := Tryd.underlying104
 a46 := Tryd.isAgg104
 z46 := Tryd.sizeOf104
 v46 := Tryd.zeroValue104 }
open Go.RowKit Go.Lib in
theorem Tryd.strings_ContainsRune_ascii (s : ByteArray) (r : Int) (w : World) (h0 : 0 ≤ r) (h1 : r < 128) :
  Calls Tryd.prog 60 #[.string s, .int .i32 r] w fun e w' => e = .returned (.bool (decide (0 ≤ Lib.indexByte s.data.toList r.toNat.toUInt8))) ∧ w' = w := Any.strings_ContainsRune_ascii Tryd.lays151 s r w h0 h1
def Tryd.lays226_ren : Go.Shelf.Ren := ⟨fun | 226 => 68 | n => n, fun | 3 => 3 | 4 => 4 | n => n, fun | n => n⟩
theorem Tryd.lays226 : Go.Proofs.Lays.n226 Tryd.prog Tryd.lays226_ren := {
 mixed := by kernel_rfl
 f226 := Tryd.func68.trans (congrArg some (by kernel_rfl))
 t3 := Tryd.underlying3
 a3 := Tryd.isAgg3
 z3 := Tryd.sizeOf3
 v3 := Tryd.zeroValue3
 t4 := Tryd.underlying4
 a4 := Tryd.isAgg4
 z4 := Tryd.sizeOf4
 v4 := Tryd.zeroValue4 }
open Go.RowKit Go.Lib in
theorem Tryd.strings_shouldUseASCIISet (n : Int) (w : World) :
  Calls Tryd.prog 68 #[.int .i64 n] w fun e w' => e = .returned (.bool (decide (8 < n))) ∧ w' = w := Any.strings_shouldUseASCIISet Tryd.lays226 n w
def Tryd.lays153_ren : Go.Shelf.Ren := ⟨fun | 153 => 51 | 152 => 67 | 226 => 68 | 227 => 41 | 228 => 58 | 137 => 69 | 119 => 83 | 224 => 64 | 225 => 63 | 217 => 62 | 266 => 81 | n => n, fun | 9 => 9 | 3 => 3 | 4 => 4 | 5 => 5 | 21 => 21 | 117 => 88 | 116 => 87 | 0 => 0 | 46 => 104 | 124 => 91 | n => n, fun | n => n⟩
theorem Tryd.lays153 : Go.Proofs.Lays.n153 Tryd.prog Tryd.lays153_ren := {
 mixed := by kernel_rfl
 f119 := Tryd.func83.trans (congrArg some (by kernel_rfl))
 f137 := Tryd.func69.trans (congrArg some (by kernel_rfl))
 f152 := Tryd.func67.trans (congrArg some (by kernel_rfl))
 f153 := Tryd.func51.trans (congrArg some (by kernel_rfl))
 f217 := Tryd.func62.trans (congrArg some (by kernel_rfl))
 f224 := Tryd.func64.trans (congrArg some (by kernel_rfl))
 f225 := Tryd.func63.trans (congrArg some (by kernel_rfl))
 f226 := Tryd.func68.trans (congrArg some (by kernel_rfl))
 f227 := Tryd.func41.trans (congrArg some (by kernel_rfl))
 f228 := Tryd.func58.trans (congrArg some (by kernel_rfl))
 f266 := Tryd.func81.trans (congrArg some (by kernel_rfl))
 t0 := Tryd.underlying0
 a0 := Tryd.isAgg0
 z0 := Tryd.sizeOf0
 v0 := Tryd.zeroValue0
 t3 := Tryd.underlying3
 a3 := Tryd.isAgg3
 z3 := Tryd.sizeOf3
 v3 := Tryd.zeroValue3
 t4 := Tryd.underlying4
 a4 := Tryd.isAgg4
 z4 := Tryd.sizeOf4
 v4 := Tryd.zeroValue4
 t5 := Tryd.underlying5
 a5 := Tryd.isAgg5
 z5 := Tryd.sizeOf5
 v5 := Tryd.zeroValue5
 t9 := Tryd.underlying9
 a9 := Tryd.isAgg9
 z9 := Tryd.sizeOf9
 v9 := Tryd.zeroValue9
 t21 := Tryd.underlying21
 a21 := Tryd.isAgg21
 z21 := Tryd.sizeOf21
 v21 := Tryd.zeroValue21
 t46 := Tryd.underlying104
 a46 := Tryd.isAgg104
 z46 := Tryd.sizeOf104
 v46 := Tryd.zeroValue104
 t116 := Tryd.underlying87
 a116 := Tryd.isAgg87
 z116 := Tryd.sizeOf87
 t117 := Tryd.underlying88
 a117 := Tryd.isAgg88
 z117 := Tryd.sizeOf88
 v117 := Tryd.zeroValue88
 t124 := Tryd.underlying91
 a124 := Tryd.isAgg91
 z124 := Tryd.sizeOf91
 v124 := Tryd.zeroValue91 }
open Go.RowKit Go.Lib in
theorem Tryd.strings_IndexAny_none (s chars : ByteArray) (w : World) (h0 : chars.size = 0) :
  Calls Tryd.prog 51 #[.string s, .string chars] w fun e w' => e = .returned (.int .i64 (Lib.indexAny s.data.toList chars.data.toList)) ∧ w' = w := Any.strings_IndexAny_none Tryd.lays153 s chars w h0
open Go.RowKit Go.Lib in
theorem Tryd.strings_IndexAny_one (s chars : ByteArray) (w : World) (h1 : chars.size = 1) (hascii : ∀ (j : Nat) b, chars.data.toList[j]? = some b → b.toNat < 128) :
  Calls Tryd.prog 51 #[.string s, .string chars] w fun e w' => e = .returned (.int .i64 (Lib.indexAny s.data.toList chars.data.toList)) ∧ w' = w := Any.strings_IndexAny_one Tryd.lays153 s chars w h1 hascii
open Go.RowKit Go.Lib in
theorem Tryd.strings_IndexAny_short (s chars : ByteArray) (w : World) (h2 : 2 ≤ chars.size) (h8 : s.size ≤ 8) (hascii : ∀ (j : Nat) b, s.data.toList[j]? = some b → b.toNat < 128) :
  Calls Tryd.prog 51 #[.string s, .string chars] w fun e w' => e = .returned (.int .i64 (Lib.indexAny s.data.toList chars.data.toList)) ∧ ∃ pos, w' = w.iter s pos := Any.strings_IndexAny_short Tryd.lays153 s chars w h2 h8 hascii
def Tryd.lays227_ren : Go.Shelf.Ren := ⟨fun | 227 => 41 | n => n, fun | 9 => 9 | 116 => 87 | 4 => 4 | 0 => 0 | 3 => 3 | 5 => 5 | n => n, fun | n => n⟩
theorem Tryd.lays227 : Go.Proofs.Lays.n227 Tryd.prog Tryd.lays227_ren := {
 mixed := by kernel_rfl
 f227 := Tryd.func41.trans (congrArg some (by kernel_rfl))
 t0 := Tryd.underlying0
 a0 := Tryd.isAgg0
 z0 := Tryd.sizeOf0
 v0 := Tryd.zeroValue0
 t3 := Tryd.underlying3
 a3 := Tryd.isAgg3
 z3 := Tryd.sizeOf3
 v3 := Tryd.zeroValue3
 t4 := Tryd.underlying4
 a4 := Tryd.isAgg4
 z4 := Tryd.sizeOf4
 v4 := Tryd.zeroValue4
 t5 := Tryd.underlying5
 a5 := Tryd.isAgg5
 z5 := Tryd.sizeOf5
 v5 := Tryd.zeroValue5
 t9 := Tryd.underlying9
 a9 := Tryd.isAgg9
 z9 := Tryd.sizeOf9
 v9 := Tryd.zeroValue9
 t116 := Tryd.underlying87
 a116 := Tryd.isAgg87
 z116 := Tryd.sizeOf87 }
open Go.RowKit Go.Lib in
theorem Tryd.strings_makeASCIISet (hv116 : ∀ w, (zeroValue 87).run Tryd.prog w = .ok (.agg (Array.replicate 256 (.bool false))) w) (chars : ByteArray) (w : World) (hs : chars.size < 4294967281) (hascii : ∀ (j : Nat) b, chars.data.toList[j]? = some b → b.toNat < 128) :
  Calls Tryd.prog 41 #[.string chars] w fun e w' => e = .returned (.tuple #[.agg (Lib.setCells chars.data.toList), .bool true]) ∧ w' = w.alloc (.cells (Lib.setCells chars.data.toList) 87) := Any.strings_makeASCIISet Tryd.lays227 hv116 (by kernel_rfl) chars w hs hascii
def Tryd.lays228_ren : Go.Shelf.Ren := ⟨fun | 228 => 58 | n => n, fun | 124 => 91 | 5 => 5 | 4 => 4 | 0 => 0 | 116 => 87 | n => n, fun | n => n⟩
theorem Tryd.lays228 : Go.Proofs.Lays.n228 Tryd.prog Tryd.lays228_ren := {
 mixed := by kernel_rfl
 f228 := Tryd.func58.trans (congrArg some (by kernel_rfl))
 t0 := Tryd.underlying0
 a0 := Tryd.isAgg0
 z0 := Tryd.sizeOf0
 v0 := Tryd.zeroValue0
 t4 := Tryd.underlying4
 a4 := Tryd.isAgg4
 z4 := Tryd.sizeOf4
 v4 := Tryd.zeroValue4
 t5 := Tryd.underlying5
 a5 := Tryd.isAgg5
 z5 := Tryd.sizeOf5
 v5 := Tryd.zeroValue5
 t116 := Tryd.underlying87
 a116 := Tryd.isAgg87
 z116 := Tryd.sizeOf87
 t124 := Tryd.underlying91
 a124 := Tryd.isAgg91
 z124 := Tryd.sizeOf91
 v124 := Tryd.zeroValue91 }
open Go.RowKit Go.Lib in
theorem Tryd.asciiSet_contains (b : Nat) (x : UInt8) (v : Bool) (w : World) (hc : w.cell? ⟨b, x.toNat, none⟩ = some (.bool v)) :
  Calls Tryd.prog 58 #[.pointer (some ⟨b, 0, none⟩), .int .u8 x.toNat] w fun e w' => e = .returned (.bool v) ∧ w' = w := Any.asciiSet_contains Tryd.lays228 b x v w hc
open Go.RowKit Go.Lib in
theorem Tryd.strings_IndexAny_long (hv116 : ∀ w, (zeroValue 87).run Tryd.prog w = .ok (.agg (Array.replicate 256 (.bool false))) w) (s chars : ByteArray) (w : World) (h2 : 2 ≤ chars.size) (h8 : 8 < s.size) (hs : s.size < 4294967281) (hcs : chars.size < 4294967281) (hascii : ∀ (j : Nat) b, chars.data.toList[j]? = some b → b.toNat < 128) :
  Calls Tryd.prog 51 #[.string s, .string chars] w fun e w' => e = .returned (.int .i64 (Lib.indexAny s.data.toList chars.data.toList)) ∧ w' = ((w.alloc (.cells (Lib.setCells chars.data.toList) 87)).alloc (.cells (Lib.setCells chars.data.toList) 87)) := Any.strings_IndexAny_long Tryd.lays153 hv116 (by kernel_rfl) s chars w h2 h8 hs hcs hascii
open Go.RowKit Go.Lib in
theorem Tryd.strings_IndexAny (hv116 : ∀ w, (zeroValue 87).run Tryd.prog w = .ok (.agg (Array.replicate 256 (.bool false))) w) (s chars : ByteArray) (w : World) (hs : s.size < 4294967281) (hcs : chars.size < 4294967281) (has : ∀ (j : Nat) b, s.data.toList[j]? = some b → b.toNat < 128) (hac : ∀ (j : Nat) b, chars.data.toList[j]? = some b → b.toNat < 128) :
  Calls Tryd.prog 51 #[.string s, .string chars] w fun e w' => e = .returned (.int .i64 (Lib.indexAny s.data.toList chars.data.toList)) ∧ Below w.heap.size w w' := Any.strings_IndexAny Tryd.lays153 hv116 (by kernel_rfl) s chars w hs hcs has hac
def Tryd.lays150_ren : Go.Shelf.Ren := ⟨fun | 150 => 31 | 153 => 51 | 152 => 67 | 226 => 68 | 227 => 41 | 228 => 58 | 137 => 69 | 119 => 83 | 224 => 64 | 225 => 63 | 217 => 62 | 266 => 81 | n => n, fun | 9 => 9 | 4 => 4 | 3 => 3 | 5 => 5 | 21 => 21 | 117 => 88 | 116 => 87 | 0 => 0 | 46 => 104 | 124 => 91 | n => n, fun | n => n⟩
theorem Tryd.lays150 : Go.Proofs.Lays.n150 Tryd.prog Tryd.lays150_ren := {
 mixed := by kernel_rfl
 f119 := Tryd.func83.trans (congrArg some (by kernel_rfl))
 f137 := Tryd.func69.trans (congrArg some (by kernel_rfl))
 f150 := Tryd.func31.trans (congrArg some (by kernel_rfl))
 f152 := Tryd.func67.trans (congrArg some (by kernel_rfl))
 f153 := Tryd.func51.trans (congrArg some (by kernel_rfl))
 f217 := Tryd.func62.trans (congrArg some (by kernel_rfl))
 f224 := Tryd.func64.trans (congrArg some (by kernel_rfl))
 f225 := Tryd.func63.trans (congrArg some (by kernel_rfl))
 f226 := Tryd.func68.trans (congrArg some (by kernel_rfl))
 f227 := Tryd.func41.trans (congrArg some (by kernel_rfl))
 f228 := Tryd.func58.trans (congrArg some (by kernel_rfl))
 f266 := Tryd.func81.trans (congrArg some (by kernel_rfl))
 t0 := Tryd.underlying0
 a0 := Tryd.isAgg0
 z0 := Tryd.sizeOf0
 v0 := Tryd.zeroValue0
 t3 := Tryd.underlying3
 a3 := Tryd.isAgg3
 z3 := Tryd.sizeOf3
 v3 := Tryd.zeroValue3
 t4 := Tryd.underlying4
 a4 := Tryd.isAgg4
 z4 := Tryd.sizeOf4
 v4 := Tryd.zeroValue4
 t5 := Tryd.underlying5
 a5 := Tryd.isAgg5
 z5 := Tryd.sizeOf5
 v5 := Tryd.zeroValue5
 t9 := Tryd.underlying9
 a9 := Tryd.isAgg9
 z9 := Tryd.sizeOf9
 v9 := Tryd.zeroValue9
 t21 := Tryd.underlying21
 a21 := Tryd.isAgg21
 z21 := Tryd.sizeOf21
 v21 := Tryd.zeroValue21
 t46 := Tryd.underlying104
 a46 := Tryd.isAgg104
 z46 := Tryd.sizeOf104
 v46 := Tryd.zeroValue104
 t116 := Tryd.underlying87
 a116 := Tryd.isAgg87
 z116 := Tryd.sizeOf87
 t117 := Tryd.underlying88
 a117 := Tryd.isAgg88
 z117 := Tryd.sizeOf88
 v117 := Tryd.zeroValue88
 t124 := Tryd.underlying91
 a124 := Tryd.isAgg91
 z124 := Tryd.sizeOf91
 v124 := Tryd.zeroValue91 }
open Go.RowKit Go.Lib in
theorem Tryd.strings_ContainsAny (hv116 : ∀ w, (zeroValue 87).run Tryd.prog w = .ok (.agg (Array.replicate 256 (.bool false))) w) (s chars : ByteArray) (w : World) (hs : s.size < 4294967281) (hcs : chars.size < 4294967281) (has : ∀ (j : Nat) b, s.data.toList[j]? = some b → b.toNat < 128) (hac : ∀ (j : Nat) b, chars.data.toList[j]? = some b → b.toNat < 128) :
  Calls Tryd.prog 31 #[.string s, .string chars] w fun e w' => e = .returned (.bool (Lib.containsAny s.data.toList chars.data.toList)) ∧ Below w.heap.size w w' := Any.strings_ContainsAny Tryd.lays150 hv116 (by kernel_rfl) s chars w hs hcs has hac
open Go.RowKit Go.Lib in
theorem Tryd.strings_IndexAny_laid (s chars : ByteArray) (w : World) (hs : s.size < 4294967281) (hcs : chars.size < 4294967281) (has : ∀ (j : Nat) b, s.data.toList[j]? = some b → b.toNat < 128) (hac : ∀ (j : Nat) b, chars.data.toList[j]? = some b → b.toNat < 128) :
  Calls Tryd.prog 51 #[.string s, .string chars] w fun e w' => e = .returned (.int .i64 (Lib.indexAny s.data.toList chars.data.toList)) ∧ Below w.heap.size w w' := Any.strings_IndexAny_laid Tryd.lays153 (by kernel_rfl) s chars w hs hcs has hac
open Go.RowKit Go.Lib in
theorem Tryd.strings_ContainsAny_laid (s chars : ByteArray) (w : World) (hs : s.size < 4294967281) (hcs : chars.size < 4294967281) (has : ∀ (j : Nat) b, s.data.toList[j]? = some b → b.toNat < 128) (hac : ∀ (j : Nat) b, chars.data.toList[j]? = some b → b.toNat < 128) :
  Calls Tryd.prog 31 #[.string s, .string chars] w fun e w' => e = .returned (.bool (Lib.containsAny s.data.toList chars.data.toList)) ∧ Below w.heap.size w w' := Any.strings_ContainsAny_laid Tryd.lays150 (by kernel_rfl) s chars w hs hcs has hac
def Tryd.lays260_ren : Go.Shelf.Ren := ⟨fun | 260 => 79 | n => n, fun | 9 => 9 | 21 => 21 | 3 => 3 | 4 => 4 | 5 => 5 | 119 => 121 | 0 => 0 | 46 => 104 | 139 => 124 | 138 => 123 | n => n, fun | 3 => 4 | 4 => 5 | n => n⟩
theorem Tryd.lays260 : Go.Proofs.Lays.n260 Tryd.prog Tryd.lays260_ren := {
 mixed := by kernel_rfl
 f260 := Tryd.func79.trans (congrArg some (by kernel_rfl))
 t0 := Tryd.underlying0
 a0 := Tryd.isAgg0
 z0 := Tryd.sizeOf0
 v0 := Tryd.zeroValue0
 t3 := Tryd.underlying3
 a3 := Tryd.isAgg3
 z3 := Tryd.sizeOf3
 v3 := Tryd.zeroValue3
 t4 := Tryd.underlying4
 a4 := Tryd.isAgg4
 z4 := Tryd.sizeOf4
 v4 := Tryd.zeroValue4
 t5 := Tryd.underlying5
 a5 := Tryd.isAgg5
 z5 := Tryd.sizeOf5
 v5 := Tryd.zeroValue5
 t9 := Tryd.underlying9
 a9 := Tryd.isAgg9
 z9 := Tryd.sizeOf9
 v9 := Tryd.zeroValue9
 t21 := Tryd.underlying21
 a21 := Tryd.isAgg21
 z21 := Tryd.sizeOf21
 v21 := Tryd.zeroValue21
 t46 := Tryd.underlying104
 a46 := Tryd.isAgg104
 z46 := Tryd.sizeOf104
 v46 := Tryd.zeroValue104
 t119 := Tryd.underlying121
 a119 := Tryd.isAgg121
 z119 := Tryd.sizeOf121
 t138 := Tryd.underlying123
 a138 := Tryd.isAgg123
 z138 := Tryd.sizeOf123
 v138 := Tryd.zeroValue123
 t139 := Tryd.underlying124
 a139 := Tryd.isAgg124
 z139 := Tryd.sizeOf124
 v139 := Tryd.zeroValue124
 g3 := by kernel_rfl
 g4 := by kernel_rfl }
open Go.RowKit Go.Lib in
theorem Tryd.utf8_decodeRuneInStringSlow (s : ByteArray) (w : World) (hT : Lib.Utf8Tabs 4 5 w) :
  Calls Tryd.prog 79 #[.string s] w fun e w' => e = .returned (.tuple #[.int .i32 (Lib.decodeGo s).1, .int .i64 (Lib.decodeGo s).2]) ∧ Below w.heap.size w w' := Any.utf8_decodeRuneInStringSlow Tryd.lays260 s w hT
end Go.Proofs
end
section
namespace Go.Proofs.YtcecdbbomadppaaDoorW.PrintWords
open Go Go.RowKit
theorem bc {w W : World} {a : Addr} {v : Value} (h : Below w.heap.size w W) (hx : w.cell? a = some v) : W.cell? a = some v := (h.cell (World.block_lt_of_cell? w _ hx)).trans hx
theorem nf {w : World} {a : Addr} {v : Value} {g : Nat} {q : Prop} (h : w.cell? a = some v) (hg : w.heap.size ≤ g) (t : a.block < w.heap.size → w.heap.size ≤ g → q := by intro h1 h2; first | exact Nat.ne_of_lt (Nat.lt_of_lt_of_le (by first | rwa [add_block] at h1 | exact h1) h2) | (rw [add_block]; exact Nat.ne_of_lt (Nat.lt_of_lt_of_le (by first | rwa [add_block] at h1 | exact h1) h2)) | (show (Addr.add _ _).block ≠ _; rw [add_block]; exact Nat.ne_of_lt (Nat.lt_of_lt_of_le (by first | rwa [add_block] at h1 | exact h1) h2)) | (dsimp only; exact Nat.ne_of_lt (Nat.lt_of_lt_of_le (by first | rwa [add_block] at h1 | exact h1) h2))) : q := t (World.block_lt_of_cell? _ _ h) hg
theorem bw {p q : Prop} (h : p) (t : p → q := by intro h; repeat (first | (with_reducible first | exact h | apply below_alloc | apply pw_below_drewN | apply below_drew1) | exact h)) : q := t h
theorem bws {p q : Prop} (h : p) (t : p → q := by intro h; repeat (first | (with_reducible first | exact h | apply below_alloc | apply pw_below_drewN | apply below_drew1 | refine below_set ?_ (Aside0.out (by assumption))) | exact h)) : q := t h
theorem bk {p q : Prop} (h : p) (t : p → q := by intro h; (with_reducible repeat (first | refine blk_drewN ?_ _ | refine blk_drew ?_ | refine blk_alloc ?_ _)); exact h) : q := t h
theorem bkp {p q : Prop} (h : p) (t : p → q := by intro h; (with_reducible repeat (first | exact h | refine blk_drewN ?_ _ | refine blk_drew ?_ | refine blk_alloc ?_ _ | apply blk_put | refine blk_far ?_ (Aside0.out (by assumption)) _)); all_goals first | exact h | rfl) : q := t h
theorem kR {p q : Prop} (h : p) (t : p → q := by intro h; (with_reducible repeat (first | apply Kd.R_alloc | apply Kd.R_drewN | apply Kd.R_drew)); exact h) : q := t h
theorem kV {p q : Prop} (h : p) (t : p → q := by intro h; (with_reducible repeat (first | apply Kd.V_alloc | apply Kd.V_drewN | apply Kd.V_drew)); exact h) : q := t h
theorem kS {p q : Prop} (h : p) (t : p → q := by intro h; (with_reducible repeat (first | apply Kd.S_alloc | apply Kd.S_drewN | apply Kd.S_drew)); exact h) : q := t h
theorem kN {p q : Prop} (h : p) (t : p → q := by intro h; (with_reducible repeat (first | apply Kd.N_alloc | apply Kd.N_drewN | apply Kd.N_drew)); exact h) : q := t h
theorem kC {p q : Prop} (h : p) (t : p → q := by intro h; repeat (first | exact h | (with_reducible refine Kd.C_alloc ?_ _) | (with_reducible refine Kd.C_drewN ?_ _) | (with_reducible refine Kd.C_drew ?_))) : q := t h
theorem asm {q : Prop} (t : q := by first | (with_reducible assumption) | assumption) : q := t
theorem gl {q : Prop} (t : q := by (try simp only [List.map_toArray, List.map_cons, List.map_nil]); first | done | rfl | (simp only [List.length_drop, List.length_take]; rfl) | (rw [IntKind.wrap_u64, Int.emod_eq_of_lt (by omega) (by omega)]; rfl)) : q := t
end Go.Proofs.YtcecdbbomadppaaDoorW.PrintWords
namespace Go.Proofs.YtcecdbbomadppaaDoorW.PrintLast
open Go Go.RowKit Go.Proofs.YtcecdbbomadppaaDoorW.PrintWords
section
variable {P : Program} {ops : Array Oper} {Q : Exit → Act → World → Prop} {md : Region.Mode} {S : World → Prop} {ds : List Nat} {T : Bool × List (List Nat × List Nat)}
theorem pu (i : Nat) (N : Option Tmp) {oi : Oper} {v : Value} {fuel : Nat} {l : Array Bool} {a a' : Act} {w : World} (hT : rtab md ops = T) (h : wpAnyLast P md ops Q S ds fuel (l.setIfInBounds i true) a' w) (hi : ops[i]? = some oi := by exact rfl) (hN : oi.dst = N := by exact rfl) (hc : anyT T l.toList (l.setIfInBounds i true).toList i = true := by kernel_rfl)
  (hQ : ∀ c a w, Q (.panic c) (a.put oi.dst v) w → Q (.panic c) a w := by exact fun _ _ _ h => h) (hg : Region.wanted oi (yielded ops a.tmps) = true := by rfl) (hy : ∀ w, (execOp a.eval oi).run P w = .ok (.value v) w := by intro w'; go_simp; with_reducible rfl)
  (ha : a.put N v = a' := by simp only [Act.put, List.setIfInBounds_toArray, List.set_cons_zero, List.set_cons_succ, i64_w, i32_w]; rfl) : wpAnyLast P md ops Q S ds (fuel + 1) l a w := pure_ _ hi hN (any_of hT hc) hQ (.inl ⟨hg, hy⟩) ha h
theorem un (i : Nat) (N : Option Tmp) {oi : Oper} {fuel : Nat} {l : Array Bool} {a a' : Act} {w : World} (hT : rtab md ops = T) (h : wpAnyLast P md ops Q S ds fuel (l.setIfInBounds i true) a' w) (hi : ops[i]? = some oi := by exact rfl) (hN : oi.dst = N := by exact rfl) (hc : anyT T l.toList (l.setIfInBounds i true).toList i = true := by kernel_rfl)
  (hQ : ∀ c a w, Q (.panic c) (a.put oi.dst undef) w → Q (.panic c) a w := by exact fun _ _ _ h => h) (hg : Region.wanted oi (yielded ops a.tmps) = false := by rfl)
  (ha : a.put N undef = a' := by simp only [Act.put, List.setIfInBounds_toArray, List.set_cons_zero, List.set_cons_succ, i64_w, i32_w]; rfl) : wpAnyLast P md ops Q S ds (fuel + 1) l a w := pure_ _ hi hN (any_of hT hc) hQ (.inr ⟨hg, rfl⟩) ha h
theorem tk (i : Nat) (N : Option Tmp) {oi : Oper} {v : Value} {fuel : Nat} {l : Array Bool} {a a' : Act} {w : World} {B : List Nat} (hT : rtab md ops = T) (hB : waitsOk T.2 B = true) (hS : S w) (h : wpAnyLast P md ops Q S ds fuel (l.setIfInBounds i true) a' w) (hi : ops[i]? = some oi := by exact rfl) (hN : oi.dst = N := by exact rfl) (hc : takeW T B ds l.toList (l.setIfInBounds i true).toList i = true := by kernel_rfl)
  (hQ : ∀ c a w, Q (.panic c) (a.put oi.dst v) w → Q (.panic c) a w := by exact fun _ _ _ h => h) (hg : Region.wanted oi (yielded ops a.tmps) = true := by rfl) (hy : ∀ w, S w → (execOp a.eval oi).run P w = .ok (.value v) w := by intro w' hs; (repeat (have s := And.left hs; replace hs := And.right hs)); go_simp; with_reducible rfl)
  (ha : a.put N v = a' := by simp only [Act.put, List.setIfInBounds_toArray, List.set_cons_zero, List.set_cons_succ, i64_w, i32_w]; rfl) : wpAnyLast P md ops Q S ds (fuel + 1) l a w := take_ _ hi hN (take_ofW hT hB hc) hQ (.inl ⟨hg, hy⟩) hS ha h
end
end Go.Proofs.YtcecdbbomadppaaDoorW.PrintLast
end
section
namespace Go.Proofs.YtcecdbbomadppaaDoor.Ht
inductive Out (α : Type) where
 | ok (x : α)
 | bad (e : Int)
def Out.bind {α β : Type} : Out α → (α → Out β) → Out β
 | .ok x, f => f x
 | .bad e, _ => .bad e
abbrev B := List UInt8
abbrev Par (α : Type) := B → Out (α × B)
def seq {α β : Type} (p : Par α) (f : α → Par β) : Par β := fun l => (p l).bind fun x => f x.1 x.2
def ret {α : Type} (x : α) : Par α := fun l => .ok (x, l)
def fail {α : Type} (e : Int) : Par α := fun _ => .bad e
def lift {α : Type} (o : Out α) : Par α := fun l => o.bind fun x => .ok (x, l)
structure Good {α : Type} (p : Par α) : Prop where
 ext : ∀ l x r m, p l = .ok (x, r) → p (l ++ m) = .ok (x, r ++ m)
 err : ∀ l e m, e ≠ 0 → p l = .bad e → p (l ++ m) = .bad e
 loc : ∀ l x r, p l = .ok (x, r) → ∃ u, l = u ++ r ∧ p u = .ok (x, [])
theorem good_ret {α : Type} (x : α) : Good (ret x) := by
 refine ⟨fun l y r m h => ?_, fun l e m _ h => ?_, fun l y r h => ?_⟩
 ·
  simp only [ret, Out.ok.injEq, Prod.mk.injEq] at h ⊢; obtain ⟨rfl, rfl⟩ := h; exact ⟨rfl, rfl⟩
 ·
  simp [ret] at h
 ·
  simp only [ret, Out.ok.injEq, Prod.mk.injEq] at h ⊢; obtain ⟨rfl, rfl⟩ := h; exact ⟨[], rfl, rfl, rfl⟩
theorem good_fail {α : Type} (e : Int) : Good (fail e : Par α) := by
 refine ⟨fun l y r m h => ?_, fun l e' m _ h => ?_, fun l y r h => ?_⟩
 ·
  simp [fail] at h
 ·
  simpa [fail] using h
 ·
  simp [fail] at h
theorem good_lift {α : Type} (o : Out α) : Good (lift o) := by
 cases o with
 | ok x => exact good_ret x
 | bad e => exact good_fail e
theorem good_seq {α β : Type} {p : Par α} {f : α → Par β} (hp : Good p) (hf : ∀ x, Good (f x)) : Good (seq p f) := by
 refine ⟨fun l y r m h => ?_, fun l e m he h => ?_, fun l y r h => ?_⟩
 ·
  unfold seq at h ⊢
  cases hq : p l with
  | bad e => rw [hq] at h; simp [Out.bind] at h
  | ok z =>
   obtain ⟨x, l'⟩ := z
   rw [hq] at h
   rw [hp.ext _ _ _ m hq]
   exact (hf x).ext _ _ _ m h
 ·
  unfold seq at h ⊢
  cases hq : p l with
  | bad e' =>
   rw [hq] at h
   simp only [Out.bind, Out.bad.injEq] at h
   subst h
   rw [hp.err _ _ m he hq]
   rfl
  | ok z =>
   obtain ⟨x, l'⟩ := z
   rw [hq] at h
   rw [hp.ext _ _ _ m hq]
   exact (hf x).err _ _ m he h
 ·
  unfold seq at h ⊢
  cases hq : p l with
  | bad e => rw [hq] at h; simp [Out.bind] at h
  | ok z =>
   obtain ⟨x, l'⟩ := z
   rw [hq] at h
   obtain ⟨u, rfl, hu⟩ := hp.loc _ _ _ hq
   obtain ⟨v, rfl, hv⟩ := (hf x).loc _ _ _ h
   refine ⟨u ++ v, by rw [List.append_assoc], ?_⟩
   rw [hp.ext _ _ _ v hu]
   exact hv
theorem good_ite {α : Type} {c : Prop} [Decidable c] {p q : Par α} (hp : Good p) (hq : Good q) : Good (if c then p else q) := by
 split <;> assumption
def cutLine : B → Option (B × B)
 | [] => none
 | a :: t => if a = 13 ∧ t.head? = some 10 then some ([], t.tail) else (cutLine t).map fun x => (a :: x.1, x.2)
def untail (l : B) : B := if l.getLast? = some 13 then l.dropLast else l
def pline : Par B := fun l => match cutLine l with
 | none => if (untail l).length ≤ 2048 then .bad 0 else .bad 192
 | some (s, r) => if s.length ≤ 2048 then (if s.contains 13 || s.contains 10 then .bad 190 else .ok (s, r)) else .bad 192
theorem cutLine_ext : ∀ (l s r m : B), cutLine l = some (s, r) → cutLine (l ++ m) = some (s, r ++ m)
 | [], s, r, m, h => by simp [cutLine] at h
 | a :: t, s, r, m, h => by
  rw [cutLine] at h
  rw [List.cons_append, cutLine]
  split at h
  ·
   rename_i hc
   obtain ⟨rfl, h10⟩ := hc
   obtain ⟨t', rfl⟩ : ∃ t', t = 10 :: t' := by cases t with | nil => simp at h10 | cons b t' => simp at h10; exact ⟨t', by rw [h10]⟩
   simp only [Option.some.injEq, Prod.mk.injEq, List.tail_cons] at h
   obtain ⟨rfl, rfl⟩ := h
   simp
  ·
   rename_i hc
   cases hq : cutLine t with
   | none => rw [hq] at h; simp at h
   | some z =>
    obtain ⟨s', r'⟩ := z
    rw [hq] at h
    simp only [Option.map_some, Option.some.injEq, Prod.mk.injEq] at h
    obtain ⟨rfl, rfl⟩ := h
    rw [cutLine_ext t _ _ m hq, if_neg]
    ·
     rfl
    ·
     rintro ⟨h1, h2⟩
     apply hc
     refine ⟨h1, ?_⟩
     cases t with
     | nil => simp [cutLine] at hq
     | cons b t' => simpa using h2
theorem cutLine_loc : ∀ (l s r : B), cutLine l = some (s, r) → l = (s ++ [13, 10]) ++ r ∧ cutLine (s ++ [13, 10]) = some (s, [])
 | [], s, r, h => by simp [cutLine] at h
 | a :: t, s, r, h => by
  rw [cutLine] at h
  split at h
  ·
   rename_i hc
   obtain ⟨rfl, h10⟩ := hc
   obtain ⟨t', rfl⟩ : ∃ t', t = 10 :: t' := by cases t with | nil => simp at h10 | cons b t' => simp at h10; exact ⟨t', by rw [h10]⟩
   simp only [Option.some.injEq, Prod.mk.injEq, List.tail_cons] at h
   obtain ⟨rfl, rfl⟩ := h
   exact ⟨rfl, rfl⟩
  ·
   rename_i hc
   cases hq : cutLine t with
   | none => rw [hq] at h; simp at h
   | some z =>
    obtain ⟨s', r'⟩ := z
    rw [hq] at h
    simp only [Option.map_some, Option.some.injEq, Prod.mk.injEq] at h
    obtain ⟨rfl, rfl⟩ := h
    obtain ⟨h1, h2⟩ := cutLine_loc t _ _ hq
    refine ⟨by rw [h1]; simp, ?_⟩
    rw [List.cons_append, cutLine, h2, if_neg]
    ·
     rfl
    ·
     rintro ⟨h3, h4⟩
     apply hc
     refine ⟨h3, ?_⟩
     subst h1
     cases s' with
     | nil => simp at h4
     | cons b s'' => simpa using h4
theorem untail_le (l : B) : (untail l).length ≤ l.length := by
 unfold untail
 split
 ·
  simp
 ·
  exact Nat.le_refl _
theorem untail_ge (l : B) : l.length ≤ (untail l).length + 1 := by
 unfold untail
 split
 ·
  simp; omega
 ·
  omega
theorem untail_mono (l m : B) : (untail l).length ≤ (untail (l ++ m)).length := by
 cases m with
 | nil => simp
 | cons b m =>
  have h1 := untail_le l
  have h2 := untail_ge (l ++ b :: m)
  rw [List.length_append, List.length_cons] at h2
  omega
theorem cutLine_late : ∀ (l s r m : B), cutLine l = none → cutLine (l ++ m) = some (s, r) → (untail l).length ≤ s.length
 | [], s, r, m, _, _ => Nat.zero_le _
 | a :: t, s, r, m, hn, h => by
  rw [cutLine] at hn
  rw [List.cons_append, cutLine] at h
  split at hn
  ·
   simp at hn
  ·
   rename_i hc
   have hn' : cutLine t = none := by simpa using hn
   split at h
   ·
    rename_i hc'
    obtain ⟨rfl, h10⟩ := hc'
    cases t with
    | nil => simp [untail]
    | cons b t' => exact absurd ⟨rfl, by simpa using h10⟩ hc
   ·
    cases hq : cutLine (t ++ m) with
    | none => rw [hq] at h; simp at h
    | some z =>
     obtain ⟨s', r'⟩ := z
     rw [hq] at h
     simp only [Option.map_some, Option.some.injEq, Prod.mk.injEq] at h
     obtain ⟨rfl, rfl⟩ := h
     have ih := cutLine_late t s' r' m hn' hq
     cases t with
     | nil => have := untail_le [a]; simp at this ⊢; omega
     | cons b t' =>
      have e : (untail (a :: b :: t')).length = (untail (b :: t')).length + 1 := by
       unfold untail
       rw [List.getLast?_cons_cons]
       split <;> simp
      rw [e, List.length_cons]
      omega
theorem good_line : Good pline := by
 refine ⟨fun l x r m h => ?_, fun l e m he h => ?_, fun l x r h => ?_⟩
 ·
  unfold pline at h ⊢
  cases hq : cutLine l with
  | none => rw [hq] at h; simp only at h; split at h <;> cases h
  | some z =>
   obtain ⟨s, t⟩ := z
   rw [hq] at h
   rw [cutLine_ext _ _ _ m hq]
   simp only at h ⊢
   split at h
   ·
    rename_i h1
    split at h
    ·
     cases h
    ·
     rename_i h2
     cases h
     rw [if_pos h1, if_neg h2]
   ·
    cases h
 ·
  unfold pline at h ⊢
  cases hq : cutLine l with
  | none =>
   rw [hq] at h
   simp only at h
   split at h
   ·
    cases h; exact absurd rfl he
   ·
    rename_i h1
    cases h
    cases hm : cutLine (l ++ m) with
    | none =>
     simp only
     rw [if_neg (by have := untail_mono l m; omega)]
    | some z =>
     obtain ⟨s, t⟩ := z
     simp only
     rw [if_neg (by have := cutLine_late l s t m hq hm; omega)]
  | some z =>
   obtain ⟨s, t⟩ := z
   rw [hq] at h
   rw [cutLine_ext _ _ _ m hq]
   simp only at h ⊢
   split at h
   ·
    rename_i h1
    rw [if_pos h1]
    split at h
    ·
     rename_i h2
     rw [if_pos h2]
     cases h
     rfl
    ·
     cases h
   ·
    rename_i h1
    rw [if_neg h1]
    cases h
    rfl
 ·
  unfold pline at h ⊢
  cases hq : cutLine l with
  | none => rw [hq] at h; simp only at h; split at h <;> cases h
  | some z =>
   obtain ⟨s, t⟩ := z
   rw [hq] at h
   simp only at h
   split at h
   ·
    rename_i h1
    split at h
    ·
     cases h
    ·
     rename_i h2
     cases h
     obtain ⟨e1, e2⟩ := cutLine_loc _ _ _ hq
     refine ⟨_, e1, ?_⟩
     rw [e2]
     simp only
     rw [if_pos h1, if_neg h2]
   ·
    cases h
def pbytes (n : Nat) : Par B := fun l => if l.length < n then .bad 0 else .ok (l.take n, l.drop n)
def pcrlf : Par Unit := fun l => match l with
 | [] => .bad 0
 | [a] => if a = 13 then .bad 0 else .bad 190
 | a :: b :: r => if a = 13 ∧ b = 10 then .ok ((), r) else .bad 190
theorem good_bytes (n : Nat) : Good (pbytes n) := by
 refine ⟨fun l x r m h => ?_, fun l e m he h => ?_, fun l x r h => ?_⟩
 ·
  unfold pbytes at h ⊢
  split at h
  ·
   cases h
  ·
   rename_i hl
   cases h
   rw [if_neg (by rw [List.length_append]; omega), List.take_append_of_le_length (by omega), List.drop_append_of_le_length (by omega)]
 ·
  unfold pbytes at h
  split at h
  ·
   cases h; exact absurd rfl he
  ·
   cases h
 ·
  unfold pbytes at h ⊢
  split at h
  ·
   cases h
  ·
   rename_i hl
   cases h
   refine ⟨l.take n, (List.take_append_drop n l).symm, ?_⟩
   rw [if_neg (by rw [List.length_take]; omega), List.take_take, Nat.min_self, List.drop_eq_nil_of_le (by rw [List.length_take]; omega)]
theorem good_crlf : Good pcrlf := by
 refine ⟨fun l x r m h => ?_, fun l e m he h => ?_, fun l x r h => ?_⟩
 ·
  cases l with
  | nil => simp [pcrlf] at h
  | cons a l => cases l with
   | nil => simp only [pcrlf] at h; split at h <;> cases h
   | cons b l =>
    simp only [pcrlf, List.cons_append] at h ⊢
    split at h
    ·
     rename_i hc; cases h; rw [if_pos hc]
    ·
     cases h
 ·
  cases l with
  | nil => simp [pcrlf] at h; exact absurd h.symm he
  | cons a l => cases l with
   | nil =>
    simp only [pcrlf] at h
    split at h
    ·
     cases h; exact absurd rfl he
    ·
     rename_i hc
     cases h
     cases m with
     | nil => simp [pcrlf, hc]
     | cons b m => simp [pcrlf, hc]
   | cons b l =>
    simp only [pcrlf, List.cons_append] at h ⊢
    split at h
    ·
     cases h
    ·
     rename_i hc; cases h; rw [if_neg hc]
 ·
  cases l with
  | nil => simp [pcrlf] at h
  | cons a l => cases l with
   | nil => simp only [pcrlf] at h; split at h <;> cases h
   | cons b l =>
    simp only [pcrlf] at h
    split at h
    ·
     rename_i hc
     cases h
     exact ⟨[a, b], rfl, by simp only [pcrlf]; rw [if_pos hc]⟩
    ·
     cases h
def isUp (c : UInt8) : Bool := 65 ≤ c && c ≤ 90
def isLow (c : UInt8) : Bool := 97 ≤ c && c ≤ 122
def isDig (c : UInt8) : Bool := 48 ≤ c && c ≤ 57
def isHex (c : UInt8) : Bool := isDig c || (97 ≤ c && c ≤ 102) || (65 ≤ c && c ≤ 70)
def marks : B := [33, 35, 36, 37, 38, 39, 42, 43, 45, 46, 94, 95, 96, 124, 126]
def isTok (c : UInt8) : Bool := isLow c || isUp c || isDig c || marks.contains c
def isVal (c : UInt8) : Bool := (32 ≤ c && c ≤ 126) || c == 9
def isTgt (c : UInt8) : Bool := 33 ≤ c && c ≤ 126 && c != 35
def token (l : B) : Bool := l.all isTok && !l.isEmpty
def value (l : B) : Bool := l.all isVal
def target (l : B) : Bool := l.all isTgt
def smallc (c : UInt8) : UInt8 := if isUp c then c + 32 else c
def small (l : B) : B := l.map smallc
def cut1 (c : UInt8) : B → B × Option B
 | [] => ([], none)
 | x :: l => if x = c then ([], some l) else (x :: (cut1 c l).1, (cut1 c l).2)
def http11 : B := [72, 84, 84, 80, 47, 49, 46, 49]
def methods : List B := [[71, 69, 84], [72, 69, 65, 68], [80, 85, 84], [80, 79, 83, 84], [68, 69, 76, 69, 84, 69]]
def pfirst (s : B) : Out (B × B × B) := match Q.splitL 32 s with
 | [a, t, v] => if (decide (a.length ≤ 16) && !a.isEmpty && a.all isUp && (t.head? == some 47) && target t && (v == http11)) = true
   then (if methods.contains a then .ok (a, (cut1 63 t).1, (cut1 63 t).2.getD []) else .bad 193) else .bad 190
 | _ => .bad 190
def ppair (s : B) : Out (B × B) := match cut1 58 s with
 | (a, some v) => if (token a && value v) = true then .ok (small a, Lib.trimS v [32, 9]) else .bad 190
 | (_, none) => .bad 190
def decn (l : B) : Nat := l.foldl (fun n c => n * 10 + (c.toNat - 48)) 0
def plong (s : B) : Out Nat := if (!s.isEmpty && decide (s.length ≤ 10) && s.all isDig) = true then (if decn s ≤ 131072 then .ok (decn s) else .bad 191) else .bad 190
def hexv (c : UInt8) : Nat := if isDig c then c.toNat - 48 else if isUp c then c.toNat - 55 else c.toNat - 87
def hexn (l : B) : Nat := l.foldl (fun n c => n * 16 + hexv c) 0
def psize (s : B) : Out Nat := if (!(cut1 59 s).1.isEmpty && decide ((cut1 59 s).1.length ≤ 8) && (cut1 59 s).1.all isHex && value ((cut1 59 s).2.getD [])) = true then .ok (hexn (cut1 59 s).1) else .bad 190
structure Hd where
 close : Bool
 heads : List (B × B)
 n : Option Nat
 ch : Bool
def kLength : B := [99, 111, 110, 116, 101, 110, 116, 45, 108, 101, 110, 103, 116, 104]
def kCoding : B := [116, 114, 97, 110, 115, 102, 101, 114, 45, 101, 110, 99, 111, 100, 105, 110, 103]
def kConn : B := [99, 111, 110, 110, 101, 99, 116, 105, 111, 110]
def kChunked : B := [99, 104, 117, 110, 107, 101, 100]
def kClose : B := [99, 108, 111, 115, 101]
def pend (h : Hd) : Par Hd := if (h.n.isSome && h.ch) = true then fail 190 else ret h
def onPair (h : Hd) (p : B × B) : Out Hd :=
 if p.1 = kLength then (if h.n.isSome = true then .bad 190 else (plong p.2).bind fun m => .ok { h with n := some m })
 else if p.1 = kCoding then (if h.ch = true then .bad 190 else if small p.2 = kChunked then .ok { h with ch := true } else .bad 193)
 else if p.1 = kConn then .ok { h with close := h.close || (small p.2 == kClose) }
 else .ok { h with heads := h.heads ++ [p] }
def phead : Nat → Hd → Par Hd
 | 0, h => seq pline fun s => if s = [] then pend h else fail 192
 | j + 1, h => seq pline fun s => if s = [] then pend h else seq (lift (ppair s)) fun p => seq (lift (onPair h p)) fun h' => phead j h'
theorem good_pend (h : Hd) : Good (pend h) := good_ite (good_fail _) (good_ret _)
theorem good_head : ∀ j h, Good (phead j h)
 | 0, h => good_seq good_line fun _ => good_ite (good_pend h) (good_fail _)
 | j + 1, h => good_seq good_line fun _ => good_ite (good_pend h) (good_seq (good_lift _) fun _ => good_seq (good_lift _) fun h' => good_head j h')
def ptrail : Nat → Par Unit
 | 0 => seq pline fun s => if s = [] then ret () else fail 192
 | j + 1 => seq pline fun s => if s = [] then ret () else seq (lift (ppair s)) fun _ => ptrail j
theorem good_trail : ∀ j, Good (ptrail j)
 | 0 => good_seq good_line fun _ => good_ite (good_ret _) (good_fail _)
 | j + 1 => good_seq good_line fun _ => good_ite (good_ret _) (good_seq (good_lift _) fun _ => good_trail j)
def pchunks : Nat → B → Par B
 | 0, _ => fail 0
 | f + 1, body => seq pline fun s => seq (lift (psize s)) fun n =>
   if n = 0 then seq (ptrail 32) fun _ => ret body
   else if n ≤ 131072 - body.length then seq (pbytes n) fun x => seq pcrlf fun _ => pchunks f (body ++ x) else fail 191
theorem good_chunks : ∀ f body, Good (pchunks f body)
 | 0, _ => good_fail _
 | f + 1, body => good_seq good_line fun _ => good_seq (good_lift _) fun n => good_ite (good_seq (good_trail _) fun _ => good_ret _)
   (good_ite (good_seq (good_bytes _) fun _ => good_seq good_crlf fun _ => good_chunks f _) (good_fail _))
structure Rq where
 m : B
 p : B
 q : B
 heads : List (B × B)
 body : B
 close : Bool
def pbody (h : Hd) : Par B := if h.ch = true then pchunks 131073 [] else if h.n.getD 0 = 0 then ret [] else pbytes (h.n.getD 0)
def pone : Par Rq := seq pline fun s => seq (lift (pfirst s)) fun f => seq (phead 32 ⟨false, [], none, false⟩) fun h => seq (pbody h) fun b => ret ⟨f.1, f.2.1, f.2.2, h.heads, b, h.close⟩
theorem good_one : Good pone :=
 good_seq good_line fun _ => good_seq (good_lift _) fun _ => good_seq (good_head _ _) fun _ =>
  good_seq (good_ite (good_chunks _ _) (good_ite (good_ret _) (good_bytes _))) fun _ => good_ret _
theorem one_nil : pone [] = .bad 0 := rfl
theorem one_less {l r : B} {q : Rq} (h : pone l = .ok (q, r)) : r.length < l.length := by
 obtain ⟨u, rfl, hu⟩ := good_one.loc _ _ _ h
 cases u with
 | nil => rw [one_nil] at hu; cases hu
 | cons a u => simp; omega
inductive Run : B → List Rq → B → Int → Prop
 | nil : Run [] [] [] 0
 | bad {l : B} {e : Int} : l ≠ [] → pone l = .bad e → Run l [] l e
 | cons {l r t : B} {q : Rq} {qs : List Rq} {e : Int} : pone l = .ok (q, r) → Run r qs t e → Run l (q :: qs) t e
theorem run_some : ∀ (n : Nat) (l : B), l.length ≤ n → ∃ qs t e, Run l qs t e
 | 0, l, h => by
  cases l with
  | nil => exact ⟨_, _, _, .nil⟩
  | cons a l => simp at h
 | n + 1, l, h => by
  cases l with
  | nil => exact ⟨_, _, _, .nil⟩
  | cons a l =>
   cases hq : pone (a :: l) with
   | bad e => exact ⟨_, _, _, .bad (by simp) hq⟩
   | ok z =>
    obtain ⟨q, r⟩ := z
    have hl := one_less hq
    obtain ⟨qs, t, e, hr⟩ := run_some n r (by omega)
    exact ⟨_, _, _, .cons hq hr⟩
theorem run_ex (l : B) : ∃ qs t e, Run l qs t e := run_some l.length l (Nat.le_refl _)
theorem run_same {l : B} {qs : List Rq} {t : B} {e : Int} (h : Run l qs t e) : ∀ {qs' t' e'}, Run l qs' t' e' → qs' = qs ∧ t' = t ∧ e' = e := by
 induction h with
 | nil =>
  intro qs' t' e' h'
  cases h' with
  | nil => exact ⟨rfl, rfl, rfl⟩
  | bad h1 _ => exact absurd rfl h1
  | cons h1 _ => rw [one_nil] at h1; cases h1
 | bad h1 h2 =>
  intro qs' t' e' h'
  cases h' with
  | nil => exact absurd rfl h1
  | bad _ h3 => rw [h2] at h3; cases h3; exact ⟨rfl, rfl, rfl⟩
  | cons h3 _ => rw [h2] at h3; cases h3
 | cons h1 _ ih =>
  intro qs' t' e' h'
  cases h' with
  | nil => rw [one_nil] at h1; cases h1
  | bad _ h3 => rw [h1] at h3; cases h3
  | cons h3 h4 =>
   rw [h1] at h3
   cases h3
   obtain ⟨rfl, rfl, rfl⟩ := ih h4
   exact ⟨rfl, rfl, rfl⟩
theorem run_rest {l : B} {qs : List Rq} {t : B} {e : Int} (h : Run l qs t e) : ∃ u, l = u ++ t := by
 induction h with
 | nil => exact ⟨[], rfl⟩
 | bad => exact ⟨[], rfl⟩
 | cons h1 _ ih =>
  obtain ⟨u, rfl, _⟩ := good_one.loc _ _ _ h1
  obtain ⟨v, rfl⟩ := ih
  exact ⟨u ++ v, by simp⟩
theorem run_end {l : B} {qs : List Rq} {t : B} {e : Int} (h : Run l qs t e) : (t = [] ∧ e = 0) ∨ (t ≠ [] ∧ pone t = .bad e) := by
 induction h with
 | nil => exact .inl ⟨rfl, rfl⟩
 | bad h1 h2 => exact .inr ⟨h1, h2⟩
 | cons _ _ ih => exact ih
theorem run_more {l : B} {qs : List Rq} {t : B} {e : Int} (h : Run l qs t e) (m : B) {qs' : List Rq} {t' : B} {e' : Int} (h' : Run (t ++ m) qs' t' e') : Run (l ++ m) (qs ++ qs') t' e' := by
 induction h with
 | nil => exact h'
 | bad => exact h'
 | cons h1 _ ih => exact .cons (good_one.ext _ _ _ m h1) (ih h')
theorem run_err {l : B} {qs : List Rq} {t : B} {e : Int} (h : Run l qs t e) (he : e ≠ 0) (m : B) : Run (l ++ m) qs (t ++ m) e := by
 rcases run_end h with ⟨_, h2⟩ | ⟨h1, h2⟩
 ·
  exact absurd h2 he
 ·
  have := run_more h m (.bad (by simp [h1]) (good_one.err _ _ m he h2))
  simpa using this
theorem one_byte {t : B} (h : t = [] ∨ ∃ e, pone t = .bad e) (a : UInt8) {q : Rq} {r : B} (hq : pone (t ++ [a]) = .ok (q, r)) : r = [] := by
 obtain ⟨u, hu, h1⟩ := good_one.loc _ _ _ hq
 rcases List.eq_nil_or_concat r with rfl | ⟨r', b, rfl⟩
 ·
  rfl
 ·
  exfalso
  have e1 : t = u ++ r' := by
   have : t ++ [a] = (u ++ r') ++ [b] := by rw [hu, List.concat_eq_append]; simp
   exact (List.append_inj' this rfl).1
  have h2 := good_one.ext _ _ _ r' h1
  rw [← e1] at h2
  rcases h with rfl | ⟨e, he⟩
  ·
   rw [one_nil] at h2; cases h2
  ·
   rw [he] at h2; cases h2
structure Rd where
 rest : B
 shut : Int
def Rd.feed (r : Rd) (b : B) : Rd := if r.shut = 0 then ⟨r.rest ++ b, r.shut⟩ else r
def Rd.next (r : Rd) : Option Rq × Int × Rd :=
 if r.shut ≠ 0 ∨ r.rest = [] then (none, r.shut, r) else match pone r.rest with
 | .ok (q, t) => (some q, 0, ⟨t, 0⟩)
 | .bad e => (none, e, ⟨r.rest, e⟩)
def Fed (r : Rd) (all : B) (told : List Rq) : Prop :=
 (r.shut = 0 ∧ ∀ m qs t e, Run (r.rest ++ m) qs t e → Run (all ++ m) (told ++ qs) t e) ∨
 (r.shut ≠ 0 ∧ ∃ t, Run all told t r.shut)
theorem fed_new : Fed ⟨[], 0⟩ [] [] := .inl ⟨rfl, fun _ _ _ _ h => h⟩
theorem fed_feed {r : Rd} {all : B} {told : List Rq} (h : Fed r all told) (b : B) : Fed (r.feed b) (all ++ b) told := by
 rcases h with ⟨h1, h2⟩ | ⟨h1, t, h2⟩
 ·
  left
  unfold Rd.feed
  rw [if_pos h1]
  refine ⟨h1, fun m qs t e h => ?_⟩
  rw [List.append_assoc] at h ⊢
  exact h2 _ _ _ _ h
 ·
  right
  unfold Rd.feed
  rw [if_neg h1]
  exact ⟨h1, _, run_err h2 h1 b⟩
theorem fed_next {r : Rd} {all : B} {told : List Rq} (h : Fed r all told) {qs : List Rq} {t : B} {e : Int} (ha : Run all qs t e) :
  (∃ q ys, r.next.1 = some q ∧ r.next.2.1 = 0 ∧ qs = told ++ q :: ys ∧ Fed r.next.2.2 all (told ++ [q])) ∨
  (r.next.1 = none ∧ r.next.2.1 = e ∧ qs = told ∧ Fed r.next.2.2 all told ∧ r.next.2.2.shut = e) := by
 rcases h with ⟨h1, h2⟩ | ⟨h1, t', h2⟩
 ·
  unfold Rd.next
  by_cases hr : r.rest = []
  ·
   rw [if_pos (.inr hr)]
   right
   have := h2 [] [] [] 0 (by rw [hr]; exact .nil)
   rw [List.append_nil, List.append_nil] at this
   obtain ⟨rfl, rfl, rfl⟩ := run_same this ha
   exact ⟨rfl, h1, rfl, .inl ⟨h1, h2⟩, h1⟩
  ·
   rw [if_neg (fun h => h.elim (fun h => h h1) hr)]
   cases hq : pone r.rest with
   | ok z =>
    obtain ⟨q, s⟩ := z
    left
    have H : ∀ m qs t e, Run (s ++ m) qs t e → Run (all ++ m) ((told ++ [q]) ++ qs) t e := fun m qs t e h => by
     have := h2 m (q :: qs) t e (.cons (good_one.ext _ _ _ m hq) h)
     simpa using this
    obtain ⟨ys, t2, e2, hy⟩ := run_ex s
    have := H [] ys t2 e2 (by simpa using hy)
    rw [List.append_nil] at this
    obtain ⟨rfl, _, _⟩ := run_same this ha
    exact ⟨q, ys, rfl, rfl, by simp, .inl ⟨rfl, H⟩⟩
   | bad e' =>
    right
    have := h2 [] [] r.rest e' (by rw [List.append_nil]; exact .bad hr hq)
    rw [List.append_nil, List.append_nil] at this
    obtain ⟨rfl, rfl, rfl⟩ := run_same this ha
    refine ⟨rfl, rfl, rfl, ?_, rfl⟩
    by_cases he : e = 0
    ·
     left
     exact ⟨he, h2⟩
    ·
     right
     exact ⟨he, _, ha⟩
 ·
  unfold Rd.next
  rw [if_pos (.inl h1)]
  right
  obtain ⟨rfl, rfl, rfl⟩ := run_same h2 ha
  exact ⟨rfl, rfl, rfl, .inr ⟨h1, _, h2⟩, rfl⟩
end Go.Proofs.YtcecdbbomadppaaDoor.Ht
end
section
namespace Go.Proofs.YtcecdbbomadppaaDoorW.PrintWords
open Go Go.RowKit
theorem blkF {w : World} {g b o : Nat} {t : TypeId} {cs : Array Value} (hp : g ≠ b) (h : w.heap[g]? = some (.cells cs t (0, 0))) (u : Value) : (w.setCell ⟨b, o, none⟩ u).heap[g]? = some (.cells cs t (0, 0)) := blk_far h hp u
theorem bkf {p q : Prop} (h : p) (t : p → q := by intro h; repeat (first | (with_reducible first | exact h | refine blk_drewN ?_ _ | refine blk_drew ?_ | refine blk_alloc ?_ _ | apply blk_put) | (apply blkF; · exact Aside0.out (by assumption)) | rfl)) : q := t h
theorem cz1 {w : World} {g : Nat} {t : TypeId} {a0 : Value} (h : w.heap[g]? = some (.cells #[a0] t (0, 0))) : w.cell? ⟨g, 0, none⟩ = some a0 ∧ w.frozen? ⟨g, 0, none⟩ = false := ⟨(blk_cell h 0).trans rfl, blk_frozen h 0⟩
theorem cz2 {w : World} {g : Nat} {t : TypeId} {a0 a1 : Value} (h : w.heap[g]? = some (.cells #[a0, a1] t (0, 0))) : w.cell? ⟨g, 0, none⟩ = some a0 ∧ w.cell? ⟨g, 1, none⟩ = some a1 ∧ w.frozen? ⟨g, 0, none⟩ = false ∧ w.frozen? ⟨g, 1, none⟩ = false := ⟨(blk_cell h 0).trans rfl, (blk_cell h 1).trans rfl, blk_frozen h 0, blk_frozen h 1⟩
theorem cz3 {w : World} {g : Nat} {t : TypeId} {a0 a1 a2 : Value} (h : w.heap[g]? = some (.cells #[a0, a1, a2] t (0, 0))) : w.cell? ⟨g, 0, none⟩ = some a0 ∧ w.cell? ⟨g, 1, none⟩ = some a1 ∧ w.cell? ⟨g, 2, none⟩ = some a2 ∧ w.frozen? ⟨g, 0, none⟩ = false ∧ w.frozen? ⟨g, 1, none⟩ = false ∧ w.frozen? ⟨g, 2, none⟩ = false := ⟨(blk_cell h 0).trans rfl, (blk_cell h 1).trans rfl, (blk_cell h 2).trans rfl, blk_frozen h 0, blk_frozen h 1, blk_frozen h 2⟩
theorem cz4 {w : World} {g : Nat} {t : TypeId} {a0 a1 a2 a3 : Value} (h : w.heap[g]? = some (.cells #[a0, a1, a2, a3] t (0, 0))) : w.cell? ⟨g, 0, none⟩ = some a0 ∧ w.cell? ⟨g, 1, none⟩ = some a1 ∧ w.cell? ⟨g, 2, none⟩ = some a2 ∧ w.cell? ⟨g, 3, none⟩ = some a3 ∧ w.frozen? ⟨g, 0, none⟩ = false ∧ w.frozen? ⟨g, 1, none⟩ = false ∧ w.frozen? ⟨g, 2, none⟩ = false ∧ w.frozen? ⟨g, 3, none⟩ = false := ⟨(blk_cell h 0).trans rfl, (blk_cell h 1).trans rfl, (blk_cell h 2).trans rfl, (blk_cell h 3).trans rfl, blk_frozen h 0, blk_frozen h 1, blk_frozen h 2, blk_frozen h 3⟩
theorem cz5 {w : World} {g : Nat} {t : TypeId} {a0 a1 a2 a3 a4 : Value} (h : w.heap[g]? = some (.cells #[a0, a1, a2, a3, a4] t (0, 0))) : w.cell? ⟨g, 0, none⟩ = some a0 ∧ w.cell? ⟨g, 1, none⟩ = some a1 ∧ w.cell? ⟨g, 2, none⟩ = some a2 ∧ w.cell? ⟨g, 3, none⟩ = some a3 ∧ w.cell? ⟨g, 4, none⟩ = some a4 ∧ w.frozen? ⟨g, 0, none⟩ = false ∧ w.frozen? ⟨g, 1, none⟩ = false ∧ w.frozen? ⟨g, 2, none⟩ = false ∧ w.frozen? ⟨g, 3, none⟩ = false ∧ w.frozen? ⟨g, 4, none⟩ = false := ⟨(blk_cell h 0).trans rfl, (blk_cell h 1).trans rfl, (blk_cell h 2).trans rfl, (blk_cell h 3).trans rfl, (blk_cell h 4).trans rfl, blk_frozen h 0, blk_frozen h 1, blk_frozen h 2, blk_frozen h 3, blk_frozen h 4⟩
theorem cz6 {w : World} {g : Nat} {t : TypeId} {a0 a1 a2 a3 a4 a5 : Value} (h : w.heap[g]? = some (.cells #[a0, a1, a2, a3, a4, a5] t (0, 0))) : w.cell? ⟨g, 0, none⟩ = some a0 ∧ w.cell? ⟨g, 1, none⟩ = some a1 ∧ w.cell? ⟨g, 2, none⟩ = some a2 ∧ w.cell? ⟨g, 3, none⟩ = some a3 ∧ w.cell? ⟨g, 4, none⟩ = some a4 ∧ w.cell? ⟨g, 5, none⟩ = some a5 ∧ w.frozen? ⟨g, 0, none⟩ = false ∧ w.frozen? ⟨g, 1, none⟩ = false ∧ w.frozen? ⟨g, 2, none⟩ = false ∧ w.frozen? ⟨g, 3, none⟩ = false ∧ w.frozen? ⟨g, 4, none⟩ = false ∧ w.frozen? ⟨g, 5, none⟩ = false := ⟨(blk_cell h 0).trans rfl, (blk_cell h 1).trans rfl, (blk_cell h 2).trans rfl, (blk_cell h 3).trans rfl, (blk_cell h 4).trans rfl, (blk_cell h 5).trans rfl, blk_frozen h 0, blk_frozen h 1, blk_frozen h 2, blk_frozen h 3, blk_frozen h 4, blk_frozen h 5⟩
theorem cz7 {w : World} {g : Nat} {t : TypeId} {a0 a1 a2 a3 a4 a5 a6 : Value} (h : w.heap[g]? = some (.cells #[a0, a1, a2, a3, a4, a5, a6] t (0, 0))) : w.cell? ⟨g, 0, none⟩ = some a0 ∧ w.cell? ⟨g, 1, none⟩ = some a1 ∧ w.cell? ⟨g, 2, none⟩ = some a2 ∧ w.cell? ⟨g, 3, none⟩ = some a3 ∧ w.cell? ⟨g, 4, none⟩ = some a4 ∧ w.cell? ⟨g, 5, none⟩ = some a5 ∧ w.cell? ⟨g, 6, none⟩ = some a6 ∧ w.frozen? ⟨g, 0, none⟩ = false ∧ w.frozen? ⟨g, 1, none⟩ = false ∧ w.frozen? ⟨g, 2, none⟩ = false ∧ w.frozen? ⟨g, 3, none⟩ = false ∧ w.frozen? ⟨g, 4, none⟩ = false ∧ w.frozen? ⟨g, 5, none⟩ = false ∧ w.frozen? ⟨g, 6, none⟩ = false := ⟨(blk_cell h 0).trans rfl, (blk_cell h 1).trans rfl, (blk_cell h 2).trans rfl, (blk_cell h 3).trans rfl, (blk_cell h 4).trans rfl, (blk_cell h 5).trans rfl, (blk_cell h 6).trans rfl, blk_frozen h 0, blk_frozen h 1, blk_frozen h 2, blk_frozen h 3, blk_frozen h 4, blk_frozen h 5, blk_frozen h 6⟩
theorem cz8 {w : World} {g : Nat} {t : TypeId} {a0 a1 a2 a3 a4 a5 a6 a7 : Value} (h : w.heap[g]? = some (.cells #[a0, a1, a2, a3, a4, a5, a6, a7] t (0, 0))) : w.cell? ⟨g, 0, none⟩ = some a0 ∧ w.cell? ⟨g, 1, none⟩ = some a1 ∧ w.cell? ⟨g, 2, none⟩ = some a2 ∧ w.cell? ⟨g, 3, none⟩ = some a3 ∧ w.cell? ⟨g, 4, none⟩ = some a4 ∧ w.cell? ⟨g, 5, none⟩ = some a5 ∧ w.cell? ⟨g, 6, none⟩ = some a6 ∧ w.cell? ⟨g, 7, none⟩ = some a7 ∧ w.frozen? ⟨g, 0, none⟩ = false ∧ w.frozen? ⟨g, 1, none⟩ = false ∧ w.frozen? ⟨g, 2, none⟩ = false ∧ w.frozen? ⟨g, 3, none⟩ = false ∧ w.frozen? ⟨g, 4, none⟩ = false ∧ w.frozen? ⟨g, 5, none⟩ = false ∧ w.frozen? ⟨g, 6, none⟩ = false ∧ w.frozen? ⟨g, 7, none⟩ = false := ⟨(blk_cell h 0).trans rfl, (blk_cell h 1).trans rfl, (blk_cell h 2).trans rfl, (blk_cell h 3).trans rfl, (blk_cell h 4).trans rfl, (blk_cell h 5).trans rfl, (blk_cell h 6).trans rfl, (blk_cell h 7).trans rfl, blk_frozen h 0, blk_frozen h 1, blk_frozen h 2, blk_frozen h 3, blk_frozen h 4, blk_frozen h 5, blk_frozen h 6, blk_frozen h 7⟩
end Go.Proofs.YtcecdbbomadppaaDoorW.PrintWords
end
section
namespace Go.Proofs.YtcecdbbomadppaaDoor.Ht
open Go
theorem crlf_prefix (a : UInt8) (t : B) : ([13, 10] : B).isPrefixOf (a :: t) = decide (a = 13 ∧ t.head? = some 10) := by
 rw [Bool.eq_iff_iff, decide_eq_true_iff]
 cases t with
 | nil => simp [List.isPrefixOf]
 | cons b t =>
  simp only [List.isPrefixOf, Bool.and_true, Bool.and_eq_true, beq_iff_eq, List.head?_cons, Option.some.injEq]
  exact ⟨fun h => ⟨h.1.symm, h.2.symm⟩, fun h => ⟨h.1.symm, h.2.symm⟩⟩
theorem cutLine_index : ∀ l : B, (Lib.index l [13, 10] = -1 ∧ cutLine l = none) ∨ ∃ i : Nat, Lib.index l [13, 10] = i ∧ i + 2 ≤ l.length ∧ cutLine l = some (l.take i, l.drop (i + 2))
 | [] => .inl ⟨rfl, rfl⟩
 | a :: t => by
  rw [Lib.index, cutLine, crlf_prefix]
  by_cases hc : a = 13 ∧ t.head? = some 10
  ·
   right
   refine ⟨0, ?_, ?_, ?_⟩
   ·
    rw [if_pos (decide_eq_true hc)]; rfl
   ·
    obtain ⟨_, h⟩ := hc
    cases t with
    | nil => simp at h
    | cons b t => simp
   ·
    rw [if_pos hc]
    cases t with
    | nil => simp at hc
    | cons b t => simp
  ·
   rw [if_neg (by simpa using hc), if_neg hc]
   rcases cutLine_index t with ⟨h1, h2⟩ | ⟨i, h1, h2, h3⟩
   ·
    left
    rw [h1, h2]
    exact ⟨rfl, rfl⟩
   ·
    right
    refine ⟨i + 1, ?_, by simp only [List.length_cons]; omega, ?_⟩
    ·
     rw [h1, if_neg (by simp)]
     rfl
    ·
     rw [h3]
     rfl
theorem untail_eq (l : B) : Lib.trimSuffix l [13] = untail l := by
 unfold Lib.trimSuffix untail Lib.hasSuffix
 have e : ([13] : B).isSuffixOf l = decide (l.getLast? = some 13) := by
  rw [Bool.eq_iff_iff, decide_eq_true_iff, List.isSuffixOf_iff_suffix]
  constructor
  ·
   rintro ⟨u, rfl⟩
   simp
  ·
   intro h
   obtain ⟨u, rfl⟩ := List.getLast?_eq_some_iff.1 h
   exact ⟨u, rfl⟩
 rw [e]
 by_cases h : l.getLast? = some 13
 ·
  rw [if_pos (decide_eq_true h), if_pos h]
  simp [List.dropLast_eq_take]
 ·
  rw [if_neg (by simpa using h), if_neg h]
theorem any_eq : ∀ s : B, Lib.containsAny s [13, 10] = (s.contains 13 || s.contains 10) := by
 intro s
 unfold Lib.containsAny
 induction s with
 | nil => rfl
 | cons a s ih =>
  have hge := Lib.indexAny_ge [13, 10] s
  rw [Lib.indexAny]
  have e : ([13, 10] : B).contains a = (a == 13 || a == 10) := by simp only [List.contains_cons, List.contains_nil, Bool.or_false]
  rw [e]
  by_cases h : (a == 13 || a == 10) = true
  ·
   rw [if_pos h]
   simp only [Bool.or_eq_true, beq_iff_eq] at h
   rcases h with rfl | rfl <;> simp
  ·
   rw [if_neg h]
   simp only [Bool.or_eq_true, beq_iff_eq, not_or] at h
   have e1 : (a :: s).contains 13 = s.contains 13 := by rw [List.contains_cons]; simp [Ne.symm h.1]
   have e2 : (a :: s).contains 10 = s.contains 10 := by rw [List.contains_cons]; simp [Ne.symm h.2]
   rw [e1, e2, ← ih]
   split
   ·
    rename_i h1
    have h1 : Lib.indexAny s [13, 10] = -1 := by simpa using h1
    rw [h1]
   ·
    rename_i h1
    have h1 : Lib.indexAny s [13, 10] ≠ -1 := by simpa using h1
    rw [decide_eq_true (by omega), decide_eq_true (by omega)]
theorem dropWhile_nil {p : UInt8 → Bool} : ∀ l : B, l.dropWhile p = [] ↔ l.all p = true
 | [] => by simp
 | a :: l => by
  rw [List.dropWhile_cons, List.all_cons]
  by_cases h : p a = true
  ·
   rw [if_pos h, h, Bool.true_and]
   exact dropWhile_nil l
  ·
   rw [if_neg h, Bool.eq_false_iff.mpr h]
   simp
theorem dropWhile_head {p : UInt8 → Bool} : ∀ l : B, (l.dropWhile p).all p = true → l.dropWhile p = []
 | [], _ => rfl
 | a :: l, h => by
  rw [List.dropWhile_cons] at h ⊢
  by_cases hp : p a = true
  ·
   rw [if_pos hp] at h ⊢
   exact dropWhile_head l h
  ·
   rw [if_neg hp, List.all_cons, Bool.eq_false_iff.mpr hp] at h
   cases h
theorem trim_nil (l cs : B) : Lib.trimS l cs = [] ↔ l.all (cs.contains ·) = true := by
 unfold Lib.trimS Lib.trimLeftS Lib.trimRightS
 rw [dropWhile_nil, List.all_reverse]
 constructor
 ·
  intro h
  have := dropWhile_head _ h
  rw [dropWhile_nil, List.all_reverse] at this
  exact this
 ·
  intro h
  have : l.reverse.dropWhile (cs.contains ·) = [] := by rw [dropWhile_nil, List.all_reverse]; exact h
  rw [this]
  rfl
theorem index_one (c : UInt8) : ∀ l : B, Lib.index l [c] = Lib.indexByte l c
 | [] => rfl
 | a :: l => by
  rw [Lib.index, Lib.indexByte, index_one c l]
  have e : ([c] : B).isPrefixOf (a :: l) = (a == c) := by simp [List.isPrefixOf, Bool.beq_comm]
  rw [e]
theorem cut1_none (c : UInt8) : ∀ l : B, Lib.indexByte l c = -1 → cut1 c l = (l, none)
 | [], _ => rfl
 | a :: l, h => by
  have hge := Lib.indexByte_ge l c
  rw [Lib.indexByte] at h
  split at h
  ·
   cases h
  ·
   rename_i h1
   split at h
   ·
    rename_i h2
    have h2 : Lib.indexByte l c = -1 := by simpa using h2
    rw [cut1, if_neg (by simpa using h1), cut1_none c l h2]
   ·
    omega
theorem cut1_some (c : UInt8) : ∀ (l : B) (i : Nat), Lib.indexByte l c = i → cut1 c l = (l.take i, some (l.drop (i + 1)))
 | [], i, h => by simp [Lib.indexByte] at h
 | a :: l, i, h => by
  have hge := Lib.indexByte_ge l c
  rw [Lib.indexByte] at h
  split at h
  ·
   rename_i h1
   obtain rfl : i = 0 := by omega
   rw [cut1, if_pos (by simpa using h1)]
   rfl
  ·
   rename_i h1
   split at h
   ·
    omega
   ·
    rename_i h2
    have h2 : Lib.indexByte l c ≠ -1 := by simpa using h2
    cases i with
    | zero => omega
    | succ i =>
     rw [cut1, if_neg (by simpa using h1), cut1_some c l i (by omega)]
     rfl
theorem cut_eq (s : B) (c : UInt8) : Lib.cut s [c] = ((cut1 c s).1, (cut1 c s).2.getD [], (cut1 c s).2.isSome) := by
 unfold Lib.cut
 rw [index_one]
 have hge := Lib.indexByte_ge s c
 by_cases h : Lib.indexByte s c = -1
 ·
  rw [cut1_none c s h, if_neg (by omega)]
  rfl
 ·
  rw [if_pos (by omega), cut1_some c s (Lib.indexByte s c).toNat (by omega)]
  rfl
theorem split_eq (c : UInt8) : ∀ (n : Nat) (s : B), s.length ≤ n → Lib.splitK [c] 0 (Lib.count s [c]) s = Q.splitL c s
 | n, s, hn => by
  have hge := Lib.indexByte_ge s c
  by_cases h : Lib.indexByte s c = -1
  ·
   have h' : Lib.index s [c] = -1 := by rw [index_one]; exact h
   rw [Lib.count_miss h', Q.splitL_none c s (by omega)]
   rfl
  ·
   obtain ⟨i, hi⟩ : ∃ i : Nat, Lib.indexByte s c = i := ⟨(Lib.indexByte s c).toNat, by omega⟩
   have h' : Lib.index s [c] = i := by rw [index_one]; exact hi
   have hlt := Q.indexByte_lt s c i hi
   rw [Lib.count_hit (by simp) h', Nat.add_comm, Lib.splitK, if_neg (by rw [h']; simp), h', Q.splitL_some c s i hi]
   cases n with
   | zero => omega
   | succ n =>
    have := split_eq c n (s.drop (i + 1)) (by rw [List.length_drop]; omega)
    simp only [Int.toNat_natCast, Nat.add_zero, List.length_cons, List.length_nil, Nat.zero_add]
    rw [this]
theorem dec_eq : ∀ (l : B) (acc : Nat), l.all isDig = true → Lib.decFrom acc l = some (l.foldl (fun n c => n * 10 + (c.toNat - 48)) acc)
 | [], _, _ => rfl
 | c :: l, acc, h => by
  rw [List.all_cons, Bool.and_eq_true] at h
  obtain ⟨h1, h2⟩ := h
  have e : Lib.digitVal c = some (c.toNat - 48) := by
   unfold isDig at h1
   simp only [Bool.and_eq_true, decide_eq_true_eq] at h1
   unfold Lib.digitVal
   rw [if_pos ⟨h1.1, h1.2⟩]
  rw [Lib.decFrom, e]
  exact dec_eq l _ h2
theorem atoi_eq (l : B) (hne : l ≠ []) (h : l.all isDig = true) : Lib.atoi l = some (decn l : Nat) := by
 cases l with
 | nil => exact absurd rfl hne
 | cons c l =>
  have hc : isDig c = true := by rw [List.all_cons, Bool.and_eq_true] at h; exact h.1
  have h45 : (c == 45) = false := by
   rw [beq_eq_false_iff_ne]; rintro rfl; revert hc; decide
  have h43 : (c == 43) = false := by
   rw [beq_eq_false_iff_ne]; rintro rfl; revert hc; decide
  rw [Lib.atoi, h45, h43]
  simp only [Bool.false_eq_true, if_false, Lib.decNat, List.isEmpty_cons]
  rw [dec_eq _ 0 h]
  rfl
end Go.Proofs.YtcecdbbomadppaaDoor.Ht
end
section
namespace Go.Proofs.YtcecdbbomadppaaDoorW.PrintWords
open Go Go.RowKit
theorem am {p : Prop} (h : p) : Aside0 p := ⟨h⟩
theorem rf {q : Prop} (t : q := by first | rfl | (simp [errW_none, errW_some] <;> rfl) | (simp [*, errW_none, errW_some] <;> rfl)) : q := t
theorem rs {q : Prop} (t : q := by first | rfl | (simp; done) | (simp [*]; done)) : q := t
theorem om {q : Prop} (t : q := by first | omega | exact Nat.le_refl _) : q := t
theorem niR {q : Prop} (t : q := by first | exact Kd.R_nil _ _ _ _ _ | exact Kd.N_nil _ _ _ _ _ | exact Kd.V_nil _ _ _ _ _ | exact Kd.Q_nil _ _ _ _ _ | exact Kd.S_nil _ _ _ _ _) : q := t
theorem niS {q : Prop} (t : q := by first | exact Kd.S_nil _ _ _ _ _ | exact Kd.N_nil _ _ _ _ _ | exact Kd.V_nil _ _ _ _ _ | exact Kd.Q_nil _ _ _ _ _ | exact Kd.R_nil _ _ _ _ _) : q := t
theorem obE {α β : Type} {o : Option α} {f : α → Option β} {r : β} (h : o.bind f = some r) : ∃ a, Aside0 (o = some a) ∧ f a = some r := by
 obtain ⟨a, h1, h2⟩ := Option.bind_eq_some_iff.mp h
 exact ⟨a, ⟨h1⟩, h2⟩
theorem iteD {c : Prop} [Decidable c] {α : Type} {a b r : α} (H : (if c then a else b) = r) : (decide c = true ∧ a = r) ∨ (decide c = false ∧ b = r) := by
 by_cases h : c
 ·
  exact .inl ⟨decide_eq_true h, by rw [if_pos h] at H; exact H⟩
 ·
  exact .inr ⟨decide_eq_false h, by rw [if_neg h] at H; exact H⟩
theorem bb {w0 w w' : World} {g : Nat} {o : Obj} (h : w0.heap[g]? = some o) (hb : Below w.heap.size w w') (t : w0.heap[g]? = some o → w.heap[g]? = some o := by intro h; (with_reducible repeat (first | refine blk_drewN ?_ _ | refine blk_drew ?_ | refine blk_alloc ?_ _)); exact h) : Aside0 (w'.heap[g]? = some o) := ⟨blk_below (t h) hb⟩
theorem nlt {w : World} {g g' : Nat} {p : Prop} (hg : g' = w.heap.size) (h : p) (t : p → ∃ o, w.heap[g]? = some o := by intro h; apply Exists.intro; (with_reducible repeat (first | refine blk_drewN ?_ _ | refine blk_drew ?_ | refine blk_alloc ?_ _)); exact h) : Aside0 (g ≠ g') := by
 obtain ⟨o, ho⟩ := t h
 exact ⟨by rw [hg]; exact Nat.ne_of_lt (blk_lt ho)⟩
theorem ngt {w : World} {g g' : Nat} {p : Prop} (hg : g' = w.heap.size) (h : p) (t : p → ∃ o, w.heap[g]? = some o := by intro h; apply Exists.intro; (with_reducible repeat (first | refine blk_drewN ?_ _ | refine blk_drew ?_ | refine blk_alloc ?_ _)); exact h) : Aside0 (g' ≠ g) := ⟨Ne.symm (nlt hg h t).out⟩
theorem gsz {w w0 wc : World} {g : Nat} (hg : g = wc.heap.size) (h : Below w.heap.size w w0) (t : Below w.heap.size w w0 → Below w.heap.size w wc := by intro h; repeat (first | (with_reducible first | exact h | apply below_alloc | apply pw_below_drewN | apply below_drew1 | refine below_set ?_ (Aside0.out (by assumption))) | exact h)) : Aside0 (w.heap.size ≤ g) := ⟨by rw [hg]; exact below_size (t h)⟩
theorem pz (x : Int) (t : decide (0 ≤ x) = true := by first | (with_reducible assumption) | assumption) : (0 ≤ x) = True := eq_true (of_decide_eq_true t)
theorem pl (x y : Int) (t : decide (x < y) = true := by first | (with_reducible assumption) | assumption) : (x < y) = True := eq_true (of_decide_eq_true t)
theorem cf {w : World} {a : Addr} {v : Value} {g : Nat} {p q : Prop} (hw : w.cell? a = some v) (hg : w.heap.size ≤ g) (hX : p) (t : a.block ≠ g → p → q := by intro hn h; repeat (first | (with_reducible exact h) | refine (cell_far hn _).trans ?_)) : q := t (Nat.ne_of_lt (Nat.lt_of_lt_of_le (World.block_lt_of_cell? _ _ hw) hg)) hX
section
variable {P : Program} {ops : Array Oper} {rest : List Oper} {o : Oper} {a : Act} {Q : Exit → Act → World → Prop}
theorem bx {W : World} (N : Tmp) (cs : Array Value) (t : TypeId) (h : ∀ g, g = W.heap.size → ∀ w1, w1.heap[g]? = some (.cells cs t (0, 0)) → Below W.heap.size W w1 → wpList P ops Q rest (a.put o.dst (.pointer (some ⟨g, 0, none⟩))) w1) (hgd : o.guard = none := by rfl) (hd : o.dst = some N := by rfl)
  (hrun : (execOp a.eval o).run P W = .ok (.value (.pointer (some ⟨W.heap.size, 0, none⟩))) (W.alloc (.cells cs t (0, 0))) := by first | (go_simp; done) | (go_simp; rfl)) : wpList P ops Q (o :: rest) a W := box_event hgd hd hrun h
end
end Go.Proofs.YtcecdbbomadppaaDoorW.PrintWords
end
section
namespace Go.Proofs.YtcecdbbomadppaaDoorW.PrintLast
open Go Go.RowKit Go.Proofs.YtcecdbbomadppaaDoorW.PrintWords
section
variable {P : Program} {ops : Array Oper} {Q : Exit → Act → World → Prop} {md : Region.Mode} {S : World → Prop} {ds : List Nat}
theorem hp (i : Nat) (N : Option Tmp) {oi : Oper} {v : Value} {fuel : Nat} {l : Array Bool} {a a' : Act} {w : World} (h : wpAnyLast P md ops Q S ds fuel (l.setIfInBounds i true) a' w) (hi : ops[i]? = some oi := by exact rfl) (hN : oi.dst = N := by exact rfl) (hc : anyB md ops l (l.setIfInBounds i true) i = true := by kernel_rfl)
  (hQ : ∀ c a w, Q (.panic c) (a.put oi.dst v) w → Q (.panic c) a w := by exact fun _ _ _ h => h) (hg : Region.wanted oi (yielded ops a.tmps) = true := by rfl) (hy : ∀ w, (execOp a.eval oi).run P w = .ok (.value v) w := by intro w'; go_simp; with_reducible rfl)
  (ha : a.put N v = a' := by simp only [Act.put, List.setIfInBounds_toArray, List.set_cons_zero, List.set_cons_succ, i64_w, i32_w]; rfl) : wpAnyLast P md ops Q S ds (fuel + 1) l a w := pure_ _ hi hN hc hQ (.inl ⟨hg, hy⟩) ha h
theorem hu (i : Nat) (N : Option Tmp) {oi : Oper} {fuel : Nat} {l : Array Bool} {a a' : Act} {w : World} (h : wpAnyLast P md ops Q S ds fuel (l.setIfInBounds i true) a' w) (hi : ops[i]? = some oi := by exact rfl) (hN : oi.dst = N := by exact rfl) (hc : anyB md ops l (l.setIfInBounds i true) i = true := by kernel_rfl)
  (hQ : ∀ c a w, Q (.panic c) (a.put oi.dst undef) w → Q (.panic c) a w := by exact fun _ _ _ h => h) (hg : Region.wanted oi (yielded ops a.tmps) = false := by rfl)
  (ha : a.put N undef = a' := by simp only [Act.put, List.setIfInBounds_toArray, List.set_cons_zero, List.set_cons_succ, i64_w, i32_w]; rfl) : wpAnyLast P md ops Q S ds (fuel + 1) l a w := pure_ _ hi hN hc hQ (.inr ⟨hg, rfl⟩) ha h
theorem ht (i : Nat) (N : Option Tmp) {oi : Oper} {v : Value} {fuel : Nat} {l : Array Bool} {a a' : Act} {w : World} (hS : S w) (h : wpAnyLast P md ops Q S ds fuel (l.setIfInBounds i true) a' w) (hi : ops[i]? = some oi := by exact rfl) (hN : oi.dst = N := by exact rfl) (hc : takeB md ops ds l (l.setIfInBounds i true) i = true := by kernel_rfl)
  (hQ : ∀ c a w, Q (.panic c) (a.put oi.dst v) w → Q (.panic c) a w := by exact fun _ _ _ h => h) (hg : Region.wanted oi (yielded ops a.tmps) = true := by rfl) (hy : ∀ w, S w → (execOp a.eval oi).run P w = .ok (.value v) w := by intro w' hs; (repeat (have s := And.left hs; replace hs := And.right hs)); go_simp; with_reducible rfl)
  (ha : a.put N v = a' := by simp only [Act.put, List.setIfInBounds_toArray, List.set_cons_zero, List.set_cons_succ, i64_w, i32_w]; rfl) : wpAnyLast P md ops Q S ds (fuel + 1) l a w := take_ _ hi hN hc hQ (.inl ⟨hg, hy⟩) hS ha h
theorem hcall (i : Nat) (N : Option Tmp) (f : FuncId) (args : Array Value) {R : Ending → World → Prop} {oi : Oper} {fuel : Nat} {l : Array Bool} {a : Act} {w : World} (hcall : Calls P f args w R)
  (h : ∀ e w', R e w' → ∃ v a', e = .returned v ∧ S w' ∧ a.put N v = a' ∧ wpAnyLast P md ops Q S ds fuel (l.setIfInBounds i true) a' w') (hi : ops[i]? = some oi := by exact rfl) (hN : oi.dst = N := by exact rfl) (hc : readyB md ops l (l.setIfInBounds i true) i = true := by kernel_rfl) (hd : i ∉ ds := by decide)
  (hg : Region.wanted oi (yielded ops a.tmps) = true := by rfl) (hrun : (execOp a.eval oi).run P w = .ok (.enter f args) w := by first | (go_simp; done) | (go_simp; rfl)) : wpAnyLast P md ops Q S ds (fuel + 1) l a w := by
 refine one_ (i := i) (N := N) _ hi hN hc hd (fun K hK => ?_)
 refine call_ f args hg hN hrun (hcall.mono ?_)
 intro e w' hR
 obtain ⟨v, a', rfl, hS, rfl, h⟩ := h e w' hR
 exact ⟨v, rfl, hK.out _ _ hS (fun _ => h)⟩
theorem hval (i : Nat) (N : Option Tmp) (v : Value) (w1 : World) {oi : Oper} {fuel : Nat} {l : Array Bool} {a a' : Act} {w : World} (hS : S w1) (h : wpAnyLast P md ops Q S ds fuel (l.setIfInBounds i true) a' w1) (hi : ops[i]? = some oi := by exact rfl) (hN : oi.dst = N := by exact rfl) (hc : readyB md ops l (l.setIfInBounds i true) i = true := by kernel_rfl) (hd : i ∉ ds := by decide)
  (hg : Region.wanted oi (yielded ops a.tmps) = true := by rfl) (hrun : (execOp a.eval oi).run P w = .ok (.value v) w1 := by first | (go_simp; done) | (go_simp; rfl) | (go_simp; constructor <;> rfl))
  (ha : a.put N v = a' := by simp only [Act.put, List.setIfInBounds_toArray, List.set_cons_zero, List.set_cons_succ, i64_w, i32_w]; rfl) : wpAnyLast P md ops Q S ds (fuel + 1) l a w := by
 refine one_ (i := i) (N := N) _ hi hN hc hd (fun K hK => ?_)
 refine value_ hg hN hrun ?_
 subst ha
 exact hK.out _ _ hS (fun _ => h)
theorem hstore (i : Nat) {oi : Oper} {fuel : Nat} {l : Array Bool} {a : Act} {w w1 : World} (h : wpAnyLast P md ops Q S ds fuel (l.setIfInBounds i true) a w1) (hi : ops[i]? = some oi := by exact rfl) (hN : oi.dst = none := by exact rfl) (hc : readyB md ops l (l.setIfInBounds i true) i = true := by kernel_rfl) (hd : i ∈ ds := by decide)
  (hg : Region.wanted oi (yielded ops a.tmps) = true := by rfl) (hrun : (execOp a.eval oi).run P w = .ok .skip w1 := by first | (go_simp; done) | (go_simp; rfl)) : wpAnyLast P md ops Q S ds (fuel + 1) l a w := by
 refine last_ (i := i) (N := none) _ hi hN hc hd (fun K hK => ?_)
 refine skip_ hg hN hrun ?_
 exact hK.out _ _ h
end
end Go.Proofs.YtcecdbbomadppaaDoorW.PrintLast
end
section
namespace Go.Proofs.YtcecdbbomadppaaDoor.Hw
end Go.Proofs.YtcecdbbomadppaaDoor.Hw
end
section
namespace Go.Proofs.YtcecdbbomadppaaDoor.Hw
open Go Go.RowKit Go.Proofs.YtcecdbbomadppaaDoorW.PrintWords Go.Proofs.YtcecdbbomadppaaDoorW.PrintLast Go.Proofs.YtcecdbbomadppaaDoorW.PrintMore
set_option linter.unusedVariables false
set_option linter.unusedSimpArgs false
theorem decode_span (s : ByteArray) (pos : Nat) (h : pos < s.size) (ha : 128 ≤ (s[pos]'h).toNat) :
  (1 < (Utf8.decode s pos).2 → pos + 1 < s.size ∧ 128 ≤ (s.get! (pos + 1)).toNat) ∧ (2 < (Utf8.decode s pos).2 → pos + 2 < s.size ∧ 128 ≤ (s.get! (pos + 2)).toNat) ∧
  (3 < (Utf8.decode s pos).2 → pos + 3 < s.size ∧ 128 ≤ (s.get! (pos + 3)).toNat) ∧ (Utf8.decode s pos).2 ≤ 4 ∧ Utf8.valid ((Utf8.decode s pos).1 : Int) = true := by
 have hn : ¬ (s[pos]'h).toNat < 128 := by omega
 have hb : ∀ k, (s.get! (pos + k)).toNat < 256 := fun k => (s.get! (pos + k)).toNat_lt
 have h1 := hb 1; have h2 := hb 2; have h3 := hb 3
 simp only [Utf8.decode, get_at s pos h, hn, if_false]
 repeat' split
 all_goals simp_all [Utf8.runeError, Utf8.valid]
 all_goals omega
set_option maxRecDepth 100000 in
set_option maxHeartbeats 4000000 in
theorem indexRune_high (r : Int) (h : 128 ≤ r) (hv : Utf8.valid r = true) (w : World) :
  Calls Tryd.prog 67 #[.string ⟨#[13, 10]⟩, .int .i32 r] w fun e w' => e = .returned (.int .i64 (-1)) ∧ Below w.heap.size w w' := by
 by_cases hr : r = 65533
 ·
  subst hr
  go_enter Tryd.func67, Tryd.ntmps67
  go_wp2
  go_loopg [5, 6] 2 (fun gq _ _ wx => ∃ i : Nat, i + gq = 2 ∧ wx = w.iter ⟨#[13, 10]⟩ i)
  case atStart => exact ⟨0, rfl, rfl⟩
  case round =>
   obtain ⟨i, hig, rfl⟩ := hrel
   cases gk with
   | zero =>
    obtain rfl : i = 2 := by omega
    have hnx := fun ty => run_next_end (P := Tryd.prog) w ⟨#[13, 10]⟩ 2 ty (by decide)
    go_wp2
    go_ret
    exact ⟨rfl, (Below.refl _ _).alloc (Nat.le_refl _) _⟩
   | succ gq =>
    cases gq with
    | zero =>
     obtain rfl : i = 1 := by omega
     have hnx := fun ty => run_next_ascii (P := Tryd.prog) w ⟨#[13, 10]⟩ 1 ty (by decide) (by decide)
     go_wp2
     go_roundg 0
     case measure => omega
     case rel => exact ⟨2, rfl, rfl⟩
    | succ gq =>
     obtain rfl : i = 0 := by omega
     have hnx := fun ty => run_next_ascii (P := Tryd.prog) w ⟨#[13, 10]⟩ 0 ty (by decide) (by decide)
     go_wp2
     go_roundg 1
     case measure => omega
     case rel => exact ⟨1, rfl, rfl⟩
 ·
  have hvr : Lib.validRune r = true := by
   rw [Utf8.valid] at hv
   unfold Lib.validRune
   simp only [Bool.or_eq_true, Bool.and_eq_true, decide_eq_true_eq] at hv ⊢
   omega
  obtain ⟨f1, f2, f3⟩ := encode_facts r hv h
  have hr2 : (r = 65533) = False := eq_false hr
  have hr3 : decide (r < 128) = false := decide_eq_false (by omega)
  have hcv : ∀ w, (convert 21 9 (.int .i32 r)).run Tryd.prog w = .ok (.string (Utf8.encode r)) w := fun w => run_convert_int_string w _ _ _ _ (by kernel_rfl) (by kernel_rfl)
  generalize hrs : Utf8.encode r = rs at *
  obtain ⟨⟨l⟩⟩ := rs
  have f1 : 2 ≤ l.length := f1
  have f2 : l.length ≤ 4 := f2
  match l, f1, f2, f3 with
  | [x, y], _, _, f3 =>
   have hy : 128 ≤ y.toNat := f3 (show 1 < 2 by omega)
   have hy2 : ((((⟨#[13, 10]⟩ : ByteArray)[1]'(by decide)).toNat : Int) != (((⟨⟨[x, y]⟩⟩ : ByteArray)[1]'(show 1 < 2 by omega)).toNat : Int)) = true := bne_iff_ne.2 (by show (10 : Int) ≠ (y.toNat : Int); omega)
   go_enter Tryd.func67, Tryd.ntmps67
   go_wp2_with (go_at_call 83; refine (Tryd.utf8_ValidRune r _).mono ?_; rw [hvr]; rintro e w1 ⟨rfl, rfl⟩)
   apply wp_scope_straight
   go_wp2
   go_loopg [9, 10] 1 (fun gq v9 v10 wx => v9 = .int .i64 1 ∧ v10 = .int .i64 0 ∧ gq = 1 ∧ wx = w1)
   case atStart => exact ⟨rfl, rfl, rfl, rfl⟩
   case round =>
    obtain ⟨rfl, rfl, _, rfl⟩ := hrel
    go_wp2
    apply wp_scope_straight
    go_wp2
    go_region
    go_wp2
    refine start_ (n := 9) (S := fun _ => True) (ds := []) #[false, false, false, false, false, false, false, false, false] (by kernel_rfl) rfl rfl trivial (fun _ => ?_)
    refine hp 0 (some 34) ?_
    refine hp 1 (some 35) ?_
    refine hp 2 (some 36) (v := .int .i64 2) ?_ (hy := by intro w'; go_simp; rfl)
    refine hp 3 (some 37) (v := .string ⟨#[]⟩) ?_ (hy := by intro w'; go_simp; rfl)
    refine hp 4 (some 38) ?_
    refine hp 5 (some 39) ?_
    refine hp 6 (some 40) ?_
    refine hcall 7 (some 41) 69 _ (Tryd.strings_IndexByte ⟨#[]⟩ _ _) ?_
    rintro e w2 ⟨rfl, rfl⟩
    refine ⟨_, _, rfl, trivial, by simp only [Act.put, List.setIfInBounds_toArray, List.set_cons_zero, List.set_cons_succ]; rfl, ?_⟩
    refine hp 8 (some 11) ?_
    refine done_ (by kernel_rfl) ?_
    go_wp2
    rw [Exit.noGoto_ret]
    go_wp2
    rw [Exit.noGoto_ret]
    go_wp2
    go_ret
    exact ⟨rfl, (Below.refl _ _).drew.drew⟩
  | [x, y, z], _, _, _ =>
   go_enter Tryd.func67, Tryd.ntmps67
   go_wp2_with (go_at_call 83; refine (Tryd.utf8_ValidRune r _).mono ?_; rw [hvr]; rintro e w1 ⟨rfl, rfl⟩)
   apply wp_scope_straight
   go_wp2
   go_loopg [9, 10] 1 (fun gq v9 v10 wx => v9 = .int .i64 2 ∧ v10 = .int .i64 0 ∧ gq = 1 ∧ wx = w1)
   case atStart => exact ⟨rfl, rfl, rfl, rfl⟩
   case round =>
    obtain ⟨rfl, rfl, _, rfl⟩ := hrel
    go_wp2
    rw [Exit.noGoto_ret]
    go_wp2
    go_ret
    exact ⟨rfl, Below.refl _ _⟩
  | [x, y, z, z2], _, _, _ =>
   go_enter Tryd.func67, Tryd.ntmps67
   go_wp2_with (go_at_call 83; refine (Tryd.utf8_ValidRune r _).mono ?_; rw [hvr]; rintro e w1 ⟨rfl, rfl⟩)
   apply wp_scope_straight
   go_wp2
   go_loopg [9, 10] 1 (fun gq v9 v10 wx => v9 = .int .i64 3 ∧ v10 = .int .i64 0 ∧ gq = 1 ∧ wx = w1)
   case atStart => exact ⟨rfl, rfl, rfl, rfl⟩
   case round =>
    obtain ⟨rfl, rfl, _, rfl⟩ := hrel
    go_wp2
    rw [Exit.noGoto_ret]
    go_wp2
    go_ret
    exact ⟨rfl, Below.refl _ _⟩
theorem asc_all {l : List UInt8} (h : l.all (fun b => decide (b.toNat < 128)) = true) : ∀ (j : Nat) b, l[j]? = some b → b.toNat < 128 := fun j b hb => of_decide_eq_true (List.all_eq_true.1 h b (List.mem_of_getElem? hb))
theorem get_data (s : ByteArray) (k : Nat) (h : k < s.size) : s.data.toList[k]? = some (s.get! k) := by
 rw [Lib.data_getElem? s k h, ← get_at s k h, Nat.add_zero]
theorem noAny_high {s : List UInt8} {i : Nat} (h : Lib.NoAny s [13, 10] i) {x : UInt8} (hx : s[i]? = some x) (h128 : 128 ≤ x.toNat) : Lib.NoAny s [13, 10] (i + 1) := by
 refine h.succ hx ?_
 rw [Bool.eq_false_iff]
 intro hc
 simp only [List.contains_cons, List.contains_nil, Bool.or_false, Bool.or_eq_true, beq_iff_eq] at hc
 rcases hc with rfl | rfl <;> revert h128 <;> decide
set_option maxRecDepth 1000000 in
set_option maxHeartbeats 8000000 in
theorem indexAny_short (s : ByteArray) (w : World) (h8 : s.size ≤ 8) :
  Calls Tryd.prog 51 #[.string s, .string ⟨#[13, 10]⟩] w fun e w' => e = .returned (.int .i64 (Lib.indexAny s.data.toList [13, 10])) ∧ Below w.heap.size w w' := by
 have h8z : decide ((8 : Int) < (s.size : Int)) = false := decide_eq_false (by omega)
 go_enter Tryd.func51, Tryd.ntmps51
 go_wp2_with (go_at_call 68; refine (Tryd.strings_shouldUseASCIISet _ _).mono ?_; rw [h8z]; rintro e w' ⟨rfl, hw⟩; rw [hw]; clear hw w')
 go_wp2
 go_loopg [9, 10] s.size (fun gq _ _ wx => ∃ i : Nat, i + gq = s.size ∧ Aside0 (wx.heap[w.heap.size]? = some (.stringIter s i)) ∧ Aside0 (Below w.heap.size w wx) ∧ Aside0 (Lib.NoAny s.data.toList [13, 10] i))
 case atStart => exact ⟨0, by omega, am (World.iter_heap w s 0), am ((Below.refl _ _).alloc (Nat.le_refl _) _), am (Lib.NoAny.zero _ _)⟩
 case round =>
  obtain ⟨i, hig, HI, HB, HN⟩ := hrel
  cases gk with
  | zero =>
   obtain rfl : i = s.size := by omega
   have hnx := fun ty => Lib.run_next_end_at (P := Tryd.prog) wr w.heap.size s s.size ty HI.out (by omega)
   go_wp2
   go_ret
   exact ⟨by rw [Lib.indexAny_none (by rw [← Lib.size_eq]; exact HN.out)]; rfl, HB.out⟩
  | succ gq =>
   have hi : i < s.size := by omega
   obtain ⟨x, hx⟩ : ∃ x : UInt8, s[i]'hi = x := ⟨_, rfl⟩
   have hxl : s.data.toList[i]? = some x := by rw [← hx]; exact Lib.data_getElem? s i hi
   by_cases hx128 : x.toNat < 128
   ·
    have hnx := fun ty => Lib.run_next_ascii_at (P := Tryd.prog) wr w.heap.size s i ty HI.out hi (by rw [hx]; exact hx128)
    rw [hx] at hnx
    have Hx := am hxl
    have HI2 := am (Lib.iterAt_heap wr w.heap.size s i (i + 1) HI.out)
    have HB2 := am (Lib.below_iterAt HB.out (Nat.le_refl _) s (i + 1))
    generalize wr.iterAt w.heap.size s (i + 1) = w1 at *
    clear hxl hx HI HB
    have hcon := Lib.contains_iff_indexByte [13, 10] x
    have hback : ((x.toNat : Int)).toNat.toUInt8 = x := by simp
    have CI := fun w' => Tryd.strings_IndexRune_ascii ⟨#[13, 10]⟩ (x.toNat : Int) w' (by omega) (by omega)
    rw [hback] at CI
    cases hin : ([13, 10] : List UInt8).contains x
    ·
     rw [hin] at hcon
     have hlt : ¬ ((0 : Int) ≤ Lib.indexByte [13, 10] x) := of_decide_eq_false hcon.symm
     clear hcon
     go_wp2_with (go_at_call 67; refine (CI _).mono ?_; rintro e w2 ⟨rfl, hw⟩; rw [hw]; clear hw w2)
     go_roundg gq
     case measure => omega
     case rel => exact ⟨i + 1, by omega, HI2, HB2, am (HN.out.succ Hx.out hin)⟩
    ·
     rw [hin] at hcon
     have hge : (0 : Int) ≤ Lib.indexByte [13, 10] x := of_decide_eq_true hcon.symm
     clear hcon
     go_wp2_with (go_at_call 67; refine (CI _).mono ?_; rintro e w2 ⟨rfl, hw⟩; rw [hw]; clear hw w2)
     go_ret
     exact ⟨by rw [Lib.indexAny_hit HN.out Hx.out hin]; rfl, HB2.out⟩
   ·
    have hx2 : 128 ≤ (s[i]'hi).toNat := by rw [hx]; omega
    have hnx := fun ty => Lib.run_next_any_at (P := Tryd.prog) wr w.heap.size s i ty HI.out hi
    obtain ⟨d1, d2⟩ := decode_high s i hi hx2
    obtain ⟨s1, s2, s3, s4, hv⟩ := decode_span s i hi hx2
    have CI := fun w' => indexRune_high ((Utf8.decode s i).1 : Int) (by omega) hv w'
    generalize (Utf8.decode s i).1 = r at hnx CI
    generalize (Utf8.decode s i).2 = d at hnx d2 s1 s2 s3 s4
    have HI2 := am (Lib.iterAt_heap wr w.heap.size s i (i + d) HI.out)
    have HB2 := am (Lib.below_iterAt HB.out (Nat.le_refl _) s (i + d))
    generalize wr.iterAt w.heap.size s (i + d) = w1 at *
    have N1 := noAny_high HN.out hxl (by omega)
    have ND : i + d ≤ s.size ∧ Lib.NoAny s.data.toList [13, 10] (i + d) := by
     by_cases e1 : d = 1
     ·
      subst e1; exact ⟨hi, N1⟩
     ·
      have q1 := s1 (by omega)
      have N2 := noAny_high N1 (get_data s _ q1.1) q1.2
      by_cases e2 : d = 2
      ·
       subst e2; exact ⟨q1.1, N2⟩
      ·
       have q2 := s2 (by omega)
       have N3 := noAny_high N2 (get_data s _ q2.1) q2.2
       by_cases e3 : d = 3
       ·
        subst e3; exact ⟨q2.1, N3⟩
       ·
        have q3 := s3 (by omega)
        have N4 := noAny_high N3 (get_data s _ q3.1) q3.2
        obtain rfl : d = 4 := by omega
        exact ⟨q3.1, N4⟩
    have HD := am ND
    have hle := ND.1
    clear ND N1 s1 s2 s3 hv hxl hx hx128 hx2 HI HB d1
    go_wp2_with (go_at_call 67; refine (CI _).mono ?_; rintro e w2 ⟨rfl, hb⟩; have HI3 := am (blk_below HI2.out hb); have HB3 := am (below_step HB2.out hb); clear HI2 HB2 hb)
    go_roundg (gq + 1 - d)
    case measure => omega
    case rel => exact ⟨i + d, by omega, HI3, HB3, am HD.out.2⟩
theorem containsAny_calls (s : ByteArray) (w : World) (hs : s.size ≤ 2048) : Calls Tryd.prog 31 #[.string s, .string ⟨#[13, 10]⟩] w fun e w' => e = .returned (.bool (Lib.containsAny s.data.toList [13, 10])) ∧ Below w.heap.size w w' := by
 have C : Calls Tryd.prog 51 #[.string s, .string ⟨#[13, 10]⟩] w fun e w' => e = .returned (.int .i64 (Lib.indexAny s.data.toList [13, 10])) ∧ Below w.heap.size w w' := by
  by_cases h8 : s.size ≤ 8
  ·
   exact indexAny_short s w h8
  ·
   refine (Tryd.strings_IndexAny_long (zero_of_info (P := Tryd.prog) (show (Tryd.prog.info? 87).map (fun i => (i.zero, i.size)) = some (some (.agg (Array.replicate 256 (.bool false))), 256) by kernel_rfl)).1 s ⟨#[13, 10]⟩ w (by decide) (by omega) (by omega) (by decide) (asc_all (by decide))).mono ?_
   rintro e w' ⟨rfl, rfl⟩
   exact ⟨rfl, ((Below.refl _ _).alloc (Nat.le_refl _) _).alloc (by simp) _⟩
 go_enter Tryd.func31, Tryd.ntmps31
 go_wp2_with (go_at_call 51; refine C.mono ?_; rintro e w' ⟨rfl, hb⟩)
 go_ret
 exact ⟨rfl, hb⟩
theorem index_calls (s : ByteArray) (i : Int) (w : World) (hs : s.size < 2147483648) (hG : GG w) (hi : Lib.index s.data.toList [13, 10] = i) : Calls Tryd.prog 29 #[.string s, .string ⟨#[13, 10]⟩] w fun e w' => e = .returned (.int .i64 i) ∧ Below w.heap.size w w' := by
 obtain ⟨⟨m, hm⟩, _⟩ := hG
 refine (Tryd.strings_Index s ⟨#[13, 10]⟩ m w (by omega) hm).mono ?_
 rintro e w' ⟨rfl, rfl⟩
 subst hi
 exact ⟨rfl, Below.refl _ _⟩
theorem trimSuffix_calls (s : ByteArray) (w : World) (hs : s.size < 2147483648) : Calls Tryd.prog 30 #[.string s, .string ⟨#[13]⟩] w fun e w' => e = .returned (.string ⟨(Lib.trimSuffix s.data.toList [13]).toArray⟩) ∧ Below w.heap.size w w' := by
 refine (Tryd.strings_TrimSuffix s ⟨#[13]⟩ w (by omega)).mono ?_
 rintro e w' ⟨rfl, rfl⟩
 exact ⟨rfl, Below.refl _ _⟩
theorem wp_norm' {P : Program} {c : Code} {Q : Exit → Act → World → Prop} {a a' : Act} {w : World} (h : a = a') (k : c.wp P Q a' w) : c.wp P Q a w := h ▸ k
set_option maxRecDepth 100000 in
set_option maxHeartbeats 4000000 in
theorem catch_idle (a1 a2 a3 a4 : Addr) (w : World) :
  CallsD Tryd.prog 15 #[.pointer (some a1), .pointer (some a2), .pointer (some a3), .pointer (some a4)] .returning w fun e u' w' => e = .returned (.tuple #[]) ∧ u' = .returning ∧ w' = w := by
 refine callsD_of_wpS Tryd.func15 rfl fun c₀ cs hu => ?_
 apply wpS_seq
 apply wpS_region
 simp [wpOpsS, go_sem, recoverD, hu, Tryd.ntmps15, Exit.thenS]
 refine wpS_of_wp ?_
 refine wp_norm' (a' := { tmps := #[.pointer (some a1), .pointer (some a2), .pointer (some a3), .pointer (some a4), .nilIface, undef, undef, .nilIface, undef, undef, undef, undef, undef, undef, undef, undef, undef, undef, undef, undef, undef], defers := [] }) (by rfl) ?_
 go_wp2
 exact ⟨rfl, .returning, by rw [← hu], .tuple #[], results_none rfl _ _ _, rfl, rfl, rfl⟩
def Fell (c : Int) (e : Ending) : Prop := ∃ sh : Bool, e = .panicked [{ v := .iface 51 (.agg #[.int .i64 c, .bool sh]), recovered := false }]
structure Rd (g : Nat) (b : ByteArray) (p : Nat) (w0 W w : World) : Prop where
 hc : w.heap[g]? = some (.cells #[.string b, .int .i64 (p : Int)] 55 (0, 0))
 hb : Below w0.heap.size w0 w
 hk : KeepBut W w g none
 hg : GG w0
 hl : w0.heap.size ≤ g
section
variable {g p : Nat} {b : ByteArray} {w0 W w w' : World}
theorem Rd.gg (h : Rd g b p w0 W w) : GG w := gg_below h.hg h.hb
theorem keep_below {w w1 w2 : World} {g : Nat} (h : KeepBut w w1 g none) (hb : Below w1.heap.size w1 w2) : KeepBut w w2 g none :=
 ⟨Nat.le_trans h.1 hb.size, fun i hi hg hr => (hb.block i (Nat.lt_of_lt_of_le hi h.1)).trans (h.2 i hi hg hr)⟩
theorem Rd.step (h : Rd g b p w0 W w) (hb : Below w.heap.size w w') : Rd g b p w0 W w' := ⟨blk_below h.hc hb, below_step h.hb hb, keep_below h.hk hb, h.hg, h.hl⟩
theorem Rd.drew (h : Rd g b p w0 W w) : Rd g b p w0 W w.drew := ⟨h.hc, h.hb.drew, h.hk, h.hg, h.hl⟩
theorem Rd.put (h : Rd g b p w0 W w) (q : Nat) : Rd g b q w0 W (w.setCell ⟨g, 1, none⟩ (.int .i64 (q : Int))) := ⟨blk_put h.hc 1 _ rfl, below_set h.hb h.hl, h.hk.set_ 1 _, h.hg, h.hl⟩
theorem Rd.here (h : Rd g b p w0 W w) : Rd g b p w0 w w := ⟨h.hc, h.hb, KeepBut.refl _ _ _, h.hg, h.hl⟩
theorem rdw {p q : Prop} (h : p) (t : p → q := by intro h; (with_reducible repeat (first | exact h | refine Rd.drew ?_))) : q := t h
end
theorem panic_run (T : TypeId) (x : Value) (w : World) : Sem.run Tryd.prog (Instr.panic (.iface T x)) w = .halt (.panic (.iface T x)) w := rfl
theorem fail_calls (c : Int) (w : World) : Calls Tryd.prog 38 #[.int .i64 c] w fun e w' => Fell c e ∧ Below w.heap.size w w' := by
 have hpn := panic_run
 go_enter Tryd.func38, Tryd.ntmps38
 go_wp2
 exact ⟨rfl, ⟨false, rfl⟩, Below.refl _ _⟩
theorem check_yes (c : Int) (w : World) : Calls Tryd.prog 23 #[.bool true, .int .i64 c] w fun e w' => (∃ v, e = .returned v) ∧ Below w.heap.size w w' := by
 go_enter Tryd.func23, Tryd.ntmps23
 go_wp2
 go_end0
 exact ⟨⟨_, rfl⟩, Below.refl _ _⟩
theorem check_no (c : Int) (w : World) : Calls Tryd.prog 23 #[.bool false, .int .i64 c] w fun e w' => Fell c e ∧ Below w.heap.size w w' := by
 go_enter Tryd.func23, Tryd.ntmps23
 go_wp2_with (go_at_call 38; (with_reducible refine (fail_calls c _).mono ?_); rintro e w1 ⟨⟨sh, rfl⟩, hb⟩)
 exact ⟨rfl, ⟨sh, rfl⟩, hb⟩
theorem bytes_bad (g n : Nat) (b : ByteArray) (p : Nat) (w0 W w : World) (H : Rd g b p w0 W w) (hp : p ≤ b.size) (hb : b.size < 2147483648) (hn : b.size - p < n) (hn2 : n < 2147483648) :
  Calls Tryd.prog 20 #[.pointer (some ⟨g, 0, none⟩), .int .i64 (n : Int)] w fun e w' => Fell 0 e ∧ Rd g b p w0 W w' := by
 have hpn := panic_run
 obtain ⟨c0, c1, f0, f1⟩ := cz2 H.hc
 have HR := am H
 clear H
 go_enter Tryd.func20, Tryd.ntmps20
 go_wp2
 go_region
 go_wp2
 exact ⟨rfl, ⟨true, rfl⟩, rdw HR.out⟩
theorem bytes_ok (g n : Nat) (b : ByteArray) (p : Nat) (w0 W w : World) (H : Rd g b p w0 W w) (hp : p ≤ b.size) (hb : b.size < 2147483648) (hn : p + n ≤ b.size) :
  Calls Tryd.prog 20 #[.pointer (some ⟨g, 0, none⟩), .int .i64 (n : Int)] w fun e w' => e = .returned (.string (b.extract p (p + n))) ∧ Rd g b (p + n) w0 W w' := by
 obtain ⟨c0, c1, f0, f1⟩ := cz2 H.hc
 have HR := am H
 clear H
 have e1 : IntKind.i64.wrap (p : Int) = p := IntWalk.i64_in _ (by omega)
 have e2 : (p : Int) + n ≤ b.size := by omega
 have e3 : (p : Int) ≤ (p : Int) + n := by omega
 have e4 : (0 : Int) ≤ p := by omega
 go_enter Tryd.func20, Tryd.ntmps20
 go_wp2
 go_region
 go_wp2
 go_region
 go_wp2
 go_ret
 refine ⟨rfl, ?_⟩
 rw [← Int.natCast_add]
 exact rdw (HR.out.put (p + n))
end Go.Proofs.YtcecdbbomadppaaDoor.Hw
end
section
namespace Go.Proofs.YtcecdbbomadppaaDoor.Hw
open Go Go.RowKit Go.Proofs.YtcecdbbomadppaaDoorW.PrintWords Go.Proofs.YtcecdbbomadppaaDoorW.PrintLast Go.Proofs.YtcecdbbomadppaaDoorW.PrintMore
set_option linter.unusedVariables false
set_option linter.unusedSimpArgs false
theorem drop_data (b : ByteArray) (p : Nat) : (b.extract p b.size).data.toList = b.data.toList.drop p := by
 rw [Lib.extract_data, List.take_of_length_le]
 rw [List.length_drop, ← Lib.size_eq]
 omega
theorem take_data (b : ByteArray) (i : Nat) : (b.extract 0 i).data.toList = b.data.toList.take i := by
 rw [Lib.extract_data, List.drop_zero, Nat.sub_zero]
set_option maxRecDepth 100000 in
set_option maxHeartbeats 2000000 in
theorem line_ok (g : Nat) (b : ByteArray) (p i : Nat) (w0 W w : World) (H : Rd g b p w0 W w) (hp : p ≤ b.size) (hb : b.size < 2147483648)
  (hi : Lib.index (b.extract p b.size).data.toList [13, 10] = i) (hl : i ≤ 2048) (hroom : i + 2 ≤ (b.extract p b.size).size) (hc : Lib.containsAny ((b.extract p b.size).extract 0 i).data.toList [13, 10] = false) :
  Calls Tryd.prog 17 #[.pointer (some ⟨g, 0, none⟩)] w fun e w' => e = .returned (.string ((b.extract p b.size).extract 0 i)) ∧ Rd g b (p + (i + 2)) w0 W w' := by
 obtain ⟨c0, c1, f0, f1⟩ := cz2 H.hc
 have HR := am H
 clear H
 have hsz : (b.extract p b.size).size = b.size - p := by rw [ByteArray.size_extract]; omega
 have e1 : (p : Int) ≤ b.size := by omega
 have e2 : (0 : Int) ≤ p := by omega
 have e3 : ((i : Int) < 0) = False := eq_false (by omega)
 have e4 : decide ((i : Int) ≤ 2048) = true := decide_eq_true (by omega)
 have e5 : (i : Int) ≤ (b.extract p b.size).size := by omega
 have e6 : (0 : Int) ≤ i := by omega
 have e7 : ((b.extract p b.size).extract 0 i).size ≤ 2048 := by rw [ByteArray.size_extract]; omega
 generalize hrest : b.extract p b.size = rest at *
 have CI := index_calls rest (i : Int) w.drew (by omega) HR.out.gg.drew hi
 have CA := fun w' => containsAny_calls (rest.extract 0 i) w' e7
 simp only [hc] at CA
 go_enter Tryd.func17, Tryd.ntmps17
 go_wp2
 go_region
 go_wp2_with (first
  | (go_at_call 29; refine CI.mono ?_; rintro e w1 ⟨rfl, hb1⟩; replace HR := am ((rdw HR.out : Rd g b p w0 W _).step hb1); clear c0 c1 f0 f1 hb1; obtain ⟨c0, c1, f0, f1⟩ := cz2 HR.out.hc)
  | (go_at_call 23; (refine (check_yes 192 _).mono ?_); rintro e w2 ⟨⟨v2, rfl⟩, hb2⟩; replace HR := am ((rdw HR.out : Rd g b p w0 W _).step hb2); clear c0 c1 f0 f1 hb2; obtain ⟨c0, c1, f0, f1⟩ := cz2 HR.out.hc)
  | (go_at_call 31; (refine (CA _).mono ?_); rintro e w3 ⟨rfl, hb3⟩; replace HR := am ((rdw HR.out : Rd g b p w0 W _).step hb3); clear c0 c1 f0 f1 hb3; obtain ⟨c0, c1, f0, f1⟩ := cz2 HR.out.hc)
  | (go_at_call 23; (refine (check_yes 190 _).mono ?_); rintro e w4 ⟨⟨v4, rfl⟩, hb4⟩; replace HR := am ((rdw HR.out : Rd g b p w0 W _).step hb4); clear c0 c1 f0 f1 hb4; obtain ⟨c0, c1, f0, f1⟩ := cz2 HR.out.hc))
 go_ret
 refine ⟨rfl, ?_⟩
 have q := HR.out.put (p + (i + 2))
 rw [show ((p + (i + 2) : Nat) : Int) = (p : Int) + ((i : Int) + 2) by omega] at q
 exact rdw q
set_option maxRecDepth 100000 in
set_option maxHeartbeats 2000000 in
theorem line_none (g : Nat) (b : ByteArray) (p : Nat) (w0 W w : World) (H : Rd g b p w0 W w) (hp : p ≤ b.size) (hb : b.size < 2147483648)
  (hi : Lib.index (b.extract p b.size).data.toList [13, 10] = -1) (hl : (Lib.trimSuffix (b.extract p b.size).data.toList [13]).length ≤ 2048) :
  Calls Tryd.prog 17 #[.pointer (some ⟨g, 0, none⟩)] w fun e w' => Fell 0 e ∧ Rd g b p w0 W w' := by
 have hpn := panic_run
 obtain ⟨c0, c1, f0, f1⟩ := cz2 H.hc
 have HR := am H
 clear H
 have hsz : (b.extract p b.size).size = b.size - p := by rw [ByteArray.size_extract]; omega
 have e1 : (p : Int) ≤ b.size := by omega
 have e2 : (0 : Int) ≤ p := by omega
 generalize hrest : b.extract p b.size = rest at *
 have e4 : decide ((((⟨(Lib.trimSuffix rest.data.toList [13]).toArray⟩ : ByteArray).size : Nat) : Int) ≤ 2048) = true := decide_eq_true (by have : (⟨(Lib.trimSuffix rest.data.toList [13]).toArray⟩ : ByteArray).size = (Lib.trimSuffix rest.data.toList [13]).length := rfl; omega)
 have CI := index_calls rest (-1) w.drew (by omega) HR.out.gg.drew hi
 have CT := fun w' => trimSuffix_calls rest w' (by omega)
 generalize (⟨(Lib.trimSuffix rest.data.toList [13]).toArray⟩ : ByteArray) = tt at *
 go_enter Tryd.func17, Tryd.ntmps17
 go_wp2
 go_region
 go_wp2_with (first
  | (go_at_call 29; refine CI.mono ?_; rintro e w1 ⟨rfl, hb1⟩; replace HR := am ((rdw HR.out : Rd g b p w0 W _).step hb1); clear c0 c1 f0 f1 hb1)
  | (go_at_call 30; refine (CT _).mono ?_; rintro e w2 ⟨rfl, hb2⟩; replace HR := am ((rdw HR.out : Rd g b p w0 W _).step hb2); clear hb2)
  | (go_at_call 23; (refine (check_yes 192 _).mono ?_); rintro e w3 ⟨⟨v3, rfl⟩, hb3⟩; replace HR := am ((rdw HR.out : Rd g b p w0 W _).step hb3); clear hb3))
 exact ⟨rfl, ⟨true, rfl⟩, rdw HR.out⟩
set_option maxRecDepth 100000 in
set_option maxHeartbeats 2000000 in
theorem line_long (g : Nat) (b : ByteArray) (p : Nat) (w0 W w : World) (H : Rd g b p w0 W w) (hp : p ≤ b.size) (hb : b.size < 2147483648)
  (hi : Lib.index (b.extract p b.size).data.toList [13, 10] = -1) (hl : 2048 < (Lib.trimSuffix (b.extract p b.size).data.toList [13]).length) :
  Calls Tryd.prog 17 #[.pointer (some ⟨g, 0, none⟩)] w fun e w' => Fell 192 e ∧ Rd g b p w0 W w' := by
 obtain ⟨c0, c1, f0, f1⟩ := cz2 H.hc
 have HR := am H
 clear H
 have hsz : (b.extract p b.size).size = b.size - p := by rw [ByteArray.size_extract]; omega
 have e1 : (p : Int) ≤ b.size := by omega
 have e2 : (0 : Int) ≤ p := by omega
 generalize hrest : b.extract p b.size = rest at *
 have e4 : decide ((((⟨(Lib.trimSuffix rest.data.toList [13]).toArray⟩ : ByteArray).size : Nat) : Int) ≤ 2048) = false := decide_eq_false (by have : (⟨(Lib.trimSuffix rest.data.toList [13]).toArray⟩ : ByteArray).size = (Lib.trimSuffix rest.data.toList [13]).length := rfl; omega)
 have CI := index_calls rest (-1) w.drew (by omega) HR.out.gg.drew hi
 have CT := fun w' => trimSuffix_calls rest w' (by omega)
 generalize (⟨(Lib.trimSuffix rest.data.toList [13]).toArray⟩ : ByteArray) = tt at *
 go_enter Tryd.func17, Tryd.ntmps17
 go_wp2
 go_region
 go_wp2_with (first
  | (go_at_call 29; refine CI.mono ?_; rintro e w1 ⟨rfl, hb1⟩; replace HR := am ((rdw HR.out : Rd g b p w0 W _).step hb1); clear c0 c1 f0 f1 hb1)
  | (go_at_call 30; refine (CT _).mono ?_; rintro e w2 ⟨rfl, hb2⟩; replace HR := am ((rdw HR.out : Rd g b p w0 W _).step hb2); clear hb2)
  | (go_at_call 23; (refine (check_no 192 _).mono ?_); rintro e w3 ⟨⟨sh, rfl⟩, hb3⟩; replace HR := am ((rdw HR.out : Rd g b p w0 W _).step hb3); clear hb3))
 exact ⟨rfl, ⟨sh, rfl⟩, rdw HR.out⟩
set_option maxRecDepth 100000 in
set_option maxHeartbeats 2000000 in
theorem line_far (g : Nat) (b : ByteArray) (p i : Nat) (w0 W w : World) (H : Rd g b p w0 W w) (hp : p ≤ b.size) (hb : b.size < 2147483648)
  (hi : Lib.index (b.extract p b.size).data.toList [13, 10] = i) (hl : 2048 < i) :
  Calls Tryd.prog 17 #[.pointer (some ⟨g, 0, none⟩)] w fun e w' => Fell 192 e ∧ Rd g b p w0 W w' := by
 obtain ⟨c0, c1, f0, f1⟩ := cz2 H.hc
 have HR := am H
 clear H
 have hsz : (b.extract p b.size).size = b.size - p := by rw [ByteArray.size_extract]; omega
 have e1 : (p : Int) ≤ b.size := by omega
 have e2 : (0 : Int) ≤ p := by omega
 have e3 : ((i : Int) < 0) = False := eq_false (by omega)
 have e4 : decide ((i : Int) ≤ 2048) = false := decide_eq_false (by omega)
 generalize hrest : b.extract p b.size = rest at *
 have CI := index_calls rest (i : Int) w.drew (by omega) HR.out.gg.drew hi
 go_enter Tryd.func17, Tryd.ntmps17
 go_wp2
 go_region
 go_wp2_with (first
  | (go_at_call 29; refine CI.mono ?_; rintro e w1 ⟨rfl, hb1⟩; replace HR := am ((rdw HR.out : Rd g b p w0 W _).step hb1); clear c0 c1 f0 f1 hb1)
  | (go_at_call 23; (refine (check_no 192 _).mono ?_); rintro e w3 ⟨⟨sh, rfl⟩, hb3⟩; replace HR := am ((rdw HR.out : Rd g b p w0 W _).step hb3); clear hb3))
 exact ⟨rfl, ⟨sh, rfl⟩, rdw HR.out⟩
set_option maxRecDepth 100000 in
set_option maxHeartbeats 2000000 in
theorem line_odd (g : Nat) (b : ByteArray) (p i : Nat) (w0 W w : World) (H : Rd g b p w0 W w) (hp : p ≤ b.size) (hb : b.size < 2147483648)
  (hi : Lib.index (b.extract p b.size).data.toList [13, 10] = i) (hl : i ≤ 2048) (hroom : i + 2 ≤ (b.extract p b.size).size) (hc : Lib.containsAny ((b.extract p b.size).extract 0 i).data.toList [13, 10] = true) :
  Calls Tryd.prog 17 #[.pointer (some ⟨g, 0, none⟩)] w fun e w' => Fell 190 e ∧ Rd g b p w0 W w' := by
 obtain ⟨c0, c1, f0, f1⟩ := cz2 H.hc
 have HR := am H
 clear H
 have hsz : (b.extract p b.size).size = b.size - p := by rw [ByteArray.size_extract]; omega
 have e1 : (p : Int) ≤ b.size := by omega
 have e2 : (0 : Int) ≤ p := by omega
 have e3 : ((i : Int) < 0) = False := eq_false (by omega)
 have e4 : decide ((i : Int) ≤ 2048) = true := decide_eq_true (by omega)
 have e5 : (i : Int) ≤ (b.extract p b.size).size := by omega
 have e6 : (0 : Int) ≤ i := by omega
 have e7 : ((b.extract p b.size).extract 0 i).size ≤ 2048 := by rw [ByteArray.size_extract]; omega
 generalize hrest : b.extract p b.size = rest at *
 have CI := index_calls rest (i : Int) w.drew (by omega) HR.out.gg.drew hi
 have CA := fun w' => containsAny_calls (rest.extract 0 i) w' e7
 simp only [hc] at CA
 go_enter Tryd.func17, Tryd.ntmps17
 go_wp2
 go_region
 go_wp2_with (first
  | (go_at_call 29; refine CI.mono ?_; rintro e w1 ⟨rfl, hb1⟩; replace HR := am ((rdw HR.out : Rd g b p w0 W _).step hb1); clear c0 c1 f0 f1 hb1)
  | (go_at_call 23; (refine (check_yes 192 _).mono ?_); rintro e w2 ⟨⟨v2, rfl⟩, hb2⟩; replace HR := am ((rdw HR.out : Rd g b p w0 W _).step hb2); clear hb2)
  | (go_at_call 31; (refine (CA _).mono ?_); rintro e w3 ⟨rfl, hb3⟩; replace HR := am ((rdw HR.out : Rd g b p w0 W _).step hb3); clear hb3)
  | (go_at_call 23; (refine (check_no 190 _).mono ?_); rintro e w4 ⟨⟨sh, rfl⟩, hb4⟩; replace HR := am ((rdw HR.out : Rd g b p w0 W _).step hb4); clear hb4))
 exact ⟨rfl, ⟨sh, rfl⟩, rdw HR.out⟩
theorem ba_eq {x : ByteArray} {l : List UInt8} (h : x.data.toList = l) : x = ⟨l.toArray⟩ := by
 subst h
 exact (Lib.mk_data x).symm
theorem line_good (g : Nat) (b : ByteArray) (p : Nat) (w0 W w : World) (H : Rd g b p w0 W w) (hp : p ≤ b.size) (hb : b.size < 2147483648) {s r : Ht.B} (h : Ht.pline (b.data.toList.drop p) = .ok (s, r)) :
  ∃ q, q ≤ b.size ∧ p + 2 ≤ q ∧ r = b.data.toList.drop q ∧ s.length ≤ 2048 ∧ Calls Tryd.prog 17 #[.pointer (some ⟨g, 0, none⟩)] w fun e w' => e = .returned (.string ⟨s.toArray⟩) ∧ Rd g b q w0 W w' := by
 have hd := drop_data b p
 have hsz : (b.extract p b.size).size = b.size - p := by rw [ByteArray.size_extract]; omega
 unfold Ht.pline at h
 rcases Ht.cutLine_index (b.data.toList.drop p) with ⟨h1, h2⟩ | ⟨i, h1, h2, h3⟩
 ·
  rw [h2] at h
  simp only at h
  split at h <;> cases h
 ·
  rw [h3] at h
  simp only at h
  split at h
  ·
   rename_i hl
   split at h
   ·
    cases h
   ·
    rename_i ho
    cases h
    have hlen : (b.data.toList.drop p).length = b.size - p := by rw [List.length_drop, ← Lib.size_eq]
    rw [List.length_take, hlen] at hl
    rw [hlen] at h2
    refine ⟨p + (i + 2), by omega, by omega, by rw [List.drop_drop], by rw [List.length_take, hlen]; omega, ?_⟩
    have hA : ((b.extract p b.size).extract 0 i).data.toList = (b.data.toList.drop p).take i := by rw [take_data, hd]
    have C := line_ok g b p i w0 W w H hp hb (by rw [hd]; exact h1) (by omega) (by omega) (by rw [hA, Ht.any_eq]; exact Bool.eq_false_iff.mpr ho)
    rw [ba_eq hA] at C
    exact C
  ·
   cases h
theorem line_fell (g : Nat) (b : ByteArray) (p : Nat) (w0 W w : World) (H : Rd g b p w0 W w) (hp : p ≤ b.size) (hb : b.size < 2147483648) {c : Int} (h : Ht.pline (b.data.toList.drop p) = .bad c) :
  Calls Tryd.prog 17 #[.pointer (some ⟨g, 0, none⟩)] w fun e w' => Fell c e ∧ Rd g b p w0 W w' := by
 have hd := drop_data b p
 have hsz : (b.extract p b.size).size = b.size - p := by rw [ByteArray.size_extract]; omega
 unfold Ht.pline at h
 rcases Ht.cutLine_index (b.data.toList.drop p) with ⟨h1, h2⟩ | ⟨i, h1, h2, h3⟩
 ·
  rw [h2] at h
  simp only at h
  rw [← Ht.untail_eq] at h
  split at h
  ·
   rename_i hl
   cases h
   exact line_none g b p w0 W w H hp hb (by rw [hd]; exact h1) (by rw [hd]; exact hl)
  ·
   rename_i hl
   cases h
   exact line_long g b p w0 W w H hp hb (by rw [hd]; exact h1) (by rw [hd]; omega)
 ·
  rw [h3] at h
  have hlen : (b.data.toList.drop p).length = b.size - p := by rw [List.length_drop, ← Lib.size_eq]
  rw [hlen] at h2
  simp only at h
  rw [List.length_take, hlen] at h
  split at h
  ·
   rename_i hl
   split at h
   ·
    rename_i ho
    cases h
    have hA : ((b.extract p b.size).extract 0 i).data.toList = (b.data.toList.drop p).take i := by rw [take_data, hd]
    exact line_odd g b p i w0 W w H hp hb (by rw [hd]; exact h1) (by omega) (by omega) (by rw [hA, Ht.any_eq]; exact ho)
   ·
    cases h
  ·
   rename_i hl
   cases h
   exact line_far g b p i w0 W w H hp hb (by rw [hd]; exact h1) (by omega)
theorem drop_cons (s : ByteArray) (i : Nat) (hi : i < s.size) : s.data.toList.drop i = s[i]'hi :: s.data.toList.drop (i + 1) := by
 have h : i < s.data.toList.length := by rw [← Lib.size_eq]; exact hi
 rw [List.drop_eq_getElem_cons h]
 rfl
theorem drop_all (s : ByteArray) : s.data.toList.drop s.size = [] := List.drop_eq_nil_of_le (by rw [← Lib.size_eq]; omega)
set_option maxRecDepth 100000 in
set_option maxHeartbeats 4000000 in
theorem value_calls (s : ByteArray) (hs : s.size < 2147483648) (w : World) : Calls Tryd.prog 35 #[.string s] w fun e w' => e = .returned (.bool (Ht.value s.data.toList)) ∧ Below w.heap.size w w' := by
 go_enter Tryd.func35, Tryd.ntmps35
 go_wp2
 go_loopg [6] s.size (fun gq v6 wx => ∃ i : Nat, i + gq = s.size ∧ v6 = .int .i64 (i : Int) ∧ Aside0 (Below w.heap.size w wx) ∧ Aside0 (Ht.value s.data.toList = Ht.value (s.data.toList.drop i)))
 case atStart => exact ⟨0, by omega, rfl, am (Below.refl _ _), am rfl⟩
 case round =>
  obtain ⟨i, hig, rfl, HB, HV⟩ := hrel
  cases gk with
  | zero =>
   obtain rfl : i = s.size := by omega
   go_wp2
   go_ret
   exact ⟨by rw [HV.out, drop_all]; rfl, bws HB.out⟩
  | succ gq =>
   have hi : i < s.size := by omega
   have hd := drop_cons s i hi
   generalize hx : s[i]'hi = x at hd
   have hx0 := x.toNat_lt
   by_cases hv : Ht.isVal x = true
   ·
    have HV2 := am (show Ht.value s.data.toList = Ht.value (s.data.toList.drop (i + 1)) by rw [HV.out, hd]; unfold Ht.value; rw [List.all_cons, hv]; rfl)
    have hn : (32 ≤ x.toNat ∧ x.toNat ≤ 126) ∨ x.toNat = 9 := by
     unfold Ht.isVal at hv
     simp only [Bool.or_eq_true, Bool.and_eq_true, decide_eq_true_eq, beq_iff_eq] at hv
     rcases hv with ⟨a, b⟩ | rfl
     ·
      exact .inl ⟨a, b⟩
     ·
      exact .inr rfl
    clear HV hv hd
    rcases hn with ⟨h1, h2⟩ | h1
    ·
     go_wp2
     go_roundg gq
     case measure => omega
     case rel => exact ⟨i + 1, by omega, (by first | rfl | (congr 1; omega)), am (bws HB.out), HV2⟩
    ·
     have h3 : ((x.toNat : Int) == 9) = true := beq_iff_eq.2 (by omega)
     have h4 : ((x.toNat : Int) != 9) = false := bne_eq_false_iff_eq.2 (by omega)
     go_wp2
     go_roundg gq
     case measure => omega
     case rel => exact ⟨i + 1, by omega, (by first | rfl | (congr 1; omega)), am (bws HB.out), HV2⟩
   ·
    have HV2 : Aside0 (Ht.value s.data.toList = false) := am (by rw [HV.out, hd]; unfold Ht.value; rw [List.all_cons, Bool.eq_false_iff.mpr hv]; rfl)
    have hn : (x.toNat < 32 ∨ 126 < x.toNat) ∧ x.toNat ≠ 9 := by
     refine ⟨Decidable.byContradiction fun hc => hv ?_, fun hc => hv ?_⟩
     ·
      unfold Ht.isVal
      rw [Bool.or_eq_true, Bool.and_eq_true]
      exact .inl ⟨decide_eq_true (show 32 ≤ x.toNat by omega), decide_eq_true (show x.toNat ≤ 126 by omega)⟩
     ·
      rw [show x = 9 from UInt8.toNat_inj.1 hc]; rfl
    clear HV hv hd
    obtain ⟨hn, hn9⟩ := hn
    have h3 : ((x.toNat : Int) == 9) = false := beq_eq_false_iff_ne.2 (by omega)
    have h4 : ((x.toNat : Int) != 9) = true := bne_iff_ne.2 (by omega)
    rcases hn with h1 | h1
    ·
     go_wp2
     go_ret
     exact ⟨by rw [HV2.out]; rfl, bws HB.out⟩
    ·
     go_wp2
     go_ret
     exact ⟨by rw [HV2.out]; rfl, bws HB.out⟩
set_option maxRecDepth 100000 in
set_option maxHeartbeats 4000000 in
theorem target_calls (s : ByteArray) (hs : s.size < 2147483648) (w : World) : Calls Tryd.prog 26 #[.string s] w fun e w' => e = .returned (.bool (Ht.target s.data.toList)) ∧ Below w.heap.size w w' := by
 go_enter Tryd.func26, Tryd.ntmps26
 go_wp2
 go_loopg [6] s.size (fun gq v6 wx => ∃ i : Nat, i + gq = s.size ∧ v6 = .int .i64 (i : Int) ∧ Aside0 (Below w.heap.size w wx) ∧ Aside0 (Ht.target s.data.toList = Ht.target (s.data.toList.drop i)))
 case atStart => exact ⟨0, by omega, rfl, am (Below.refl _ _), am rfl⟩
 case round =>
  obtain ⟨i, hig, rfl, HB, HV⟩ := hrel
  cases gk with
  | zero =>
   obtain rfl : i = s.size := by omega
   go_wp2
   go_ret
   exact ⟨by rw [HV.out, drop_all]; rfl, bws HB.out⟩
  | succ gq =>
   have hi : i < s.size := by omega
   have hd := drop_cons s i hi
   generalize hx : s[i]'hi = x at hd
   have hx0 := x.toNat_lt
   by_cases hv : Ht.isTgt x = true
   ·
    have HV2 := am (show Ht.target s.data.toList = Ht.target (s.data.toList.drop (i + 1)) by rw [HV.out, hd]; unfold Ht.target; rw [List.all_cons, hv]; rfl)
    have hn : (33 ≤ x.toNat ∧ x.toNat ≤ 126) ∧ x.toNat ≠ 35 := by
     unfold Ht.isTgt at hv
     simp only [Bool.and_eq_true, decide_eq_true_eq, bne_iff_ne] at hv
     exact ⟨hv.1, fun h => hv.2 (UInt8.toNat_inj.1 h)⟩
    clear HV hv hd
    obtain ⟨⟨h1, h2⟩, h5⟩ := hn
    have h3 : ((x.toNat : Int) == 35) = false := beq_eq_false_iff_ne.2 (by omega)
    ·
     go_wp2
     go_roundg gq
     case measure => omega
     case rel => exact ⟨i + 1, by omega, (by first | rfl | (congr 1; omega)), am (bws HB.out), HV2⟩
   ·
    have HV2 : Aside0 (Ht.target s.data.toList = false) := am (by rw [HV.out, hd]; unfold Ht.target; rw [List.all_cons, Bool.eq_false_iff.mpr hv]; rfl)
    have hn : x.toNat < 33 ∨ 126 < x.toNat ∨ x.toNat = 35 := by
     refine Decidable.byContradiction fun hc => hv ?_
     unfold Ht.isTgt
     rw [Bool.and_eq_true, Bool.and_eq_true]
     exact ⟨⟨decide_eq_true (show 33 ≤ x.toNat by omega), decide_eq_true (show x.toNat ≤ 126 by omega)⟩, bne_iff_ne.2 fun h => by rw [h] at hc; exact hc (.inr (.inr rfl))⟩
    clear HV hv hd
    rcases hn with h1 | h1 | h1
    ·
     go_wp2
     go_ret
     exact ⟨by rw [HV2.out]; rfl, bws HB.out⟩
    ·
     go_wp2
     go_ret
     exact ⟨by rw [HV2.out]; rfl, bws HB.out⟩
    ·
     have h3 : ((x.toNat : Int) == 35) = true := beq_iff_eq.2 (by omega)
     go_wp2
     go_ret
     exact ⟨by rw [HV2.out]; rfl, bws HB.out⟩
theorem marks_calls (x : UInt8) (w : World) : Calls Tryd.prog 69 #[.string ⟨#[33, 35, 36, 37, 38, 39, 42, 43, 45, 46, 94, 95, 96, 124, 126]⟩, .int .u8 (x.toNat : Int)] w fun e w' => (∃ ib : Int, e = .returned (.int .i64 ib) ∧ Aside0 (Ht.marks.contains x = decide (0 ≤ ib))) ∧ w' = w := by
 refine (Tryd.strings_IndexByte _ _ w).mono ?_
 rw [show ((x.toNat : Int)).toNat.toUInt8 = x by simp]
 rintro e w' ⟨rfl, rfl⟩
 exact ⟨⟨_, rfl, am (Lib.contains_iff_indexByte Ht.marks x)⟩, rfl⟩
set_option maxRecDepth 100000 in
set_option maxHeartbeats 4000000 in
theorem token_calls (s : ByteArray) (hs : s.size < 2147483648) (w : World) : Calls Tryd.prog 52 #[.string s] w fun e w' => e = .returned (.bool (Ht.token s.data.toList)) ∧ Below w.heap.size w w' := by
 go_enter Tryd.func52, Tryd.ntmps52
 go_wp2
 go_loopg [7] s.size (fun gq v6 wx => ∃ i : Nat, i + gq = s.size ∧ v6 = .int .i64 (i : Int) ∧ Aside0 (Below w.heap.size w wx) ∧ Aside0 (Ht.token s.data.toList = ((s.data.toList.drop i).all Ht.isTok && !s.data.toList.isEmpty)))
 case atStart => exact ⟨0, by omega, rfl, am (Below.refl _ _), am rfl⟩
 case round =>
  obtain ⟨i, hig, rfl, HB, HV⟩ := hrel
  cases gk with
  | zero =>
   obtain rfl : i = s.size := by omega
   have hem : s.toList.isEmpty = s.data.toList.isEmpty := by rw [Lib.toList_data]
   have HV3 := am (show Ht.token s.data.toList = !s.data.toList.isEmpty by rw [HV.out, drop_all]; rfl)
   go_wp2
   go_ret
   exact ⟨by rw [HV3.out]; simp [hem], bws HB.out⟩
  | succ gq =>
   have hi : i < s.size := by omega
   have hd := drop_cons s i hi
   generalize hx : s[i]'hi = x at hd
   have hx0 := x.toNat_lt
   by_cases hv : Ht.isTok x = true
   ·
    have HV2 := am (show Ht.token s.data.toList = ((s.data.toList.drop (i + 1)).all Ht.isTok && !s.data.toList.isEmpty) by rw [HV.out, hd]; rw [List.all_cons, hv, Bool.true_and])
    have hn : (97 ≤ x.toNat ∧ x.toNat ≤ 122) ∨ (65 ≤ x.toNat ∧ x.toNat ≤ 90) ∨ (48 ≤ x.toNat ∧ x.toNat ≤ 57) ∨ ((x.toNat < 48 ∨ (57 < x.toNat ∧ x.toNat < 65) ∨ (90 < x.toNat ∧ x.toNat < 97) ∨ 122 < x.toNat) ∧ Ht.marks.contains x = true) := by
     unfold Ht.isTok Ht.isLow Ht.isUp Ht.isDig at hv
     simp only [Bool.or_eq_true, Bool.and_eq_true, decide_eq_true_eq] at hv
     have c1 : ∀ a b : UInt8, a ≤ b ↔ a.toNat ≤ b.toNat := fun _ _ => Iff.rfl
     simp only [c1] at hv
     simp only [show (97 : UInt8).toNat = 97 from rfl, show (122 : UInt8).toNat = 122 from rfl, show (65 : UInt8).toNat = 65 from rfl, show (90 : UInt8).toNat = 90 from rfl, show (48 : UInt8).toNat = 48 from rfl, show (57 : UInt8).toNat = 57 from rfl] at hv
     rcases hv with ((h | h) | h) | h
     ·
      exact .inl h
     ·
      exact .inr (.inl h)
     ·
      exact .inr (.inr (.inl h))
     ·
      by_cases q : (x.toNat < 48 ∨ (57 < x.toNat ∧ x.toNat < 65) ∨ (90 < x.toNat ∧ x.toNat < 97) ∨ 122 < x.toNat)
      ·
       exact .inr (.inr (.inr ⟨q, h⟩))
      ·
       omega
    clear HV hv hd
    rcases hn with ⟨h1, h2⟩ | ⟨h1, h2⟩ | ⟨h1, h2⟩ | ⟨hn, hm⟩
    ·
     go_wp2
     go_roundg gq
     case measure => omega
     case rel => exact ⟨i + 1, by omega, (by first | rfl | (congr 1; omega)), am (bws HB.out), HV2⟩
    ·
     go_wp2
     go_roundg gq
     case measure => omega
     case rel => exact ⟨i + 1, by omega, (by first | rfl | (congr 1; omega)), am (bws HB.out), HV2⟩
    ·
     go_wp2
     go_roundg gq
     case measure => omega
     case rel => exact ⟨i + 1, by omega, (by first | rfl | (congr 1; omega)), am (bws HB.out), HV2⟩
    ·
     have HM := am hm
     clear hm
     rcases hn with h1 | ⟨h1, h2⟩ | ⟨h1, h2⟩ | h1
     ·
      go_wp2_with (go_at_call 69; refine (marks_calls x _).mono ?_; rintro e w2 ⟨⟨ib, rfl, hib⟩, hw⟩; rw [hw]; have hge : 0 ≤ ib := of_decide_eq_true (hib.out.symm.trans HM.out); clear hw w2 hib HM)
      go_roundg gq
      case measure => omega
      case rel => exact ⟨i + 1, by omega, (by first | rfl | (congr 1; omega)), am (bws HB.out), HV2⟩
     ·
      go_wp2_with (go_at_call 69; refine (marks_calls x _).mono ?_; rintro e w2 ⟨⟨ib, rfl, hib⟩, hw⟩; rw [hw]; have hge : 0 ≤ ib := of_decide_eq_true (hib.out.symm.trans HM.out); clear hw w2 hib HM)
      go_roundg gq
      case measure => omega
      case rel => exact ⟨i + 1, by omega, (by first | rfl | (congr 1; omega)), am (bws HB.out), HV2⟩
     ·
      go_wp2_with (go_at_call 69; refine (marks_calls x _).mono ?_; rintro e w2 ⟨⟨ib, rfl, hib⟩, hw⟩; rw [hw]; have hge : 0 ≤ ib := of_decide_eq_true (hib.out.symm.trans HM.out); clear hw w2 hib HM)
      go_roundg gq
      case measure => omega
      case rel => exact ⟨i + 1, by omega, (by first | rfl | (congr 1; omega)), am (bws HB.out), HV2⟩
     ·
      go_wp2_with (go_at_call 69; refine (marks_calls x _).mono ?_; rintro e w2 ⟨⟨ib, rfl, hib⟩, hw⟩; rw [hw]; have hge : 0 ≤ ib := of_decide_eq_true (hib.out.symm.trans HM.out); clear hw w2 hib HM)
      go_roundg gq
      case measure => omega
      case rel => exact ⟨i + 1, by omega, (by first | rfl | (congr 1; omega)), am (bws HB.out), HV2⟩
   ·
    have HV2 : Aside0 (Ht.token s.data.toList = false) := am (by rw [HV.out, hd]; rw [List.all_cons, Bool.eq_false_iff.mpr hv]; rfl)
    have hn : (x.toNat < 48 ∨ (57 < x.toNat ∧ x.toNat < 65) ∨ (90 < x.toNat ∧ x.toNat < 97) ∨ 122 < x.toNat) ∧ Ht.marks.contains x = false := by
     rw [Bool.not_eq_true] at hv
     unfold Ht.isTok Ht.isLow Ht.isUp Ht.isDig at hv
     simp only [Bool.or_eq_false_iff, Bool.and_eq_false_iff, decide_eq_false_iff_not] at hv
     have c1 : ∀ a b : UInt8, a ≤ b ↔ a.toNat ≤ b.toNat := fun _ _ => Iff.rfl
     simp only [c1] at hv
     simp only [show (97 : UInt8).toNat = 97 from rfl, show (122 : UInt8).toNat = 122 from rfl, show (65 : UInt8).toNat = 65 from rfl, show (90 : UInt8).toNat = 90 from rfl, show (48 : UInt8).toNat = 48 from rfl, show (57 : UInt8).toNat = 57 from rfl] at hv
     exact ⟨by omega, hv.2⟩
    clear HV hv hd
    obtain ⟨hn, hm⟩ := hn
    ·
     have HM := am hm
     clear hm
     rcases hn with h1 | ⟨h1, h2⟩ | ⟨h1, h2⟩ | h1
     ·
      go_wp2_with (go_at_call 69; refine (marks_calls x _).mono ?_; rintro e w2 ⟨⟨ib, rfl, hib⟩, hw⟩; rw [hw]; have hge : ¬ 0 ≤ ib := of_decide_eq_false (hib.out.symm.trans HM.out); clear hw w2 hib HM)
      go_ret
      exact ⟨by rw [HV2.out]; rfl, bws HB.out⟩
     ·
      go_wp2_with (go_at_call 69; refine (marks_calls x _).mono ?_; rintro e w2 ⟨⟨ib, rfl, hib⟩, hw⟩; rw [hw]; have hge : ¬ 0 ≤ ib := of_decide_eq_false (hib.out.symm.trans HM.out); clear hw w2 hib HM)
      go_ret
      exact ⟨by rw [HV2.out]; rfl, bws HB.out⟩
     ·
      go_wp2_with (go_at_call 69; refine (marks_calls x _).mono ?_; rintro e w2 ⟨⟨ib, rfl, hib⟩, hw⟩; rw [hw]; have hge : ¬ 0 ≤ ib := of_decide_eq_false (hib.out.symm.trans HM.out); clear hw w2 hib HM)
      go_ret
      exact ⟨by rw [HV2.out]; rfl, bws HB.out⟩
     ·
      go_wp2_with (go_at_call 69; refine (marks_calls x _).mono ?_; rintro e w2 ⟨⟨ib, rfl, hib⟩, hw⟩; rw [hw]; have hge : ¬ 0 ≤ ib := of_decide_eq_false (hib.out.symm.trans HM.out); clear hw w2 hib HM)
      go_ret
      exact ⟨by rw [HV2.out]; rfl, bws HB.out⟩
def smallAt (s : ByteArray) (i : Nat) : List UInt8 := (s.data.toList.take i).map Ht.smallc ++ s.data.toList.drop i
structure Sm (s : ByteArray) (g i : Nat) (w : World) : Prop where
 c : ∀ j x, (smallAt s i)[j]? = some x → w.cell? ⟨g, j, none⟩ = some (.int .u8 (x.toNat : Int))
 f : ∀ j, j < s.size → w.frozen? ⟨g, j, none⟩ = false
theorem smallAt_len (s : ByteArray) (i : Nat) (h : i ≤ s.size) : (smallAt s i).length = s.size := by
 unfold smallAt
 rw [List.length_append, List.length_map, List.length_take, List.length_drop, ← Lib.size_eq]
 omega
theorem smallAt_at (s : ByteArray) (i : Nat) (h : i < s.size) : (smallAt s i)[i]? = some (s[i]'h) := by
 unfold smallAt
 have hl : ((s.data.toList.take i).map Ht.smallc).length = i := by rw [List.length_map, List.length_take, ← Lib.size_eq]; omega
 rw [drop_cons s i h, List.getElem?_append_right (by omega), hl, Nat.sub_self]
 rfl
theorem smallAt_next (s : ByteArray) (i : Nat) (h : i < s.size) : smallAt s (i + 1) = (smallAt s i).set i (Ht.smallc (s[i]'h)) := by
 unfold smallAt
 have hl : ((s.data.toList.take i).map Ht.smallc).length = i := by rw [List.length_map, List.length_take, ← Lib.size_eq]; omega
 have hlt : i < s.data.toList.length := by rw [← Lib.size_eq]; exact h
 rw [List.set_append_right _ _ (by omega), hl, Nat.sub_self, drop_cons s i h, List.set_cons_zero, List.take_succ_eq_append_getElem hlt, List.map_append, List.append_assoc]
 rfl
theorem Sm.keep {s : ByteArray} {g i : Nat} {w : World} (H : Sm s g i w) (h : i < s.size) (hx : Ht.smallc (s[i]'h) = s[i]'h) : Sm s g (i + 1) w := by
 refine ⟨fun j x hj => H.c j x ?_, H.f⟩
 rw [smallAt_next s i h, hx, List.getElem?_set] at hj
 split at hj
 ·
  rename_i e
  subst e
  rw [if_pos (by rw [smallAt_len s i (by omega)]; exact h)] at hj
  rw [smallAt_at s i h]
  exact hj
 ·
  exact hj
theorem Sm.put {s : ByteArray} {g i : Nat} {w : World} (H : Sm s g i w) (h : i < s.size) (hv : Ht.isUp (s[i]'h) = true) (h2 : (s[i]'h).toNat ≤ 90) : Sm s g (i + 1) (w.setCell ⟨g, i, none⟩ (.int .u8 (((s[i]'h).toNat : Int) + 32))) := by
 have hn : (Ht.smallc (s[i]'h)).toNat = (s[i]'h).toNat + 32 := by
  unfold Ht.smallc
  rw [if_pos hv, UInt8.toNat_add]
  show ((s[i]'h).toNat + 32) % 256 = _
  omega
 refine ⟨fun j x hj => ?_, fun j hj => by rw [World.frozen?_setCell]; exact H.f j hj⟩
 rw [smallAt_next s i h, List.getElem?_set] at hj
 split at hj
 ·
  rename_i e
  subst e
  rw [if_pos (by rw [smallAt_len s i (by omega)]; exact h)] at hj
  cases hj
  rw [World.cell?_setCell_same w ⟨g, i, none⟩ _ (H.c i _ (smallAt_at s i h)), hn]
  rfl
 ·
  rename_i e
  rw [World.cell?_setCell_other w ⟨g, i, none⟩ ⟨g, j, none⟩ _ (fun q => e (Addr.mk.inj q).2.1)]
  exact H.c j x hj
set_option maxRecDepth 100000 in
set_option maxHeartbeats 4000000 in
theorem small_calls (s : ByteArray) (hs : s.size < 2147483648) (w : World) : Calls Tryd.prog 34 #[.string s] w fun e w' => e = .returned (.string ⟨(Ht.small s.data.toList).toArray⟩) ∧ Below w.heap.size w w' := by
 have hcv := Lib.run_convert_string_bytes (P := Tryd.prog) w 9 95 5 s (u := .string) (by kernel_rfl) (by kernel_rfl) (by kernel_rfl)
 have HS : Aside0 (Sm s w.heap.size 0 (Lib.bytesWorld w 5 s)) := am ⟨fun j x hx => by
   have hl := (List.getElem?_eq_some_iff.1 hx).1
   rw [smallAt_len s 0 (Nat.zero_le _)] at hl
   have hx2 : s.data.toList[j]? = some x := by simpa [smallAt] using hx
   rw [Lib.bytesWorld_cell w _ s j hl, List.getD_eq_getElem?_getD, hx2]
   rfl, fun j hj => by
   have hsz : s.size ≤ (Lib.bytesCells w 5 s).size := by
    unfold Lib.bytesCells
    rw [Array.size_append, Array.size_map]
    exact Nat.le_add_right _ _
   unfold World.frozen?
   rw [Lib.bytesWorld_at_new]
   simp only [Bool.and_eq_false_iff, decide_eq_false_iff_not]
   exact .inl (by omega)⟩
 have HB := am (Lib.bytesWorld_below w 5 s)
 generalize Lib.bytesWorld w 5 s = w1 at *
 generalize hgc : grownCap w s.size 0 5 = gc at *
 have hgl : s.size ≤ gc := by rw [← hgc]; exact grownCap_ge w s.size 0 _
 generalize hgb : w.heap.size = gb at *
 clear hgc
 go_enter Tryd.func34, Tryd.ntmps34
 go_wp2
 go_loopg [10] s.size (fun gq v6 wx => ∃ i : Nat, i + gq = s.size ∧ v6 = .int .i64 (i : Int) ∧ Aside0 (Below gb w wx) ∧ Aside0 (Sm s gb i wx))
 case atStart => exact ⟨0, by omega, rfl, HB, HS⟩
 case round =>
  clear HB HS
  obtain ⟨i, hig, rfl, HB, HS⟩ := hrel
  cases gk with
  | zero =>
   obtain rfl : i = s.size := by omega
   have hL : smallAt s s.size = Ht.small s.data.toList := by
    unfold smallAt
    rw [drop_all, List.append_nil, List.take_of_length_le (by rw [← Lib.size_eq]; omega)]
    rfl
   have hcb := run_convert_bytes_back (P := Tryd.prog) wr 95 9 5 ⟨gb, 0, none⟩ gc (smallAt s s.size) (by kernel_rfl) (by kernel_rfl) (by kernel_rfl) (fun j hj => by
    have := HS.out.c j _ (List.getElem?_eq_getElem hj)
    rw [← this]
    congr 1
    unfold Addr.add
    simp
    try exact fun h => h.symm)
   rw [smallAt_len s s.size (Nat.le_refl _), hL] at hcb
   go_wp2
   go_ret
   exact ⟨rfl, HB.out⟩
  | succ gq =>
   have hi : i < s.size := by omega
   have c0 := HS.out.c i _ (smallAt_at s i hi)
   have f0 := HS.out.f i hi
   have hK := fun h => am (HS.out.keep hi h)
   have hP := fun h h2 => am (HS.out.put hi h h2)
   generalize hx : s[i]'hi = x at c0 hK hP
   have hx0 := x.toNat_lt
   by_cases hv : Ht.isUp x = true
   ·
    have hn : 65 ≤ x.toNat ∧ x.toNat ≤ 90 := by
     unfold Ht.isUp at hv
     simp only [Bool.and_eq_true, decide_eq_true_eq] at hv
     exact hv
    obtain ⟨h1, h2⟩ := hn
    have HS2 := hP hv h2
    clear hK hP hv HS
    go_wp2
    go_roundg gq
    case measure => omega
    case rel => exact ⟨i + 1, by omega, (by first | rfl | (congr 1; omega)), am (HB.out.setCell (Nat.le_refl _) _), HS2⟩
   ·
    have hn : x.toNat < 65 ∨ 90 < x.toNat := by
     refine Decidable.byContradiction fun hc => hv ?_
     unfold Ht.isUp
     rw [Bool.and_eq_true]
     exact ⟨decide_eq_true (show 65 ≤ x.toNat by omega), decide_eq_true (show x.toNat ≤ 90 by omega)⟩
    have HS2 := hK (by unfold Ht.smallc; rw [if_neg hv])
    clear hK hP HS
    rcases hn with h1 | h1
    ·
     go_wp2
     go_roundg gq
     case measure => omega
     case rel => exact ⟨i + 1, by omega, (by first | rfl | (congr 1; omega)), HB, HS2⟩
    ·
     go_wp2
     go_roundg gq
     case measure => omega
     case rel => exact ⟨i + 1, by omega, (by first | rfl | (congr 1; omega)), HB, HS2⟩
end Go.Proofs.YtcecdbbomadppaaDoor.Hw
end
section
namespace Go.Proofs.YtcecdbbomadppaaDoor.Ht
open Go
section
variable {j : Nat} {h h' : Hd} {l s r : B} {c : Int} {p : B × B}
theorem head_bad (hl : pline l = .bad c) : phead j h l = .bad c := by
 cases j <;> simp only [phead, seq, hl, Out.bind]
theorem head_end (hl : pline l = .ok ([], r)) : phead j h l = pend h r := by
 cases j <;> simp only [phead, seq, hl, Out.bind, if_true]
theorem head_full (hl : pline l = .ok (s, r)) (hs : s ≠ []) : phead 0 h l = .bad 192 := by
 simp only [phead, seq, hl, Out.bind, if_neg hs, fail]
theorem head_pbad (hl : pline l = .ok (s, r)) (hs : s ≠ []) (hp : ppair s = .bad c) : phead (j + 1) h l = .bad c := by
 simp only [phead, seq, hl, Out.bind, if_neg hs, lift, hp]
theorem head_obad (hl : pline l = .ok (s, r)) (hs : s ≠ []) (hp : ppair s = .ok p) (ho : onPair h p = .bad c) : phead (j + 1) h l = .bad c := by
 simp only [phead, seq, hl, Out.bind, if_neg hs, lift, hp, ho]
theorem head_next (hl : pline l = .ok (s, r)) (hs : s ≠ []) (hp : ppair s = .ok p) (ho : onPair h p = .ok h') : phead (j + 1) h l = phead j h' r := by
 simp only [phead, seq, hl, Out.bind, if_neg hs, lift, hp, ho]
theorem pair_name (hp : ppair s = .ok p) : p.1 ≠ [] := by
 unfold ppair at hp
 split at hp
 ·
  split at hp
  ·
   rename_i a v _ ht
   cases hp
   rw [Bool.and_eq_true] at ht
   have := ht.1
   unfold token at this
   cases a with
   | nil => simp at this
   | cons x a => simp [small]
  ·
   cases hp
 ·
  cases hp
theorem cut1_len2 (c : UInt8) : ∀ l : B, (cut1 c l).1.length ≤ l.length ∧ ((cut1 c l).2.getD []).length ≤ l.length
 | [] => ⟨Nat.le_refl _, Nat.le_refl _⟩
 | a :: l => by
  have ih := cut1_len2 c l
  rw [cut1]
  split
  ·
   exact ⟨Nat.zero_le _, by simp⟩
  ·
   simp only [List.length_cons]
   omega
theorem trim_len (l cs : B) : (Lib.trimS l cs).length ≤ l.length := by
 unfold Lib.trimS Lib.trimLeftS Lib.trimRightS
 refine Nat.le_trans (List.dropWhile_sublist _).length_le ?_
 rw [List.length_reverse]
 refine Nat.le_trans (List.dropWhile_sublist _).length_le ?_
 rw [List.length_reverse]
 exact Nat.le_refl _
theorem pair_len (hp : ppair s = .ok p) : p.1.length ≤ s.length ∧ p.2.length ≤ s.length := by
 have h2 := cut1_len2 58 s
 unfold ppair at hp
 split at hp
 ·
  rename_i a v hc
  rw [hc] at h2
  split at hp
  ·
   cases hp
   refine ⟨?_, Nat.le_trans (trim_len _ _) h2.2⟩
   unfold small
   rw [List.length_map]
   exact h2.1
  ·
   cases hp
 ·
  cases hp
def nz : Option Nat → Int
 | none => -1
 | some m => (m : Int)
theorem trail_bad (hl : pline l = .bad c) : ptrail j l = .bad c := by
 cases j <;> simp only [ptrail, seq, hl, Out.bind]
theorem trail_end (hl : pline l = .ok ([], r)) : ptrail j l = .ok ((), r) := by
 cases j <;> simp only [ptrail, seq, hl, Out.bind, if_true, ret]
theorem trail_full (hl : pline l = .ok (s, r)) (hs : s ≠ []) : ptrail 0 l = .bad 192 := by
 simp only [ptrail, seq, hl, Out.bind, if_neg hs, fail]
theorem trail_pbad (hl : pline l = .ok (s, r)) (hs : s ≠ []) (hp : ppair s = .bad c) : ptrail (j + 1) l = .bad c := by
 simp only [ptrail, seq, hl, Out.bind, if_neg hs, lift, hp]
theorem trail_next (hl : pline l = .ok (s, r)) (hs : s ≠ []) (hp : ppair s = .ok p) : ptrail (j + 1) l = ptrail j r := by
 simp only [ptrail, seq, hl, Out.bind, if_neg hs, lift, hp]
variable {f n : Nat} {body x : B}
theorem chunks_bad (hl : pline l = .bad c) : pchunks (f + 1) body l = .bad c := by
 simp only [pchunks, seq, hl, Out.bind]
theorem chunks_size (hl : pline l = .ok (s, r)) (hp : psize s = .bad c) : pchunks (f + 1) body l = .bad c := by
 simp only [pchunks, seq, hl, Out.bind, lift, hp]
theorem chunks_last (hl : pline l = .ok (s, r)) (hp : psize s = .ok 0) : pchunks (f + 1) body l = (ptrail 32 r).bind fun x => .ok (body, x.2) := by
 simp only [pchunks, seq, hl, Out.bind, lift, hp, if_true, ret]
theorem chunks_much (hl : pline l = .ok (s, r)) (hp : psize s = .ok n) (h0 : n ≠ 0) (hm : ¬ n ≤ 131072 - body.length) : pchunks (f + 1) body l = .bad 191 := by
 simp only [pchunks, seq, hl, Out.bind, lift, hp, if_neg h0, if_neg hm, fail]
theorem chunks_short (hl : pline l = .ok (s, r)) (hp : psize s = .ok n) (h0 : n ≠ 0) (hm : n ≤ 131072 - body.length) (hn : r.length < n) : pchunks (f + 1) body l = .bad 0 := by
 simp only [pchunks, seq, hl, Out.bind, lift, hp, if_neg h0, if_pos hm, pbytes, if_pos hn]
theorem chunks_odd (hl : pline l = .ok (s, r)) (hp : psize s = .ok n) (h0 : n ≠ 0) (hm : n ≤ 131072 - body.length) (hn : ¬ r.length < n) (hc : pcrlf (r.drop n) = .bad c) : pchunks (f + 1) body l = .bad c := by
 simp only [pchunks, seq, hl, Out.bind, lift, hp, if_neg h0, if_pos hm, pbytes, if_neg hn, hc]
theorem chunks_next (hl : pline l = .ok (s, r)) (hp : psize s = .ok n) (h0 : n ≠ 0) (hm : n ≤ 131072 - body.length) (hn : ¬ r.length < n) {t : B} (hc : pcrlf (r.drop n) = .ok ((), t)) : pchunks (f + 1) body l = pchunks f (body ++ r.take n) t := by
 simp only [pchunks, seq, hl, Out.bind, lift, hp, if_neg h0, if_pos hm, pbytes, if_neg hn, hc]
theorem pair_bound (hh : ∀ m, h.n = some m → m ≤ 131072) (ho : onPair h p = .ok h') : ∀ m, h'.n = some m → m ≤ 131072 := by
 unfold onPair at ho
 split at ho
 ·
  split at ho
  ·
   cases ho
  ·
   cases hl : plong p.2 with
   | bad e => rw [hl] at ho; cases ho
   | ok k =>
    rw [hl] at ho
    cases ho
    intro m hm
    cases hm
    unfold plong at hl
    split at hl
    ·
     split at hl
     ·
      rename_i hb; cases hl; exact hb
     ·
      cases hl
    ·
     cases hl
 ·
  split at ho
  ·
   split at ho
   ·
    cases ho
   ·
    split at ho
    ·
     cases ho; exact hh
    ·
     cases ho
  ·
   split at ho
   ·
    cases ho; exact hh
   ·
    cases ho; exact hh
theorem head_bound : ∀ (j : Nat) (h : Hd) (l : B) (h' : Hd) (r : B), (∀ m, h.n = some m → m ≤ 131072) → phead j h l = .ok (h', r) → ∀ m, h'.n = some m → m ≤ 131072 := by
 have hend : ∀ (h : Hd) (l : B) (h' : Hd) (r : B), (∀ m, h.n = some m → m ≤ 131072) → pend h l = .ok (h', r) → ∀ m, h'.n = some m → m ≤ 131072 := by
  intro h l h' r hh he
  unfold pend at he
  split at he
  ·
   cases he
  ·
   cases he; exact hh
 intro j
 induction j with
 | zero =>
  intro h l h' r hh he
  cases hl : pline l with
  | bad e => rw [head_bad hl] at he; cases he
  | ok z =>
   obtain ⟨s, t⟩ := z
   by_cases hs : s = []
   ·
    subst hs; rw [head_end hl] at he; exact hend _ _ _ _ hh he
   ·
    rw [head_full hl hs] at he; cases he
 | succ j ih =>
  intro h l h' r hh he
  cases hl : pline l with
  | bad e => rw [head_bad hl] at he; cases he
  | ok z =>
   obtain ⟨s, t⟩ := z
   by_cases hs : s = []
   ·
    subst hs; rw [head_end hl] at he; exact hend _ _ _ _ hh he
   ·
    cases hp : ppair s with
    | bad e => rw [head_pbad hl hs hp] at he; cases he
    | ok p =>
     cases ho : onPair h p with
     | bad e => rw [head_obad hl hs hp ho] at he; cases he
     | ok h2 => rw [head_next hl hs hp ho] at he; exact ih _ _ _ _ (pair_bound hh ho) he
theorem crlf_cases (l : B) : (pcrlf l = .bad 190 ∧ Lib.hasPrefix [13, 10] (l.take 2) = false) ∨ (pcrlf l = .bad 0 ∧ Lib.hasPrefix [13, 10] (l.take 2) = true ∧ l.length < 2) ∨ (pcrlf l = .ok ((), l.drop 2) ∧ Lib.hasPrefix [13, 10] (l.take 2) = true ∧ 2 ≤ l.length) := by
 unfold Lib.hasPrefix
 match l with
 | [] => exact .inr (.inl ⟨rfl, rfl, by decide⟩)
 | [a] =>
  by_cases h : a = 13
  ·
   subst h; exact .inr (.inl ⟨rfl, rfl, by decide⟩)
  ·
   refine .inl ⟨by simp only [pcrlf, if_neg h], ?_⟩
   show (a == 13 && _) = false
   rw [beq_eq_false_iff_ne.2 h]
   rfl
 | a :: b :: r =>
  by_cases h : a = 13 ∧ b = 10
  ·
   obtain ⟨rfl, rfl⟩ := h
   exact .inr (.inr ⟨rfl, rfl, by simp⟩)
  ·
   refine .inl ⟨by simp only [pcrlf, if_neg h], ?_⟩
   show (a == 13 && (b == 10 && _)) = false
   by_cases h1 : a = 13
   ·
    rw [beq_eq_false_iff_ne.2 (fun e : b = 10 => h ⟨h1, e⟩)]
    simp
   ·
    rw [beq_eq_false_iff_ne.2 h1]
    rfl
end
end Go.Proofs.YtcecdbbomadppaaDoor.Ht
end
section
namespace Go.Proofs.YtcecdbbomadppaaDoor.Hw
open Go Go.RowKit Go.Proofs.YtcecdbbomadppaaDoorW.PrintWords Go.Proofs.YtcecdbbomadppaaDoorW.PrintLast Go.Proofs.YtcecdbbomadppaaDoorW.PrintMore
set_option linter.unusedVariables false
set_option linter.unusedSimpArgs false
theorem trim_calls (s cs : ByteArray) (w : World) (hs : s.size < 2147483648) (h2 : cs.size < 100) (ha : cs.data.toList.all (fun b => decide (b.toNat < 128)) = true) :
  Calls Tryd.prog 24 #[.string s, .string cs] w fun e w' => e = .returned (.string ⟨(Lib.trimS s.data.toList cs.data.toList).toArray⟩) ∧ Below w.heap.size w w' :=
 Any.strings_Trim_laid Tryd.lays160 (by kernel_rfl) s cs w (by omega) (by omega) (asc_all ha)
theorem cut_calls (s : ByteArray) (c : UInt8) (w : World) (hs : s.size < 2147483648) (hG : GG w) :
  Calls Tryd.prog 28 #[.string s, .string ⟨#[c]⟩] w fun e w' => e = .returned (.tuple #[.string ⟨(Ht.cut1 c s.data.toList).1.toArray⟩, .string ⟨((Ht.cut1 c s.data.toList).2.getD []).toArray⟩, .bool (Ht.cut1 c s.data.toList).2.isSome]) ∧ Below w.heap.size w w' := by
 obtain ⟨⟨m, hm⟩, _⟩ := hG
 refine (Tryd.strings_Cut s ⟨#[c]⟩ m w (by omega) hm).mono ?_
 rintro e w' ⟨rfl, n, rfl⟩
 rw [show (⟨#[c]⟩ : ByteArray).data.toList = [c] from rfl, Ht.cut_eq]
 exact ⟨rfl, pw_below_drewN (Below.refl _ _) n⟩
set_option maxRecDepth 100000 in
set_option maxHeartbeats 4000000 in
theorem pair_ok (s n v : ByteArray) (w : World) (hs : s.size < 2147483648) (hns : n.size < 2147483648) (hvs : v.size < 2147483648) (hG : GG w) (hc : Ht.cut1 58 s.data.toList = (n.data.toList, some v.data.toList)) (ht : Ht.token n.data.toList = true) (hv : Ht.value v.data.toList = true) :
  Calls Tryd.prog 32 #[.string s] w fun e w' => e = .returned (.agg #[.string ⟨(Ht.small n.data.toList).toArray⟩, .string ⟨(Lib.trimS v.data.toList [32, 9]).toArray⟩]) ∧ Below w.heap.size w w' := by
 have CC := fun w' h => cut_calls s 58 w' hs h
 rw [hc] at CC
 simp only [Option.getD_some, Option.isSome_some, Lib.mk_data] at CC
 have CT := fun w' => token_calls n hns w'
 have CV := fun w' => value_calls v hvs w'
 have CS := fun w' => small_calls n hns w'
 have CM := fun w' => trim_calls v ⟨#[32, 9]⟩ w' hvs (by decide) (by decide)
 rw [ht] at CT
 rw [hv] at CV
 have HG := am hG
 have HB := am (Below.refl w.heap.size w)
 clear hG
 go_enter Tryd.func32, Tryd.ntmps32
 go_wp2_with (first
  | ((with_reducible refine gate_dst (N := 2) rfl ?_); refine bx 2 #[.string ⟨#[]⟩, .string ⟨#[]⟩] 64 ?_; intro gp hg w0 hbox hb; have GP := gsz hg HB.out; have BP := am hbox; replace HB := am (below_step HB.out hb); clear hb hbox hg)
  | (go_at_call 28; refine (CC _ (gg_below HG.out (bws HB.out))).mono ?_; rintro e w1 ⟨rfl, hb1⟩; replace BP := bb BP.out hb1; replace HB := am (below_step (bws HB.out) hb1); clear hb1)
  | (go_at_call 52; refine (CT _).mono ?_; rintro e w2 ⟨rfl, hb2⟩; replace BP := bb BP.out hb2; replace HB := am (below_step (bws HB.out) hb2); clear hb2)
  | (go_at_call 35; refine (CV _).mono ?_; rintro e w3 ⟨rfl, hb3⟩; replace BP := bb BP.out hb3; replace HB := am (below_step (bws HB.out) hb3); clear hb3)
  | (go_at_call 23; (refine (check_yes 190 _).mono ?_); rintro e w4 ⟨⟨v4, rfl⟩, hb4⟩; replace BP := bb BP.out hb4; replace HB := am (below_step (bws HB.out) hb4); clear hb4)
  | (go_at_call 34; refine (CS _).mono ?_; rintro e w5 ⟨rfl, hb5⟩; replace BP := bb BP.out hb5; replace HB := am (below_step (bws HB.out) hb5); clear hb5)
  | (go_at_call 24; refine (CM _).mono ?_; rintro e w6 ⟨rfl, hb6⟩; replace BP := bb BP.out hb6; replace HB := am (below_step (bws HB.out) hb6); clear hb6; obtain ⟨c0, c1, f0, f1⟩ := cz2 BP.out))
 go_wp2
 refine bodyPost_ret (results_cell_row rfl _ _ gp 64 #[.string ⟨(Ht.small n.data.toList).toArray⟩, .string ⟨(Lib.trimS v.data.toList [32, 9]).toArray⟩] (0, 0) _ rfl (blk_put (blk_put BP.out 0 _ rfl) 1 _ rfl) Tryd.underlying64 rfl (by kernel_rfl)) rfl ?_
 exact ⟨rfl, below_set (below_set (bws HB.out) GP.out) GP.out⟩
set_option maxRecDepth 100000 in
set_option maxHeartbeats 4000000 in
theorem pair_none (s n v : ByteArray) (w : World) (hs : s.size < 2147483648) (hns : n.size < 2147483648) (hvs : v.size < 2147483648) (hG : GG w) (hc : Ht.cut1 58 s.data.toList = (n.data.toList, none)) :
  Calls Tryd.prog 32 #[.string s] w fun e w' => Fell 190 e ∧ Below w.heap.size w w' := by
 have CC := fun w' h => cut_calls s 58 w' hs h
 rw [hc] at CC
 simp only [Option.getD_some, Option.getD_none, Option.isSome_some, Option.isSome_none, Lib.mk_data] at CC
 have HG := am hG
 have HB := am (Below.refl w.heap.size w)
 clear hG
 go_enter Tryd.func32, Tryd.ntmps32
 go_wp2_with (first
  | ((with_reducible refine gate_dst (N := 2) rfl ?_); refine bx 2 #[.string ⟨#[]⟩, .string ⟨#[]⟩] 64 ?_; intro gp hg w0 hbox hb; replace HB := am (below_step HB.out hb); clear hb hbox hg)
  | (go_at_call 28; refine (CC _ (gg_below HG.out (bws HB.out))).mono ?_; rintro e w1 ⟨rfl, hb1⟩; replace HB := am (below_step (bws HB.out) hb1); clear hb1)
  | (go_at_call 23; (refine (check_no 190 _).mono ?_); rintro e w4 ⟨⟨sh, rfl⟩, hb4⟩; replace HB := am (below_step (bws HB.out) hb4); clear hb4))
 exact ⟨rfl, ⟨sh, rfl⟩, bws HB.out⟩
set_option maxRecDepth 100000 in
set_option maxHeartbeats 4000000 in
theorem pair_word (s n v : ByteArray) (w : World) (hs : s.size < 2147483648) (hns : n.size < 2147483648) (hvs : v.size < 2147483648) (hG : GG w) (hc : Ht.cut1 58 s.data.toList = (n.data.toList, some v.data.toList)) (ht : Ht.token n.data.toList = false) :
  Calls Tryd.prog 32 #[.string s] w fun e w' => Fell 190 e ∧ Below w.heap.size w w' := by
 have CC := fun w' h => cut_calls s 58 w' hs h
 rw [hc] at CC
 simp only [Option.getD_some, Option.getD_none, Option.isSome_some, Option.isSome_none, Lib.mk_data] at CC
 have CT := fun w' => token_calls n hns w'
 rw [ht] at CT
 have HG := am hG
 have HB := am (Below.refl w.heap.size w)
 clear hG
 go_enter Tryd.func32, Tryd.ntmps32
 go_wp2_with (first
  | ((with_reducible refine gate_dst (N := 2) rfl ?_); refine bx 2 #[.string ⟨#[]⟩, .string ⟨#[]⟩] 64 ?_; intro gp hg w0 hbox hb; replace HB := am (below_step HB.out hb); clear hb hbox hg)
  | (go_at_call 28; refine (CC _ (gg_below HG.out (bws HB.out))).mono ?_; rintro e w1 ⟨rfl, hb1⟩; replace HB := am (below_step (bws HB.out) hb1); clear hb1)
  | (go_at_call 52; refine (CT _).mono ?_; rintro e w2 ⟨rfl, hb2⟩; replace HB := am (below_step (bws HB.out) hb2); clear hb2)
  | (go_at_call 23; (refine (check_no 190 _).mono ?_); rintro e w4 ⟨⟨sh, rfl⟩, hb4⟩; replace HB := am (below_step (bws HB.out) hb4); clear hb4))
 exact ⟨rfl, ⟨sh, rfl⟩, bws HB.out⟩
set_option maxRecDepth 100000 in
set_option maxHeartbeats 4000000 in
theorem pair_odd (s n v : ByteArray) (w : World) (hs : s.size < 2147483648) (hns : n.size < 2147483648) (hvs : v.size < 2147483648) (hG : GG w) (hc : Ht.cut1 58 s.data.toList = (n.data.toList, some v.data.toList)) (ht : Ht.token n.data.toList = true) (hv : Ht.value v.data.toList = false) :
  Calls Tryd.prog 32 #[.string s] w fun e w' => Fell 190 e ∧ Below w.heap.size w w' := by
 have CC := fun w' h => cut_calls s 58 w' hs h
 rw [hc] at CC
 simp only [Option.getD_some, Option.getD_none, Option.isSome_some, Option.isSome_none, Lib.mk_data] at CC
 have CT := fun w' => token_calls n hns w'
 rw [ht] at CT
 have CV := fun w' => value_calls v hvs w'
 rw [hv] at CV
 have HG := am hG
 have HB := am (Below.refl w.heap.size w)
 clear hG
 go_enter Tryd.func32, Tryd.ntmps32
 go_wp2_with (first
  | ((with_reducible refine gate_dst (N := 2) rfl ?_); refine bx 2 #[.string ⟨#[]⟩, .string ⟨#[]⟩] 64 ?_; intro gp hg w0 hbox hb; replace HB := am (below_step HB.out hb); clear hb hbox hg)
  | (go_at_call 28; refine (CC _ (gg_below HG.out (bws HB.out))).mono ?_; rintro e w1 ⟨rfl, hb1⟩; replace HB := am (below_step (bws HB.out) hb1); clear hb1)
  | (go_at_call 52; refine (CT _).mono ?_; rintro e w2 ⟨rfl, hb2⟩; replace HB := am (below_step (bws HB.out) hb2); clear hb2)
  | (go_at_call 35; refine (CV _).mono ?_; rintro e w3 ⟨rfl, hb3⟩; replace HB := am (below_step (bws HB.out) hb3); clear hb3)
  | (go_at_call 23; (refine (check_no 190 _).mono ?_); rintro e w4 ⟨⟨sh, rfl⟩, hb4⟩; replace HB := am (below_step (bws HB.out) hb4); clear hb4))
 exact ⟨rfl, ⟨sh, rfl⟩, bws HB.out⟩
theorem cut1_len (c : UInt8) : ∀ l : List UInt8, (Ht.cut1 c l).1.length ≤ l.length ∧ ((Ht.cut1 c l).2.getD []).length ≤ l.length
 | [] => ⟨Nat.le_refl _, Nat.le_refl _⟩
 | a :: l => by
  have ih := cut1_len c l
  rw [Ht.cut1]
  split
  ·
   exact ⟨Nat.zero_le _, by simp⟩
  ·
   simp only [List.length_cons]
   omega
theorem size_mk (l : List UInt8) : (⟨l.toArray⟩ : ByteArray).size = l.length := rfl
theorem pair_good (s : ByteArray) (w : World) (hs : s.size < 2147483648) (hG : GG w) {p : Ht.B × Ht.B} (h : Ht.ppair s.data.toList = .ok p) :
  Calls Tryd.prog 32 #[.string s] w fun e w' => e = .returned (.agg #[.string ⟨p.1.toArray⟩, .string ⟨p.2.toArray⟩]) ∧ Below w.heap.size w w' := by
 have hl := cut1_len 58 s.data.toList
 rw [← Lib.size_eq] at hl
 unfold Ht.ppair at h
 cases hc : Ht.cut1 58 s.data.toList with
 | mk a o => cases o with
  | none => rw [hc] at h; simp only at h; cases h
  | some v =>
   rw [hc] at h hl
   simp only at h
   split at h
   ·
    rename_i ht
    rw [Bool.and_eq_true] at ht
    cases h
    simp only [Option.getD_some] at hl
    exact pair_ok s ⟨a.toArray⟩ ⟨v.toArray⟩ w hs (by rw [size_mk]; omega) (by rw [size_mk]; omega) hG hc ht.1 ht.2
   ·
    cases h
theorem pair_fell (s : ByteArray) (w : World) (hs : s.size < 2147483648) (hG : GG w) {c : Int} (h : Ht.ppair s.data.toList = .bad c) :
  Calls Tryd.prog 32 #[.string s] w fun e w' => Fell c e ∧ Below w.heap.size w w' := by
 have hl := cut1_len 58 s.data.toList
 rw [← Lib.size_eq] at hl
 unfold Ht.ppair at h
 cases hc : Ht.cut1 58 s.data.toList with
 | mk a o => cases o with
  | none =>
   rw [hc] at h hl
   simp only at h
   cases h
   exact pair_none s ⟨a.toArray⟩ ⟨#[]⟩ w hs (by rw [size_mk]; simp at hl; omega) (by decide) hG hc
  | some v =>
   rw [hc] at h hl
   simp only at h
   split at h
   ·
    cases h
   ·
    rename_i ht
    cases h
    simp only [Option.getD_some] at hl
    cases h1 : Ht.token a with
    | false => exact pair_word s ⟨a.toArray⟩ ⟨v.toArray⟩ w hs (by rw [size_mk]; omega) (by rw [size_mk]; omega) hG hc h1
    | true =>
     rw [h1, Bool.true_and, Bool.not_eq_true] at ht
     exact pair_odd s ⟨a.toArray⟩ ⟨v.toArray⟩ w hs (by rw [size_mk]; omega) (by rw [size_mk]; omega) hG hc h1 ht
theorem atoi_calls (s : ByteArray) (w : World) (hne : s.data.toList ≠ []) (hl : s.size ≤ 10) (hd : s.data.toList.all Ht.isDig = true) :
  Calls Tryd.prog 53 #[.string s] w fun e w' => e = .returned (.tuple #[.int .i64 (Ht.decn s.data.toList : Nat), .nilIface]) ∧ Below w.heap.size w w' := by
 refine (Tryd.strconv_Atoi s _ (by omega) (Ht.atoi_eq _ hne hd) w).mono ?_
 rintro e w' ⟨rfl, t, rfl⟩
 exact ⟨rfl, Lib.bytesWorld_below _ _ _⟩
theorem nonempty {s : ByteArray} (h : s.data.toList ≠ []) : s.toList.isEmpty = false := by
 rw [Lib.toList_data]
 cases hs : s.data.toList with
 | nil => exact absurd hs h
 | cons a l => rfl
theorem dig_cs (l : List UInt8) : l.all (([48, 49, 50, 51, 52, 53, 54, 55, 56, 57] : List UInt8).contains ·) = l.all Ht.isDig := by
 congr 1
 funext c
 revert c
 have : ∀ n : Fin 256, (([48, 49, 50, 51, 52, 53, 54, 55, 56, 57] : List UInt8).contains (UInt8.ofNat n.val)) = Ht.isDig (UInt8.ofNat n.val) := by decide +kernel
 intro c
 have h := this ⟨c.toNat, c.toNat_lt⟩
 simpa using h
theorem trim_dig (s : ByteArray) (w : World) (hs : s.size < 2147483648) :
  Calls Tryd.prog 24 #[.string s, .string ⟨#[48, 49, 50, 51, 52, 53, 54, 55, 56, 57]⟩] w fun e w' => (∃ t : ByteArray, e = .returned (.string t) ∧ Aside0 (t.data.toList = [] ↔ s.data.toList.all Ht.isDig = true)) ∧ Below w.heap.size w w' := by
 refine (trim_calls s ⟨#[48, 49, 50, 51, 52, 53, 54, 55, 56, 57]⟩ w hs (by decide) (by decide)).mono ?_
 rintro e w' ⟨rfl, hb⟩
 exact ⟨⟨_, rfl, am ((Ht.trim_nil _ _).trans (by rw [← dig_cs]))⟩, hb⟩
theorem empty_mk {t : ByteArray} (h : t.data.toList = []) : t = ⟨#[]⟩ := by
 obtain ⟨⟨l⟩⟩ := t
 subst h
 rfl
set_option maxRecDepth 100000 in
set_option maxHeartbeats 4000000 in
theorem long_ok (s : ByteArray) (w : World) (hne : s.data.toList ≠ []) (hl : s.size ≤ 10) (hd : s.data.toList.all Ht.isDig = true) (hm : Ht.decn s.data.toList ≤ 131072) :
  Calls Tryd.prog 33 #[.string s] w fun e w' => e = .returned (.int .i64 (Ht.decn s.data.toList : Nat)) ∧ Below w.heap.size w w' := by
 have hem := nonempty hne
 have e1 : decide ((s.size : Int) ≤ 10) = true := decide_eq_true (by omega)
 have CA := fun w' => atoi_calls s w' hne hl hd
 have CT := fun w' => trim_dig s w' (by omega)
 generalize Ht.decn s.data.toList = n at *
 have e2 : decide ((n : Int) ≤ 131072) = true := decide_eq_true (by omega)
 have HD := am hd
 have HB := am (Below.refl w.heap.size w)
 clear hd hne
 go_enter Tryd.func33, Tryd.ntmps33
 go_wp2_with (first
  | (go_at_call 24; refine (CT _).mono ?_; rintro e w1 ⟨⟨t, rfl, ht⟩, hb1⟩; have ht2 := empty_mk (ht.out.2 HD.out); subst ht2; replace HB := am (below_step (bws HB.out) hb1); clear hb1 ht)
  | (go_at_call 23; (refine (check_yes 190 _).mono ?_); rintro e w2 ⟨⟨v2, rfl⟩, hb2⟩; replace HB := am (below_step (bws HB.out) hb2); clear hb2)
  | (go_at_call 53; refine (CA _).mono ?_; rintro e w3 ⟨rfl, hb3⟩; replace HB := am (below_step (bws HB.out) hb3); clear hb3)
  | (go_at_call 23; (refine (check_yes 191 _).mono ?_); rintro e w4 ⟨⟨v4, rfl⟩, hb4⟩; replace HB := am (below_step (bws HB.out) hb4); clear hb4))
 go_ret
 exact ⟨rfl, bws HB.out⟩
set_option maxRecDepth 100000 in
set_option maxHeartbeats 4000000 in
theorem long_much (s : ByteArray) (w : World) (hne : s.data.toList ≠ []) (hl : s.size ≤ 10) (hd : s.data.toList.all Ht.isDig = true) (hm : 131072 < Ht.decn s.data.toList) :
  Calls Tryd.prog 33 #[.string s] w fun e w' => Fell 191 e ∧ Below w.heap.size w w' := by
 have hem := nonempty hne
 have e1 : decide ((s.size : Int) ≤ 10) = true := decide_eq_true (by omega)
 have CA := fun w' => atoi_calls s w' hne hl hd
 have CT := fun w' => trim_dig s w' (by omega)
 generalize Ht.decn s.data.toList = n at *
 have e2 : decide ((n : Int) ≤ 131072) = false := decide_eq_false (by omega)
 have HD := am hd
 have HB := am (Below.refl w.heap.size w)
 clear hd hne
 go_enter Tryd.func33, Tryd.ntmps33
 go_wp2_with (first
  | (go_at_call 24; refine (CT _).mono ?_; rintro e w1 ⟨⟨t, rfl, ht⟩, hb1⟩; have ht2 := empty_mk (ht.out.2 HD.out); subst ht2; replace HB := am (below_step (bws HB.out) hb1); clear hb1 ht)
  | (go_at_call 23; (refine (check_yes 190 _).mono ?_); rintro e w2 ⟨⟨v2, rfl⟩, hb2⟩; replace HB := am (below_step (bws HB.out) hb2); clear hb2)
  | (go_at_call 53; refine (CA _).mono ?_; rintro e w3 ⟨rfl, hb3⟩; replace HB := am (below_step (bws HB.out) hb3); clear hb3)
  | (go_at_call 23; (refine (check_no 191 _).mono ?_); rintro e w4 ⟨⟨sh, rfl⟩, hb4⟩; replace HB := am (below_step (bws HB.out) hb4); clear hb4))
 exact ⟨rfl, ⟨sh, rfl⟩, bws HB.out⟩
set_option maxRecDepth 100000 in
set_option maxHeartbeats 4000000 in
theorem long_none (w : World) :
  Calls Tryd.prog 33 #[.string ⟨#[]⟩] w fun e w' => Fell 190 e ∧ Below w.heap.size w w' := by
 have HB := am (Below.refl w.heap.size w)
 go_enter Tryd.func33, Tryd.ntmps33
 go_wp2_with (go_at_call 23; (refine (check_no 190 _).mono ?_); rintro e w4 ⟨⟨sh, rfl⟩, hb4⟩; replace HB := am (below_step (bws HB.out) hb4); clear hb4)
 exact ⟨rfl, ⟨sh, rfl⟩, bws HB.out⟩
set_option maxRecDepth 100000 in
set_option maxHeartbeats 4000000 in
theorem long_long (s : ByteArray) (w : World) (hs : s.size < 2147483648) (hl : 10 < s.size) :
  Calls Tryd.prog 33 #[.string s] w fun e w' => Fell 190 e ∧ Below w.heap.size w w' := by
 have hem := nonempty (s := s) (by intro h; have := Lib.size_eq s; rw [h, List.length_nil] at this; omega)
 have e1 : decide ((s.size : Int) ≤ 10) = false := decide_eq_false (by omega)
 have HB := am (Below.refl w.heap.size w)
 go_enter Tryd.func33, Tryd.ntmps33
 go_wp2_with (go_at_call 23; (refine (check_no 190 _).mono ?_); rintro e w4 ⟨⟨sh, rfl⟩, hb4⟩; replace HB := am (below_step (bws HB.out) hb4); clear hb4)
 exact ⟨rfl, ⟨sh, rfl⟩, bws HB.out⟩
set_option maxRecDepth 100000 in
set_option maxHeartbeats 4000000 in
theorem long_odd (s : ByteArray) (w : World) (hne : s.data.toList ≠ []) (hl : s.size ≤ 10) (hd : s.data.toList.all Ht.isDig = false) :
  Calls Tryd.prog 33 #[.string s] w fun e w' => Fell 190 e ∧ Below w.heap.size w w' := by
 have hem := nonempty hne
 have e1 : decide ((s.size : Int) ≤ 10) = true := decide_eq_true (by omega)
 have CT := fun w' => trim_dig s w' (by omega)
 have HD := am hd
 have HB := am (Below.refl w.heap.size w)
 clear hd hne
 go_enter Tryd.func33, Tryd.ntmps33
 go_wp2_with (first
  | (go_at_call 24; refine (CT _).mono ?_; rintro e w1 ⟨⟨t, rfl, ht⟩, hb1⟩; have ht2 := nonempty (s := t) (fun h => by have := ht.out.1 h; rw [HD.out] at this; cases this); replace HB := am (below_step (bws HB.out) hb1); clear hb1 ht)
  | (go_at_call 23; (refine (check_no 190 _).mono ?_); rintro e w2 ⟨⟨sh, rfl⟩, hb2⟩; replace HB := am (below_step (bws HB.out) hb2); clear hb2))
 exact ⟨rfl, ⟨sh, rfl⟩, bws HB.out⟩
theorem long_good (s : ByteArray) (w : World) (hs : s.size < 2147483648) {n : Nat} (h : Ht.plong s.data.toList = .ok n) :
  n ≤ 131072 ∧ Calls Tryd.prog 33 #[.string s] w fun e w' => e = .returned (.int .i64 (n : Int)) ∧ Below w.heap.size w w' := by
 unfold Ht.plong at h
 split at h
 ·
  rename_i hc
  simp only [Bool.and_eq_true, decide_eq_true_eq, Bool.not_eq_true'] at hc
  obtain ⟨⟨h1, h2⟩, h3⟩ := hc
  split at h
  ·
   rename_i hm
   cases h
   exact ⟨hm, long_ok s w (by intro h; rw [h] at h1; cases h1) (by rw [Lib.size_eq]; exact h2) h3 hm⟩
  ·
   cases h
 ·
  cases h
theorem long_fell (s : ByteArray) (w : World) (hs : s.size < 2147483648) {c : Int} (h : Ht.plong s.data.toList = .bad c) :
  Calls Tryd.prog 33 #[.string s] w fun e w' => Fell c e ∧ Below w.heap.size w w' := by
 unfold Ht.plong at h
 split at h
 ·
  rename_i hc
  simp only [Bool.and_eq_true, decide_eq_true_eq, Bool.not_eq_true'] at hc
  obtain ⟨⟨h1, h2⟩, h3⟩ := hc
  split at h
  ·
   cases h
  ·
   rename_i hm
   cases h
   exact long_much s w (by intro h; rw [h] at h1; cases h1) (by rw [Lib.size_eq]; exact h2) h3 (by omega)
 ·
  rename_i hc
  cases h
  by_cases h1 : s.data.toList = []
  ·
   obtain rfl := empty_mk h1
   exact long_none w
  ·
   by_cases h2 : s.size ≤ 10
   ·
    refine long_odd s w h1 h2 ?_
    rw [Bool.eq_false_iff]
    intro h3
    apply hc
    rw [h3, decide_eq_true (by rw [← Lib.size_eq]; exact h2)]
    cases hl : s.data.toList with
    | nil => exact absurd hl h1
    | cons a l => rfl
   ·
    exact long_long s w hs (by omega)
theorem split_calls (s : ByteArray) (w : World) (hs : s.size < 2147483648) (hG : GG w) :
  Calls Tryd.prog 22 #[.string s, .string ⟨#[32]⟩] w fun e w' => ∃ (L : List ByteArray) (g : Nat), Aside0 (L.map (·.data.toList) = Q.splitL 32 s.data.toList) ∧ e = .returned (.slice (some ⟨g, 0, none⟩) L.length L.length) ∧ Aside0 (w'.heap[g]? = some (.cells (L.map Value.string).toArray 9 (0, 0))) ∧ Aside0 (Below w.heap.size w w') := by
 obtain ⟨⟨m, hm⟩, _⟩ := hG
 refine (Tryd.strings_Split s ⟨#[32]⟩ m w (by omega) hm (by decide)).mono ?_
 rintro e w' ⟨rfl, rfl⟩
 refine ⟨Lib.splitB ⟨#[32]⟩ 0 (Lib.countB s ⟨#[32]⟩) s, w.heap.size, am ?_, ?_, am (blk_new w _), am ((Below.refl _ _).alloc (Nat.le_refl _) _)⟩
 ·
  rw [Lib.splitB_data]
  exact Ht.split_eq 32 _ _ (Nat.le_refl _)
 ·
  rw [Lib.splitB_all ⟨#[32]⟩ (by decide) 0 _ s rfl]
set_option maxRecDepth 100000 in
set_option maxHeartbeats 4000000 in
theorem first_many (s : ByteArray) (w : World) (hs : s.size < 2147483648) (hG : GG w) (h3 : (Q.splitL 32 s.data.toList).length ≠ 3) :
  Calls Tryd.prog 16 #[.string s] w fun e w' => Fell 190 e ∧ Below w.heap.size w w' := by
 have HG := am hG
 have HB := am (Below.refl w.heap.size w)
 clear hG
 go_enter Tryd.func16, Tryd.ntmps16
 go_wp2_with (first
  | ((with_reducible refine gate_dst (N := 1) rfl ?_); refine bx 1 #[.string ⟨#[]⟩, .string ⟨#[]⟩, .string ⟨#[]⟩, .slice none 0 0, .string ⟨#[]⟩, .bool false] 35 ?_; intro gp hg w0 hbox hb; replace HB := am (below_step HB.out hb); clear hb hbox hg)
  | (go_at_call 22; refine (split_calls s _ hs (gg_below HG.out (bws HB.out))).mono ?_; rintro e w1 ⟨L, gl, hL, rfl, hc, hb1⟩; have hne : (((L.length : Nat) : Int) == 3) = false := beq_eq_false_iff_ne.2 (by have := congrArg List.length hL.out; rw [List.length_map] at this; omega); replace HB := am (below_step (bws HB.out) hb1.out); clear hb1 hc hL)
  | (go_at_call 23; (refine (check_no 190 _).mono ?_); rintro e w4 ⟨⟨sh, rfl⟩, hb4⟩; replace HB := am (below_step (bws HB.out) hb4); clear hb4))
 exact ⟨rfl, ⟨sh, rfl⟩, bws HB.out⟩
def among (l : List ByteArray) (a : ByteArray) : Bool := l.any fun m => decide (a = m)
theorem toList_ne {a m : ByteArray} (h : a ≠ m) : (a.toList == m.toList) = false := by
 refine beq_eq_false_iff_ne.2 fun e => h ?_
 rw [Lib.toList_data, Lib.toList_data] at e
 rw [← Lib.mk_data a, e, Lib.mk_data]
theorem methods_cell {w : World} (hG : GG w) (i : Nat) (hi : i < 5) : w.cell? ⟨0, i, none⟩ = some (.string (methodsL.getD i ⟨#[]⟩)) := by
 obtain ⟨_, h⟩ := hG
 obtain ⟨ad, e, hc⟩ := Kd.at_string h (i : Int) (by omega) (by show (i : Int) < 5; omega)
 cases e
 have e2 : (⟨0, 0, none⟩ : Addr).add (i : Int).toNat = ⟨0, i, none⟩ := by
  unfold Addr.add
  simp
  try exact fun h => h.symm
 rw [e2] at hc
 exact hc
set_option maxRecDepth 100000 in
set_option maxHeartbeats 4000000 in
theorem index_methods (a : ByteArray) (w : World) (hG : GG w) :
  Calls Tryd.prog 47 #[.slice (some ⟨0, 0, none⟩) 5 5, .string a] w fun e w' => (∃ i : Int, e = .returned (.int .i64 i) ∧ Aside0 (decide (0 ≤ i) = among methodsL a)) ∧ Below w.heap.size w w' := by
 have HG := am hG
 clear hG
 go_enter Tryd.func47, Tryd.ntmps47
 go_wp2
 go_loopg [8] 5 (fun gq v6 wx => ∃ i : Nat, i + gq = 5 ∧ v6 = .int .i64 (i : Int) ∧ Aside0 (Below w.heap.size w wx) ∧ Aside0 (among methodsL a = among (methodsL.drop i) a))
 case atStart => exact ⟨0, by omega, rfl, am (Below.refl _ _), am rfl⟩
 case round =>
  obtain ⟨i, hig, rfl, HB, HM⟩ := hrel
  cases gk with
  | zero =>
   obtain rfl : i = 5 := by omega
   go_wp2
   go_ret
   exact ⟨⟨_, rfl, am (by rw [HM.out]; rfl)⟩, HB.out⟩
  | succ gq =>
   have hi : i < 5 := by omega
   have c0 := methods_cell (gg_below HG.out HB.out) i hi
   have hd : among (methodsL.drop i) a = (decide (a = methodsL.getD i ⟨#[]⟩) || among (methodsL.drop (i + 1)) a) := by
    match i, hi with
    | 0, _ => rfl
    | 1, _ => rfl
    | 2, _ => rfl
    | 3, _ => rfl
    | 4, _ => rfl
   generalize methodsL.getD i ⟨#[]⟩ = m at c0 hd
   by_cases hm : a = m
   ·
    have HM2 := am (show among methodsL a = true by rw [HM.out, hd, decide_eq_true hm, Bool.true_or])
    have hm2 : (a.toList == m.toList) = true := beq_iff_eq.2 (by rw [hm])
    clear hd HM hm
    go_wp2
    go_ret
    exact ⟨⟨_, rfl, am (by rw [HM2.out]; exact decide_eq_true (by omega))⟩, bws HB.out⟩
   ·
    have HM2 := am (show among methodsL a = among (methodsL.drop (i + 1)) a by rw [HM.out, hd, decide_eq_false hm, Bool.false_or])
    have hm2 : (a.toList == m.toList) = false := toList_ne hm
    clear hd HM hm
    go_wp2
    go_roundg gq
    case measure => omega
    case rel => exact ⟨i + 1, by omega, (by first | rfl | (congr 1; omega)), am (bws HB.out), HM2⟩
theorem contains_calls (a : ByteArray) (w : World) (hG : GG w) :
  Calls Tryd.prog 27 #[.slice (some ⟨0, 0, none⟩) 5 5, .string a] w fun e w' => e = .returned (.bool (among methodsL a)) ∧ Below w.heap.size w w' := by
 go_enter Tryd.func27, Tryd.ntmps27
 go_wp2_with (go_at_call 47; refine (index_methods a _ hG).mono ?_; rintro e w1 ⟨⟨i, rfl, hi⟩, hb⟩)
 go_ret
 exact ⟨by rw [← hi.out]; rfl, hb⟩
end Go.Proofs.YtcecdbbomadppaaDoor.Hw
end
