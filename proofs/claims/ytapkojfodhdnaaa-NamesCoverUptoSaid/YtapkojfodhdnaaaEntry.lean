/- 'm[k]++' at a map that the call makes, keyed by a struct: the entry and the store, in whatever order the region draws. No program's function in sight. -/
import Derived.Maps.OwnOps
import Derived.Maps.Views
import Derived.WideKeyEntry
namespace Go.Proofs.Ytapkojfodhdnaaa.Entry
set_option linter.unusedSimpArgs false
set_option linter.unusedVariables false
open Go Go.Maps Go.WideMaps Go.ChangeMaps Go.MapKept Go.WideElems
theorem setBlock_self {w : World} {b : Nat} {o : Obj} (h : w.heap[b]? = some o) : setBlock w b o = w := by
  have h2 : w.heap.setIfInBounds b o = w.heap := by
    apply Array.ext_getElem?
    intro i
    rw [Array.getElem?_setIfInBounds]
    split
    · rename_i e
      subst e
      rw [h, (Array.getElem?_eq_some_iff.1 h).1 |> fun hlt => if_pos hlt]
    · rfl
  unfold setBlock
  rw [h2]
theorem setBlock_two (w : World) (b : Nat) (o1 o2 : Obj) : setBlock (setBlock w b o1) b o2 = setBlock w b o2 := by
  unfold setBlock
  congr 1
  apply Array.ext_getElem?
  intro i
  simp only [Array.getElem?_setIfInBounds, Array.size_setIfInBounds]
  split <;> rfl
theorem entry_law {H : Type} {P : Program} {w : World} {t k e : TypeId} {q : IntKind} {b n : Nat} {D : DataW H} (K : KeyLaw P k) (ht : P.underlying t = some (.map k e)) (he : P.underlying e = some (.int q)) (hz : ∀ u : World, (zeroValue e).run P u = .ok (.int q 0) u)
    (hown : w.ownsMap P k (plainElem P e) b n D) (hn : n < maxLen) {key : Value} {kl : Lit} (hkey : keyOf P k key = some kl) :
    ∃ (c : Int) (st : Nat) (w1 : World), (Instr.lookup t (.map (some b)) key false).run P w = .ok (.int q c) w ∧ D.atKey kl (.lit (.int q 0)) = .lit (.int q c) ∧
      (Instr.mapEntry t (.map (some b)) key).run P w = .ok (.tuple #[.int q c, goInt st]) w1 ∧ (Instr.lookup t (.map (some b)) key false).run P w1 = .ok (.int q c) w1 ∧
      ∀ a : Int, (Lit.int q a).wf = true → ∃ w2 : World, (Instr.entryStore t (.map (some b)) (goInt st) (.int q a)).run P w1 = .ok () w2 ∧ w2.ownsMap P k (plainElem P e) b (n + 1) (D.put kl (.lit (.int q a))) ∧ w.grownBy w2 (some b) := by
  have hown0 := hown
  have KK := Keyed.of_law K
  obtain ⟨c, hL, hat, hwc⟩ := hown.lookup_int KK ht he (hz w) hkey
  obtain ⟨es, clock, hb, F, hs, hD⟩ := hown
  obtain ⟨v0, st, es1, clock1, hE, _, hS⟩ := entry_then_store K ht hz hb F hkey
  have hstore : ∀ a : Int, (Lit.int q a).wf = true → ∃ w2 : World, (Instr.entryStore t (.map (some b)) (goInt st) (.int q a)).run P (setBlock w b (.map es1 clock1)) = .ok () w2 ∧ w2.ownsMap P k (plainElem P e) b (n + 1) (D.put kl (.lit (.int q a))) ∧ w.grownBy w2 (some b) := by
    intro a ha
    obtain ⟨w', hrun, ho, hg⟩ := hown0.update KK ht hn hkey (plainElem_int he ha)
    obtain ⟨es', clock', h1, h2⟩ := hS (setBlock w b (.map es1 clock1)) (.int q a) (heap_setBlock_same hb _)
    rw [hrun] at h2
    injection h2 with _ h2
    refine ⟨w', ?_, ho, hg⟩
    rw [h1, setBlock_two, ← h2]
  refine ⟨c, st, setBlock w b (.map es1 clock1), hL, hat, ?_, ?_, hstore⟩
  · have : v0 = .int q c := by
      rcases KK.find w hkey es.toList F.keys with ⟨h1, h2⟩ | ⟨j, e0, h1, h2, h3⟩
      · simp [Instr.lookup, run_underlying ht, MapKept.run_getObj_map hb, K.check w _ hkey, h1, hz, Result.andThen] at hL
        simp [Instr.mapEntry, run_underlying ht, MapKept.run_getObj_map hb, K.check w false hkey, h1, hz, MapKept.run_setObj_map _ hb, Result.andThen] at hE
        rw [← hE.1.1, ← hL]
      · have hj : es[j]? = some e0 := by simpa using h2
        simp [Instr.lookup, run_underlying ht, MapKept.run_getObj_map hb, K.check w _ hkey, h1, hz, Result.andThen] at hL
        simp [Instr.mapEntry, run_underlying ht, MapKept.run_getObj_map hb, K.check w false hkey, h1, hj, h3, K.stays w hkey, MapKept.run_setObj_map _ hb, Result.andThen] at hE
        rw [← hE.1.1, ← hL]
    rw [hE, this]
  · rcases KK.find w hkey es.toList F.keys with ⟨h1, h2⟩ | ⟨j, e0, h1, h2, h3⟩
    · simp [Instr.lookup, run_underlying ht, MapKept.run_getObj_map hb, K.check w _ hkey, h1, hz, Result.andThen] at hL
      have hw0 : (Lit.int q 0).wf = true := by cases q <;> decide
      obtain ⟨w', hrun, ho, hg⟩ := hown0.update KK ht hn hkey (plainElem_int he hw0)
      simp [Instr.mapUpdate, run_underlying ht, MapKept.run_getObj_map hb, K.check w false hkey, h1, MapKept.run_setObj_map _ hb, Result.andThen] at hrun
      simp [Instr.mapEntry, run_underlying ht, MapKept.run_getObj_map hb, K.check w false hkey, h1, hz, MapKept.run_setObj_map _ hb, Result.andThen] at hE
      rw [← hE.2]
      rw [← hrun] at ho
      obtain ⟨c2, hL2, hat2, _⟩ := ho.lookup_int KK ht he (hz _) hkey
      rw [atKey_put_same ⟨_, hD⟩ (KK.key hkey)] at hat2
      rw [hL2]
      injection hat2 with h4
      injection h4 with _ h5
      rw [← h5, hL]
    · have hj : es[j]? = some e0 := by simpa using h2
      have hsame : es.modify j (fun e => { e with key := key }) = es := by
        apply Array.ext'
        rw [Array.toList_modify, modify_eq_set _ _ _ _ h2]
        have : ({ e0 with key := key } : MapEntry) = e0 := by rw [← h3]
        rw [this]
        exact set_self _ _ _ h2
      simp [Instr.mapEntry, run_underlying ht, MapKept.run_getObj_map hb, K.check w false hkey, h1, hj, h3, K.stays w hkey, hsame, MapKept.run_setObj_map _ hb, Result.andThen] at hE
      rw [← hE.2]
      have hw : ({ w with heap := w.heap.setIfInBounds b (.map es clock) } : World) = w := setBlock_self hb
      rw [hw]
      exact hL
end Go.Proofs.Ytapkojfodhdnaaa.Entry
