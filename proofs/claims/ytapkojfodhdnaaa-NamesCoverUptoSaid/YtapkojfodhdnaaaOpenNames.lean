/- How keys, and what is asked of a listing, are read out of an argument, and how small they are. -/
import Derived.KernelRfl
import Derived.Test.YtapkojfodhdnaaaKdOpen
namespace Go.Proofs.Ytapkojfodhdnaaa.KO
open Go Go.Proofs.YtapkojfodhdnaaaW.PrintWords
structure Ask where
  f0 : ByteArray
  f1 : ByteArray
  f2 : ByteArray
  f3 : Int
def kAsk : Kd Ask := Kd.iso (Kd.pair Kd.string (Kd.pair Kd.string (Kd.pair Kd.string (Kd.int .i64)))) (fun x : Ask => (x.f0, x.f1, x.f2, x.f3))
theorem kAsk_open {w : World} {x : Ask} {cs : List Value} (h : kAsk.K w x cs) : cs = [.string x.f0, .string x.f1, .string x.f2, .int .i64 x.f3] := by
  obtain ⟨_, _, rfl, rfl, _, _, rfl, rfl, _, _, rfl, rfl, rfl⟩ := h
  exact rfl
theorem opensAsk : Opens Try.prog 24 kAsk (fun y => y.f0.size ≤ reachBytes ∧ y.f1.size ≤ reachBytes ∧ y.f2.size ≤ reachBytes ∧ (Lit.int .i64 y.f3).wf = true) (fun y => ((y.f0.size + 1) + ((y.f1.size + 1) + ((y.f2.size + 1) + 1))) + 1) :=
  opens_struct (fun x : Ask => (x.f0, x.f1, x.f2, x.f3)) (fun p => ⟨p.1, p.2.1, p.2.2.1, p.2.2.2⟩) (fun _ => rfl) Try.underlying24
      (opens_cons (off' := 1) rfl (opens_string Try.underlying9) (by kernel_rfl) (opens_cons (off' := 2) rfl (opens_string Try.underlying9) (by kernel_rfl) (opens_cons (off' := 3) rfl (opens_string Try.underlying9) (by kernel_rfl) (opens_last rfl (opens_int Try.underlying3) (by kernel_rfl)))))
theorem opensKeys : Opens Try.prog 22 (Kd.slice 9 Kd.string) (fun ys => ys.length * 16 ≤ reachBytes ∧ ∀ y ∈ ys, y.size ≤ reachBytes) (fun ys => (ys.map fun y => y.size + 1).sum + 1) :=
  opens_slice Try.underlying22 (opens_string Try.underlying9) (by kernel_rfl) (by kernel_rfl)
theorem small_keys (l : List ByteArray) {B : Nat} (h : (l.map fun y => y.size + 1).sum + 1 ≤ B) (hB : B ≤ 1048576) : ∀ k ∈ l, k.size ≤ 1048576 := by
  induction l generalizing B with
  | nil => intro k hk; cases hk
  | cons z l ih =>
    intro k hk
    simp only [List.map_cons, List.sum_cons] at h
    rcases List.mem_cons.1 hk with rfl | hk
    · omega
    · exact ih (B := B) (by omega) hB k hk
theorem opensInts : Opens Try.prog 34 (Kd.slice 3 (Kd.int .i64)) (fun ys => ys.length * 8 ≤ reachBytes ∧ ∀ y ∈ ys, (Lit.int .i64 y).wf = true) (fun ys => (ys.map fun _ => 1).sum + 1) :=
  opens_slice Try.underlying34 (opens_int Try.underlying3) (by kernel_rfl) (by kernel_rfl)
end Go.Proofs.Ytapkojfodhdnaaa.KO
