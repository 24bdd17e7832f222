/- How a slice of pairs is read out of an argument. -/
import Derived.KernelRfl
import Derived.Test.YtfagmfmpiicggaaDoorKdOpen
import Derived.Test.YtfagmfmpiicggaaDoorHq0
namespace Go.Proofs.YtfagmfmpiicggaaDoor.KO
open Go Go.Proofs.YtfagmfmpiicggaaDoorW.PrintWords Go.Proofs.YtfagmfmpiicggaaDoor.Hq
theorem opensPairs : Opens Tryd.prog 22 (Kd.slice 24 k24)
    (fun ys => ys.length * 32 ≤ reachBytes ∧ ∀ y ∈ ys, y.f0.size ≤ reachBytes ∧ y.f1.size ≤ reachBytes)
    (fun ys => (ys.map fun y => ((y.f0.size + 1) + (y.f1.size + 1)) + 1).sum + 1) :=
  opens_slice Tryd.underlying22
    (opens_struct (fun x : S24 => (x.f0, x.f1)) (fun p => ⟨p.1, p.2⟩) (fun _ => rfl) Tryd.underlying24
      (opens_cons (off' := 1) rfl (opens_string Tryd.underlying9) (by kernel_rfl) (opens_last rfl (opens_string Tryd.underlying9) (by kernel_rfl))))
    (by kernel_rfl) (by kernel_rfl)
theorem bulk_pairs (l : List S24) : (l.map fun y => ((y.f0.size + 1) + (y.f1.size + 1)) + 1).sum = (l.map fun y => y.f0.size + y.f1.size).sum + 3 * l.length := by
  induction l with
  | nil => rfl
  | cons y l ih => simp only [List.map_cons, List.sum_cons, List.length_cons, ih]; omega
end Go.Proofs.YtfagmfmpiicggaaDoor.KO
