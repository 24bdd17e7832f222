/- How a table is read out of an argument, and how small it is. -/
import Derived.KernelRfl
import Derived.Test.YtekfemiomdpahaaDoorKdOpen
import Derived.Test.YtekfemiomdpahaaDoorHkPure
namespace Go.Proofs.YtekfemiomdpahaaDoor.KO
open Go Go.Proofs.YtekfemiomdpahaaDoorW.PrintWords Go.Proofs.YtekfemiomdpahaaDoor.Hk
theorem opensHeld : Opens Tryd.prog 31 k31 (fun y => y.f0.size ≤ reachBytes ∧ y.f1.size ≤ reachBytes ∧ y.f2.size ≤ reachBytes ∧ (Lit.int .i64 y.f3).wf = true) (fun y => ((y.f0.size + 1) + ((y.f1.size + 1) + ((y.f2.size + 1) + 1))) + 1) :=
  opens_struct (fun x : S31 => (x.f0, x.f1, x.f2, x.f3)) (fun p => ⟨p.1, p.2.1, p.2.2.1, p.2.2.2⟩) (fun _ => rfl) Tryd.underlying31
      (opens_cons (off' := 1) rfl (opens_string Tryd.underlying9) (by kernel_rfl) (opens_cons (off' := 2) rfl (opens_string Tryd.underlying9) (by kernel_rfl) (opens_cons (off' := 3) rfl (opens_string Tryd.underlying9) (by kernel_rfl) (opens_last rfl (opens_int Tryd.underlying3) (by kernel_rfl)))))
theorem opensHelds : Opens Tryd.prog 22 (Kd.slice 31 k31)
    (fun ys => ys.length * 56 ≤ reachBytes ∧ ∀ y ∈ ys, y.f0.size ≤ reachBytes ∧ y.f1.size ≤ reachBytes ∧ y.f2.size ≤ reachBytes ∧ (Lit.int .i64 y.f3).wf = true)
    (fun ys => (ys.map fun y => ((y.f0.size + 1) + ((y.f1.size + 1) + ((y.f2.size + 1) + 1))) + 1).sum + 1) :=
  opens_slice Tryd.underlying22 opensHeld (by kernel_rfl) (by kernel_rfl)
theorem small_of (l : List S31) {B : Nat} (h : (l.map fun y => ((y.f0.size + 1) + ((y.f1.size + 1) + ((y.f2.size + 1) + 1))) + 1).sum + 1 ≤ B) (hB : B ≤ 1048576) : Pure.Small l := by
  have H : l.length ≤ 1048576 ∧ ∀ y ∈ l, y.f0.size ≤ 1048576 ∧ y.f1.size ≤ 1048576 := by
    have G : ∀ (C : Nat) (l : List S31), (l.map fun y => ((y.f0.size + 1) + ((y.f1.size + 1) + ((y.f2.size + 1) + 1))) + 1).sum + 1 ≤ C → l.length ≤ C ∧ ∀ y ∈ l, y.f0.size ≤ C ∧ y.f1.size ≤ C := by
      intro C l
      induction l with
      | nil => exact fun _ => ⟨Nat.zero_le _, fun y hy => by cases hy⟩
      | cons z l ih =>
        intro h
        simp only [List.map_cons, List.sum_cons] at h
        have hlen : l.length ≤ (l.map fun y => ((y.f0.size + 1) + ((y.f1.size + 1) + ((y.f2.size + 1) + 1))) + 1).sum := by
          clear ih h
          induction l with
          | nil => simp
          | cons y l ih => simp only [List.map_cons, List.sum_cons, List.length_cons]; omega
        obtain ⟨_, h2⟩ := ih (by omega)
        refine ⟨by simp only [List.length_cons]; omega, fun y hy => ?_⟩
        rcases List.mem_cons.1 hy with rfl | hy
        · omega
        · exact h2 y hy
    exact G 1048576 l (by omega)
  exact H
end Go.Proofs.YtekfemiomdpahaaDoor.KO
