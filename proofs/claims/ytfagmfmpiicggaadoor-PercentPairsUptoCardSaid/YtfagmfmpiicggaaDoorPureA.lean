/- Layer 18, the plain side: the page's example, and the law PercentPlain. No program in sight. -/
import Derived.Test.YtfagmfmpiicggaaDoorHx12
namespace Go.Proofs.YtfagmfmpiicggaaDoor.Pure
open Go.RowKit Go.Proofs.YtfagmfmpiicggaaDoor.Hx
set_option linter.unusedVariables false
theorem awake_query : percent_Query.f 4 [(⟨(⟨#[120, 32, 121]⟩ : ByteArray), (⟨#[49, 38, 50]⟩ : ByteArray)⟩ : S24), (⟨(⟨#[122]⟩ : ByteArray), (⟨#[]⟩ : ByteArray)⟩ : S24)] = some (⟨#[120, 37, 50, 48, 121, 61, 49, 37, 50, 54, 50, 38, 122]⟩, 0) := by
  simp only [percent_Query.f, percent_Query.l0, ByteArray.toList_eq]
  kernel_rfl
theorem awake_unquery : percent_Unquery.f (⟨#[97, 43, 98, 61, 37, 52, 49, 38, 99]⟩ : ByteArray) = some ([⟨⟨#[97, 32, 98]⟩, ⟨#[65]⟩⟩, ⟨⟨#[99]⟩, ⟨#[]⟩⟩], 0) := by
  kernel_rfl
theorem awake_true : stowagelaw18_awake.f 4 = some true := by
  unfold stowagelaw18_awake.f
  rw [awake_query, awake_unquery]
  simp only [Option.bind_some, ByteArray.toList_eq]
  kernel_rfl
end Go.Proofs.YtfagmfmpiicggaaDoor.Pure
