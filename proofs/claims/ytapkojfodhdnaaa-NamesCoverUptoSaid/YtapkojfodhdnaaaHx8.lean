-- Written for this claim by hyb.py, a driver of this session's over the kit's printer.
import Derived.Test.YtapkojfodhdnaaaHx0
import Derived.Test.YtapkojfodhdnaaaShelf
import Derived.Test.YtapkojfodhdnaaaGG
namespace Go.Proofs.Ytapkojfodhdnaaa.Hx
open Go.RowKit Go.Proofs.YtapkojfodhdnaaaW.PrintWords Go.Proofs.YtapkojfodhdnaaaW.PrintLast Go.Proofs.YtapkojfodhdnaaaW.PrintMore
attribute [local go_sem] max2_int min2_int max_two min_two max_three min_three max_four min_four   -- for this text's walks alone
set_option linter.unusedVariables false
set_option linter.unusedSimpArgs false

/-! ### EXT strings_Contains: function 26 -/
def strings_Contains.f (a0 : ByteArray) (a1 : ByteArray) : Option (Bool) := if a0.size < 4294967281 then some (Lib.contains a0.data.toList a1.data.toList) else none
theorem strings_Contains.calls (a0 : ByteArray) (a1 : ByteArray) (r : Bool) (w : World) (h : strings_Contains.f a0 a1 = some r) (hG : GG w) :
    Calls Try.prog 26 #[.string a0, .string a1] w fun e w' => e = .returned (.bool r) ∧ Drawn0 w w' := by
  unfold strings_Contains.f at h
  split at h
  · rename_i hs
    cases h
    obtain ⟨m, hm⟩ := hG
    exact (Try.strings_Contains a0 a1 m w hs hm).mono fun e w' ⟨he, hw⟩ => ⟨he, hw ▸ Drawn0.refl w⟩
  · cases h

end Go.Proofs.Ytapkojfodhdnaaa.Hx
