-- Written for this claim by hyb.py, a driver of this session's over the kit's printer.
import Derived.Test.YtfagmfmpiicggaaDoorHq0
import Derived.Test.YtfagmfmpiicggaaDoorShelf
import Derived.Test.YtfagmfmpiicggaaDoorQPercent
namespace Go.Proofs.YtfagmfmpiicggaaDoor.Hq
open Go.RowKit Go.Proofs.YtfagmfmpiicggaaDoorW.PrintWords Go.Proofs.YtfagmfmpiicggaaDoorW.PrintLast Go.Proofs.YtfagmfmpiicggaaDoorW.PrintMore
attribute [local go_sem] max2_int min2_int max_two min_two max_three min_three max_four min_four   -- for this text's walks alone
set_option linter.unusedVariables false
set_option linter.unusedSimpArgs false

/-! ### EXT strings_IndexByte: function 42 -/
/-- strings.IndexByte: where a byte stands first; -1: nowhere. -/
def strings_IndexByte.f (a0 : ByteArray) (a1 : Int) : Option (Int) := some (Lib.indexByte a0.data.toList a1.toNat.toUInt8)
theorem strings_IndexByte.calls (a0 : ByteArray) (a1 : Int) (r : Int) (w : World) (h : strings_IndexByte.f a0 a1 = some r) :
    Calls Tryd.prog 42 #[.string a0, .int .u8 a1] w fun e w' => e = .returned (.int .i64 r) ∧ Drawn0 w w' := by
  obtain rfl := Option.some.inj h
  exact (Tryd.strings_IndexByte a0 a1 w).mono fun e w' ⟨he, hw⟩ => ⟨he, hw ▸ Drawn0.refl w⟩

end Go.Proofs.YtfagmfmpiicggaaDoor.Hq
