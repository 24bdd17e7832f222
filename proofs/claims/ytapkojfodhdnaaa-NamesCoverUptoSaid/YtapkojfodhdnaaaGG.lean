/- A fact about the world that the library's search wants: internal/bytealg.MaxLen holds a whole number. -/
import Derived.Below
import Derived.Test.YtapkojfodhdnaaaProg
namespace Go.Proofs.Ytapkojfodhdnaaa
open Go Go.RowKit
def GG (w : World) : Prop := ∃ m : Int, w.cell? ⟨0, 0, none⟩ = some (.int .i64 m)
theorem gg_below {w w' : World} (h : GG w) (hb : Below w.heap.size w w') : GG w' := by
  obtain ⟨m, hm⟩ := h
  exact ⟨m, (hb.cell (World.block_lt_of_cell? w _ hm)).trans hm⟩
end Go.Proofs.Ytapkojfodhdnaaa
