/-
  DERIVED. GIVEN WITH THE SEED: THE CARDS: each row of YtcecdbbomadppaaDoorRows.lean that lists a variable, with what it lists TIED to the program's text (the seventh form; the later family's looks); each row that meets fmt, with fmt's text TOLD by the authors' own Lean function (tested against real Go, not proved from fmt's source: count such statements apart). THE CARD IS WHAT COUNTS. Prove the row's statement (the work); the ties are given (YtcecdbbomadppaaDoorTie.lean); close each card by the builder's one call (the guide's Derived/Test/ToyasCard.lean, 'card_holds'). Laid BY PROGRAM, IN A SANDBOX (cutbox-door.mjs). By AI agents, Wed Nov 11 2026. No macro, syntax, notation, axiom, sorry.
-/
import Derived.Test.YtcecdbbomadppaaDoorRows
import GoSem.ClaimSeven
namespace Go.Proofs.YtcecdbbomadppaaDoor
namespace Rows

/-- THE TIED CARD OF 'stowagelaw19.HttpMore'. -/
def httpMoreCard : Claim7 := { stood := { row := httpMoreRow, standIns := [], harness := (true, "f6d8ea5b512b074456bab843620a7b71a03fc0629ce9cd9037635192af66b6f9"), looks := true }, kinds := [], alts := [], laidByText := true, laidKinds := [.data, .data, .data, .data, .sentinel, .sentinel, .widerDeep, .pinned], laidTests := true, laidLooks := .later }
def HttpMoreCardSaid : Prop := Claim7.holds Tryd.pinned (.plain (OpenSpec.ofChange httpMoreSpec)) httpMoreCard

/-- THE TIED CARD OF 'stowagelaw19.HttpPieces'. -/
def httpPiecesCard : Claim7 := { stood := { row := httpPiecesRow, standIns := [], harness := (true, "f6d8ea5b512b074456bab843620a7b71a03fc0629ce9cd9037635192af66b6f9"), looks := true }, kinds := [], alts := [], laidByText := true, laidKinds := [.data, .data, .data, .data, .sentinel, .sentinel, .widerDeep, .pinned], laidTests := true, laidLooks := .later }
def HttpPiecesCardSaid : Prop := Claim7.holds Tryd.pinned (.plain (OpenSpec.ofChange httpPiecesSpec)) httpPiecesCard

/-- THE TIED CARD OF 'stowagelaw19.HttpNil'. -/
def httpNilCard : Claim7 := { stood := { row := httpNilRow, standIns := [], harness := (true, "f6d8ea5b512b074456bab843620a7b71a03fc0629ce9cd9037635192af66b6f9"), looks := true }, kinds := [], alts := [], laidByText := true, laidKinds := [.data, .data, .data, .data, .sentinel, .sentinel, .widerDeep, .pinned], laidTests := true, laidLooks := .later }
def HttpNilCardSaid : Prop := Claim7.holds Tryd.pinned (.plain (OpenSpec.ofChange httpNilSpec)) httpNilCard

/-- THE SECOND FORM's CARD OF 'stowagelaw19.HttpMore'. -/
def httpMoreUptoCard : Claim7 := { stood := { row := httpMoreUptoRow, standIns := [], harness := (true, "f6d8ea5b512b074456bab843620a7b71a03fc0629ce9cd9037635192af66b6f9"), looks := true }, kinds := [], alts := [], laidByText := true, laidKinds := [.data, .data, .data, .data, .sentinel, .sentinel, .widerDeep, .pinned], laidTests := true, laidLooks := .later }
def HttpMoreUptoCardSaid : Prop := Claim7.holds Tryd.pinned (.plain (OpenSpec.upto httpMoreSpec)) httpMoreUptoCard

/-- THE SECOND FORM's CARD OF 'stowagelaw19.HttpPieces'. -/
def httpPiecesUptoCard : Claim7 := { stood := { row := httpPiecesUptoRow, standIns := [], harness := (true, "f6d8ea5b512b074456bab843620a7b71a03fc0629ce9cd9037635192af66b6f9"), looks := true }, kinds := [], alts := [], laidByText := true, laidKinds := [.data, .data, .data, .data, .sentinel, .sentinel, .widerDeep, .pinned], laidTests := true, laidLooks := .later }
def HttpPiecesUptoCardSaid : Prop := Claim7.holds Tryd.pinned (.plain (OpenSpec.upto httpPiecesSpec)) httpPiecesUptoCard

/-- THE SECOND FORM's CARD OF 'stowagelaw19.HttpNil'. -/
def httpNilUptoCard : Claim7 := { stood := { row := httpNilUptoRow, standIns := [], harness := (true, "f6d8ea5b512b074456bab843620a7b71a03fc0629ce9cd9037635192af66b6f9"), looks := true }, kinds := [], alts := [], laidByText := true, laidKinds := [.data, .data, .data, .data, .sentinel, .sentinel, .widerDeep, .pinned], laidTests := true, laidLooks := .later }
def HttpNilUptoCardSaid : Prop := Claim7.holds Tryd.pinned (.plain (OpenSpec.upto httpNilSpec)) httpNilUptoCard
end Rows
end Go.Proofs.YtcecdbbomadppaaDoor
