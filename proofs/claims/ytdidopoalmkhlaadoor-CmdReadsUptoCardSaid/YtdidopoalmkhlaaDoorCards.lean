/-
  DERIVED. GIVEN WITH THE SEED: THE CARDS: each row of YtdidopoalmkhlaaDoorRows.lean that lists a variable, with what it lists TIED to the program's text (the seventh form; the later family's looks); each row that meets fmt, with fmt's text TOLD by the authors' own Lean function (tested against real Go, not proved from fmt's source: count such statements apart). THE CARD IS WHAT COUNTS. Prove the row's statement (the work); the ties are given (YtdidopoalmkhlaaDoorTie.lean); close each card by the builder's one call (the guide's Derived/Test/ToyasCard.lean, 'card_holds'). Laid BY PROGRAM, IN A SANDBOX (cutbox-door.mjs). By AI agents, Wed Nov 11 2026. No macro, syntax, notation, axiom, sorry.
-/
import Derived.Test.YtdidopoalmkhlaaDoorRows
import GoSem.ClaimSeven
namespace Go.Proofs.YtdidopoalmkhlaaDoor
namespace Rows

/-- THE TIED CARD OF 'stowagelaw16.CmdTexts'. -/
def cmdTextsCard : Claim7 := { stood := { row := cmdTextsRow, standIns := [], harness := (true, "e055e4fc8404217524a8a0092cf9f163f1b35a85c0b73c2d3ee4a26aa82820d5"), looks := false }, kinds := [], alts := [], laidByText := true, laidKinds := [.data], laidTests := true, laidLooks := .later }
def CmdTextsCardSaid : Prop := Claim7.holds Tryd.pinned (.plain (OpenSpec.ofChange cmdTextsSpec)) cmdTextsCard

/-- THE TIED CARD OF 'stowagelaw16.CmdReads'. -/
def cmdReadsCard : Claim7 := { stood := { row := cmdReadsRow, standIns := [], harness := (true, "e055e4fc8404217524a8a0092cf9f163f1b35a85c0b73c2d3ee4a26aa82820d5"), looks := false }, kinds := [], alts := [], laidByText := true, laidKinds := [.data], laidTests := true, laidLooks := .later }
def CmdReadsCardSaid : Prop := Claim7.holds Tryd.pinned (.plain (OpenSpec.ofChange cmdReadsSpec)) cmdReadsCard

/-- THE TIED CARD OF 'stowagelaw16.CmdBack'. -/
def cmdBackCard : Claim7 := { stood := { row := cmdBackRow, standIns := [], harness := (true, "e055e4fc8404217524a8a0092cf9f163f1b35a85c0b73c2d3ee4a26aa82820d5"), looks := false }, kinds := [], alts := [], laidByText := true, laidKinds := [.data], laidTests := true, laidLooks := .later }
def CmdBackCardSaid : Prop := Claim7.holds Tryd.pinned (.plain (OpenSpec.ofChange cmdBackSpec)) cmdBackCard

/-- THE TIED CARD OF 'stowagelaw16.CmdApart'. -/
def cmdApartCard : Claim7 := { stood := { row := cmdApartRow, standIns := [], harness := (true, "e055e4fc8404217524a8a0092cf9f163f1b35a85c0b73c2d3ee4a26aa82820d5"), looks := false }, kinds := [], alts := [], laidByText := true, laidKinds := [.data], laidTests := true, laidLooks := .later }
def CmdApartCardSaid : Prop := Claim7.holds Tryd.pinned (.plain (OpenSpec.ofChange cmdApartSpec)) cmdApartCard

/-- THE TIED CARD OF 'stowagelaw16.CmdOuts'. -/
def cmdOutsCard : Claim7 := { stood := { row := cmdOutsRow, standIns := [], harness := (true, "e055e4fc8404217524a8a0092cf9f163f1b35a85c0b73c2d3ee4a26aa82820d5"), looks := false }, kinds := [], alts := [], laidByText := true, laidKinds := [.data], laidTests := true, laidLooks := .later }
def CmdOutsCardSaid : Prop := Claim7.holds Tryd.pinned (.plain (OpenSpec.ofChange cmdOutsSpec)) cmdOutsCard

/-- THE SECOND FORM's CARD OF 'stowagelaw16.CmdTexts'. -/
def cmdTextsUptoCard : Claim7 := { stood := { row := cmdTextsUptoRow, standIns := [], harness := (true, "e055e4fc8404217524a8a0092cf9f163f1b35a85c0b73c2d3ee4a26aa82820d5"), looks := false }, kinds := [], alts := [], laidByText := true, laidKinds := [.data], laidTests := true, laidLooks := .later }
def CmdTextsUptoCardSaid : Prop := Claim7.holds Tryd.pinned (.plain (OpenSpec.upto cmdTextsSpec)) cmdTextsUptoCard

/-- THE SECOND FORM's CARD OF 'stowagelaw16.CmdReads'. -/
def cmdReadsUptoCard : Claim7 := { stood := { row := cmdReadsUptoRow, standIns := [], harness := (true, "e055e4fc8404217524a8a0092cf9f163f1b35a85c0b73c2d3ee4a26aa82820d5"), looks := false }, kinds := [], alts := [], laidByText := true, laidKinds := [.data], laidTests := true, laidLooks := .later }
def CmdReadsUptoCardSaid : Prop := Claim7.holds Tryd.pinned (.plain (OpenSpec.upto cmdReadsSpec)) cmdReadsUptoCard

/-- THE SECOND FORM's CARD OF 'stowagelaw16.CmdBack'. -/
def cmdBackUptoCard : Claim7 := { stood := { row := cmdBackUptoRow, standIns := [], harness := (true, "e055e4fc8404217524a8a0092cf9f163f1b35a85c0b73c2d3ee4a26aa82820d5"), looks := false }, kinds := [], alts := [], laidByText := true, laidKinds := [.data], laidTests := true, laidLooks := .later }
def CmdBackUptoCardSaid : Prop := Claim7.holds Tryd.pinned (.plain (OpenSpec.upto cmdBackSpec)) cmdBackUptoCard

/-- THE SECOND FORM's CARD OF 'stowagelaw16.CmdApart'. -/
def cmdApartUptoCard : Claim7 := { stood := { row := cmdApartUptoRow, standIns := [], harness := (true, "e055e4fc8404217524a8a0092cf9f163f1b35a85c0b73c2d3ee4a26aa82820d5"), looks := false }, kinds := [], alts := [], laidByText := true, laidKinds := [.data], laidTests := true, laidLooks := .later }
def CmdApartUptoCardSaid : Prop := Claim7.holds Tryd.pinned (.plain (OpenSpec.upto cmdApartSpec)) cmdApartUptoCard

/-- THE SECOND FORM's CARD OF 'stowagelaw16.CmdOuts'. -/
def cmdOutsUptoCard : Claim7 := { stood := { row := cmdOutsUptoRow, standIns := [], harness := (true, "e055e4fc8404217524a8a0092cf9f163f1b35a85c0b73c2d3ee4a26aa82820d5"), looks := false }, kinds := [], alts := [], laidByText := true, laidKinds := [.data], laidTests := true, laidLooks := .later }
def CmdOutsUptoCardSaid : Prop := Claim7.holds Tryd.pinned (.plain (OpenSpec.upto cmdOutsSpec)) cmdOutsUptoCard
end Rows
end Go.Proofs.YtdidopoalmkhlaaDoor
