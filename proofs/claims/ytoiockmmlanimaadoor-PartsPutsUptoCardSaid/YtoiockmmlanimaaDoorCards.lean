/-
  DERIVED. GIVEN WITH THE SEED: THE CARDS: each row of YtoiockmmlanimaaDoorRows.lean that lists a variable, with what it lists TIED to the program's text (the seventh form; the later family's looks); each row that meets fmt, with fmt's text TOLD by the authors' own Lean function (tested against real Go, not proved from fmt's source: count such statements apart). THE CARD IS WHAT COUNTS. Prove the row's statement (the work); the ties are given (YtoiockmmlanimaaDoorTie.lean); close each card by the builder's one call (the guide's Derived/Test/ToyasCard.lean, 'card_holds'). Laid BY PROGRAM, IN A SANDBOX (cutbox-door.mjs). By AI agents, Wed Nov 11 2026. No macro, syntax, notation, axiom, sorry.
-/
import Derived.Test.YtoiockmmlanimaaDoorRows
import GoSem.ClaimSeven
namespace Go.Proofs.YtoiockmmlanimaaDoor
namespace Rows

/-- THE TIED CARD OF 'stowagelaw14.PartsJoins'. -/
def partsJoinsCard : Claim7 := { stood := { row := partsJoinsRow, standIns := [], harness := (true, "c7b4ef7e720c07472ab85ca1cdc396c2a54ac3e1ca803742f3c1a07fcf2e7eac"), looks := false }, kinds := [], alts := [], laidByText := true, laidKinds := [.data], laidTests := true, laidLooks := .later }
def PartsJoinsCardSaid : Prop := Claim7.holds Tryd.pinned (.plain (OpenSpec.ofChange partsJoinsSpec)) partsJoinsCard

/-- THE TIED CARD OF 'stowagelaw14.PartsOrder'. -/
def partsOrderCard : Claim7 := { stood := { row := partsOrderRow, standIns := [], harness := (true, "c7b4ef7e720c07472ab85ca1cdc396c2a54ac3e1ca803742f3c1a07fcf2e7eac"), looks := false }, kinds := [], alts := [], laidByText := true, laidKinds := [.data], laidTests := true, laidLooks := .later }
def PartsOrderCardSaid : Prop := Claim7.holds Tryd.pinned (.plain (OpenSpec.ofChange partsOrderSpec)) partsOrderCard

/-- THE TIED CARD OF 'stowagelaw14.PartsPuts'. -/
def partsPutsCard : Claim7 := { stood := { row := partsPutsRow, standIns := [], harness := (true, "c7b4ef7e720c07472ab85ca1cdc396c2a54ac3e1ca803742f3c1a07fcf2e7eac"), looks := false }, kinds := [], alts := [], laidByText := true, laidKinds := [.data], laidTests := true, laidLooks := .later }
def PartsPutsCardSaid : Prop := Claim7.holds Tryd.pinned (.plain (OpenSpec.ofChange partsPutsSpec)) partsPutsCard

/-- THE TIED CARD OF 'stowagelaw14.PartsWhole'. -/
def partsWholeCard : Claim7 := { stood := { row := partsWholeRow, standIns := [], harness := (true, "c7b4ef7e720c07472ab85ca1cdc396c2a54ac3e1ca803742f3c1a07fcf2e7eac"), looks := false }, kinds := [], alts := [], laidByText := true, laidKinds := [.data], laidTests := true, laidLooks := .later }
def PartsWholeCardSaid : Prop := Claim7.holds Tryd.pinned (.plain (OpenSpec.ofChange partsWholeSpec)) partsWholeCard

/-- THE TIED CARD OF 'stowagelaw14.PartsBytes'. -/
def partsBytesCard : Claim7 := { stood := { row := partsBytesRow, standIns := [], harness := (true, "c7b4ef7e720c07472ab85ca1cdc396c2a54ac3e1ca803742f3c1a07fcf2e7eac"), looks := false }, kinds := [], alts := [], laidByText := true, laidKinds := [.data], laidTests := true, laidLooks := .later }
def PartsBytesCardSaid : Prop := Claim7.holds Tryd.pinned (.plain (OpenSpec.ofChange partsBytesSpec)) partsBytesCard

/-- THE TIED CARD OF 'stowagelaw14.PartsBack'. -/
def partsBackCard : Claim7 := { stood := { row := partsBackRow, standIns := [], harness := (true, "c7b4ef7e720c07472ab85ca1cdc396c2a54ac3e1ca803742f3c1a07fcf2e7eac"), looks := false }, kinds := [], alts := [], laidByText := true, laidKinds := [.data], laidTests := true, laidLooks := .later }
def PartsBackCardSaid : Prop := Claim7.holds Tryd.pinned (.plain (OpenSpec.ofChange partsBackSpec)) partsBackCard

/-- THE SECOND FORM's CARD OF 'stowagelaw14.PartsJoins'. -/
def partsJoinsUptoCard : Claim7 := { stood := { row := partsJoinsUptoRow, standIns := [], harness := (true, "c7b4ef7e720c07472ab85ca1cdc396c2a54ac3e1ca803742f3c1a07fcf2e7eac"), looks := false }, kinds := [], alts := [], laidByText := true, laidKinds := [.data], laidTests := true, laidLooks := .later }
def PartsJoinsUptoCardSaid : Prop := Claim7.holds Tryd.pinned (.plain (OpenSpec.upto partsJoinsSpec)) partsJoinsUptoCard

/-- THE SECOND FORM's CARD OF 'stowagelaw14.PartsOrder'. -/
def partsOrderUptoCard : Claim7 := { stood := { row := partsOrderUptoRow, standIns := [], harness := (true, "c7b4ef7e720c07472ab85ca1cdc396c2a54ac3e1ca803742f3c1a07fcf2e7eac"), looks := false }, kinds := [], alts := [], laidByText := true, laidKinds := [.data], laidTests := true, laidLooks := .later }
def PartsOrderUptoCardSaid : Prop := Claim7.holds Tryd.pinned (.plain (OpenSpec.upto partsOrderSpec)) partsOrderUptoCard

/-- THE SECOND FORM's CARD OF 'stowagelaw14.PartsPuts'. -/
def partsPutsUptoCard : Claim7 := { stood := { row := partsPutsUptoRow, standIns := [], harness := (true, "c7b4ef7e720c07472ab85ca1cdc396c2a54ac3e1ca803742f3c1a07fcf2e7eac"), looks := false }, kinds := [], alts := [], laidByText := true, laidKinds := [.data], laidTests := true, laidLooks := .later }
def PartsPutsUptoCardSaid : Prop := Claim7.holds Tryd.pinned (.plain (OpenSpec.upto partsPutsSpec)) partsPutsUptoCard

/-- THE SECOND FORM's CARD OF 'stowagelaw14.PartsWhole'. -/
def partsWholeUptoCard : Claim7 := { stood := { row := partsWholeUptoRow, standIns := [], harness := (true, "c7b4ef7e720c07472ab85ca1cdc396c2a54ac3e1ca803742f3c1a07fcf2e7eac"), looks := false }, kinds := [], alts := [], laidByText := true, laidKinds := [.data], laidTests := true, laidLooks := .later }
def PartsWholeUptoCardSaid : Prop := Claim7.holds Tryd.pinned (.plain (OpenSpec.upto partsWholeSpec)) partsWholeUptoCard

/-- THE SECOND FORM's CARD OF 'stowagelaw14.PartsBytes'. -/
def partsBytesUptoCard : Claim7 := { stood := { row := partsBytesUptoRow, standIns := [], harness := (true, "c7b4ef7e720c07472ab85ca1cdc396c2a54ac3e1ca803742f3c1a07fcf2e7eac"), looks := false }, kinds := [], alts := [], laidByText := true, laidKinds := [.data], laidTests := true, laidLooks := .later }
def PartsBytesUptoCardSaid : Prop := Claim7.holds Tryd.pinned (.plain (OpenSpec.upto partsBytesSpec)) partsBytesUptoCard

/-- THE SECOND FORM's CARD OF 'stowagelaw14.PartsBack'. -/
def partsBackUptoCard : Claim7 := { stood := { row := partsBackUptoRow, standIns := [], harness := (true, "c7b4ef7e720c07472ab85ca1cdc396c2a54ac3e1ca803742f3c1a07fcf2e7eac"), looks := false }, kinds := [], alts := [], laidByText := true, laidKinds := [.data], laidTests := true, laidLooks := .later }
def PartsBackUptoCardSaid : Prop := Claim7.holds Tryd.pinned (.plain (OpenSpec.upto partsBackSpec)) partsBackUptoCard
end Rows
end Go.Proofs.YtoiockmmlanimaaDoor
