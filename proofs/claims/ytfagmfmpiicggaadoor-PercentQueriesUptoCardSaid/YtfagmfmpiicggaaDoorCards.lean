/-
  DERIVED. GIVEN WITH THE SEED: THE CARDS: each row of YtfagmfmpiicggaaDoorRows.lean that lists a variable, with what it lists TIED to the program's text (the seventh form; the later family's looks); each row that meets fmt, with fmt's text TOLD by the authors' own Lean function (tested against real Go, not proved from fmt's source: count such statements apart). THE CARD IS WHAT COUNTS. Prove the row's statement (the work); the ties are given (YtfagmfmpiicggaaDoorTie.lean); close each card by the builder's one call (the guide's Derived/Test/ToyasCard.lean, 'card_holds'). Laid BY PROGRAM, IN A SANDBOX (cutbox-door.mjs). By AI agents, Wed Nov 11 2026. No macro, syntax, notation, axiom, sorry.
-/
import Derived.Test.YtfagmfmpiicggaaDoorRows
import GoSem.ClaimSeven
namespace Go.Proofs.YtfagmfmpiicggaaDoor
namespace Rows

/-- THE TIED CARD OF 'stowagelaw18.PercentPairs'. -/
def percentPairsCard : Claim7 := { stood := { row := percentPairsRow, standIns := [], harness := (true, "0a3910631df93bf5c6d641c98aad809f93b53c7b374bc45deec6ae79d6df216a"), looks := false }, kinds := [], alts := [], laidByText := true, laidKinds := [.data, .pinned], laidTests := true, laidLooks := .later }
def PercentPairsCardSaid : Prop := Claim7.holds Tryd.pinned (.plain (OpenSpec.ofChange percentPairsSpec)) percentPairsCard

/-- THE TIED CARD OF 'stowagelaw18.PercentPlain'. -/
def percentPlainCard : Claim7 := { stood := { row := percentPlainRow, standIns := [], harness := (true, "0a3910631df93bf5c6d641c98aad809f93b53c7b374bc45deec6ae79d6df216a"), looks := false }, kinds := [], alts := [], laidByText := true, laidKinds := [.data, .pinned], laidTests := true, laidLooks := .later }
def PercentPlainCardSaid : Prop := Claim7.holds Tryd.pinned (.plain (OpenSpec.ofChange percentPlainSpec)) percentPlainCard

/-- THE TIED CARD OF 'stowagelaw18.PercentPaths'. -/
def percentPathsCard : Claim7 := { stood := { row := percentPathsRow, standIns := [], harness := (true, "0a3910631df93bf5c6d641c98aad809f93b53c7b374bc45deec6ae79d6df216a"), looks := false }, kinds := [], alts := [], laidByText := true, laidKinds := [.data, .pinned], laidTests := true, laidLooks := .later }
def PercentPathsCardSaid : Prop := Claim7.holds Tryd.pinned (.plain (OpenSpec.ofChange percentPathsSpec)) percentPathsCard

/-- THE TIED CARD OF 'stowagelaw18.PercentBack'. -/
def percentBackCard : Claim7 := { stood := { row := percentBackRow, standIns := [], harness := (true, "0a3910631df93bf5c6d641c98aad809f93b53c7b374bc45deec6ae79d6df216a"), looks := false }, kinds := [], alts := [], laidByText := true, laidKinds := [.data, .pinned], laidTests := true, laidLooks := .later }
def PercentBackCardSaid : Prop := Claim7.holds Tryd.pinned (.plain (OpenSpec.ofChange percentBackSpec)) percentBackCard

/-- THE TIED CARD OF 'stowagelaw18.PercentQueries'. -/
def percentQueriesCard : Claim7 := { stood := { row := percentQueriesRow, standIns := [], harness := (true, "0a3910631df93bf5c6d641c98aad809f93b53c7b374bc45deec6ae79d6df216a"), looks := false }, kinds := [], alts := [], laidByText := true, laidKinds := [.data, .pinned], laidTests := true, laidLooks := .later }
def PercentQueriesCardSaid : Prop := Claim7.holds Tryd.pinned (.plain (OpenSpec.ofChange percentQueriesSpec)) percentQueriesCard

/-- THE SECOND FORM's CARD OF 'stowagelaw18.PercentPairs'. -/
def percentPairsUptoCard : Claim7 := { stood := { row := percentPairsUptoRow, standIns := [], harness := (true, "0a3910631df93bf5c6d641c98aad809f93b53c7b374bc45deec6ae79d6df216a"), looks := false }, kinds := [], alts := [], laidByText := true, laidKinds := [.data, .pinned], laidTests := true, laidLooks := .later }
def PercentPairsUptoCardSaid : Prop := Claim7.holds Tryd.pinned (.plain (OpenSpec.upto percentPairsSpec)) percentPairsUptoCard

/-- THE SECOND FORM's CARD OF 'stowagelaw18.PercentPlain'. -/
def percentPlainUptoCard : Claim7 := { stood := { row := percentPlainUptoRow, standIns := [], harness := (true, "0a3910631df93bf5c6d641c98aad809f93b53c7b374bc45deec6ae79d6df216a"), looks := false }, kinds := [], alts := [], laidByText := true, laidKinds := [.data, .pinned], laidTests := true, laidLooks := .later }
def PercentPlainUptoCardSaid : Prop := Claim7.holds Tryd.pinned (.plain (OpenSpec.upto percentPlainSpec)) percentPlainUptoCard

/-- THE SECOND FORM's CARD OF 'stowagelaw18.PercentPaths'. -/
def percentPathsUptoCard : Claim7 := { stood := { row := percentPathsUptoRow, standIns := [], harness := (true, "0a3910631df93bf5c6d641c98aad809f93b53c7b374bc45deec6ae79d6df216a"), looks := false }, kinds := [], alts := [], laidByText := true, laidKinds := [.data, .pinned], laidTests := true, laidLooks := .later }
def PercentPathsUptoCardSaid : Prop := Claim7.holds Tryd.pinned (.plain (OpenSpec.upto percentPathsSpec)) percentPathsUptoCard

/-- THE SECOND FORM's CARD OF 'stowagelaw18.PercentBack'. -/
def percentBackUptoCard : Claim7 := { stood := { row := percentBackUptoRow, standIns := [], harness := (true, "0a3910631df93bf5c6d641c98aad809f93b53c7b374bc45deec6ae79d6df216a"), looks := false }, kinds := [], alts := [], laidByText := true, laidKinds := [.data, .pinned], laidTests := true, laidLooks := .later }
def PercentBackUptoCardSaid : Prop := Claim7.holds Tryd.pinned (.plain (OpenSpec.upto percentBackSpec)) percentBackUptoCard

/-- THE SECOND FORM's CARD OF 'stowagelaw18.PercentQueries'. -/
def percentQueriesUptoCard : Claim7 := { stood := { row := percentQueriesUptoRow, standIns := [], harness := (true, "0a3910631df93bf5c6d641c98aad809f93b53c7b374bc45deec6ae79d6df216a"), looks := false }, kinds := [], alts := [], laidByText := true, laidKinds := [.data, .pinned], laidTests := true, laidLooks := .later }
def PercentQueriesUptoCardSaid : Prop := Claim7.holds Tryd.pinned (.plain (OpenSpec.upto percentQueriesSpec)) percentQueriesUptoCard
end Rows
end Go.Proofs.YtfagmfmpiicggaaDoor
