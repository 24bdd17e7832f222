/-
  DERIVED. GIVEN WITH THE SEED: THE CARDS: each row of YtekfemiomdpahaaDoorRows.lean that lists a variable, with what it lists TIED to the program's text (the seventh form; the later family's looks); each row that meets fmt, with fmt's text TOLD by the authors' own Lean function (tested against real Go, not proved from fmt's source: count such statements apart). THE CARD IS WHAT COUNTS. Prove the row's statement (the work); the ties are given (YtekfemiomdpahaaDoorTie.lean); close each card by the builder's one call (the guide's Derived/Test/ToyasCard.lean, 'card_holds'). Laid BY PROGRAM, IN A SANDBOX (cutbox-door.mjs). By AI agents, Wed Nov 11 2026. No macro, syntax, notation, axiom, sorry.
-/
import Derived.Test.YtekfemiomdpahaaDoorRows
import GoSem.ClaimSeven
namespace Go.Proofs.YtekfemiomdpahaaDoor
namespace Rows

/-- THE TIED CARD OF 'stowagelaw15.TokenLooks'. -/
def tokenLooksCard : Claim7 := { stood := { row := tokenLooksRow, standIns := [], harness := (true, "6e24ac0a33a1e5a773f45594c9b6aa3feb06747a762251cf1f3a3d1dce939edf"), looks := false }, kinds := [], alts := [], laidByText := true, laidKinds := [.data, .pinned], laidTests := true, laidLooks := .later }
def TokenLooksCardSaid : Prop := Claim7.holds Tryd.pinned (.plain (OpenSpec.ofChange tokenLooksSpec)) tokenLooksCard

/-- THE TIED CARD OF 'stowagelaw15.TokenNotes'. -/
def tokenNotesCard : Claim7 := { stood := { row := tokenNotesRow, standIns := [], harness := (true, "6e24ac0a33a1e5a773f45594c9b6aa3feb06747a762251cf1f3a3d1dce939edf"), looks := false }, kinds := [], alts := [], laidByText := true, laidKinds := [.data, .pinned], laidTests := true, laidLooks := .later }
def TokenNotesCardSaid : Prop := Claim7.holds Tryd.pinned (.plain (OpenSpec.ofChange tokenNotesSpec)) tokenNotesCard

/-- THE TIED CARD OF 'stowagelaw15.TokenOnce'. -/
def tokenOnceCard : Claim7 := { stood := { row := tokenOnceRow, standIns := [], harness := (true, "6e24ac0a33a1e5a773f45594c9b6aa3feb06747a762251cf1f3a3d1dce939edf"), looks := false }, kinds := [], alts := [], laidByText := true, laidKinds := [.data, .pinned], laidTests := true, laidLooks := .later }
def TokenOnceCardSaid : Prop := Claim7.holds Tryd.pinned (.plain (OpenSpec.ofChange tokenOnceSpec)) tokenOnceCard

/-- THE TIED CARD OF 'stowagelaw15.TokenBytes'. -/
def tokenBytesCard : Claim7 := { stood := { row := tokenBytesRow, standIns := [], harness := (true, "6e24ac0a33a1e5a773f45594c9b6aa3feb06747a762251cf1f3a3d1dce939edf"), looks := false }, kinds := [], alts := [], laidByText := true, laidKinds := [.data, .pinned], laidTests := true, laidLooks := .later }
def TokenBytesCardSaid : Prop := Claim7.holds Tryd.pinned (.plain (OpenSpec.ofChange tokenBytesSpec)) tokenBytesCard

/-- THE TIED CARD OF 'stowagelaw15.TokenBack'. -/
def tokenBackCard : Claim7 := { stood := { row := tokenBackRow, standIns := [], harness := (true, "6e24ac0a33a1e5a773f45594c9b6aa3feb06747a762251cf1f3a3d1dce939edf"), looks := false }, kinds := [], alts := [], laidByText := true, laidKinds := [.data, .pinned], laidTests := true, laidLooks := .later }
def TokenBackCardSaid : Prop := Claim7.holds Tryd.pinned (.plain (OpenSpec.ofChange tokenBackSpec)) tokenBackCard

/-- THE SECOND FORM's CARD OF 'stowagelaw15.TokenLooks'. -/
def tokenLooksUptoCard : Claim7 := { stood := { row := tokenLooksUptoRow, standIns := [], harness := (true, "6e24ac0a33a1e5a773f45594c9b6aa3feb06747a762251cf1f3a3d1dce939edf"), looks := false }, kinds := [], alts := [], laidByText := true, laidKinds := [.data, .pinned], laidTests := true, laidLooks := .later }
def TokenLooksUptoCardSaid : Prop := Claim7.holds Tryd.pinned (.plain (OpenSpec.upto tokenLooksSpec)) tokenLooksUptoCard

/-- THE SECOND FORM's CARD OF 'stowagelaw15.TokenNotes'. -/
def tokenNotesUptoCard : Claim7 := { stood := { row := tokenNotesUptoRow, standIns := [], harness := (true, "6e24ac0a33a1e5a773f45594c9b6aa3feb06747a762251cf1f3a3d1dce939edf"), looks := false }, kinds := [], alts := [], laidByText := true, laidKinds := [.data, .pinned], laidTests := true, laidLooks := .later }
def TokenNotesUptoCardSaid : Prop := Claim7.holds Tryd.pinned (.plain (OpenSpec.upto tokenNotesSpec)) tokenNotesUptoCard

/-- THE SECOND FORM's CARD OF 'stowagelaw15.TokenOnce'. -/
def tokenOnceUptoCard : Claim7 := { stood := { row := tokenOnceUptoRow, standIns := [], harness := (true, "6e24ac0a33a1e5a773f45594c9b6aa3feb06747a762251cf1f3a3d1dce939edf"), looks := false }, kinds := [], alts := [], laidByText := true, laidKinds := [.data, .pinned], laidTests := true, laidLooks := .later }
def TokenOnceUptoCardSaid : Prop := Claim7.holds Tryd.pinned (.plain (OpenSpec.upto tokenOnceSpec)) tokenOnceUptoCard

/-- THE SECOND FORM's CARD OF 'stowagelaw15.TokenBytes'. -/
def tokenBytesUptoCard : Claim7 := { stood := { row := tokenBytesUptoRow, standIns := [], harness := (true, "6e24ac0a33a1e5a773f45594c9b6aa3feb06747a762251cf1f3a3d1dce939edf"), looks := false }, kinds := [], alts := [], laidByText := true, laidKinds := [.data, .pinned], laidTests := true, laidLooks := .later }
def TokenBytesUptoCardSaid : Prop := Claim7.holds Tryd.pinned (.plain (OpenSpec.upto tokenBytesSpec)) tokenBytesUptoCard

/-- THE SECOND FORM's CARD OF 'stowagelaw15.TokenBack'. -/
def tokenBackUptoCard : Claim7 := { stood := { row := tokenBackUptoRow, standIns := [], harness := (true, "6e24ac0a33a1e5a773f45594c9b6aa3feb06747a762251cf1f3a3d1dce939edf"), looks := false }, kinds := [], alts := [], laidByText := true, laidKinds := [.data, .pinned], laidTests := true, laidLooks := .later }
def TokenBackUptoCardSaid : Prop := Claim7.holds Tryd.pinned (.plain (OpenSpec.upto tokenBackSpec)) tokenBackUptoCard
end Rows
end Go.Proofs.YtekfemiomdpahaaDoor
