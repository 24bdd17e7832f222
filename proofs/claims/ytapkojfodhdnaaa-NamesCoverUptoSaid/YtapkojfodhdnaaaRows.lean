/-
  No cell of these rows narrows 'for every input' (looked for: loops, veiled, ifaces, maps, wideKeys, modest, calm, conditions, laid).
  DERIVED. THE GIVEN ROWS OF THIS SEAT. 5 by the template 'for every input the law returns true; each argument reads behind the call as it read before'; 0 by the template 'total and deterministic' (their statements: YtapkojfodhdnaaaTotals.lean).
  GIVEN WITH THE SEED: the statements are not yours to turn. If you find one false, say at which input.
  Laid BY PROGRAM, IN A SANDBOX (cutbox-rows.mjs): the forced cells as the released guide's own fill.sh prints them over the translation 698e597a4f958f88… (all of the seat's roots in one cut). By AI agents, Wed Nov 11 2026. No macro, syntax, notation, axiom, sorry.
-/
import Derived.Test.YtapkojfodhdnaaaChecked
import GoSem.Claim
import GoSem.ClaimJoined
import GoSem.ClaimMapViews
import Derived.JoinedTies
import Derived.KernelRfl
namespace Go.Proofs.Ytapkojfodhdnaaa
/- THE CELL 'sum', in the pinned program and in every row, IS THE sha256 OF THE DUMP (.gsa) THAT YtapkojfodhdnaaaProg.lean LOADS. Nothing in Lean hashes anything: it is a label: what it is worth is what the hold of that sum in a sandbox is worth. -/
noncomputable def Try.pinned : Pinned := { name := "ytapkojfodhdnaaa", sum := "698e597a4f958f8856b3973279094737304f494f184be4338584c6234c288218", checked := Try.checked }
namespace Rows
def none {H : Type} : Left H := { results := [], args := [] }

/-- 'stowagelaw12.NamesFolds': WHATEVER THE INPUT: true; the input reads as it did. -/
def namesFoldsSpec : ChangeSpec := { name := "namesFolds", fn := fun _ => fun
  | [d1, d2] => { results := [.lit (.bool true)], args := [d1, d2] }
  | _ => none }
def namesFoldsRow : OpenClaim := { program := "ytapkojfodhdnaaa", sum := "698e597a4f958f8856b3973279094737304f494f184be4338584c6234c288218", func := "stowage/stowagelaw12.NamesFolds", spec := "namesFolds", inPlace := ["internal/bytealg.IndexByteString", "internal/bytealg.IndexString"], unfollowed := true, recurses := true, named := ["internal/bytealg.MaxLen"], plainKeys := false, apart := false }
def NamesFoldsSaid : Prop := namesFoldsRow.holds Try.pinned (OpenSpec.ofChange namesFoldsSpec)

/-- ITS FALSE NEIGHBOUR: 'it returns false'. Refute it at one input. -/
def namesFoldsWrong : ChangeSpec := { name := "namesFolds", fn := fun _ => fun
  | [d1, d2] => { results := [.lit (.bool false)], args := [d1, d2] }
  | _ => none }
def NamesFoldsWrongFalsely : Prop := namesFoldsRow.holds Try.pinned (OpenSpec.ofChange namesFoldsWrong)

/-- 'stowagelaw12.NamesPages': WHATEVER THE INPUT: true; the input reads as it did. -/
def namesPagesSpec : ChangeSpec := { name := "namesPages", fn := fun _ => fun
  | [d1, d2, d3] => { results := [.lit (.bool true)], args := [d1, d2, d3] }
  | _ => none }
def namesPagesRow : OpenClaim := { program := "ytapkojfodhdnaaa", sum := "698e597a4f958f8856b3973279094737304f494f184be4338584c6234c288218", func := "stowage/stowagelaw12.NamesPages", spec := "namesPages", inPlace := ["internal/bytealg.IndexByteString", "internal/bytealg.IndexString"], unfollowed := true, recurses := true, named := ["internal/bytealg.MaxLen"], plainKeys := false, apart := false }
def NamesPagesSaid : Prop := namesPagesRow.holds Try.pinned (OpenSpec.ofChange namesPagesSpec)

/-- ITS FALSE NEIGHBOUR: 'it returns false'. Refute it at one input. -/
def namesPagesWrong : ChangeSpec := { name := "namesPages", fn := fun _ => fun
  | [d1, d2, d3] => { results := [.lit (.bool false)], args := [d1, d2, d3] }
  | _ => none }
def NamesPagesWrongFalsely : Prop := namesPagesRow.holds Try.pinned (OpenSpec.ofChange namesPagesWrong)

/-- 'stowagelaw12.NamesOrder': WHATEVER THE INPUT: true; the input reads as it did. -/
def namesOrderSpec : ChangeSpec := { name := "namesOrder", fn := fun _ => fun
  | [d1, d2, d3] => { results := [.lit (.bool true)], args := [d1, d2, d3] }
  | _ => none }
def namesOrderRow : OpenClaim := { program := "ytapkojfodhdnaaa", sum := "698e597a4f958f8856b3973279094737304f494f184be4338584c6234c288218", func := "stowage/stowagelaw12.NamesOrder", spec := "namesOrder", inPlace := ["internal/bytealg.IndexByteString", "internal/bytealg.IndexString"], unfollowed := true, recurses := true, named := ["internal/bytealg.MaxLen"], plainKeys := false, apart := false }
def NamesOrderSaid : Prop := namesOrderRow.holds Try.pinned (OpenSpec.ofChange namesOrderSpec)

/-- ITS FALSE NEIGHBOUR: 'it returns false'. Refute it at one input. -/
def namesOrderWrong : ChangeSpec := { name := "namesOrder", fn := fun _ => fun
  | [d1, d2, d3] => { results := [.lit (.bool false)], args := [d1, d2, d3] }
  | _ => none }
def NamesOrderWrongFalsely : Prop := namesOrderRow.holds Try.pinned (OpenSpec.ofChange namesOrderWrong)

/-- 'stowagelaw12.NamesCover': WHATEVER THE INPUT: true; the input reads as it did. -/
def namesCoverSpec : ChangeSpec := { name := "namesCover", fn := fun _ => fun
  | [d1, d2, d3] => { results := [.lit (.bool true)], args := [d1, d2, d3] }
  | _ => none }
def namesCoverRow : OpenClaim := { program := "ytapkojfodhdnaaa", sum := "698e597a4f958f8856b3973279094737304f494f184be4338584c6234c288218", func := "stowage/stowagelaw12.NamesCover", spec := "namesCover", inPlace := ["internal/bytealg.IndexByteString", "internal/bytealg.IndexString"], unfollowed := true, recurses := true, named := ["internal/bytealg.MaxLen"], plainKeys := false, apart := false }
def NamesCoverSaid : Prop := namesCoverRow.holds Try.pinned (OpenSpec.ofChange namesCoverSpec)

/-- ITS FALSE NEIGHBOUR: 'it returns false'. Refute it at one input. -/
def namesCoverWrong : ChangeSpec := { name := "namesCover", fn := fun _ => fun
  | [d1, d2, d3] => { results := [.lit (.bool false)], args := [d1, d2, d3] }
  | _ => none }
def NamesCoverWrongFalsely : Prop := namesCoverRow.holds Try.pinned (OpenSpec.ofChange namesCoverWrong)

/-- 'stowagelaw12.NamesMay': WHATEVER THE INPUT: true; the input reads as it did. -/
def namesMaySpec : ChangeSpec := { name := "namesMay", fn := fun _ => fun
  | [d] => { results := [.lit (.bool true)], args := [d] }
  | _ => none }
def namesMayRow : OpenClaim := { program := "ytapkojfodhdnaaa", sum := "698e597a4f958f8856b3973279094737304f494f184be4338584c6234c288218", func := "stowage/stowagelaw12.NamesMay", spec := "namesMay", inPlace := ["internal/bytealg.IndexByteString", "internal/bytealg.IndexString"], unfollowed := true, recurses := true, named := ["internal/bytealg.MaxLen"], plainKeys := false, apart := false }
def NamesMaySaid : Prop := namesMayRow.holds Try.pinned (OpenSpec.ofChange namesMaySpec)

/-- ITS FALSE NEIGHBOUR: 'it returns false'. Refute it at one input. -/
def namesMayWrong : ChangeSpec := { name := "namesMay", fn := fun _ => fun
  | [d] => { results := [.lit (.bool false)], args := [d] }
  | _ => none }
def NamesMayWrongFalsely : Prop := namesMayRow.holds Try.pinned (OpenSpec.ofChange namesMayWrong)

/- THE SECOND FORM. 'bulk': how many values and letters a reading holds, each counted each time it is reached (what is shared counts as often as it is met; a slice's spare places count too). A statement '..UptoSaid' is the law's where the arguments, and the package variables that the reading takes, are together of bulk at most 1048576: NARROWER than '..Said'. Prove '..Said' where nothing that the law and all that it calls make is longer than what came in: it says more and counts as full. Else prove '..UptoSaid'. A law counts once. -/
mutual
def uptoBulk {H : Type} : DataW H → Nat
  | .lit (.string bytes) => bytes.length + 1
  | .lit _ => 1
  | .nil => 1
  | .ptr d => uptoBulk d + 1
  | .slice elems spare => uptoBulkAll elems + uptoBulkAll spare + 1
  | .agg parts => uptoBulkAll parts + 1
  | .iface _ d => uptoBulk d + 1
  | .map entries => uptoBulkEntries entries + 1
  | .held _ => 1
def uptoBulkAll {H : Type} : List (DataW H) → Nat
  | [] => 0
  | d :: r => uptoBulk d + uptoBulkAll r
def uptoBulkEntries {H : Type} : List (Lit × DataW H) → Nat
  | [] => 0
  | x :: r => uptoBulkEntry x + uptoBulkEntries r
def uptoBulkEntry {H : Type} : Lit × DataW H → Nat
  | (.string bytes, d) => bytes.length + uptoBulk d + 1
  | (_, d) => uptoBulk d + 1
 end
def uptoSmall : (H : Type) → List (DataW H) → Bool := fun _ ds => decide (uptoBulkAll ds ≤ 1048576)
def OpenSpec.upto (s : _root_.Go.ChangeSpec) : _root_.Go.OpenSpec := { _root_.Go.OpenSpec.ofChange s with cond := some uptoSmall }

/-- 'stowagelaw12.NamesFolds', WHERE WHAT IT READS IS OF BULK AT MOST 1048576: true; the input reads as it did. -/
def namesFoldsUptoRow : OpenClaim := { program := "ytapkojfodhdnaaa", sum := "698e597a4f958f8856b3973279094737304f494f184be4338584c6234c288218", func := "stowage/stowagelaw12.NamesFolds", spec := "namesFolds", inPlace := ["internal/bytealg.IndexByteString", "internal/bytealg.IndexString"], unfollowed := true, recurses := true, named := ["internal/bytealg.MaxLen"], plainKeys := false, apart := false, narrowed := true }
def NamesFoldsUptoSaid : Prop := namesFoldsUptoRow.holds Try.pinned (OpenSpec.upto namesFoldsSpec)

/-- 'stowagelaw12.NamesPages', WHERE WHAT IT READS IS OF BULK AT MOST 1048576: true; the input reads as it did. -/
def namesPagesUptoRow : OpenClaim := { program := "ytapkojfodhdnaaa", sum := "698e597a4f958f8856b3973279094737304f494f184be4338584c6234c288218", func := "stowage/stowagelaw12.NamesPages", spec := "namesPages", inPlace := ["internal/bytealg.IndexByteString", "internal/bytealg.IndexString"], unfollowed := true, recurses := true, named := ["internal/bytealg.MaxLen"], plainKeys := false, apart := false, narrowed := true }
def NamesPagesUptoSaid : Prop := namesPagesUptoRow.holds Try.pinned (OpenSpec.upto namesPagesSpec)

/-- 'stowagelaw12.NamesOrder', WHERE WHAT IT READS IS OF BULK AT MOST 1048576: true; the input reads as it did. -/
def namesOrderUptoRow : OpenClaim := { program := "ytapkojfodhdnaaa", sum := "698e597a4f958f8856b3973279094737304f494f184be4338584c6234c288218", func := "stowage/stowagelaw12.NamesOrder", spec := "namesOrder", inPlace := ["internal/bytealg.IndexByteString", "internal/bytealg.IndexString"], unfollowed := true, recurses := true, named := ["internal/bytealg.MaxLen"], plainKeys := false, apart := false, narrowed := true }
def NamesOrderUptoSaid : Prop := namesOrderUptoRow.holds Try.pinned (OpenSpec.upto namesOrderSpec)

/-- 'stowagelaw12.NamesCover', WHERE WHAT IT READS IS OF BULK AT MOST 1048576: true; the input reads as it did. -/
def namesCoverUptoRow : OpenClaim := { program := "ytapkojfodhdnaaa", sum := "698e597a4f958f8856b3973279094737304f494f184be4338584c6234c288218", func := "stowage/stowagelaw12.NamesCover", spec := "namesCover", inPlace := ["internal/bytealg.IndexByteString", "internal/bytealg.IndexString"], unfollowed := true, recurses := true, named := ["internal/bytealg.MaxLen"], plainKeys := false, apart := false, narrowed := true }
def NamesCoverUptoSaid : Prop := namesCoverUptoRow.holds Try.pinned (OpenSpec.upto namesCoverSpec)

/-- 'stowagelaw12.NamesMay', WHERE WHAT IT READS IS OF BULK AT MOST 1048576: true; the input reads as it did. -/
def namesMayUptoRow : OpenClaim := { program := "ytapkojfodhdnaaa", sum := "698e597a4f958f8856b3973279094737304f494f184be4338584c6234c288218", func := "stowage/stowagelaw12.NamesMay", spec := "namesMay", inPlace := ["internal/bytealg.IndexByteString", "internal/bytealg.IndexString"], unfollowed := true, recurses := true, named := ["internal/bytealg.MaxLen"], plainKeys := false, apart := false, narrowed := true }
def NamesMayUptoSaid : Prop := namesMayUptoRow.holds Try.pinned (OpenSpec.upto namesMaySpec)

end Rows
end Go.Proofs.Ytapkojfodhdnaaa
