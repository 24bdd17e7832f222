/-
  NARROWER THAN 'FOR EVERY INPUT', by the rows' own cells (each row's printed sentence says how): CmdTexts: laid · CmdReads: laid · CmdBack: laid · CmdApart: laid · CmdOuts: laid.
  DERIVED. THE GIVEN ROWS OF THIS SEAT. 5 by the template 'for every input the law returns true; each argument reads behind the call as it read before'; 0 by the template 'total and deterministic' (their statements: YtdidopoalmkhlaaDoorTotals.lean).
  GIVEN WITH THE SEED: the statements are not yours to turn. If you find one false, say at which input.
  Laid BY PROGRAM, IN A SANDBOX (cutbox-rows.mjs): the forced cells as the released guide's own fill.sh prints them over the translation 0cd9cb50df995472… (all of the seat's roots in one cut). By AI agents, Wed Nov 11 2026. No macro, syntax, notation, axiom, sorry.
-/
import Derived.Test.YtdidopoalmkhlaaDoorChecked
import GoSem.Claim
import GoSem.ClaimJoined
import GoSem.ClaimMapViews
import Derived.JoinedTies
import Derived.KernelRfl
namespace Go.Proofs.YtdidopoalmkhlaaDoor
/- THE CELL 'sum', in the pinned program and in every row, IS THE sha256 OF THE DUMP (.gsa) THAT YtdidopoalmkhlaaDoorProg.lean LOADS. Nothing in Lean hashes anything: it is a label: what it is worth is what the hold of that sum in a sandbox is worth. -/
noncomputable def Tryd.pinned : Pinned := { name := "ytdidopoalmkhlaadoor", sum := "0cd9cb50df99547276c61eda58b1b226043212bb9aaf4d1d3d4da8b25483a7dd", checked := Tryd.checked }
namespace Rows
def none {H : Type} : Left H := { results := [], args := [] }

/- WHAT THE LISTED PACKAGE-LEVEL VARIABLES READ AS WHEN THE CALL BEGINS. Each datum BY PROGRAM (the guide's laid-datum.mjs) off the statement by which the dump's own 'gosem.cut.vars' lays the variable. In a bare row this is a premise. The card (YtdidopoalmkhlaaDoorCards.lean) ties it to the program's text. -/
def laid_stowage_digest_rounds {H : Type} : DataW H := .agg [.lit (.int .u32 1116352408), .lit (.int .u32 1899447441), .lit (.int .u32 3049323471), .lit (.int .u32 3921009573), .lit (.int .u32 961987163), .lit (.int .u32 1508970993), .lit (.int .u32 2453635748), .lit (.int .u32 2870763221), .lit (.int .u32 3624381080), .lit (.int .u32 310598401), .lit (.int .u32 607225278), .lit (.int .u32 1426881987), .lit (.int .u32 1925078388), .lit (.int .u32 2162078206), .lit (.int .u32 2614888103), .lit (.int .u32 3248222580), .lit (.int .u32 3835390401), .lit (.int .u32 4022224774), .lit (.int .u32 264347078), .lit (.int .u32 604807628), .lit (.int .u32 770255983), .lit (.int .u32 1249150122), .lit (.int .u32 1555081692), .lit (.int .u32 1996064986), .lit (.int .u32 2554220882), .lit (.int .u32 2821834349), .lit (.int .u32 2952996808), .lit (.int .u32 3210313671), .lit (.int .u32 3336571891), .lit (.int .u32 3584528711), .lit (.int .u32 113926993), .lit (.int .u32 338241895), .lit (.int .u32 666307205), .lit (.int .u32 773529912), .lit (.int .u32 1294757372), .lit (.int .u32 1396182291), .lit (.int .u32 1695183700), .lit (.int .u32 1986661051), .lit (.int .u32 2177026350), .lit (.int .u32 2456956037), .lit (.int .u32 2730485921), .lit (.int .u32 2820302411), .lit (.int .u32 3259730800), .lit (.int .u32 3345764771), .lit (.int .u32 3516065817), .lit (.int .u32 3600352804), .lit (.int .u32 4094571909), .lit (.int .u32 275423344), .lit (.int .u32 430227734), .lit (.int .u32 506948616), .lit (.int .u32 659060556), .lit (.int .u32 883997877), .lit (.int .u32 958139571), .lit (.int .u32 1322822218), .lit (.int .u32 1537002063), .lit (.int .u32 1747873779), .lit (.int .u32 1955562222), .lit (.int .u32 2024104815), .lit (.int .u32 2227730452), .lit (.int .u32 2361852424), .lit (.int .u32 2428436474), .lit (.int .u32 2756734187), .lit (.int .u32 3204031479), .lit (.int .u32 3329325298)]

/-- 'stowagelaw16.CmdTexts': WHATEVER THE INPUT: true; the input reads as it did. -/
def cmdTextsSpec : ChangeSpec := { name := "cmdTexts", fn := fun _ => fun
  | [d] => { results := [.lit (.bool true)], args := [d] }
  | _ => none }
def cmdTextsRow : OpenClaim := { program := "ytdidopoalmkhlaadoor", sum := "0cd9cb50df99547276c61eda58b1b226043212bb9aaf4d1d3d4da8b25483a7dd", func := "stowage/stowagelaw16.CmdTexts", spec := "cmdTexts", inPlace := ["internal/bytealg.IndexByteString", "internal/bytealg.IndexString"], unfollowed := true, recurses := true, named := ["internal/bytealg.MaxLen", "stowage/digest.rounds"], apart := false, laid := [("stowage/digest.rounds", laid_stowage_digest_rounds)] }
def CmdTextsSaid : Prop := cmdTextsRow.holds Tryd.pinned (OpenSpec.ofChange cmdTextsSpec)

/-- ITS FALSE NEIGHBOUR: 'it returns false'. Refute it at one input. -/
def cmdTextsWrong : ChangeSpec := { name := "cmdTexts", fn := fun _ => fun
  | [d] => { results := [.lit (.bool false)], args := [d] }
  | _ => none }
def CmdTextsWrongFalsely : Prop := cmdTextsRow.holds Tryd.pinned (OpenSpec.ofChange cmdTextsWrong)

/-- 'stowagelaw16.CmdReads': WHATEVER THE INPUT: true; the input reads as it did. -/
def cmdReadsSpec : ChangeSpec := { name := "cmdReads", fn := fun _ => fun
  | [d] => { results := [.lit (.bool true)], args := [d] }
  | _ => none }
def cmdReadsRow : OpenClaim := { program := "ytdidopoalmkhlaadoor", sum := "0cd9cb50df99547276c61eda58b1b226043212bb9aaf4d1d3d4da8b25483a7dd", func := "stowage/stowagelaw16.CmdReads", spec := "cmdReads", inPlace := ["internal/bytealg.IndexByteString", "internal/bytealg.IndexString"], unfollowed := true, recurses := true, named := ["internal/bytealg.MaxLen", "stowage/digest.rounds"], apart := false, laid := [("stowage/digest.rounds", laid_stowage_digest_rounds)] }
def CmdReadsSaid : Prop := cmdReadsRow.holds Tryd.pinned (OpenSpec.ofChange cmdReadsSpec)

/-- ITS FALSE NEIGHBOUR: 'it returns false'. Refute it at one input. -/
def cmdReadsWrong : ChangeSpec := { name := "cmdReads", fn := fun _ => fun
  | [d] => { results := [.lit (.bool false)], args := [d] }
  | _ => none }
def CmdReadsWrongFalsely : Prop := cmdReadsRow.holds Tryd.pinned (OpenSpec.ofChange cmdReadsWrong)

/-- 'stowagelaw16.CmdBack': WHATEVER THE INPUT: true; the input reads as it did. -/
def cmdBackSpec : ChangeSpec := { name := "cmdBack", fn := fun _ => fun
  | [d1, d2] => { results := [.lit (.bool true)], args := [d1, d2] }
  | _ => none }
def cmdBackRow : OpenClaim := { program := "ytdidopoalmkhlaadoor", sum := "0cd9cb50df99547276c61eda58b1b226043212bb9aaf4d1d3d4da8b25483a7dd", func := "stowage/stowagelaw16.CmdBack", spec := "cmdBack", inPlace := ["internal/bytealg.IndexByteString", "internal/bytealg.IndexString"], unfollowed := true, recurses := true, named := ["internal/bytealg.MaxLen", "stowage/digest.rounds"], apart := false, laid := [("stowage/digest.rounds", laid_stowage_digest_rounds)] }
def CmdBackSaid : Prop := cmdBackRow.holds Tryd.pinned (OpenSpec.ofChange cmdBackSpec)

/-- ITS FALSE NEIGHBOUR: 'it returns false'. Refute it at one input. -/
def cmdBackWrong : ChangeSpec := { name := "cmdBack", fn := fun _ => fun
  | [d1, d2] => { results := [.lit (.bool false)], args := [d1, d2] }
  | _ => none }
def CmdBackWrongFalsely : Prop := cmdBackRow.holds Tryd.pinned (OpenSpec.ofChange cmdBackWrong)

/-- 'stowagelaw16.CmdApart': WHATEVER THE INPUT: true; the input reads as it did. -/
def cmdApartSpec : ChangeSpec := { name := "cmdApart", fn := fun _ => fun
  | [d1, d2, d3] => { results := [.lit (.bool true)], args := [d1, d2, d3] }
  | _ => none }
def cmdApartRow : OpenClaim := { program := "ytdidopoalmkhlaadoor", sum := "0cd9cb50df99547276c61eda58b1b226043212bb9aaf4d1d3d4da8b25483a7dd", func := "stowage/stowagelaw16.CmdApart", spec := "cmdApart", inPlace := ["internal/bytealg.IndexByteString", "internal/bytealg.IndexString"], unfollowed := true, recurses := true, named := ["internal/bytealg.MaxLen", "stowage/digest.rounds"], apart := false, laid := [("stowage/digest.rounds", laid_stowage_digest_rounds)] }
def CmdApartSaid : Prop := cmdApartRow.holds Tryd.pinned (OpenSpec.ofChange cmdApartSpec)

/-- ITS FALSE NEIGHBOUR: 'it returns false'. Refute it at one input. -/
def cmdApartWrong : ChangeSpec := { name := "cmdApart", fn := fun _ => fun
  | [d1, d2, d3] => { results := [.lit (.bool false)], args := [d1, d2, d3] }
  | _ => none }
def CmdApartWrongFalsely : Prop := cmdApartRow.holds Tryd.pinned (OpenSpec.ofChange cmdApartWrong)

/-- 'stowagelaw16.CmdOuts': WHATEVER THE INPUT: true; the input reads as it did. -/
def cmdOutsSpec : ChangeSpec := { name := "cmdOuts", fn := fun _ => fun
  | [d1, d2] => { results := [.lit (.bool true)], args := [d1, d2] }
  | _ => none }
def cmdOutsRow : OpenClaim := { program := "ytdidopoalmkhlaadoor", sum := "0cd9cb50df99547276c61eda58b1b226043212bb9aaf4d1d3d4da8b25483a7dd", func := "stowage/stowagelaw16.CmdOuts", spec := "cmdOuts", inPlace := ["internal/bytealg.IndexByteString", "internal/bytealg.IndexString"], unfollowed := true, recurses := true, named := ["internal/bytealg.MaxLen", "stowage/digest.rounds"], apart := false, laid := [("stowage/digest.rounds", laid_stowage_digest_rounds)] }
def CmdOutsSaid : Prop := cmdOutsRow.holds Tryd.pinned (OpenSpec.ofChange cmdOutsSpec)

/-- ITS FALSE NEIGHBOUR: 'it returns false'. Refute it at one input. -/
def cmdOutsWrong : ChangeSpec := { name := "cmdOuts", fn := fun _ => fun
  | [d1, d2] => { results := [.lit (.bool false)], args := [d1, d2] }
  | _ => none }
def CmdOutsWrongFalsely : Prop := cmdOutsRow.holds Tryd.pinned (OpenSpec.ofChange cmdOutsWrong)

/- THE SECOND FORM. 'bulk': how many values and letters a reading holds, each counted each time it is reached (what is shared counts as often as it is met; a slice's spare places count too). A statement '..UptoSaid' is the law's where the arguments, and the package variables that the reading takes, are together of bulk at most 1048576: NARROWER than '..Said'. Prove '..Said' where nothing that the law and all that it calls make is longer than what came in: it says more and counts as full. Else prove '..UptoSaid'. A law counts once. -/
mutual
def uptoBulk {H : Type} : DataW H → Nat
  | .lit (.string bytes) => bytes.length + 1
  | .lit _ => 1
  | .nil => 1
  | .ptr d => uptoBulk d + 1
  | .slice elems spare => uptoBulkAll elems + uptoBulkAll spare + 1
  | .agg parts => uptoBulkAll parts + 1
  | .iface _ d => uptoBulk d + 1
  | .map entries => uptoBulkEntries entries + 1
  | .held _ => 1
def uptoBulkAll {H : Type} : List (DataW H) → Nat
  | [] => 0
  | d :: r => uptoBulk d + uptoBulkAll r
def uptoBulkEntries {H : Type} : List (Lit × DataW H) → Nat
  | [] => 0
  | x :: r => uptoBulkEntry x + uptoBulkEntries r
def uptoBulkEntry {H : Type} : Lit × DataW H → Nat
  | (.string bytes, d) => bytes.length + uptoBulk d + 1
  | (_, d) => uptoBulk d + 1
 end
def uptoSmall : (H : Type) → List (DataW H) → Bool := fun _ ds => decide (uptoBulkAll ds ≤ 1048576)
def OpenSpec.upto (s : _root_.Go.ChangeSpec) : _root_.Go.OpenSpec := { _root_.Go.OpenSpec.ofChange s with cond := some uptoSmall }

/-- 'stowagelaw16.CmdTexts', WHERE WHAT IT READS IS OF BULK AT MOST 1048576: true; the input reads as it did. -/
def cmdTextsUptoRow : OpenClaim := { program := "ytdidopoalmkhlaadoor", sum := "0cd9cb50df99547276c61eda58b1b226043212bb9aaf4d1d3d4da8b25483a7dd", func := "stowage/stowagelaw16.CmdTexts", spec := "cmdTexts", inPlace := ["internal/bytealg.IndexByteString", "internal/bytealg.IndexString"], unfollowed := true, recurses := true, named := ["internal/bytealg.MaxLen", "stowage/digest.rounds"], apart := false, laid := [("stowage/digest.rounds", laid_stowage_digest_rounds)], narrowed := true }
def CmdTextsUptoSaid : Prop := cmdTextsUptoRow.holds Tryd.pinned (OpenSpec.upto cmdTextsSpec)

/-- 'stowagelaw16.CmdReads', WHERE WHAT IT READS IS OF BULK AT MOST 1048576: true; the input reads as it did. -/
def cmdReadsUptoRow : OpenClaim := { program := "ytdidopoalmkhlaadoor", sum := "0cd9cb50df99547276c61eda58b1b226043212bb9aaf4d1d3d4da8b25483a7dd", func := "stowage/stowagelaw16.CmdReads", spec := "cmdReads", inPlace := ["internal/bytealg.IndexByteString", "internal/bytealg.IndexString"], unfollowed := true, recurses := true, named := ["internal/bytealg.MaxLen", "stowage/digest.rounds"], apart := false, laid := [("stowage/digest.rounds", laid_stowage_digest_rounds)], narrowed := true }
def CmdReadsUptoSaid : Prop := cmdReadsUptoRow.holds Tryd.pinned (OpenSpec.upto cmdReadsSpec)

/-- 'stowagelaw16.CmdBack', WHERE WHAT IT READS IS OF BULK AT MOST 1048576: true; the input reads as it did. -/
def cmdBackUptoRow : OpenClaim := { program := "ytdidopoalmkhlaadoor", sum := "0cd9cb50df99547276c61eda58b1b226043212bb9aaf4d1d3d4da8b25483a7dd", func := "stowage/stowagelaw16.CmdBack", spec := "cmdBack", inPlace := ["internal/bytealg.IndexByteString", "internal/bytealg.IndexString"], unfollowed := true, recurses := true, named := ["internal/bytealg.MaxLen", "stowage/digest.rounds"], apart := false, laid := [("stowage/digest.rounds", laid_stowage_digest_rounds)], narrowed := true }
def CmdBackUptoSaid : Prop := cmdBackUptoRow.holds Tryd.pinned (OpenSpec.upto cmdBackSpec)

/-- 'stowagelaw16.CmdApart', WHERE WHAT IT READS IS OF BULK AT MOST 1048576: true; the input reads as it did. -/
def cmdApartUptoRow : OpenClaim := { program := "ytdidopoalmkhlaadoor", sum := "0cd9cb50df99547276c61eda58b1b226043212bb9aaf4d1d3d4da8b25483a7dd", func := "stowage/stowagelaw16.CmdApart", spec := "cmdApart", inPlace := ["internal/bytealg.IndexByteString", "internal/bytealg.IndexString"], unfollowed := true, recurses := true, named := ["internal/bytealg.MaxLen", "stowage/digest.rounds"], apart := false, laid := [("stowage/digest.rounds", laid_stowage_digest_rounds)], narrowed := true }
def CmdApartUptoSaid : Prop := cmdApartUptoRow.holds Tryd.pinned (OpenSpec.upto cmdApartSpec)

/-- 'stowagelaw16.CmdOuts', WHERE WHAT IT READS IS OF BULK AT MOST 1048576: true; the input reads as it did. -/
def cmdOutsUptoRow : OpenClaim := { program := "ytdidopoalmkhlaadoor", sum := "0cd9cb50df99547276c61eda58b1b226043212bb9aaf4d1d3d4da8b25483a7dd", func := "stowage/stowagelaw16.CmdOuts", spec := "cmdOuts", inPlace := ["internal/bytealg.IndexByteString", "internal/bytealg.IndexString"], unfollowed := true, recurses := true, named := ["internal/bytealg.MaxLen", "stowage/digest.rounds"], apart := false, laid := [("stowage/digest.rounds", laid_stowage_digest_rounds)], narrowed := true }
def CmdOutsUptoSaid : Prop := cmdOutsUptoRow.holds Tryd.pinned (OpenSpec.upto cmdOutsSpec)

end Rows
end Go.Proofs.YtdidopoalmkhlaaDoor
