/-
  NARROWER THAN 'FOR EVERY INPUT', by the rows' own cells (each row's printed sentence says how): LinesRunes: laid · RowSorted: laid · LedgerBack: laid · LinesTells: laid · LinesAlone: laid · LinesUtf: laid · LinesBack: laid · RowAll: laid · RowParses: laid · LedgerImports: laid · RowBack: laid · RowWritten: laid · RowFirst: laid · LedgerBetween: laid · LedgerFirst: laid · RowWrites: laid · LedgerTurned: laid.
  DERIVED. THE GIVEN ROWS OF THIS SEAT. 17 by the template 'for every input the law returns true; each argument reads behind the call as it read before'; 0 by the template 'total and deterministic' (their statements: YtpkjpiphjdpegaaDoorTotals.lean).
  GIVEN WITH THE SEED: the statements are not yours to turn. If you find one false, say at which input.
  Laid BY PROGRAM, IN A SANDBOX (cutbox-rows.mjs): the forced cells as the released guide's own fill.sh prints them over the translation 5c6851cdbbd7e6f9… (all of the seat's roots in one cut). By AI agents, Wed Nov 11 2026. No macro, syntax, notation, axiom, sorry.
-/
import Derived.Test.YtpkjpiphjdpegaaDoorChecked
import GoSem.PinnedTables
import GoSem.Claim
import GoSem.ClaimJoined
import GoSem.ClaimMapViews
import Derived.JoinedTies
import Derived.KernelRfl
namespace Go.Proofs.YtpkjpiphjdpegaaDoor
/- THE CELL 'sum', in the pinned program and in every row, IS THE sha256 OF THE DUMP (.gsa) THAT YtpkjpiphjdpegaaDoorProg.lean LOADS. Nothing in Lean hashes anything: it is a label: what it is worth is what the hold of that sum in a sandbox is worth. -/
noncomputable def Tryd.pinned : Pinned := { name := "ytpkjpiphjdpegaadoor", sum := "5c6851cdbbd7e6f9bbac8605292dd1f0d6eadb17bac6a0780f5d4625cf13c4d3", checked := Tryd.checked }
namespace Rows
def none {H : Type} : Left H := { results := [], args := [] }

/- WHAT THE LISTED PACKAGE-LEVEL VARIABLES READ AS WHEN THE CALL BEGINS. Each datum BY PROGRAM (the guide's laid-datum.mjs) off the statement by which the dump's own 'gosem.cut.vars' lays the variable. In a bare row this is a premise. The card (YtpkjpiphjdpegaaDoorCards.lean) ties it to the program's text. -/
def laid_unicode_utf8_acceptRanges {H : Type} : DataW H := .agg [.agg [.lit (.int .u8 128), .lit (.int .u8 191)], .agg [.lit (.int .u8 160), .lit (.int .u8 191)], .agg [.lit (.int .u8 128), .lit (.int .u8 159)], .agg [.lit (.int .u8 144), .lit (.int .u8 191)], .agg [.lit (.int .u8 128), .lit (.int .u8 143)], .agg [.lit (.int .u8 0), .lit (.int .u8 0)], .agg [.lit (.int .u8 0), .lit (.int .u8 0)], .agg [.lit (.int .u8 0), .lit (.int .u8 0)], .agg [.lit (.int .u8 0), .lit (.int .u8 0)], .agg [.lit (.int .u8 0), .lit (.int .u8 0)], .agg [.lit (.int .u8 0), .lit (.int .u8 0)], .agg [.lit (.int .u8 0), .lit (.int .u8 0)], .agg [.lit (.int .u8 0), .lit (.int .u8 0)], .agg [.lit (.int .u8 0), .lit (.int .u8 0)], .agg [.lit (.int .u8 0), .lit (.int .u8 0)], .agg [.lit (.int .u8 0), .lit (.int .u8 0)]]
/-- One of Go's own tables, pinned by name: the form's constant. -/
def laid_unicode_utf8_first : DataW Unit := Go.Pinned.utf8First

/-- 'paymasterlaw09.LinesRunes': WHATEVER THE INPUT: true; the input reads as it did. -/
def linesRunesSpec : ChangeSpec := { name := "linesRunes", fn := fun _ => fun
  | [d1, d2] => { results := [.lit (.bool true)], args := [d1, d2] }
  | _ => none }
def linesRunesRow : OpenClaim := { program := "ytpkjpiphjdpegaadoor", sum := "5c6851cdbbd7e6f9bbac8605292dd1f0d6eadb17bac6a0780f5d4625cf13c4d3", func := "paymaster/paymasterlaw09.LinesRunes", spec := "linesRunes", unfollowed := true, recurses := true, named := ["unicode/utf8.first", "unicode/utf8.acceptRanges"], apart := false, laid := [("unicode/utf8.acceptRanges", laid_unicode_utf8_acceptRanges), ("unicode/utf8.first", laid_unicode_utf8_first)] }
def LinesRunesSaid : Prop := linesRunesRow.holds Tryd.pinned (OpenSpec.ofChange linesRunesSpec)

/-- ITS FALSE NEIGHBOUR: 'it returns false'. Refute it at one input. -/
def linesRunesWrong : ChangeSpec := { name := "linesRunes", fn := fun _ => fun
  | [d1, d2] => { results := [.lit (.bool false)], args := [d1, d2] }
  | _ => none }
def LinesRunesWrongFalsely : Prop := linesRunesRow.holds Tryd.pinned (OpenSpec.ofChange linesRunesWrong)

/-- 'paymasterlaw10.RowSorted': WHATEVER THE INPUT: true; the input reads as it did. -/
def rowSortedSpec : ChangeSpec := { name := "rowSorted", fn := fun _ => fun
  | [d] => { results := [.lit (.bool true)], args := [d] }
  | _ => none }
def rowSortedRow : OpenClaim := { program := "ytpkjpiphjdpegaadoor", sum := "5c6851cdbbd7e6f9bbac8605292dd1f0d6eadb17bac6a0780f5d4625cf13c4d3", func := "paymaster/paymasterlaw10.RowSorted", spec := "rowSorted", inPlace := ["internal/bytealg.IndexByteString", "internal/bytealg.IndexString", "math/bits.Add64", "internal/abi.NoEscape", "internal/bytealg.MakeNoZero"], unfollowed := true, recurses := true, named := ["internal/bytealg.MaxLen", "unicode/utf8.first", "unicode/utf8.acceptRanges", "math/bits.divideError", "math/bits.overflowError"], apart := false, laid := [("unicode/utf8.acceptRanges", laid_unicode_utf8_acceptRanges), ("unicode/utf8.first", laid_unicode_utf8_first)] }
def RowSortedSaid : Prop := rowSortedRow.holds Tryd.pinned (OpenSpec.ofChange rowSortedSpec)

/-- ITS FALSE NEIGHBOUR: 'it returns false'. Refute it at one input. -/
def rowSortedWrong : ChangeSpec := { name := "rowSorted", fn := fun _ => fun
  | [d] => { results := [.lit (.bool false)], args := [d] }
  | _ => none }
def RowSortedWrongFalsely : Prop := rowSortedRow.holds Tryd.pinned (OpenSpec.ofChange rowSortedWrong)

/-- 'paymasterlaw11.LedgerBack': WHATEVER THE INPUT: true; the input reads as it did. -/
def ledgerBackSpec : ChangeSpec := { name := "ledgerBack", fn := fun _ => fun
  | [d1, d2] => { results := [.lit (.bool true)], args := [d1, d2] }
  | _ => none }
def ledgerBackRow : OpenClaim := { program := "ytpkjpiphjdpegaadoor", sum := "5c6851cdbbd7e6f9bbac8605292dd1f0d6eadb17bac6a0780f5d4625cf13c4d3", func := "paymaster/paymasterlaw11.LedgerBack", spec := "ledgerBack", inPlace := ["internal/bytealg.IndexByteString", "internal/bytealg.IndexString", "math/bits.Add64", "internal/abi.NoEscape", "internal/bytealg.MakeNoZero"], unfollowed := true, recurses := true, named := ["internal/bytealg.MaxLen", "unicode/utf8.first", "unicode/utf8.acceptRanges", "math/bits.divideError", "math/bits.overflowError"], apart := false, laid := [("unicode/utf8.acceptRanges", laid_unicode_utf8_acceptRanges), ("unicode/utf8.first", laid_unicode_utf8_first)] }
def LedgerBackSaid : Prop := ledgerBackRow.holds Tryd.pinned (OpenSpec.ofChange ledgerBackSpec)

/-- ITS FALSE NEIGHBOUR: 'it returns false'. Refute it at one input. -/
def ledgerBackWrong : ChangeSpec := { name := "ledgerBack", fn := fun _ => fun
  | [d1, d2] => { results := [.lit (.bool false)], args := [d1, d2] }
  | _ => none }
def LedgerBackWrongFalsely : Prop := ledgerBackRow.holds Tryd.pinned (OpenSpec.ofChange ledgerBackWrong)

/-- 'paymasterlaw09.LinesTells': WHATEVER THE INPUT: true; the input reads as it did. -/
def linesTellsSpec : ChangeSpec := { name := "linesTells", fn := fun _ => fun
  | [d1, d2] => { results := [.lit (.bool true)], args := [d1, d2] }
  | _ => none }
def linesTellsRow : OpenClaim := { program := "ytpkjpiphjdpegaadoor", sum := "5c6851cdbbd7e6f9bbac8605292dd1f0d6eadb17bac6a0780f5d4625cf13c4d3", func := "paymaster/paymasterlaw09.LinesTells", spec := "linesTells", inPlace := ["internal/bytealg.IndexByteString", "internal/bytealg.IndexString"], unfollowed := true, recurses := true, named := ["internal/bytealg.MaxLen", "unicode/utf8.first", "unicode/utf8.acceptRanges"], apart := false, laid := [("unicode/utf8.acceptRanges", laid_unicode_utf8_acceptRanges), ("unicode/utf8.first", laid_unicode_utf8_first)] }
def LinesTellsSaid : Prop := linesTellsRow.holds Tryd.pinned (OpenSpec.ofChange linesTellsSpec)

/-- ITS FALSE NEIGHBOUR: 'it returns false'. Refute it at one input. -/
def linesTellsWrong : ChangeSpec := { name := "linesTells", fn := fun _ => fun
  | [d1, d2] => { results := [.lit (.bool false)], args := [d1, d2] }
  | _ => none }
def LinesTellsWrongFalsely : Prop := linesTellsRow.holds Tryd.pinned (OpenSpec.ofChange linesTellsWrong)

/-- 'paymasterlaw09.LinesAlone': WHATEVER THE INPUT: true; the input reads as it did. -/
def linesAloneSpec : ChangeSpec := { name := "linesAlone", fn := fun _ => fun
  | [d1, d2] => { results := [.lit (.bool true)], args := [d1, d2] }
  | _ => none }
def linesAloneRow : OpenClaim := { program := "ytpkjpiphjdpegaadoor", sum := "5c6851cdbbd7e6f9bbac8605292dd1f0d6eadb17bac6a0780f5d4625cf13c4d3", func := "paymaster/paymasterlaw09.LinesAlone", spec := "linesAlone", inPlace := ["internal/bytealg.IndexByteString", "internal/bytealg.IndexString"], unfollowed := true, recurses := true, named := ["internal/bytealg.MaxLen", "unicode/utf8.first", "unicode/utf8.acceptRanges"], apart := false, laid := [("unicode/utf8.acceptRanges", laid_unicode_utf8_acceptRanges), ("unicode/utf8.first", laid_unicode_utf8_first)] }
def LinesAloneSaid : Prop := linesAloneRow.holds Tryd.pinned (OpenSpec.ofChange linesAloneSpec)

/-- ITS FALSE NEIGHBOUR: 'it returns false'. Refute it at one input. -/
def linesAloneWrong : ChangeSpec := { name := "linesAlone", fn := fun _ => fun
  | [d1, d2] => { results := [.lit (.bool false)], args := [d1, d2] }
  | _ => none }
def LinesAloneWrongFalsely : Prop := linesAloneRow.holds Tryd.pinned (OpenSpec.ofChange linesAloneWrong)

/-- 'paymasterlaw09.LinesUtf': WHATEVER THE INPUT: true; the input reads as it did. -/
def linesUtfSpec : ChangeSpec := { name := "linesUtf", fn := fun _ => fun
  | [d1, d2] => { results := [.lit (.bool true)], args := [d1, d2] }
  | _ => none }
def linesUtfRow : OpenClaim := { program := "ytpkjpiphjdpegaadoor", sum := "5c6851cdbbd7e6f9bbac8605292dd1f0d6eadb17bac6a0780f5d4625cf13c4d3", func := "paymaster/paymasterlaw09.LinesUtf", spec := "linesUtf", inPlace := ["internal/bytealg.IndexByteString", "internal/bytealg.IndexString"], unfollowed := true, recurses := true, named := ["internal/bytealg.MaxLen", "unicode/utf8.first", "unicode/utf8.acceptRanges"], apart := false, laid := [("unicode/utf8.acceptRanges", laid_unicode_utf8_acceptRanges), ("unicode/utf8.first", laid_unicode_utf8_first)] }
def LinesUtfSaid : Prop := linesUtfRow.holds Tryd.pinned (OpenSpec.ofChange linesUtfSpec)

/-- ITS FALSE NEIGHBOUR: 'it returns false'. Refute it at one input. -/
def linesUtfWrong : ChangeSpec := { name := "linesUtf", fn := fun _ => fun
  | [d1, d2] => { results := [.lit (.bool false)], args := [d1, d2] }
  | _ => none }
def LinesUtfWrongFalsely : Prop := linesUtfRow.holds Tryd.pinned (OpenSpec.ofChange linesUtfWrong)

/-- 'paymasterlaw09.LinesBack': WHATEVER THE INPUT: true; the input reads as it did. -/
def linesBackSpec : ChangeSpec := { name := "linesBack", fn := fun _ => fun
  | [d1, d2] => { results := [.lit (.bool true)], args := [d1, d2] }
  | _ => none }
def linesBackRow : OpenClaim := { program := "ytpkjpiphjdpegaadoor", sum := "5c6851cdbbd7e6f9bbac8605292dd1f0d6eadb17bac6a0780f5d4625cf13c4d3", func := "paymaster/paymasterlaw09.LinesBack", spec := "linesBack", inPlace := ["internal/bytealg.IndexByteString", "internal/bytealg.IndexString", "internal/abi.NoEscape", "internal/bytealg.MakeNoZero"], unfollowed := true, recurses := true, named := ["internal/bytealg.MaxLen", "unicode/utf8.first", "unicode/utf8.acceptRanges"], apart := false, laid := [("unicode/utf8.acceptRanges", laid_unicode_utf8_acceptRanges), ("unicode/utf8.first", laid_unicode_utf8_first)] }
def LinesBackSaid : Prop := linesBackRow.holds Tryd.pinned (OpenSpec.ofChange linesBackSpec)

/-- ITS FALSE NEIGHBOUR: 'it returns false'. Refute it at one input. -/
def linesBackWrong : ChangeSpec := { name := "linesBack", fn := fun _ => fun
  | [d1, d2] => { results := [.lit (.bool false)], args := [d1, d2] }
  | _ => none }
def LinesBackWrongFalsely : Prop := linesBackRow.holds Tryd.pinned (OpenSpec.ofChange linesBackWrong)

/-- 'paymasterlaw10.RowAll': WHATEVER THE INPUT: true; the input reads as it did. -/
def rowAllSpec : ChangeSpec := { name := "rowAll", fn := fun _ => fun
  | [d1, d2] => { results := [.lit (.bool true)], args := [d1, d2] }
  | _ => none }
def rowAllRow : OpenClaim := { program := "ytpkjpiphjdpegaadoor", sum := "5c6851cdbbd7e6f9bbac8605292dd1f0d6eadb17bac6a0780f5d4625cf13c4d3", func := "paymaster/paymasterlaw10.RowAll", spec := "rowAll", inPlace := ["internal/bytealg.IndexByteString", "internal/bytealg.IndexString", "math/bits.Add64"], unfollowed := true, recurses := true, named := ["internal/bytealg.MaxLen", "unicode/utf8.first", "unicode/utf8.acceptRanges"], apart := false, laid := [("unicode/utf8.acceptRanges", laid_unicode_utf8_acceptRanges), ("unicode/utf8.first", laid_unicode_utf8_first)] }
def RowAllSaid : Prop := rowAllRow.holds Tryd.pinned (OpenSpec.ofChange rowAllSpec)

/-- ITS FALSE NEIGHBOUR: 'it returns false'. Refute it at one input. -/
def rowAllWrong : ChangeSpec := { name := "rowAll", fn := fun _ => fun
  | [d1, d2] => { results := [.lit (.bool false)], args := [d1, d2] }
  | _ => none }
def RowAllWrongFalsely : Prop := rowAllRow.holds Tryd.pinned (OpenSpec.ofChange rowAllWrong)

/-- 'paymasterlaw10.RowParses': WHATEVER THE INPUT: true; the input reads as it did. -/
def rowParsesSpec : ChangeSpec := { name := "rowParses", fn := fun _ => fun
  | [d1, d2] => { results := [.lit (.bool true)], args := [d1, d2] }
  | _ => none }
def rowParsesRow : OpenClaim := { program := "ytpkjpiphjdpegaadoor", sum := "5c6851cdbbd7e6f9bbac8605292dd1f0d6eadb17bac6a0780f5d4625cf13c4d3", func := "paymaster/paymasterlaw10.RowParses", spec := "rowParses", inPlace := ["internal/bytealg.IndexByteString", "internal/bytealg.IndexString", "math/bits.Add64"], unfollowed := true, recurses := true, named := ["internal/bytealg.MaxLen", "unicode/utf8.first", "unicode/utf8.acceptRanges", "math/bits.divideError", "math/bits.overflowError"], apart := false, laid := [("unicode/utf8.acceptRanges", laid_unicode_utf8_acceptRanges), ("unicode/utf8.first", laid_unicode_utf8_first)] }
def RowParsesSaid : Prop := rowParsesRow.holds Tryd.pinned (OpenSpec.ofChange rowParsesSpec)

/-- ITS FALSE NEIGHBOUR: 'it returns false'. Refute it at one input. -/
def rowParsesWrong : ChangeSpec := { name := "rowParses", fn := fun _ => fun
  | [d1, d2] => { results := [.lit (.bool false)], args := [d1, d2] }
  | _ => none }
def RowParsesWrongFalsely : Prop := rowParsesRow.holds Tryd.pinned (OpenSpec.ofChange rowParsesWrong)

/-- 'paymasterlaw11.LedgerImports': WHATEVER THE INPUT: true; the input reads as it did. -/
def ledgerImportsSpec : ChangeSpec := { name := "ledgerImports", fn := fun _ => fun
  | [d1, d2, d3] => { results := [.lit (.bool true)], args := [d1, d2, d3] }
  | _ => none }
def ledgerImportsRow : OpenClaim := { program := "ytpkjpiphjdpegaadoor", sum := "5c6851cdbbd7e6f9bbac8605292dd1f0d6eadb17bac6a0780f5d4625cf13c4d3", func := "paymaster/paymasterlaw11.LedgerImports", spec := "ledgerImports", inPlace := ["internal/bytealg.IndexByteString", "internal/bytealg.IndexString", "math/bits.Add64"], unfollowed := true, recurses := true, named := ["internal/bytealg.MaxLen", "unicode/utf8.first", "unicode/utf8.acceptRanges"], apart := false, laid := [("unicode/utf8.acceptRanges", laid_unicode_utf8_acceptRanges), ("unicode/utf8.first", laid_unicode_utf8_first)] }
def LedgerImportsSaid : Prop := ledgerImportsRow.holds Tryd.pinned (OpenSpec.ofChange ledgerImportsSpec)

/-- ITS FALSE NEIGHBOUR: 'it returns false'. Refute it at one input. -/
def ledgerImportsWrong : ChangeSpec := { name := "ledgerImports", fn := fun _ => fun
  | [d1, d2, d3] => { results := [.lit (.bool false)], args := [d1, d2, d3] }
  | _ => none }
def LedgerImportsWrongFalsely : Prop := ledgerImportsRow.holds Tryd.pinned (OpenSpec.ofChange ledgerImportsWrong)

/-- 'paymasterlaw10.RowBack': WHATEVER THE INPUT: true; the input reads as it did. -/
def rowBackSpec : ChangeSpec := { name := "rowBack", fn := fun _ => fun
  | [d1, d2] => { results := [.lit (.bool true)], args := [d1, d2] }
  | _ => none }
def rowBackRow : OpenClaim := { program := "ytpkjpiphjdpegaadoor", sum := "5c6851cdbbd7e6f9bbac8605292dd1f0d6eadb17bac6a0780f5d4625cf13c4d3", func := "paymaster/paymasterlaw10.RowBack", spec := "rowBack", inPlace := ["internal/bytealg.IndexByteString", "internal/bytealg.IndexString", "math/bits.Add64", "internal/abi.NoEscape", "internal/bytealg.MakeNoZero"], unfollowed := true, recurses := true, named := ["internal/bytealg.MaxLen", "unicode/utf8.first", "unicode/utf8.acceptRanges", "math/bits.divideError", "math/bits.overflowError"], apart := false, laid := [("unicode/utf8.acceptRanges", laid_unicode_utf8_acceptRanges), ("unicode/utf8.first", laid_unicode_utf8_first)] }
def RowBackSaid : Prop := rowBackRow.holds Tryd.pinned (OpenSpec.ofChange rowBackSpec)

/-- ITS FALSE NEIGHBOUR: 'it returns false'. Refute it at one input. -/
def rowBackWrong : ChangeSpec := { name := "rowBack", fn := fun _ => fun
  | [d1, d2] => { results := [.lit (.bool false)], args := [d1, d2] }
  | _ => none }
def RowBackWrongFalsely : Prop := rowBackRow.holds Tryd.pinned (OpenSpec.ofChange rowBackWrong)

/-- 'paymasterlaw10.RowWritten': WHATEVER THE INPUT: true; the input reads as it did. -/
def rowWrittenSpec : ChangeSpec := { name := "rowWritten", fn := fun _ => fun
  | [d1, d2] => { results := [.lit (.bool true)], args := [d1, d2] }
  | _ => none }
def rowWrittenRow : OpenClaim := { program := "ytpkjpiphjdpegaadoor", sum := "5c6851cdbbd7e6f9bbac8605292dd1f0d6eadb17bac6a0780f5d4625cf13c4d3", func := "paymaster/paymasterlaw10.RowWritten", spec := "rowWritten", inPlace := ["internal/bytealg.IndexByteString", "internal/bytealg.IndexString", "math/bits.Add64", "internal/abi.NoEscape", "internal/bytealg.MakeNoZero"], unfollowed := true, recurses := true, named := ["internal/bytealg.MaxLen", "unicode/utf8.first", "unicode/utf8.acceptRanges", "math/bits.divideError", "math/bits.overflowError"], apart := false, laid := [("unicode/utf8.acceptRanges", laid_unicode_utf8_acceptRanges), ("unicode/utf8.first", laid_unicode_utf8_first)] }
def RowWrittenSaid : Prop := rowWrittenRow.holds Tryd.pinned (OpenSpec.ofChange rowWrittenSpec)

/-- ITS FALSE NEIGHBOUR: 'it returns false'. Refute it at one input. -/
def rowWrittenWrong : ChangeSpec := { name := "rowWritten", fn := fun _ => fun
  | [d1, d2] => { results := [.lit (.bool false)], args := [d1, d2] }
  | _ => none }
def RowWrittenWrongFalsely : Prop := rowWrittenRow.holds Tryd.pinned (OpenSpec.ofChange rowWrittenWrong)

/-- 'paymasterlaw10.RowFirst': WHATEVER THE INPUT: true; the input reads as it did. -/
def rowFirstSpec : ChangeSpec := { name := "rowFirst", fn := fun _ => fun
  | [d] => { results := [.lit (.bool true)], args := [d] }
  | _ => none }
def rowFirstRow : OpenClaim := { program := "ytpkjpiphjdpegaadoor", sum := "5c6851cdbbd7e6f9bbac8605292dd1f0d6eadb17bac6a0780f5d4625cf13c4d3", func := "paymaster/paymasterlaw10.RowFirst", spec := "rowFirst", inPlace := ["internal/bytealg.IndexByteString", "internal/bytealg.IndexString", "math/bits.Add64", "internal/abi.NoEscape", "internal/bytealg.MakeNoZero"], unfollowed := true, recurses := true, named := ["internal/bytealg.MaxLen", "unicode/utf8.first", "unicode/utf8.acceptRanges", "math/bits.divideError", "math/bits.overflowError"], apart := false, laid := [("unicode/utf8.acceptRanges", laid_unicode_utf8_acceptRanges), ("unicode/utf8.first", laid_unicode_utf8_first)] }
def RowFirstSaid : Prop := rowFirstRow.holds Tryd.pinned (OpenSpec.ofChange rowFirstSpec)

/-- ITS FALSE NEIGHBOUR: 'it returns false'. Refute it at one input. -/
def rowFirstWrong : ChangeSpec := { name := "rowFirst", fn := fun _ => fun
  | [d] => { results := [.lit (.bool false)], args := [d] }
  | _ => none }
def RowFirstWrongFalsely : Prop := rowFirstRow.holds Tryd.pinned (OpenSpec.ofChange rowFirstWrong)

/-- 'paymasterlaw11.LedgerBetween': WHATEVER THE INPUT: true; the input reads as it did. -/
def ledgerBetweenSpec : ChangeSpec := { name := "ledgerBetween", fn := fun _ => fun
  | [d1, d2] => { results := [.lit (.bool true)], args := [d1, d2] }
  | _ => none }
def ledgerBetweenRow : OpenClaim := { program := "ytpkjpiphjdpegaadoor", sum := "5c6851cdbbd7e6f9bbac8605292dd1f0d6eadb17bac6a0780f5d4625cf13c4d3", func := "paymaster/paymasterlaw11.LedgerBetween", spec := "ledgerBetween", inPlace := ["internal/bytealg.IndexByteString", "internal/bytealg.IndexString", "math/bits.Add64"], unfollowed := true, recurses := true, named := ["internal/bytealg.MaxLen", "unicode/utf8.first", "unicode/utf8.acceptRanges"], apart := false, laid := [("unicode/utf8.acceptRanges", laid_unicode_utf8_acceptRanges), ("unicode/utf8.first", laid_unicode_utf8_first)] }
def LedgerBetweenSaid : Prop := ledgerBetweenRow.holds Tryd.pinned (OpenSpec.ofChange ledgerBetweenSpec)

/-- ITS FALSE NEIGHBOUR: 'it returns false'. Refute it at one input. -/
def ledgerBetweenWrong : ChangeSpec := { name := "ledgerBetween", fn := fun _ => fun
  | [d1, d2] => { results := [.lit (.bool false)], args := [d1, d2] }
  | _ => none }
def LedgerBetweenWrongFalsely : Prop := ledgerBetweenRow.holds Tryd.pinned (OpenSpec.ofChange ledgerBetweenWrong)

/-- 'paymasterlaw11.LedgerFirst': WHATEVER THE INPUT: true; the input reads as it did. -/
def ledgerFirstSpec : ChangeSpec := { name := "ledgerFirst", fn := fun _ => fun
  | [d1, d2, d3] => { results := [.lit (.bool true)], args := [d1, d2, d3] }
  | _ => none }
def ledgerFirstRow : OpenClaim := { program := "ytpkjpiphjdpegaadoor", sum := "5c6851cdbbd7e6f9bbac8605292dd1f0d6eadb17bac6a0780f5d4625cf13c4d3", func := "paymaster/paymasterlaw11.LedgerFirst", spec := "ledgerFirst", inPlace := ["internal/bytealg.IndexByteString", "internal/bytealg.IndexString", "math/bits.Add64"], unfollowed := true, recurses := true, named := ["internal/bytealg.MaxLen", "unicode/utf8.first", "unicode/utf8.acceptRanges"], apart := false, laid := [("unicode/utf8.acceptRanges", laid_unicode_utf8_acceptRanges), ("unicode/utf8.first", laid_unicode_utf8_first)] }
def LedgerFirstSaid : Prop := ledgerFirstRow.holds Tryd.pinned (OpenSpec.ofChange ledgerFirstSpec)

/-- ITS FALSE NEIGHBOUR: 'it returns false'. Refute it at one input. -/
def ledgerFirstWrong : ChangeSpec := { name := "ledgerFirst", fn := fun _ => fun
  | [d1, d2, d3] => { results := [.lit (.bool false)], args := [d1, d2, d3] }
  | _ => none }
def LedgerFirstWrongFalsely : Prop := ledgerFirstRow.holds Tryd.pinned (OpenSpec.ofChange ledgerFirstWrong)

/-- 'paymasterlaw10.RowWrites': WHATEVER THE INPUT: true; the input reads as it did. -/
def rowWritesSpec : ChangeSpec := { name := "rowWrites", fn := fun _ => fun
  | [d1, d2] => { results := [.lit (.bool true)], args := [d1, d2] }
  | _ => none }
def rowWritesRow : OpenClaim := { program := "ytpkjpiphjdpegaadoor", sum := "5c6851cdbbd7e6f9bbac8605292dd1f0d6eadb17bac6a0780f5d4625cf13c4d3", func := "paymaster/paymasterlaw10.RowWrites", spec := "rowWrites", inPlace := ["internal/bytealg.IndexByteString", "internal/bytealg.IndexString", "internal/abi.NoEscape", "internal/bytealg.MakeNoZero"], unfollowed := true, recurses := true, named := ["unicode/utf8.first", "unicode/utf8.acceptRanges", "math/bits.divideError", "math/bits.overflowError", "internal/bytealg.MaxLen"], apart := false, laid := [("unicode/utf8.acceptRanges", laid_unicode_utf8_acceptRanges), ("unicode/utf8.first", laid_unicode_utf8_first)] }
def RowWritesSaid : Prop := rowWritesRow.holds Tryd.pinned (OpenSpec.ofChange rowWritesSpec)

/-- ITS FALSE NEIGHBOUR: 'it returns false'. Refute it at one input. -/
def rowWritesWrong : ChangeSpec := { name := "rowWrites", fn := fun _ => fun
  | [d1, d2] => { results := [.lit (.bool false)], args := [d1, d2] }
  | _ => none }
def RowWritesWrongFalsely : Prop := rowWritesRow.holds Tryd.pinned (OpenSpec.ofChange rowWritesWrong)

/-- 'paymasterlaw11.LedgerTurned': WHATEVER THE INPUT: true; the input reads as it did. -/
def ledgerTurnedSpec : ChangeSpec := { name := "ledgerTurned", fn := fun _ => fun
  | [d1, d2, d3, d4] => { results := [.lit (.bool true)], args := [d1, d2, d3, d4] }
  | _ => none }
def ledgerTurnedRow : OpenClaim := { program := "ytpkjpiphjdpegaadoor", sum := "5c6851cdbbd7e6f9bbac8605292dd1f0d6eadb17bac6a0780f5d4625cf13c4d3", func := "paymaster/paymasterlaw11.LedgerTurned", spec := "ledgerTurned", inPlace := ["internal/bytealg.IndexByteString", "internal/bytealg.IndexString", "math/bits.Add64", "internal/abi.NoEscape", "internal/bytealg.MakeNoZero"], unfollowed := true, recurses := true, named := ["internal/bytealg.MaxLen", "unicode/utf8.first", "unicode/utf8.acceptRanges"], apart := false, laid := [("unicode/utf8.acceptRanges", laid_unicode_utf8_acceptRanges), ("unicode/utf8.first", laid_unicode_utf8_first)] }
def LedgerTurnedSaid : Prop := ledgerTurnedRow.holds Tryd.pinned (OpenSpec.ofChange ledgerTurnedSpec)

/-- ITS FALSE NEIGHBOUR: 'it returns false'. Refute it at one input. -/
def ledgerTurnedWrong : ChangeSpec := { name := "ledgerTurned", fn := fun _ => fun
  | [d1, d2, d3, d4] => { results := [.lit (.bool false)], args := [d1, d2, d3, d4] }
  | _ => none }
def LedgerTurnedWrongFalsely : Prop := ledgerTurnedRow.holds Tryd.pinned (OpenSpec.ofChange ledgerTurnedWrong)

/- THE SECOND FORM. 'bulk': how many values and letters a reading holds, each counted each time it is reached (what is shared counts as often as it is met; a slice's spare places count too). A statement '..UptoSaid' is the law's where the arguments, and the package variables that the reading takes, are together of bulk at most 1048576: NARROWER than '..Said'. Prove '..Said' where nothing that the law and all that it calls make is longer than what came in: it says more and counts as full. Else prove '..UptoSaid'. A law counts once. -/
mutual
def uptoBulk {H : Type} : DataW H → Nat
  | .lit (.string bytes) => bytes.length + 1
  | .lit _ => 1
  | .nil => 1
  | .ptr d => uptoBulk d + 1
  | .slice elems spare => uptoBulkAll elems + uptoBulkAll spare + 1
  | .agg parts => uptoBulkAll parts + 1
  | .iface _ d => uptoBulk d + 1
  | .map entries => uptoBulkEntries entries + 1
  | .held _ => 1
def uptoBulkAll {H : Type} : List (DataW H) → Nat
  | [] => 0
  | d :: r => uptoBulk d + uptoBulkAll r
def uptoBulkEntries {H : Type} : List (Lit × DataW H) → Nat
  | [] => 0
  | x :: r => uptoBulkEntry x + uptoBulkEntries r
def uptoBulkEntry {H : Type} : Lit × DataW H → Nat
  | (.string bytes, d) => bytes.length + uptoBulk d + 1
  | (_, d) => uptoBulk d + 1
 end
def uptoSmall : (H : Type) → List (DataW H) → Bool := fun _ ds => decide (uptoBulkAll ds ≤ 1048576)
def OpenSpec.upto (s : _root_.Go.ChangeSpec) : _root_.Go.OpenSpec := { _root_.Go.OpenSpec.ofChange s with cond := some uptoSmall }

/-- 'paymasterlaw09.LinesRunes', WHERE WHAT IT READS IS OF BULK AT MOST 1048576: true; the input reads as it did. -/
def linesRunesUptoRow : OpenClaim := { program := "ytpkjpiphjdpegaadoor", sum := "5c6851cdbbd7e6f9bbac8605292dd1f0d6eadb17bac6a0780f5d4625cf13c4d3", func := "paymaster/paymasterlaw09.LinesRunes", spec := "linesRunes", unfollowed := true, recurses := true, named := ["unicode/utf8.first", "unicode/utf8.acceptRanges"], apart := false, laid := [("unicode/utf8.acceptRanges", laid_unicode_utf8_acceptRanges), ("unicode/utf8.first", laid_unicode_utf8_first)], narrowed := true }
def LinesRunesUptoSaid : Prop := linesRunesUptoRow.holds Tryd.pinned (OpenSpec.upto linesRunesSpec)

/-- 'paymasterlaw10.RowSorted', WHERE WHAT IT READS IS OF BULK AT MOST 1048576: true; the input reads as it did. -/
def rowSortedUptoRow : OpenClaim := { program := "ytpkjpiphjdpegaadoor", sum := "5c6851cdbbd7e6f9bbac8605292dd1f0d6eadb17bac6a0780f5d4625cf13c4d3", func := "paymaster/paymasterlaw10.RowSorted", spec := "rowSorted", inPlace := ["internal/bytealg.IndexByteString", "internal/bytealg.IndexString", "math/bits.Add64", "internal/abi.NoEscape", "internal/bytealg.MakeNoZero"], unfollowed := true, recurses := true, named := ["internal/bytealg.MaxLen", "unicode/utf8.first", "unicode/utf8.acceptRanges", "math/bits.divideError", "math/bits.overflowError"], apart := false, laid := [("unicode/utf8.acceptRanges", laid_unicode_utf8_acceptRanges), ("unicode/utf8.first", laid_unicode_utf8_first)], narrowed := true }
def RowSortedUptoSaid : Prop := rowSortedUptoRow.holds Tryd.pinned (OpenSpec.upto rowSortedSpec)

/-- 'paymasterlaw11.LedgerBack', WHERE WHAT IT READS IS OF BULK AT MOST 1048576: true; the input reads as it did. -/
def ledgerBackUptoRow : OpenClaim := { program := "ytpkjpiphjdpegaadoor", sum := "5c6851cdbbd7e6f9bbac8605292dd1f0d6eadb17bac6a0780f5d4625cf13c4d3", func := "paymaster/paymasterlaw11.LedgerBack", spec := "ledgerBack", inPlace := ["internal/bytealg.IndexByteString", "internal/bytealg.IndexString", "math/bits.Add64", "internal/abi.NoEscape", "internal/bytealg.MakeNoZero"], unfollowed := true, recurses := true, named := ["internal/bytealg.MaxLen", "unicode/utf8.first", "unicode/utf8.acceptRanges", "math/bits.divideError", "math/bits.overflowError"], apart := false, laid := [("unicode/utf8.acceptRanges", laid_unicode_utf8_acceptRanges), ("unicode/utf8.first", laid_unicode_utf8_first)], narrowed := true }
def LedgerBackUptoSaid : Prop := ledgerBackUptoRow.holds Tryd.pinned (OpenSpec.upto ledgerBackSpec)

/-- 'paymasterlaw09.LinesTells', WHERE WHAT IT READS IS OF BULK AT MOST 1048576: true; the input reads as it did. -/
def linesTellsUptoRow : OpenClaim := { program := "ytpkjpiphjdpegaadoor", sum := "5c6851cdbbd7e6f9bbac8605292dd1f0d6eadb17bac6a0780f5d4625cf13c4d3", func := "paymaster/paymasterlaw09.LinesTells", spec := "linesTells", inPlace := ["internal/bytealg.IndexByteString", "internal/bytealg.IndexString"], unfollowed := true, recurses := true, named := ["internal/bytealg.MaxLen", "unicode/utf8.first", "unicode/utf8.acceptRanges"], apart := false, laid := [("unicode/utf8.acceptRanges", laid_unicode_utf8_acceptRanges), ("unicode/utf8.first", laid_unicode_utf8_first)], narrowed := true }
def LinesTellsUptoSaid : Prop := linesTellsUptoRow.holds Tryd.pinned (OpenSpec.upto linesTellsSpec)

/-- 'paymasterlaw09.LinesAlone', WHERE WHAT IT READS IS OF BULK AT MOST 1048576: true; the input reads as it did. -/
def linesAloneUptoRow : OpenClaim := { program := "ytpkjpiphjdpegaadoor", sum := "5c6851cdbbd7e6f9bbac8605292dd1f0d6eadb17bac6a0780f5d4625cf13c4d3", func := "paymaster/paymasterlaw09.LinesAlone", spec := "linesAlone", inPlace := ["internal/bytealg.IndexByteString", "internal/bytealg.IndexString"], unfollowed := true, recurses := true, named := ["internal/bytealg.MaxLen", "unicode/utf8.first", "unicode/utf8.acceptRanges"], apart := false, laid := [("unicode/utf8.acceptRanges", laid_unicode_utf8_acceptRanges), ("unicode/utf8.first", laid_unicode_utf8_first)], narrowed := true }
def LinesAloneUptoSaid : Prop := linesAloneUptoRow.holds Tryd.pinned (OpenSpec.upto linesAloneSpec)

/-- 'paymasterlaw09.LinesUtf', WHERE WHAT IT READS IS OF BULK AT MOST 1048576: true; the input reads as it did. -/
def linesUtfUptoRow : OpenClaim := { program := "ytpkjpiphjdpegaadoor", sum := "5c6851cdbbd7e6f9bbac8605292dd1f0d6eadb17bac6a0780f5d4625cf13c4d3", func := "paymaster/paymasterlaw09.LinesUtf", spec := "linesUtf", inPlace := ["internal/bytealg.IndexByteString", "internal/bytealg.IndexString"], unfollowed := true, recurses := true, named := ["internal/bytealg.MaxLen", "unicode/utf8.first", "unicode/utf8.acceptRanges"], apart := false, laid := [("unicode/utf8.acceptRanges", laid_unicode_utf8_acceptRanges), ("unicode/utf8.first", laid_unicode_utf8_first)], narrowed := true }
def LinesUtfUptoSaid : Prop := linesUtfUptoRow.holds Tryd.pinned (OpenSpec.upto linesUtfSpec)

/-- 'paymasterlaw09.LinesBack', WHERE WHAT IT READS IS OF BULK AT MOST 1048576: true; the input reads as it did. -/
def linesBackUptoRow : OpenClaim := { program := "ytpkjpiphjdpegaadoor", sum := "5c6851cdbbd7e6f9bbac8605292dd1f0d6eadb17bac6a0780f5d4625cf13c4d3", func := "paymaster/paymasterlaw09.LinesBack", spec := "linesBack", inPlace := ["internal/bytealg.IndexByteString", "internal/bytealg.IndexString", "internal/abi.NoEscape", "internal/bytealg.MakeNoZero"], unfollowed := true, recurses := true, named := ["internal/bytealg.MaxLen", "unicode/utf8.first", "unicode/utf8.acceptRanges"], apart := false, laid := [("unicode/utf8.acceptRanges", laid_unicode_utf8_acceptRanges), ("unicode/utf8.first", laid_unicode_utf8_first)], narrowed := true }
def LinesBackUptoSaid : Prop := linesBackUptoRow.holds Tryd.pinned (OpenSpec.upto linesBackSpec)

/-- 'paymasterlaw10.RowAll', WHERE WHAT IT READS IS OF BULK AT MOST 1048576: true; the input reads as it did. -/
def rowAllUptoRow : OpenClaim := { program := "ytpkjpiphjdpegaadoor", sum := "5c6851cdbbd7e6f9bbac8605292dd1f0d6eadb17bac6a0780f5d4625cf13c4d3", func := "paymaster/paymasterlaw10.RowAll", spec := "rowAll", inPlace := ["internal/bytealg.IndexByteString", "internal/bytealg.IndexString", "math/bits.Add64"], unfollowed := true, recurses := true, named := ["internal/bytealg.MaxLen", "unicode/utf8.first", "unicode/utf8.acceptRanges"], apart := false, laid := [("unicode/utf8.acceptRanges", laid_unicode_utf8_acceptRanges), ("unicode/utf8.first", laid_unicode_utf8_first)], narrowed := true }
def RowAllUptoSaid : Prop := rowAllUptoRow.holds Tryd.pinned (OpenSpec.upto rowAllSpec)

/-- 'paymasterlaw10.RowParses', WHERE WHAT IT READS IS OF BULK AT MOST 1048576: true; the input reads as it did. -/
def rowParsesUptoRow : OpenClaim := { program := "ytpkjpiphjdpegaadoor", sum := "5c6851cdbbd7e6f9bbac8605292dd1f0d6eadb17bac6a0780f5d4625cf13c4d3", func := "paymaster/paymasterlaw10.RowParses", spec := "rowParses", inPlace := ["internal/bytealg.IndexByteString", "internal/bytealg.IndexString", "math/bits.Add64"], unfollowed := true, recurses := true, named := ["internal/bytealg.MaxLen", "unicode/utf8.first", "unicode/utf8.acceptRanges", "math/bits.divideError", "math/bits.overflowError"], apart := false, laid := [("unicode/utf8.acceptRanges", laid_unicode_utf8_acceptRanges), ("unicode/utf8.first", laid_unicode_utf8_first)], narrowed := true }
def RowParsesUptoSaid : Prop := rowParsesUptoRow.holds Tryd.pinned (OpenSpec.upto rowParsesSpec)

/-- 'paymasterlaw11.LedgerImports', WHERE WHAT IT READS IS OF BULK AT MOST 1048576: true; the input reads as it did. -/
def ledgerImportsUptoRow : OpenClaim := { program := "ytpkjpiphjdpegaadoor", sum := "5c6851cdbbd7e6f9bbac8605292dd1f0d6eadb17bac6a0780f5d4625cf13c4d3", func := "paymaster/paymasterlaw11.LedgerImports", spec := "ledgerImports", inPlace := ["internal/bytealg.IndexByteString", "internal/bytealg.IndexString", "math/bits.Add64"], unfollowed := true, recurses := true, named := ["internal/bytealg.MaxLen", "unicode/utf8.first", "unicode/utf8.acceptRanges"], apart := false, laid := [("unicode/utf8.acceptRanges", laid_unicode_utf8_acceptRanges), ("unicode/utf8.first", laid_unicode_utf8_first)], narrowed := true }
def LedgerImportsUptoSaid : Prop := ledgerImportsUptoRow.holds Tryd.pinned (OpenSpec.upto ledgerImportsSpec)

/-- 'paymasterlaw10.RowBack', WHERE WHAT IT READS IS OF BULK AT MOST 1048576: true; the input reads as it did. -/
def rowBackUptoRow : OpenClaim := { program := "ytpkjpiphjdpegaadoor", sum := "5c6851cdbbd7e6f9bbac8605292dd1f0d6eadb17bac6a0780f5d4625cf13c4d3", func := "paymaster/paymasterlaw10.RowBack", spec := "rowBack", inPlace := ["internal/bytealg.IndexByteString", "internal/bytealg.IndexString", "math/bits.Add64", "internal/abi.NoEscape", "internal/bytealg.MakeNoZero"], unfollowed := true, recurses := true, named := ["internal/bytealg.MaxLen", "unicode/utf8.first", "unicode/utf8.acceptRanges", "math/bits.divideError", "math/bits.overflowError"], apart := false, laid := [("unicode/utf8.acceptRanges", laid_unicode_utf8_acceptRanges), ("unicode/utf8.first", laid_unicode_utf8_first)], narrowed := true }
def RowBackUptoSaid : Prop := rowBackUptoRow.holds Tryd.pinned (OpenSpec.upto rowBackSpec)

/-- 'paymasterlaw10.RowWritten', WHERE WHAT IT READS IS OF BULK AT MOST 1048576: true; the input reads as it did. -/
def rowWrittenUptoRow : OpenClaim := { program := "ytpkjpiphjdpegaadoor", sum := "5c6851cdbbd7e6f9bbac8605292dd1f0d6eadb17bac6a0780f5d4625cf13c4d3", func := "paymaster/paymasterlaw10.RowWritten", spec := "rowWritten", inPlace := ["internal/bytealg.IndexByteString", "internal/bytealg.IndexString", "math/bits.Add64", "internal/abi.NoEscape", "internal/bytealg.MakeNoZero"], unfollowed := true, recurses := true, named := ["internal/bytealg.MaxLen", "unicode/utf8.first", "unicode/utf8.acceptRanges", "math/bits.divideError", "math/bits.overflowError"], apart := false, laid := [("unicode/utf8.acceptRanges", laid_unicode_utf8_acceptRanges), ("unicode/utf8.first", laid_unicode_utf8_first)], narrowed := true }
def RowWrittenUptoSaid : Prop := rowWrittenUptoRow.holds Tryd.pinned (OpenSpec.upto rowWrittenSpec)

/-- 'paymasterlaw10.RowFirst', WHERE WHAT IT READS IS OF BULK AT MOST 1048576: true; the input reads as it did. -/
def rowFirstUptoRow : OpenClaim := { program := "ytpkjpiphjdpegaadoor", sum := "5c6851cdbbd7e6f9bbac8605292dd1f0d6eadb17bac6a0780f5d4625cf13c4d3", func := "paymaster/paymasterlaw10.RowFirst", spec := "rowFirst", inPlace := ["internal/bytealg.IndexByteString", "internal/bytealg.IndexString", "math/bits.Add64", "internal/abi.NoEscape", "internal/bytealg.MakeNoZero"], unfollowed := true, recurses := true, named := ["internal/bytealg.MaxLen", "unicode/utf8.first", "unicode/utf8.acceptRanges", "math/bits.divideError", "math/bits.overflowError"], apart := false, laid := [("unicode/utf8.acceptRanges", laid_unicode_utf8_acceptRanges), ("unicode/utf8.first", laid_unicode_utf8_first)], narrowed := true }
def RowFirstUptoSaid : Prop := rowFirstUptoRow.holds Tryd.pinned (OpenSpec.upto rowFirstSpec)

/-- 'paymasterlaw11.LedgerBetween', WHERE WHAT IT READS IS OF BULK AT MOST 1048576: true; the input reads as it did. -/
def ledgerBetweenUptoRow : OpenClaim := { program := "ytpkjpiphjdpegaadoor", sum := "5c6851cdbbd7e6f9bbac8605292dd1f0d6eadb17bac6a0780f5d4625cf13c4d3", func := "paymaster/paymasterlaw11.LedgerBetween", spec := "ledgerBetween", inPlace := ["internal/bytealg.IndexByteString", "internal/bytealg.IndexString", "math/bits.Add64"], unfollowed := true, recurses := true, named := ["internal/bytealg.MaxLen", "unicode/utf8.first", "unicode/utf8.acceptRanges"], apart := false, laid := [("unicode/utf8.acceptRanges", laid_unicode_utf8_acceptRanges), ("unicode/utf8.first", laid_unicode_utf8_first)], narrowed := true }
def LedgerBetweenUptoSaid : Prop := ledgerBetweenUptoRow.holds Tryd.pinned (OpenSpec.upto ledgerBetweenSpec)

/-- 'paymasterlaw11.LedgerFirst', WHERE WHAT IT READS IS OF BULK AT MOST 1048576: true; the input reads as it did. -/
def ledgerFirstUptoRow : OpenClaim := { program := "ytpkjpiphjdpegaadoor", sum := "5c6851cdbbd7e6f9bbac8605292dd1f0d6eadb17bac6a0780f5d4625cf13c4d3", func := "paymaster/paymasterlaw11.LedgerFirst", spec := "ledgerFirst", inPlace := ["internal/bytealg.IndexByteString", "internal/bytealg.IndexString", "math/bits.Add64"], unfollowed := true, recurses := true, named := ["internal/bytealg.MaxLen", "unicode/utf8.first", "unicode/utf8.acceptRanges"], apart := false, laid := [("unicode/utf8.acceptRanges", laid_unicode_utf8_acceptRanges), ("unicode/utf8.first", laid_unicode_utf8_first)], narrowed := true }
def LedgerFirstUptoSaid : Prop := ledgerFirstUptoRow.holds Tryd.pinned (OpenSpec.upto ledgerFirstSpec)

/-- 'paymasterlaw10.RowWrites', WHERE WHAT IT READS IS OF BULK AT MOST 1048576: true; the input reads as it did. -/
def rowWritesUptoRow : OpenClaim := { program := "ytpkjpiphjdpegaadoor", sum := "5c6851cdbbd7e6f9bbac8605292dd1f0d6eadb17bac6a0780f5d4625cf13c4d3", func := "paymaster/paymasterlaw10.RowWrites", spec := "rowWrites", inPlace := ["internal/bytealg.IndexByteString", "internal/bytealg.IndexString", "internal/abi.NoEscape", "internal/bytealg.MakeNoZero"], unfollowed := true, recurses := true, named := ["unicode/utf8.first", "unicode/utf8.acceptRanges", "math/bits.divideError", "math/bits.overflowError", "internal/bytealg.MaxLen"], apart := false, laid := [("unicode/utf8.acceptRanges", laid_unicode_utf8_acceptRanges), ("unicode/utf8.first", laid_unicode_utf8_first)], narrowed := true }
def RowWritesUptoSaid : Prop := rowWritesUptoRow.holds Tryd.pinned (OpenSpec.upto rowWritesSpec)

/-- 'paymasterlaw11.LedgerTurned', WHERE WHAT IT READS IS OF BULK AT MOST 1048576: true; the input reads as it did. -/
def ledgerTurnedUptoRow : OpenClaim := { program := "ytpkjpiphjdpegaadoor", sum := "5c6851cdbbd7e6f9bbac8605292dd1f0d6eadb17bac6a0780f5d4625cf13c4d3", func := "paymaster/paymasterlaw11.LedgerTurned", spec := "ledgerTurned", inPlace := ["internal/bytealg.IndexByteString", "internal/bytealg.IndexString", "math/bits.Add64", "internal/abi.NoEscape", "internal/bytealg.MakeNoZero"], unfollowed := true, recurses := true, named := ["internal/bytealg.MaxLen", "unicode/utf8.first", "unicode/utf8.acceptRanges"], apart := false, laid := [("unicode/utf8.acceptRanges", laid_unicode_utf8_acceptRanges), ("unicode/utf8.first", laid_unicode_utf8_first)], narrowed := true }
def LedgerTurnedUptoSaid : Prop := ledgerTurnedUptoRow.holds Tryd.pinned (OpenSpec.upto ledgerTurnedSpec)

end Rows
end Go.Proofs.YtpkjpiphjdpegaaDoor
