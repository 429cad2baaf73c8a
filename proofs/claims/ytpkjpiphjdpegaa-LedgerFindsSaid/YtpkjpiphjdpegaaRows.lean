/-
  No cell of these rows narrows 'for every input' (looked for: loops, veiled, ifaces, maps, wideKeys, modest, calm, conditions, laid).
  DERIVED. THE GIVEN ROWS OF THIS SEAT. 21 by the template 'for every input the law returns true; each argument reads behind the call as it read before'; 0 by the template 'total and deterministic' (their statements: YtpkjpiphjdpegaaTotals.lean).
  GIVEN WITH THE SEED: the statements are not yours to turn. If you find one false, say at which input.
  Laid BY PROGRAM, IN A SANDBOX (cutbox-rows.mjs): the forced cells as the released guide's own fill.sh prints them over the translation 14df41290a88a90a… (all of the seat's roots in one cut). By AI agents, Wed Nov 11 2026. No macro, syntax, notation, axiom, sorry.
-/
import Derived.Test.YtpkjpiphjdpegaaChecked
import GoSem.Claim
import GoSem.ClaimJoined
import GoSem.ClaimMapViews
import Derived.JoinedTies
import Derived.KernelRfl
namespace Go.Proofs.Ytpkjpiphjdpegaa
/- THE CELL 'sum', in the pinned program and in every row, IS THE sha256 OF THE DUMP (.gsa) THAT YtpkjpiphjdpegaaProg.lean LOADS. Nothing in Lean hashes anything: it is a label: what it is worth is what the hold of that sum in a sandbox is worth. -/
noncomputable def Try.pinned : Pinned := { name := "ytpkjpiphjdpegaa", sum := "14df41290a88a90af12d8bf459b919630b7cf50bc023b58efd9614af9bf86191", checked := Try.checked }
namespace Rows
def none {H : Type} : Left H := { results := [], args := [] }

/-- 'paymasterlaw03.WideAll': WHATEVER THE INPUT: true; the input reads as it did. -/
def wideAllSpec : ChangeSpec := { name := "wideAll", fn := fun _ => fun
  | [d1, d2] => { results := [.lit (.bool true)], args := [d1, d2] }
  | _ => none }
def wideAllRow : OpenClaim := { program := "ytpkjpiphjdpegaa", sum := "14df41290a88a90af12d8bf459b919630b7cf50bc023b58efd9614af9bf86191", func := "paymaster/paymasterlaw03.WideAll", spec := "wideAll", inPlace := ["math/bits.Add64"], unfollowed := true, recurses := true, apart := false }
def WideAllSaid : Prop := wideAllRow.holds Try.pinned (OpenSpec.ofChange wideAllSpec)

/-- ITS FALSE NEIGHBOUR: 'it returns false'. Refute it at one input. -/
def wideAllWrong : ChangeSpec := { name := "wideAll", fn := fun _ => fun
  | [d1, d2] => { results := [.lit (.bool false)], args := [d1, d2] }
  | _ => none }
def WideAllWrongFalsely : Prop := wideAllRow.holds Try.pinned (OpenSpec.ofChange wideAllWrong)

/-- 'paymasterlaw01.U128Bytes': WHATEVER THE INPUT: true; the input reads as it did. -/
def u128BytesSpec : ChangeSpec := { name := "u128Bytes", fn := fun _ => fun
  | [d1, d2] => { results := [.lit (.bool true)], args := [d1, d2] }
  | _ => none }
def u128BytesRow : OpenClaim := { program := "ytpkjpiphjdpegaa", sum := "14df41290a88a90af12d8bf459b919630b7cf50bc023b58efd9614af9bf86191", func := "paymaster/paymasterlaw01.U128Bytes", spec := "u128Bytes", inPlace := ["math/bits.Add64"], apart := false }
def U128BytesSaid : Prop := u128BytesRow.holds Try.pinned (OpenSpec.ofChange u128BytesSpec)

/-- ITS FALSE NEIGHBOUR: 'it returns false'. Refute it at one input. -/
def u128BytesWrong : ChangeSpec := { name := "u128Bytes", fn := fun _ => fun
  | [d1, d2] => { results := [.lit (.bool false)], args := [d1, d2] }
  | _ => none }
def U128BytesWrongFalsely : Prop := u128BytesRow.holds Try.pinned (OpenSpec.ofChange u128BytesWrong)

/-- 'paymasterlaw03.WideAdds': WHATEVER THE INPUT: true; the input reads as it did. -/
def wideAddsSpec : ChangeSpec := { name := "wideAdds", fn := fun _ => fun
  | [d1, d2, d3] => { results := [.lit (.bool true)], args := [d1, d2, d3] }
  | _ => none }
def wideAddsRow : OpenClaim := { program := "ytpkjpiphjdpegaa", sum := "14df41290a88a90af12d8bf459b919630b7cf50bc023b58efd9614af9bf86191", func := "paymaster/paymasterlaw03.WideAdds", spec := "wideAdds", inPlace := ["math/bits.Add64"], apart := false }
def WideAddsSaid : Prop := wideAddsRow.holds Try.pinned (OpenSpec.ofChange wideAddsSpec)

/-- ITS FALSE NEIGHBOUR: 'it returns false'. Refute it at one input. -/
def wideAddsWrong : ChangeSpec := { name := "wideAdds", fn := fun _ => fun
  | [d1, d2, d3] => { results := [.lit (.bool false)], args := [d1, d2, d3] }
  | _ => none }
def WideAddsWrongFalsely : Prop := wideAddsRow.holds Try.pinned (OpenSpec.ofChange wideAddsWrong)

/-- 'paymasterlaw01.U128Adds': WHATEVER THE INPUT: true; the input reads as it did. -/
def u128AddsSpec : ChangeSpec := { name := "u128Adds", fn := fun _ => fun
  | [d1, d2] => { results := [.lit (.bool true)], args := [d1, d2] }
  | _ => none }
def u128AddsRow : OpenClaim := { program := "ytpkjpiphjdpegaa", sum := "14df41290a88a90af12d8bf459b919630b7cf50bc023b58efd9614af9bf86191", func := "paymaster/paymasterlaw01.U128Adds", spec := "u128Adds", inPlace := ["math/bits.Add64", "math/bits.Sub64"], apart := false }
def U128AddsSaid : Prop := u128AddsRow.holds Try.pinned (OpenSpec.ofChange u128AddsSpec)

/-- ITS FALSE NEIGHBOUR: 'it returns false'. Refute it at one input. -/
def u128AddsWrong : ChangeSpec := { name := "u128Adds", fn := fun _ => fun
  | [d1, d2] => { results := [.lit (.bool false)], args := [d1, d2] }
  | _ => none }
def U128AddsWrongFalsely : Prop := u128AddsRow.holds Try.pinned (OpenSpec.ofChange u128AddsWrong)

/-- 'paymasterlaw03.WideOrders': WHATEVER THE INPUT: true; the input reads as it did. -/
def wideOrdersSpec : ChangeSpec := { name := "wideOrders", fn := fun _ => fun
  | [d1, d2] => { results := [.lit (.bool true)], args := [d1, d2] }
  | _ => none }
def wideOrdersRow : OpenClaim := { program := "ytpkjpiphjdpegaa", sum := "14df41290a88a90af12d8bf459b919630b7cf50bc023b58efd9614af9bf86191", func := "paymaster/paymasterlaw03.WideOrders", spec := "wideOrders", inPlace := ["math/bits.Add64"], unfollowed := true, recurses := true, apart := false }
def WideOrdersSaid : Prop := wideOrdersRow.holds Try.pinned (OpenSpec.ofChange wideOrdersSpec)

/-- ITS FALSE NEIGHBOUR: 'it returns false'. Refute it at one input. -/
def wideOrdersWrong : ChangeSpec := { name := "wideOrders", fn := fun _ => fun
  | [d1, d2] => { results := [.lit (.bool false)], args := [d1, d2] }
  | _ => none }
def WideOrdersWrongFalsely : Prop := wideOrdersRow.holds Try.pinned (OpenSpec.ofChange wideOrdersWrong)

/-- 'paymasterlaw03.WideCompares': WHATEVER THE INPUT: true; the input reads as it did. -/
def wideComparesSpec : ChangeSpec := { name := "wideCompares", fn := fun _ => fun
  | [d1, d2, d3, d4] => { results := [.lit (.bool true)], args := [d1, d2, d3, d4] }
  | _ => none }
def wideComparesRow : OpenClaim := { program := "ytpkjpiphjdpegaa", sum := "14df41290a88a90af12d8bf459b919630b7cf50bc023b58efd9614af9bf86191", func := "paymaster/paymasterlaw03.WideCompares", spec := "wideCompares", inPlace := ["math/bits.Add64"], unfollowed := true, recurses := true, apart := false }
def WideComparesSaid : Prop := wideComparesRow.holds Try.pinned (OpenSpec.ofChange wideComparesSpec)

/-- ITS FALSE NEIGHBOUR: 'it returns false'. Refute it at one input. -/
def wideComparesWrong : ChangeSpec := { name := "wideCompares", fn := fun _ => fun
  | [d1, d2, d3, d4] => { results := [.lit (.bool false)], args := [d1, d2, d3, d4] }
  | _ => none }
def WideComparesWrongFalsely : Prop := wideComparesRow.holds Try.pinned (OpenSpec.ofChange wideComparesWrong)

/-- 'paymasterlaw03.WideBalanced': WHATEVER THE INPUT: true; the input reads as it did. -/
def wideBalancedSpec : ChangeSpec := { name := "wideBalanced", fn := fun _ => fun
  | [d1, d2, d3] => { results := [.lit (.bool true)], args := [d1, d2, d3] }
  | _ => none }
def wideBalancedRow : OpenClaim := { program := "ytpkjpiphjdpegaa", sum := "14df41290a88a90af12d8bf459b919630b7cf50bc023b58efd9614af9bf86191", func := "paymaster/paymasterlaw03.WideBalanced", spec := "wideBalanced", inPlace := ["math/bits.Add64"], unfollowed := true, recurses := true, apart := false }
def WideBalancedSaid : Prop := wideBalancedRow.holds Try.pinned (OpenSpec.ofChange wideBalancedSpec)

/-- ITS FALSE NEIGHBOUR: 'it returns false'. Refute it at one input. -/
def wideBalancedWrong : ChangeSpec := { name := "wideBalanced", fn := fun _ => fun
  | [d1, d2, d3] => { results := [.lit (.bool false)], args := [d1, d2, d3] }
  | _ => none }
def WideBalancedWrongFalsely : Prop := wideBalancedRow.holds Try.pinned (OpenSpec.ofChange wideBalancedWrong)

/-- 'paymasterlaw01.U128Times': WHATEVER THE INPUT: true; the input reads as it did. -/
def u128TimesSpec : ChangeSpec := { name := "u128Times", fn := fun _ => fun
  | [d1, d2] => { results := [.lit (.bool true)], args := [d1, d2] }
  | _ => none }
def u128TimesRow : OpenClaim := { program := "ytpkjpiphjdpegaa", sum := "14df41290a88a90af12d8bf459b919630b7cf50bc023b58efd9614af9bf86191", func := "paymaster/paymasterlaw01.U128Times", spec := "u128Times", inPlace := ["math/bits.Add64"], named := ["math/bits.divideError", "math/bits.overflowError"], apart := false }
def U128TimesSaid : Prop := u128TimesRow.holds Try.pinned (OpenSpec.ofChange u128TimesSpec)

/-- ITS FALSE NEIGHBOUR: 'it returns false'. Refute it at one input. -/
def u128TimesWrong : ChangeSpec := { name := "u128Times", fn := fun _ => fun
  | [d1, d2] => { results := [.lit (.bool false)], args := [d1, d2] }
  | _ => none }
def U128TimesWrongFalsely : Prop := u128TimesRow.holds Try.pinned (OpenSpec.ofChange u128TimesWrong)

/-- 'paymasterlaw03.WideNarrow': WHATEVER THE INPUT: true; the input reads as it did. -/
def wideNarrowSpec : ChangeSpec := { name := "wideNarrow", fn := fun _ => fun
  | [d] => { results := [.lit (.bool true)], args := [d] }
  | _ => none }
def wideNarrowRow : OpenClaim := { program := "ytpkjpiphjdpegaa", sum := "14df41290a88a90af12d8bf459b919630b7cf50bc023b58efd9614af9bf86191", func := "paymaster/paymasterlaw03.WideNarrow", spec := "wideNarrow", inPlace := ["math/bits.Add64", "math/bits.Sub64"], unfollowed := true, recurses := true, apart := false }
def WideNarrowSaid : Prop := wideNarrowRow.holds Try.pinned (OpenSpec.ofChange wideNarrowSpec)

/-- ITS FALSE NEIGHBOUR: 'it returns false'. Refute it at one input. -/
def wideNarrowWrong : ChangeSpec := { name := "wideNarrow", fn := fun _ => fun
  | [d] => { results := [.lit (.bool false)], args := [d] }
  | _ => none }
def WideNarrowWrongFalsely : Prop := wideNarrowRow.holds Try.pinned (OpenSpec.ofChange wideNarrowWrong)

/-- 'paymasterlaw02.DecimalDigits': WHATEVER THE INPUT: true; the input reads as it did. -/
def decimalDigitsSpec : ChangeSpec := { name := "decimalDigits", fn := fun _ => fun
  | [d1, d2] => { results := [.lit (.bool true)], args := [d1, d2] }
  | _ => none }
def decimalDigitsRow : OpenClaim := { program := "ytpkjpiphjdpegaa", sum := "14df41290a88a90af12d8bf459b919630b7cf50bc023b58efd9614af9bf86191", func := "paymaster/paymasterlaw02.DecimalDigits", spec := "decimalDigits", inPlace := ["math/bits.Add64"], recurses := true, named := ["math/bits.divideError", "math/bits.overflowError"], apart := false }
def DecimalDigitsSaid : Prop := decimalDigitsRow.holds Try.pinned (OpenSpec.ofChange decimalDigitsSpec)

/-- ITS FALSE NEIGHBOUR: 'it returns false'. Refute it at one input. -/
def decimalDigitsWrong : ChangeSpec := { name := "decimalDigits", fn := fun _ => fun
  | [d1, d2] => { results := [.lit (.bool false)], args := [d1, d2] }
  | _ => none }
def DecimalDigitsWrongFalsely : Prop := decimalDigitsRow.holds Try.pinned (OpenSpec.ofChange decimalDigitsWrong)

/-- 'paymasterlaw01.U128Back': WHATEVER THE INPUT: true; the input reads as it did. -/
def u128BackSpec : ChangeSpec := { name := "u128Back", fn := fun _ => fun
  | [d1, d2] => { results := [.lit (.bool true)], args := [d1, d2] }
  | _ => none }
def u128BackRow : OpenClaim := { program := "ytpkjpiphjdpegaa", sum := "14df41290a88a90af12d8bf459b919630b7cf50bc023b58efd9614af9bf86191", func := "paymaster/paymasterlaw01.U128Back", spec := "u128Back", inPlace := ["math/bits.Add64", "math/bits.Sub64"], named := ["math/bits.divideError", "math/bits.overflowError"], apart := false }
def U128BackSaid : Prop := u128BackRow.holds Try.pinned (OpenSpec.ofChange u128BackSpec)

/-- ITS FALSE NEIGHBOUR: 'it returns false'. Refute it at one input. -/
def u128BackWrong : ChangeSpec := { name := "u128Back", fn := fun _ => fun
  | [d1, d2] => { results := [.lit (.bool false)], args := [d1, d2] }
  | _ => none }
def U128BackWrongFalsely : Prop := u128BackRow.holds Try.pinned (OpenSpec.ofChange u128BackWrong)

/-- 'paymasterlaw01.U128Order': WHATEVER THE INPUT: true; the input reads as it did. -/
def u128OrderSpec : ChangeSpec := { name := "u128Order", fn := fun _ => fun
  | [d1, d2, d3] => { results := [.lit (.bool true)], args := [d1, d2, d3] }
  | _ => none }
def u128OrderRow : OpenClaim := { program := "ytpkjpiphjdpegaa", sum := "14df41290a88a90af12d8bf459b919630b7cf50bc023b58efd9614af9bf86191", func := "paymaster/paymasterlaw01.U128Order", spec := "u128Order", inPlace := ["math/bits.Add64", "math/bits.Sub64"], named := ["math/bits.divideError", "math/bits.overflowError"], apart := false }
def U128OrderSaid : Prop := u128OrderRow.holds Try.pinned (OpenSpec.ofChange u128OrderSpec)

/-- ITS FALSE NEIGHBOUR: 'it returns false'. Refute it at one input. -/
def u128OrderWrong : ChangeSpec := { name := "u128Order", fn := fun _ => fun
  | [d1, d2, d3] => { results := [.lit (.bool false)], args := [d1, d2, d3] }
  | _ => none }
def U128OrderWrongFalsely : Prop := u128OrderRow.holds Try.pinned (OpenSpec.ofChange u128OrderWrong)

/-- 'paymasterlaw01.U128Sums': WHATEVER THE INPUT: true; the input reads as it did. -/
def u128SumsSpec : ChangeSpec := { name := "u128Sums", fn := fun _ => fun
  | [d1, d2] => { results := [.lit (.bool true)], args := [d1, d2] }
  | _ => none }
def u128SumsRow : OpenClaim := { program := "ytpkjpiphjdpegaa", sum := "14df41290a88a90af12d8bf459b919630b7cf50bc023b58efd9614af9bf86191", func := "paymaster/paymasterlaw01.U128Sums", spec := "u128Sums", inPlace := ["math/bits.Add64", "math/bits.Sub64"], named := ["math/bits.divideError", "math/bits.overflowError"], apart := false }
def U128SumsSaid : Prop := u128SumsRow.holds Try.pinned (OpenSpec.ofChange u128SumsSpec)

/-- ITS FALSE NEIGHBOUR: 'it returns false'. Refute it at one input. -/
def u128SumsWrong : ChangeSpec := { name := "u128Sums", fn := fun _ => fun
  | [d1, d2] => { results := [.lit (.bool false)], args := [d1, d2] }
  | _ => none }
def U128SumsWrongFalsely : Prop := u128SumsRow.holds Try.pinned (OpenSpec.ofChange u128SumsWrong)

/-- 'paymasterlaw01.U128Divides': WHATEVER THE INPUT: true; the input reads as it did. -/
def u128DividesSpec : ChangeSpec := { name := "u128Divides", fn := fun _ => fun
  | [d1, d2] => { results := [.lit (.bool true)], args := [d1, d2] }
  | _ => none }
def u128DividesRow : OpenClaim := { program := "ytpkjpiphjdpegaa", sum := "14df41290a88a90af12d8bf459b919630b7cf50bc023b58efd9614af9bf86191", func := "paymaster/paymasterlaw01.U128Divides", spec := "u128Divides", inPlace := ["math/bits.Add64", "math/bits.Sub64"], named := ["math/bits.divideError", "math/bits.overflowError"], apart := false }
def U128DividesSaid : Prop := u128DividesRow.holds Try.pinned (OpenSpec.ofChange u128DividesSpec)

/-- ITS FALSE NEIGHBOUR: 'it returns false'. Refute it at one input. -/
def u128DividesWrong : ChangeSpec := { name := "u128Divides", fn := fun _ => fun
  | [d1, d2] => { results := [.lit (.bool false)], args := [d1, d2] }
  | _ => none }
def U128DividesWrongFalsely : Prop := u128DividesRow.holds Try.pinned (OpenSpec.ofChange u128DividesWrong)

/-- 'paymasterlaw09.LinesJoins': WHATEVER THE INPUT: true; the input reads as it did. -/
def linesJoinsSpec : ChangeSpec := { name := "linesJoins", fn := fun _ => fun
  | [d] => { results := [.lit (.bool true)], args := [d] }
  | _ => none }
def linesJoinsRow : OpenClaim := { program := "ytpkjpiphjdpegaa", sum := "14df41290a88a90af12d8bf459b919630b7cf50bc023b58efd9614af9bf86191", func := "paymaster/paymasterlaw09.LinesJoins", spec := "linesJoins", inPlace := ["internal/bytealg.IndexByteString", "internal/bytealg.IndexString", "internal/abi.NoEscape", "internal/bytealg.MakeNoZero"], unfollowed := true, recurses := true, named := ["internal/bytealg.MaxLen"], apart := false }
def LinesJoinsSaid : Prop := linesJoinsRow.holds Try.pinned (OpenSpec.ofChange linesJoinsSpec)

/-- ITS FALSE NEIGHBOUR: 'it returns false'. Refute it at one input. -/
def linesJoinsWrong : ChangeSpec := { name := "linesJoins", fn := fun _ => fun
  | [d] => { results := [.lit (.bool false)], args := [d] }
  | _ => none }
def LinesJoinsWrongFalsely : Prop := linesJoinsRow.holds Try.pinned (OpenSpec.ofChange linesJoinsWrong)

/-- 'paymasterlaw11.LedgerFinds': WHATEVER THE INPUT: true; the input reads as it did. -/
def ledgerFindsSpec : ChangeSpec := { name := "ledgerFinds", fn := fun _ => fun
  | [d1, d2, d3] => { results := [.lit (.bool true)], args := [d1, d2, d3] }
  | _ => none }
def ledgerFindsRow : OpenClaim := { program := "ytpkjpiphjdpegaa", sum := "14df41290a88a90af12d8bf459b919630b7cf50bc023b58efd9614af9bf86191", func := "paymaster/paymasterlaw11.LedgerFinds", spec := "ledgerFinds", unfollowed := true, recurses := true, apart := false }
def LedgerFindsSaid : Prop := ledgerFindsRow.holds Try.pinned (OpenSpec.ofChange ledgerFindsSpec)

/-- ITS FALSE NEIGHBOUR: 'it returns false'. Refute it at one input. -/
def ledgerFindsWrong : ChangeSpec := { name := "ledgerFinds", fn := fun _ => fun
  | [d1, d2, d3] => { results := [.lit (.bool false)], args := [d1, d2, d3] }
  | _ => none }
def LedgerFindsWrongFalsely : Prop := ledgerFindsRow.holds Try.pinned (OpenSpec.ofChange ledgerFindsWrong)

/-- 'paymasterlaw02.DecimalTexts': WHATEVER THE INPUT: true; the input reads as it did. -/
def decimalTextsSpec : ChangeSpec := { name := "decimalTexts", fn := fun _ => fun
  | [d1, d2] => { results := [.lit (.bool true)], args := [d1, d2] }
  | _ => none }
def decimalTextsRow : OpenClaim := { program := "ytpkjpiphjdpegaa", sum := "14df41290a88a90af12d8bf459b919630b7cf50bc023b58efd9614af9bf86191", func := "paymaster/paymasterlaw02.DecimalTexts", spec := "decimalTexts", inPlace := ["math/bits.Add64", "internal/abi.NoEscape", "internal/bytealg.MakeNoZero"], unfollowed := true, recurses := true, named := ["math/bits.divideError", "math/bits.overflowError"], apart := false }
def DecimalTextsSaid : Prop := decimalTextsRow.holds Try.pinned (OpenSpec.ofChange decimalTextsSpec)

/-- ITS FALSE NEIGHBOUR: 'it returns false'. Refute it at one input. -/
def decimalTextsWrong : ChangeSpec := { name := "decimalTexts", fn := fun _ => fun
  | [d1, d2] => { results := [.lit (.bool false)], args := [d1, d2] }
  | _ => none }
def DecimalTextsWrongFalsely : Prop := decimalTextsRow.holds Try.pinned (OpenSpec.ofChange decimalTextsWrong)

/-- 'paymasterlaw02.DecimalBack': WHATEVER THE INPUT: true; the input reads as it did. -/
def decimalBackSpec : ChangeSpec := { name := "decimalBack", fn := fun _ => fun
  | [d1, d2] => { results := [.lit (.bool true)], args := [d1, d2] }
  | _ => none }
def decimalBackRow : OpenClaim := { program := "ytpkjpiphjdpegaa", sum := "14df41290a88a90af12d8bf459b919630b7cf50bc023b58efd9614af9bf86191", func := "paymaster/paymasterlaw02.DecimalBack", spec := "decimalBack", inPlace := ["math/bits.Add64", "internal/abi.NoEscape", "internal/bytealg.MakeNoZero"], unfollowed := true, recurses := true, named := ["math/bits.divideError", "math/bits.overflowError"], apart := false }
def DecimalBackSaid : Prop := decimalBackRow.holds Try.pinned (OpenSpec.ofChange decimalBackSpec)

/-- ITS FALSE NEIGHBOUR: 'it returns false'. Refute it at one input. -/
def decimalBackWrong : ChangeSpec := { name := "decimalBack", fn := fun _ => fun
  | [d1, d2] => { results := [.lit (.bool false)], args := [d1, d2] }
  | _ => none }
def DecimalBackWrongFalsely : Prop := decimalBackRow.holds Try.pinned (OpenSpec.ofChange decimalBackWrong)

/-- 'paymasterlaw02.DecimalPlaces': WHATEVER THE INPUT: true; the input reads as it did. -/
def decimalPlacesSpec : ChangeSpec := { name := "decimalPlaces", fn := fun _ => fun
  | [d] => { results := [.lit (.bool true)], args := [d] }
  | _ => none }
def decimalPlacesRow : OpenClaim := { program := "ytpkjpiphjdpegaa", sum := "14df41290a88a90af12d8bf459b919630b7cf50bc023b58efd9614af9bf86191", func := "paymaster/paymasterlaw02.DecimalPlaces", spec := "decimalPlaces", inPlace := ["math/bits.Add64", "internal/abi.NoEscape", "internal/bytealg.MakeNoZero"], unfollowed := true, recurses := true, named := ["math/bits.divideError", "math/bits.overflowError"], apart := false }
def DecimalPlacesSaid : Prop := decimalPlacesRow.holds Try.pinned (OpenSpec.ofChange decimalPlacesSpec)

/-- ITS FALSE NEIGHBOUR: 'it returns false'. Refute it at one input. -/
def decimalPlacesWrong : ChangeSpec := { name := "decimalPlaces", fn := fun _ => fun
  | [d] => { results := [.lit (.bool false)], args := [d] }
  | _ => none }
def DecimalPlacesWrongFalsely : Prop := decimalPlacesRow.holds Try.pinned (OpenSpec.ofChange decimalPlacesWrong)

/-- 'paymasterlaw02.DecimalGroups': WHATEVER THE INPUT: true; the input reads as it did. -/
def decimalGroupsSpec : ChangeSpec := { name := "decimalGroups", fn := fun _ => fun
  | [d] => { results := [.lit (.bool true)], args := [d] }
  | _ => none }
def decimalGroupsRow : OpenClaim := { program := "ytpkjpiphjdpegaa", sum := "14df41290a88a90af12d8bf459b919630b7cf50bc023b58efd9614af9bf86191", func := "paymaster/paymasterlaw02.DecimalGroups", spec := "decimalGroups", inPlace := ["math/bits.Add64", "internal/abi.NoEscape", "internal/bytealg.MakeNoZero"], unfollowed := true, recurses := true, named := ["math/bits.divideError", "math/bits.overflowError"], apart := false }
def DecimalGroupsSaid : Prop := decimalGroupsRow.holds Try.pinned (OpenSpec.ofChange decimalGroupsSpec)

/-- ITS FALSE NEIGHBOUR: 'it returns false'. Refute it at one input. -/
def decimalGroupsWrong : ChangeSpec := { name := "decimalGroups", fn := fun _ => fun
  | [d] => { results := [.lit (.bool false)], args := [d] }
  | _ => none }
def DecimalGroupsWrongFalsely : Prop := decimalGroupsRow.holds Try.pinned (OpenSpec.ofChange decimalGroupsWrong)

/-- 'paymasterlaw02.DecimalOrder': WHATEVER THE INPUT: true; the input reads as it did. -/
def decimalOrderSpec : ChangeSpec := { name := "decimalOrder", fn := fun _ => fun
  | [d1, d2] => { results := [.lit (.bool true)], args := [d1, d2] }
  | _ => none }
def decimalOrderRow : OpenClaim := { program := "ytpkjpiphjdpegaa", sum := "14df41290a88a90af12d8bf459b919630b7cf50bc023b58efd9614af9bf86191", func := "paymaster/paymasterlaw02.DecimalOrder", spec := "decimalOrder", inPlace := ["math/bits.Add64", "internal/abi.NoEscape", "internal/bytealg.MakeNoZero"], unfollowed := true, recurses := true, named := ["math/bits.divideError", "math/bits.overflowError"], apart := false }
def DecimalOrderSaid : Prop := decimalOrderRow.holds Try.pinned (OpenSpec.ofChange decimalOrderSpec)

/-- ITS FALSE NEIGHBOUR: 'it returns false'. Refute it at one input. -/
def decimalOrderWrong : ChangeSpec := { name := "decimalOrder", fn := fun _ => fun
  | [d1, d2] => { results := [.lit (.bool false)], args := [d1, d2] }
  | _ => none }
def DecimalOrderWrongFalsely : Prop := decimalOrderRow.holds Try.pinned (OpenSpec.ofChange decimalOrderWrong)

/- THE SECOND FORM. 'bulk': how many values and letters a reading holds, each counted each time it is reached (what is shared counts as often as it is met; a slice's spare places count too). A statement '..UptoSaid' is the law's where the arguments, and the package variables that the reading takes, are together of bulk at most 1048576: NARROWER than '..Said'. Prove '..Said' where nothing that the law and all that it calls make is longer than what came in: it says more and counts as full. Else prove '..UptoSaid'. A law counts once. -/
mutual
def uptoBulk {H : Type} : DataW H → Nat
  | .lit (.string bytes) => bytes.length + 1
  | .lit _ => 1
  | .nil => 1
  | .ptr d => uptoBulk d + 1
  | .slice elems spare => uptoBulkAll elems + uptoBulkAll spare + 1
  | .agg parts => uptoBulkAll parts + 1
  | .iface _ d => uptoBulk d + 1
  | .map entries => uptoBulkEntries entries + 1
  | .held _ => 1
def uptoBulkAll {H : Type} : List (DataW H) → Nat
  | [] => 0
  | d :: r => uptoBulk d + uptoBulkAll r
def uptoBulkEntries {H : Type} : List (Lit × DataW H) → Nat
  | [] => 0
  | x :: r => uptoBulkEntry x + uptoBulkEntries r
def uptoBulkEntry {H : Type} : Lit × DataW H → Nat
  | (.string bytes, d) => bytes.length + uptoBulk d + 1
  | (_, d) => uptoBulk d + 1
 end
def uptoSmall : (H : Type) → List (DataW H) → Bool := fun _ ds => decide (uptoBulkAll ds ≤ 1048576)
def OpenSpec.upto (s : _root_.Go.ChangeSpec) : _root_.Go.OpenSpec := { _root_.Go.OpenSpec.ofChange s with cond := some uptoSmall }

/-- 'paymasterlaw03.WideAll', WHERE WHAT IT READS IS OF BULK AT MOST 1048576: true; the input reads as it did. -/
def wideAllUptoRow : OpenClaim := { program := "ytpkjpiphjdpegaa", sum := "14df41290a88a90af12d8bf459b919630b7cf50bc023b58efd9614af9bf86191", func := "paymaster/paymasterlaw03.WideAll", spec := "wideAll", inPlace := ["math/bits.Add64"], unfollowed := true, recurses := true, apart := false, narrowed := true }
def WideAllUptoSaid : Prop := wideAllUptoRow.holds Try.pinned (OpenSpec.upto wideAllSpec)

/-- 'paymasterlaw01.U128Bytes', WHERE WHAT IT READS IS OF BULK AT MOST 1048576: true; the input reads as it did. -/
def u128BytesUptoRow : OpenClaim := { program := "ytpkjpiphjdpegaa", sum := "14df41290a88a90af12d8bf459b919630b7cf50bc023b58efd9614af9bf86191", func := "paymaster/paymasterlaw01.U128Bytes", spec := "u128Bytes", inPlace := ["math/bits.Add64"], apart := false, narrowed := true }
def U128BytesUptoSaid : Prop := u128BytesUptoRow.holds Try.pinned (OpenSpec.upto u128BytesSpec)

/-- 'paymasterlaw03.WideAdds', WHERE WHAT IT READS IS OF BULK AT MOST 1048576: true; the input reads as it did. -/
def wideAddsUptoRow : OpenClaim := { program := "ytpkjpiphjdpegaa", sum := "14df41290a88a90af12d8bf459b919630b7cf50bc023b58efd9614af9bf86191", func := "paymaster/paymasterlaw03.WideAdds", spec := "wideAdds", inPlace := ["math/bits.Add64"], apart := false, narrowed := true }
def WideAddsUptoSaid : Prop := wideAddsUptoRow.holds Try.pinned (OpenSpec.upto wideAddsSpec)

/-- 'paymasterlaw01.U128Adds', WHERE WHAT IT READS IS OF BULK AT MOST 1048576: true; the input reads as it did. -/
def u128AddsUptoRow : OpenClaim := { program := "ytpkjpiphjdpegaa", sum := "14df41290a88a90af12d8bf459b919630b7cf50bc023b58efd9614af9bf86191", func := "paymaster/paymasterlaw01.U128Adds", spec := "u128Adds", inPlace := ["math/bits.Add64", "math/bits.Sub64"], apart := false, narrowed := true }
def U128AddsUptoSaid : Prop := u128AddsUptoRow.holds Try.pinned (OpenSpec.upto u128AddsSpec)

/-- 'paymasterlaw03.WideOrders', WHERE WHAT IT READS IS OF BULK AT MOST 1048576: true; the input reads as it did. -/
def wideOrdersUptoRow : OpenClaim := { program := "ytpkjpiphjdpegaa", sum := "14df41290a88a90af12d8bf459b919630b7cf50bc023b58efd9614af9bf86191", func := "paymaster/paymasterlaw03.WideOrders", spec := "wideOrders", inPlace := ["math/bits.Add64"], unfollowed := true, recurses := true, apart := false, narrowed := true }
def WideOrdersUptoSaid : Prop := wideOrdersUptoRow.holds Try.pinned (OpenSpec.upto wideOrdersSpec)

/-- 'paymasterlaw03.WideCompares', WHERE WHAT IT READS IS OF BULK AT MOST 1048576: true; the input reads as it did. -/
def wideComparesUptoRow : OpenClaim := { program := "ytpkjpiphjdpegaa", sum := "14df41290a88a90af12d8bf459b919630b7cf50bc023b58efd9614af9bf86191", func := "paymaster/paymasterlaw03.WideCompares", spec := "wideCompares", inPlace := ["math/bits.Add64"], unfollowed := true, recurses := true, apart := false, narrowed := true }
def WideComparesUptoSaid : Prop := wideComparesUptoRow.holds Try.pinned (OpenSpec.upto wideComparesSpec)

/-- 'paymasterlaw03.WideBalanced', WHERE WHAT IT READS IS OF BULK AT MOST 1048576: true; the input reads as it did. -/
def wideBalancedUptoRow : OpenClaim := { program := "ytpkjpiphjdpegaa", sum := "14df41290a88a90af12d8bf459b919630b7cf50bc023b58efd9614af9bf86191", func := "paymaster/paymasterlaw03.WideBalanced", spec := "wideBalanced", inPlace := ["math/bits.Add64"], unfollowed := true, recurses := true, apart := false, narrowed := true }
def WideBalancedUptoSaid : Prop := wideBalancedUptoRow.holds Try.pinned (OpenSpec.upto wideBalancedSpec)

/-- 'paymasterlaw01.U128Times', WHERE WHAT IT READS IS OF BULK AT MOST 1048576: true; the input reads as it did. -/
def u128TimesUptoRow : OpenClaim := { program := "ytpkjpiphjdpegaa", sum := "14df41290a88a90af12d8bf459b919630b7cf50bc023b58efd9614af9bf86191", func := "paymaster/paymasterlaw01.U128Times", spec := "u128Times", inPlace := ["math/bits.Add64"], named := ["math/bits.divideError", "math/bits.overflowError"], apart := false, narrowed := true }
def U128TimesUptoSaid : Prop := u128TimesUptoRow.holds Try.pinned (OpenSpec.upto u128TimesSpec)

/-- 'paymasterlaw03.WideNarrow', WHERE WHAT IT READS IS OF BULK AT MOST 1048576: true; the input reads as it did. -/
def wideNarrowUptoRow : OpenClaim := { program := "ytpkjpiphjdpegaa", sum := "14df41290a88a90af12d8bf459b919630b7cf50bc023b58efd9614af9bf86191", func := "paymaster/paymasterlaw03.WideNarrow", spec := "wideNarrow", inPlace := ["math/bits.Add64", "math/bits.Sub64"], unfollowed := true, recurses := true, apart := false, narrowed := true }
def WideNarrowUptoSaid : Prop := wideNarrowUptoRow.holds Try.pinned (OpenSpec.upto wideNarrowSpec)

/-- 'paymasterlaw02.DecimalDigits', WHERE WHAT IT READS IS OF BULK AT MOST 1048576: true; the input reads as it did. -/
def decimalDigitsUptoRow : OpenClaim := { program := "ytpkjpiphjdpegaa", sum := "14df41290a88a90af12d8bf459b919630b7cf50bc023b58efd9614af9bf86191", func := "paymaster/paymasterlaw02.DecimalDigits", spec := "decimalDigits", inPlace := ["math/bits.Add64"], recurses := true, named := ["math/bits.divideError", "math/bits.overflowError"], apart := false, narrowed := true }
def DecimalDigitsUptoSaid : Prop := decimalDigitsUptoRow.holds Try.pinned (OpenSpec.upto decimalDigitsSpec)

/-- 'paymasterlaw01.U128Back', WHERE WHAT IT READS IS OF BULK AT MOST 1048576: true; the input reads as it did. -/
def u128BackUptoRow : OpenClaim := { program := "ytpkjpiphjdpegaa", sum := "14df41290a88a90af12d8bf459b919630b7cf50bc023b58efd9614af9bf86191", func := "paymaster/paymasterlaw01.U128Back", spec := "u128Back", inPlace := ["math/bits.Add64", "math/bits.Sub64"], named := ["math/bits.divideError", "math/bits.overflowError"], apart := false, narrowed := true }
def U128BackUptoSaid : Prop := u128BackUptoRow.holds Try.pinned (OpenSpec.upto u128BackSpec)

/-- 'paymasterlaw01.U128Order', WHERE WHAT IT READS IS OF BULK AT MOST 1048576: true; the input reads as it did. -/
def u128OrderUptoRow : OpenClaim := { program := "ytpkjpiphjdpegaa", sum := "14df41290a88a90af12d8bf459b919630b7cf50bc023b58efd9614af9bf86191", func := "paymaster/paymasterlaw01.U128Order", spec := "u128Order", inPlace := ["math/bits.Add64", "math/bits.Sub64"], named := ["math/bits.divideError", "math/bits.overflowError"], apart := false, narrowed := true }
def U128OrderUptoSaid : Prop := u128OrderUptoRow.holds Try.pinned (OpenSpec.upto u128OrderSpec)

/-- 'paymasterlaw01.U128Sums', WHERE WHAT IT READS IS OF BULK AT MOST 1048576: true; the input reads as it did. -/
def u128SumsUptoRow : OpenClaim := { program := "ytpkjpiphjdpegaa", sum := "14df41290a88a90af12d8bf459b919630b7cf50bc023b58efd9614af9bf86191", func := "paymaster/paymasterlaw01.U128Sums", spec := "u128Sums", inPlace := ["math/bits.Add64", "math/bits.Sub64"], named := ["math/bits.divideError", "math/bits.overflowError"], apart := false, narrowed := true }
def U128SumsUptoSaid : Prop := u128SumsUptoRow.holds Try.pinned (OpenSpec.upto u128SumsSpec)

/-- 'paymasterlaw01.U128Divides', WHERE WHAT IT READS IS OF BULK AT MOST 1048576: true; the input reads as it did. -/
def u128DividesUptoRow : OpenClaim := { program := "ytpkjpiphjdpegaa", sum := "14df41290a88a90af12d8bf459b919630b7cf50bc023b58efd9614af9bf86191", func := "paymaster/paymasterlaw01.U128Divides", spec := "u128Divides", inPlace := ["math/bits.Add64", "math/bits.Sub64"], named := ["math/bits.divideError", "math/bits.overflowError"], apart := false, narrowed := true }
def U128DividesUptoSaid : Prop := u128DividesUptoRow.holds Try.pinned (OpenSpec.upto u128DividesSpec)

/-- 'paymasterlaw09.LinesJoins', WHERE WHAT IT READS IS OF BULK AT MOST 1048576: true; the input reads as it did. -/
def linesJoinsUptoRow : OpenClaim := { program := "ytpkjpiphjdpegaa", sum := "14df41290a88a90af12d8bf459b919630b7cf50bc023b58efd9614af9bf86191", func := "paymaster/paymasterlaw09.LinesJoins", spec := "linesJoins", inPlace := ["internal/bytealg.IndexByteString", "internal/bytealg.IndexString", "internal/abi.NoEscape", "internal/bytealg.MakeNoZero"], unfollowed := true, recurses := true, named := ["internal/bytealg.MaxLen"], apart := false, narrowed := true }
def LinesJoinsUptoSaid : Prop := linesJoinsUptoRow.holds Try.pinned (OpenSpec.upto linesJoinsSpec)

/-- 'paymasterlaw11.LedgerFinds', WHERE WHAT IT READS IS OF BULK AT MOST 1048576: true; the input reads as it did. -/
def ledgerFindsUptoRow : OpenClaim := { program := "ytpkjpiphjdpegaa", sum := "14df41290a88a90af12d8bf459b919630b7cf50bc023b58efd9614af9bf86191", func := "paymaster/paymasterlaw11.LedgerFinds", spec := "ledgerFinds", unfollowed := true, recurses := true, apart := false, narrowed := true }
def LedgerFindsUptoSaid : Prop := ledgerFindsUptoRow.holds Try.pinned (OpenSpec.upto ledgerFindsSpec)

/-- 'paymasterlaw02.DecimalTexts', WHERE WHAT IT READS IS OF BULK AT MOST 1048576: true; the input reads as it did. -/
def decimalTextsUptoRow : OpenClaim := { program := "ytpkjpiphjdpegaa", sum := "14df41290a88a90af12d8bf459b919630b7cf50bc023b58efd9614af9bf86191", func := "paymaster/paymasterlaw02.DecimalTexts", spec := "decimalTexts", inPlace := ["math/bits.Add64", "internal/abi.NoEscape", "internal/bytealg.MakeNoZero"], unfollowed := true, recurses := true, named := ["math/bits.divideError", "math/bits.overflowError"], apart := false, narrowed := true }
def DecimalTextsUptoSaid : Prop := decimalTextsUptoRow.holds Try.pinned (OpenSpec.upto decimalTextsSpec)

/-- 'paymasterlaw02.DecimalBack', WHERE WHAT IT READS IS OF BULK AT MOST 1048576: true; the input reads as it did. -/
def decimalBackUptoRow : OpenClaim := { program := "ytpkjpiphjdpegaa", sum := "14df41290a88a90af12d8bf459b919630b7cf50bc023b58efd9614af9bf86191", func := "paymaster/paymasterlaw02.DecimalBack", spec := "decimalBack", inPlace := ["math/bits.Add64", "internal/abi.NoEscape", "internal/bytealg.MakeNoZero"], unfollowed := true, recurses := true, named := ["math/bits.divideError", "math/bits.overflowError"], apart := false, narrowed := true }
def DecimalBackUptoSaid : Prop := decimalBackUptoRow.holds Try.pinned (OpenSpec.upto decimalBackSpec)

/-- 'paymasterlaw02.DecimalPlaces', WHERE WHAT IT READS IS OF BULK AT MOST 1048576: true; the input reads as it did. -/
def decimalPlacesUptoRow : OpenClaim := { program := "ytpkjpiphjdpegaa", sum := "14df41290a88a90af12d8bf459b919630b7cf50bc023b58efd9614af9bf86191", func := "paymaster/paymasterlaw02.DecimalPlaces", spec := "decimalPlaces", inPlace := ["math/bits.Add64", "internal/abi.NoEscape", "internal/bytealg.MakeNoZero"], unfollowed := true, recurses := true, named := ["math/bits.divideError", "math/bits.overflowError"], apart := false, narrowed := true }
def DecimalPlacesUptoSaid : Prop := decimalPlacesUptoRow.holds Try.pinned (OpenSpec.upto decimalPlacesSpec)

/-- 'paymasterlaw02.DecimalGroups', WHERE WHAT IT READS IS OF BULK AT MOST 1048576: true; the input reads as it did. -/
def decimalGroupsUptoRow : OpenClaim := { program := "ytpkjpiphjdpegaa", sum := "14df41290a88a90af12d8bf459b919630b7cf50bc023b58efd9614af9bf86191", func := "paymaster/paymasterlaw02.DecimalGroups", spec := "decimalGroups", inPlace := ["math/bits.Add64", "internal/abi.NoEscape", "internal/bytealg.MakeNoZero"], unfollowed := true, recurses := true, named := ["math/bits.divideError", "math/bits.overflowError"], apart := false, narrowed := true }
def DecimalGroupsUptoSaid : Prop := decimalGroupsUptoRow.holds Try.pinned (OpenSpec.upto decimalGroupsSpec)

/-- 'paymasterlaw02.DecimalOrder', WHERE WHAT IT READS IS OF BULK AT MOST 1048576: true; the input reads as it did. -/
def decimalOrderUptoRow : OpenClaim := { program := "ytpkjpiphjdpegaa", sum := "14df41290a88a90af12d8bf459b919630b7cf50bc023b58efd9614af9bf86191", func := "paymaster/paymasterlaw02.DecimalOrder", spec := "decimalOrder", inPlace := ["math/bits.Add64", "internal/abi.NoEscape", "internal/bytealg.MakeNoZero"], unfollowed := true, recurses := true, named := ["math/bits.divideError", "math/bits.overflowError"], apart := false, narrowed := true }
def DecimalOrderUptoSaid : Prop := decimalOrderUptoRow.holds Try.pinned (OpenSpec.upto decimalOrderSpec)

end Rows
end Go.Proofs.Ytpkjpiphjdpegaa
