/- A program of this session wrote this text out of the session's own texts. (part 11 of 45) -/
import Derived.Test.YtpkjpiphjdpegaaDoorCLedgerImports10
import Derived.Test.YtpkjpiphjdpegaaDoorRows
import Derived.Lay
import Derived.LaidMore
namespace Go.Proofs.YtpkjpiphjdpegaaDoor.P
open Go.Shelf Go.RowKit
set_option maxRecDepth 100000
def laid : List (String × DataW Unit) := [("unicode/utf8.acceptRanges", Rows.laid_unicode_utf8_acceptRanges), ("unicode/utf8.first", Rows.laid_unicode_utf8_first)]
theorem first_is : Rows.laid_unicode_utf8_first = Lib.firstData := by kernel_rfl
theorem accept_is : (Rows.laid_unicode_utf8_acceptRanges : DataW Unit) = Lib.acceptData := by kernel_rfl
theorem plain_is {W : World} : laidMetH Tryd.prog laid W = laidMet Tryd.prog laid W := MakeChecks.laidMetH_plain _ _ _ (by kernel_rfl)
theorem gt_of {W : World} (h : laidMetH Tryd.prog laid W) : GT W := by
 rw [plain_is] at h; exact utf8Tabs_of_readsT (U8Types.of196 sh_laysValid) sh_u8Extra (first_is ▸ Lib.laidMet.reads h (.tail _ (.head _))) (accept_is ▸ Lib.laidMet.reads h (.head _))
theorem own : ownKnob Tryd.prog.godebug = none := by kernel_rfl
theorem laidOut : laidOutB Tryd.prog = true := by kernel_rfl
theorem laid_met (os : Os) (args : Array Value) : laidMetH Tryd.prog laid ((World.laidAll Tryd.prog os laid).forCall (fun _ _ => 0) ⟨#[], args, []⟩).memory := by
 rw [plain_is]; exact laidMet_laidAll _ (by kernel_rfl) (by kernel_rfl)
end Go.Proofs.YtpkjpiphjdpegaaDoor.P
