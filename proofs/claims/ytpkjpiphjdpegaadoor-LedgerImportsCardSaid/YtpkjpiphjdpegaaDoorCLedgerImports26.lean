/- A program of this session wrote this text out of the session's own texts. (part 26 of 45) -/
import Derived.Test.YtpkjpiphjdpegaaDoorCLedgerImports25
namespace Go.Proofs.YtpkjpiphjdpegaaDoor.P
open Go.RowKit Go.Shelf Go.Proofs.YtpkjpiphjdpegaaDoor.RF Go.Proofs.YtpkjpiphjdpegaaDoorW.PrintWords
attribute [local go_sem] Oper.semAt_some
set_option linter.unusedVariables false
set_option linter.unusedSimpArgs false
theorem boxed_ab {β : Type} (Bx B b : Nat) (t : TypeId) (f : β → Value) (hne : b ≠ Bx) : AbX Bx B (fun (s : β) W => Boxed W b t (f s)) :=
 abX_block (fun s => .cells #[f s] t (0, 0)) (fun _ => rfl) hne
end Go.Proofs.YtpkjpiphjdpegaaDoor.P
