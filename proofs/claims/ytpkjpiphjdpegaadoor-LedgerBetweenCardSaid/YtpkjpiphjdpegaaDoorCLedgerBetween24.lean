/- A program of this session wrote this text out of the session's own texts. (part 24 of 46) -/
import Derived.Test.YtpkjpiphjdpegaaDoorCLedgerBetween4
import Derived.Test.YtpkjpiphjdpegaaDoorCLedgerBetween17
import Derived.Test.YtpkjpiphjdpegaaDoorCLedgerBetween23
namespace Go.Proofs.YtpkjpiphjdpegaaDoor.P
open Go.RowKit Go.Proofs.YtpkjpiphjdpegaaDoorW.PrintWords Go.Proofs.YtpkjpiphjdpegaaDoorW.PrintLast Go.Proofs.YtpkjpiphjdpegaaDoorW.PrintMore
set_option linter.unusedVariables false
set_option linter.unusedSimpArgs false
theorem wrapI (x : Int) (h0 : -9223372036854775808 ≤ x) (h1 : x ≤ 9223372036854775807) : wrap64 x = x := by unfold wrap64; omega
end Go.Proofs.YtpkjpiphjdpegaaDoor.P
namespace Go.Proofs.YtpkjpiphjdpegaaDoor.P
open Go.RowKit Go.Proofs.YtpkjpiphjdpegaaDoorW.PrintWords Go.Proofs.YtpkjpiphjdpegaaDoorW.PrintLast Go.Proofs.YtpkjpiphjdpegaaDoorW.PrintMore
set_option linter.unusedVariables false
set_option linter.unusedSimpArgs false
theorem same44_l0 (l : List S44) (hl : l.length ≤ 1000000000) (k : Nat) : ∀ (t i : Nat), i + t = l.length → paymasterref10_Same.l0 (k + 1 + t) l l (i : Int) = some true
  | 0, i, h => by
    show paymasterref10_Same.l0 (k + 1) _ _ _ = _
    rw [paymasterref10_Same.l0, if_neg (by omega)]
  | t + 1, i, h => by
    have ih := same44_l0 l hl k t (i + 1) (by omega)
    show paymasterref10_Same.l0 (k + 1 + t + 1) _ _ _ = _
    rw [paymasterref10_Same.l0, if_pos (show (i : Int) < (l.length : Int) by omega), if_pos (show (0 : Int) ≤ (i : Int) by omega), if_pos (show (i : Int) < (l.length : Int) by omega), if_neg (by simp), wrapI _ (by omega) (by omega), show (i : Int) + 1 = ((i + 1 : Nat) : Int) from by omega]
    exact ih
theorem same44_is (l : List S44) (hl : l.length ≤ 1000000000) (k : Nat) (hk : l.length + 1 ≤ k) : paymasterref10_Same.f k l l = some true := by
  unfold paymasterref10_Same.f
  rw [if_pos rfl]
  have := same44_l0 l hl (k - 1 - l.length) l.length 0 (by omega)
  rw [show k - 1 - l.length + 1 + l.length = k by omega] at this
  exact this
end Go.Proofs.YtpkjpiphjdpegaaDoor.P
