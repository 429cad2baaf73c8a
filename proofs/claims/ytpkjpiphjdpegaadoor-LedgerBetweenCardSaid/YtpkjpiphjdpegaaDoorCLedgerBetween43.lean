/- A program of this session wrote this text out of the session's own texts. (part 43 of 46) -/
import Derived.Test.YtpkjpiphjdpegaaDoorCLedgerBetween17
import Derived.Test.YtpkjpiphjdpegaaDoorCLedgerBetween39
namespace Go.Proofs.YtpkjpiphjdpegaaDoor.P
set_option maxRecDepth 100000
theorem awake11 : paymasterlaw11_awake.f 100 = some true := by kernel_rfl
theorem awake11_up (k : Nat) (h : 100 ≤ k) : paymasterlaw11_awake.f k = some true := up (F := fun k => paymasterlaw11_awake.f k) paymasterlaw11_awake.mono awake11 k h
end Go.Proofs.YtpkjpiphjdpegaaDoor.P
