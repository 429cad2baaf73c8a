/- A program of this session wrote this text out of the session's own texts. (part 10 of 25) -/
import Derived.Test.YtpkjpiphjdpegaaCLedgerFinds4
import Derived.Test.YtpkjpiphjdpegaaCLedgerFinds6
import Derived.Test.YtpkjpiphjdpegaaCLedgerFinds9
import Derived.Laws.Bits64
import Derived.Lib.Bytes
import Derived.Lib.Mul64
import Derived.Shelf.Bits.Mul64
import Derived.Laws.Bits64
namespace Go.Proofs.Ytpkjpiphjdpegaa.P
open Go.RowKit Go.Proofs.YtpkjpiphjdpegaaW.PrintWords Go.Proofs.YtpkjpiphjdpegaaW.PrintLast Go.Proofs.YtpkjpiphjdpegaaW.PrintMore
set_option linter.unusedVariables false
set_option linter.unusedSimpArgs false
def asc (l : List Int) : List Int := l.map (· + 48)
end Go.Proofs.Ytpkjpiphjdpegaa.P
