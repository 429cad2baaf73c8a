/- A program of this session wrote this text out of the session's own texts. (part 40 of 45) -/
import Derived.Test.YtpkjpiphjdpegaaDoorCLedgerImports32
import Derived.Test.YtpkjpiphjdpegaaDoorCLedgerImports39
namespace Go.Proofs.YtpkjpiphjdpegaaDoor.P
open Go.RowKit Go.Proofs.YtpkjpiphjdpegaaDoor.RF Go.Proofs.YtpkjpiphjdpegaaDoorW.PrintWords Go.Proofs.YtpkjpiphjdpegaaDoorW.PrintLast Go.Proofs.YtpkjpiphjdpegaaDoorW.PrintMore
open Go.Maps
set_option linter.unusedVariables false
set_option linter.unusedSimpArgs false
theorem put_e {n0 Bx Pb B : Nat} {most : Int} {rows : List S44} {y : S44} {W : World} {pe : Int} (he : putErr most rows y = pe) (hb : Book n0 Bx Pb B most rows W) (hn0 : n0 ≤ W.heap.size) (hx : Bx < W.heap.size) (hl : rows.length ≤ 100000) (hs0 : 0 ≤ sumOf rows) (hs1 : sumOf rows < m128) (hy : okA y) (hys : y.f0.size ≤ maxLen) :
  Calls Tryd.prog 70 #[.pointer (some ⟨Pb, 0, none⟩), .agg #[.string y.f0, .int .u64 y.f1.f0, .int .u64 y.f1.f1]] W fun e W' => e = .returned (.int .i64 pe) ∧ Aside0 ((pe ≠ 0 → Below W.heap.size W W') ∧ (pe = 0 → Below n0 W W' ∧ Kept Bx Pb B W W' ∧ Book n0 Bx Pb B most (rows ++ [y]) W')) := by
 refine (put_is n0 Bx Pb B most rows y W hb hn0 hx hl hs0 hs1 hy hys).mono fun e W' q => ?_
 unfold PutPost at q; rw [he] at q; exact ⟨q.1, ⟨q.2⟩⟩
end Go.Proofs.YtpkjpiphjdpegaaDoor.P
