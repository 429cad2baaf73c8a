/- A program of this session wrote this text out of the session's own texts. (part 9 of 25) -/
import Derived.Test.YtpkjpiphjdpegaaCLedgerFinds6
import Derived.Laws.BitsLemmas
import Derived.Laws.Bits64b
import Derived.Shelf.Bits.Mul64
namespace Go.Proofs.Ytpkjpiphjdpegaa.P
open Go.RowKit Go.Proofs.YtpkjpiphjdpegaaW.PrintWords Go.Proofs.YtpkjpiphjdpegaaW.PrintLast Go.Proofs.YtpkjpiphjdpegaaW.PrintMore
set_option linter.unusedVariables false
set_option linter.unusedSimpArgs false
theorem Est.first {x2 v1 v0 u d Q R : Int} (h : Est x2 v1 v0 u d Q R) : Q ≤ u / v1 ∧ u / v1 ≤ 4294967297 ∧ u / v1 * v1 + u % v1 = u ∧ 0 ≤ u % v1 ∧ u % v1 < 4294967296 := by
  obtain ⟨hy, v1l, v1u, v0l, v0u, dl, du, ul, hQ, Rl, Ru, Ql, Qu⟩ := h
  have e : Q * x2 = Q * v1 * 4294967296 + Q * v0 := by rw [hy, Int.mul_add, ← Int.mul_assoc]
  have w := Int.mul_nonneg Ql v0l
  have hv : 0 < v1 := by omega
  have q1 := Int.emod_lt_of_pos u hv
  have q0 := Int.emod_nonneg u (show v1 ≠ 0 by omega)
  have hm : Q * x2 ≤ 4294967295 * x2 := Int.mul_le_mul_of_nonneg_right (by omega) (by omega)
  have hlt : u < 4294967298 * v1 := by omega
  have := Int.ediv_lt_of_lt_mul hv hlt
  exact ⟨Int.le_ediv_of_mul_le hv (by omega), by omega, Int.ediv_mul_add_emod _ _, q0, by omega⟩
end Go.Proofs.Ytpkjpiphjdpegaa.P
