/- A program of this session wrote this text out of the session's own texts. (part 6 of 25) -/
import Derived.Test.YtpkjpiphjdpegaaCLedgerFinds4
import Derived.Laws.Externs
import Derived.Shelf.Spec.BitsCarry
import Derived.Laws.Bits64
namespace Go.Proofs.Ytpkjpiphjdpegaa.P
open Go.RowKit Go.Proofs.YtpkjpiphjdpegaaW.PrintWords Go.Proofs.YtpkjpiphjdpegaaW.PrintLast Go.Proofs.YtpkjpiphjdpegaaW.PrintMore
set_option linter.unusedVariables false
set_option linter.unusedSimpArgs false
abbrev U64 (x : Int) : Prop := 0 ≤ x ∧ x < 18446744073709551616
end Go.Proofs.Ytpkjpiphjdpegaa.P
namespace Go.Proofs.Ytpkjpiphjdpegaa.P
open Go.RowKit Go.Proofs.YtpkjpiphjdpegaaW.PrintWords Go.Proofs.YtpkjpiphjdpegaaW.PrintLast Go.Proofs.YtpkjpiphjdpegaaW.PrintMore
set_option linter.unusedVariables false
set_option linter.unusedSimpArgs false
theorem quot_lt {y Q R T q : Int} (hy : 0 < y) (e : Q * y + R = T) (hR : 0 ≤ R) (h : T < q * y) : Q < q := by
  rcases Int.lt_or_le Q q with h1 | h1
  · exact h1
  · have := Int.mul_le_mul_of_nonneg_right h1 (Int.le_of_lt hy)
    omega
theorem quot_le {y Q R T q : Int} (hy : 0 < y) (e : Q * y + R = T) (hR : R < y) (h : q * y ≤ T) : q ≤ Q := by
  rcases Int.lt_or_le Q q with h1 | h1
  · have h2 : Q + 1 ≤ q := h1
    have := Int.mul_le_mul_of_nonneg_right h2 (Int.le_of_lt hy)
    rw [Int.add_mul, Int.one_mul] at this
    omega
  · exact h1
structure Est (x2 v1 v0 u d Q R : Int) : Prop where
  hy : x2 = v1 * 4294967296 + v0
  v1l : 2147483648 ≤ v1
  v1u : v1 < 4294967296
  v0l : 0 ≤ v0
  v0u : v0 < 4294967296
  dl : 0 ≤ d
  du : d < 4294967296
  ul : 0 ≤ u
  hQ : Q * x2 + R = u * 4294967296 + d
  Rl : 0 ≤ R
  Ru : R < x2
  Ql : 0 ≤ Q
  Qu : Q < 4294967296
theorem Est.made {x2 v1 v0 u d Q R q rh : Int} (h : Est x2 v1 v0 u d Q R) (e : q * v1 + rh = u) : q * x2 = (u - rh) * 4294967296 + q * v0 := by
  rw [h.hy, Int.mul_add, ← Int.mul_assoc, show q * v1 = u - rh by omega]
theorem Est.pos {x2 v1 v0 u d Q R : Int} (h : Est x2 v1 v0 u d Q R) : 0 < x2 := by
  have := h.hy
  have := h.v1l
  have := h.v0l
  omega
theorem Est.big {x2 v1 v0 u d Q R q rh : Int} (h : Est x2 v1 v0 u d Q R) (e : q * v1 + rh = u) (t : q ≥ 4294967296 ∨ q * v0 > 4294967296 * rh + d) : Q < q := by
  rcases t with t | t
  · have := h.Qu
    omega
  · have m := h.made e
    exact quot_lt h.pos h.hQ h.Rl (by omega)
theorem Est.over {x2 v1 v0 u d Q R q rh : Int} (h : Est x2 v1 v0 u d Q R) (e : q * v1 + rh = u) (hq : Q ≤ q) (hq' : q ≤ 4294967296) (t : rh ≥ 4294967296) : q = Q := by
  have m := h.made e
  have h0 : 0 ≤ q := by
    have := h.Ql
    omega
  have w : q * v0 ≤ 4294967296 * v0 := Int.mul_le_mul_of_nonneg_right hq' h.v0l
  have := h.v0u
  have := h.dl
  have := quot_le h.pos h.hQ h.Ru (q := q) (by omega)
  omega
end Go.Proofs.Ytpkjpiphjdpegaa.P
