/- A program of this session wrote this text out of the session's own texts. (part 24 of 45) -/
import Derived.Test.YtpkjpiphjdpegaaDoorCLedgerFirst23
namespace Go.Proofs.YtpkjpiphjdpegaaDoor.P
open Go.RowKit Go.Proofs.YtpkjpiphjdpegaaDoorW.PrintWords Go.Proofs.YtpkjpiphjdpegaaDoorW.PrintLast Go.Proofs.YtpkjpiphjdpegaaDoorW.PrintMore
set_option linter.unusedVariables false
set_option linter.unusedSimpArgs false
theorem splitB_app : ∀ (a b : List UInt8), splitB (a ++ 10 :: b) = splitB a ++ splitB b
  | [], b => by show splitB (10 :: b) = [] :: splitB b; rw [splitB, if_pos rfl]
  | x :: a, b => by
    have ih := splitB_app a b
    rw [List.cons_append, splitB, splitB]
    by_cases c : x = 10
    · rw [if_pos c, if_pos c, ih]; rfl
    · rw [if_neg c, if_neg c, ih]
      cases h : splitB a with
      | nil => exact absurd h (splitB_ne a)
      | cons y r => rfl
theorem wrongOf_ne (h : List UInt8) : wrongOf h = 0 ∨ wrongOf h = 90 ∨ wrongOf h = 91 := by
  unfold wrongOf
  split
  · split
    · exact .inr (.inr rfl)
    · exact .inl rfl
  · exact .inr (.inl rfl)
theorem all_f (s : ByteArray) (hs : s.size ≤ 1000000000) : lines_All.f s = some (allL s) := by unfold lines_All.f; rw [if_pos hs]
theorem wrapI (x : Int) (h0 : -9223372036854775808 ≤ x) (h1 : x ≤ 9223372036854775807) : wrap64 x = x := by unfold wrap64; omega
end Go.Proofs.YtpkjpiphjdpegaaDoor.P
