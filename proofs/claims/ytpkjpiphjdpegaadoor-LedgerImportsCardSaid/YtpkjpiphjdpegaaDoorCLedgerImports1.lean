/- A program of this session wrote this text out of the session's own texts. (part 1 of 45) -/
import Derived.WalkKit
import Derived.Laws.Strings
namespace Go.Proofs.YtpkjpiphjdpegaaDoor
theorem less_turned : ∀ a b : List UInt8, (!(Op.bytesLess a b || a == b)) = Op.bytesLess b a
  | [], [] => rfl
  | [], _ :: _ => rfl
  | _ :: _, [] => rfl
  | x :: a, y :: b => by
    have ih := less_turned a b
    simp only [Op.bytesLess]
    by_cases h : x < y
    · have h1 : ¬ y < x := UInt8.lt_asymm h
      have h2 : ¬ y = x := fun e => by rw [e] at h; exact UInt8.lt_irrefl _ h
      simp [h, h1, h2]
    · by_cases h' : y < x
      · have h2 : ¬ x = y := fun e => by rw [e] at h'; exact UInt8.lt_irrefl _ h'
        simp [h, h', h2]
      · have e : x = y := UInt8.le_antisymm (UInt8.not_lt.mp h') (UInt8.not_lt.mp h)
        subst e
        simp only [h, decide_false, Bool.false_or, BEq.rfl, Bool.true_and]
        rw [← ih]
        have : (x :: a == x :: b) = (a == b) := by simp [List.cons_beq_cons]
        rw [this]
@[go_sem] theorem binOp_gtr_turned (t : TypeId) (a b : ByteArray) : binOp .gtr t (.string a) (.string b) = pure (.bool (Op.bytesLess b.toList a.toList)) := by
  rw [← less_turned]
  simp [binOp, Op.stringOp]
@[go_sem] theorem binOp_leq_turned (t : TypeId) (a b : ByteArray) : binOp .leq t (.string a) (.string b) = pure (.bool !(Op.bytesLess b.toList a.toList)) := by
  rw [← less_turned]
  simp [binOp, Op.stringOp]
@[go_sem] theorem binOp_geq_turned (t : TypeId) (a b : ByteArray) : binOp .geq t (.string a) (.string b) = pure (.bool !(Op.bytesLess a.toList b.toList)) := by
  simp [binOp, Op.stringOp]
end Go.Proofs.YtpkjpiphjdpegaaDoor
