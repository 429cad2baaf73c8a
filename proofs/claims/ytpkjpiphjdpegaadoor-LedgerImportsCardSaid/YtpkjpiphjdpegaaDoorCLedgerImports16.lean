/- A program of this session wrote this text out of the session's own texts. (part 16 of 45) -/
import Derived.Test.YtpkjpiphjdpegaaDoorCLedgerImportsQ
import Derived.Test.YtpkjpiphjdpegaaDoorCLedgerImports4
import Derived.Test.YtpkjpiphjdpegaaDoorCLedgerImports15
import Derived.Lib.Walk
namespace Go.Proofs.YtpkjpiphjdpegaaDoor.Z
open Go.Shelf Go.RowKit Go.Lib Go.Sort Go.Proofs
set_option linter.unusedVariables false
set_option linter.unusedSimpArgs false
@[reducible] def inhS44 : Inhabited P.S44 := ⟨P.z44⟩
attribute [local instance] inhS44
def cfS (x y : ByteArray) : Int := if Op.bytesLess x.toList y.toList = true then -1 else if Op.bytesLess y.toList x.toList = true then 1 else 0
set_option maxHeartbeats 1000000 in
theorem isNaN_is (x : ByteArray) (w : World) : Calls Tryd.prog 96 #[.string x] w fun e w' => e = .returned (.bool false) ∧ w' = w := by
 go_enter Tryd.func96, Tryd.ntmps96; go_wp2; go_ret; exact ⟨by simp, rfl⟩
set_option maxHeartbeats 1000000 in
theorem compare_is (x y : ByteArray) (w : World) : Calls Tryd.prog 66 #[.string x, .string y] w fun e w' => e = .returned (.int .i64 (cfS x y)) ∧ w' = w := by
 have e96 : ∀ args w, (callFunc 96 args).run Tryd.prog w = .ok (.enter 96 args) w := enters_of Tryd.func96 (by kernel_rfl) rfl; unfold cfS; go_enter Tryd.func66, Tryd.ntmps66
 by_cases c1 : Op.bytesLess x.toList y.toList = true
 ·rw [if_pos c1]
  go_wp2_with (go_at_fn 96; refine (isNaN_is _ _).mono ?_; rintro e w' ⟨rfl, rfl⟩)
  go_ret; exact ⟨rfl, rfl⟩
 ·rw [if_neg c1]; have c1f : Op.bytesLess x.toList y.toList = false := by simpa using c1
  clear c1
  by_cases c2 : Op.bytesLess y.toList x.toList = true
  ·rw [if_pos c2]
   go_wp2_with (go_at_fn 96; refine (isNaN_is _ _).mono ?_; rintro e w' ⟨rfl, rfl⟩)
   go_ret; exact ⟨rfl, rfl⟩
  ·rw [if_neg c2]; have c2f : Op.bytesLess y.toList x.toList = false := by simpa using c2
   clear c2
   go_wp2_with (go_at_fn 96; refine (isNaN_is _ _).mono ?_; rintro e w' ⟨rfl, rfl⟩)
   go_ret; exact ⟨rfl, rfl⟩
def encS44 (x : P.S44 × Nat) : List Value := [.string x.1.f0, .int .u64 x.1.f1.f0, .int .u64 x.1.f1.f1]
set_option maxHeartbeats 1000000 in
theorem closure_is (x y : P.S44 × Nat) (W : World) : Calls Tryd.prog 65 #[.agg #[.string x.1.f0, .int .u64 x.1.f1.f0, .int .u64 x.1.f1.f1], .agg #[.string y.1.f0, .int .u64 y.1.f1.f0, .int .u64 y.1.f1.f1]] W fun e w' => e = .returned (.int .i64 (cfS x.1.f0 y.1.f0)) ∧ ∃ q os', w' = grow (W.drewN q) os' := by
 have hcon := compare_is x.1.f0 y.1.f0; have e66 : ∀ args w, (callFunc 66 args).run Tryd.prog w = .ok (.enter 66 args) w := enters_of Tryd.func66 (by kernel_rfl) rfl; generalize cfS x.1.f0 y.1.f0 = r at hcon ⊢; go_enter Tryd.func65, Tryd.ntmps65
 go_wp2_with (go_at_fn 66; refine (hcon _).mono ?_; rintro e w' ⟨rfl, rfl⟩)
 go_ret; exact ⟨rfl, 0, _, (by rw [alloc_eq_grow, alloc_eq_grow, grow_grow]; rfl)⟩
theorem cmpLays (blk off size : Nat) (w : World) : CmpLays Tryd.prog 65 #[] encS44 3 (fun x y => cfS x.1.f0 y.1.f0) blk off size w :=
 fun _ _ _ _ x y => closure_is x y _
def rowKey (x : P.S44) : List UInt8 := x.f0.toList
theorem cf_key (x y : P.S44 × Nat) : cfS x.1.f0 y.1.f0 < 0 ↔ Op.bytesLess (rowKey x.1) (rowKey y.1) = true := by
 unfold cfS rowKey
 by_cases c1 : Op.bytesLess x.1.f0.toList y.1.f0.toList = true
 ·rw [if_pos c1]; exact ⟨fun _ => c1, fun _ => by decide⟩
 ·rw [if_neg c1]; refine ⟨fun h => ?_, fun h => absurd h c1⟩
  split at h <;> exact absurd h zvz
end Go.Proofs.YtpkjpiphjdpegaaDoor.Z
