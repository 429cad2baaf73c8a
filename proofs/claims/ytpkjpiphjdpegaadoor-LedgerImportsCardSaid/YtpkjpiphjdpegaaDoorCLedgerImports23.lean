/- A program of this session wrote this text out of the session's own texts. (part 23 of 45) -/
import Derived.Test.YtpkjpiphjdpegaaDoorCLedgerImports18
import Derived.Test.YtpkjpiphjdpegaaDoorCLedgerImports22
import Derived.Shelf.Abstract
import Derived.Shelf.RegionOpen
import Derived.WalkKit
import Derived.OwnWalkIn
import Derived.TacticsInMore
import Derived.LoopNIn
import Derived.LoopIn
import Derived.Maps.AppendAt
namespace Go.Proofs.YtpkjpiphjdpegaaDoor.P
open Go.RowKit Go.Shelf Go.Proofs.YtpkjpiphjdpegaaDoor.RF Go.Proofs.YtpkjpiphjdpegaaDoorW.PrintWords
attribute [local go_sem] Oper.semAt_some
set_option linter.unusedVariables false
set_option linter.unusedSimpArgs false
def lineV (x : S56) : Value := .agg #[.int .i64 x.f0, .string x.f1, .int .u8 x.f2, .int .i64 x.f3]
theorem gt_same {n₀ : Nat} {w W : World} (h : GT w) (hn : w.heap.size ≤ n₀) (hb : Below n₀ w W) : GT W := by
 exact gt_below h (hb.mono hn)
def KpE (n₀ Bx : Nat) (W W' : World) : Prop := Below n₀ W W' ∧ W'.heap[Bx]? = W.heap[Bx]?
def leftE (Bx : Nat) (W : World) : Nat := match W.cell? ⟨Bx, 0, none⟩ with | some (.string t) => t.size + 1 | _ => 0
set_option maxHeartbeats 1000000 in
theorem each_in (n : Nat) (s : ByteArray) (w : World) :
  CallsIn Fence.wide n Tryd.prog 38 #[.string s] w fun e w' => e = .returned (.func (.func 73) #[] #[.pointer (some ⟨w.heap.size, 0, none⟩)]) ∧ w' = w.alloc (.cells #[.string s] 9) := by
 refine callsIn_of_wp Tryd.func38 rfl trivial ?_ rfl; simp only [Tryd.ntmps38, List.size_toArray, List.length_cons, List.length_nil, Nat.reduceAdd, Nat.reduceSub, Array.replicate_succ, Array.replicate_zero, List.push_toArray, List.append_toArray, List.nil_append, List.cons_append]; gi_wp2; go_ret; exact ⟨rfl, rfl⟩
end Go.Proofs.YtpkjpiphjdpegaaDoor.P
