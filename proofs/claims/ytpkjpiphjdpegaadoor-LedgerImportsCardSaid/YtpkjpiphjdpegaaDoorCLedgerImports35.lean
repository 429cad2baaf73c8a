/- A program of this session wrote this text out of the session's own texts. (part 35 of 45) -/
import Derived.Test.YtpkjpiphjdpegaaDoorCLedgerImportsQ
import Derived.Test.YtpkjpiphjdpegaaDoorCLedgerImports24
import Derived.Test.YtpkjpiphjdpegaaDoorCLedgerImports26
import Derived.Test.YtpkjpiphjdpegaaDoorCLedgerImports34
import Derived.WalkMore
namespace Go.Proofs.YtpkjpiphjdpegaaDoor.P
open Go.RowKit Go.Shelf Go.Proofs.YtpkjpiphjdpegaaDoor.RF Go.Proofs.YtpkjpiphjdpegaaDoorW.PrintWords
attribute [local go_sem] Oper.semAt_some
set_option linter.unusedVariables false
set_option linter.unusedSimpArgs false
def ofX (x : S56) : ByteArray × Int × Int × Bool × Int := oneB x.f1.data.toList
def rowX (x : S56) : S44 := ⟨(ofX x).1, ⟨(ofX x).2.1, (ofX x).2.2.1⟩⟩
theorem line_mem : ∀ (L : List (List UInt8)) (n : Int) (x : S56), x ∈ linesL n L → ∃ m h, h ∈ L ∧ x = lineOf m h
 | [], n, x, h => by cases h
 | h :: L, n, x, hx => by
  rw [linesL] at hx
  rcases List.mem_cons.1 hx with rfl | hx
  ·exact ⟨n, h, List.mem_cons_self .., rfl⟩
  ·obtain ⟨m, g, hg, e⟩ := line_mem L (n + 1) x hx; exact ⟨m, g, List.mem_cons_of_mem _ hg, e⟩
theorem of_line (s : ByteArray) (hs : s.size ≤ 1000000000) (x : S56) (hx : x ∈ allL s) : row_Of.f x.f0 x.f1 x.f2 x.f3 = some (ofX x) := by
 obtain ⟨m, h, hh, rfl⟩ := line_mem _ _ _ hx; have e : s.data.toList.length = s.size := Array.length_toList; have := splitB_size _ h hh; show row_Of.f m (mk h) (kindOf h) (wrongOf h) = some (oneB h); exact of_is m h zv1
theorem callsIn_round {P : Program} {l n f : Nat} {args : Array Value} {w : World} {Q : Ending → World → Prop} (h : Calls P f args w Q) : CallsIn (Fence.wide.inRound l) n P f args w Q := callsIn_wide.2 h
end Go.Proofs.YtpkjpiphjdpegaaDoor.P
