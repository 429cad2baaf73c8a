/- A program of this session wrote this text out of the session's own texts. (part 5 of 5) -/
import Derived.Test.YtpkjpiphjdpegaaCWideAdds4
namespace Go.Proofs.Ytpkjpiphjdpegaa.P
open Go.RowKit Go.Proofs.YtpkjpiphjdpegaaW.PrintWords Go.Proofs.YtpkjpiphjdpegaaW.PrintLast Go.Proofs.YtpkjpiphjdpegaaW.PrintMore
attribute [local go_sem] max2_int min2_int max_two min_two max_three min_three max_four min_four
set_option linter.unusedVariables false
set_option linter.unusedSimpArgs false
attribute [local go_sem high] eqA25 eqA27
def paymasterlaw03_WideAdds.f (k : Nat) (a0_0 : Int) (a0_1 : Int) (a0_2 : Int) (a1_0 : Int) (a1_1 : Int) (a1_2 : Int) (a2_0 : Int) (a2_1 : Int) : Option (Bool) := (wide_Wide_Narrow.f a0_0 a0_1 a0_2).bind fun bt440 => ((paymasterref03_Narrow.f a0_0 a0_1 a0_2).bind fun bt444 => ((wide_Of.f a2_0 a2_1).bind fun bt448 => ((paymasterref03_Of.f a2_0 a2_1).bind fun bt451 => (if (!(bt448.1 == bt451.1) || ((!(bt448.2.1 == bt451.2.1) || (!(bt448.2.2 == bt451.2.2))))) = true then (none) else ((wide_Wide_Plus.f a0_0 a0_1 a0_2 a2_0 a2_1).bind fun bt454 => ((paymasterref03_Plus.f k a0_0 a0_1 a0_2 a2_0 a2_1).bind fun bt457 => (if (!(bt454.1 == bt457.1) || ((!(bt454.2.1 == bt457.2.1) || (!(bt454.2.2 == bt457.2.2))))) = true then (none) else ((wide_Wide_And.f a0_0 a0_1 a0_2 a1_0 a1_1 a1_2).bind fun bt460 => ((paymasterref03_And.f k a0_0 a0_1 a0_2 a1_0 a1_1 a1_2).bind fun bt463 => (if (!(bt460.1 == bt463.1) || ((!(bt460.2.1 == bt463.2.1) || (!(bt460.2.2 == bt463.2.2))))) = true then (none) else ((wide_Wide_Cmp.f k a0_0 a0_1 a0_2 a1_0 a1_1 a1_2).bind fun t474 => ((paymasterref03_Cmp.f k a0_0 a0_1 a0_2 a1_0 a1_1 a1_2).bind fun t475 => (if t474 = t475 then ((wide_Less.f k a0_0 a0_1 a0_2 a1_0 a1_1 a1_2).bind fun t476 => ((paymasterref03_Less.f k a0_0 a0_1 a0_2 a1_0 a1_1 a1_2).bind fun t477 => (if (t476 == t477) = true then (if (bt440.1 == bt444.1 && (bt440.2.1 == bt444.2.1)) = true then (some (bt440.2.2 == bt444.2.2)) else (none)) else (none)))) else (none))))))))))))))
def paymasterlaw03_WideAdds.T3 : Bool × List (List Nat × List Nat) := (true, [([], []), ([0], [0]), ([], []), ([2, 1], [2]), ([1, 3], [1, 3]), ([4, 3], [4]), ([5], [5]), ([5], [5]), ([6, 7, 5, 5], [5, 6, 7]), ([5], [5]), ([5], [5]), ([9, 10, 8, 5], [5, 9, 10]), ([8, 11, 5], [5, 8, 11]), ([5, 12], [5, 12]), ([13, 11], [13]), ([14], [14]), ([14], [14]), ([15, 16, 14, 14], [14, 15, 16]), ([14], [14]), ([14], [14]), ([18, 19, 17, 14], [14, 18, 19]), ([17, 20, 14], [14, 17, 20]), ([14, 21], [14, 21])])
def paymasterlaw03_WideAdds.B3 : List Nat := [0, 1, 0, 7, 15, 31, 63, 63, 255, 63, 63, 2047, 4095, 8191, 16383, 32767, 32767, 131071, 32767, 32767, 1048575, 2097151, 4194303]
theorem paymasterlaw03_WideAdds.tab3 : rtab .any (opsOf Try.f5 3) = paymasterlaw03_WideAdds.T3 := by kernel_rfl
theorem paymasterlaw03_WideAdds.bits3 : waitsOk paymasterlaw03_WideAdds.T3.2 paymasterlaw03_WideAdds.B3 = true := by kernel_rfl
def paymasterlaw03_WideAdds.T5 : Bool × List (List Nat × List Nat) := (true, [([], []), ([], []), ([0, 1], [0, 1]), ([], []), ([], []), ([3, 4, 2], [3, 4]), ([2, 5], [2, 5]), ([6, 5], [6]), ([7], [7]), ([7], [7]), ([8, 9, 7, 7], [7, 8, 9]), ([7], [7]), ([7], [7]), ([11, 12, 10, 7], [7, 11, 12]), ([10, 13, 7], [7, 10, 13]), ([7, 14], [7, 14]), ([15, 13], [15]), ([16], [16]), ([16], [16]), ([17, 18, 16], [16, 17, 18]), ([16, 19], [16, 19]), ([20, 16], [20]), ([21], [21]), ([21], [21]), ([22, 23, 21], [21, 22, 23]), ([21, 24], [21, 24]), ([25, 21, 0, 1, 2, 3, 4, 5, 6, 7, 8, 9, 10, 11, 12, 13, 14, 15, 16, 17, 18, 19, 20, 21, 22, 23, 24, 25], [25])])
def paymasterlaw03_WideAdds.B5 : List Nat := [0, 0, 3, 0, 0, 31, 63, 127, 255, 255, 1023, 255, 255, 8191, 16383, 32767, 65535, 131071, 131071, 524287, 1048575, 2097151, 4194303, 4194303, 16777215, 33554431, 67108863]
theorem paymasterlaw03_WideAdds.tab5 : rtab .any (opsOf Try.f5 5) = paymasterlaw03_WideAdds.T5 := by kernel_rfl
theorem paymasterlaw03_WideAdds.bits5 : waitsOk paymasterlaw03_WideAdds.T5.2 paymasterlaw03_WideAdds.B5 = true := by kernel_rfl
set_option maxHeartbeats 8000000 in
set_option maxRecDepth 100000 in
theorem paymasterlaw03_WideAdds.calls (k : Nat) (a0_0 : Int) (a0_1 : Int) (a0_2 : Int) (a1_0 : Int) (a1_1 : Int) (a1_2 : Int) (a2_0 : Int) (a2_1 : Int) (r : Bool) (w : World) (h : paymasterlaw03_WideAdds.f k a0_0 a0_1 a0_2 a1_0 a1_1 a1_2 a2_0 a2_1 = some r) :
    Calls Try.prog 5 #[.agg #[.int .u64 a0_0, .int .u64 a0_1, .int .u64 a0_2], .agg #[.int .u64 a1_0, .int .u64 a1_1, .int .u64 a1_2], .agg #[.int .u64 a2_0, .int .u64 a2_1]] w fun e w' => e = .returned (.bool r) ∧ Below w.heap.size w w' := by
  have hu27 := Try.underlying27
  have hu25 := Try.underlying25
  have HB := Aside0.mk (Below.refl w.heap.size w)
  have H : ((wide_Wide_Narrow.f a0_0 a0_1 a0_2).bind fun bt440 => ((paymasterref03_Narrow.f a0_0 a0_1 a0_2).bind fun bt444 => ((wide_Of.f a2_0 a2_1).bind fun bt448 => ((paymasterref03_Of.f a2_0 a2_1).bind fun bt451 => (if (!(bt448.1 == bt451.1) || ((!(bt448.2.1 == bt451.2.1) || (!(bt448.2.2 == bt451.2.2))))) = true then (none) else ((wide_Wide_Plus.f a0_0 a0_1 a0_2 a2_0 a2_1).bind fun bt454 => ((paymasterref03_Plus.f k a0_0 a0_1 a0_2 a2_0 a2_1).bind fun bt457 => (if (!(bt454.1 == bt457.1) || ((!(bt454.2.1 == bt457.2.1) || (!(bt454.2.2 == bt457.2.2))))) = true then (none) else ((wide_Wide_And.f a0_0 a0_1 a0_2 a1_0 a1_1 a1_2).bind fun bt460 => ((paymasterref03_And.f k a0_0 a0_1 a0_2 a1_0 a1_1 a1_2).bind fun bt463 => (if (!(bt460.1 == bt463.1) || ((!(bt460.2.1 == bt463.2.1) || (!(bt460.2.2 == bt463.2.2))))) = true then (none) else ((wide_Wide_Cmp.f k a0_0 a0_1 a0_2 a1_0 a1_1 a1_2).bind fun t474 => ((paymasterref03_Cmp.f k a0_0 a0_1 a0_2 a1_0 a1_1 a1_2).bind fun t475 => (if t474 = t475 then ((wide_Less.f k a0_0 a0_1 a0_2 a1_0 a1_1 a1_2).bind fun t476 => ((paymasterref03_Less.f k a0_0 a0_1 a0_2 a1_0 a1_1 a1_2).bind fun t477 => (if (t476 == t477) = true then (if (bt440.1 == bt444.1 && (bt440.2.1 == bt444.2.1)) = true then (some (bt440.2.2 == bt444.2.2)) else (none)) else (none)))) else (none))))))))))))))) = some r := h
  clear h
  replace H := Option.bind_eq_some_iff.mp H
  obtain ⟨⟨t440, t441, t442⟩, A40, H⟩ := H
  replace H : ((paymasterref03_Narrow.f a0_0 a0_1 a0_2).bind fun bt444 => ((wide_Of.f a2_0 a2_1).bind fun bt448 => ((paymasterref03_Of.f a2_0 a2_1).bind fun bt451 => (if (!(bt448.1 == bt451.1) || ((!(bt448.2.1 == bt451.2.1) || (!(bt448.2.2 == bt451.2.2))))) = true then (none) else ((wide_Wide_Plus.f a0_0 a0_1 a0_2 a2_0 a2_1).bind fun bt454 => ((paymasterref03_Plus.f k a0_0 a0_1 a0_2 a2_0 a2_1).bind fun bt457 => (if (!(bt454.1 == bt457.1) || ((!(bt454.2.1 == bt457.2.1) || (!(bt454.2.2 == bt457.2.2))))) = true then (none) else ((wide_Wide_And.f a0_0 a0_1 a0_2 a1_0 a1_1 a1_2).bind fun bt460 => ((paymasterref03_And.f k a0_0 a0_1 a0_2 a1_0 a1_1 a1_2).bind fun bt463 => (if (!(bt460.1 == bt463.1) || ((!(bt460.2.1 == bt463.2.1) || (!(bt460.2.2 == bt463.2.2))))) = true then (none) else ((wide_Wide_Cmp.f k a0_0 a0_1 a0_2 a1_0 a1_1 a1_2).bind fun t474 => ((paymasterref03_Cmp.f k a0_0 a0_1 a0_2 a1_0 a1_1 a1_2).bind fun t475 => (if t474 = t475 then ((wide_Less.f k a0_0 a0_1 a0_2 a1_0 a1_1 a1_2).bind fun t476 => ((paymasterref03_Less.f k a0_0 a0_1 a0_2 a1_0 a1_1 a1_2).bind fun t477 => (if (t476 == t477) = true then (if (t440 == bt444.1 && (t441 == bt444.2.1)) = true then (some (t442 == bt444.2.2)) else (none)) else (none)))) else (none)))))))))))))) = some r := H
  have A4 := Aside0.mk A40
  clear A40
  replace H := Option.bind_eq_some_iff.mp H
  obtain ⟨⟨t444, t445, t446⟩, A50, H⟩ := H
  replace H : ((wide_Of.f a2_0 a2_1).bind fun bt448 => ((paymasterref03_Of.f a2_0 a2_1).bind fun bt451 => (if (!(bt448.1 == bt451.1) || ((!(bt448.2.1 == bt451.2.1) || (!(bt448.2.2 == bt451.2.2))))) = true then (none) else ((wide_Wide_Plus.f a0_0 a0_1 a0_2 a2_0 a2_1).bind fun bt454 => ((paymasterref03_Plus.f k a0_0 a0_1 a0_2 a2_0 a2_1).bind fun bt457 => (if (!(bt454.1 == bt457.1) || ((!(bt454.2.1 == bt457.2.1) || (!(bt454.2.2 == bt457.2.2))))) = true then (none) else ((wide_Wide_And.f a0_0 a0_1 a0_2 a1_0 a1_1 a1_2).bind fun bt460 => ((paymasterref03_And.f k a0_0 a0_1 a0_2 a1_0 a1_1 a1_2).bind fun bt463 => (if (!(bt460.1 == bt463.1) || ((!(bt460.2.1 == bt463.2.1) || (!(bt460.2.2 == bt463.2.2))))) = true then (none) else ((wide_Wide_Cmp.f k a0_0 a0_1 a0_2 a1_0 a1_1 a1_2).bind fun t474 => ((paymasterref03_Cmp.f k a0_0 a0_1 a0_2 a1_0 a1_1 a1_2).bind fun t475 => (if t474 = t475 then ((wide_Less.f k a0_0 a0_1 a0_2 a1_0 a1_1 a1_2).bind fun t476 => ((paymasterref03_Less.f k a0_0 a0_1 a0_2 a1_0 a1_1 a1_2).bind fun t477 => (if (t476 == t477) = true then (if (t440 == t444 && (t441 == t445)) = true then (some (t442 == t446)) else (none)) else (none)))) else (none))))))))))))) = some r := H
  have A5 := Aside0.mk A50
  clear A50
  replace H := Option.bind_eq_some_iff.mp H
  obtain ⟨⟨t448, t449, t450⟩, A60, H⟩ := H
  replace H : ((paymasterref03_Of.f a2_0 a2_1).bind fun bt451 => (if (!(t448 == bt451.1) || ((!(t449 == bt451.2.1) || (!(t450 == bt451.2.2))))) = true then (none) else ((wide_Wide_Plus.f a0_0 a0_1 a0_2 a2_0 a2_1).bind fun bt454 => ((paymasterref03_Plus.f k a0_0 a0_1 a0_2 a2_0 a2_1).bind fun bt457 => (if (!(bt454.1 == bt457.1) || ((!(bt454.2.1 == bt457.2.1) || (!(bt454.2.2 == bt457.2.2))))) = true then (none) else ((wide_Wide_And.f a0_0 a0_1 a0_2 a1_0 a1_1 a1_2).bind fun bt460 => ((paymasterref03_And.f k a0_0 a0_1 a0_2 a1_0 a1_1 a1_2).bind fun bt463 => (if (!(bt460.1 == bt463.1) || ((!(bt460.2.1 == bt463.2.1) || (!(bt460.2.2 == bt463.2.2))))) = true then (none) else ((wide_Wide_Cmp.f k a0_0 a0_1 a0_2 a1_0 a1_1 a1_2).bind fun t474 => ((paymasterref03_Cmp.f k a0_0 a0_1 a0_2 a1_0 a1_1 a1_2).bind fun t475 => (if t474 = t475 then ((wide_Less.f k a0_0 a0_1 a0_2 a1_0 a1_1 a1_2).bind fun t476 => ((paymasterref03_Less.f k a0_0 a0_1 a0_2 a1_0 a1_1 a1_2).bind fun t477 => (if (t476 == t477) = true then (if (t440 == t444 && (t441 == t445)) = true then (some (t442 == t446)) else (none)) else (none)))) else (none)))))))))))) = some r := H
  have A6 := Aside0.mk A60
  clear A60
  replace H := Option.bind_eq_some_iff.mp H
  obtain ⟨⟨t451, t452, t453⟩, A70, H⟩ := H
  replace H : (if (!(t448 == t451) || ((!(t449 == t452) || (!(t450 == t453))))) = true then (none) else ((wide_Wide_Plus.f a0_0 a0_1 a0_2 a2_0 a2_1).bind fun bt454 => ((paymasterref03_Plus.f k a0_0 a0_1 a0_2 a2_0 a2_1).bind fun bt457 => (if (!(bt454.1 == bt457.1) || ((!(bt454.2.1 == bt457.2.1) || (!(bt454.2.2 == bt457.2.2))))) = true then (none) else ((wide_Wide_And.f a0_0 a0_1 a0_2 a1_0 a1_1 a1_2).bind fun bt460 => ((paymasterref03_And.f k a0_0 a0_1 a0_2 a1_0 a1_1 a1_2).bind fun bt463 => (if (!(bt460.1 == bt463.1) || ((!(bt460.2.1 == bt463.2.1) || (!(bt460.2.2 == bt463.2.2))))) = true then (none) else ((wide_Wide_Cmp.f k a0_0 a0_1 a0_2 a1_0 a1_1 a1_2).bind fun t474 => ((paymasterref03_Cmp.f k a0_0 a0_1 a0_2 a1_0 a1_1 a1_2).bind fun t475 => (if t474 = t475 then ((wide_Less.f k a0_0 a0_1 a0_2 a1_0 a1_1 a1_2).bind fun t476 => ((paymasterref03_Less.f k a0_0 a0_1 a0_2 a1_0 a1_1 a1_2).bind fun t477 => (if (t476 == t477) = true then (if (t440 == t444 && (t441 == t445)) = true then (some (t442 == t446)) else (none)) else (none)))) else (none))))))))))) = some r := H
  have A7 := Aside0.mk A70
  clear A70
  by_cases c8 : (!(t448 == t451) || ((!(t449 == t452) || (!(t450 == t453))))) = true
  · rw [if_pos c8] at H
    have c8b0 : (!(t448 == t451) || ((!(t449 == t452) || (!(t450 == t453))))) = true := c8
    clear c8
    exact absurd H (by simp)
  · rw [if_neg c8] at H
    have c8b0 : (!(t448 == t451) || ((!(t449 == t452) || (!(t450 == t453))))) = false := by simpa using c8
    clear c8
    replace H := Option.bind_eq_some_iff.mp H
    obtain ⟨⟨t454, t455, t456⟩, A90, H⟩ := H
    replace H : ((paymasterref03_Plus.f k a0_0 a0_1 a0_2 a2_0 a2_1).bind fun bt457 => (if (!(t454 == bt457.1) || ((!(t455 == bt457.2.1) || (!(t456 == bt457.2.2))))) = true then (none) else ((wide_Wide_And.f a0_0 a0_1 a0_2 a1_0 a1_1 a1_2).bind fun bt460 => ((paymasterref03_And.f k a0_0 a0_1 a0_2 a1_0 a1_1 a1_2).bind fun bt463 => (if (!(bt460.1 == bt463.1) || ((!(bt460.2.1 == bt463.2.1) || (!(bt460.2.2 == bt463.2.2))))) = true then (none) else ((wide_Wide_Cmp.f k a0_0 a0_1 a0_2 a1_0 a1_1 a1_2).bind fun t474 => ((paymasterref03_Cmp.f k a0_0 a0_1 a0_2 a1_0 a1_1 a1_2).bind fun t475 => (if t474 = t475 then ((wide_Less.f k a0_0 a0_1 a0_2 a1_0 a1_1 a1_2).bind fun t476 => ((paymasterref03_Less.f k a0_0 a0_1 a0_2 a1_0 a1_1 a1_2).bind fun t477 => (if (t476 == t477) = true then (if (t440 == t444 && (t441 == t445)) = true then (some (t442 == t446)) else (none)) else (none)))) else (none))))))))) = some r := H
    have A9 := Aside0.mk A90
    clear A90
    replace H := Option.bind_eq_some_iff.mp H
    obtain ⟨⟨t457, t458, t459⟩, A100, H⟩ := H
    replace H : (if (!(t454 == t457) || ((!(t455 == t458) || (!(t456 == t459))))) = true then (none) else ((wide_Wide_And.f a0_0 a0_1 a0_2 a1_0 a1_1 a1_2).bind fun bt460 => ((paymasterref03_And.f k a0_0 a0_1 a0_2 a1_0 a1_1 a1_2).bind fun bt463 => (if (!(bt460.1 == bt463.1) || ((!(bt460.2.1 == bt463.2.1) || (!(bt460.2.2 == bt463.2.2))))) = true then (none) else ((wide_Wide_Cmp.f k a0_0 a0_1 a0_2 a1_0 a1_1 a1_2).bind fun t474 => ((paymasterref03_Cmp.f k a0_0 a0_1 a0_2 a1_0 a1_1 a1_2).bind fun t475 => (if t474 = t475 then ((wide_Less.f k a0_0 a0_1 a0_2 a1_0 a1_1 a1_2).bind fun t476 => ((paymasterref03_Less.f k a0_0 a0_1 a0_2 a1_0 a1_1 a1_2).bind fun t477 => (if (t476 == t477) = true then (if (t440 == t444 && (t441 == t445)) = true then (some (t442 == t446)) else (none)) else (none)))) else (none)))))))) = some r := H
    have A10 := Aside0.mk A100
    clear A100
    by_cases c11 : (!(t454 == t457) || ((!(t455 == t458) || (!(t456 == t459))))) = true
    · rw [if_pos c11] at H
      have c11b0 : (!(t454 == t457) || ((!(t455 == t458) || (!(t456 == t459))))) = true := c11
      clear c11
      exact absurd H (by simp)
    · rw [if_neg c11] at H
      have c11b0 : (!(t454 == t457) || ((!(t455 == t458) || (!(t456 == t459))))) = false := by simpa using c11
      clear c11
      replace H := Option.bind_eq_some_iff.mp H
      obtain ⟨⟨t460, t461, t462⟩, A120, H⟩ := H
      replace H : ((paymasterref03_And.f k a0_0 a0_1 a0_2 a1_0 a1_1 a1_2).bind fun bt463 => (if (!(t460 == bt463.1) || ((!(t461 == bt463.2.1) || (!(t462 == bt463.2.2))))) = true then (none) else ((wide_Wide_Cmp.f k a0_0 a0_1 a0_2 a1_0 a1_1 a1_2).bind fun t474 => ((paymasterref03_Cmp.f k a0_0 a0_1 a0_2 a1_0 a1_1 a1_2).bind fun t475 => (if t474 = t475 then ((wide_Less.f k a0_0 a0_1 a0_2 a1_0 a1_1 a1_2).bind fun t476 => ((paymasterref03_Less.f k a0_0 a0_1 a0_2 a1_0 a1_1 a1_2).bind fun t477 => (if (t476 == t477) = true then (if (t440 == t444 && (t441 == t445)) = true then (some (t442 == t446)) else (none)) else (none)))) else (none)))))) = some r := H
      have A12 := Aside0.mk A120
      clear A120
      replace H := Option.bind_eq_some_iff.mp H
      obtain ⟨⟨t463, t464, t465⟩, A130, H⟩ := H
      replace H : (if (!(t460 == t463) || ((!(t461 == t464) || (!(t462 == t465))))) = true then (none) else ((wide_Wide_Cmp.f k a0_0 a0_1 a0_2 a1_0 a1_1 a1_2).bind fun t474 => ((paymasterref03_Cmp.f k a0_0 a0_1 a0_2 a1_0 a1_1 a1_2).bind fun t475 => (if t474 = t475 then ((wide_Less.f k a0_0 a0_1 a0_2 a1_0 a1_1 a1_2).bind fun t476 => ((paymasterref03_Less.f k a0_0 a0_1 a0_2 a1_0 a1_1 a1_2).bind fun t477 => (if (t476 == t477) = true then (if (t440 == t444 && (t441 == t445)) = true then (some (t442 == t446)) else (none)) else (none)))) else (none))))) = some r := H
      have A13 := Aside0.mk A130
      clear A130
      by_cases c14 : (!(t460 == t463) || ((!(t461 == t464) || (!(t462 == t465))))) = true
      · rw [if_pos c14] at H
        exact absurd H (by simp)
      · rw [if_neg c14] at H
        have c14b0 : (!(t460 == t463) || ((!(t461 == t464) || (!(t462 == t465))))) = false := by simpa using c14
        clear c14
        replace H := Option.bind_eq_some_iff.mp H
        obtain ⟨t474, A150, H⟩ := H
        replace H : ((paymasterref03_Cmp.f k a0_0 a0_1 a0_2 a1_0 a1_1 a1_2).bind fun t475 => (if t474 = t475 then ((wide_Less.f k a0_0 a0_1 a0_2 a1_0 a1_1 a1_2).bind fun t476 => ((paymasterref03_Less.f k a0_0 a0_1 a0_2 a1_0 a1_1 a1_2).bind fun t477 => (if (t476 == t477) = true then (if (t440 == t444 && (t441 == t445)) = true then (some (t442 == t446)) else (none)) else (none)))) else (none))) = some r := H
        have A15 := Aside0.mk A150
        clear A150
        replace H := Option.bind_eq_some_iff.mp H
        obtain ⟨t475, A160, H⟩ := H
        replace H : (if t474 = t475 then ((wide_Less.f k a0_0 a0_1 a0_2 a1_0 a1_1 a1_2).bind fun t476 => ((paymasterref03_Less.f k a0_0 a0_1 a0_2 a1_0 a1_1 a1_2).bind fun t477 => (if (t476 == t477) = true then (if (t440 == t444 && (t441 == t445)) = true then (some (t442 == t446)) else (none)) else (none)))) else (none)) = some r := H
        have A16 := Aside0.mk A160
        clear A160
        by_cases c17 : t474 = t475
        · rw [if_pos c17] at H
          have c17b0 : (t474 == t475) = true := beq_iff_eq.mpr c17
          have c17b1 : (t474 != t475) = false := bne_eq_false_iff_eq.mpr c17
          clear c17
          replace H := Option.bind_eq_some_iff.mp H
          obtain ⟨t476, A180, H⟩ := H
          replace H : ((paymasterref03_Less.f k a0_0 a0_1 a0_2 a1_0 a1_1 a1_2).bind fun t477 => (if (t476 == t477) = true then (if (t440 == t444 && (t441 == t445)) = true then (some (t442 == t446)) else (none)) else (none))) = some r := H
          have A18 := Aside0.mk A180
          clear A180
          replace H := Option.bind_eq_some_iff.mp H
          obtain ⟨t477, A190, H⟩ := H
          replace H : (if (t476 == t477) = true then (if (t440 == t444 && (t441 == t445)) = true then (some (t442 == t446)) else (none)) else (none)) = some r := H
          have A19 := Aside0.mk A190
          clear A190
          by_cases c20 : (t476 == t477) = true
          · rw [if_pos c20] at H
            have c20b0 : (t476 == t477) = true := c20
            (try (have c20b1 : decide (t476 = t477) = true := by simpa using c20))
            (try (have c20b2 : (t476 == t477) = true := by simpa using c20))
            clear c20
            by_cases c21 : (t440 == t444 && (t441 == t445)) = true
            · rw [if_pos c21] at H
              have c21b0 : (t440 == t444 && (t441 == t445)) = true := c21
              (try (have c21b1 : decide (t440 = t444 && (t441 == t445)) = true := by simpa using c21))
              (try (have c21b2 : (t440 == t444 && (t441 == t445)) = true := by simpa using c21))
              clear c21
              obtain rfl := Option.some.inj H
              go_enter Try.func5, Try.ntmps5
              try go_wp2_with (first | ((with_reducible refine gate_dst (N := 3) rfl ?_); refine box_event ?hg (N := 3) ?hd (cs := #[.int .u64 a0_0, .int .u64 a0_1, .int .u64 a0_2]) (t := 27) ?hr ?_; (case hd => rfl); (case hg => rfl); (case hr => first | (go_simp; done) | (go_simp; rfl)); intro gb437 hg w22 hbox hb; have n0_ := Aside0.mk (below_step (by repeat (first | (with_reducible first | exact HB.out | apply below_alloc | apply pw_below_drewN | apply below_drew1) | exact HB.out)) hb); have n1_ := Aside0.mk (hbox); have n2_ := Aside0.mk ((by rw [hg]; exact (below_size (by repeat (first | (with_reducible first | exact HB.out | apply below_alloc | apply pw_below_drewN | apply below_drew1) | exact HB.out))) : w.heap.size ≤ gb437)); have n3_ := Aside0.mk ((by rw [hg]; exact (below_size (by repeat (first | (with_reducible first | exact HB.out | apply below_alloc | apply pw_below_drewN | apply below_drew1) | exact HB.out))) : w.heap.size ≤ gb437)); clear HB; have HB := n0_; have BK437 := n1_; have GW437 := n2_; have GE437 := n3_; clear n0_ n1_ n2_ n3_; clear hb hbox hg) | ((with_reducible refine gate_dst (N := 4) rfl ?_); refine box_event ?hg (N := 4) ?hd (cs := #[.int .u64 a1_0, .int .u64 a1_1, .int .u64 a1_2]) (t := 27) ?hr ?_; (case hd => rfl); (case hg => rfl); (case hr => first | (go_simp; done) | (go_simp; rfl)); intro gb438 hg w23 hbox hb; have n0_ := Aside0.mk (blk_below (g := gb437) (o := .cells #[.int .u64 a0_0, .int .u64 a0_1, .int .u64 a0_2] 27 (0, 0)) (by (with_reducible repeat (first | refine blk_drewN ?_ _ | refine blk_drew ?_ | refine blk_alloc ?_ _)); exact BK437.out) hb); have n1_ := Aside0.mk (below_step (by repeat (first | (with_reducible first | exact HB.out | apply below_alloc | apply pw_below_drewN | apply below_drew1 | refine below_set ?_ GE437.out) | exact HB.out)) hb); have n2_ := Aside0.mk (hbox); have n3_ := Aside0.mk ((by rw [hg]; exact (below_size (by repeat (first | (with_reducible first | exact HB.out | apply below_alloc | apply pw_below_drewN | apply below_drew1 | refine below_set ?_ GE437.out) | exact HB.out))) : w.heap.size ≤ gb438)); have n4_ := Aside0.mk ((by rw [hg]; exact (below_size (by repeat (first | (with_reducible first | exact HB.out | apply below_alloc | apply pw_below_drewN | apply below_drew1 | refine below_set ?_ GE437.out) | exact HB.out))) : w.heap.size ≤ gb438)); have n5_ := Aside0.mk ((by rw [hg]; exact Nat.ne_of_lt (blk_lt (g := gb437) (o := .cells #[.int .u64 a0_0, .int .u64 a0_1, .int .u64 a0_2] 27 (0, 0)) (by (with_reducible repeat (first | refine blk_drewN ?_ _ | refine blk_drew ?_ | refine blk_alloc ?_ _)); exact BK437.out)) : gb437 ≠ gb438)); have n6_ := Aside0.mk ((by rw [hg]; exact Nat.ne_of_gt (blk_lt (g := gb437) (o := .cells #[.int .u64 a0_0, .int .u64 a0_1, .int .u64 a0_2] 27 (0, 0)) (by (with_reducible repeat (first | refine blk_drewN ?_ _ | refine blk_drew ?_ | refine blk_alloc ?_ _)); exact BK437.out)) : gb438 ≠ gb437)); clear BK437; clear HB; have BK437 := n0_; have HB := n1_; have BK438 := n2_; have GW438 := n3_; have GE438 := n4_; have NB437_438 := n5_; have NB438_437 := n6_; clear n0_ n1_ n2_ n3_ n4_ n5_ n6_; clear hb hbox hg) | ((with_reducible refine gate_dst (N := 5) rfl ?_); refine box_event ?hg (N := 5) ?hd (cs := #[.int .u64 a2_0, .int .u64 a2_1]) (t := 25) ?hr ?_; (case hd => rfl); (case hg => rfl); (case hr => first | (go_simp; done) | (go_simp; rfl)); intro gb439 hg w24 hbox hb; have n0_ := Aside0.mk (blk_below (g := gb437) (o := .cells #[.int .u64 a0_0, .int .u64 a0_1, .int .u64 a0_2] 27 (0, 0)) (by (with_reducible repeat (first | refine blk_drewN ?_ _ | refine blk_drew ?_ | refine blk_alloc ?_ _)); exact BK437.out) hb); have n1_ := Aside0.mk (blk_below (g := gb438) (o := .cells #[.int .u64 a1_0, .int .u64 a1_1, .int .u64 a1_2] 27 (0, 0)) (by (with_reducible repeat (first | refine blk_drewN ?_ _ | refine blk_drew ?_ | refine blk_alloc ?_ _)); exact BK438.out) hb); have n2_ := Aside0.mk (below_step (by repeat (first | (with_reducible first | exact HB.out | apply below_alloc | apply pw_below_drewN | apply below_drew1 | refine below_set ?_ GE437.out | refine below_set ?_ GE438.out) | exact HB.out)) hb); have n3_ := Aside0.mk (hbox); have n4_ := Aside0.mk ((by rw [hg]; exact (below_size (by repeat (first | (with_reducible first | exact HB.out | apply below_alloc | apply pw_below_drewN | apply below_drew1 | refine below_set ?_ GE437.out | refine below_set ?_ GE438.out) | exact HB.out))) : w.heap.size ≤ gb439)); have n5_ := Aside0.mk ((by rw [hg]; exact (below_size (by repeat (first | (with_reducible first | exact HB.out | apply below_alloc | apply pw_below_drewN | apply below_drew1 | refine below_set ?_ GE437.out | refine below_set ?_ GE438.out) | exact HB.out))) : w.heap.size ≤ gb439)); have n6_ := Aside0.mk ((by rw [hg]; exact Nat.ne_of_lt (blk_lt (g := gb437) (o := .cells #[.int .u64 a0_0, .int .u64 a0_1, .int .u64 a0_2] 27 (0, 0)) (by (with_reducible repeat (first | refine blk_drewN ?_ _ | refine blk_drew ?_ | refine blk_alloc ?_ _)); exact BK437.out)) : gb437 ≠ gb439)); have n7_ := Aside0.mk ((by rw [hg]; exact Nat.ne_of_gt (blk_lt (g := gb437) (o := .cells #[.int .u64 a0_0, .int .u64 a0_1, .int .u64 a0_2] 27 (0, 0)) (by (with_reducible repeat (first | refine blk_drewN ?_ _ | refine blk_drew ?_ | refine blk_alloc ?_ _)); exact BK437.out)) : gb439 ≠ gb437)); have n8_ := Aside0.mk ((by rw [hg]; exact Nat.ne_of_lt (blk_lt (g := gb438) (o := .cells #[.int .u64 a1_0, .int .u64 a1_1, .int .u64 a1_2] 27 (0, 0)) (by (with_reducible repeat (first | refine blk_drewN ?_ _ | refine blk_drew ?_ | refine blk_alloc ?_ _)); exact BK438.out)) : gb438 ≠ gb439)); have n9_ := Aside0.mk ((by rw [hg]; exact Nat.ne_of_gt (blk_lt (g := gb438) (o := .cells #[.int .u64 a1_0, .int .u64 a1_1, .int .u64 a1_2] 27 (0, 0)) (by (with_reducible repeat (first | refine blk_drewN ?_ _ | refine blk_drew ?_ | refine blk_alloc ?_ _)); exact BK438.out)) : gb439 ≠ gb438)); clear BK437; clear BK438; clear HB; have BK437 := n0_; have BK438 := n1_; have HB := n2_; have BK439 := n3_; have GW439 := n4_; have GE439 := n5_; have NB437_439 := n6_; have NB439_437 := n7_; have NB438_439 := n8_; have NB439_438 := n9_; clear n0_ n1_ n2_ n3_ n4_ n5_ n6_ n7_ n8_ n9_; clear hb hbox hg; have hnb25 := NB437_438.out; have hnc25 := NB438_437.out; have hnb26 := NB437_439.out; have hnc26 := NB439_437.out; have hcz27_0 : w24.cell? ⟨gb437, 0, none⟩ = some (.int .u64 a0_0) := (blk_cell BK437.out 0).trans rfl; have hcz27_1 : w24.cell? ⟨gb437, 1, none⟩ = some (.int .u64 a0_1) := (blk_cell BK437.out 1).trans rfl; have hcz27_2 : w24.cell? ⟨gb437, 2, none⟩ = some (.int .u64 a0_2) := (blk_cell BK437.out 2).trans rfl; have hfz27_0 := blk_frozen BK437.out 0; have hfz27_1 := blk_frozen BK437.out 1; have hfz27_2 := blk_frozen BK437.out 2) | ((with_reducible refine gate_callee (f := 33) rfl ?_); refine goesL_ (some 13) rfl rfl Try.func33 (by kernel_rfl) rfl #[.agg #[.int .u64 a0_0, .int .u64 a0_1, .int .u64 a0_2]] rfl (by (try simp only [List.map_toArray, List.map_cons, List.map_nil]); first | done | rfl | (simp only [List.length_drop, List.length_take]; rfl)) ?_; (with_reducible refine (wide_Wide_Narrow.calls a0_0 a0_1 a0_2 t440 t441 t442 _ A4.out).mono ?_); rintro e w28 ⟨rfl, hb⟩; refine ⟨_, rfl, ?_⟩; have n0_ := Aside0.mk (blk_below (g := gb437) (o := .cells #[.int .u64 a0_0, .int .u64 a0_1, .int .u64 a0_2] 27 (0, 0)) (by (with_reducible repeat (first | refine blk_drewN ?_ _ | refine blk_drew ?_ | refine blk_alloc ?_ _)); exact BK437.out) hb); have n1_ := Aside0.mk (blk_below (g := gb438) (o := .cells #[.int .u64 a1_0, .int .u64 a1_1, .int .u64 a1_2] 27 (0, 0)) (by (with_reducible repeat (first | refine blk_drewN ?_ _ | refine blk_drew ?_ | refine blk_alloc ?_ _)); exact BK438.out) hb); have n2_ := Aside0.mk (blk_below (g := gb439) (o := .cells #[.int .u64 a2_0, .int .u64 a2_1] 25 (0, 0)) (by (with_reducible repeat (first | refine blk_drewN ?_ _ | refine blk_drew ?_ | refine blk_alloc ?_ _)); exact BK439.out) hb); have n3_ := Aside0.mk (below_step (by repeat (first | (with_reducible first | exact HB.out | apply below_alloc | apply pw_below_drewN | apply below_drew1 | refine below_set ?_ GE437.out | refine below_set ?_ GE438.out | refine below_set ?_ GE439.out) | exact HB.out)) hb); clear BK437; clear BK438; clear BK439; clear HB; have BK437 := n0_; have BK438 := n1_; have BK439 := n2_; have HB := n3_; clear n0_ n1_ n2_ n3_; (try clear hb); (try clear hb2); (try clear hk); (try clear hi)) | ((with_reducible refine gate_dst (N := 7) rfl ?_); refine box_event ?hg (N := 7) ?hd (cs := #[.int .u64 0, .int .u64 0]) (t := 25) ?hr ?_; (case hd => rfl); (case hg => rfl); (case hr => first | (go_simp; done) | (go_simp; rfl)); intro gb443 hg w29 hbox hb; have n0_ := Aside0.mk (blk_below (g := gb437) (o := .cells #[.int .u64 a0_0, .int .u64 a0_1, .int .u64 a0_2] 27 (0, 0)) (by (with_reducible repeat (first | refine blk_drewN ?_ _ | refine blk_drew ?_ | refine blk_alloc ?_ _)); exact BK437.out) hb); have n1_ := Aside0.mk (blk_below (g := gb438) (o := .cells #[.int .u64 a1_0, .int .u64 a1_1, .int .u64 a1_2] 27 (0, 0)) (by (with_reducible repeat (first | refine blk_drewN ?_ _ | refine blk_drew ?_ | refine blk_alloc ?_ _)); exact BK438.out) hb); have n2_ := Aside0.mk (blk_below (g := gb439) (o := .cells #[.int .u64 a2_0, .int .u64 a2_1] 25 (0, 0)) (by (with_reducible repeat (first | refine blk_drewN ?_ _ | refine blk_drew ?_ | refine blk_alloc ?_ _)); exact BK439.out) hb); have n3_ := Aside0.mk (below_step (by repeat (first | (with_reducible first | exact HB.out | apply below_alloc | apply pw_below_drewN | apply below_drew1 | refine below_set ?_ GE437.out | refine below_set ?_ GE438.out | refine below_set ?_ GE439.out) | exact HB.out)) hb); have n4_ := Aside0.mk (hbox); have n5_ := Aside0.mk ((by rw [hg]; exact (below_size (by repeat (first | (with_reducible first | exact HB.out | apply below_alloc | apply pw_below_drewN | apply below_drew1 | refine below_set ?_ GE437.out | refine below_set ?_ GE438.out | refine below_set ?_ GE439.out) | exact HB.out))) : w.heap.size ≤ gb443)); have n6_ := Aside0.mk ((by rw [hg]; exact (below_size (by repeat (first | (with_reducible first | exact HB.out | apply below_alloc | apply pw_below_drewN | apply below_drew1 | refine below_set ?_ GE437.out | refine below_set ?_ GE438.out | refine below_set ?_ GE439.out) | exact HB.out))) : w.heap.size ≤ gb443)); have n7_ := Aside0.mk ((by rw [hg]; exact Nat.ne_of_lt (blk_lt (g := gb437) (o := .cells #[.int .u64 a0_0, .int .u64 a0_1, .int .u64 a0_2] 27 (0, 0)) (by (with_reducible repeat (first | refine blk_drewN ?_ _ | refine blk_drew ?_ | refine blk_alloc ?_ _)); exact BK437.out)) : gb437 ≠ gb443)); have n8_ := Aside0.mk ((by rw [hg]; exact Nat.ne_of_gt (blk_lt (g := gb437) (o := .cells #[.int .u64 a0_0, .int .u64 a0_1, .int .u64 a0_2] 27 (0, 0)) (by (with_reducible repeat (first | refine blk_drewN ?_ _ | refine blk_drew ?_ | refine blk_alloc ?_ _)); exact BK437.out)) : gb443 ≠ gb437)); have n9_ := Aside0.mk ((by rw [hg]; exact Nat.ne_of_lt (blk_lt (g := gb438) (o := .cells #[.int .u64 a1_0, .int .u64 a1_1, .int .u64 a1_2] 27 (0, 0)) (by (with_reducible repeat (first | refine blk_drewN ?_ _ | refine blk_drew ?_ | refine blk_alloc ?_ _)); exact BK438.out)) : gb438 ≠ gb443)); have n10_ := Aside0.mk ((by rw [hg]; exact Nat.ne_of_gt (blk_lt (g := gb438) (o := .cells #[.int .u64 a1_0, .int .u64 a1_1, .int .u64 a1_2] 27 (0, 0)) (by (with_reducible repeat (first | refine blk_drewN ?_ _ | refine blk_drew ?_ | refine blk_alloc ?_ _)); exact BK438.out)) : gb443 ≠ gb438)); have n11_ := Aside0.mk ((by rw [hg]; exact Nat.ne_of_lt (blk_lt (g := gb439) (o := .cells #[.int .u64 a2_0, .int .u64 a2_1] 25 (0, 0)) (by (with_reducible repeat (first | refine blk_drewN ?_ _ | refine blk_drew ?_ | refine blk_alloc ?_ _)); exact BK439.out)) : gb439 ≠ gb443)); have n12_ := Aside0.mk ((by rw [hg]; exact Nat.ne_of_gt (blk_lt (g := gb439) (o := .cells #[.int .u64 a2_0, .int .u64 a2_1] 25 (0, 0)) (by (with_reducible repeat (first | refine blk_drewN ?_ _ | refine blk_drew ?_ | refine blk_alloc ?_ _)); exact BK439.out)) : gb443 ≠ gb439)); clear BK437; clear BK438; clear BK439; clear HB; have BK437 := n0_; have BK438 := n1_; have BK439 := n2_; have HB := n3_; have BK443 := n4_; have GW443 := n5_; have GE443 := n6_; have NB437_443 := n7_; have NB443_437 := n8_; have NB438_443 := n9_; have NB443_438 := n10_; have NB439_443 := n11_; have NB443_439 := n12_; clear n0_ n1_ n2_ n3_ n4_ n5_ n6_ n7_ n8_ n9_ n10_ n11_ n12_; clear hb hbox hg; have hnb30 := NB443_437.out; have hnc30 := NB437_443.out; have hnb31 := NB443_438.out; have hnc31 := NB438_443.out; have hnb32 := NB443_439.out; have hnc32 := NB439_443.out; have hcz33_0 : w29.cell? ⟨gb443, 0, none⟩ = some (.int .u64 0) := (blk_cell BK443.out 0).trans rfl; have hcz33_1 : w29.cell? ⟨gb443, 1, none⟩ = some (.int .u64 0) := (blk_cell BK443.out 1).trans rfl; have hfz33_0 := blk_frozen BK443.out 0; have hfz33_1 := blk_frozen BK443.out 1; have hcz34_0 : w29.cell? ⟨gb437, 0, none⟩ = some (.int .u64 a0_0) := (blk_cell BK437.out 0).trans rfl; have hcz34_1 : w29.cell? ⟨gb437, 1, none⟩ = some (.int .u64 a0_1) := (blk_cell BK437.out 1).trans rfl; have hcz34_2 : w29.cell? ⟨gb437, 2, none⟩ = some (.int .u64 a0_2) := (blk_cell BK437.out 2).trans rfl; have hfz34_0 := blk_frozen BK437.out 0; have hfz34_1 := blk_frozen BK437.out 1; have hfz34_2 := blk_frozen BK437.out 2) | ((with_reducible refine gate_callee (f := 34) rfl ?_); refine goesL_ (some 18) rfl rfl Try.func34 (by kernel_rfl) rfl #[.agg #[.int .u64 a0_0, .int .u64 a0_1, .int .u64 a0_2]] rfl (by (try simp only [List.map_toArray, List.map_cons, List.map_nil]); first | done | rfl | (simp only [List.length_drop, List.length_take]; rfl)) ?_; (with_reducible refine (paymasterref03_Narrow.calls a0_0 a0_1 a0_2 t444 t445 t446 _ A5.out).mono ?_); rintro e w35 ⟨rfl, hb⟩; refine ⟨_, rfl, ?_⟩; have n0_ := Aside0.mk (blk_below (g := gb437) (o := .cells #[.int .u64 a0_0, .int .u64 a0_1, .int .u64 a0_2] 27 (0, 0)) (by (with_reducible repeat (first | refine blk_drewN ?_ _ | refine blk_drew ?_ | refine blk_alloc ?_ _)); refine blk_far ?_ NB437_443.out _; (with_reducible repeat (first | refine blk_drewN ?_ _ | refine blk_drew ?_ | refine blk_alloc ?_ _)); refine blk_far ?_ NB437_443.out _; (with_reducible repeat (first | refine blk_drewN ?_ _ | refine blk_drew ?_ | refine blk_alloc ?_ _)); exact BK437.out) hb); have n1_ := Aside0.mk (blk_below (g := gb438) (o := .cells #[.int .u64 a1_0, .int .u64 a1_1, .int .u64 a1_2] 27 (0, 0)) (by (with_reducible repeat (first | refine blk_drewN ?_ _ | refine blk_drew ?_ | refine blk_alloc ?_ _)); refine blk_far ?_ NB438_443.out _; (with_reducible repeat (first | refine blk_drewN ?_ _ | refine blk_drew ?_ | refine blk_alloc ?_ _)); refine blk_far ?_ NB438_443.out _; (with_reducible repeat (first | refine blk_drewN ?_ _ | refine blk_drew ?_ | refine blk_alloc ?_ _)); exact BK438.out) hb); have n2_ := Aside0.mk (blk_below (g := gb439) (o := .cells #[.int .u64 a2_0, .int .u64 a2_1] 25 (0, 0)) (by (with_reducible repeat (first | refine blk_drewN ?_ _ | refine blk_drew ?_ | refine blk_alloc ?_ _)); refine blk_far ?_ NB439_443.out _; (with_reducible repeat (first | refine blk_drewN ?_ _ | refine blk_drew ?_ | refine blk_alloc ?_ _)); refine blk_far ?_ NB439_443.out _; (with_reducible repeat (first | refine blk_drewN ?_ _ | refine blk_drew ?_ | refine blk_alloc ?_ _)); exact BK439.out) hb); have n3_ := Aside0.mk (blk_below (g := gb443) (o := .cells #[.int .u64 t440, .int .u64 t441] 25 (0, 0)) (by (with_reducible repeat (first | refine blk_drewN ?_ _ | refine blk_drew ?_ | refine blk_alloc ?_ _)); refine blk_put (cs := #[.int .u64 t440, .int .u64 0]) ?_ 1 _ rfl; (with_reducible repeat (first | refine blk_drewN ?_ _ | refine blk_drew ?_ | refine blk_alloc ?_ _)); refine blk_put (cs := #[.int .u64 0, .int .u64 0]) ?_ 0 _ rfl; (with_reducible repeat (first | refine blk_drewN ?_ _ | refine blk_drew ?_ | refine blk_alloc ?_ _)); exact BK443.out) hb); have n4_ := Aside0.mk (below_step (by repeat (first | (with_reducible first | exact HB.out | apply below_alloc | apply pw_below_drewN | apply below_drew1 | refine below_set ?_ GE437.out | refine below_set ?_ GE438.out | refine below_set ?_ GE439.out | refine below_set ?_ GE443.out) | exact HB.out)) hb); clear BK437; clear BK438; clear BK439; clear BK443; clear HB; have BK437 := n0_; have BK438 := n1_; have BK439 := n2_; have BK443 := n3_; have HB := n4_; clear n0_ n1_ n2_ n3_ n4_; (try clear hb); (try clear hb2); (try clear hk); (try clear hi)) | ((with_reducible refine gate_dst (N := 9) rfl ?_); refine box_event ?hg (N := 9) ?hd (cs := #[.int .u64 0, .int .u64 0]) (t := 25) ?hr ?_; (case hd => rfl); (case hg => rfl); (case hr => first | (go_simp; done) | (go_simp; rfl)); intro gb447 hg w36 hbox hb; have n0_ := Aside0.mk (blk_below (g := gb437) (o := .cells #[.int .u64 a0_0, .int .u64 a0_1, .int .u64 a0_2] 27 (0, 0)) (by (with_reducible repeat (first | refine blk_drewN ?_ _ | refine blk_drew ?_ | refine blk_alloc ?_ _)); exact BK437.out) hb); have n1_ := Aside0.mk (blk_below (g := gb438) (o := .cells #[.int .u64 a1_0, .int .u64 a1_1, .int .u64 a1_2] 27 (0, 0)) (by (with_reducible repeat (first | refine blk_drewN ?_ _ | refine blk_drew ?_ | refine blk_alloc ?_ _)); exact BK438.out) hb); have n2_ := Aside0.mk (blk_below (g := gb439) (o := .cells #[.int .u64 a2_0, .int .u64 a2_1] 25 (0, 0)) (by (with_reducible repeat (first | refine blk_drewN ?_ _ | refine blk_drew ?_ | refine blk_alloc ?_ _)); exact BK439.out) hb); have n3_ := Aside0.mk (blk_below (g := gb443) (o := .cells #[.int .u64 t440, .int .u64 t441] 25 (0, 0)) (by (with_reducible repeat (first | refine blk_drewN ?_ _ | refine blk_drew ?_ | refine blk_alloc ?_ _)); exact BK443.out) hb); have n4_ := Aside0.mk (below_step (by repeat (first | (with_reducible first | exact HB.out | apply below_alloc | apply pw_below_drewN | apply below_drew1 | refine below_set ?_ GE437.out | refine below_set ?_ GE438.out | refine below_set ?_ GE439.out | refine below_set ?_ GE443.out) | exact HB.out)) hb); have n5_ := Aside0.mk (hbox); have n6_ := Aside0.mk ((by rw [hg]; exact (below_size (by repeat (first | (with_reducible first | exact HB.out | apply below_alloc | apply pw_below_drewN | apply below_drew1 | refine below_set ?_ GE437.out | refine below_set ?_ GE438.out | refine below_set ?_ GE439.out | refine below_set ?_ GE443.out) | exact HB.out))) : w.heap.size ≤ gb447)); have n7_ := Aside0.mk ((by rw [hg]; exact (below_size (by repeat (first | (with_reducible first | exact HB.out | apply below_alloc | apply pw_below_drewN | apply below_drew1 | refine below_set ?_ GE437.out | refine below_set ?_ GE438.out | refine below_set ?_ GE439.out | refine below_set ?_ GE443.out) | exact HB.out))) : w.heap.size ≤ gb447)); have n8_ := Aside0.mk ((by rw [hg]; exact Nat.ne_of_lt (blk_lt (g := gb437) (o := .cells #[.int .u64 a0_0, .int .u64 a0_1, .int .u64 a0_2] 27 (0, 0)) (by (with_reducible repeat (first | refine blk_drewN ?_ _ | refine blk_drew ?_ | refine blk_alloc ?_ _)); exact BK437.out)) : gb437 ≠ gb447)); have n9_ := Aside0.mk ((by rw [hg]; exact Nat.ne_of_gt (blk_lt (g := gb437) (o := .cells #[.int .u64 a0_0, .int .u64 a0_1, .int .u64 a0_2] 27 (0, 0)) (by (with_reducible repeat (first | refine blk_drewN ?_ _ | refine blk_drew ?_ | refine blk_alloc ?_ _)); exact BK437.out)) : gb447 ≠ gb437)); have n10_ := Aside0.mk ((by rw [hg]; exact Nat.ne_of_lt (blk_lt (g := gb438) (o := .cells #[.int .u64 a1_0, .int .u64 a1_1, .int .u64 a1_2] 27 (0, 0)) (by (with_reducible repeat (first | refine blk_drewN ?_ _ | refine blk_drew ?_ | refine blk_alloc ?_ _)); exact BK438.out)) : gb438 ≠ gb447)); have n11_ := Aside0.mk ((by rw [hg]; exact Nat.ne_of_gt (blk_lt (g := gb438) (o := .cells #[.int .u64 a1_0, .int .u64 a1_1, .int .u64 a1_2] 27 (0, 0)) (by (with_reducible repeat (first | refine blk_drewN ?_ _ | refine blk_drew ?_ | refine blk_alloc ?_ _)); exact BK438.out)) : gb447 ≠ gb438)); have n12_ := Aside0.mk ((by rw [hg]; exact Nat.ne_of_lt (blk_lt (g := gb439) (o := .cells #[.int .u64 a2_0, .int .u64 a2_1] 25 (0, 0)) (by (with_reducible repeat (first | refine blk_drewN ?_ _ | refine blk_drew ?_ | refine blk_alloc ?_ _)); exact BK439.out)) : gb439 ≠ gb447)); have n13_ := Aside0.mk ((by rw [hg]; exact Nat.ne_of_gt (blk_lt (g := gb439) (o := .cells #[.int .u64 a2_0, .int .u64 a2_1] 25 (0, 0)) (by (with_reducible repeat (first | refine blk_drewN ?_ _ | refine blk_drew ?_ | refine blk_alloc ?_ _)); exact BK439.out)) : gb447 ≠ gb439)); have n14_ := Aside0.mk ((by rw [hg]; exact Nat.ne_of_lt (blk_lt (g := gb443) (o := .cells #[.int .u64 t440, .int .u64 t441] 25 (0, 0)) (by (with_reducible repeat (first | refine blk_drewN ?_ _ | refine blk_drew ?_ | refine blk_alloc ?_ _)); exact BK443.out)) : gb443 ≠ gb447)); have n15_ := Aside0.mk ((by rw [hg]; exact Nat.ne_of_gt (blk_lt (g := gb443) (o := .cells #[.int .u64 t440, .int .u64 t441] 25 (0, 0)) (by (with_reducible repeat (first | refine blk_drewN ?_ _ | refine blk_drew ?_ | refine blk_alloc ?_ _)); exact BK443.out)) : gb447 ≠ gb443)); clear BK437; clear BK438; clear BK439; clear BK443; clear HB; have BK437 := n0_; have BK438 := n1_; have BK439 := n2_; have BK443 := n3_; have HB := n4_; have BK447 := n5_; have GW447 := n6_; have GE447 := n7_; have NB437_447 := n8_; have NB447_437 := n9_; have NB438_447 := n10_; have NB447_438 := n11_; have NB439_447 := n12_; have NB447_439 := n13_; have NB443_447 := n14_; have NB447_443 := n15_; clear n0_ n1_ n2_ n3_ n4_ n5_ n6_ n7_ n8_ n9_ n10_ n11_ n12_ n13_ n14_ n15_; clear hb hbox hg; have hnb37 := NB447_437.out; have hnc37 := NB437_447.out; have hnb38 := NB447_438.out; have hnc38 := NB438_447.out; have hnb39 := NB447_439.out; have hnc39 := NB439_447.out; have hnb40 := NB447_443.out; have hnc40 := NB443_447.out; have hcz41_0 : w36.cell? ⟨gb447, 0, none⟩ = some (.int .u64 0) := (blk_cell BK447.out 0).trans rfl; have hcz41_1 : w36.cell? ⟨gb447, 1, none⟩ = some (.int .u64 0) := (blk_cell BK447.out 1).trans rfl; have hfz41_0 := blk_frozen BK447.out 0; have hfz41_1 := blk_frozen BK447.out 1))
              have n0_ : Aside0 (((w36.setCell ⟨gb447, 0, none⟩ (.int .u64 t444)).setCell ⟨gb447, 1, none⟩ (.int .u64 t445)).heap[gb437]? = some (.cells #[.int .u64 a0_0, .int .u64 a0_1, .int .u64 a0_2] 27 (0, 0))) := ⟨by (with_reducible repeat (first | refine blk_drewN ?_ _ | refine blk_drew ?_ | refine blk_alloc ?_ _)); refine blk_far ?_ NB437_447.out _; (with_reducible repeat (first | refine blk_drewN ?_ _ | refine blk_drew ?_ | refine blk_alloc ?_ _)); refine blk_far ?_ NB437_447.out _; (with_reducible repeat (first | refine blk_drewN ?_ _ | refine blk_drew ?_ | refine blk_alloc ?_ _)); exact BK437.out⟩
              have n1_ : Aside0 (((w36.setCell ⟨gb447, 0, none⟩ (.int .u64 t444)).setCell ⟨gb447, 1, none⟩ (.int .u64 t445)).heap[gb438]? = some (.cells #[.int .u64 a1_0, .int .u64 a1_1, .int .u64 a1_2] 27 (0, 0))) := ⟨by (with_reducible repeat (first | refine blk_drewN ?_ _ | refine blk_drew ?_ | refine blk_alloc ?_ _)); refine blk_far ?_ NB438_447.out _; (with_reducible repeat (first | refine blk_drewN ?_ _ | refine blk_drew ?_ | refine blk_alloc ?_ _)); refine blk_far ?_ NB438_447.out _; (with_reducible repeat (first | refine blk_drewN ?_ _ | refine blk_drew ?_ | refine blk_alloc ?_ _)); exact BK438.out⟩
              have n2_ : Aside0 (((w36.setCell ⟨gb447, 0, none⟩ (.int .u64 t444)).setCell ⟨gb447, 1, none⟩ (.int .u64 t445)).heap[gb439]? = some (.cells #[.int .u64 a2_0, .int .u64 a2_1] 25 (0, 0))) := ⟨by (with_reducible repeat (first | refine blk_drewN ?_ _ | refine blk_drew ?_ | refine blk_alloc ?_ _)); refine blk_far ?_ NB439_447.out _; (with_reducible repeat (first | refine blk_drewN ?_ _ | refine blk_drew ?_ | refine blk_alloc ?_ _)); refine blk_far ?_ NB439_447.out _; (with_reducible repeat (first | refine blk_drewN ?_ _ | refine blk_drew ?_ | refine blk_alloc ?_ _)); exact BK439.out⟩
              have n3_ : Aside0 (((w36.setCell ⟨gb447, 0, none⟩ (.int .u64 t444)).setCell ⟨gb447, 1, none⟩ (.int .u64 t445)).heap[gb443]? = some (.cells #[.int .u64 t440, .int .u64 t441] 25 (0, 0))) := ⟨by (with_reducible repeat (first | refine blk_drewN ?_ _ | refine blk_drew ?_ | refine blk_alloc ?_ _)); refine blk_far ?_ NB443_447.out _; (with_reducible repeat (first | refine blk_drewN ?_ _ | refine blk_drew ?_ | refine blk_alloc ?_ _)); refine blk_far ?_ NB443_447.out _; (with_reducible repeat (first | refine blk_drewN ?_ _ | refine blk_drew ?_ | refine blk_alloc ?_ _)); exact BK443.out⟩
              have n4_ : Aside0 (((w36.setCell ⟨gb447, 0, none⟩ (.int .u64 t444)).setCell ⟨gb447, 1, none⟩ (.int .u64 t445)).heap[gb447]? = some (.cells #[.int .u64 t444, .int .u64 t445] 25 (0, 0))) := ⟨by (with_reducible repeat (first | refine blk_drewN ?_ _ | refine blk_drew ?_ | refine blk_alloc ?_ _)); refine blk_put (cs := #[.int .u64 t444, .int .u64 0]) ?_ 1 _ rfl; (with_reducible repeat (first | refine blk_drewN ?_ _ | refine blk_drew ?_ | refine blk_alloc ?_ _)); refine blk_put (cs := #[.int .u64 0, .int .u64 0]) ?_ 0 _ rfl; (with_reducible repeat (first | refine blk_drewN ?_ _ | refine blk_drew ?_ | refine blk_alloc ?_ _)); exact BK447.out⟩
              have n5_ : Aside0 (Below w.heap.size w ((w36.setCell ⟨gb447, 0, none⟩ (.int .u64 t444)).setCell ⟨gb447, 1, none⟩ (.int .u64 t445))) := ⟨by repeat (first | (with_reducible first | exact HB.out | apply below_alloc | apply pw_below_drewN | apply below_drew1 | refine below_set ?_ GE437.out | refine below_set ?_ GE438.out | refine below_set ?_ GE439.out | refine below_set ?_ GE443.out | refine below_set ?_ GE447.out) | exact HB.out)⟩
              (try clear BK437)
              (try clear BK438)
              (try clear BK439)
              (try clear BK443)
              (try clear BK447)
              (try clear HB)
              generalize ((w36.setCell ⟨gb447, 0, none⟩ (.int .u64 t444)).setCell ⟨gb447, 1, none⟩ (.int .u64 t445)) = w42 at n0_ n1_ n2_ n3_ n4_ n5_ ⊢
              have BK437 := n0_
              have BK438 := n1_
              have BK439 := n2_
              have BK443 := n3_
              have BK447 := n4_
              have HB := n5_
              clear n0_ n1_ n2_ n3_ n4_ n5_
              have n0_ := Aside0.mk (blk_drew BK437.out)
              have n1_ := Aside0.mk (blk_drew BK438.out)
              have n2_ := Aside0.mk (blk_drew BK439.out)
              have n3_ := Aside0.mk (blk_drew BK443.out)
              have n4_ := Aside0.mk (blk_drew BK447.out)
              have n5_ := Aside0.mk (below_drew1 HB.out)
              clear BK437
              clear BK438
              clear BK439
              clear BK443
              clear BK447
              clear HB
              have BK437 := n0_
              have BK438 := n1_
              have BK439 := n2_
              have BK443 := n3_
              have BK447 := n4_
              have HB := n5_
              clear n0_ n1_ n2_ n3_ n4_ n5_
              refine start_ (n := 23) (S := fun w' => w'.cell? ⟨gb439, 0, none⟩ = some (.int .u64 a2_0) ∧ w'.cell? ⟨gb439, 1, none⟩ = some (.int .u64 a2_1) ∧ w'.cell? ⟨gb437, 0, none⟩ = some (.int .u64 a0_0) ∧ w'.cell? ⟨gb437, 1, none⟩ = some (.int .u64 a0_1) ∧ w'.cell? ⟨gb437, 2, none⟩ = some (.int .u64 a0_2) ∧ w'.cell? ⟨gb438, 0, none⟩ = some (.int .u64 a1_0) ∧ w'.cell? ⟨gb438, 1, none⟩ = some (.int .u64 a1_1) ∧ w'.cell? ⟨gb438, 2, none⟩ = some (.int .u64 a1_2)) (ds := []) #[false, false, false, false, false, false, false, false, false, false, false, false, false, false, false, false, false, false, false, false, false, false, false] (by kernel_rfl) rfl rfl ⟨(blk_cell BK439.out 0).trans rfl, (blk_cell BK439.out 1).trans rfl, (blk_cell BK437.out 0).trans rfl, (blk_cell BK437.out 1).trans rfl, (blk_cell BK437.out 2).trans rfl, (blk_cell BK438.out 0).trans rfl, (blk_cell BK438.out 1).trans rfl, (blk_cell BK438.out 2).trans rfl⟩ (fun hHeld => ?_); refine with_tabW paymasterlaw03_WideAdds.tab3 paymasterlaw03_WideAdds.bits3 (fun HT_ HW_ => ?_)
              generalize w42.drew = w43 at BK437 BK438 BK439 BK443 BK447 HB hHeld ⊢
              refine take_ (i := 0) (N := some 21) (v := ?_) (a' := ?_) #[true, false, false, false, false, false, false, false, false, false, false, false, false, false, false, false, false, false, false, false, false, false, false] rfl rfl (take_ofW HT_.out HW_.out (by kernel_rfl)) (fun _ _ _ h => h) (Or.inl ⟨by rfl, ?_⟩) hHeld ?_ ?_
              rotate_left
              · rintro w' ⟨s0, s1, s2, s3, s4, s5, s6, s7⟩
                go_simp
                with_reducible rfl
              rotate_left
              · simp only [Act.put, List.setIfInBounds_toArray, List.set_cons_zero, List.set_cons_succ, i64_w, i32_w]
                rfl
              refine take_ (i := 2) (N := some 23) (v := ?_) (a' := ?_) #[true, false, true, false, false, false, false, false, false, false, false, false, false, false, false, false, false, false, false, false, false, false, false] rfl rfl (take_ofW HT_.out HW_.out (by kernel_rfl)) (fun _ _ _ h => h) (Or.inl ⟨by rfl, ?_⟩) hHeld ?_ ?_
              rotate_left
              · rintro w' ⟨s0, s1, s2, s3, s4, s5, s6, s7⟩
                go_simp
                with_reducible rfl
              rotate_left
              · simp only [Act.put, List.setIfInBounds_toArray, List.set_cons_zero, List.set_cons_succ, i64_w, i32_w]
                rfl
              refine one_ (i := 1) (N := some 22) #[true, true, true, false, false, false, false, false, false, false, false, false, false, false, false, false, false, false, false, false, false, false, false] rfl rfl (one_of HT_.out (by kernel_rfl)) (by decide) (fun K hK => ?_)
              refine goes_ Try.func35 (by kernel_rfl) rfl #[.agg #[.int .u64 a2_0, .int .u64 a2_1]] (by rfl) rfl rfl (by (try simp only [List.map_toArray, List.map_cons, List.map_nil]); first | done | rfl | (simp only [List.length_drop, List.length_take]; rfl)) ?_
              with_reducible refine (wide_Of.calls a2_0 a2_1 t448 t449 t450 _ A6.out).mono ?_
              rintro e w44 ⟨rfl, hb⟩
              refine ⟨_, rfl, ?_⟩
              have n0_ := Aside0.mk (blk_below (g := gb437) (o := .cells #[.int .u64 a0_0, .int .u64 a0_1, .int .u64 a0_2] 27 (0, 0)) (by (with_reducible repeat (first | refine blk_drewN ?_ _ | refine blk_drew ?_ | refine blk_alloc ?_ _)); exact BK437.out) hb)
              have n1_ := Aside0.mk (blk_below (g := gb438) (o := .cells #[.int .u64 a1_0, .int .u64 a1_1, .int .u64 a1_2] 27 (0, 0)) (by (with_reducible repeat (first | refine blk_drewN ?_ _ | refine blk_drew ?_ | refine blk_alloc ?_ _)); exact BK438.out) hb)
              have n2_ := Aside0.mk (blk_below (g := gb439) (o := .cells #[.int .u64 a2_0, .int .u64 a2_1] 25 (0, 0)) (by (with_reducible repeat (first | refine blk_drewN ?_ _ | refine blk_drew ?_ | refine blk_alloc ?_ _)); exact BK439.out) hb)
              have n3_ := Aside0.mk (blk_below (g := gb443) (o := .cells #[.int .u64 t440, .int .u64 t441] 25 (0, 0)) (by (with_reducible repeat (first | refine blk_drewN ?_ _ | refine blk_drew ?_ | refine blk_alloc ?_ _)); exact BK443.out) hb)
              have n4_ := Aside0.mk (blk_below (g := gb447) (o := .cells #[.int .u64 t444, .int .u64 t445] 25 (0, 0)) (by (with_reducible repeat (first | refine blk_drewN ?_ _ | refine blk_drew ?_ | refine blk_alloc ?_ _)); exact BK447.out) hb)
              have n5_ := Aside0.mk (below_step (by repeat (first | (with_reducible first | exact HB.out | apply below_alloc | apply pw_below_drewN | apply below_drew1 | refine below_set ?_ GE437.out | refine below_set ?_ GE438.out | refine below_set ?_ GE439.out | refine below_set ?_ GE443.out | refine below_set ?_ GE447.out) | exact HB.out)) hb)
              clear BK437
              clear BK438
              clear BK439
              clear BK443
              clear BK447
              clear HB
              have BK437 := n0_
              have BK438 := n1_
              have BK439 := n2_
              have BK443 := n3_
              have BK447 := n4_
              have HB := n5_
              clear n0_ n1_ n2_ n3_ n4_ n5_
              (try clear hb)
              (try clear hb2)
              (try clear hk)
              (try clear hi)
              refine hK.out _ _ ⟨(blk_cell BK439.out 0).trans rfl, (blk_cell BK439.out 1).trans rfl, (blk_cell BK437.out 0).trans rfl, (blk_cell BK437.out 1).trans rfl, (blk_cell BK437.out 2).trans rfl, (blk_cell BK438.out 0).trans rfl, (blk_cell BK438.out 1).trans rfl, (blk_cell BK438.out 2).trans rfl⟩ (fun hHeld => ?_)
              clear hK K
              refine norm_ (a' := ?_) ?_ ?_
              rotate_left
              · show Act.put _ (some 22) _ = _
                simp only [Act.put, List.setIfInBounds_toArray, List.set_cons_zero, List.set_cons_succ, i64_w, i32_w]
                rfl
              refine one_ (i := 3) (N := some 24) #[true, true, true, true, false, false, false, false, false, false, false, false, false, false, false, false, false, false, false, false, false, false, false] rfl rfl (one_of HT_.out (by kernel_rfl)) (by decide) (fun K hK => ?_)
              refine goes_ Try.func36 (by kernel_rfl) rfl #[.agg #[.int .u64 a2_0, .int .u64 a2_1]] (by rfl) rfl rfl (by (try simp only [List.map_toArray, List.map_cons, List.map_nil]); first | done | rfl | (simp only [List.length_drop, List.length_take]; rfl)) ?_
              with_reducible refine (paymasterref03_Of.calls a2_0 a2_1 t451 t452 t453 _ A7.out).mono ?_
              rintro e w45 ⟨rfl, hb⟩
              refine ⟨_, rfl, ?_⟩
              have n0_ := Aside0.mk (blk_below (g := gb437) (o := .cells #[.int .u64 a0_0, .int .u64 a0_1, .int .u64 a0_2] 27 (0, 0)) (by (with_reducible repeat (first | refine blk_drewN ?_ _ | refine blk_drew ?_ | refine blk_alloc ?_ _)); exact BK437.out) hb)
              have n1_ := Aside0.mk (blk_below (g := gb438) (o := .cells #[.int .u64 a1_0, .int .u64 a1_1, .int .u64 a1_2] 27 (0, 0)) (by (with_reducible repeat (first | refine blk_drewN ?_ _ | refine blk_drew ?_ | refine blk_alloc ?_ _)); exact BK438.out) hb)
              have n2_ := Aside0.mk (blk_below (g := gb439) (o := .cells #[.int .u64 a2_0, .int .u64 a2_1] 25 (0, 0)) (by (with_reducible repeat (first | refine blk_drewN ?_ _ | refine blk_drew ?_ | refine blk_alloc ?_ _)); exact BK439.out) hb)
              have n3_ := Aside0.mk (blk_below (g := gb443) (o := .cells #[.int .u64 t440, .int .u64 t441] 25 (0, 0)) (by (with_reducible repeat (first | refine blk_drewN ?_ _ | refine blk_drew ?_ | refine blk_alloc ?_ _)); exact BK443.out) hb)
              have n4_ := Aside0.mk (blk_below (g := gb447) (o := .cells #[.int .u64 t444, .int .u64 t445] 25 (0, 0)) (by (with_reducible repeat (first | refine blk_drewN ?_ _ | refine blk_drew ?_ | refine blk_alloc ?_ _)); exact BK447.out) hb)
              have n5_ := Aside0.mk (below_step (by repeat (first | (with_reducible first | exact HB.out | apply below_alloc | apply pw_below_drewN | apply below_drew1 | refine below_set ?_ GE437.out | refine below_set ?_ GE438.out | refine below_set ?_ GE439.out | refine below_set ?_ GE443.out | refine below_set ?_ GE447.out) | exact HB.out)) hb)
              clear BK437
              clear BK438
              clear BK439
              clear BK443
              clear BK447
              clear HB
              have BK437 := n0_
              have BK438 := n1_
              have BK439 := n2_
              have BK443 := n3_
              have BK447 := n4_
              have HB := n5_
              clear n0_ n1_ n2_ n3_ n4_ n5_
              (try clear hb)
              (try clear hb2)
              (try clear hk)
              (try clear hi)
              refine hK.out _ _ ⟨(blk_cell BK439.out 0).trans rfl, (blk_cell BK439.out 1).trans rfl, (blk_cell BK437.out 0).trans rfl, (blk_cell BK437.out 1).trans rfl, (blk_cell BK437.out 2).trans rfl, (blk_cell BK438.out 0).trans rfl, (blk_cell BK438.out 1).trans rfl, (blk_cell BK438.out 2).trans rfl⟩ (fun hHeld => ?_)
              clear hK K
              refine norm_ (a' := ?_) ?_ ?_
              rotate_left
              · show Act.put _ (some 24) _ = _
                simp only [Act.put, List.setIfInBounds_toArray, List.set_cons_zero, List.set_cons_succ, i64_w, i32_w]
                rfl
              refine pure_ (i := 4) (N := some 25) (v := ?_) (a' := ?_) #[true, true, true, true, true, false, false, false, false, false, false, false, false, false, false, false, false, false, false, false, false, false, false] rfl rfl (any_of HT_.out (by kernel_rfl)) (fun _ _ _ h => h) (Or.inl ⟨by rfl, ?_⟩) ?_ ?_
              rotate_left
              · intro w'
                go_simp
                with_reducible rfl
              rotate_left
              · simp only [Act.put, List.setIfInBounds_toArray, List.set_cons_zero, List.set_cons_succ, i64_w, i32_w]
                rfl
              refine pure_ (i := 5) (N := some 26) (v := ?_) (a' := ?_) #[true, true, true, true, true, true, false, false, false, false, false, false, false, false, false, false, false, false, false, false, false, false, false] rfl rfl (any_of HT_.out (by kernel_rfl)) (fun _ _ _ h => h) (Or.inl ⟨by rfl, ?_⟩) ?_ ?_
              rotate_left
              · intro w'
                go_simp
                with_reducible rfl
              rotate_left
              · simp only [Act.put, List.setIfInBounds_toArray, List.set_cons_zero, List.set_cons_succ, i64_w, i32_w]
                rfl
              refine take_ (i := 6) (N := some 27) (v := ?_) (a' := ?_) #[true, true, true, true, true, true, true, false, false, false, false, false, false, false, false, false, false, false, false, false, false, false, false] rfl rfl (take_ofW HT_.out HW_.out (by kernel_rfl)) (fun _ _ _ h => h) (Or.inl ⟨by rfl, ?_⟩) hHeld ?_ ?_
              rotate_left
              · rintro w' ⟨s0, s1, s2, s3, s4, s5, s6, s7⟩
                go_simp
                with_reducible rfl
              rotate_left
              · simp only [Act.put, List.setIfInBounds_toArray, List.set_cons_zero, List.set_cons_succ, i64_w, i32_w]
                rfl
              refine take_ (i := 7) (N := some 28) (v := ?_) (a' := ?_) #[true, true, true, true, true, true, true, true, false, false, false, false, false, false, false, false, false, false, false, false, false, false, false] rfl rfl (take_ofW HT_.out HW_.out (by kernel_rfl)) (fun _ _ _ h => h) (Or.inl ⟨by rfl, ?_⟩) hHeld ?_ ?_
              rotate_left
              · rintro w' ⟨s0, s1, s2, s3, s4, s5, s6, s7⟩
                go_simp
                with_reducible rfl
              rotate_left
              · simp only [Act.put, List.setIfInBounds_toArray, List.set_cons_zero, List.set_cons_succ, i64_w, i32_w]
                rfl
              refine take_ (i := 9) (N := some 30) (v := ?_) (a' := ?_) #[true, true, true, true, true, true, true, true, false, true, false, false, false, false, false, false, false, false, false, false, false, false, false] rfl rfl (take_ofW HT_.out HW_.out (by kernel_rfl)) (fun _ _ _ h => h) (Or.inl ⟨by rfl, ?_⟩) hHeld ?_ ?_
              rotate_left
              · rintro w' ⟨s0, s1, s2, s3, s4, s5, s6, s7⟩
                go_simp
                with_reducible rfl
              rotate_left
              · simp only [Act.put, List.setIfInBounds_toArray, List.set_cons_zero, List.set_cons_succ, i64_w, i32_w]
                rfl
              refine take_ (i := 10) (N := some 31) (v := ?_) (a' := ?_) #[true, true, true, true, true, true, true, true, false, true, true, false, false, false, false, false, false, false, false, false, false, false, false] rfl rfl (take_ofW HT_.out HW_.out (by kernel_rfl)) (fun _ _ _ h => h) (Or.inl ⟨by rfl, ?_⟩) hHeld ?_ ?_
              rotate_left
              · rintro w' ⟨s0, s1, s2, s3, s4, s5, s6, s7⟩
                go_simp
                with_reducible rfl
              rotate_left
              · simp only [Act.put, List.setIfInBounds_toArray, List.set_cons_zero, List.set_cons_succ, i64_w, i32_w]
                rfl
              refine one_ (i := 8) (N := some 29) #[true, true, true, true, true, true, true, true, true, true, true, false, false, false, false, false, false, false, false, false, false, false, false] rfl rfl (one_of HT_.out (by kernel_rfl)) (by decide) (fun K hK => ?_)
              refine goes_ Try.func37 (by kernel_rfl) rfl #[.agg #[.int .u64 a0_0, .int .u64 a0_1, .int .u64 a0_2], .agg #[.int .u64 a2_0, .int .u64 a2_1]] (by rfl) rfl rfl (by (try simp only [List.map_toArray, List.map_cons, List.map_nil]); first | done | rfl | (simp only [List.length_drop, List.length_take]; rfl)) ?_
              with_reducible refine (wide_Wide_Plus.calls a0_0 a0_1 a0_2 a2_0 a2_1 t454 t455 t456 _ A9.out).mono ?_
              rintro e w46 ⟨rfl, hb⟩
              refine ⟨_, rfl, ?_⟩
              have n0_ := Aside0.mk (blk_below (g := gb437) (o := .cells #[.int .u64 a0_0, .int .u64 a0_1, .int .u64 a0_2] 27 (0, 0)) (by (with_reducible repeat (first | refine blk_drewN ?_ _ | refine blk_drew ?_ | refine blk_alloc ?_ _)); exact BK437.out) hb)
              have n1_ := Aside0.mk (blk_below (g := gb438) (o := .cells #[.int .u64 a1_0, .int .u64 a1_1, .int .u64 a1_2] 27 (0, 0)) (by (with_reducible repeat (first | refine blk_drewN ?_ _ | refine blk_drew ?_ | refine blk_alloc ?_ _)); exact BK438.out) hb)
              have n2_ := Aside0.mk (blk_below (g := gb439) (o := .cells #[.int .u64 a2_0, .int .u64 a2_1] 25 (0, 0)) (by (with_reducible repeat (first | refine blk_drewN ?_ _ | refine blk_drew ?_ | refine blk_alloc ?_ _)); exact BK439.out) hb)
              have n3_ := Aside0.mk (blk_below (g := gb443) (o := .cells #[.int .u64 t440, .int .u64 t441] 25 (0, 0)) (by (with_reducible repeat (first | refine blk_drewN ?_ _ | refine blk_drew ?_ | refine blk_alloc ?_ _)); exact BK443.out) hb)
              have n4_ := Aside0.mk (blk_below (g := gb447) (o := .cells #[.int .u64 t444, .int .u64 t445] 25 (0, 0)) (by (with_reducible repeat (first | refine blk_drewN ?_ _ | refine blk_drew ?_ | refine blk_alloc ?_ _)); exact BK447.out) hb)
              have n5_ := Aside0.mk (below_step (by repeat (first | (with_reducible first | exact HB.out | apply below_alloc | apply pw_below_drewN | apply below_drew1 | refine below_set ?_ GE437.out | refine below_set ?_ GE438.out | refine below_set ?_ GE439.out | refine below_set ?_ GE443.out | refine below_set ?_ GE447.out) | exact HB.out)) hb)
              clear BK437
              clear BK438
              clear BK439
              clear BK443
              clear BK447
              clear HB
              have BK437 := n0_
              have BK438 := n1_
              have BK439 := n2_
              have BK443 := n3_
              have BK447 := n4_
              have HB := n5_
              clear n0_ n1_ n2_ n3_ n4_ n5_
              (try clear hb)
              (try clear hb2)
              (try clear hk)
              (try clear hi)
              refine hK.out _ _ ⟨(blk_cell BK439.out 0).trans rfl, (blk_cell BK439.out 1).trans rfl, (blk_cell BK437.out 0).trans rfl, (blk_cell BK437.out 1).trans rfl, (blk_cell BK437.out 2).trans rfl, (blk_cell BK438.out 0).trans rfl, (blk_cell BK438.out 1).trans rfl, (blk_cell BK438.out 2).trans rfl⟩ (fun hHeld => ?_)
              clear hK K
              refine norm_ (a' := ?_) ?_ ?_
              rotate_left
              · show Act.put _ (some 29) _ = _
                simp only [Act.put, List.setIfInBounds_toArray, List.set_cons_zero, List.set_cons_succ, i64_w, i32_w]
                rfl
              refine one_ (i := 11) (N := some 32) #[true, true, true, true, true, true, true, true, true, true, true, true, false, false, false, false, false, false, false, false, false, false, false] rfl rfl (one_of HT_.out (by kernel_rfl)) (by decide) (fun K hK => ?_)
              refine goes_ Try.func38 (by kernel_rfl) rfl #[.agg #[.int .u64 a0_0, .int .u64 a0_1, .int .u64 a0_2], .agg #[.int .u64 a2_0, .int .u64 a2_1]] (by rfl) rfl rfl (by (try simp only [List.map_toArray, List.map_cons, List.map_nil]); first | done | rfl | (simp only [List.length_drop, List.length_take]; rfl)) ?_
              with_reducible refine (paymasterref03_Plus.calls k a0_0 a0_1 a0_2 a2_0 a2_1 t457 t458 t459 _ A10.out).mono ?_
              rintro e w47 ⟨rfl, hb⟩
              refine ⟨_, rfl, ?_⟩
              have n0_ := Aside0.mk (blk_below (g := gb437) (o := .cells #[.int .u64 a0_0, .int .u64 a0_1, .int .u64 a0_2] 27 (0, 0)) (by (with_reducible repeat (first | refine blk_drewN ?_ _ | refine blk_drew ?_ | refine blk_alloc ?_ _)); exact BK437.out) hb)
              have n1_ := Aside0.mk (blk_below (g := gb438) (o := .cells #[.int .u64 a1_0, .int .u64 a1_1, .int .u64 a1_2] 27 (0, 0)) (by (with_reducible repeat (first | refine blk_drewN ?_ _ | refine blk_drew ?_ | refine blk_alloc ?_ _)); exact BK438.out) hb)
              have n2_ := Aside0.mk (blk_below (g := gb439) (o := .cells #[.int .u64 a2_0, .int .u64 a2_1] 25 (0, 0)) (by (with_reducible repeat (first | refine blk_drewN ?_ _ | refine blk_drew ?_ | refine blk_alloc ?_ _)); exact BK439.out) hb)
              have n3_ := Aside0.mk (blk_below (g := gb443) (o := .cells #[.int .u64 t440, .int .u64 t441] 25 (0, 0)) (by (with_reducible repeat (first | refine blk_drewN ?_ _ | refine blk_drew ?_ | refine blk_alloc ?_ _)); exact BK443.out) hb)
              have n4_ := Aside0.mk (blk_below (g := gb447) (o := .cells #[.int .u64 t444, .int .u64 t445] 25 (0, 0)) (by (with_reducible repeat (first | refine blk_drewN ?_ _ | refine blk_drew ?_ | refine blk_alloc ?_ _)); exact BK447.out) hb)
              have n5_ := Aside0.mk (below_step (by repeat (first | (with_reducible first | exact HB.out | apply below_alloc | apply pw_below_drewN | apply below_drew1 | refine below_set ?_ GE437.out | refine below_set ?_ GE438.out | refine below_set ?_ GE439.out | refine below_set ?_ GE443.out | refine below_set ?_ GE447.out) | exact HB.out)) hb)
              clear BK437
              clear BK438
              clear BK439
              clear BK443
              clear BK447
              clear HB
              have BK437 := n0_
              have BK438 := n1_
              have BK439 := n2_
              have BK443 := n3_
              have BK447 := n4_
              have HB := n5_
              clear n0_ n1_ n2_ n3_ n4_ n5_
              (try clear hb)
              (try clear hb2)
              (try clear hk)
              (try clear hi)
              refine hK.out _ _ ⟨(blk_cell BK439.out 0).trans rfl, (blk_cell BK439.out 1).trans rfl, (blk_cell BK437.out 0).trans rfl, (blk_cell BK437.out 1).trans rfl, (blk_cell BK437.out 2).trans rfl, (blk_cell BK438.out 0).trans rfl, (blk_cell BK438.out 1).trans rfl, (blk_cell BK438.out 2).trans rfl⟩ (fun hHeld => ?_)
              clear hK K
              refine norm_ (a' := ?_) ?_ ?_
              rotate_left
              · show Act.put _ (some 32) _ = _
                simp only [Act.put, List.setIfInBounds_toArray, List.set_cons_zero, List.set_cons_succ, i64_w, i32_w]
                rfl
              refine pure_ (i := 12) (N := some 33) (v := ?_) (a' := ?_) #[true, true, true, true, true, true, true, true, true, true, true, true, true, false, false, false, false, false, false, false, false, false, false] rfl rfl (any_of HT_.out (by kernel_rfl)) (fun _ _ _ h => h) (Or.inl ⟨by rfl, ?_⟩) ?_ ?_
              rotate_left
              · intro w'
                go_simp
                with_reducible rfl
              rotate_left
              · simp only [Act.put, List.setIfInBounds_toArray, List.set_cons_zero, List.set_cons_succ, i64_w, i32_w]
                rfl
              refine pure_ (i := 13) (N := some 34) (v := ?_) (a' := ?_) #[true, true, true, true, true, true, true, true, true, true, true, true, true, true, false, false, false, false, false, false, false, false, false] rfl rfl (any_of HT_.out (by kernel_rfl)) (fun _ _ _ h => h) (Or.inl ⟨by rfl, ?_⟩) ?_ ?_
              rotate_left
              · intro w'
                go_simp
                with_reducible rfl
              rotate_left
              · simp only [Act.put, List.setIfInBounds_toArray, List.set_cons_zero, List.set_cons_succ, i64_w, i32_w]
                rfl
              refine pure_ (i := 14) (N := some 35) (v := ?_) (a' := ?_) #[true, true, true, true, true, true, true, true, true, true, true, true, true, true, true, false, false, false, false, false, false, false, false] rfl rfl (any_of HT_.out (by kernel_rfl)) (fun _ _ _ h => h) (Or.inl ⟨by rfl, ?_⟩) ?_ ?_
              rotate_left
              · intro w'
                go_simp
                with_reducible rfl
              rotate_left
              · simp only [Act.put, List.setIfInBounds_toArray, List.set_cons_zero, List.set_cons_succ, i64_w, i32_w]
                rfl
              refine take_ (i := 15) (N := some 36) (v := ?_) (a' := ?_) #[true, true, true, true, true, true, true, true, true, true, true, true, true, true, true, true, false, false, false, false, false, false, false] rfl rfl (take_ofW HT_.out HW_.out (by kernel_rfl)) (fun _ _ _ h => h) (Or.inl ⟨by rfl, ?_⟩) hHeld ?_ ?_
              rotate_left
              · rintro w' ⟨s0, s1, s2, s3, s4, s5, s6, s7⟩
                go_simp
                with_reducible rfl
              rotate_left
              · simp only [Act.put, List.setIfInBounds_toArray, List.set_cons_zero, List.set_cons_succ, i64_w, i32_w]
                rfl
              refine take_ (i := 16) (N := some 37) (v := ?_) (a' := ?_) #[true, true, true, true, true, true, true, true, true, true, true, true, true, true, true, true, true, false, false, false, false, false, false] rfl rfl (take_ofW HT_.out HW_.out (by kernel_rfl)) (fun _ _ _ h => h) (Or.inl ⟨by rfl, ?_⟩) hHeld ?_ ?_
              rotate_left
              · rintro w' ⟨s0, s1, s2, s3, s4, s5, s6, s7⟩
                go_simp
                with_reducible rfl
              rotate_left
              · simp only [Act.put, List.setIfInBounds_toArray, List.set_cons_zero, List.set_cons_succ, i64_w, i32_w]
                rfl
              refine take_ (i := 18) (N := some 39) (v := ?_) (a' := ?_) #[true, true, true, true, true, true, true, true, true, true, true, true, true, true, true, true, true, false, true, false, false, false, false] rfl rfl (take_ofW HT_.out HW_.out (by kernel_rfl)) (fun _ _ _ h => h) (Or.inl ⟨by rfl, ?_⟩) hHeld ?_ ?_
              rotate_left
              · rintro w' ⟨s0, s1, s2, s3, s4, s5, s6, s7⟩
                go_simp
                with_reducible rfl
              rotate_left
              · simp only [Act.put, List.setIfInBounds_toArray, List.set_cons_zero, List.set_cons_succ, i64_w, i32_w]
                rfl
              refine take_ (i := 19) (N := some 40) (v := ?_) (a' := ?_) #[true, true, true, true, true, true, true, true, true, true, true, true, true, true, true, true, true, false, true, true, false, false, false] rfl rfl (take_ofW HT_.out HW_.out (by kernel_rfl)) (fun _ _ _ h => h) (Or.inl ⟨by rfl, ?_⟩) hHeld ?_ ?_
              rotate_left
              · rintro w' ⟨s0, s1, s2, s3, s4, s5, s6, s7⟩
                go_simp
                with_reducible rfl
              rotate_left
              · simp only [Act.put, List.setIfInBounds_toArray, List.set_cons_zero, List.set_cons_succ, i64_w, i32_w]
                rfl
              refine one_ (i := 17) (N := some 38) #[true, true, true, true, true, true, true, true, true, true, true, true, true, true, true, true, true, true, true, true, false, false, false] rfl rfl (one_of HT_.out (by kernel_rfl)) (by decide) (fun K hK => ?_)
              refine goes_ Try.func39 (by kernel_rfl) rfl #[.agg #[.int .u64 a0_0, .int .u64 a0_1, .int .u64 a0_2], .agg #[.int .u64 a1_0, .int .u64 a1_1, .int .u64 a1_2]] (by rfl) rfl rfl (by (try simp only [List.map_toArray, List.map_cons, List.map_nil]); first | done | rfl | (simp only [List.length_drop, List.length_take]; rfl)) ?_
              with_reducible refine (wide_Wide_And.calls a0_0 a0_1 a0_2 a1_0 a1_1 a1_2 t460 t461 t462 _ A12.out).mono ?_
              rintro e w48 ⟨rfl, hb⟩
              refine ⟨_, rfl, ?_⟩
              have n0_ := Aside0.mk (blk_below (g := gb437) (o := .cells #[.int .u64 a0_0, .int .u64 a0_1, .int .u64 a0_2] 27 (0, 0)) (by (with_reducible repeat (first | refine blk_drewN ?_ _ | refine blk_drew ?_ | refine blk_alloc ?_ _)); exact BK437.out) hb)
              have n1_ := Aside0.mk (blk_below (g := gb438) (o := .cells #[.int .u64 a1_0, .int .u64 a1_1, .int .u64 a1_2] 27 (0, 0)) (by (with_reducible repeat (first | refine blk_drewN ?_ _ | refine blk_drew ?_ | refine blk_alloc ?_ _)); exact BK438.out) hb)
              have n2_ := Aside0.mk (blk_below (g := gb439) (o := .cells #[.int .u64 a2_0, .int .u64 a2_1] 25 (0, 0)) (by (with_reducible repeat (first | refine blk_drewN ?_ _ | refine blk_drew ?_ | refine blk_alloc ?_ _)); exact BK439.out) hb)
              have n3_ := Aside0.mk (blk_below (g := gb443) (o := .cells #[.int .u64 t440, .int .u64 t441] 25 (0, 0)) (by (with_reducible repeat (first | refine blk_drewN ?_ _ | refine blk_drew ?_ | refine blk_alloc ?_ _)); exact BK443.out) hb)
              have n4_ := Aside0.mk (blk_below (g := gb447) (o := .cells #[.int .u64 t444, .int .u64 t445] 25 (0, 0)) (by (with_reducible repeat (first | refine blk_drewN ?_ _ | refine blk_drew ?_ | refine blk_alloc ?_ _)); exact BK447.out) hb)
              have n5_ := Aside0.mk (below_step (by repeat (first | (with_reducible first | exact HB.out | apply below_alloc | apply pw_below_drewN | apply below_drew1 | refine below_set ?_ GE437.out | refine below_set ?_ GE438.out | refine below_set ?_ GE439.out | refine below_set ?_ GE443.out | refine below_set ?_ GE447.out) | exact HB.out)) hb)
              clear BK437
              clear BK438
              clear BK439
              clear BK443
              clear BK447
              clear HB
              have BK437 := n0_
              have BK438 := n1_
              have BK439 := n2_
              have BK443 := n3_
              have BK447 := n4_
              have HB := n5_
              clear n0_ n1_ n2_ n3_ n4_ n5_
              (try clear hb)
              (try clear hb2)
              (try clear hk)
              (try clear hi)
              refine hK.out _ _ ⟨(blk_cell BK439.out 0).trans rfl, (blk_cell BK439.out 1).trans rfl, (blk_cell BK437.out 0).trans rfl, (blk_cell BK437.out 1).trans rfl, (blk_cell BK437.out 2).trans rfl, (blk_cell BK438.out 0).trans rfl, (blk_cell BK438.out 1).trans rfl, (blk_cell BK438.out 2).trans rfl⟩ (fun hHeld => ?_)
              clear hK K
              refine norm_ (a' := ?_) ?_ ?_
              rotate_left
              · show Act.put _ (some 38) _ = _
                simp only [Act.put, List.setIfInBounds_toArray, List.set_cons_zero, List.set_cons_succ, i64_w, i32_w]
                rfl
              refine one_ (i := 20) (N := some 41) #[true, true, true, true, true, true, true, true, true, true, true, true, true, true, true, true, true, true, true, true, true, false, false] rfl rfl (one_of HT_.out (by kernel_rfl)) (by decide) (fun K hK => ?_)
              refine goes_ Try.func40 (by kernel_rfl) rfl #[.agg #[.int .u64 a0_0, .int .u64 a0_1, .int .u64 a0_2], .agg #[.int .u64 a1_0, .int .u64 a1_1, .int .u64 a1_2]] (by rfl) rfl rfl (by (try simp only [List.map_toArray, List.map_cons, List.map_nil]); first | done | rfl | (simp only [List.length_drop, List.length_take]; rfl)) ?_
              with_reducible refine (paymasterref03_And.calls k a0_0 a0_1 a0_2 a1_0 a1_1 a1_2 t463 t464 t465 _ A13.out).mono ?_
              rintro e w49 ⟨rfl, hb⟩
              refine ⟨_, rfl, ?_⟩
              have n0_ := Aside0.mk (blk_below (g := gb437) (o := .cells #[.int .u64 a0_0, .int .u64 a0_1, .int .u64 a0_2] 27 (0, 0)) (by (with_reducible repeat (first | refine blk_drewN ?_ _ | refine blk_drew ?_ | refine blk_alloc ?_ _)); exact BK437.out) hb)
              have n1_ := Aside0.mk (blk_below (g := gb438) (o := .cells #[.int .u64 a1_0, .int .u64 a1_1, .int .u64 a1_2] 27 (0, 0)) (by (with_reducible repeat (first | refine blk_drewN ?_ _ | refine blk_drew ?_ | refine blk_alloc ?_ _)); exact BK438.out) hb)
              have n2_ := Aside0.mk (blk_below (g := gb439) (o := .cells #[.int .u64 a2_0, .int .u64 a2_1] 25 (0, 0)) (by (with_reducible repeat (first | refine blk_drewN ?_ _ | refine blk_drew ?_ | refine blk_alloc ?_ _)); exact BK439.out) hb)
              have n3_ := Aside0.mk (blk_below (g := gb443) (o := .cells #[.int .u64 t440, .int .u64 t441] 25 (0, 0)) (by (with_reducible repeat (first | refine blk_drewN ?_ _ | refine blk_drew ?_ | refine blk_alloc ?_ _)); exact BK443.out) hb)
              have n4_ := Aside0.mk (blk_below (g := gb447) (o := .cells #[.int .u64 t444, .int .u64 t445] 25 (0, 0)) (by (with_reducible repeat (first | refine blk_drewN ?_ _ | refine blk_drew ?_ | refine blk_alloc ?_ _)); exact BK447.out) hb)
              have n5_ := Aside0.mk (below_step (by repeat (first | (with_reducible first | exact HB.out | apply below_alloc | apply pw_below_drewN | apply below_drew1 | refine below_set ?_ GE437.out | refine below_set ?_ GE438.out | refine below_set ?_ GE439.out | refine below_set ?_ GE443.out | refine below_set ?_ GE447.out) | exact HB.out)) hb)
              clear BK437
              clear BK438
              clear BK439
              clear BK443
              clear BK447
              clear HB
              have BK437 := n0_
              have BK438 := n1_
              have BK439 := n2_
              have BK443 := n3_
              have BK447 := n4_
              have HB := n5_
              clear n0_ n1_ n2_ n3_ n4_ n5_
              (try clear hb)
              (try clear hb2)
              (try clear hk)
              (try clear hi)
              refine hK.out _ _ ⟨(blk_cell BK439.out 0).trans rfl, (blk_cell BK439.out 1).trans rfl, (blk_cell BK437.out 0).trans rfl, (blk_cell BK437.out 1).trans rfl, (blk_cell BK437.out 2).trans rfl, (blk_cell BK438.out 0).trans rfl, (blk_cell BK438.out 1).trans rfl, (blk_cell BK438.out 2).trans rfl⟩ (fun hHeld => ?_)
              clear hK K
              refine norm_ (a' := ?_) ?_ ?_
              rotate_left
              · show Act.put _ (some 41) _ = _
                simp only [Act.put, List.setIfInBounds_toArray, List.set_cons_zero, List.set_cons_succ, i64_w, i32_w]
                rfl
              refine pure_ (i := 21) (N := some 42) (v := ?_) (a' := ?_) #[true, true, true, true, true, true, true, true, true, true, true, true, true, true, true, true, true, true, true, true, true, true, false] rfl rfl (any_of HT_.out (by kernel_rfl)) (fun _ _ _ h => h) (Or.inl ⟨by rfl, ?_⟩) ?_ ?_
              rotate_left
              · intro w'
                go_simp
                with_reducible rfl
              rotate_left
              · simp only [Act.put, List.setIfInBounds_toArray, List.set_cons_zero, List.set_cons_succ, i64_w, i32_w]
                rfl
              refine pure_ (i := 22) (N := some 43) (v := ?_) (a' := ?_) #[true, true, true, true, true, true, true, true, true, true, true, true, true, true, true, true, true, true, true, true, true, true, true] rfl rfl (any_of HT_.out (by kernel_rfl)) (fun _ _ _ h => h) (Or.inl ⟨by rfl, ?_⟩) ?_ ?_
              rotate_left
              · intro w'
                go_simp
                with_reducible rfl
              rotate_left
              · simp only [Act.put, List.setIfInBounds_toArray, List.set_cons_zero, List.set_cons_succ, i64_w, i32_w]
                rfl
              refine done_ (done_of HT_.out (by kernel_rfl)) ?_
              try go_wp2
              have n0_ := Aside0.mk (blk_drew BK437.out)
              have n1_ := Aside0.mk (blk_drew BK438.out)
              have n2_ := Aside0.mk (blk_drew BK439.out)
              have n3_ := Aside0.mk (blk_drew BK443.out)
              have n4_ := Aside0.mk (blk_drew BK447.out)
              have n5_ := Aside0.mk (below_drew1 HB.out)
              clear BK437
              clear BK438
              clear BK439
              clear BK443
              clear BK447
              clear HB
              have BK437 := n0_
              have BK438 := n1_
              have BK439 := n2_
              have BK443 := n3_
              have BK447 := n4_
              have HB := n5_
              clear n0_ n1_ n2_ n3_ n4_ n5_
              refine start_ (n := 27) (S := fun w' => w'.cell? ⟨gb437, 0, none⟩ = some (.int .u64 a0_0) ∧ w'.cell? ⟨gb437, 1, none⟩ = some (.int .u64 a0_1) ∧ w'.cell? ⟨gb437, 2, none⟩ = some (.int .u64 a0_2) ∧ w'.cell? ⟨gb438, 0, none⟩ = some (.int .u64 a1_0) ∧ w'.cell? ⟨gb438, 1, none⟩ = some (.int .u64 a1_1) ∧ w'.cell? ⟨gb438, 2, none⟩ = some (.int .u64 a1_2) ∧ w'.cell? ⟨gb443, 0, none⟩ = some (.int .u64 t440) ∧ w'.cell? ⟨gb443, 1, none⟩ = some (.int .u64 t441) ∧ w'.cell? ⟨gb447, 0, none⟩ = some (.int .u64 t444) ∧ w'.cell? ⟨gb447, 1, none⟩ = some (.int .u64 t445)) (ds := []) #[false, false, false, false, false, false, false, false, false, false, false, false, false, false, false, false, false, false, false, false, false, false, false, false, false, false, false] (by kernel_rfl) rfl rfl ⟨(blk_cell BK437.out 0).trans rfl, (blk_cell BK437.out 1).trans rfl, (blk_cell BK437.out 2).trans rfl, (blk_cell BK438.out 0).trans rfl, (blk_cell BK438.out 1).trans rfl, (blk_cell BK438.out 2).trans rfl, (blk_cell BK443.out 0).trans rfl, (blk_cell BK443.out 1).trans rfl, (blk_cell BK447.out 0).trans rfl, (blk_cell BK447.out 1).trans rfl⟩ (fun hHeld => ?_); refine with_tabW paymasterlaw03_WideAdds.tab5 paymasterlaw03_WideAdds.bits5 (fun HT_ HW_ => ?_)
              generalize w49.drew = w50 at BK437 BK438 BK439 BK443 BK447 HB hHeld ⊢
              refine take_ (i := 0) (N := some 44) (v := ?_) (a' := ?_) #[true, false, false, false, false, false, false, false, false, false, false, false, false, false, false, false, false, false, false, false, false, false, false, false, false, false, false] rfl rfl (take_ofW HT_.out HW_.out (by kernel_rfl)) (fun _ _ _ h => h) (Or.inl ⟨by rfl, ?_⟩) hHeld ?_ ?_
              rotate_left
              · rintro w' ⟨s0, s1, s2, s3, s4, s5, s6, s7, s8, s9⟩
                go_simp
                with_reducible rfl
              rotate_left
              · simp only [Act.put, List.setIfInBounds_toArray, List.set_cons_zero, List.set_cons_succ, i64_w, i32_w]
                rfl
              refine take_ (i := 1) (N := some 45) (v := ?_) (a' := ?_) #[true, true, false, false, false, false, false, false, false, false, false, false, false, false, false, false, false, false, false, false, false, false, false, false, false, false, false] rfl rfl (take_ofW HT_.out HW_.out (by kernel_rfl)) (fun _ _ _ h => h) (Or.inl ⟨by rfl, ?_⟩) hHeld ?_ ?_
              rotate_left
              · rintro w' ⟨s0, s1, s2, s3, s4, s5, s6, s7, s8, s9⟩
                go_simp
                with_reducible rfl
              rotate_left
              · simp only [Act.put, List.setIfInBounds_toArray, List.set_cons_zero, List.set_cons_succ, i64_w, i32_w]
                rfl
              refine take_ (i := 3) (N := some 47) (v := ?_) (a' := ?_) #[true, true, false, true, false, false, false, false, false, false, false, false, false, false, false, false, false, false, false, false, false, false, false, false, false, false, false] rfl rfl (take_ofW HT_.out HW_.out (by kernel_rfl)) (fun _ _ _ h => h) (Or.inl ⟨by rfl, ?_⟩) hHeld ?_ ?_
              rotate_left
              · rintro w' ⟨s0, s1, s2, s3, s4, s5, s6, s7, s8, s9⟩
                go_simp
                with_reducible rfl
              rotate_left
              · simp only [Act.put, List.setIfInBounds_toArray, List.set_cons_zero, List.set_cons_succ, i64_w, i32_w]
                rfl
              refine take_ (i := 4) (N := some 48) (v := ?_) (a' := ?_) #[true, true, false, true, true, false, false, false, false, false, false, false, false, false, false, false, false, false, false, false, false, false, false, false, false, false, false] rfl rfl (take_ofW HT_.out HW_.out (by kernel_rfl)) (fun _ _ _ h => h) (Or.inl ⟨by rfl, ?_⟩) hHeld ?_ ?_
              rotate_left
              · rintro w' ⟨s0, s1, s2, s3, s4, s5, s6, s7, s8, s9⟩
                go_simp
                with_reducible rfl
              rotate_left
              · simp only [Act.put, List.setIfInBounds_toArray, List.set_cons_zero, List.set_cons_succ, i64_w, i32_w]
                rfl
              refine one_ (i := 2) (N := some 46) #[true, true, true, true, true, false, false, false, false, false, false, false, false, false, false, false, false, false, false, false, false, false, false, false, false, false, false] rfl rfl (one_of HT_.out (by kernel_rfl)) (by decide) (fun K hK => ?_)
              refine goes_ Try.func41 (by kernel_rfl) rfl #[.agg #[.int .u64 a0_0, .int .u64 a0_1, .int .u64 a0_2], .agg #[.int .u64 a1_0, .int .u64 a1_1, .int .u64 a1_2]] (by rfl) rfl rfl (by (try simp only [List.map_toArray, List.map_cons, List.map_nil]); first | done | rfl | (simp only [List.length_drop, List.length_take]; rfl)) ?_
              with_reducible refine (wide_Wide_Cmp.calls k a0_0 a0_1 a0_2 a1_0 a1_1 a1_2 t474 _ A15.out).mono ?_
              rintro e w51 ⟨rfl, hb⟩
              refine ⟨_, rfl, ?_⟩
              have n0_ := Aside0.mk (blk_below (g := gb437) (o := .cells #[.int .u64 a0_0, .int .u64 a0_1, .int .u64 a0_2] 27 (0, 0)) (by (with_reducible repeat (first | refine blk_drewN ?_ _ | refine blk_drew ?_ | refine blk_alloc ?_ _)); exact BK437.out) hb)
              have n1_ := Aside0.mk (blk_below (g := gb438) (o := .cells #[.int .u64 a1_0, .int .u64 a1_1, .int .u64 a1_2] 27 (0, 0)) (by (with_reducible repeat (first | refine blk_drewN ?_ _ | refine blk_drew ?_ | refine blk_alloc ?_ _)); exact BK438.out) hb)
              have n2_ := Aside0.mk (blk_below (g := gb439) (o := .cells #[.int .u64 a2_0, .int .u64 a2_1] 25 (0, 0)) (by (with_reducible repeat (first | refine blk_drewN ?_ _ | refine blk_drew ?_ | refine blk_alloc ?_ _)); exact BK439.out) hb)
              have n3_ := Aside0.mk (blk_below (g := gb443) (o := .cells #[.int .u64 t440, .int .u64 t441] 25 (0, 0)) (by (with_reducible repeat (first | refine blk_drewN ?_ _ | refine blk_drew ?_ | refine blk_alloc ?_ _)); exact BK443.out) hb)
              have n4_ := Aside0.mk (blk_below (g := gb447) (o := .cells #[.int .u64 t444, .int .u64 t445] 25 (0, 0)) (by (with_reducible repeat (first | refine blk_drewN ?_ _ | refine blk_drew ?_ | refine blk_alloc ?_ _)); exact BK447.out) hb)
              have n5_ := Aside0.mk (below_step (by repeat (first | (with_reducible first | exact HB.out | apply below_alloc | apply pw_below_drewN | apply below_drew1 | refine below_set ?_ GE437.out | refine below_set ?_ GE438.out | refine below_set ?_ GE439.out | refine below_set ?_ GE443.out | refine below_set ?_ GE447.out) | exact HB.out)) hb)
              clear BK437
              clear BK438
              clear BK439
              clear BK443
              clear BK447
              clear HB
              have BK437 := n0_
              have BK438 := n1_
              have BK439 := n2_
              have BK443 := n3_
              have BK447 := n4_
              have HB := n5_
              clear n0_ n1_ n2_ n3_ n4_ n5_
              (try clear hb)
              (try clear hb2)
              (try clear hk)
              (try clear hi)
              refine hK.out _ _ ⟨(blk_cell BK437.out 0).trans rfl, (blk_cell BK437.out 1).trans rfl, (blk_cell BK437.out 2).trans rfl, (blk_cell BK438.out 0).trans rfl, (blk_cell BK438.out 1).trans rfl, (blk_cell BK438.out 2).trans rfl, (blk_cell BK443.out 0).trans rfl, (blk_cell BK443.out 1).trans rfl, (blk_cell BK447.out 0).trans rfl, (blk_cell BK447.out 1).trans rfl⟩ (fun hHeld => ?_)
              clear hK K
              refine norm_ (a' := ?_) ?_ ?_
              rotate_left
              · show Act.put _ (some 46) _ = _
                simp only [Act.put, List.setIfInBounds_toArray, List.set_cons_zero, List.set_cons_succ, i64_w, i32_w]
                rfl
              refine one_ (i := 5) (N := some 49) #[true, true, true, true, true, true, false, false, false, false, false, false, false, false, false, false, false, false, false, false, false, false, false, false, false, false, false] rfl rfl (one_of HT_.out (by kernel_rfl)) (by decide) (fun K hK => ?_)
              refine goes_ Try.func42 (by kernel_rfl) rfl #[.agg #[.int .u64 a0_0, .int .u64 a0_1, .int .u64 a0_2], .agg #[.int .u64 a1_0, .int .u64 a1_1, .int .u64 a1_2]] (by rfl) rfl rfl (by (try simp only [List.map_toArray, List.map_cons, List.map_nil]); first | done | rfl | (simp only [List.length_drop, List.length_take]; rfl)) ?_
              with_reducible refine (paymasterref03_Cmp.calls k a0_0 a0_1 a0_2 a1_0 a1_1 a1_2 t475 _ A16.out).mono ?_
              rintro e w52 ⟨rfl, hb⟩
              refine ⟨_, rfl, ?_⟩
              have n0_ := Aside0.mk (blk_below (g := gb437) (o := .cells #[.int .u64 a0_0, .int .u64 a0_1, .int .u64 a0_2] 27 (0, 0)) (by (with_reducible repeat (first | refine blk_drewN ?_ _ | refine blk_drew ?_ | refine blk_alloc ?_ _)); exact BK437.out) hb)
              have n1_ := Aside0.mk (blk_below (g := gb438) (o := .cells #[.int .u64 a1_0, .int .u64 a1_1, .int .u64 a1_2] 27 (0, 0)) (by (with_reducible repeat (first | refine blk_drewN ?_ _ | refine blk_drew ?_ | refine blk_alloc ?_ _)); exact BK438.out) hb)
              have n2_ := Aside0.mk (blk_below (g := gb439) (o := .cells #[.int .u64 a2_0, .int .u64 a2_1] 25 (0, 0)) (by (with_reducible repeat (first | refine blk_drewN ?_ _ | refine blk_drew ?_ | refine blk_alloc ?_ _)); exact BK439.out) hb)
              have n3_ := Aside0.mk (blk_below (g := gb443) (o := .cells #[.int .u64 t440, .int .u64 t441] 25 (0, 0)) (by (with_reducible repeat (first | refine blk_drewN ?_ _ | refine blk_drew ?_ | refine blk_alloc ?_ _)); exact BK443.out) hb)
              have n4_ := Aside0.mk (blk_below (g := gb447) (o := .cells #[.int .u64 t444, .int .u64 t445] 25 (0, 0)) (by (with_reducible repeat (first | refine blk_drewN ?_ _ | refine blk_drew ?_ | refine blk_alloc ?_ _)); exact BK447.out) hb)
              have n5_ := Aside0.mk (below_step (by repeat (first | (with_reducible first | exact HB.out | apply below_alloc | apply pw_below_drewN | apply below_drew1 | refine below_set ?_ GE437.out | refine below_set ?_ GE438.out | refine below_set ?_ GE439.out | refine below_set ?_ GE443.out | refine below_set ?_ GE447.out) | exact HB.out)) hb)
              clear BK437
              clear BK438
              clear BK439
              clear BK443
              clear BK447
              clear HB
              have BK437 := n0_
              have BK438 := n1_
              have BK439 := n2_
              have BK443 := n3_
              have BK447 := n4_
              have HB := n5_
              clear n0_ n1_ n2_ n3_ n4_ n5_
              (try clear hb)
              (try clear hb2)
              (try clear hk)
              (try clear hi)
              refine hK.out _ _ ⟨(blk_cell BK437.out 0).trans rfl, (blk_cell BK437.out 1).trans rfl, (blk_cell BK437.out 2).trans rfl, (blk_cell BK438.out 0).trans rfl, (blk_cell BK438.out 1).trans rfl, (blk_cell BK438.out 2).trans rfl, (blk_cell BK443.out 0).trans rfl, (blk_cell BK443.out 1).trans rfl, (blk_cell BK447.out 0).trans rfl, (blk_cell BK447.out 1).trans rfl⟩ (fun hHeld => ?_)
              clear hK K
              refine norm_ (a' := ?_) ?_ ?_
              rotate_left
              · show Act.put _ (some 49) _ = _
                simp only [Act.put, List.setIfInBounds_toArray, List.set_cons_zero, List.set_cons_succ, i64_w, i32_w]
                rfl
              refine pure_ (i := 6) (N := some 50) (v := ?_) (a' := ?_) #[true, true, true, true, true, true, true, false, false, false, false, false, false, false, false, false, false, false, false, false, false, false, false, false, false, false, false] rfl rfl (any_of HT_.out (by kernel_rfl)) (fun _ _ _ h => h) (Or.inl ⟨by rfl, ?_⟩) ?_ ?_
              rotate_left
              · intro w'
                go_simp
                with_reducible rfl
              rotate_left
              · simp only [Act.put, List.setIfInBounds_toArray, List.set_cons_zero, List.set_cons_succ, i64_w, i32_w]
                rfl
              refine pure_ (i := 7) (N := some 51) (v := ?_) (a' := ?_) #[true, true, true, true, true, true, true, true, false, false, false, false, false, false, false, false, false, false, false, false, false, false, false, false, false, false, false] rfl rfl (any_of HT_.out (by kernel_rfl)) (fun _ _ _ h => h) (Or.inl ⟨by rfl, ?_⟩) ?_ ?_
              rotate_left
              · intro w'
                go_simp
                with_reducible rfl
              rotate_left
              · simp only [Act.put, List.setIfInBounds_toArray, List.set_cons_zero, List.set_cons_succ, i64_w, i32_w]
                rfl
              refine take_ (i := 8) (N := some 52) (v := ?_) (a' := ?_) #[true, true, true, true, true, true, true, true, true, false, false, false, false, false, false, false, false, false, false, false, false, false, false, false, false, false, false] rfl rfl (take_ofW HT_.out HW_.out (by kernel_rfl)) (fun _ _ _ h => h) (Or.inl ⟨by rfl, ?_⟩) hHeld ?_ ?_
              rotate_left
              · rintro w' ⟨s0, s1, s2, s3, s4, s5, s6, s7, s8, s9⟩
                go_simp
                with_reducible rfl
              rotate_left
              · simp only [Act.put, List.setIfInBounds_toArray, List.set_cons_zero, List.set_cons_succ, i64_w, i32_w]
                rfl
              refine take_ (i := 9) (N := some 53) (v := ?_) (a' := ?_) #[true, true, true, true, true, true, true, true, true, true, false, false, false, false, false, false, false, false, false, false, false, false, false, false, false, false, false] rfl rfl (take_ofW HT_.out HW_.out (by kernel_rfl)) (fun _ _ _ h => h) (Or.inl ⟨by rfl, ?_⟩) hHeld ?_ ?_
              rotate_left
              · rintro w' ⟨s0, s1, s2, s3, s4, s5, s6, s7, s8, s9⟩
                go_simp
                with_reducible rfl
              rotate_left
              · simp only [Act.put, List.setIfInBounds_toArray, List.set_cons_zero, List.set_cons_succ, i64_w, i32_w]
                rfl
              refine take_ (i := 11) (N := some 55) (v := ?_) (a' := ?_) #[true, true, true, true, true, true, true, true, true, true, false, true, false, false, false, false, false, false, false, false, false, false, false, false, false, false, false] rfl rfl (take_ofW HT_.out HW_.out (by kernel_rfl)) (fun _ _ _ h => h) (Or.inl ⟨by rfl, ?_⟩) hHeld ?_ ?_
              rotate_left
              · rintro w' ⟨s0, s1, s2, s3, s4, s5, s6, s7, s8, s9⟩
                go_simp
                with_reducible rfl
              rotate_left
              · simp only [Act.put, List.setIfInBounds_toArray, List.set_cons_zero, List.set_cons_succ, i64_w, i32_w]
                rfl
              refine take_ (i := 12) (N := some 56) (v := ?_) (a' := ?_) #[true, true, true, true, true, true, true, true, true, true, false, true, true, false, false, false, false, false, false, false, false, false, false, false, false, false, false] rfl rfl (take_ofW HT_.out HW_.out (by kernel_rfl)) (fun _ _ _ h => h) (Or.inl ⟨by rfl, ?_⟩) hHeld ?_ ?_
              rotate_left
              · rintro w' ⟨s0, s1, s2, s3, s4, s5, s6, s7, s8, s9⟩
                go_simp
                with_reducible rfl
              rotate_left
              · simp only [Act.put, List.setIfInBounds_toArray, List.set_cons_zero, List.set_cons_succ, i64_w, i32_w]
                rfl
              refine one_ (i := 10) (N := some 54) #[true, true, true, true, true, true, true, true, true, true, true, true, true, false, false, false, false, false, false, false, false, false, false, false, false, false, false] rfl rfl (one_of HT_.out (by kernel_rfl)) (by decide) (fun K hK => ?_)
              refine goes_ Try.func43 (by kernel_rfl) rfl #[.agg #[.int .u64 a0_0, .int .u64 a0_1, .int .u64 a0_2], .agg #[.int .u64 a1_0, .int .u64 a1_1, .int .u64 a1_2]] (by rfl) rfl rfl (by (try simp only [List.map_toArray, List.map_cons, List.map_nil]); first | done | rfl | (simp only [List.length_drop, List.length_take]; rfl)) ?_
              with_reducible refine (wide_Less.calls k a0_0 a0_1 a0_2 a1_0 a1_1 a1_2 t476 _ A18.out).mono ?_
              rintro e w53 ⟨rfl, hb⟩
              refine ⟨_, rfl, ?_⟩
              have n0_ := Aside0.mk (blk_below (g := gb437) (o := .cells #[.int .u64 a0_0, .int .u64 a0_1, .int .u64 a0_2] 27 (0, 0)) (by (with_reducible repeat (first | refine blk_drewN ?_ _ | refine blk_drew ?_ | refine blk_alloc ?_ _)); exact BK437.out) hb)
              have n1_ := Aside0.mk (blk_below (g := gb438) (o := .cells #[.int .u64 a1_0, .int .u64 a1_1, .int .u64 a1_2] 27 (0, 0)) (by (with_reducible repeat (first | refine blk_drewN ?_ _ | refine blk_drew ?_ | refine blk_alloc ?_ _)); exact BK438.out) hb)
              have n2_ := Aside0.mk (blk_below (g := gb439) (o := .cells #[.int .u64 a2_0, .int .u64 a2_1] 25 (0, 0)) (by (with_reducible repeat (first | refine blk_drewN ?_ _ | refine blk_drew ?_ | refine blk_alloc ?_ _)); exact BK439.out) hb)
              have n3_ := Aside0.mk (blk_below (g := gb443) (o := .cells #[.int .u64 t440, .int .u64 t441] 25 (0, 0)) (by (with_reducible repeat (first | refine blk_drewN ?_ _ | refine blk_drew ?_ | refine blk_alloc ?_ _)); exact BK443.out) hb)
              have n4_ := Aside0.mk (blk_below (g := gb447) (o := .cells #[.int .u64 t444, .int .u64 t445] 25 (0, 0)) (by (with_reducible repeat (first | refine blk_drewN ?_ _ | refine blk_drew ?_ | refine blk_alloc ?_ _)); exact BK447.out) hb)
              have n5_ := Aside0.mk (below_step (by repeat (first | (with_reducible first | exact HB.out | apply below_alloc | apply pw_below_drewN | apply below_drew1 | refine below_set ?_ GE437.out | refine below_set ?_ GE438.out | refine below_set ?_ GE439.out | refine below_set ?_ GE443.out | refine below_set ?_ GE447.out) | exact HB.out)) hb)
              clear BK437
              clear BK438
              clear BK439
              clear BK443
              clear BK447
              clear HB
              have BK437 := n0_
              have BK438 := n1_
              have BK439 := n2_
              have BK443 := n3_
              have BK447 := n4_
              have HB := n5_
              clear n0_ n1_ n2_ n3_ n4_ n5_
              (try clear hb)
              (try clear hb2)
              (try clear hk)
              (try clear hi)
              refine hK.out _ _ ⟨(blk_cell BK437.out 0).trans rfl, (blk_cell BK437.out 1).trans rfl, (blk_cell BK437.out 2).trans rfl, (blk_cell BK438.out 0).trans rfl, (blk_cell BK438.out 1).trans rfl, (blk_cell BK438.out 2).trans rfl, (blk_cell BK443.out 0).trans rfl, (blk_cell BK443.out 1).trans rfl, (blk_cell BK447.out 0).trans rfl, (blk_cell BK447.out 1).trans rfl⟩ (fun hHeld => ?_)
              clear hK K
              refine norm_ (a' := ?_) ?_ ?_
              rotate_left
              · show Act.put _ (some 54) _ = _
                simp only [Act.put, List.setIfInBounds_toArray, List.set_cons_zero, List.set_cons_succ, i64_w, i32_w]
                rfl
              refine one_ (i := 13) (N := some 57) #[true, true, true, true, true, true, true, true, true, true, true, true, true, true, false, false, false, false, false, false, false, false, false, false, false, false, false] rfl rfl (one_of HT_.out (by kernel_rfl)) (by decide) (fun K hK => ?_)
              refine goes_ Try.func44 (by kernel_rfl) rfl #[.agg #[.int .u64 a0_0, .int .u64 a0_1, .int .u64 a0_2], .agg #[.int .u64 a1_0, .int .u64 a1_1, .int .u64 a1_2]] (by rfl) rfl rfl (by (try simp only [List.map_toArray, List.map_cons, List.map_nil]); first | done | rfl | (simp only [List.length_drop, List.length_take]; rfl)) ?_
              with_reducible refine (paymasterref03_Less.calls k a0_0 a0_1 a0_2 a1_0 a1_1 a1_2 t477 _ A19.out).mono ?_
              rintro e w54 ⟨rfl, hb⟩
              refine ⟨_, rfl, ?_⟩
              have n0_ := Aside0.mk (blk_below (g := gb437) (o := .cells #[.int .u64 a0_0, .int .u64 a0_1, .int .u64 a0_2] 27 (0, 0)) (by (with_reducible repeat (first | refine blk_drewN ?_ _ | refine blk_drew ?_ | refine blk_alloc ?_ _)); exact BK437.out) hb)
              have n1_ := Aside0.mk (blk_below (g := gb438) (o := .cells #[.int .u64 a1_0, .int .u64 a1_1, .int .u64 a1_2] 27 (0, 0)) (by (with_reducible repeat (first | refine blk_drewN ?_ _ | refine blk_drew ?_ | refine blk_alloc ?_ _)); exact BK438.out) hb)
              have n2_ := Aside0.mk (blk_below (g := gb439) (o := .cells #[.int .u64 a2_0, .int .u64 a2_1] 25 (0, 0)) (by (with_reducible repeat (first | refine blk_drewN ?_ _ | refine blk_drew ?_ | refine blk_alloc ?_ _)); exact BK439.out) hb)
              have n3_ := Aside0.mk (blk_below (g := gb443) (o := .cells #[.int .u64 t440, .int .u64 t441] 25 (0, 0)) (by (with_reducible repeat (first | refine blk_drewN ?_ _ | refine blk_drew ?_ | refine blk_alloc ?_ _)); exact BK443.out) hb)
              have n4_ := Aside0.mk (blk_below (g := gb447) (o := .cells #[.int .u64 t444, .int .u64 t445] 25 (0, 0)) (by (with_reducible repeat (first | refine blk_drewN ?_ _ | refine blk_drew ?_ | refine blk_alloc ?_ _)); exact BK447.out) hb)
              have n5_ := Aside0.mk (below_step (by repeat (first | (with_reducible first | exact HB.out | apply below_alloc | apply pw_below_drewN | apply below_drew1 | refine below_set ?_ GE437.out | refine below_set ?_ GE438.out | refine below_set ?_ GE439.out | refine below_set ?_ GE443.out | refine below_set ?_ GE447.out) | exact HB.out)) hb)
              clear BK437
              clear BK438
              clear BK439
              clear BK443
              clear BK447
              clear HB
              have BK437 := n0_
              have BK438 := n1_
              have BK439 := n2_
              have BK443 := n3_
              have BK447 := n4_
              have HB := n5_
              clear n0_ n1_ n2_ n3_ n4_ n5_
              (try clear hb)
              (try clear hb2)
              (try clear hk)
              (try clear hi)
              refine hK.out _ _ ⟨(blk_cell BK437.out 0).trans rfl, (blk_cell BK437.out 1).trans rfl, (blk_cell BK437.out 2).trans rfl, (blk_cell BK438.out 0).trans rfl, (blk_cell BK438.out 1).trans rfl, (blk_cell BK438.out 2).trans rfl, (blk_cell BK443.out 0).trans rfl, (blk_cell BK443.out 1).trans rfl, (blk_cell BK447.out 0).trans rfl, (blk_cell BK447.out 1).trans rfl⟩ (fun hHeld => ?_)
              clear hK K
              refine norm_ (a' := ?_) ?_ ?_
              rotate_left
              · show Act.put _ (some 57) _ = _
                simp only [Act.put, List.setIfInBounds_toArray, List.set_cons_zero, List.set_cons_succ, i64_w, i32_w]
                rfl
              refine pure_ (i := 14) (N := some 58) (v := ?_) (a' := ?_) #[true, true, true, true, true, true, true, true, true, true, true, true, true, true, true, false, false, false, false, false, false, false, false, false, false, false, false] rfl rfl (any_of HT_.out (by kernel_rfl)) (fun _ _ _ h => h) (Or.inl ⟨by rfl, ?_⟩) ?_ ?_
              rotate_left
              · intro w'
                go_simp
                with_reducible rfl
              rotate_left
              · simp only [Act.put, List.setIfInBounds_toArray, List.set_cons_zero, List.set_cons_succ, i64_w, i32_w]
                rfl
              refine pure_ (i := 15) (N := some 59) (v := ?_) (a' := ?_) #[true, true, true, true, true, true, true, true, true, true, true, true, true, true, true, true, false, false, false, false, false, false, false, false, false, false, false] rfl rfl (any_of HT_.out (by kernel_rfl)) (fun _ _ _ h => h) (Or.inl ⟨by rfl, ?_⟩) ?_ ?_
              rotate_left
              · intro w'
                go_simp
                with_reducible rfl
              rotate_left
              · simp only [Act.put, List.setIfInBounds_toArray, List.set_cons_zero, List.set_cons_succ, i64_w, i32_w]
                rfl
              refine pure_ (i := 16) (N := some 60) (v := ?_) (a' := ?_) #[true, true, true, true, true, true, true, true, true, true, true, true, true, true, true, true, true, false, false, false, false, false, false, false, false, false, false] rfl rfl (any_of HT_.out (by kernel_rfl)) (fun _ _ _ h => h) (Or.inl ⟨by rfl, ?_⟩) ?_ ?_
              rotate_left
              · intro w'
                go_simp
                with_reducible rfl
              rotate_left
              · simp only [Act.put, List.setIfInBounds_toArray, List.set_cons_zero, List.set_cons_succ, i64_w, i32_w]
                rfl
              refine take_ (i := 17) (N := some 61) (v := ?_) (a' := ?_) #[true, true, true, true, true, true, true, true, true, true, true, true, true, true, true, true, true, true, false, false, false, false, false, false, false, false, false] rfl rfl (take_ofW HT_.out HW_.out (by kernel_rfl)) (fun _ _ _ h => h) (Or.inl ⟨by rfl, ?_⟩) hHeld ?_ ?_
              rotate_left
              · rintro w' ⟨s0, s1, s2, s3, s4, s5, s6, s7, s8, s9⟩
                go_simp
                with_reducible rfl
              rotate_left
              · simp only [Act.put, List.setIfInBounds_toArray, List.set_cons_zero, List.set_cons_succ, i64_w, i32_w]
                rfl
              refine take_ (i := 18) (N := some 62) (v := ?_) (a' := ?_) #[true, true, true, true, true, true, true, true, true, true, true, true, true, true, true, true, true, true, true, false, false, false, false, false, false, false, false] rfl rfl (take_ofW HT_.out HW_.out (by kernel_rfl)) (fun _ _ _ h => h) (Or.inl ⟨by rfl, ?_⟩) hHeld ?_ ?_
              rotate_left
              · rintro w' ⟨s0, s1, s2, s3, s4, s5, s6, s7, s8, s9⟩
                go_simp
                with_reducible rfl
              rotate_left
              · simp only [Act.put, List.setIfInBounds_toArray, List.set_cons_zero, List.set_cons_succ, i64_w, i32_w]
                rfl
              refine pure_ (i := 19) (N := some 63) (v := ?_) (a' := ?_) #[true, true, true, true, true, true, true, true, true, true, true, true, true, true, true, true, true, true, true, true, false, false, false, false, false, false, false] rfl rfl (any_of HT_.out (by kernel_rfl)) (fun _ _ _ h => h) (Or.inl ⟨by rfl, ?_⟩) ?_ ?_
              rotate_left
              · intro w'
                go_simp
                with_reducible rfl
              rotate_left
              · simp only [Act.put, List.setIfInBounds_toArray, List.set_cons_zero, List.set_cons_succ, i64_w, i32_w]
                rfl
              refine pure_ (i := 20) (N := some 64) (v := ?_) (a' := ?_) #[true, true, true, true, true, true, true, true, true, true, true, true, true, true, true, true, true, true, true, true, true, false, false, false, false, false, false] rfl rfl (any_of HT_.out (by kernel_rfl)) (fun _ _ _ h => h) (Or.inl ⟨by rfl, ?_⟩) ?_ ?_
              rotate_left
              · intro w'
                go_simp
                with_reducible rfl
              rotate_left
              · simp only [Act.put, List.setIfInBounds_toArray, List.set_cons_zero, List.set_cons_succ, i64_w, i32_w]
                rfl
              refine pure_ (i := 21) (N := some 65) (v := ?_) (a' := ?_) #[true, true, true, true, true, true, true, true, true, true, true, true, true, true, true, true, true, true, true, true, true, true, false, false, false, false, false] rfl rfl (any_of HT_.out (by kernel_rfl)) (fun _ _ _ h => h) (Or.inl ⟨by rfl, ?_⟩) ?_ ?_
              rotate_left
              · intro w'
                go_simp
                with_reducible rfl
              rotate_left
              · simp only [Act.put, List.setIfInBounds_toArray, List.set_cons_zero, List.set_cons_succ, i64_w, i32_w]
                rfl
              refine pure_ (i := 22) (N := some 66) (v := ?_) (a' := ?_) #[true, true, true, true, true, true, true, true, true, true, true, true, true, true, true, true, true, true, true, true, true, true, true, false, false, false, false] rfl rfl (any_of HT_.out (by kernel_rfl)) (fun _ _ _ h => h) (Or.inl ⟨by rfl, ?_⟩) ?_ ?_
              rotate_left
              · intro w'
                go_simp
                with_reducible rfl
              rotate_left
              · simp only [Act.put, List.setIfInBounds_toArray, List.set_cons_zero, List.set_cons_succ, i64_w, i32_w]
                rfl
              refine pure_ (i := 23) (N := some 67) (v := ?_) (a' := ?_) #[true, true, true, true, true, true, true, true, true, true, true, true, true, true, true, true, true, true, true, true, true, true, true, true, false, false, false] rfl rfl (any_of HT_.out (by kernel_rfl)) (fun _ _ _ h => h) (Or.inl ⟨by rfl, ?_⟩) ?_ ?_
              rotate_left
              · intro w'
                go_simp
                with_reducible rfl
              rotate_left
              · simp only [Act.put, List.setIfInBounds_toArray, List.set_cons_zero, List.set_cons_succ, i64_w, i32_w]
                rfl
              refine pure_ (i := 24) (N := some 68) (v := ?_) (a' := ?_) #[true, true, true, true, true, true, true, true, true, true, true, true, true, true, true, true, true, true, true, true, true, true, true, true, true, false, false] rfl rfl (any_of HT_.out (by kernel_rfl)) (fun _ _ _ h => h) (Or.inl ⟨by rfl, ?_⟩) ?_ ?_
              rotate_left
              · intro w'
                go_simp
                with_reducible rfl
              rotate_left
              · simp only [Act.put, List.setIfInBounds_toArray, List.set_cons_zero, List.set_cons_succ, i64_w, i32_w]
                rfl
              refine pure_ (i := 25) (N := some 69) (v := ?_) (a' := ?_) #[true, true, true, true, true, true, true, true, true, true, true, true, true, true, true, true, true, true, true, true, true, true, true, true, true, true, false] rfl rfl (any_of HT_.out (by kernel_rfl)) (fun _ _ _ h => h) (Or.inl ⟨by rfl, ?_⟩) ?_ ?_
              rotate_left
              · intro w'
                go_simp
                with_reducible rfl
              rotate_left
              · simp only [Act.put, List.setIfInBounds_toArray, List.set_cons_zero, List.set_cons_succ, i64_w, i32_w]
                rfl
              refine pure_ (i := 26) (N := some 6) (v := ?_) (a' := ?_) #[true, true, true, true, true, true, true, true, true, true, true, true, true, true, true, true, true, true, true, true, true, true, true, true, true, true, true] rfl rfl (any_of HT_.out (by kernel_rfl)) (fun _ _ _ h => h) (Or.inl ⟨by rfl, ?_⟩) ?_ ?_
              rotate_left
              · intro w'
                go_simp
                with_reducible rfl
              rotate_left
              · simp only [Act.put, List.setIfInBounds_toArray, List.set_cons_zero, List.set_cons_succ, i64_w, i32_w]
                rfl
              refine done_ (done_of HT_.out (by kernel_rfl)) ?_
              try go_wp2
              go_ret
              exact ⟨by first | rfl | (simp [errW_none, errW_some] <;> rfl) | (simp [*, errW_none, errW_some] <;> rfl), by repeat (first | (with_reducible first | exact HB.out | apply below_alloc | apply pw_below_drewN | apply below_drew1 | refine below_set ?_ GE437.out | refine below_set ?_ GE438.out | refine below_set ?_ GE439.out | refine below_set ?_ GE443.out | refine below_set ?_ GE447.out) | exact HB.out)⟩
            · rw [if_neg c21] at H
              have c21b0 : (t440 == t444 && (t441 == t445)) = false := by simpa using c21
              (try (have c21b1 : decide (t440 = t444 && (t441 == t445)) = false := by simpa using c21))
              (try (have c21b2 : (t440 == t444 && (t441 == t445)) = false := by simpa using c21))
              (try (have c21b3 : ¬ (t440 = t444 && (t441 == t445)) := by simpa using c21))
              clear c21
              exact absurd H (by simp)
          · rw [if_neg c20] at H
            have c20b0 : (t476 == t477) = false := by simpa using c20
            (try (have c20b1 : decide (t476 = t477) = false := by simpa using c20))
            (try (have c20b2 : (t476 == t477) = false := by simpa using c20))
            (try (have c20b3 : ¬ (t476 = t477) := by simpa using c20))
            clear c20
            exact absurd H (by simp)
        · rw [if_neg c17] at H
          have c17b0 : (t474 == t475) = false := beq_eq_false_iff_ne.mpr c17
          have c17b1 : (t474 != t475) = true := bne_iff_ne.mpr c17
          exact absurd H (by simp)
end Go.Proofs.Ytpkjpiphjdpegaa.P
namespace Go.Proofs.Ytpkjpiphjdpegaa.P
open Go.RowKit Go.Proofs.YtpkjpiphjdpegaaW.PrintWords Go.Proofs.YtpkjpiphjdpegaaW.PrintLast Go.Proofs.YtpkjpiphjdpegaaW.PrintMore
set_option linter.unusedVariables false
set_option linter.unusedSimpArgs false
theorem wideAdds_pure (h a b g c d x y : Int) (hh : U64 h) (ha : U64 a) (hb : U64 b) (hg : U64 g) (hc : U64 c) (hd : U64 d) (hx : U64 x) (hy : U64 y) : paymasterlaw03_WideAdds.f 101 h a b g c d x y = some true := by
  have hz : U64 0 := ⟨by omega, by omega⟩
  obtain ⟨r1, r2, r3, eP⟩ := and_some h a b 0 x y hh ha hb hz hx hy
  obtain ⟨q1, q2, q3, eA⟩ := and_some h a b g c d hh ha hb hg hc hd
  have a1 : paymasterref03_Plus.f 101 h a b x y = some (r1, r2, r3) := (refPlus_is 41 h a b x y hh ha hb hx hy).trans eP
  have a2 : paymasterref03_And.f 101 h a b g c d = some (q1, q2, q3) := (refAnd_is 41 h a b g c d hh ha hb hg hc hd).trans eA
  have a3 : wide_Wide_Plus.f h a b x y = some (r1, r2, r3) := by
    unfold wide_Wide_Plus.f wide_Of.f
    simp only [Option.bind_some]
    rw [eP]
    rfl
  have c1 := wide_Cmp_is 98 h a b g c d hh ha hb hg hc hd
  have c2 := refWideCmp_is 81 h a b g c d hh ha hb hg hc hd
  generalize (if cmpI h g = 0 then cmpI (val a b) (val c d) else cmpI h g) = z at c1 c2
  have c1' : wide_Wide_Cmp.f 101 h a b g c d = some z := c1
  have c2' : paymasterref03_Cmp.f 101 h a b g c d = some z := c2
  have l1 : wide_Less.f 101 h a b g c d = some (decide (z < 0)) := by unfold wide_Less.f; rw [c1']; rfl
  have l2 : paymasterref03_Less.f 101 h a b g c d = some (decide (z < 0)) := by unfold paymasterref03_Less.f; rw [c2']; rfl
  unfold paymasterlaw03_WideAdds.f
  simp only [wide_Wide_Narrow.f, paymasterref03_Narrow.f, wide_Of.f, paymasterref03_Of.f]
  have e1 : ∀ u v w : Int, (!(u == u) || (!(v == v) || !(w == w))) = false := by intro u v w; simp
  by_cases h0 : h = 0
  · subst h0
    rw [if_pos rfl, if_neg (by omega)]
    simp only [Option.bind_some, e1, a1, a3, eA, a2, c1', c2', l1, l2]
    simp
  · rw [if_neg h0, if_pos (by have := hh.1; omega)]
    simp only [Option.bind_some, e1, a1, a3, eA, a2, c1', c2', l1, l2]
    simp
theorem wideAdds_walk {w : World} (h a b : Int) (hh : U64 h) (ha : U64 a) (hb : U64 b) (g c d : Int) (hg : U64 g) (hc : U64 c) (hd : U64 d) (x y : Int) (hx : U64 x) (hy : U64 y) :
    Calls Try.prog 5 #[.agg #[.int .u64 h, .int .u64 a, .int .u64 b], .agg #[.int .u64 g, .int .u64 c, .int .u64 d], .agg #[.int .u64 x, .int .u64 y]] w fun e w' => e = .returned (.bool true) ∧ Below w.heap.size w w' :=
  paymasterlaw03_WideAdds.calls 101 h a b g c d x y true w (wideAdds_pure h a b g c d x y hh ha hb hg hc hd hx hy)
end Go.Proofs.Ytpkjpiphjdpegaa.P
namespace Go.Proofs.Ytpkjpiphjdpegaa.wideAdds
open Go.ChangeShapes Go.WideShapes Go.ChangeAt Go.RowKit Go.Proofs.Ytpkjpiphjdpegaa.P
open Go.ChangeMaps (open_string shut_string)
set_option linter.unusedVariables false
theorem own : ownKnob Try.prog.godebug = none := by kernel_rfl
theorem laidOut : laidOutB Try.prog = true := by kernel_rfl
set_option maxRecDepth 100000 in
theorem lifted (os : Os) (started : os.Started) (H : Type) (enc : TypeId × Value → H) :
    ReturnsInHanded {} Try.checked os 5 .any (Rows.wideAddsSpec.pre6 enc Try.prog Try.f5 Rows.wideAddsRow.domain false) (Rows.wideAddsSpec.post enc Try.prog Try.f5 false true false false) := by
  refine returnsInHanded_of_change_sized (C := Try.checked) own started (by kernel_rfl) Try.func5
    (ChangeSpec.witness6 (enc := enc) (C := Try.checked) false ⟨#[], #[.agg #[.int .u64 0, .int .u64 0, .int .u64 0], .agg #[.int .u64 0, .int .u64 0, .int .u64 0], .agg #[.int .u64 0, .int .u64 0]], []⟩ 8 (by kernel_rfl) (by kernel_rfl) (by kernel_rfl) (by kernel_rfl)) ?_
  intro W base args ds gs before hval0 hW hcnd hsz0 _
  have hval : ∀ (j : Nat) t v, Try.f5.params[j]? = some t → args[j]? = some v → Value.okWide Try.prog W .any base t v := hval0
  have hW' := hW
  obtain ⟨p, q, hA0, hV, rfl, hfz, hnd⟩ := hW
  have hA : DataW.TrodAll enc Try.prog W 0 (fun _ => true) true Try.f5.params.toList args.toList ds p := hA0
  rw [Try.params5] at hA hval
  have hAll := hA
  obtain ⟨v0, vs0, d0, ds0, p0, q0, hargs, rfl, rfl, h0, r0⟩ := trodAll_cons hA
  obtain ⟨v1, vs1, d1, ds1, p1, q1, rfl, rfl, rfl, h1, r1⟩ := trodAll_cons r0
  obtain ⟨v2, vs2, d2, ds2, p2, q2, rfl, rfl, rfl, h2, r2⟩ := trodAll_cons r1
  obtain ⟨rfl, rfl, rfl⟩ := trodAll_nil r2
  obtain rfl : args = #[v0, v1, v2] := by cases args; simp_all
  obtain ⟨rfl, rfl⟩ := trodVars_none hV
  obtain ⟨a0_0, a0_1, a0_2, rfl, g0_0, g0_1, g0_2⟩ := arg_27 (hval 0 27 v0 rfl rfl) h0
  obtain ⟨a1_0, a1_1, a1_2, rfl, g1_0, g1_1, g1_2⟩ := arg_27 (hval 1 27 v1 rfl rfl) h1
  obtain ⟨a2_0, a2_1, rfl, g2_0, g2_1⟩ := arg_25 (hval 2 25 v2 rfl rfl) h2
  clear hA0 hval0 hsz0
  refine (wideAdds_walk (w := W) a0_0 a0_1 a0_2 g0_0 g0_1 g0_2 a1_0 a1_1 a1_2 g1_0 g1_1 g1_2 a2_0 a2_1 g2_0 g2_1).mono fun e W' ⟨he, bel⟩ => ?_
  subst he
  exact ⟨_, rfl, _, _, _, [], _, [], hW', trodAll_mk1 (shut_bool Try.underlying4 _), args_back laidOut bel (by kernel_rfl) hAll, rfl, bel.frame _, fun h => by cases h⟩
theorem both {a b : Bool} (h : a = true) (k : b = true) : (a && b) = true := by rw [h, k]; rfl
theorem c0 : (Rows.wideAddsRow.wf (OpenSpec.ofChange Rows.wideAddsSpec)) = true := by kernel_rfl
theorem c1 : (laidOutB Try.prog) = true := by kernel_rfl
theorem c2 : (mapsRowed Try.prog) = true := by kernel_rfl
theorem c3 : (Try.f5.params.all (Try.prog.readableRec ·)) = true := by kernel_rfl
theorem c4 : (namedTie Try.prog Rows.wideAddsRow.named Rows.wideAddsSpec.vars) = true := by kernel_rfl
theorem c5 : ((Rows.wideAddsRow.stops == [])) = true := by kernel_rfl
theorem c6 : ((Try.prog.stops == [])) = true := by kernel_rfl
theorem c7 : ((Rows.wideAddsRow.knobs == [])) = true := by kernel_rfl
theorem c8 : ((Try.prog.stopKnobs == [])) = true := by kernel_rfl
theorem c9 : ((Rows.wideAddsRow.inPlace == Try.prog.inPlace 5)) = true := by kernel_rfl
theorem c10 : ((Rows.wideAddsRow.unfollowed == Try.prog.unfollowed 5)) = true := by kernel_rfl
theorem c11 : ((Rows.wideAddsRow.recurses == Try.prog.recurses 5)) = true := by kernel_rfl
theorem c12 : ((Rows.wideAddsRow.named == Try.prog.varsNamed 5)) = true := by kernel_rfl
theorem c13 : ((Rows.wideAddsRow.maps == (Try.f5.params.toList ++ Rows.wideAddsSpec.plain.varTypes Try.prog).any (Try.prog.mapsRec ·))) = true := by kernel_rfl
theorem c14 : ((Rows.wideAddsRow.ifaces == (Try.f5.params.toList ++ Rows.wideAddsSpec.plain.varTypes Try.prog).any (Try.prog.ifacesRec ·))) = true := by kernel_rfl
theorem c15 : ((Rows.wideAddsRow.mapsOut == Try.prog.mapsAmong Try.f5.resultTypes.toList)) = true := by kernel_rfl
theorem c16 : ((Rows.wideAddsRow.loops == (Try.f5.params.toList ++ Rows.wideAddsSpec.plain.varTypes Try.prog).any (Try.prog.loopsFrom ·))) = true := by kernel_rfl
theorem c17 : ((Rows.wideAddsRow.wideKeys == (Try.f5.params.toList ++ Rows.wideAddsSpec.plain.varTypes Try.prog ++ Try.f5.resultTypes.toList).any (Try.prog.wideKeysFrom ·))) = true := by kernel_rfl
theorem c18 : (Rows.wideAddsSpec.vars.all (Try.prog.varReadable ·)) = true := by kernel_rfl
theorem c19 : (Try.f5.resultTypes.all (fun t => Try.prog.readableRec t && decide (t < Try.prog.types.size))) = true := by kernel_rfl
theorem c20 : ((Rows.wideAddsRow.ifacesOut == Try.f5.resultTypes.toList.any (Try.prog.ifacesRec ·))) = true := by kernel_rfl
theorem c21 : ((Rows.wideAddsRow.loopsOut == Try.f5.resultTypes.toList.any (Try.prog.loopsFrom ·))) = true := by kernel_rfl
theorem c22 : ((Rows.wideAddsRow.plainKeys == Try.prog.plainKeys)) = true := by kernel_rfl
theorem c23 : (Rows.wideAddsRow.shortTexts.isNone) = true := by kernel_rfl
theorem c24 : (Try.prog.stopsHeard) = true := by kernel_rfl
theorem c25 : (Try.prog.mayEnter) = true := Facts.mayEnter
theorem c26 : ((Rows.wideAddsRow.lifted == Try.prog.liftsFinal)) = true := by rw [Facts.liftsFinal]; kernel_rfl
theorem c27 : ((Try.prog.make == some Rows.wideAddsRow.make)) = true := by rw [Facts.make]; kernel_rfl
theorem c28 : ((Rows.wideAddsRow.kinds == (if Rows.wideAddsRow.domain.isEmpty then [] else Try.f5.params.toList.map fun t => match Try.prog.underlying t with | some (.int k) => some k | _ => none))) = true := by kernel_rfl
theorem c29 : ((Rows.wideAddsRow.pinned == Rows.wideAddsRow.pinnedBy)) = true := by kernel_rfl
theorem c30 : ((Rows.wideAddsRow.veiled == (Try.f5.params.toList ++ Rows.wideAddsSpec.plain.varTypes Try.prog ++ Try.f5.resultTypes.toList).any (Try.prog.veiledRec ·))) = true := by kernel_rfl
theorem c31 : (Rows.wideAddsRow.veiledFits Try.prog Try.f5.params.toList (Try.f5.params.toList ++ Rows.wideAddsSpec.plain.varTypes Try.prog ++ Try.f5.resultTypes.toList)) = true := by kernel_rfl
set_option maxRecDepth 100000 in
theorem closed : joinedFacts Try.prog 5 Try.f5 Rows.wideAddsSpec Rows.wideAddsRow = true := by
  unfold joinedFacts
  exact both (both (both (both (both (both (both (both (both (both (both (both (both (both (both (both (both (both (both (both (both (both (both (both (both (both (both (both (both (both (both (c0) c1) c2) c3) c4) c5) c6) c7) c8) c9) c10) c11) c12) c13) c14) c15) c16) c17) c18) c19) c20) c21) c22) c23) c24) c25) c26) c27) c28) c29) c30) c31
theorem over : Rows.wideAddsRow.holds Try.pinned (OpenSpec.ofChange Rows.wideAddsSpec) :=
  OpenClaim.holds_of_wide 5 Try.f5 rfl rfl rfl rfl rfl rfl rfl ⟨rfl, rfl, rfl, rfl, rfl⟩ rfl rfl rfl rfl rfl (by kernel_rfl) Try.func5 closed
    (of_decide_eq_true (by kernel_rfl)) (by unfold Func.isWrapper; first | (rw [if_pos (by decide +kernel)]; kernel_rfl) | (rw [if_neg (by decide +kernel)]; exact ⟨rfl, rfl⟩))
    (fun os started H enc _ => lifted os started H enc)
end Go.Proofs.Ytpkjpiphjdpegaa.wideAdds
namespace Go.Proofs.Ytpkjpiphjdpegaa
theorem wideAdds_holds : Rows.WideAddsSaid := wideAdds.over
end Go.Proofs.Ytpkjpiphjdpegaa
