/- A program of this session wrote this text out of the session's own texts. (part 4 of 4) -/
import Derived.Test.YtpkjpiphjdpegaaCWideCompares3
namespace Go.Proofs.Ytpkjpiphjdpegaa.P
open Go.RowKit Go.Proofs.YtpkjpiphjdpegaaW.PrintWords Go.Proofs.YtpkjpiphjdpegaaW.PrintLast Go.Proofs.YtpkjpiphjdpegaaW.PrintMore
attribute [local go_sem] max2_int min2_int max_two min_two max_three min_three max_four min_four
set_option linter.unusedVariables false
set_option linter.unusedSimpArgs false
attribute [local go_sem high] eqA27
def paymasterlaw03_WideCompares.j0 : Nat → Int → Bool → Int → Int → Int → Int → Int → Int → Int → Int → Option (Bool)
  | 0, _, _, _, _, _, _, _, _, _, _ => none
  | k + 1, x9, x65, x676000, x676001, x676002, x677000, x677001, x677002, x679000, x679001 => if x65 = true then (none) else (if x676000 = 18446744073709551615 then (some true) else (if x677000 = 18446744073709551615 then (some true) else ((wide_Wide_Plus.f x676000 x676001 x676002 x679000 x679001).bind fun bt712 => ((wide_Wide_Plus.f x677000 x677001 x677002 x679000 x679001).bind fun bt715 => ((wide_Wide_Cmp.f k bt712.1 bt712.2.1 bt712.2.2 bt715.1 bt715.2.1 bt715.2.2).bind fun t718 => (some (t718 == x9)))))))
def paymasterlaw03_WideCompares.f (k : Nat) (a0_0 : Int) (a0_1 : Int) (a0_2 : Int) (a1_0 : Int) (a1_1 : Int) (a1_2 : Int) (a2_0 : Int) (a2_1 : Int) (a2_2 : Int) (a3_0 : Int) (a3_1 : Int) : Option (Bool) := (paymasterlaw03_awake.f k).bind fun t679 => (if t679 = true then ((wide_Wide_Cmp.f k a0_0 a0_1 a0_2 a1_0 a1_1 a1_2).bind fun t684 => ((wide_Wide_Cmp.f k a1_0 a1_1 a1_2 a2_0 a2_1 a2_2).bind fun t685 => ((wide_Wide_Cmp.f k a0_0 a0_1 a0_2 a2_0 a2_1 a2_2).bind fun t686 => (if ((t684 == 0) != (a0_0 == a1_0 && ((a0_1 == a1_1 && (a0_2 == a1_2))))) = true then (none) else ((wide_Wide_Cmp.f k a1_0 a1_1 a1_2 a0_0 a0_1 a0_2).bind fun t687 => (if t684 = (wrap64 (-t687)) then (if t684 < (-1) then (none) else (if t684 > 1 then (none) else (if t684 ≤ 0 then (if t685 ≤ 0 then (if t686 > 0 then (none) else ((wide_Less.f k a0_0 a0_1 a0_2 a1_0 a1_1 a1_2).bind fun t688 => (paymasterlaw03_WideCompares.j0 k t684 (t688 != (decide (t684 < 0))) a0_0 a0_1 a0_2 a1_0 a1_1 a1_2 a3_0 a3_1))) else ((wide_Less.f k a0_0 a0_1 a0_2 a1_0 a1_1 a1_2).bind fun t696 => (paymasterlaw03_WideCompares.j0 k t684 (t696 != (decide (t684 < 0))) a0_0 a0_1 a0_2 a1_0 a1_1 a1_2 a3_0 a3_1))) else ((wide_Less.f k a0_0 a0_1 a0_2 a1_0 a1_1 a1_2).bind fun t704 => (paymasterlaw03_WideCompares.j0 k t684 (t704 != (decide (t684 < 0))) a0_0 a0_1 a0_2 a1_0 a1_1 a1_2 a3_0 a3_1))))) else (none))))))) else (none))
def paymasterlaw03_WideCompares.T3 : Bool × List (List Nat × List Nat) := (true, [([], []), ([], []), ([0, 1], [0, 1]), ([], []), ([], []), ([3, 4, 2], [3, 4]), ([], []), ([], []), ([6, 7, 5], [6, 7]), ([2, 8, 0, 1, 2], [2]), ([5, 9, 0, 1, 2, 3, 4, 5, 9], [5]), ([8, 10, 0, 1, 2, 3, 4, 5, 6, 7, 8, 9, 10], [8])])
def paymasterlaw03_WideCompares.B3 : List Nat := [0, 0, 3, 0, 0, 31, 0, 0, 255, 511, 1023, 2047]
theorem paymasterlaw03_WideCompares.tab3 : rtab .any (opsOf Try.f8 3) = paymasterlaw03_WideCompares.T3 := by kernel_rfl
theorem paymasterlaw03_WideCompares.bits3 : waitsOk paymasterlaw03_WideCompares.T3.2 paymasterlaw03_WideCompares.B3 = true := by kernel_rfl
def paymasterlaw03_WideCompares.T7 : Bool × List (List Nat × List Nat) := (true, [([], []), ([0], [0]), ([], []), ([1, 2], [1, 2]), ([3], [3]), ([4], [4]), ([5, 4], [4, 5]), ([4], [4]), ([6, 7, 4], [4, 6, 7]), ([4, 8], [4, 8]), ([9, 4], [9]), ([10], [10]), ([10], [10]), ([11, 12, 10, 10], [10, 11, 12]), ([10], [10]), ([10], [10]), ([14, 15, 13, 10], [10, 14, 15]), ([13, 16, 16, 10], [10, 13, 16]), ([10], [10]), ([17, 18, 10], [10, 17, 18]), ([10, 19], [10, 19]), ([20, 17, 0, 1, 2, 3, 4, 5, 6, 7, 8, 9, 10, 11, 12, 13, 14, 15, 16, 17, 18, 19, 20], [20])])
def paymasterlaw03_WideCompares.B7 : List Nat := [0, 1, 0, 7, 15, 31, 63, 31, 255, 511, 1023, 2047, 2047, 8191, 2047, 2047, 65535, 131071, 2047, 524287, 1048575, 2097151]
theorem paymasterlaw03_WideCompares.tab7 : rtab .any (opsOf Try.f8 7) = paymasterlaw03_WideCompares.T7 := by kernel_rfl
theorem paymasterlaw03_WideCompares.bits7 : waitsOk paymasterlaw03_WideCompares.T7.2 paymasterlaw03_WideCompares.B7 = true := by kernel_rfl
set_option maxHeartbeats 8000000 in
set_option maxRecDepth 100000 in
theorem paymasterlaw03_WideCompares.calls (k : Nat) (a0_0 : Int) (a0_1 : Int) (a0_2 : Int) (a1_0 : Int) (a1_1 : Int) (a1_2 : Int) (a2_0 : Int) (a2_1 : Int) (a2_2 : Int) (a3_0 : Int) (a3_1 : Int) (r : Bool) (w : World) (h : paymasterlaw03_WideCompares.f k a0_0 a0_1 a0_2 a1_0 a1_1 a1_2 a2_0 a2_1 a2_2 a3_0 a3_1 = some r) :
    Calls Try.prog 8 #[.agg #[.int .u64 a0_0, .int .u64 a0_1, .int .u64 a0_2], .agg #[.int .u64 a1_0, .int .u64 a1_1, .int .u64 a1_2], .agg #[.int .u64 a2_0, .int .u64 a2_1, .int .u64 a2_2], .agg #[.int .u64 a3_0, .int .u64 a3_1]] w fun e w' => e = .returned (.bool r) ∧ Below w.heap.size w w' := by
  have hu27 := Try.underlying27
  have hu25 := Try.underlying25
  have HB := Aside0.mk (Below.refl w.heap.size w)
  have H : ((paymasterlaw03_awake.f k).bind fun t679 => (if t679 = true then ((wide_Wide_Cmp.f k a0_0 a0_1 a0_2 a1_0 a1_1 a1_2).bind fun t684 => ((wide_Wide_Cmp.f k a1_0 a1_1 a1_2 a2_0 a2_1 a2_2).bind fun t685 => ((wide_Wide_Cmp.f k a0_0 a0_1 a0_2 a2_0 a2_1 a2_2).bind fun t686 => (if ((t684 == 0) != (a0_0 == a1_0 && ((a0_1 == a1_1 && (a0_2 == a1_2))))) = true then (none) else ((wide_Wide_Cmp.f k a1_0 a1_1 a1_2 a0_0 a0_1 a0_2).bind fun t687 => (if t684 = (wrap64 (-t687)) then (if t684 < (-1) then (none) else (if t684 > 1 then (none) else (if t684 ≤ 0 then (if t685 ≤ 0 then (if t686 > 0 then (none) else ((wide_Less.f k a0_0 a0_1 a0_2 a1_0 a1_1 a1_2).bind fun t688 => (paymasterlaw03_WideCompares.j0 k t684 (t688 != (decide (t684 < 0))) a0_0 a0_1 a0_2 a1_0 a1_1 a1_2 a3_0 a3_1))) else ((wide_Less.f k a0_0 a0_1 a0_2 a1_0 a1_1 a1_2).bind fun t696 => (paymasterlaw03_WideCompares.j0 k t684 (t696 != (decide (t684 < 0))) a0_0 a0_1 a0_2 a1_0 a1_1 a1_2 a3_0 a3_1))) else ((wide_Less.f k a0_0 a0_1 a0_2 a1_0 a1_1 a1_2).bind fun t704 => (paymasterlaw03_WideCompares.j0 k t684 (t704 != (decide (t684 < 0))) a0_0 a0_1 a0_2 a1_0 a1_1 a1_2 a3_0 a3_1))))) else (none))))))) else (none))) = some r := h
  clear h
  replace H := Option.bind_eq_some_iff.mp H
  obtain ⟨t679, A50, H⟩ := H
  replace H : (if t679 = true then ((wide_Wide_Cmp.f k a0_0 a0_1 a0_2 a1_0 a1_1 a1_2).bind fun t684 => ((wide_Wide_Cmp.f k a1_0 a1_1 a1_2 a2_0 a2_1 a2_2).bind fun t685 => ((wide_Wide_Cmp.f k a0_0 a0_1 a0_2 a2_0 a2_1 a2_2).bind fun t686 => (if ((t684 == 0) != (a0_0 == a1_0 && ((a0_1 == a1_1 && (a0_2 == a1_2))))) = true then (none) else ((wide_Wide_Cmp.f k a1_0 a1_1 a1_2 a0_0 a0_1 a0_2).bind fun t687 => (if t684 = (wrap64 (-t687)) then (if t684 < (-1) then (none) else (if t684 > 1 then (none) else (if t684 ≤ 0 then (if t685 ≤ 0 then (if t686 > 0 then (none) else ((wide_Less.f k a0_0 a0_1 a0_2 a1_0 a1_1 a1_2).bind fun t688 => (paymasterlaw03_WideCompares.j0 k t684 (t688 != (decide (t684 < 0))) a0_0 a0_1 a0_2 a1_0 a1_1 a1_2 a3_0 a3_1))) else ((wide_Less.f k a0_0 a0_1 a0_2 a1_0 a1_1 a1_2).bind fun t696 => (paymasterlaw03_WideCompares.j0 k t684 (t696 != (decide (t684 < 0))) a0_0 a0_1 a0_2 a1_0 a1_1 a1_2 a3_0 a3_1))) else ((wide_Less.f k a0_0 a0_1 a0_2 a1_0 a1_1 a1_2).bind fun t704 => (paymasterlaw03_WideCompares.j0 k t684 (t704 != (decide (t684 < 0))) a0_0 a0_1 a0_2 a1_0 a1_1 a1_2 a3_0 a3_1))))) else (none))))))) else (none)) = some r := H
  have A5 := Aside0.mk A50
  clear A50
  by_cases c6 : t679 = true
  · subst c6
    have H1 : ((wide_Wide_Cmp.f k a0_0 a0_1 a0_2 a1_0 a1_1 a1_2).bind fun t684 => ((wide_Wide_Cmp.f k a1_0 a1_1 a1_2 a2_0 a2_1 a2_2).bind fun t685 => ((wide_Wide_Cmp.f k a0_0 a0_1 a0_2 a2_0 a2_1 a2_2).bind fun t686 => (if ((t684 == 0) != (a0_0 == a1_0 && ((a0_1 == a1_1 && (a0_2 == a1_2))))) = true then (none) else ((wide_Wide_Cmp.f k a1_0 a1_1 a1_2 a0_0 a0_1 a0_2).bind fun t687 => (if t684 = (wrap64 (-t687)) then (if t684 < (-1) then (none) else (if t684 > 1 then (none) else (if t684 ≤ 0 then (if t685 ≤ 0 then (if t686 > 0 then (none) else ((wide_Less.f k a0_0 a0_1 a0_2 a1_0 a1_1 a1_2).bind fun t688 => (paymasterlaw03_WideCompares.j0 k t684 (t688 != (decide (t684 < 0))) a0_0 a0_1 a0_2 a1_0 a1_1 a1_2 a3_0 a3_1))) else ((wide_Less.f k a0_0 a0_1 a0_2 a1_0 a1_1 a1_2).bind fun t696 => (paymasterlaw03_WideCompares.j0 k t684 (t696 != (decide (t684 < 0))) a0_0 a0_1 a0_2 a1_0 a1_1 a1_2 a3_0 a3_1))) else ((wide_Less.f k a0_0 a0_1 a0_2 a1_0 a1_1 a1_2).bind fun t704 => (paymasterlaw03_WideCompares.j0 k t684 (t704 != (decide (t684 < 0))) a0_0 a0_1 a0_2 a1_0 a1_1 a1_2 a3_0 a3_1))))) else (none))))))) = some r := by rw [if_pos rfl] at H; exact H
    clear H
    have H := H1
    clear H1
    replace H := Option.bind_eq_some_iff.mp H
    obtain ⟨t684, A70, H⟩ := H
    replace H : ((wide_Wide_Cmp.f k a1_0 a1_1 a1_2 a2_0 a2_1 a2_2).bind fun t685 => ((wide_Wide_Cmp.f k a0_0 a0_1 a0_2 a2_0 a2_1 a2_2).bind fun t686 => (if ((t684 == 0) != (a0_0 == a1_0 && ((a0_1 == a1_1 && (a0_2 == a1_2))))) = true then (none) else ((wide_Wide_Cmp.f k a1_0 a1_1 a1_2 a0_0 a0_1 a0_2).bind fun t687 => (if t684 = (wrap64 (-t687)) then (if t684 < (-1) then (none) else (if t684 > 1 then (none) else (if t684 ≤ 0 then (if t685 ≤ 0 then (if t686 > 0 then (none) else ((wide_Less.f k a0_0 a0_1 a0_2 a1_0 a1_1 a1_2).bind fun t688 => (paymasterlaw03_WideCompares.j0 k t684 (t688 != (decide (t684 < 0))) a0_0 a0_1 a0_2 a1_0 a1_1 a1_2 a3_0 a3_1))) else ((wide_Less.f k a0_0 a0_1 a0_2 a1_0 a1_1 a1_2).bind fun t696 => (paymasterlaw03_WideCompares.j0 k t684 (t696 != (decide (t684 < 0))) a0_0 a0_1 a0_2 a1_0 a1_1 a1_2 a3_0 a3_1))) else ((wide_Less.f k a0_0 a0_1 a0_2 a1_0 a1_1 a1_2).bind fun t704 => (paymasterlaw03_WideCompares.j0 k t684 (t704 != (decide (t684 < 0))) a0_0 a0_1 a0_2 a1_0 a1_1 a1_2 a3_0 a3_1))))) else (none)))))) = some r := H
    have A7 := Aside0.mk A70
    clear A70
    replace H := Option.bind_eq_some_iff.mp H
    obtain ⟨t685, A80, H⟩ := H
    replace H : ((wide_Wide_Cmp.f k a0_0 a0_1 a0_2 a2_0 a2_1 a2_2).bind fun t686 => (if ((t684 == 0) != (a0_0 == a1_0 && ((a0_1 == a1_1 && (a0_2 == a1_2))))) = true then (none) else ((wide_Wide_Cmp.f k a1_0 a1_1 a1_2 a0_0 a0_1 a0_2).bind fun t687 => (if t684 = (wrap64 (-t687)) then (if t684 < (-1) then (none) else (if t684 > 1 then (none) else (if t684 ≤ 0 then (if t685 ≤ 0 then (if t686 > 0 then (none) else ((wide_Less.f k a0_0 a0_1 a0_2 a1_0 a1_1 a1_2).bind fun t688 => (paymasterlaw03_WideCompares.j0 k t684 (t688 != (decide (t684 < 0))) a0_0 a0_1 a0_2 a1_0 a1_1 a1_2 a3_0 a3_1))) else ((wide_Less.f k a0_0 a0_1 a0_2 a1_0 a1_1 a1_2).bind fun t696 => (paymasterlaw03_WideCompares.j0 k t684 (t696 != (decide (t684 < 0))) a0_0 a0_1 a0_2 a1_0 a1_1 a1_2 a3_0 a3_1))) else ((wide_Less.f k a0_0 a0_1 a0_2 a1_0 a1_1 a1_2).bind fun t704 => (paymasterlaw03_WideCompares.j0 k t684 (t704 != (decide (t684 < 0))) a0_0 a0_1 a0_2 a1_0 a1_1 a1_2 a3_0 a3_1))))) else (none))))) = some r := H
    have A8 := Aside0.mk A80
    clear A80
    replace H := Option.bind_eq_some_iff.mp H
    obtain ⟨t686, A90, H⟩ := H
    replace H : (if ((t684 == 0) != (a0_0 == a1_0 && ((a0_1 == a1_1 && (a0_2 == a1_2))))) = true then (none) else ((wide_Wide_Cmp.f k a1_0 a1_1 a1_2 a0_0 a0_1 a0_2).bind fun t687 => (if t684 = (wrap64 (-t687)) then (if t684 < (-1) then (none) else (if t684 > 1 then (none) else (if t684 ≤ 0 then (if t685 ≤ 0 then (if t686 > 0 then (none) else ((wide_Less.f k a0_0 a0_1 a0_2 a1_0 a1_1 a1_2).bind fun t688 => (paymasterlaw03_WideCompares.j0 k t684 (t688 != (decide (t684 < 0))) a0_0 a0_1 a0_2 a1_0 a1_1 a1_2 a3_0 a3_1))) else ((wide_Less.f k a0_0 a0_1 a0_2 a1_0 a1_1 a1_2).bind fun t696 => (paymasterlaw03_WideCompares.j0 k t684 (t696 != (decide (t684 < 0))) a0_0 a0_1 a0_2 a1_0 a1_1 a1_2 a3_0 a3_1))) else ((wide_Less.f k a0_0 a0_1 a0_2 a1_0 a1_1 a1_2).bind fun t704 => (paymasterlaw03_WideCompares.j0 k t684 (t704 != (decide (t684 < 0))) a0_0 a0_1 a0_2 a1_0 a1_1 a1_2 a3_0 a3_1))))) else (none)))) = some r := H
    have A9 := Aside0.mk A90
    clear A90
    have HC10 := Aside0.mk H
    clear H
    go_enter Try.func8, Try.ntmps8
    try go_wp2_with (first | ((with_reducible refine gate_dst (N := 4) rfl ?_); refine box_event ?hg (N := 4) ?hd (cs := #[.int .u64 a0_0, .int .u64 a0_1, .int .u64 a0_2]) (t := 27) ?hr ?_; (case hd => rfl); (case hg => rfl); (case hr => first | (go_simp; done) | (go_simp; rfl)); intro gb675 hg w11 hbox hb; have n0_ := Aside0.mk (below_step (by repeat (first | (with_reducible first | exact HB.out | apply below_alloc | apply pw_below_drewN | apply below_drew1) | exact HB.out)) hb); have n1_ := Aside0.mk (hbox); have n2_ := Aside0.mk ((by rw [hg]; exact (below_size (by repeat (first | (with_reducible first | exact HB.out | apply below_alloc | apply pw_below_drewN | apply below_drew1) | exact HB.out))) : w.heap.size ≤ gb675)); have n3_ := Aside0.mk ((by rw [hg]; exact (below_size (by repeat (first | (with_reducible first | exact HB.out | apply below_alloc | apply pw_below_drewN | apply below_drew1) | exact HB.out))) : w.heap.size ≤ gb675)); clear HB; have HB := n0_; have BK675 := n1_; have GW675 := n2_; have GE675 := n3_; clear n0_ n1_ n2_ n3_; clear hb hbox hg) | ((with_reducible refine gate_dst (N := 5) rfl ?_); refine box_event ?hg (N := 5) ?hd (cs := #[.int .u64 a1_0, .int .u64 a1_1, .int .u64 a1_2]) (t := 27) ?hr ?_; (case hd => rfl); (case hg => rfl); (case hr => first | (go_simp; done) | (go_simp; rfl)); intro gb676 hg w12 hbox hb; have n0_ := Aside0.mk (blk_below (g := gb675) (o := .cells #[.int .u64 a0_0, .int .u64 a0_1, .int .u64 a0_2] 27 (0, 0)) (by (with_reducible repeat (first | refine blk_drewN ?_ _ | refine blk_drew ?_ | refine blk_alloc ?_ _)); exact BK675.out) hb); have n1_ := Aside0.mk (below_step (by repeat (first | (with_reducible first | exact HB.out | apply below_alloc | apply pw_below_drewN | apply below_drew1 | refine below_set ?_ GE675.out) | exact HB.out)) hb); have n2_ := Aside0.mk (hbox); have n3_ := Aside0.mk ((by rw [hg]; exact (below_size (by repeat (first | (with_reducible first | exact HB.out | apply below_alloc | apply pw_below_drewN | apply below_drew1 | refine below_set ?_ GE675.out) | exact HB.out))) : w.heap.size ≤ gb676)); have n4_ := Aside0.mk ((by rw [hg]; exact (below_size (by repeat (first | (with_reducible first | exact HB.out | apply below_alloc | apply pw_below_drewN | apply below_drew1 | refine below_set ?_ GE675.out) | exact HB.out))) : w.heap.size ≤ gb676)); have n5_ := Aside0.mk ((by rw [hg]; exact Nat.ne_of_lt (blk_lt (g := gb675) (o := .cells #[.int .u64 a0_0, .int .u64 a0_1, .int .u64 a0_2] 27 (0, 0)) (by (with_reducible repeat (first | refine blk_drewN ?_ _ | refine blk_drew ?_ | refine blk_alloc ?_ _)); exact BK675.out)) : gb675 ≠ gb676)); have n6_ := Aside0.mk ((by rw [hg]; exact Nat.ne_of_gt (blk_lt (g := gb675) (o := .cells #[.int .u64 a0_0, .int .u64 a0_1, .int .u64 a0_2] 27 (0, 0)) (by (with_reducible repeat (first | refine blk_drewN ?_ _ | refine blk_drew ?_ | refine blk_alloc ?_ _)); exact BK675.out)) : gb676 ≠ gb675)); clear BK675; clear HB; have BK675 := n0_; have HB := n1_; have BK676 := n2_; have GW676 := n3_; have GE676 := n4_; have NB675_676 := n5_; have NB676_675 := n6_; clear n0_ n1_ n2_ n3_ n4_ n5_ n6_; clear hb hbox hg) | ((with_reducible refine gate_dst (N := 6) rfl ?_); refine box_event ?hg (N := 6) ?hd (cs := #[.int .u64 a2_0, .int .u64 a2_1, .int .u64 a2_2]) (t := 27) ?hr ?_; (case hd => rfl); (case hg => rfl); (case hr => first | (go_simp; done) | (go_simp; rfl)); intro gb677 hg w13 hbox hb; have n0_ := Aside0.mk (blk_below (g := gb675) (o := .cells #[.int .u64 a0_0, .int .u64 a0_1, .int .u64 a0_2] 27 (0, 0)) (by (with_reducible repeat (first | refine blk_drewN ?_ _ | refine blk_drew ?_ | refine blk_alloc ?_ _)); exact BK675.out) hb); have n1_ := Aside0.mk (blk_below (g := gb676) (o := .cells #[.int .u64 a1_0, .int .u64 a1_1, .int .u64 a1_2] 27 (0, 0)) (by (with_reducible repeat (first | refine blk_drewN ?_ _ | refine blk_drew ?_ | refine blk_alloc ?_ _)); exact BK676.out) hb); have n2_ := Aside0.mk (below_step (by repeat (first | (with_reducible first | exact HB.out | apply below_alloc | apply pw_below_drewN | apply below_drew1 | refine below_set ?_ GE675.out | refine below_set ?_ GE676.out) | exact HB.out)) hb); have n3_ := Aside0.mk (hbox); have n4_ := Aside0.mk ((by rw [hg]; exact (below_size (by repeat (first | (with_reducible first | exact HB.out | apply below_alloc | apply pw_below_drewN | apply below_drew1 | refine below_set ?_ GE675.out | refine below_set ?_ GE676.out) | exact HB.out))) : w.heap.size ≤ gb677)); have n5_ := Aside0.mk ((by rw [hg]; exact (below_size (by repeat (first | (with_reducible first | exact HB.out | apply below_alloc | apply pw_below_drewN | apply below_drew1 | refine below_set ?_ GE675.out | refine below_set ?_ GE676.out) | exact HB.out))) : w.heap.size ≤ gb677)); have n6_ := Aside0.mk ((by rw [hg]; exact Nat.ne_of_lt (blk_lt (g := gb675) (o := .cells #[.int .u64 a0_0, .int .u64 a0_1, .int .u64 a0_2] 27 (0, 0)) (by (with_reducible repeat (first | refine blk_drewN ?_ _ | refine blk_drew ?_ | refine blk_alloc ?_ _)); exact BK675.out)) : gb675 ≠ gb677)); have n7_ := Aside0.mk ((by rw [hg]; exact Nat.ne_of_gt (blk_lt (g := gb675) (o := .cells #[.int .u64 a0_0, .int .u64 a0_1, .int .u64 a0_2] 27 (0, 0)) (by (with_reducible repeat (first | refine blk_drewN ?_ _ | refine blk_drew ?_ | refine blk_alloc ?_ _)); exact BK675.out)) : gb677 ≠ gb675)); have n8_ := Aside0.mk ((by rw [hg]; exact Nat.ne_of_lt (blk_lt (g := gb676) (o := .cells #[.int .u64 a1_0, .int .u64 a1_1, .int .u64 a1_2] 27 (0, 0)) (by (with_reducible repeat (first | refine blk_drewN ?_ _ | refine blk_drew ?_ | refine blk_alloc ?_ _)); exact BK676.out)) : gb676 ≠ gb677)); have n9_ := Aside0.mk ((by rw [hg]; exact Nat.ne_of_gt (blk_lt (g := gb676) (o := .cells #[.int .u64 a1_0, .int .u64 a1_1, .int .u64 a1_2] 27 (0, 0)) (by (with_reducible repeat (first | refine blk_drewN ?_ _ | refine blk_drew ?_ | refine blk_alloc ?_ _)); exact BK676.out)) : gb677 ≠ gb676)); clear BK675; clear BK676; clear HB; have BK675 := n0_; have BK676 := n1_; have HB := n2_; have BK677 := n3_; have GW677 := n4_; have GE677 := n5_; have NB675_677 := n6_; have NB677_675 := n7_; have NB676_677 := n8_; have NB677_676 := n9_; clear n0_ n1_ n2_ n3_ n4_ n5_ n6_ n7_ n8_ n9_; clear hb hbox hg) | ((with_reducible refine gate_dst (N := 7) rfl ?_); refine box_event ?hg (N := 7) ?hd (cs := #[.int .u64 a3_0, .int .u64 a3_1]) (t := 25) ?hr ?_; (case hd => rfl); (case hg => rfl); (case hr => first | (go_simp; done) | (go_simp; rfl)); intro gb678 hg w14 hbox hb; have n0_ := Aside0.mk (blk_below (g := gb675) (o := .cells #[.int .u64 a0_0, .int .u64 a0_1, .int .u64 a0_2] 27 (0, 0)) (by (with_reducible repeat (first | refine blk_drewN ?_ _ | refine blk_drew ?_ | refine blk_alloc ?_ _)); exact BK675.out) hb); have n1_ := Aside0.mk (blk_below (g := gb676) (o := .cells #[.int .u64 a1_0, .int .u64 a1_1, .int .u64 a1_2] 27 (0, 0)) (by (with_reducible repeat (first | refine blk_drewN ?_ _ | refine blk_drew ?_ | refine blk_alloc ?_ _)); exact BK676.out) hb); have n2_ := Aside0.mk (blk_below (g := gb677) (o := .cells #[.int .u64 a2_0, .int .u64 a2_1, .int .u64 a2_2] 27 (0, 0)) (by (with_reducible repeat (first | refine blk_drewN ?_ _ | refine blk_drew ?_ | refine blk_alloc ?_ _)); exact BK677.out) hb); have n3_ := Aside0.mk (below_step (by repeat (first | (with_reducible first | exact HB.out | apply below_alloc | apply pw_below_drewN | apply below_drew1 | refine below_set ?_ GE675.out | refine below_set ?_ GE676.out | refine below_set ?_ GE677.out) | exact HB.out)) hb); have n4_ := Aside0.mk (hbox); have n5_ := Aside0.mk ((by rw [hg]; exact (below_size (by repeat (first | (with_reducible first | exact HB.out | apply below_alloc | apply pw_below_drewN | apply below_drew1 | refine below_set ?_ GE675.out | refine below_set ?_ GE676.out | refine below_set ?_ GE677.out) | exact HB.out))) : w.heap.size ≤ gb678)); have n6_ := Aside0.mk ((by rw [hg]; exact (below_size (by repeat (first | (with_reducible first | exact HB.out | apply below_alloc | apply pw_below_drewN | apply below_drew1 | refine below_set ?_ GE675.out | refine below_set ?_ GE676.out | refine below_set ?_ GE677.out) | exact HB.out))) : w.heap.size ≤ gb678)); have n7_ := Aside0.mk ((by rw [hg]; exact Nat.ne_of_lt (blk_lt (g := gb675) (o := .cells #[.int .u64 a0_0, .int .u64 a0_1, .int .u64 a0_2] 27 (0, 0)) (by (with_reducible repeat (first | refine blk_drewN ?_ _ | refine blk_drew ?_ | refine blk_alloc ?_ _)); exact BK675.out)) : gb675 ≠ gb678)); have n8_ := Aside0.mk ((by rw [hg]; exact Nat.ne_of_gt (blk_lt (g := gb675) (o := .cells #[.int .u64 a0_0, .int .u64 a0_1, .int .u64 a0_2] 27 (0, 0)) (by (with_reducible repeat (first | refine blk_drewN ?_ _ | refine blk_drew ?_ | refine blk_alloc ?_ _)); exact BK675.out)) : gb678 ≠ gb675)); have n9_ := Aside0.mk ((by rw [hg]; exact Nat.ne_of_lt (blk_lt (g := gb676) (o := .cells #[.int .u64 a1_0, .int .u64 a1_1, .int .u64 a1_2] 27 (0, 0)) (by (with_reducible repeat (first | refine blk_drewN ?_ _ | refine blk_drew ?_ | refine blk_alloc ?_ _)); exact BK676.out)) : gb676 ≠ gb678)); have n10_ := Aside0.mk ((by rw [hg]; exact Nat.ne_of_gt (blk_lt (g := gb676) (o := .cells #[.int .u64 a1_0, .int .u64 a1_1, .int .u64 a1_2] 27 (0, 0)) (by (with_reducible repeat (first | refine blk_drewN ?_ _ | refine blk_drew ?_ | refine blk_alloc ?_ _)); exact BK676.out)) : gb678 ≠ gb676)); have n11_ := Aside0.mk ((by rw [hg]; exact Nat.ne_of_lt (blk_lt (g := gb677) (o := .cells #[.int .u64 a2_0, .int .u64 a2_1, .int .u64 a2_2] 27 (0, 0)) (by (with_reducible repeat (first | refine blk_drewN ?_ _ | refine blk_drew ?_ | refine blk_alloc ?_ _)); exact BK677.out)) : gb677 ≠ gb678)); have n12_ := Aside0.mk ((by rw [hg]; exact Nat.ne_of_gt (blk_lt (g := gb677) (o := .cells #[.int .u64 a2_0, .int .u64 a2_1, .int .u64 a2_2] 27 (0, 0)) (by (with_reducible repeat (first | refine blk_drewN ?_ _ | refine blk_drew ?_ | refine blk_alloc ?_ _)); exact BK677.out)) : gb678 ≠ gb677)); clear BK675; clear BK676; clear BK677; clear HB; have BK675 := n0_; have BK676 := n1_; have BK677 := n2_; have HB := n3_; have BK678 := n4_; have GW678 := n5_; have GE678 := n6_; have NB675_678 := n7_; have NB678_675 := n8_; have NB676_678 := n9_; have NB678_676 := n10_; have NB677_678 := n11_; have NB678_677 := n12_; clear n0_ n1_ n2_ n3_ n4_ n5_ n6_ n7_ n8_ n9_ n10_ n11_ n12_; clear hb hbox hg) | ((with_reducible refine gate_callee (f := 55) rfl ?_); refine goesL_ (some 13) rfl rfl Try.func55 (by kernel_rfl) rfl #[] rfl (by (try simp only [List.map_toArray, List.map_cons, List.map_nil]); first | done | rfl | (simp only [List.length_drop, List.length_take]; rfl)) ?_; (with_reducible refine (paymasterlaw03_awake.calls k  true _ A5.out).mono ?_); rintro e w15 ⟨rfl, hb⟩; refine ⟨_, rfl, ?_⟩; have n0_ := Aside0.mk (blk_below (g := gb675) (o := .cells #[.int .u64 a0_0, .int .u64 a0_1, .int .u64 a0_2] 27 (0, 0)) (by (with_reducible repeat (first | refine blk_drewN ?_ _ | refine blk_drew ?_ | refine blk_alloc ?_ _)); exact BK675.out) hb); have n1_ := Aside0.mk (blk_below (g := gb676) (o := .cells #[.int .u64 a1_0, .int .u64 a1_1, .int .u64 a1_2] 27 (0, 0)) (by (with_reducible repeat (first | refine blk_drewN ?_ _ | refine blk_drew ?_ | refine blk_alloc ?_ _)); exact BK676.out) hb); have n2_ := Aside0.mk (blk_below (g := gb677) (o := .cells #[.int .u64 a2_0, .int .u64 a2_1, .int .u64 a2_2] 27 (0, 0)) (by (with_reducible repeat (first | refine blk_drewN ?_ _ | refine blk_drew ?_ | refine blk_alloc ?_ _)); exact BK677.out) hb); have n3_ := Aside0.mk (blk_below (g := gb678) (o := .cells #[.int .u64 a3_0, .int .u64 a3_1] 25 (0, 0)) (by (with_reducible repeat (first | refine blk_drewN ?_ _ | refine blk_drew ?_ | refine blk_alloc ?_ _)); exact BK678.out) hb); have n4_ := Aside0.mk (below_step (by repeat (first | (with_reducible first | exact HB.out | apply below_alloc | apply pw_below_drewN | apply below_drew1 | refine below_set ?_ GE675.out | refine below_set ?_ GE676.out | refine below_set ?_ GE677.out | refine below_set ?_ GE678.out) | exact HB.out)) hb); clear BK675; clear BK676; clear BK677; clear BK678; clear HB; have BK675 := n0_; have BK676 := n1_; have BK677 := n2_; have BK678 := n3_; have HB := n4_; clear n0_ n1_ n2_ n3_ n4_; (try clear hb); (try clear hb2); (try clear hk); (try clear hi)))
    have n0_ := Aside0.mk (blk_drew BK675.out)
    have n1_ := Aside0.mk (blk_drew BK676.out)
    have n2_ := Aside0.mk (blk_drew BK677.out)
    have n3_ := Aside0.mk (blk_drew BK678.out)
    have n4_ := Aside0.mk (below_drew1 HB.out)
    clear BK675
    clear BK676
    clear BK677
    clear BK678
    clear HB
    have BK675 := n0_
    have BK676 := n1_
    have BK677 := n2_
    have BK678 := n3_
    have HB := n4_
    clear n0_ n1_ n2_ n3_ n4_
    refine start_ (n := 12) (S := fun w' => w'.cell? ⟨gb675, 0, none⟩ = some (.int .u64 a0_0) ∧ w'.cell? ⟨gb675, 1, none⟩ = some (.int .u64 a0_1) ∧ w'.cell? ⟨gb675, 2, none⟩ = some (.int .u64 a0_2) ∧ w'.cell? ⟨gb676, 0, none⟩ = some (.int .u64 a1_0) ∧ w'.cell? ⟨gb676, 1, none⟩ = some (.int .u64 a1_1) ∧ w'.cell? ⟨gb676, 2, none⟩ = some (.int .u64 a1_2) ∧ w'.cell? ⟨gb677, 0, none⟩ = some (.int .u64 a2_0) ∧ w'.cell? ⟨gb677, 1, none⟩ = some (.int .u64 a2_1) ∧ w'.cell? ⟨gb677, 2, none⟩ = some (.int .u64 a2_2)) (ds := []) #[false, false, false, false, false, false, false, false, false, false, false, false] (by kernel_rfl) rfl rfl ⟨(blk_cell BK675.out 0).trans rfl, (blk_cell BK675.out 1).trans rfl, (blk_cell BK675.out 2).trans rfl, (blk_cell BK676.out 0).trans rfl, (blk_cell BK676.out 1).trans rfl, (blk_cell BK676.out 2).trans rfl, (blk_cell BK677.out 0).trans rfl, (blk_cell BK677.out 1).trans rfl, (blk_cell BK677.out 2).trans rfl⟩ (fun hHeld => ?_); refine with_tabW paymasterlaw03_WideCompares.tab3 paymasterlaw03_WideCompares.bits3 (fun HT_ HW_ => ?_)
    generalize w15.drew = w16 at BK675 BK676 BK677 BK678 HB hHeld ⊢
    refine take_ (i := 0) (N := some 15) (v := ?_) (a' := ?_) #[true, false, false, false, false, false, false, false, false, false, false, false] rfl rfl (take_ofW HT_.out HW_.out (by kernel_rfl)) (fun _ _ _ h => h) (Or.inl ⟨by rfl, ?_⟩) hHeld ?_ ?_
    rotate_left
    · rintro w' ⟨s0, s1, s2, s3, s4, s5, s6, s7, s8⟩
      go_simp
      with_reducible rfl
    rotate_left
    · simp only [Act.put, List.setIfInBounds_toArray, List.set_cons_zero, List.set_cons_succ, i64_w, i32_w]
      rfl
    refine take_ (i := 1) (N := some 16) (v := ?_) (a' := ?_) #[true, true, false, false, false, false, false, false, false, false, false, false] rfl rfl (take_ofW HT_.out HW_.out (by kernel_rfl)) (fun _ _ _ h => h) (Or.inl ⟨by rfl, ?_⟩) hHeld ?_ ?_
    rotate_left
    · rintro w' ⟨s0, s1, s2, s3, s4, s5, s6, s7, s8⟩
      go_simp
      with_reducible rfl
    rotate_left
    · simp only [Act.put, List.setIfInBounds_toArray, List.set_cons_zero, List.set_cons_succ, i64_w, i32_w]
      rfl
    refine take_ (i := 3) (N := some 18) (v := ?_) (a' := ?_) #[true, true, false, true, false, false, false, false, false, false, false, false] rfl rfl (take_ofW HT_.out HW_.out (by kernel_rfl)) (fun _ _ _ h => h) (Or.inl ⟨by rfl, ?_⟩) hHeld ?_ ?_
    rotate_left
    · rintro w' ⟨s0, s1, s2, s3, s4, s5, s6, s7, s8⟩
      go_simp
      with_reducible rfl
    rotate_left
    · simp only [Act.put, List.setIfInBounds_toArray, List.set_cons_zero, List.set_cons_succ, i64_w, i32_w]
      rfl
    refine take_ (i := 4) (N := some 19) (v := ?_) (a' := ?_) #[true, true, false, true, true, false, false, false, false, false, false, false] rfl rfl (take_ofW HT_.out HW_.out (by kernel_rfl)) (fun _ _ _ h => h) (Or.inl ⟨by rfl, ?_⟩) hHeld ?_ ?_
    rotate_left
    · rintro w' ⟨s0, s1, s2, s3, s4, s5, s6, s7, s8⟩
      go_simp
      with_reducible rfl
    rotate_left
    · simp only [Act.put, List.setIfInBounds_toArray, List.set_cons_zero, List.set_cons_succ, i64_w, i32_w]
      rfl
    refine take_ (i := 6) (N := some 21) (v := ?_) (a' := ?_) #[true, true, false, true, true, false, true, false, false, false, false, false] rfl rfl (take_ofW HT_.out HW_.out (by kernel_rfl)) (fun _ _ _ h => h) (Or.inl ⟨by rfl, ?_⟩) hHeld ?_ ?_
    rotate_left
    · rintro w' ⟨s0, s1, s2, s3, s4, s5, s6, s7, s8⟩
      go_simp
      with_reducible rfl
    rotate_left
    · simp only [Act.put, List.setIfInBounds_toArray, List.set_cons_zero, List.set_cons_succ, i64_w, i32_w]
      rfl
    refine take_ (i := 7) (N := some 22) (v := ?_) (a' := ?_) #[true, true, false, true, true, false, true, true, false, false, false, false] rfl rfl (take_ofW HT_.out HW_.out (by kernel_rfl)) (fun _ _ _ h => h) (Or.inl ⟨by rfl, ?_⟩) hHeld ?_ ?_
    rotate_left
    · rintro w' ⟨s0, s1, s2, s3, s4, s5, s6, s7, s8⟩
      go_simp
      with_reducible rfl
    rotate_left
    · simp only [Act.put, List.setIfInBounds_toArray, List.set_cons_zero, List.set_cons_succ, i64_w, i32_w]
      rfl
    refine one_ (i := 2) (N := some 17) #[true, true, true, true, true, false, true, true, false, false, false, false] rfl rfl (one_of HT_.out (by kernel_rfl)) (by decide) (fun K hK => ?_)
    refine goes_ Try.func41 (by kernel_rfl) rfl #[.agg #[.int .u64 a0_0, .int .u64 a0_1, .int .u64 a0_2], .agg #[.int .u64 a1_0, .int .u64 a1_1, .int .u64 a1_2]] (by rfl) rfl rfl (by (try simp only [List.map_toArray, List.map_cons, List.map_nil]); first | done | rfl | (simp only [List.length_drop, List.length_take]; rfl)) ?_
    with_reducible refine (wide_Wide_Cmp.calls k a0_0 a0_1 a0_2 a1_0 a1_1 a1_2 t684 _ A7.out).mono ?_
    rintro e w17 ⟨rfl, hb⟩
    refine ⟨_, rfl, ?_⟩
    have n0_ := Aside0.mk (blk_below (g := gb675) (o := .cells #[.int .u64 a0_0, .int .u64 a0_1, .int .u64 a0_2] 27 (0, 0)) (by (with_reducible repeat (first | refine blk_drewN ?_ _ | refine blk_drew ?_ | refine blk_alloc ?_ _)); exact BK675.out) hb)
    have n1_ := Aside0.mk (blk_below (g := gb676) (o := .cells #[.int .u64 a1_0, .int .u64 a1_1, .int .u64 a1_2] 27 (0, 0)) (by (with_reducible repeat (first | refine blk_drewN ?_ _ | refine blk_drew ?_ | refine blk_alloc ?_ _)); exact BK676.out) hb)
    have n2_ := Aside0.mk (blk_below (g := gb677) (o := .cells #[.int .u64 a2_0, .int .u64 a2_1, .int .u64 a2_2] 27 (0, 0)) (by (with_reducible repeat (first | refine blk_drewN ?_ _ | refine blk_drew ?_ | refine blk_alloc ?_ _)); exact BK677.out) hb)
    have n3_ := Aside0.mk (blk_below (g := gb678) (o := .cells #[.int .u64 a3_0, .int .u64 a3_1] 25 (0, 0)) (by (with_reducible repeat (first | refine blk_drewN ?_ _ | refine blk_drew ?_ | refine blk_alloc ?_ _)); exact BK678.out) hb)
    have n4_ := Aside0.mk (below_step (by repeat (first | (with_reducible first | exact HB.out | apply below_alloc | apply pw_below_drewN | apply below_drew1 | refine below_set ?_ GE675.out | refine below_set ?_ GE676.out | refine below_set ?_ GE677.out | refine below_set ?_ GE678.out) | exact HB.out)) hb)
    clear BK675
    clear BK676
    clear BK677
    clear BK678
    clear HB
    have BK675 := n0_
    have BK676 := n1_
    have BK677 := n2_
    have BK678 := n3_
    have HB := n4_
    clear n0_ n1_ n2_ n3_ n4_
    (try clear hb)
    (try clear hb2)
    (try clear hk)
    (try clear hi)
    refine hK.out _ _ ⟨(blk_cell BK675.out 0).trans rfl, (blk_cell BK675.out 1).trans rfl, (blk_cell BK675.out 2).trans rfl, (blk_cell BK676.out 0).trans rfl, (blk_cell BK676.out 1).trans rfl, (blk_cell BK676.out 2).trans rfl, (blk_cell BK677.out 0).trans rfl, (blk_cell BK677.out 1).trans rfl, (blk_cell BK677.out 2).trans rfl⟩ (fun hHeld => ?_)
    clear hK K
    refine norm_ (a' := ?_) ?_ ?_
    rotate_left
    · show Act.put _ (some 17) _ = _
      simp only [Act.put, List.setIfInBounds_toArray, List.set_cons_zero, List.set_cons_succ, i64_w, i32_w]
      rfl
    refine one_ (i := 5) (N := some 20) #[true, true, true, true, true, true, true, true, false, false, false, false] rfl rfl (one_of HT_.out (by kernel_rfl)) (by decide) (fun K hK => ?_)
    refine goes_ Try.func41 (by kernel_rfl) rfl #[.agg #[.int .u64 a1_0, .int .u64 a1_1, .int .u64 a1_2], .agg #[.int .u64 a2_0, .int .u64 a2_1, .int .u64 a2_2]] (by rfl) rfl rfl (by (try simp only [List.map_toArray, List.map_cons, List.map_nil]); first | done | rfl | (simp only [List.length_drop, List.length_take]; rfl)) ?_
    with_reducible refine (wide_Wide_Cmp.calls k a1_0 a1_1 a1_2 a2_0 a2_1 a2_2 t685 _ A8.out).mono ?_
    rintro e w18 ⟨rfl, hb⟩
    refine ⟨_, rfl, ?_⟩
    have n0_ := Aside0.mk (blk_below (g := gb675) (o := .cells #[.int .u64 a0_0, .int .u64 a0_1, .int .u64 a0_2] 27 (0, 0)) (by (with_reducible repeat (first | refine blk_drewN ?_ _ | refine blk_drew ?_ | refine blk_alloc ?_ _)); exact BK675.out) hb)
    have n1_ := Aside0.mk (blk_below (g := gb676) (o := .cells #[.int .u64 a1_0, .int .u64 a1_1, .int .u64 a1_2] 27 (0, 0)) (by (with_reducible repeat (first | refine blk_drewN ?_ _ | refine blk_drew ?_ | refine blk_alloc ?_ _)); exact BK676.out) hb)
    have n2_ := Aside0.mk (blk_below (g := gb677) (o := .cells #[.int .u64 a2_0, .int .u64 a2_1, .int .u64 a2_2] 27 (0, 0)) (by (with_reducible repeat (first | refine blk_drewN ?_ _ | refine blk_drew ?_ | refine blk_alloc ?_ _)); exact BK677.out) hb)
    have n3_ := Aside0.mk (blk_below (g := gb678) (o := .cells #[.int .u64 a3_0, .int .u64 a3_1] 25 (0, 0)) (by (with_reducible repeat (first | refine blk_drewN ?_ _ | refine blk_drew ?_ | refine blk_alloc ?_ _)); exact BK678.out) hb)
    have n4_ := Aside0.mk (below_step (by repeat (first | (with_reducible first | exact HB.out | apply below_alloc | apply pw_below_drewN | apply below_drew1 | refine below_set ?_ GE675.out | refine below_set ?_ GE676.out | refine below_set ?_ GE677.out | refine below_set ?_ GE678.out) | exact HB.out)) hb)
    clear BK675
    clear BK676
    clear BK677
    clear BK678
    clear HB
    have BK675 := n0_
    have BK676 := n1_
    have BK677 := n2_
    have BK678 := n3_
    have HB := n4_
    clear n0_ n1_ n2_ n3_ n4_
    (try clear hb)
    (try clear hb2)
    (try clear hk)
    (try clear hi)
    refine hK.out _ _ ⟨(blk_cell BK675.out 0).trans rfl, (blk_cell BK675.out 1).trans rfl, (blk_cell BK675.out 2).trans rfl, (blk_cell BK676.out 0).trans rfl, (blk_cell BK676.out 1).trans rfl, (blk_cell BK676.out 2).trans rfl, (blk_cell BK677.out 0).trans rfl, (blk_cell BK677.out 1).trans rfl, (blk_cell BK677.out 2).trans rfl⟩ (fun hHeld => ?_)
    clear hK K
    refine norm_ (a' := ?_) ?_ ?_
    rotate_left
    · show Act.put _ (some 20) _ = _
      simp only [Act.put, List.setIfInBounds_toArray, List.set_cons_zero, List.set_cons_succ, i64_w, i32_w]
      rfl
    refine one_ (i := 8) (N := some 23) #[true, true, true, true, true, true, true, true, true, false, false, false] rfl rfl (one_of HT_.out (by kernel_rfl)) (by decide) (fun K hK => ?_)
    refine goes_ Try.func41 (by kernel_rfl) rfl #[.agg #[.int .u64 a0_0, .int .u64 a0_1, .int .u64 a0_2], .agg #[.int .u64 a2_0, .int .u64 a2_1, .int .u64 a2_2]] (by rfl) rfl rfl (by (try simp only [List.map_toArray, List.map_cons, List.map_nil]); first | done | rfl | (simp only [List.length_drop, List.length_take]; rfl)) ?_
    with_reducible refine (wide_Wide_Cmp.calls k a0_0 a0_1 a0_2 a2_0 a2_1 a2_2 t686 _ A9.out).mono ?_
    rintro e w19 ⟨rfl, hb⟩
    refine ⟨_, rfl, ?_⟩
    have n0_ := Aside0.mk (blk_below (g := gb675) (o := .cells #[.int .u64 a0_0, .int .u64 a0_1, .int .u64 a0_2] 27 (0, 0)) (by (with_reducible repeat (first | refine blk_drewN ?_ _ | refine blk_drew ?_ | refine blk_alloc ?_ _)); exact BK675.out) hb)
    have n1_ := Aside0.mk (blk_below (g := gb676) (o := .cells #[.int .u64 a1_0, .int .u64 a1_1, .int .u64 a1_2] 27 (0, 0)) (by (with_reducible repeat (first | refine blk_drewN ?_ _ | refine blk_drew ?_ | refine blk_alloc ?_ _)); exact BK676.out) hb)
    have n2_ := Aside0.mk (blk_below (g := gb677) (o := .cells #[.int .u64 a2_0, .int .u64 a2_1, .int .u64 a2_2] 27 (0, 0)) (by (with_reducible repeat (first | refine blk_drewN ?_ _ | refine blk_drew ?_ | refine blk_alloc ?_ _)); exact BK677.out) hb)
    have n3_ := Aside0.mk (blk_below (g := gb678) (o := .cells #[.int .u64 a3_0, .int .u64 a3_1] 25 (0, 0)) (by (with_reducible repeat (first | refine blk_drewN ?_ _ | refine blk_drew ?_ | refine blk_alloc ?_ _)); exact BK678.out) hb)
    have n4_ := Aside0.mk (below_step (by repeat (first | (with_reducible first | exact HB.out | apply below_alloc | apply pw_below_drewN | apply below_drew1 | refine below_set ?_ GE675.out | refine below_set ?_ GE676.out | refine below_set ?_ GE677.out | refine below_set ?_ GE678.out) | exact HB.out)) hb)
    clear BK675
    clear BK676
    clear BK677
    clear BK678
    clear HB
    have BK675 := n0_
    have BK676 := n1_
    have BK677 := n2_
    have BK678 := n3_
    have HB := n4_
    clear n0_ n1_ n2_ n3_ n4_
    (try clear hb)
    (try clear hb2)
    (try clear hk)
    (try clear hi)
    refine hK.out _ _ ⟨(blk_cell BK675.out 0).trans rfl, (blk_cell BK675.out 1).trans rfl, (blk_cell BK675.out 2).trans rfl, (blk_cell BK676.out 0).trans rfl, (blk_cell BK676.out 1).trans rfl, (blk_cell BK676.out 2).trans rfl, (blk_cell BK677.out 0).trans rfl, (blk_cell BK677.out 1).trans rfl, (blk_cell BK677.out 2).trans rfl⟩ (fun hHeld => ?_)
    clear hK K
    refine norm_ (a' := ?_) ?_ ?_
    rotate_left
    · show Act.put _ (some 23) _ = _
      simp only [Act.put, List.setIfInBounds_toArray, List.set_cons_zero, List.set_cons_succ, i64_w, i32_w]
      rfl
    refine pure_ (i := 9) (N := some 9) (v := ?_) (a' := ?_) #[true, true, true, true, true, true, true, true, true, true, false, false] rfl rfl (any_of HT_.out (by kernel_rfl)) (fun _ _ _ h => h) (Or.inl ⟨by rfl, ?_⟩) ?_ ?_
    rotate_left
    · intro w'
      go_simp
      with_reducible rfl
    rotate_left
    · simp only [Act.put, List.setIfInBounds_toArray, List.set_cons_zero, List.set_cons_succ, i64_w, i32_w]
      rfl
    refine pure_ (i := 10) (N := some 10) (v := ?_) (a' := ?_) #[true, true, true, true, true, true, true, true, true, true, true, false] rfl rfl (any_of HT_.out (by kernel_rfl)) (fun _ _ _ h => h) (Or.inl ⟨by rfl, ?_⟩) ?_ ?_
    rotate_left
    · intro w'
      go_simp
      with_reducible rfl
    rotate_left
    · simp only [Act.put, List.setIfInBounds_toArray, List.set_cons_zero, List.set_cons_succ, i64_w, i32_w]
      rfl
    refine pure_ (i := 11) (N := some 11) (v := ?_) (a' := ?_) #[true, true, true, true, true, true, true, true, true, true, true, true] rfl rfl (any_of HT_.out (by kernel_rfl)) (fun _ _ _ h => h) (Or.inl ⟨by rfl, ?_⟩) ?_ ?_
    rotate_left
    · intro w'
      go_simp
      with_reducible rfl
    rotate_left
    · simp only [Act.put, List.setIfInBounds_toArray, List.set_cons_zero, List.set_cons_succ, i64_w, i32_w]
      rfl
    refine done_ (done_of HT_.out (by kernel_rfl)) ?_
    go_upto_region 4 with (fail)
    go_cut [65] (fun v65 wc => ∃ (kq : Nat) (x65_9 : Bool), v65 = .bool x65_9 ∧ Aside0 (paymasterlaw03_WideCompares.j0 kq t684 x65_9 a0_0 a0_1 a0_2 a1_0 a1_1 a1_2 a3_0 a3_1 = some r) ∧ Aside0 (kq ≤ k) ∧ Aside0 (wc.heap[gb675]? = some (.cells #[.int .u64 a0_0, .int .u64 a0_1, .int .u64 a0_2] 27 (0, 0))) ∧ Aside0 (wc.heap[gb676]? = some (.cells #[.int .u64 a1_0, .int .u64 a1_1, .int .u64 a1_2] 27 (0, 0))) ∧ Aside0 (wc.heap[gb677]? = some (.cells #[.int .u64 a2_0, .int .u64 a2_1, .int .u64 a2_2] 27 (0, 0))) ∧ Aside0 (wc.heap[gb678]? = some (.cells #[.int .u64 a3_0, .int .u64 a3_1] 25 (0, 0))) ∧ Aside0 (Below w.heap.size w wc))
    case first =>
      have H := HC10.out
      clear HC10
      by_cases c20 : ((t684 == 0) != (a0_0 == a1_0 && ((a0_1 == a1_1 && (a0_2 == a1_2))))) = true
      · rw [if_pos c20] at H
        exact absurd H (by simp)
      · rw [if_neg c20] at H
        have c20b0 : ((t684 == 0) != (a0_0 == a1_0 && ((a0_1 == a1_1 && (a0_2 == a1_2))))) = false := by simpa using c20
        (try (have c20b1 : decide ((t684 == 0) = (a0_0 == a1_0 && ((a0_1 == a1_1 && (a0_2 == a1_2))))) = true := by simpa using c20))
        (try (have c20b2 : ((t684 == 0) == (a0_0 == a1_0 && ((a0_1 == a1_1 && (a0_2 == a1_2))))) = true := by simpa using c20))
        clear c20
        (first | rw [c20b0] | (simp only [i64_w, i32_w]; rw [c20b0]) | skip)
        replace H := Option.bind_eq_some_iff.mp H
        obtain ⟨t687, A210, H⟩ := H
        replace H : (if t684 = (wrap64 (-t687)) then (if t684 < (-1) then (none) else (if t684 > 1 then (none) else (if t684 ≤ 0 then (if t685 ≤ 0 then (if t686 > 0 then (none) else ((wide_Less.f k a0_0 a0_1 a0_2 a1_0 a1_1 a1_2).bind fun t688 => (paymasterlaw03_WideCompares.j0 k t684 (t688 != (decide (t684 < 0))) a0_0 a0_1 a0_2 a1_0 a1_1 a1_2 a3_0 a3_1))) else ((wide_Less.f k a0_0 a0_1 a0_2 a1_0 a1_1 a1_2).bind fun t696 => (paymasterlaw03_WideCompares.j0 k t684 (t696 != (decide (t684 < 0))) a0_0 a0_1 a0_2 a1_0 a1_1 a1_2 a3_0 a3_1))) else ((wide_Less.f k a0_0 a0_1 a0_2 a1_0 a1_1 a1_2).bind fun t704 => (paymasterlaw03_WideCompares.j0 k t684 (t704 != (decide (t684 < 0))) a0_0 a0_1 a0_2 a1_0 a1_1 a1_2 a3_0 a3_1))))) else (none)) = some r := H
        have A21 := Aside0.mk A210
        clear A210
        by_cases c22 : t684 = (wrap64 (-t687))
        · rw [if_pos c22] at H
          have c22b0 : (t684 == (wrap64 (-t687))) = true := beq_iff_eq.mpr c22
          have c22b1 : (t684 != (wrap64 (-t687))) = false := bne_eq_false_iff_eq.mpr c22
          clear c22
          by_cases c23 : t684 < (-1)
          · rw [if_pos c23] at H
            exact absurd H (by simp)
          · rw [if_neg c23] at H
            have c23b0 : decide (t684 < (-1)) = false := decide_eq_false c23
            clear c23
            by_cases c24 : t684 > 1
            · rw [if_pos c24] at H
              exact absurd H (by simp)
            · rw [if_neg c24] at H
              have c24b0 : decide (1 < t684) = false := decide_eq_false c24
              clear c24
              by_cases c25 : t684 ≤ 0
              · rw [if_pos c25] at H
                have c25b0 : decide (t684 ≤ 0) = true := decide_eq_true c25
                clear c25
                by_cases c26 : t685 ≤ 0
                · rw [if_pos c26] at H
                  have c26b0 : decide (t685 ≤ 0) = true := decide_eq_true c26
                  clear c26
                  by_cases c27 : t686 > 0
                  · rw [if_pos c27] at H
                    exact absurd H (by simp)
                  · rw [if_neg c27] at H
                    have c27b0 : decide (0 < t686) = false := decide_eq_false c27
                    clear c27
                    replace H := Option.bind_eq_some_iff.mp H
                    obtain ⟨t688, A280, H⟩ := H
                    replace H : (paymasterlaw03_WideCompares.j0 k t684 (t688 != (decide (t684 < 0))) a0_0 a0_1 a0_2 a1_0 a1_1 a1_2 a3_0 a3_1) = some r := H
                    have A28 := Aside0.mk A280
                    clear A280
                    have H' := Aside0.mk H
                    clear H
                    have hnb29 := NB675_676.out
                    have hnc29 := NB676_675.out
                    have hnb30 := NB675_677.out
                    have hnc30 := NB677_675.out
                    have hnb31 := NB675_678.out
                    have hnc31 := NB678_675.out
                    have hcz32_0 : w19.cell? ⟨gb675, 0, none⟩ = some (.int .u64 a0_0) := (blk_cell BK675.out 0).trans rfl
                    have hcz32_1 : w19.cell? ⟨gb675, 1, none⟩ = some (.int .u64 a0_1) := (blk_cell BK675.out 1).trans rfl
                    have hcz32_2 : w19.cell? ⟨gb675, 2, none⟩ = some (.int .u64 a0_2) := (blk_cell BK675.out 2).trans rfl
                    have hfz32_0 := blk_frozen BK675.out 0
                    have hfz32_1 := blk_frozen BK675.out 1
                    have hfz32_2 := blk_frozen BK675.out 2
                    have hnb33 := NB676_677.out
                    have hnc33 := NB677_676.out
                    have hnb34 := NB676_678.out
                    have hnc34 := NB678_676.out
                    have hcz35_0 : w19.cell? ⟨gb676, 0, none⟩ = some (.int .u64 a1_0) := (blk_cell BK676.out 0).trans rfl
                    have hcz35_1 : w19.cell? ⟨gb676, 1, none⟩ = some (.int .u64 a1_1) := (blk_cell BK676.out 1).trans rfl
                    have hcz35_2 : w19.cell? ⟨gb676, 2, none⟩ = some (.int .u64 a1_2) := (blk_cell BK676.out 2).trans rfl
                    have hfz35_0 := blk_frozen BK676.out 0
                    have hfz35_1 := blk_frozen BK676.out 1
                    have hfz35_2 := blk_frozen BK676.out 2
                    go_wp2_with (first | (go_at_call 41; (with_reducible refine (wide_Wide_Cmp.calls k a1_0 a1_1 a1_2 a0_0 a0_1 a0_2 t687 _ A21.out).mono ?_); rintro e w36 ⟨rfl, hb⟩; have n0_ := Aside0.mk (blk_below (g := gb675) (o := .cells #[.int .u64 a0_0, .int .u64 a0_1, .int .u64 a0_2] 27 (0, 0)) (by (with_reducible repeat (first | refine blk_drewN ?_ _ | refine blk_drew ?_ | refine blk_alloc ?_ _)); exact BK675.out) hb); have n1_ := Aside0.mk (blk_below (g := gb676) (o := .cells #[.int .u64 a1_0, .int .u64 a1_1, .int .u64 a1_2] 27 (0, 0)) (by (with_reducible repeat (first | refine blk_drewN ?_ _ | refine blk_drew ?_ | refine blk_alloc ?_ _)); exact BK676.out) hb); have n2_ := Aside0.mk (blk_below (g := gb677) (o := .cells #[.int .u64 a2_0, .int .u64 a2_1, .int .u64 a2_2] 27 (0, 0)) (by (with_reducible repeat (first | refine blk_drewN ?_ _ | refine blk_drew ?_ | refine blk_alloc ?_ _)); exact BK677.out) hb); have n3_ := Aside0.mk (blk_below (g := gb678) (o := .cells #[.int .u64 a3_0, .int .u64 a3_1] 25 (0, 0)) (by (with_reducible repeat (first | refine blk_drewN ?_ _ | refine blk_drew ?_ | refine blk_alloc ?_ _)); exact BK678.out) hb); have n4_ := Aside0.mk (below_step (by repeat (first | (with_reducible first | exact HB.out | apply below_alloc | apply pw_below_drewN | apply below_drew1 | refine below_set ?_ GE675.out | refine below_set ?_ GE676.out | refine below_set ?_ GE677.out | refine below_set ?_ GE678.out) | exact HB.out)) hb); clear BK675; clear BK676; clear BK677; clear BK678; clear HB; have BK675 := n0_; have BK676 := n1_; have BK677 := n2_; have BK678 := n3_; have HB := n4_; clear n0_ n1_ n2_ n3_ n4_; (try clear hb); (try clear hb2); (try clear hk); (try clear hi); have hcz37_0 : w36.cell? ⟨gb675, 0, none⟩ = some (.int .u64 a0_0) := (blk_cell BK675.out 0).trans rfl; have hcz37_1 : w36.cell? ⟨gb675, 1, none⟩ = some (.int .u64 a0_1) := (blk_cell BK675.out 1).trans rfl; have hcz37_2 : w36.cell? ⟨gb675, 2, none⟩ = some (.int .u64 a0_2) := (blk_cell BK675.out 2).trans rfl; have hfz37_0 := blk_frozen BK675.out 0; have hfz37_1 := blk_frozen BK675.out 1; have hfz37_2 := blk_frozen BK675.out 2; have hcz38_0 : w36.cell? ⟨gb676, 0, none⟩ = some (.int .u64 a1_0) := (blk_cell BK676.out 0).trans rfl; have hcz38_1 : w36.cell? ⟨gb676, 1, none⟩ = some (.int .u64 a1_1) := (blk_cell BK676.out 1).trans rfl; have hcz38_2 : w36.cell? ⟨gb676, 2, none⟩ = some (.int .u64 a1_2) := (blk_cell BK676.out 2).trans rfl; have hfz38_0 := blk_frozen BK676.out 0; have hfz38_1 := blk_frozen BK676.out 1; have hfz38_2 := blk_frozen BK676.out 2) | (go_at_call 43; (with_reducible refine (wide_Less.calls k a0_0 a0_1 a0_2 a1_0 a1_1 a1_2 t688 _ A28.out).mono ?_); rintro e w39 ⟨rfl, hb⟩; have n0_ := Aside0.mk (blk_below (g := gb675) (o := .cells #[.int .u64 a0_0, .int .u64 a0_1, .int .u64 a0_2] 27 (0, 0)) (by (with_reducible repeat (first | refine blk_drewN ?_ _ | refine blk_drew ?_ | refine blk_alloc ?_ _)); exact BK675.out) hb); have n1_ := Aside0.mk (blk_below (g := gb676) (o := .cells #[.int .u64 a1_0, .int .u64 a1_1, .int .u64 a1_2] 27 (0, 0)) (by (with_reducible repeat (first | refine blk_drewN ?_ _ | refine blk_drew ?_ | refine blk_alloc ?_ _)); exact BK676.out) hb); have n2_ := Aside0.mk (blk_below (g := gb677) (o := .cells #[.int .u64 a2_0, .int .u64 a2_1, .int .u64 a2_2] 27 (0, 0)) (by (with_reducible repeat (first | refine blk_drewN ?_ _ | refine blk_drew ?_ | refine blk_alloc ?_ _)); exact BK677.out) hb); have n3_ := Aside0.mk (blk_below (g := gb678) (o := .cells #[.int .u64 a3_0, .int .u64 a3_1] 25 (0, 0)) (by (with_reducible repeat (first | refine blk_drewN ?_ _ | refine blk_drew ?_ | refine blk_alloc ?_ _)); exact BK678.out) hb); have n4_ := Aside0.mk (below_step (by repeat (first | (with_reducible first | exact HB.out | apply below_alloc | apply pw_below_drewN | apply below_drew1 | refine below_set ?_ GE675.out | refine below_set ?_ GE676.out | refine below_set ?_ GE677.out | refine below_set ?_ GE678.out) | exact HB.out)) hb); clear BK675; clear BK676; clear BK677; clear BK678; clear HB; have BK675 := n0_; have BK676 := n1_; have BK677 := n2_; have BK678 := n3_; have HB := n4_; clear n0_ n1_ n2_ n3_ n4_; (try clear hb); (try clear hb2); (try clear hk); (try clear hi)))
                    go_meet
                    case rel => exact ⟨_, ((t688 != (decide (t684 < 0)))), (by first | rfl | (simp; done) | (simp [*]; done)), H', ⟨by first | omega | exact Nat.le_refl _⟩, ⟨by (with_reducible repeat (first | refine blk_drewN ?_ _ | refine blk_drew ?_ | refine blk_alloc ?_ _)); exact BK675.out⟩, ⟨by (with_reducible repeat (first | refine blk_drewN ?_ _ | refine blk_drew ?_ | refine blk_alloc ?_ _)); exact BK676.out⟩, ⟨by (with_reducible repeat (first | refine blk_drewN ?_ _ | refine blk_drew ?_ | refine blk_alloc ?_ _)); exact BK677.out⟩, ⟨by (with_reducible repeat (first | refine blk_drewN ?_ _ | refine blk_drew ?_ | refine blk_alloc ?_ _)); exact BK678.out⟩, ⟨by repeat (first | (with_reducible first | exact HB.out | apply below_alloc | apply pw_below_drewN | apply below_drew1 | refine below_set ?_ GE675.out | refine below_set ?_ GE676.out | refine below_set ?_ GE677.out | refine below_set ?_ GE678.out) | exact HB.out)⟩⟩
                · rw [if_neg c26] at H
                  have c26b0 : decide (t685 ≤ 0) = false := decide_eq_false c26
                  clear c26
                  replace H := Option.bind_eq_some_iff.mp H
                  obtain ⟨t696, A400, H⟩ := H
                  replace H : (paymasterlaw03_WideCompares.j0 k t684 (t696 != (decide (t684 < 0))) a0_0 a0_1 a0_2 a1_0 a1_1 a1_2 a3_0 a3_1) = some r := H
                  have A40 := Aside0.mk A400
                  clear A400
                  have H' := Aside0.mk H
                  clear H
                  have hnb41 := NB675_676.out
                  have hnc41 := NB676_675.out
                  have hnb42 := NB675_677.out
                  have hnc42 := NB677_675.out
                  have hnb43 := NB675_678.out
                  have hnc43 := NB678_675.out
                  have hcz44_0 : w19.cell? ⟨gb675, 0, none⟩ = some (.int .u64 a0_0) := (blk_cell BK675.out 0).trans rfl
                  have hcz44_1 : w19.cell? ⟨gb675, 1, none⟩ = some (.int .u64 a0_1) := (blk_cell BK675.out 1).trans rfl
                  have hcz44_2 : w19.cell? ⟨gb675, 2, none⟩ = some (.int .u64 a0_2) := (blk_cell BK675.out 2).trans rfl
                  have hfz44_0 := blk_frozen BK675.out 0
                  have hfz44_1 := blk_frozen BK675.out 1
                  have hfz44_2 := blk_frozen BK675.out 2
                  have hnb45 := NB676_677.out
                  have hnc45 := NB677_676.out
                  have hnb46 := NB676_678.out
                  have hnc46 := NB678_676.out
                  have hcz47_0 : w19.cell? ⟨gb676, 0, none⟩ = some (.int .u64 a1_0) := (blk_cell BK676.out 0).trans rfl
                  have hcz47_1 : w19.cell? ⟨gb676, 1, none⟩ = some (.int .u64 a1_1) := (blk_cell BK676.out 1).trans rfl
                  have hcz47_2 : w19.cell? ⟨gb676, 2, none⟩ = some (.int .u64 a1_2) := (blk_cell BK676.out 2).trans rfl
                  have hfz47_0 := blk_frozen BK676.out 0
                  have hfz47_1 := blk_frozen BK676.out 1
                  have hfz47_2 := blk_frozen BK676.out 2
                  go_wp2_with (first | (go_at_call 41; (with_reducible refine (wide_Wide_Cmp.calls k a1_0 a1_1 a1_2 a0_0 a0_1 a0_2 t687 _ A21.out).mono ?_); rintro e w48 ⟨rfl, hb⟩; have n0_ := Aside0.mk (blk_below (g := gb675) (o := .cells #[.int .u64 a0_0, .int .u64 a0_1, .int .u64 a0_2] 27 (0, 0)) (by (with_reducible repeat (first | refine blk_drewN ?_ _ | refine blk_drew ?_ | refine blk_alloc ?_ _)); exact BK675.out) hb); have n1_ := Aside0.mk (blk_below (g := gb676) (o := .cells #[.int .u64 a1_0, .int .u64 a1_1, .int .u64 a1_2] 27 (0, 0)) (by (with_reducible repeat (first | refine blk_drewN ?_ _ | refine blk_drew ?_ | refine blk_alloc ?_ _)); exact BK676.out) hb); have n2_ := Aside0.mk (blk_below (g := gb677) (o := .cells #[.int .u64 a2_0, .int .u64 a2_1, .int .u64 a2_2] 27 (0, 0)) (by (with_reducible repeat (first | refine blk_drewN ?_ _ | refine blk_drew ?_ | refine blk_alloc ?_ _)); exact BK677.out) hb); have n3_ := Aside0.mk (blk_below (g := gb678) (o := .cells #[.int .u64 a3_0, .int .u64 a3_1] 25 (0, 0)) (by (with_reducible repeat (first | refine blk_drewN ?_ _ | refine blk_drew ?_ | refine blk_alloc ?_ _)); exact BK678.out) hb); have n4_ := Aside0.mk (below_step (by repeat (first | (with_reducible first | exact HB.out | apply below_alloc | apply pw_below_drewN | apply below_drew1 | refine below_set ?_ GE675.out | refine below_set ?_ GE676.out | refine below_set ?_ GE677.out | refine below_set ?_ GE678.out) | exact HB.out)) hb); clear BK675; clear BK676; clear BK677; clear BK678; clear HB; have BK675 := n0_; have BK676 := n1_; have BK677 := n2_; have BK678 := n3_; have HB := n4_; clear n0_ n1_ n2_ n3_ n4_; (try clear hb); (try clear hb2); (try clear hk); (try clear hi); have hcz49_0 : w48.cell? ⟨gb675, 0, none⟩ = some (.int .u64 a0_0) := (blk_cell BK675.out 0).trans rfl; have hcz49_1 : w48.cell? ⟨gb675, 1, none⟩ = some (.int .u64 a0_1) := (blk_cell BK675.out 1).trans rfl; have hcz49_2 : w48.cell? ⟨gb675, 2, none⟩ = some (.int .u64 a0_2) := (blk_cell BK675.out 2).trans rfl; have hfz49_0 := blk_frozen BK675.out 0; have hfz49_1 := blk_frozen BK675.out 1; have hfz49_2 := blk_frozen BK675.out 2; have hcz50_0 : w48.cell? ⟨gb676, 0, none⟩ = some (.int .u64 a1_0) := (blk_cell BK676.out 0).trans rfl; have hcz50_1 : w48.cell? ⟨gb676, 1, none⟩ = some (.int .u64 a1_1) := (blk_cell BK676.out 1).trans rfl; have hcz50_2 : w48.cell? ⟨gb676, 2, none⟩ = some (.int .u64 a1_2) := (blk_cell BK676.out 2).trans rfl; have hfz50_0 := blk_frozen BK676.out 0; have hfz50_1 := blk_frozen BK676.out 1; have hfz50_2 := blk_frozen BK676.out 2) | (go_at_call 43; (with_reducible refine (wide_Less.calls k a0_0 a0_1 a0_2 a1_0 a1_1 a1_2 t696 _ A40.out).mono ?_); rintro e w51 ⟨rfl, hb⟩; have n0_ := Aside0.mk (blk_below (g := gb675) (o := .cells #[.int .u64 a0_0, .int .u64 a0_1, .int .u64 a0_2] 27 (0, 0)) (by (with_reducible repeat (first | refine blk_drewN ?_ _ | refine blk_drew ?_ | refine blk_alloc ?_ _)); exact BK675.out) hb); have n1_ := Aside0.mk (blk_below (g := gb676) (o := .cells #[.int .u64 a1_0, .int .u64 a1_1, .int .u64 a1_2] 27 (0, 0)) (by (with_reducible repeat (first | refine blk_drewN ?_ _ | refine blk_drew ?_ | refine blk_alloc ?_ _)); exact BK676.out) hb); have n2_ := Aside0.mk (blk_below (g := gb677) (o := .cells #[.int .u64 a2_0, .int .u64 a2_1, .int .u64 a2_2] 27 (0, 0)) (by (with_reducible repeat (first | refine blk_drewN ?_ _ | refine blk_drew ?_ | refine blk_alloc ?_ _)); exact BK677.out) hb); have n3_ := Aside0.mk (blk_below (g := gb678) (o := .cells #[.int .u64 a3_0, .int .u64 a3_1] 25 (0, 0)) (by (with_reducible repeat (first | refine blk_drewN ?_ _ | refine blk_drew ?_ | refine blk_alloc ?_ _)); exact BK678.out) hb); have n4_ := Aside0.mk (below_step (by repeat (first | (with_reducible first | exact HB.out | apply below_alloc | apply pw_below_drewN | apply below_drew1 | refine below_set ?_ GE675.out | refine below_set ?_ GE676.out | refine below_set ?_ GE677.out | refine below_set ?_ GE678.out) | exact HB.out)) hb); clear BK675; clear BK676; clear BK677; clear BK678; clear HB; have BK675 := n0_; have BK676 := n1_; have BK677 := n2_; have BK678 := n3_; have HB := n4_; clear n0_ n1_ n2_ n3_ n4_; (try clear hb); (try clear hb2); (try clear hk); (try clear hi)))
                  go_meet
                  case rel => exact ⟨_, ((t696 != (decide (t684 < 0)))), (by first | rfl | (simp; done) | (simp [*]; done)), H', ⟨by first | omega | exact Nat.le_refl _⟩, ⟨by (with_reducible repeat (first | refine blk_drewN ?_ _ | refine blk_drew ?_ | refine blk_alloc ?_ _)); exact BK675.out⟩, ⟨by (with_reducible repeat (first | refine blk_drewN ?_ _ | refine blk_drew ?_ | refine blk_alloc ?_ _)); exact BK676.out⟩, ⟨by (with_reducible repeat (first | refine blk_drewN ?_ _ | refine blk_drew ?_ | refine blk_alloc ?_ _)); exact BK677.out⟩, ⟨by (with_reducible repeat (first | refine blk_drewN ?_ _ | refine blk_drew ?_ | refine blk_alloc ?_ _)); exact BK678.out⟩, ⟨by repeat (first | (with_reducible first | exact HB.out | apply below_alloc | apply pw_below_drewN | apply below_drew1 | refine below_set ?_ GE675.out | refine below_set ?_ GE676.out | refine below_set ?_ GE677.out | refine below_set ?_ GE678.out) | exact HB.out)⟩⟩
              · rw [if_neg c25] at H
                have c25b0 : decide (t684 ≤ 0) = false := decide_eq_false c25
                clear c25
                replace H := Option.bind_eq_some_iff.mp H
                obtain ⟨t704, A520, H⟩ := H
                replace H : (paymasterlaw03_WideCompares.j0 k t684 (t704 != (decide (t684 < 0))) a0_0 a0_1 a0_2 a1_0 a1_1 a1_2 a3_0 a3_1) = some r := H
                have A52 := Aside0.mk A520
                clear A520
                have H' := Aside0.mk H
                clear H
                have hnb53 := NB675_676.out
                have hnc53 := NB676_675.out
                have hnb54 := NB675_677.out
                have hnc54 := NB677_675.out
                have hnb55 := NB675_678.out
                have hnc55 := NB678_675.out
                have hcz56_0 : w19.cell? ⟨gb675, 0, none⟩ = some (.int .u64 a0_0) := (blk_cell BK675.out 0).trans rfl
                have hcz56_1 : w19.cell? ⟨gb675, 1, none⟩ = some (.int .u64 a0_1) := (blk_cell BK675.out 1).trans rfl
                have hcz56_2 : w19.cell? ⟨gb675, 2, none⟩ = some (.int .u64 a0_2) := (blk_cell BK675.out 2).trans rfl
                have hfz56_0 := blk_frozen BK675.out 0
                have hfz56_1 := blk_frozen BK675.out 1
                have hfz56_2 := blk_frozen BK675.out 2
                have hnb57 := NB676_677.out
                have hnc57 := NB677_676.out
                have hnb58 := NB676_678.out
                have hnc58 := NB678_676.out
                have hcz59_0 : w19.cell? ⟨gb676, 0, none⟩ = some (.int .u64 a1_0) := (blk_cell BK676.out 0).trans rfl
                have hcz59_1 : w19.cell? ⟨gb676, 1, none⟩ = some (.int .u64 a1_1) := (blk_cell BK676.out 1).trans rfl
                have hcz59_2 : w19.cell? ⟨gb676, 2, none⟩ = some (.int .u64 a1_2) := (blk_cell BK676.out 2).trans rfl
                have hfz59_0 := blk_frozen BK676.out 0
                have hfz59_1 := blk_frozen BK676.out 1
                have hfz59_2 := blk_frozen BK676.out 2
                go_wp2_with (first | (go_at_call 41; (with_reducible refine (wide_Wide_Cmp.calls k a1_0 a1_1 a1_2 a0_0 a0_1 a0_2 t687 _ A21.out).mono ?_); rintro e w60 ⟨rfl, hb⟩; have n0_ := Aside0.mk (blk_below (g := gb675) (o := .cells #[.int .u64 a0_0, .int .u64 a0_1, .int .u64 a0_2] 27 (0, 0)) (by (with_reducible repeat (first | refine blk_drewN ?_ _ | refine blk_drew ?_ | refine blk_alloc ?_ _)); exact BK675.out) hb); have n1_ := Aside0.mk (blk_below (g := gb676) (o := .cells #[.int .u64 a1_0, .int .u64 a1_1, .int .u64 a1_2] 27 (0, 0)) (by (with_reducible repeat (first | refine blk_drewN ?_ _ | refine blk_drew ?_ | refine blk_alloc ?_ _)); exact BK676.out) hb); have n2_ := Aside0.mk (blk_below (g := gb677) (o := .cells #[.int .u64 a2_0, .int .u64 a2_1, .int .u64 a2_2] 27 (0, 0)) (by (with_reducible repeat (first | refine blk_drewN ?_ _ | refine blk_drew ?_ | refine blk_alloc ?_ _)); exact BK677.out) hb); have n3_ := Aside0.mk (blk_below (g := gb678) (o := .cells #[.int .u64 a3_0, .int .u64 a3_1] 25 (0, 0)) (by (with_reducible repeat (first | refine blk_drewN ?_ _ | refine blk_drew ?_ | refine blk_alloc ?_ _)); exact BK678.out) hb); have n4_ := Aside0.mk (below_step (by repeat (first | (with_reducible first | exact HB.out | apply below_alloc | apply pw_below_drewN | apply below_drew1 | refine below_set ?_ GE675.out | refine below_set ?_ GE676.out | refine below_set ?_ GE677.out | refine below_set ?_ GE678.out) | exact HB.out)) hb); clear BK675; clear BK676; clear BK677; clear BK678; clear HB; have BK675 := n0_; have BK676 := n1_; have BK677 := n2_; have BK678 := n3_; have HB := n4_; clear n0_ n1_ n2_ n3_ n4_; (try clear hb); (try clear hb2); (try clear hk); (try clear hi); have hcz61_0 : w60.cell? ⟨gb675, 0, none⟩ = some (.int .u64 a0_0) := (blk_cell BK675.out 0).trans rfl; have hcz61_1 : w60.cell? ⟨gb675, 1, none⟩ = some (.int .u64 a0_1) := (blk_cell BK675.out 1).trans rfl; have hcz61_2 : w60.cell? ⟨gb675, 2, none⟩ = some (.int .u64 a0_2) := (blk_cell BK675.out 2).trans rfl; have hfz61_0 := blk_frozen BK675.out 0; have hfz61_1 := blk_frozen BK675.out 1; have hfz61_2 := blk_frozen BK675.out 2; have hcz62_0 : w60.cell? ⟨gb676, 0, none⟩ = some (.int .u64 a1_0) := (blk_cell BK676.out 0).trans rfl; have hcz62_1 : w60.cell? ⟨gb676, 1, none⟩ = some (.int .u64 a1_1) := (blk_cell BK676.out 1).trans rfl; have hcz62_2 : w60.cell? ⟨gb676, 2, none⟩ = some (.int .u64 a1_2) := (blk_cell BK676.out 2).trans rfl; have hfz62_0 := blk_frozen BK676.out 0; have hfz62_1 := blk_frozen BK676.out 1; have hfz62_2 := blk_frozen BK676.out 2) | (go_at_call 43; (with_reducible refine (wide_Less.calls k a0_0 a0_1 a0_2 a1_0 a1_1 a1_2 t704 _ A52.out).mono ?_); rintro e w63 ⟨rfl, hb⟩; have n0_ := Aside0.mk (blk_below (g := gb675) (o := .cells #[.int .u64 a0_0, .int .u64 a0_1, .int .u64 a0_2] 27 (0, 0)) (by (with_reducible repeat (first | refine blk_drewN ?_ _ | refine blk_drew ?_ | refine blk_alloc ?_ _)); exact BK675.out) hb); have n1_ := Aside0.mk (blk_below (g := gb676) (o := .cells #[.int .u64 a1_0, .int .u64 a1_1, .int .u64 a1_2] 27 (0, 0)) (by (with_reducible repeat (first | refine blk_drewN ?_ _ | refine blk_drew ?_ | refine blk_alloc ?_ _)); exact BK676.out) hb); have n2_ := Aside0.mk (blk_below (g := gb677) (o := .cells #[.int .u64 a2_0, .int .u64 a2_1, .int .u64 a2_2] 27 (0, 0)) (by (with_reducible repeat (first | refine blk_drewN ?_ _ | refine blk_drew ?_ | refine blk_alloc ?_ _)); exact BK677.out) hb); have n3_ := Aside0.mk (blk_below (g := gb678) (o := .cells #[.int .u64 a3_0, .int .u64 a3_1] 25 (0, 0)) (by (with_reducible repeat (first | refine blk_drewN ?_ _ | refine blk_drew ?_ | refine blk_alloc ?_ _)); exact BK678.out) hb); have n4_ := Aside0.mk (below_step (by repeat (first | (with_reducible first | exact HB.out | apply below_alloc | apply pw_below_drewN | apply below_drew1 | refine below_set ?_ GE675.out | refine below_set ?_ GE676.out | refine below_set ?_ GE677.out | refine below_set ?_ GE678.out) | exact HB.out)) hb); clear BK675; clear BK676; clear BK677; clear BK678; clear HB; have BK675 := n0_; have BK676 := n1_; have BK677 := n2_; have BK678 := n3_; have HB := n4_; clear n0_ n1_ n2_ n3_ n4_; (try clear hb); (try clear hb2); (try clear hk); (try clear hi)))
                go_meet
                case rel => exact ⟨_, ((t704 != (decide (t684 < 0)))), (by first | rfl | (simp; done) | (simp [*]; done)), H', ⟨by first | omega | exact Nat.le_refl _⟩, ⟨by (with_reducible repeat (first | refine blk_drewN ?_ _ | refine blk_drew ?_ | refine blk_alloc ?_ _)); exact BK675.out⟩, ⟨by (with_reducible repeat (first | refine blk_drewN ?_ _ | refine blk_drew ?_ | refine blk_alloc ?_ _)); exact BK676.out⟩, ⟨by (with_reducible repeat (first | refine blk_drewN ?_ _ | refine blk_drew ?_ | refine blk_alloc ?_ _)); exact BK677.out⟩, ⟨by (with_reducible repeat (first | refine blk_drewN ?_ _ | refine blk_drew ?_ | refine blk_alloc ?_ _)); exact BK678.out⟩, ⟨by repeat (first | (with_reducible first | exact HB.out | apply below_alloc | apply pw_below_drewN | apply below_drew1 | refine below_set ?_ GE675.out | refine below_set ?_ GE676.out | refine below_set ?_ GE677.out | refine below_set ?_ GE678.out) | exact HB.out)⟩⟩
        · rw [if_neg c22] at H
          exact absurd H (by simp)
    case rest =>
      clear HC10
      try clear c2
      try clear p2
      try clear c3
      try clear c4
      try clear c5
      try clear c6
      try clear p6
      try clear c8
      try clear c20
      try clear c20b0
      try clear c20b1
      try clear c20b2
      try clear c22
      try clear c22b0
      try clear c22b1
      try clear c23
      try clear c23b0
      try clear c24
      try clear c24b0
      try clear c25
      try clear c25b0
      try clear c26
      try clear c26b0
      try clear c27
      try clear c27b0
      try clear c29
      try clear c30
      try clear c31
      try clear c33
      try clear c34
      try clear c41
      try clear c42
      try clear c43
      try clear c45
      try clear c46
      try clear c53
      try clear c54
      try clear c55
      try clear c57
      try clear c58
      try clear hcz32_0
      try clear hcz32_1
      try clear hcz32_2
      try clear hcz35_0
      try clear hcz35_1
      try clear hcz35_2
      try clear hcz37_0
      try clear hcz37_1
      try clear hcz37_2
      try clear hcz38_0
      try clear hcz38_1
      try clear hcz38_2
      try clear hcz44_0
      try clear hcz44_1
      try clear hcz44_2
      try clear hcz47_0
      try clear hcz47_1
      try clear hcz47_2
      try clear hcz49_0
      try clear hcz49_1
      try clear hcz49_2
      try clear hcz50_0
      try clear hcz50_1
      try clear hcz50_2
      try clear hcz56_0
      try clear hcz56_1
      try clear hcz56_2
      try clear hcz59_0
      try clear hcz59_1
      try clear hcz59_2
      try clear hcz61_0
      try clear hcz61_1
      try clear hcz61_2
      try clear hcz62_0
      try clear hcz62_1
      try clear hcz62_2
      try clear hfz32_0
      try clear hfz32_1
      try clear hfz32_2
      try clear hfz35_0
      try clear hfz35_1
      try clear hfz35_2
      try clear hfz37_0
      try clear hfz37_1
      try clear hfz37_2
      try clear hfz38_0
      try clear hfz38_1
      try clear hfz38_2
      try clear hfz44_0
      try clear hfz44_1
      try clear hfz44_2
      try clear hfz47_0
      try clear hfz47_1
      try clear hfz47_2
      try clear hfz49_0
      try clear hfz49_1
      try clear hfz49_2
      try clear hfz50_0
      try clear hfz50_1
      try clear hfz50_2
      try clear hfz56_0
      try clear hfz56_1
      try clear hfz56_2
      try clear hfz59_0
      try clear hfz59_1
      try clear hfz59_2
      try clear hfz61_0
      try clear hfz61_1
      try clear hfz61_2
      try clear hfz62_0
      try clear hfz62_1
      try clear hfz62_2
      obtain ⟨kq, x65_9, rfl, HA, HJ9, BK675, BK676, BK677, BK678, HB⟩ := hcut
      cases kq with
      | zero => exact absurd HA.out (by simp [paymasterlaw03_WideCompares.j0])
      | succ kj9 =>
        have H := HA.out
        clear HA
        simp only [paymasterlaw03_WideCompares.j0] at H
        by_cases c64 : x65_9 = true
        · subst c64
          have H1 : (none) = some r := by rw [if_pos rfl] at H; exact H
          clear H
          have H := H1
          clear H1
          exact absurd H (by simp)
        · replace c64 := Bool.eq_false_iff.mpr c64
          subst c64
          have H1 : (if a0_0 = 18446744073709551615 then (some true) else (if a1_0 = 18446744073709551615 then (some true) else ((wide_Wide_Plus.f a0_0 a0_1 a0_2 a3_0 a3_1).bind fun bt712 => ((wide_Wide_Plus.f a1_0 a1_1 a1_2 a3_0 a3_1).bind fun bt715 => ((wide_Wide_Cmp.f kj9 bt712.1 bt712.2.1 bt712.2.2 bt715.1 bt715.2.1 bt715.2.2).bind fun t718 => (some (t718 == t684))))))) = some r := by rw [if_neg (show ¬ (false = true) by decide)] at H; exact H
          clear H
          have H := H1
          clear H1
          by_cases c65 : a0_0 = 18446744073709551615
          · rw [if_pos c65] at H
            have c65b0 : (a0_0 == 18446744073709551615) = true := beq_iff_eq.mpr c65
            have c65b1 : (a0_0 != 18446744073709551615) = false := bne_eq_false_iff_eq.mpr c65
            clear c65
            obtain rfl := Option.some.inj H
            try go_wp2
            have n0_ := Aside0.mk (blk_drew BK675.out)
            have n1_ := Aside0.mk (blk_drew BK676.out)
            have n2_ := Aside0.mk (blk_drew BK677.out)
            have n3_ := Aside0.mk (blk_drew BK678.out)
            have n4_ := Aside0.mk (below_drew1 HB.out)
            clear BK675
            clear BK676
            clear BK677
            clear BK678
            clear HB
            have BK675 := n0_
            have BK676 := n1_
            have BK677 := n2_
            have BK678 := n3_
            have HB := n4_
            clear n0_ n1_ n2_ n3_ n4_
            refine start_ (n := 22) (S := fun w' => w'.cell? ⟨gb675, 0, none⟩ = some (.int .u64 a0_0) ∧ w'.cell? ⟨gb675, 1, none⟩ = some (.int .u64 a0_1) ∧ w'.cell? ⟨gb675, 2, none⟩ = some (.int .u64 a0_2)) (ds := []) #[false, false, false, false, false, false, false, false, false, false, false, false, false, false, false, false, false, false, false, false, false, false] (by kernel_rfl) rfl rfl ⟨(blk_cell BK675.out 0).trans rfl, (blk_cell BK675.out 1).trans rfl, (blk_cell BK675.out 2).trans rfl⟩ (fun hHeld => ?_); refine with_tabW paymasterlaw03_WideCompares.tab7 paymasterlaw03_WideCompares.bits7 (fun HT_ HW_ => ?_)
            generalize wc.drew = w66 at BK675 BK676 BK677 BK678 HB hHeld ⊢
            refine pure_ (i := 0) (N := some 66) (v := ?_) (a' := ?_) #[true, false, false, false, false, false, false, false, false, false, false, false, false, false, false, false, false, false, false, false, false, false] rfl rfl (any_of HT_.out (by kernel_rfl)) (fun _ _ _ h => h) (Or.inl ⟨by rfl, ?_⟩) ?_ ?_
            rotate_left
            · intro w'
              go_simp
              with_reducible rfl
            rotate_left
            · simp only [Act.put, List.setIfInBounds_toArray, List.set_cons_zero, List.set_cons_succ, i64_w, i32_w]
              rfl
            refine pure_ (i := 2) (N := some 68) (v := ?_) (a' := ?_) #[true, false, true, false, false, false, false, false, false, false, false, false, false, false, false, false, false, false, false, false, false, false] rfl rfl (any_of HT_.out (by kernel_rfl)) (fun _ _ _ h => h) (Or.inl ⟨by rfl, ?_⟩) ?_ ?_
            rotate_left
            · intro w'
              go_simp
              with_reducible rfl
            rotate_left
            · simp only [Act.put, List.setIfInBounds_toArray, List.set_cons_zero, List.set_cons_succ, i64_w, i32_w]
              rfl
            refine take_ (i := 1) (N := some 67) (v := ?_) (a' := ?_) #[true, true, true, false, false, false, false, false, false, false, false, false, false, false, false, false, false, false, false, false, false, false] rfl rfl (take_ofW HT_.out HW_.out (by kernel_rfl)) (fun _ _ _ h => h) (Or.inl ⟨by rfl, ?_⟩) hHeld ?_ ?_
            rotate_left
            · rintro w' ⟨s0, s1, s2⟩
              go_simp
              with_reducible rfl
            rotate_left
            · simp only [Act.put, List.setIfInBounds_toArray, List.set_cons_zero, List.set_cons_succ, i64_w, i32_w]
              rfl
            refine pure_ (i := 3) (N := some 69) (v := ?_) (a' := ?_) #[true, true, true, true, false, false, false, false, false, false, false, false, false, false, false, false, false, false, false, false, false, false] rfl rfl (any_of HT_.out (by kernel_rfl)) (fun _ _ _ h => h) (Or.inl ⟨by rfl, ?_⟩) ?_ ?_
            rotate_left
            · intro w'
              go_simp
              with_reducible rfl
            rotate_left
            · simp only [Act.put, List.setIfInBounds_toArray, List.set_cons_zero, List.set_cons_succ, i64_w, i32_w]
              rfl
            refine pure_ (i := 4) (N := some 70) (v := ?_) (a' := ?_) #[true, true, true, true, true, false, false, false, false, false, false, false, false, false, false, false, false, false, false, false, false, false] rfl rfl (any_of HT_.out (by kernel_rfl)) (fun _ _ _ h => h) (Or.inl ⟨by rfl, ?_⟩) ?_ ?_
            rotate_left
            · intro w'
              go_simp
              with_reducible rfl
            rotate_left
            · simp only [Act.put, List.setIfInBounds_toArray, List.set_cons_zero, List.set_cons_succ, i64_w, i32_w]
              rfl
            refine pure_ (i := 5) (N := some 71) (v := undef) (a' := ?_) #[true, true, true, true, true, true, false, false, false, false, false, false, false, false, false, false, false, false, false, false, false, false] rfl rfl (any_of HT_.out (by kernel_rfl)) (fun _ _ _ h => h) (Or.inr ⟨by rfl, rfl⟩) ?_ ?_
            rotate_left
            · simp only [Act.put, List.setIfInBounds_toArray, List.set_cons_zero, List.set_cons_succ, i64_w, i32_w]
              rfl
            refine pure_ (i := 6) (N := some 72) (v := undef) (a' := ?_) #[true, true, true, true, true, true, true, false, false, false, false, false, false, false, false, false, false, false, false, false, false, false] rfl rfl (any_of HT_.out (by kernel_rfl)) (fun _ _ _ h => h) (Or.inr ⟨by rfl, rfl⟩) ?_ ?_
            rotate_left
            · simp only [Act.put, List.setIfInBounds_toArray, List.set_cons_zero, List.set_cons_succ, i64_w, i32_w]
              rfl
            refine pure_ (i := 7) (N := some 73) (v := undef) (a' := ?_) #[true, true, true, true, true, true, true, true, false, false, false, false, false, false, false, false, false, false, false, false, false, false] rfl rfl (any_of HT_.out (by kernel_rfl)) (fun _ _ _ h => h) (Or.inr ⟨by rfl, rfl⟩) ?_ ?_
            rotate_left
            · simp only [Act.put, List.setIfInBounds_toArray, List.set_cons_zero, List.set_cons_succ, i64_w, i32_w]
              rfl
            refine pure_ (i := 8) (N := some 74) (v := undef) (a' := ?_) #[true, true, true, true, true, true, true, true, true, false, false, false, false, false, false, false, false, false, false, false, false, false] rfl rfl (any_of HT_.out (by kernel_rfl)) (fun _ _ _ h => h) (Or.inr ⟨by rfl, rfl⟩) ?_ ?_
            rotate_left
            · simp only [Act.put, List.setIfInBounds_toArray, List.set_cons_zero, List.set_cons_succ, i64_w, i32_w]
              rfl
            refine pure_ (i := 9) (N := some 75) (v := ?_) (a' := ?_) #[true, true, true, true, true, true, true, true, true, true, false, false, false, false, false, false, false, false, false, false, false, false] rfl rfl (any_of HT_.out (by kernel_rfl)) (fun _ _ _ h => h) (Or.inl ⟨by rfl, ?_⟩) ?_ ?_
            rotate_left
            · intro w'
              go_simp
              with_reducible rfl
            rotate_left
            · simp only [Act.put, List.setIfInBounds_toArray, List.set_cons_zero, List.set_cons_succ, i64_w, i32_w]
              rfl
            refine pure_ (i := 10) (N := some 76) (v := ?_) (a' := ?_) #[true, true, true, true, true, true, true, true, true, true, true, false, false, false, false, false, false, false, false, false, false, false] rfl rfl (any_of HT_.out (by kernel_rfl)) (fun _ _ _ h => h) (Or.inl ⟨by rfl, ?_⟩) ?_ ?_
            rotate_left
            · intro w'
              go_simp
              with_reducible rfl
            rotate_left
            · simp only [Act.put, List.setIfInBounds_toArray, List.set_cons_zero, List.set_cons_succ, i64_w, i32_w]
              rfl
            refine pure_ (i := 11) (N := some 77) (v := undef) (a' := ?_) #[true, true, true, true, true, true, true, true, true, true, true, true, false, false, false, false, false, false, false, false, false, false] rfl rfl (any_of HT_.out (by kernel_rfl)) (fun _ _ _ h => h) (Or.inr ⟨by rfl, rfl⟩) ?_ ?_
            rotate_left
            · simp only [Act.put, List.setIfInBounds_toArray, List.set_cons_zero, List.set_cons_succ, i64_w, i32_w]
              rfl
            refine pure_ (i := 12) (N := some 78) (v := undef) (a' := ?_) #[true, true, true, true, true, true, true, true, true, true, true, true, true, false, false, false, false, false, false, false, false, false] rfl rfl (any_of HT_.out (by kernel_rfl)) (fun _ _ _ h => h) (Or.inr ⟨by rfl, rfl⟩) ?_ ?_
            rotate_left
            · simp only [Act.put, List.setIfInBounds_toArray, List.set_cons_zero, List.set_cons_succ, i64_w, i32_w]
              rfl
            refine pure_ (i := 13) (N := some 79) (v := undef) (a' := ?_) #[true, true, true, true, true, true, true, true, true, true, true, true, true, true, false, false, false, false, false, false, false, false] rfl rfl (any_of HT_.out (by kernel_rfl)) (fun _ _ _ h => h) (Or.inr ⟨by rfl, rfl⟩) ?_ ?_
            rotate_left
            · simp only [Act.put, List.setIfInBounds_toArray, List.set_cons_zero, List.set_cons_succ, i64_w, i32_w]
              rfl
            refine pure_ (i := 14) (N := some 80) (v := undef) (a' := ?_) #[true, true, true, true, true, true, true, true, true, true, true, true, true, true, true, false, false, false, false, false, false, false] rfl rfl (any_of HT_.out (by kernel_rfl)) (fun _ _ _ h => h) (Or.inr ⟨by rfl, rfl⟩) ?_ ?_
            rotate_left
            · simp only [Act.put, List.setIfInBounds_toArray, List.set_cons_zero, List.set_cons_succ, i64_w, i32_w]
              rfl
            refine pure_ (i := 15) (N := some 81) (v := undef) (a' := ?_) #[true, true, true, true, true, true, true, true, true, true, true, true, true, true, true, true, false, false, false, false, false, false] rfl rfl (any_of HT_.out (by kernel_rfl)) (fun _ _ _ h => h) (Or.inr ⟨by rfl, rfl⟩) ?_ ?_
            rotate_left
            · simp only [Act.put, List.setIfInBounds_toArray, List.set_cons_zero, List.set_cons_succ, i64_w, i32_w]
              rfl
            refine pure_ (i := 16) (N := some 82) (v := undef) (a' := ?_) #[true, true, true, true, true, true, true, true, true, true, true, true, true, true, true, true, true, false, false, false, false, false] rfl rfl (any_of HT_.out (by kernel_rfl)) (fun _ _ _ h => h) (Or.inr ⟨by rfl, rfl⟩) ?_ ?_
            rotate_left
            · simp only [Act.put, List.setIfInBounds_toArray, List.set_cons_zero, List.set_cons_succ, i64_w, i32_w]
              rfl
            refine pure_ (i := 17) (N := some 83) (v := undef) (a' := ?_) #[true, true, true, true, true, true, true, true, true, true, true, true, true, true, true, true, true, true, false, false, false, false] rfl rfl (any_of HT_.out (by kernel_rfl)) (fun _ _ _ h => h) (Or.inr ⟨by rfl, rfl⟩) ?_ ?_
            rotate_left
            · simp only [Act.put, List.setIfInBounds_toArray, List.set_cons_zero, List.set_cons_succ, i64_w, i32_w]
              rfl
            refine pure_ (i := 18) (N := some 84) (v := undef) (a' := ?_) #[true, true, true, true, true, true, true, true, true, true, true, true, true, true, true, true, true, true, true, false, false, false] rfl rfl (any_of HT_.out (by kernel_rfl)) (fun _ _ _ h => h) (Or.inr ⟨by rfl, rfl⟩) ?_ ?_
            rotate_left
            · simp only [Act.put, List.setIfInBounds_toArray, List.set_cons_zero, List.set_cons_succ, i64_w, i32_w]
              rfl
            refine pure_ (i := 19) (N := some 85) (v := undef) (a' := ?_) #[true, true, true, true, true, true, true, true, true, true, true, true, true, true, true, true, true, true, true, true, false, false] rfl rfl (any_of HT_.out (by kernel_rfl)) (fun _ _ _ h => h) (Or.inr ⟨by rfl, rfl⟩) ?_ ?_
            rotate_left
            · simp only [Act.put, List.setIfInBounds_toArray, List.set_cons_zero, List.set_cons_succ, i64_w, i32_w]
              rfl
            refine pure_ (i := 20) (N := some 86) (v := ?_) (a' := ?_) #[true, true, true, true, true, true, true, true, true, true, true, true, true, true, true, true, true, true, true, true, true, false] rfl rfl (any_of HT_.out (by kernel_rfl)) (fun _ _ _ h => h) (Or.inl ⟨by rfl, ?_⟩) ?_ ?_
            rotate_left
            · intro w'
              go_simp
              with_reducible rfl
            rotate_left
            · simp only [Act.put, List.setIfInBounds_toArray, List.set_cons_zero, List.set_cons_succ, i64_w, i32_w]
              rfl
            refine pure_ (i := 21) (N := some 8) (v := ?_) (a' := ?_) #[true, true, true, true, true, true, true, true, true, true, true, true, true, true, true, true, true, true, true, true, true, true] rfl rfl (any_of HT_.out (by kernel_rfl)) (fun _ _ _ h => h) (Or.inl ⟨by rfl, ?_⟩) ?_ ?_
            rotate_left
            · intro w'
              go_simp
              with_reducible rfl
            rotate_left
            · simp only [Act.put, List.setIfInBounds_toArray, List.set_cons_zero, List.set_cons_succ, i64_w, i32_w]
              rfl
            refine done_ (done_of HT_.out (by kernel_rfl)) ?_
            try go_wp2
            go_ret
            exact ⟨by first | rfl | (simp [errW_none, errW_some] <;> rfl) | (simp [*, errW_none, errW_some] <;> rfl), by repeat (first | (with_reducible first | exact HB.out | apply below_alloc | apply pw_below_drewN | apply below_drew1 | refine below_set ?_ GE675.out | refine below_set ?_ GE676.out | refine below_set ?_ GE677.out | refine below_set ?_ GE678.out) | exact HB.out)⟩
          · rw [if_neg c65] at H
            have c65b0 : (a0_0 == 18446744073709551615) = false := beq_eq_false_iff_ne.mpr c65
            have c65b1 : (a0_0 != 18446744073709551615) = true := bne_iff_ne.mpr c65
            by_cases c67 : a1_0 = 18446744073709551615
            · rw [if_pos c67] at H
              have c67b0 : (a1_0 == 18446744073709551615) = true := beq_iff_eq.mpr c67
              have c67b1 : (a1_0 != 18446744073709551615) = false := bne_eq_false_iff_eq.mpr c67
              clear c67
              obtain rfl := Option.some.inj H
              try go_wp2
              have n0_ := Aside0.mk (blk_drew BK675.out)
              have n1_ := Aside0.mk (blk_drew BK676.out)
              have n2_ := Aside0.mk (blk_drew BK677.out)
              have n3_ := Aside0.mk (blk_drew BK678.out)
              have n4_ := Aside0.mk (below_drew1 HB.out)
              clear BK675
              clear BK676
              clear BK677
              clear BK678
              clear HB
              have BK675 := n0_
              have BK676 := n1_
              have BK677 := n2_
              have BK678 := n3_
              have HB := n4_
              clear n0_ n1_ n2_ n3_ n4_
              refine start_ (n := 22) (S := fun w' => w'.cell? ⟨gb675, 0, none⟩ = some (.int .u64 a0_0) ∧ w'.cell? ⟨gb675, 1, none⟩ = some (.int .u64 a0_1) ∧ w'.cell? ⟨gb675, 2, none⟩ = some (.int .u64 a0_2) ∧ w'.cell? ⟨gb676, 0, none⟩ = some (.int .u64 a1_0) ∧ w'.cell? ⟨gb676, 1, none⟩ = some (.int .u64 a1_1) ∧ w'.cell? ⟨gb676, 2, none⟩ = some (.int .u64 a1_2)) (ds := []) #[false, false, false, false, false, false, false, false, false, false, false, false, false, false, false, false, false, false, false, false, false, false] (by kernel_rfl) rfl rfl ⟨(blk_cell BK675.out 0).trans rfl, (blk_cell BK675.out 1).trans rfl, (blk_cell BK675.out 2).trans rfl, (blk_cell BK676.out 0).trans rfl, (blk_cell BK676.out 1).trans rfl, (blk_cell BK676.out 2).trans rfl⟩ (fun hHeld => ?_); refine with_tabW paymasterlaw03_WideCompares.tab7 paymasterlaw03_WideCompares.bits7 (fun HT_ HW_ => ?_)
              generalize wc.drew = w68 at BK675 BK676 BK677 BK678 HB hHeld ⊢
              refine pure_ (i := 0) (N := some 66) (v := ?_) (a' := ?_) #[true, false, false, false, false, false, false, false, false, false, false, false, false, false, false, false, false, false, false, false, false, false] rfl rfl (any_of HT_.out (by kernel_rfl)) (fun _ _ _ h => h) (Or.inl ⟨by rfl, ?_⟩) ?_ ?_
              rotate_left
              · intro w'
                go_simp
                with_reducible rfl
              rotate_left
              · simp only [Act.put, List.setIfInBounds_toArray, List.set_cons_zero, List.set_cons_succ, i64_w, i32_w]
                rfl
              refine pure_ (i := 2) (N := some 68) (v := ?_) (a' := ?_) #[true, false, true, false, false, false, false, false, false, false, false, false, false, false, false, false, false, false, false, false, false, false] rfl rfl (any_of HT_.out (by kernel_rfl)) (fun _ _ _ h => h) (Or.inl ⟨by rfl, ?_⟩) ?_ ?_
              rotate_left
              · intro w'
                go_simp
                with_reducible rfl
              rotate_left
              · simp only [Act.put, List.setIfInBounds_toArray, List.set_cons_zero, List.set_cons_succ, i64_w, i32_w]
                rfl
              refine take_ (i := 1) (N := some 67) (v := ?_) (a' := ?_) #[true, true, true, false, false, false, false, false, false, false, false, false, false, false, false, false, false, false, false, false, false, false] rfl rfl (take_ofW HT_.out HW_.out (by kernel_rfl)) (fun _ _ _ h => h) (Or.inl ⟨by rfl, ?_⟩) hHeld ?_ ?_
              rotate_left
              · rintro w' ⟨s0, s1, s2, s3, s4, s5⟩
                go_simp
                with_reducible rfl
              rotate_left
              · simp only [Act.put, List.setIfInBounds_toArray, List.set_cons_zero, List.set_cons_succ, i64_w, i32_w]
                rfl
              refine pure_ (i := 3) (N := some 69) (v := ?_) (a' := ?_) #[true, true, true, true, false, false, false, false, false, false, false, false, false, false, false, false, false, false, false, false, false, false] rfl rfl (any_of HT_.out (by kernel_rfl)) (fun _ _ _ h => h) (Or.inl ⟨by rfl, ?_⟩) ?_ ?_
              rotate_left
              · intro w'
                go_simp
                with_reducible rfl
              rotate_left
              · simp only [Act.put, List.setIfInBounds_toArray, List.set_cons_zero, List.set_cons_succ, i64_w, i32_w]
                rfl
              refine pure_ (i := 4) (N := some 70) (v := ?_) (a' := ?_) #[true, true, true, true, true, false, false, false, false, false, false, false, false, false, false, false, false, false, false, false, false, false] rfl rfl (any_of HT_.out (by kernel_rfl)) (fun _ _ _ h => h) (Or.inl ⟨by rfl, ?_⟩) ?_ ?_
              rotate_left
              · intro w'
                go_simp
                with_reducible rfl
              rotate_left
              · simp only [Act.put, List.setIfInBounds_toArray, List.set_cons_zero, List.set_cons_succ, i64_w, i32_w]
                rfl
              refine pure_ (i := 5) (N := some 71) (v := ?_) (a' := ?_) #[true, true, true, true, true, true, false, false, false, false, false, false, false, false, false, false, false, false, false, false, false, false] rfl rfl (any_of HT_.out (by kernel_rfl)) (fun _ _ _ h => h) (Or.inl ⟨by rfl, ?_⟩) ?_ ?_
              rotate_left
              · intro w'
                go_simp
                with_reducible rfl
              rotate_left
              · simp only [Act.put, List.setIfInBounds_toArray, List.set_cons_zero, List.set_cons_succ, i64_w, i32_w]
                rfl
              refine pure_ (i := 7) (N := some 73) (v := ?_) (a' := ?_) #[true, true, true, true, true, true, false, true, false, false, false, false, false, false, false, false, false, false, false, false, false, false] rfl rfl (any_of HT_.out (by kernel_rfl)) (fun _ _ _ h => h) (Or.inl ⟨by rfl, ?_⟩) ?_ ?_
              rotate_left
              · intro w'
                go_simp
                with_reducible rfl
              rotate_left
              · simp only [Act.put, List.setIfInBounds_toArray, List.set_cons_zero, List.set_cons_succ, i64_w, i32_w]
                rfl
              refine take_ (i := 6) (N := some 72) (v := ?_) (a' := ?_) #[true, true, true, true, true, true, true, true, false, false, false, false, false, false, false, false, false, false, false, false, false, false] rfl rfl (take_ofW HT_.out HW_.out (by kernel_rfl)) (fun _ _ _ h => h) (Or.inl ⟨by rfl, ?_⟩) hHeld ?_ ?_
              rotate_left
              · rintro w' ⟨s0, s1, s2, s3, s4, s5⟩
                go_simp
                with_reducible rfl
              rotate_left
              · simp only [Act.put, List.setIfInBounds_toArray, List.set_cons_zero, List.set_cons_succ, i64_w, i32_w]
                rfl
              refine pure_ (i := 8) (N := some 74) (v := ?_) (a' := ?_) #[true, true, true, true, true, true, true, true, true, false, false, false, false, false, false, false, false, false, false, false, false, false] rfl rfl (any_of HT_.out (by kernel_rfl)) (fun _ _ _ h => h) (Or.inl ⟨by rfl, ?_⟩) ?_ ?_
              rotate_left
              · intro w'
                go_simp
                with_reducible rfl
              rotate_left
              · simp only [Act.put, List.setIfInBounds_toArray, List.set_cons_zero, List.set_cons_succ, i64_w, i32_w]
                rfl
              refine pure_ (i := 9) (N := some 75) (v := ?_) (a' := ?_) #[true, true, true, true, true, true, true, true, true, true, false, false, false, false, false, false, false, false, false, false, false, false] rfl rfl (any_of HT_.out (by kernel_rfl)) (fun _ _ _ h => h) (Or.inl ⟨by rfl, ?_⟩) ?_ ?_
              rotate_left
              · intro w'
                go_simp
                with_reducible rfl
              rotate_left
              · simp only [Act.put, List.setIfInBounds_toArray, List.set_cons_zero, List.set_cons_succ, i64_w, i32_w]
                rfl
              refine pure_ (i := 10) (N := some 76) (v := ?_) (a' := ?_) #[true, true, true, true, true, true, true, true, true, true, true, false, false, false, false, false, false, false, false, false, false, false] rfl rfl (any_of HT_.out (by kernel_rfl)) (fun _ _ _ h => h) (Or.inl ⟨by rfl, ?_⟩) ?_ ?_
              rotate_left
              · intro w'
                go_simp
                with_reducible rfl
              rotate_left
              · simp only [Act.put, List.setIfInBounds_toArray, List.set_cons_zero, List.set_cons_succ, i64_w, i32_w]
                rfl
              refine pure_ (i := 11) (N := some 77) (v := undef) (a' := ?_) #[true, true, true, true, true, true, true, true, true, true, true, true, false, false, false, false, false, false, false, false, false, false] rfl rfl (any_of HT_.out (by kernel_rfl)) (fun _ _ _ h => h) (Or.inr ⟨by rfl, rfl⟩) ?_ ?_
              rotate_left
              · simp only [Act.put, List.setIfInBounds_toArray, List.set_cons_zero, List.set_cons_succ, i64_w, i32_w]
                rfl
              refine pure_ (i := 12) (N := some 78) (v := undef) (a' := ?_) #[true, true, true, true, true, true, true, true, true, true, true, true, true, false, false, false, false, false, false, false, false, false] rfl rfl (any_of HT_.out (by kernel_rfl)) (fun _ _ _ h => h) (Or.inr ⟨by rfl, rfl⟩) ?_ ?_
              rotate_left
              · simp only [Act.put, List.setIfInBounds_toArray, List.set_cons_zero, List.set_cons_succ, i64_w, i32_w]
                rfl
              refine pure_ (i := 13) (N := some 79) (v := undef) (a' := ?_) #[true, true, true, true, true, true, true, true, true, true, true, true, true, true, false, false, false, false, false, false, false, false] rfl rfl (any_of HT_.out (by kernel_rfl)) (fun _ _ _ h => h) (Or.inr ⟨by rfl, rfl⟩) ?_ ?_
              rotate_left
              · simp only [Act.put, List.setIfInBounds_toArray, List.set_cons_zero, List.set_cons_succ, i64_w, i32_w]
                rfl
              refine pure_ (i := 14) (N := some 80) (v := undef) (a' := ?_) #[true, true, true, true, true, true, true, true, true, true, true, true, true, true, true, false, false, false, false, false, false, false] rfl rfl (any_of HT_.out (by kernel_rfl)) (fun _ _ _ h => h) (Or.inr ⟨by rfl, rfl⟩) ?_ ?_
              rotate_left
              · simp only [Act.put, List.setIfInBounds_toArray, List.set_cons_zero, List.set_cons_succ, i64_w, i32_w]
                rfl
              refine pure_ (i := 15) (N := some 81) (v := undef) (a' := ?_) #[true, true, true, true, true, true, true, true, true, true, true, true, true, true, true, true, false, false, false, false, false, false] rfl rfl (any_of HT_.out (by kernel_rfl)) (fun _ _ _ h => h) (Or.inr ⟨by rfl, rfl⟩) ?_ ?_
              rotate_left
              · simp only [Act.put, List.setIfInBounds_toArray, List.set_cons_zero, List.set_cons_succ, i64_w, i32_w]
                rfl
              refine pure_ (i := 16) (N := some 82) (v := undef) (a' := ?_) #[true, true, true, true, true, true, true, true, true, true, true, true, true, true, true, true, true, false, false, false, false, false] rfl rfl (any_of HT_.out (by kernel_rfl)) (fun _ _ _ h => h) (Or.inr ⟨by rfl, rfl⟩) ?_ ?_
              rotate_left
              · simp only [Act.put, List.setIfInBounds_toArray, List.set_cons_zero, List.set_cons_succ, i64_w, i32_w]
                rfl
              refine pure_ (i := 17) (N := some 83) (v := undef) (a' := ?_) #[true, true, true, true, true, true, true, true, true, true, true, true, true, true, true, true, true, true, false, false, false, false] rfl rfl (any_of HT_.out (by kernel_rfl)) (fun _ _ _ h => h) (Or.inr ⟨by rfl, rfl⟩) ?_ ?_
              rotate_left
              · simp only [Act.put, List.setIfInBounds_toArray, List.set_cons_zero, List.set_cons_succ, i64_w, i32_w]
                rfl
              refine pure_ (i := 18) (N := some 84) (v := undef) (a' := ?_) #[true, true, true, true, true, true, true, true, true, true, true, true, true, true, true, true, true, true, true, false, false, false] rfl rfl (any_of HT_.out (by kernel_rfl)) (fun _ _ _ h => h) (Or.inr ⟨by rfl, rfl⟩) ?_ ?_
              rotate_left
              · simp only [Act.put, List.setIfInBounds_toArray, List.set_cons_zero, List.set_cons_succ, i64_w, i32_w]
                rfl
              refine pure_ (i := 19) (N := some 85) (v := undef) (a' := ?_) #[true, true, true, true, true, true, true, true, true, true, true, true, true, true, true, true, true, true, true, true, false, false] rfl rfl (any_of HT_.out (by kernel_rfl)) (fun _ _ _ h => h) (Or.inr ⟨by rfl, rfl⟩) ?_ ?_
              rotate_left
              · simp only [Act.put, List.setIfInBounds_toArray, List.set_cons_zero, List.set_cons_succ, i64_w, i32_w]
                rfl
              refine pure_ (i := 20) (N := some 86) (v := ?_) (a' := ?_) #[true, true, true, true, true, true, true, true, true, true, true, true, true, true, true, true, true, true, true, true, true, false] rfl rfl (any_of HT_.out (by kernel_rfl)) (fun _ _ _ h => h) (Or.inl ⟨by rfl, ?_⟩) ?_ ?_
              rotate_left
              · intro w'
                go_simp
                with_reducible rfl
              rotate_left
              · simp only [Act.put, List.setIfInBounds_toArray, List.set_cons_zero, List.set_cons_succ, i64_w, i32_w]
                rfl
              refine pure_ (i := 21) (N := some 8) (v := ?_) (a' := ?_) #[true, true, true, true, true, true, true, true, true, true, true, true, true, true, true, true, true, true, true, true, true, true] rfl rfl (any_of HT_.out (by kernel_rfl)) (fun _ _ _ h => h) (Or.inl ⟨by rfl, ?_⟩) ?_ ?_
              rotate_left
              · intro w'
                go_simp
                with_reducible rfl
              rotate_left
              · simp only [Act.put, List.setIfInBounds_toArray, List.set_cons_zero, List.set_cons_succ, i64_w, i32_w]
                rfl
              refine done_ (done_of HT_.out (by kernel_rfl)) ?_
              try go_wp2
              go_ret
              exact ⟨by first | rfl | (simp [errW_none, errW_some] <;> rfl) | (simp [*, errW_none, errW_some] <;> rfl), by repeat (first | (with_reducible first | exact HB.out | apply below_alloc | apply pw_below_drewN | apply below_drew1 | refine below_set ?_ GE675.out | refine below_set ?_ GE676.out | refine below_set ?_ GE677.out | refine below_set ?_ GE678.out) | exact HB.out)⟩
            · rw [if_neg c67] at H
              have c67b0 : (a1_0 == 18446744073709551615) = false := beq_eq_false_iff_ne.mpr c67
              have c67b1 : (a1_0 != 18446744073709551615) = true := bne_iff_ne.mpr c67
              replace H := Option.bind_eq_some_iff.mp H
              obtain ⟨⟨t712, t713, t714⟩, A690, H⟩ := H
              replace H : ((wide_Wide_Plus.f a1_0 a1_1 a1_2 a3_0 a3_1).bind fun bt715 => ((wide_Wide_Cmp.f kj9 t712 t713 t714 bt715.1 bt715.2.1 bt715.2.2).bind fun t718 => (some (t718 == t684)))) = some r := H
              have A69 := Aside0.mk A690
              clear A690
              replace H := Option.bind_eq_some_iff.mp H
              obtain ⟨⟨t715, t716, t717⟩, A700, H⟩ := H
              replace H : ((wide_Wide_Cmp.f kj9 t712 t713 t714 t715 t716 t717).bind fun t718 => (some (t718 == t684))) = some r := H
              have A70 := Aside0.mk A700
              clear A700
              replace H := Option.bind_eq_some_iff.mp H
              obtain ⟨t718, A710, H⟩ := H
              replace H : (some (t718 == t684)) = some r := H
              have A71 := Aside0.mk A710
              clear A710
              obtain rfl := Option.some.inj H
              try go_wp2
              have n0_ := Aside0.mk (blk_drew BK675.out)
              have n1_ := Aside0.mk (blk_drew BK676.out)
              have n2_ := Aside0.mk (blk_drew BK677.out)
              have n3_ := Aside0.mk (blk_drew BK678.out)
              have n4_ := Aside0.mk (below_drew1 HB.out)
              clear BK675
              clear BK676
              clear BK677
              clear BK678
              clear HB
              have BK675 := n0_
              have BK676 := n1_
              have BK677 := n2_
              have BK678 := n3_
              have HB := n4_
              clear n0_ n1_ n2_ n3_ n4_
              refine start_ (n := 22) (S := fun w' => w'.cell? ⟨gb675, 0, none⟩ = some (.int .u64 a0_0) ∧ w'.cell? ⟨gb675, 1, none⟩ = some (.int .u64 a0_1) ∧ w'.cell? ⟨gb675, 2, none⟩ = some (.int .u64 a0_2) ∧ w'.cell? ⟨gb676, 0, none⟩ = some (.int .u64 a1_0) ∧ w'.cell? ⟨gb676, 1, none⟩ = some (.int .u64 a1_1) ∧ w'.cell? ⟨gb676, 2, none⟩ = some (.int .u64 a1_2) ∧ w'.cell? ⟨gb678, 0, none⟩ = some (.int .u64 a3_0) ∧ w'.cell? ⟨gb678, 1, none⟩ = some (.int .u64 a3_1)) (ds := []) #[false, false, false, false, false, false, false, false, false, false, false, false, false, false, false, false, false, false, false, false, false, false] (by kernel_rfl) rfl rfl ⟨(blk_cell BK675.out 0).trans rfl, (blk_cell BK675.out 1).trans rfl, (blk_cell BK675.out 2).trans rfl, (blk_cell BK676.out 0).trans rfl, (blk_cell BK676.out 1).trans rfl, (blk_cell BK676.out 2).trans rfl, (blk_cell BK678.out 0).trans rfl, (blk_cell BK678.out 1).trans rfl⟩ (fun hHeld => ?_); refine with_tabW paymasterlaw03_WideCompares.tab7 paymasterlaw03_WideCompares.bits7 (fun HT_ HW_ => ?_)
              generalize wc.drew = w72 at BK675 BK676 BK677 BK678 HB hHeld ⊢
              refine pure_ (i := 0) (N := some 66) (v := ?_) (a' := ?_) #[true, false, false, false, false, false, false, false, false, false, false, false, false, false, false, false, false, false, false, false, false, false] rfl rfl (any_of HT_.out (by kernel_rfl)) (fun _ _ _ h => h) (Or.inl ⟨by rfl, ?_⟩) ?_ ?_
              rotate_left
              · intro w'
                go_simp
                with_reducible rfl
              rotate_left
              · simp only [Act.put, List.setIfInBounds_toArray, List.set_cons_zero, List.set_cons_succ, i64_w, i32_w]
                rfl
              refine pure_ (i := 2) (N := some 68) (v := ?_) (a' := ?_) #[true, false, true, false, false, false, false, false, false, false, false, false, false, false, false, false, false, false, false, false, false, false] rfl rfl (any_of HT_.out (by kernel_rfl)) (fun _ _ _ h => h) (Or.inl ⟨by rfl, ?_⟩) ?_ ?_
              rotate_left
              · intro w'
                go_simp
                with_reducible rfl
              rotate_left
              · simp only [Act.put, List.setIfInBounds_toArray, List.set_cons_zero, List.set_cons_succ, i64_w, i32_w]
                rfl
              refine take_ (i := 1) (N := some 67) (v := ?_) (a' := ?_) #[true, true, true, false, false, false, false, false, false, false, false, false, false, false, false, false, false, false, false, false, false, false] rfl rfl (take_ofW HT_.out HW_.out (by kernel_rfl)) (fun _ _ _ h => h) (Or.inl ⟨by rfl, ?_⟩) hHeld ?_ ?_
              rotate_left
              · rintro w' ⟨s0, s1, s2, s3, s4, s5, s6, s7⟩
                go_simp
                with_reducible rfl
              rotate_left
              · simp only [Act.put, List.setIfInBounds_toArray, List.set_cons_zero, List.set_cons_succ, i64_w, i32_w]
                rfl
              refine pure_ (i := 3) (N := some 69) (v := ?_) (a' := ?_) #[true, true, true, true, false, false, false, false, false, false, false, false, false, false, false, false, false, false, false, false, false, false] rfl rfl (any_of HT_.out (by kernel_rfl)) (fun _ _ _ h => h) (Or.inl ⟨by rfl, ?_⟩) ?_ ?_
              rotate_left
              · intro w'
                go_simp
                with_reducible rfl
              rotate_left
              · simp only [Act.put, List.setIfInBounds_toArray, List.set_cons_zero, List.set_cons_succ, i64_w, i32_w]
                rfl
              refine pure_ (i := 4) (N := some 70) (v := ?_) (a' := ?_) #[true, true, true, true, true, false, false, false, false, false, false, false, false, false, false, false, false, false, false, false, false, false] rfl rfl (any_of HT_.out (by kernel_rfl)) (fun _ _ _ h => h) (Or.inl ⟨by rfl, ?_⟩) ?_ ?_
              rotate_left
              · intro w'
                go_simp
                with_reducible rfl
              rotate_left
              · simp only [Act.put, List.setIfInBounds_toArray, List.set_cons_zero, List.set_cons_succ, i64_w, i32_w]
                rfl
              refine pure_ (i := 5) (N := some 71) (v := ?_) (a' := ?_) #[true, true, true, true, true, true, false, false, false, false, false, false, false, false, false, false, false, false, false, false, false, false] rfl rfl (any_of HT_.out (by kernel_rfl)) (fun _ _ _ h => h) (Or.inl ⟨by rfl, ?_⟩) ?_ ?_
              rotate_left
              · intro w'
                go_simp
                with_reducible rfl
              rotate_left
              · simp only [Act.put, List.setIfInBounds_toArray, List.set_cons_zero, List.set_cons_succ, i64_w, i32_w]
                rfl
              refine pure_ (i := 7) (N := some 73) (v := ?_) (a' := ?_) #[true, true, true, true, true, true, false, true, false, false, false, false, false, false, false, false, false, false, false, false, false, false] rfl rfl (any_of HT_.out (by kernel_rfl)) (fun _ _ _ h => h) (Or.inl ⟨by rfl, ?_⟩) ?_ ?_
              rotate_left
              · intro w'
                go_simp
                with_reducible rfl
              rotate_left
              · simp only [Act.put, List.setIfInBounds_toArray, List.set_cons_zero, List.set_cons_succ, i64_w, i32_w]
                rfl
              refine take_ (i := 6) (N := some 72) (v := ?_) (a' := ?_) #[true, true, true, true, true, true, true, true, false, false, false, false, false, false, false, false, false, false, false, false, false, false] rfl rfl (take_ofW HT_.out HW_.out (by kernel_rfl)) (fun _ _ _ h => h) (Or.inl ⟨by rfl, ?_⟩) hHeld ?_ ?_
              rotate_left
              · rintro w' ⟨s0, s1, s2, s3, s4, s5, s6, s7⟩
                go_simp
                with_reducible rfl
              rotate_left
              · simp only [Act.put, List.setIfInBounds_toArray, List.set_cons_zero, List.set_cons_succ, i64_w, i32_w]
                rfl
              refine pure_ (i := 8) (N := some 74) (v := ?_) (a' := ?_) #[true, true, true, true, true, true, true, true, true, false, false, false, false, false, false, false, false, false, false, false, false, false] rfl rfl (any_of HT_.out (by kernel_rfl)) (fun _ _ _ h => h) (Or.inl ⟨by rfl, ?_⟩) ?_ ?_
              rotate_left
              · intro w'
                go_simp
                with_reducible rfl
              rotate_left
              · simp only [Act.put, List.setIfInBounds_toArray, List.set_cons_zero, List.set_cons_succ, i64_w, i32_w]
                rfl
              refine pure_ (i := 9) (N := some 75) (v := ?_) (a' := ?_) #[true, true, true, true, true, true, true, true, true, true, false, false, false, false, false, false, false, false, false, false, false, false] rfl rfl (any_of HT_.out (by kernel_rfl)) (fun _ _ _ h => h) (Or.inl ⟨by rfl, ?_⟩) ?_ ?_
              rotate_left
              · intro w'
                go_simp
                with_reducible rfl
              rotate_left
              · simp only [Act.put, List.setIfInBounds_toArray, List.set_cons_zero, List.set_cons_succ, i64_w, i32_w]
                rfl
              refine pure_ (i := 10) (N := some 76) (v := ?_) (a' := ?_) #[true, true, true, true, true, true, true, true, true, true, true, false, false, false, false, false, false, false, false, false, false, false] rfl rfl (any_of HT_.out (by kernel_rfl)) (fun _ _ _ h => h) (Or.inl ⟨by rfl, ?_⟩) ?_ ?_
              rotate_left
              · intro w'
                go_simp
                with_reducible rfl
              rotate_left
              · simp only [Act.put, List.setIfInBounds_toArray, List.set_cons_zero, List.set_cons_succ, i64_w, i32_w]
                rfl
              refine pure_ (i := 18) (N := some 84) (v := ?_) (a' := ?_) #[true, true, true, true, true, true, true, true, true, true, true, false, false, false, false, false, false, false, true, false, false, false] rfl rfl (any_of HT_.out (by kernel_rfl)) (fun _ _ _ h => h) (Or.inl ⟨by rfl, ?_⟩) ?_ ?_
              rotate_left
              · intro w'
                go_simp
                with_reducible rfl
              rotate_left
              · simp only [Act.put, List.setIfInBounds_toArray, List.set_cons_zero, List.set_cons_succ, i64_w, i32_w]
                rfl
              refine take_ (i := 11) (N := some 77) (v := ?_) (a' := ?_) #[true, true, true, true, true, true, true, true, true, true, true, true, false, false, false, false, false, false, true, false, false, false] rfl rfl (take_ofW HT_.out HW_.out (by kernel_rfl)) (fun _ _ _ h => h) (Or.inl ⟨by rfl, ?_⟩) hHeld ?_ ?_
              rotate_left
              · rintro w' ⟨s0, s1, s2, s3, s4, s5, s6, s7⟩
                go_simp
                with_reducible rfl
              rotate_left
              · simp only [Act.put, List.setIfInBounds_toArray, List.set_cons_zero, List.set_cons_succ, i64_w, i32_w]
                rfl
              refine take_ (i := 12) (N := some 78) (v := ?_) (a' := ?_) #[true, true, true, true, true, true, true, true, true, true, true, true, true, false, false, false, false, false, true, false, false, false] rfl rfl (take_ofW HT_.out HW_.out (by kernel_rfl)) (fun _ _ _ h => h) (Or.inl ⟨by rfl, ?_⟩) hHeld ?_ ?_
              rotate_left
              · rintro w' ⟨s0, s1, s2, s3, s4, s5, s6, s7⟩
                go_simp
                with_reducible rfl
              rotate_left
              · simp only [Act.put, List.setIfInBounds_toArray, List.set_cons_zero, List.set_cons_succ, i64_w, i32_w]
                rfl
              refine take_ (i := 14) (N := some 80) (v := ?_) (a' := ?_) #[true, true, true, true, true, true, true, true, true, true, true, true, true, false, true, false, false, false, true, false, false, false] rfl rfl (take_ofW HT_.out HW_.out (by kernel_rfl)) (fun _ _ _ h => h) (Or.inl ⟨by rfl, ?_⟩) hHeld ?_ ?_
              rotate_left
              · rintro w' ⟨s0, s1, s2, s3, s4, s5, s6, s7⟩
                go_simp
                with_reducible rfl
              rotate_left
              · simp only [Act.put, List.setIfInBounds_toArray, List.set_cons_zero, List.set_cons_succ, i64_w, i32_w]
                rfl
              refine take_ (i := 15) (N := some 81) (v := ?_) (a' := ?_) #[true, true, true, true, true, true, true, true, true, true, true, true, true, false, true, true, false, false, true, false, false, false] rfl rfl (take_ofW HT_.out HW_.out (by kernel_rfl)) (fun _ _ _ h => h) (Or.inl ⟨by rfl, ?_⟩) hHeld ?_ ?_
              rotate_left
              · rintro w' ⟨s0, s1, s2, s3, s4, s5, s6, s7⟩
                go_simp
                with_reducible rfl
              rotate_left
              · simp only [Act.put, List.setIfInBounds_toArray, List.set_cons_zero, List.set_cons_succ, i64_w, i32_w]
                rfl
              refine one_ (i := 13) (N := some 79) #[true, true, true, true, true, true, true, true, true, true, true, true, true, true, true, true, false, false, true, false, false, false] rfl rfl (one_of HT_.out (by kernel_rfl)) (by decide) (fun K hK => ?_)
              refine goes_ Try.func37 (by kernel_rfl) rfl #[.agg #[.int .u64 a0_0, .int .u64 a0_1, .int .u64 a0_2], .agg #[.int .u64 a3_0, .int .u64 a3_1]] (by rfl) rfl rfl (by (try simp only [List.map_toArray, List.map_cons, List.map_nil]); first | done | rfl | (simp only [List.length_drop, List.length_take]; rfl)) ?_
              with_reducible refine (wide_Wide_Plus.calls a0_0 a0_1 a0_2 a3_0 a3_1 t712 t713 t714 _ A69.out).mono ?_
              rintro e w73 ⟨rfl, hb⟩
              refine ⟨_, rfl, ?_⟩
              have n0_ := Aside0.mk (blk_below (g := gb675) (o := .cells #[.int .u64 a0_0, .int .u64 a0_1, .int .u64 a0_2] 27 (0, 0)) (by (with_reducible repeat (first | refine blk_drewN ?_ _ | refine blk_drew ?_ | refine blk_alloc ?_ _)); exact BK675.out) hb)
              have n1_ := Aside0.mk (blk_below (g := gb676) (o := .cells #[.int .u64 a1_0, .int .u64 a1_1, .int .u64 a1_2] 27 (0, 0)) (by (with_reducible repeat (first | refine blk_drewN ?_ _ | refine blk_drew ?_ | refine blk_alloc ?_ _)); exact BK676.out) hb)
              have n2_ := Aside0.mk (blk_below (g := gb677) (o := .cells #[.int .u64 a2_0, .int .u64 a2_1, .int .u64 a2_2] 27 (0, 0)) (by (with_reducible repeat (first | refine blk_drewN ?_ _ | refine blk_drew ?_ | refine blk_alloc ?_ _)); exact BK677.out) hb)
              have n3_ := Aside0.mk (blk_below (g := gb678) (o := .cells #[.int .u64 a3_0, .int .u64 a3_1] 25 (0, 0)) (by (with_reducible repeat (first | refine blk_drewN ?_ _ | refine blk_drew ?_ | refine blk_alloc ?_ _)); exact BK678.out) hb)
              have n4_ := Aside0.mk (below_step (by repeat (first | (with_reducible first | exact HB.out | apply below_alloc | apply pw_below_drewN | apply below_drew1 | refine below_set ?_ GE675.out | refine below_set ?_ GE676.out | refine below_set ?_ GE677.out | refine below_set ?_ GE678.out) | exact HB.out)) hb)
              clear BK675
              clear BK676
              clear BK677
              clear BK678
              clear HB
              have BK675 := n0_
              have BK676 := n1_
              have BK677 := n2_
              have BK678 := n3_
              have HB := n4_
              clear n0_ n1_ n2_ n3_ n4_
              (try clear hb)
              (try clear hb2)
              (try clear hk)
              (try clear hi)
              refine hK.out _ _ ⟨(blk_cell BK675.out 0).trans rfl, (blk_cell BK675.out 1).trans rfl, (blk_cell BK675.out 2).trans rfl, (blk_cell BK676.out 0).trans rfl, (blk_cell BK676.out 1).trans rfl, (blk_cell BK676.out 2).trans rfl, (blk_cell BK678.out 0).trans rfl, (blk_cell BK678.out 1).trans rfl⟩ (fun hHeld => ?_)
              clear hK K
              refine norm_ (a' := ?_) ?_ ?_
              rotate_left
              · show Act.put _ (some 79) _ = _
                simp only [Act.put, List.setIfInBounds_toArray, List.set_cons_zero, List.set_cons_succ, i64_w, i32_w]
                rfl
              refine one_ (i := 16) (N := some 82) #[true, true, true, true, true, true, true, true, true, true, true, true, true, true, true, true, true, false, true, false, false, false] rfl rfl (one_of HT_.out (by kernel_rfl)) (by decide) (fun K hK => ?_)
              refine goes_ Try.func37 (by kernel_rfl) rfl #[.agg #[.int .u64 a1_0, .int .u64 a1_1, .int .u64 a1_2], .agg #[.int .u64 a3_0, .int .u64 a3_1]] (by rfl) rfl rfl (by (try simp only [List.map_toArray, List.map_cons, List.map_nil]); first | done | rfl | (simp only [List.length_drop, List.length_take]; rfl)) ?_
              with_reducible refine (wide_Wide_Plus.calls a1_0 a1_1 a1_2 a3_0 a3_1 t715 t716 t717 _ A70.out).mono ?_
              rintro e w74 ⟨rfl, hb⟩
              refine ⟨_, rfl, ?_⟩
              have n0_ := Aside0.mk (blk_below (g := gb675) (o := .cells #[.int .u64 a0_0, .int .u64 a0_1, .int .u64 a0_2] 27 (0, 0)) (by (with_reducible repeat (first | refine blk_drewN ?_ _ | refine blk_drew ?_ | refine blk_alloc ?_ _)); exact BK675.out) hb)
              have n1_ := Aside0.mk (blk_below (g := gb676) (o := .cells #[.int .u64 a1_0, .int .u64 a1_1, .int .u64 a1_2] 27 (0, 0)) (by (with_reducible repeat (first | refine blk_drewN ?_ _ | refine blk_drew ?_ | refine blk_alloc ?_ _)); exact BK676.out) hb)
              have n2_ := Aside0.mk (blk_below (g := gb677) (o := .cells #[.int .u64 a2_0, .int .u64 a2_1, .int .u64 a2_2] 27 (0, 0)) (by (with_reducible repeat (first | refine blk_drewN ?_ _ | refine blk_drew ?_ | refine blk_alloc ?_ _)); exact BK677.out) hb)
              have n3_ := Aside0.mk (blk_below (g := gb678) (o := .cells #[.int .u64 a3_0, .int .u64 a3_1] 25 (0, 0)) (by (with_reducible repeat (first | refine blk_drewN ?_ _ | refine blk_drew ?_ | refine blk_alloc ?_ _)); exact BK678.out) hb)
              have n4_ := Aside0.mk (below_step (by repeat (first | (with_reducible first | exact HB.out | apply below_alloc | apply pw_below_drewN | apply below_drew1 | refine below_set ?_ GE675.out | refine below_set ?_ GE676.out | refine below_set ?_ GE677.out | refine below_set ?_ GE678.out) | exact HB.out)) hb)
              clear BK675
              clear BK676
              clear BK677
              clear BK678
              clear HB
              have BK675 := n0_
              have BK676 := n1_
              have BK677 := n2_
              have BK678 := n3_
              have HB := n4_
              clear n0_ n1_ n2_ n3_ n4_
              (try clear hb)
              (try clear hb2)
              (try clear hk)
              (try clear hi)
              refine hK.out _ _ ⟨(blk_cell BK675.out 0).trans rfl, (blk_cell BK675.out 1).trans rfl, (blk_cell BK675.out 2).trans rfl, (blk_cell BK676.out 0).trans rfl, (blk_cell BK676.out 1).trans rfl, (blk_cell BK676.out 2).trans rfl, (blk_cell BK678.out 0).trans rfl, (blk_cell BK678.out 1).trans rfl⟩ (fun hHeld => ?_)
              clear hK K
              refine norm_ (a' := ?_) ?_ ?_
              rotate_left
              · show Act.put _ (some 82) _ = _
                simp only [Act.put, List.setIfInBounds_toArray, List.set_cons_zero, List.set_cons_succ, i64_w, i32_w]
                rfl
              refine one_ (i := 17) (N := some 83) #[true, true, true, true, true, true, true, true, true, true, true, true, true, true, true, true, true, true, true, false, false, false] rfl rfl (one_of HT_.out (by kernel_rfl)) (by decide) (fun K hK => ?_)
              refine goes_ Try.func41 (by kernel_rfl) rfl #[.agg #[.int .u64 t712, .int .u64 t713, .int .u64 t714], .agg #[.int .u64 t715, .int .u64 t716, .int .u64 t717]] (by rfl) rfl rfl (by (try simp only [List.map_toArray, List.map_cons, List.map_nil]); first | done | rfl | (simp only [List.length_drop, List.length_take]; rfl)) ?_
              with_reducible refine (wide_Wide_Cmp.calls kj9 t712 t713 t714 t715 t716 t717 t718 _ A71.out).mono ?_
              rintro e w75 ⟨rfl, hb⟩
              refine ⟨_, rfl, ?_⟩
              have n0_ := Aside0.mk (blk_below (g := gb675) (o := .cells #[.int .u64 a0_0, .int .u64 a0_1, .int .u64 a0_2] 27 (0, 0)) (by (with_reducible repeat (first | refine blk_drewN ?_ _ | refine blk_drew ?_ | refine blk_alloc ?_ _)); exact BK675.out) hb)
              have n1_ := Aside0.mk (blk_below (g := gb676) (o := .cells #[.int .u64 a1_0, .int .u64 a1_1, .int .u64 a1_2] 27 (0, 0)) (by (with_reducible repeat (first | refine blk_drewN ?_ _ | refine blk_drew ?_ | refine blk_alloc ?_ _)); exact BK676.out) hb)
              have n2_ := Aside0.mk (blk_below (g := gb677) (o := .cells #[.int .u64 a2_0, .int .u64 a2_1, .int .u64 a2_2] 27 (0, 0)) (by (with_reducible repeat (first | refine blk_drewN ?_ _ | refine blk_drew ?_ | refine blk_alloc ?_ _)); exact BK677.out) hb)
              have n3_ := Aside0.mk (blk_below (g := gb678) (o := .cells #[.int .u64 a3_0, .int .u64 a3_1] 25 (0, 0)) (by (with_reducible repeat (first | refine blk_drewN ?_ _ | refine blk_drew ?_ | refine blk_alloc ?_ _)); exact BK678.out) hb)
              have n4_ := Aside0.mk (below_step (by repeat (first | (with_reducible first | exact HB.out | apply below_alloc | apply pw_below_drewN | apply below_drew1 | refine below_set ?_ GE675.out | refine below_set ?_ GE676.out | refine below_set ?_ GE677.out | refine below_set ?_ GE678.out) | exact HB.out)) hb)
              clear BK675
              clear BK676
              clear BK677
              clear BK678
              clear HB
              have BK675 := n0_
              have BK676 := n1_
              have BK677 := n2_
              have BK678 := n3_
              have HB := n4_
              clear n0_ n1_ n2_ n3_ n4_
              (try clear hb)
              (try clear hb2)
              (try clear hk)
              (try clear hi)
              refine hK.out _ _ ⟨(blk_cell BK675.out 0).trans rfl, (blk_cell BK675.out 1).trans rfl, (blk_cell BK675.out 2).trans rfl, (blk_cell BK676.out 0).trans rfl, (blk_cell BK676.out 1).trans rfl, (blk_cell BK676.out 2).trans rfl, (blk_cell BK678.out 0).trans rfl, (blk_cell BK678.out 1).trans rfl⟩ (fun hHeld => ?_)
              clear hK K
              refine norm_ (a' := ?_) ?_ ?_
              rotate_left
              · show Act.put _ (some 83) _ = _
                simp only [Act.put, List.setIfInBounds_toArray, List.set_cons_zero, List.set_cons_succ, i64_w, i32_w]
                rfl
              refine pure_ (i := 19) (N := some 85) (v := ?_) (a' := ?_) #[true, true, true, true, true, true, true, true, true, true, true, true, true, true, true, true, true, true, true, true, false, false] rfl rfl (any_of HT_.out (by kernel_rfl)) (fun _ _ _ h => h) (Or.inl ⟨by rfl, ?_⟩) ?_ ?_
              rotate_left
              · intro w'
                go_simp
                with_reducible rfl
              rotate_left
              · simp only [Act.put, List.setIfInBounds_toArray, List.set_cons_zero, List.set_cons_succ, i64_w, i32_w]
                rfl
              refine pure_ (i := 20) (N := some 86) (v := ?_) (a' := ?_) #[true, true, true, true, true, true, true, true, true, true, true, true, true, true, true, true, true, true, true, true, true, false] rfl rfl (any_of HT_.out (by kernel_rfl)) (fun _ _ _ h => h) (Or.inl ⟨by rfl, ?_⟩) ?_ ?_
              rotate_left
              · intro w'
                go_simp
                with_reducible rfl
              rotate_left
              · simp only [Act.put, List.setIfInBounds_toArray, List.set_cons_zero, List.set_cons_succ, i64_w, i32_w]
                rfl
              refine pure_ (i := 21) (N := some 8) (v := ?_) (a' := ?_) #[true, true, true, true, true, true, true, true, true, true, true, true, true, true, true, true, true, true, true, true, true, true] rfl rfl (any_of HT_.out (by kernel_rfl)) (fun _ _ _ h => h) (Or.inl ⟨by rfl, ?_⟩) ?_ ?_
              rotate_left
              · intro w'
                go_simp
                with_reducible rfl
              rotate_left
              · simp only [Act.put, List.setIfInBounds_toArray, List.set_cons_zero, List.set_cons_succ, i64_w, i32_w]
                rfl
              refine done_ (done_of HT_.out (by kernel_rfl)) ?_
              try go_wp2
              go_ret
              exact ⟨by first | rfl | (simp [errW_none, errW_some] <;> rfl) | (simp [*, errW_none, errW_some] <;> rfl), by repeat (first | (with_reducible first | exact HB.out | apply below_alloc | apply pw_below_drewN | apply below_drew1 | refine below_set ?_ GE675.out | refine below_set ?_ GE676.out | refine below_set ?_ GE677.out | refine below_set ?_ GE678.out) | exact HB.out)⟩
  · replace c6 := Bool.eq_false_iff.mpr c6
    subst c6
    have H1 : (none) = some r := by rw [if_neg (show ¬ (false = true) by decide)] at H; exact H
    clear H
    have H := H1
    clear H1
    exact absurd H (by simp)
end Go.Proofs.Ytpkjpiphjdpegaa.P
namespace Go.Proofs.Ytpkjpiphjdpegaa.P
open Go.RowKit Go.Proofs.YtpkjpiphjdpegaaW.PrintWords Go.Proofs.YtpkjpiphjdpegaaW.PrintLast Go.Proofs.YtpkjpiphjdpegaaW.PrintMore
set_option linter.unusedVariables false
set_option linter.unusedSimpArgs false
theorem cmpI_turn (x y : Int) : cmpI x y = -cmpI y x := by
  unfold cmpI
  by_cases h : x < y
  · rw [if_pos h, if_neg (by omega), if_neg (by omega)]
  · by_cases h' : x = y
    · rw [if_neg h, if_pos h', if_neg (by omega), if_pos h'.symm]; rfl
    · rw [if_neg h, if_neg h', if_pos (by omega)]; rfl
theorem cmpI_zero (x y : Int) : cmpI x y = 0 ↔ x = y := by
  unfold cmpI
  by_cases h : x < y
  · rw [if_pos h]; omega
  · by_cases h' : x = y
    · rw [if_neg h, if_pos h']; simp [h']
    · rw [if_neg h, if_neg h']; omega
theorem cmpI_le (x y : Int) : cmpI x y ≤ 0 ↔ x ≤ y := by
  unfold cmpI
  by_cases h : x < y
  · rw [if_pos h]; omega
  · by_cases h' : x = y
    · rw [if_neg h, if_pos h']; omega
    · rw [if_neg h, if_neg h']; omega
theorem cmpI_add (x y z : Int) : cmpI (x + z) (y + z) = cmpI x y := by
  unfold cmpI
  by_cases h : x < y
  · rw [if_pos h, if_pos (by omega)]
  · by_cases h' : x = y
    · rw [if_neg h, if_pos h', if_neg (by omega), if_pos (by omega)]
    · rw [if_neg h, if_neg h', if_neg (by omega), if_neg (by omega)]
theorem plus_is (h a b x y : Int) : wide_Wide_Plus.f h a b x y = wide_Wide_And.f h a b 0 x y := by
  unfold wide_Wide_Plus.f wide_Of.f
  simp only [Option.bind_some]
  cases wide_Wide_And.f h a b 0 x y <;> rfl
theorem wideCompares_end (k : Nat) (h a b g c d x y : Int) (hh : U64 h) (ha : U64 a) (hb : U64 b) (hg : U64 g) (hc : U64 c) (hd : U64 d) (hx : U64 x) (hy : U64 y) :
    paymasterlaw03_WideCompares.j0 (k + 4) (cmpI (wv h a b) (wv g c d)) false h a b g c d x y = some true := by
  rw [show k + 4 = (k + 3) + 1 from rfl, paymasterlaw03_WideCompares.j0, if_neg (by simp)]
  by_cases h1 : h = 18446744073709551615
  · rw [if_pos h1]
  rw [if_neg h1]
  by_cases h2 : g = 18446744073709551615
  · rw [if_pos h2]
  rw [if_neg h2, plus_is, plus_is]
  have hz : U64 0 := ⟨by omega, by omega⟩
  have v := val_range x y hx hy
  have va := val_range a b ha hb
  have vc := val_range c d hc hd
  obtain ⟨h3, h4⟩ := hh
  obtain ⟨g3, g4⟩ := hg
  have r1 : 0 ≤ wv h a b + val x y ∧ wv h a b + val x y < m192 := by unfold wv m128 m192 at *; omega
  have r2 : 0 ≤ wv g c d + val x y ∧ wv g c d + val x y < m192 := by unfold wv m128 m192 at *; omega
  have e1 := and_enc h a b 0 x y ⟨h3, h4⟩ ha hb hz hx hy (by rw [wv_plain]; exact r1.2)
  have e2 := and_enc g c d 0 x y ⟨g3, g4⟩ hc hd hz hx hy (by rw [wv_plain]; exact r2.2)
  rw [wv_plain] at e1 e2
  rw [e1, e2]
  simp only [Option.bind_some]
  obtain ⟨u1, u2, u3, u4⟩ := encW_ok _ r1.1 r1.2
  obtain ⟨w1, w2, w3, w4⟩ := encW_ok _ r2.1 r2.2
  rw [wcmp_is k _ _ _ _ _ _ u1 u2 u3 w1 w2 w3, u4, w4, cmpI_add]
  simp
theorem wideCompares_pure (h a b g c d i m n x y : Int) (hh : U64 h) (ha : U64 a) (hb : U64 b) (hg : U64 g) (hc : U64 c) (hd : U64 d) (hi : U64 i) (hm : U64 m) (hn : U64 n) (hx : U64 x) (hy : U64 y) :
    paymasterlaw03_WideCompares.f 20 h a b g c d i m n x y = some true := by
  unfold paymasterlaw03_WideCompares.f
  rw [awake3 10]
  simp only [Option.bind_some]
  rw [if_pos trivial]
  have c1 : wide_Wide_Cmp.f 20 h a b g c d = some (cmpI (wv h a b) (wv g c d)) := wcmp_is 17 h a b g c d hh ha hb hg hc hd
  have c2 : wide_Wide_Cmp.f 20 g c d i m n = some (cmpI (wv g c d) (wv i m n)) := wcmp_is 17 g c d i m n hg hc hd hi hm hn
  have c3 : wide_Wide_Cmp.f 20 h a b i m n = some (cmpI (wv h a b) (wv i m n)) := wcmp_is 17 h a b i m n hh ha hb hi hm hn
  have c4 : wide_Wide_Cmp.f 20 g c d h a b = some (cmpI (wv g c d) (wv h a b)) := wcmp_is 17 g c d h a b hg hc hd hh ha hb
  have c5 : wide_Less.f 20 h a b g c d = some (decide (wv h a b < wv g c d)) := less_is 17 h a b g c d hh ha hb hg hc hd
  rw [c1, c2, c3, c4, c5]
  simp only [Option.bind_some]
  have fin : paymasterlaw03_WideCompares.j0 20 (cmpI (wv h a b) (wv g c d)) (decide (wv h a b < wv g c d) != decide (cmpI (wv h a b) (wv g c d) < 0)) h a b g c d x y = some true := by
    rw [cmpI_neg, bne_self_eq_false]
    exact wideCompares_end 16 h a b g c d x y hh ha hb hg hc hd hx hy
  have t1 : ¬ ((cmpI (wv h a b) (wv g c d) == 0) != (h == g && (a == c && b == d))) = true := by
    have : (cmpI (wv h a b) (wv g c d) == 0) = (h == g && (a == c && b == d)) := by
      rw [Bool.eq_iff_iff]
      simp only [beq_iff_eq, Bool.and_eq_true]
      rw [cmpI_zero]
      constructor
      · intro e
        exact wv_inj h a b g c d ha hb hc hd e
      · rintro ⟨rfl, rfl, rfl⟩
        rfl
    rw [this]
    simp
  have rg := cmpI_range (wv g c d) (wv h a b)
  have t2 : cmpI (wv h a b) (wv g c d) = wrap64 (-cmpI (wv g c d) (wv h a b)) := by
    rw [wi _ (by omega) (by omega)]
    exact cmpI_turn _ _
  have rg' := cmpI_range (wv h a b) (wv g c d)
  rw [if_neg t1, if_pos t2, if_neg (by omega), if_neg (by omega)]
  by_cases h1 : cmpI (wv h a b) (wv g c d) ≤ 0
  · rw [if_pos h1]
    by_cases h2 : cmpI (wv g c d) (wv i m n) ≤ 0
    · have h3 : ¬ cmpI (wv h a b) (wv i m n) > 0 := by
        have k1 := (cmpI_le _ _).1 h1
        have k2 := (cmpI_le _ _).1 h2
        have k3 := (cmpI_le (wv h a b) (wv i m n)).2 (by omega)
        omega
      rw [if_pos h2, if_neg h3]
      exact fin
    · rw [if_neg h2]
      exact fin
  · rw [if_neg h1]
    exact fin
theorem wideCompares_walk {w : World} (h a b : Int) (hh : U64 h) (ha : U64 a) (hb : U64 b) (g c d : Int) (hg : U64 g) (hc : U64 c) (hd : U64 d) (i m n : Int) (hi : U64 i) (hm : U64 m) (hn : U64 n) (x y : Int) (hx : U64 x) (hy : U64 y) :
    Calls Try.prog 8 #[.agg #[.int .u64 h, .int .u64 a, .int .u64 b], .agg #[.int .u64 g, .int .u64 c, .int .u64 d], .agg #[.int .u64 i, .int .u64 m, .int .u64 n], .agg #[.int .u64 x, .int .u64 y]] w fun e w' => e = .returned (.bool true) ∧ Below w.heap.size w w' :=
  paymasterlaw03_WideCompares.calls 20 h a b g c d i m n x y true w (wideCompares_pure h a b g c d i m n x y hh ha hb hg hc hd hi hm hn hx hy)
end Go.Proofs.Ytpkjpiphjdpegaa.P
namespace Go.Proofs.Ytpkjpiphjdpegaa.wideCompares
open Go.ChangeShapes Go.WideShapes Go.ChangeAt Go.RowKit Go.Proofs.Ytpkjpiphjdpegaa.P
open Go.ChangeMaps (open_string shut_string)
set_option linter.unusedVariables false
theorem own : ownKnob Try.prog.godebug = none := by kernel_rfl
theorem laidOut : laidOutB Try.prog = true := by kernel_rfl
set_option maxRecDepth 100000 in
theorem lifted (os : Os) (started : os.Started) (H : Type) (enc : TypeId × Value → H) :
    ReturnsInHanded {} Try.checked os 8 .any (Rows.wideComparesSpec.pre6 enc Try.prog Try.f8 Rows.wideComparesRow.domain false) (Rows.wideComparesSpec.post enc Try.prog Try.f8 false true false false) := by
  refine returnsInHanded_of_change_sized (C := Try.checked) own started (by kernel_rfl) Try.func8
    (ChangeSpec.witness6 (enc := enc) (C := Try.checked) false ⟨#[], #[.agg #[.int .u64 0, .int .u64 0, .int .u64 0], .agg #[.int .u64 0, .int .u64 0, .int .u64 0], .agg #[.int .u64 0, .int .u64 0, .int .u64 0], .agg #[.int .u64 0, .int .u64 0]], []⟩ 8 (by kernel_rfl) (by kernel_rfl) (by kernel_rfl) (by kernel_rfl)) ?_
  intro W base args ds gs before hval0 hW hcnd hsz0 _
  have hval : ∀ (j : Nat) t v, Try.f8.params[j]? = some t → args[j]? = some v → Value.okWide Try.prog W .any base t v := hval0
  have hW' := hW
  obtain ⟨p, q, hA0, hV, rfl, hfz, hnd⟩ := hW
  have hA : DataW.TrodAll enc Try.prog W 0 (fun _ => true) true Try.f8.params.toList args.toList ds p := hA0
  rw [Try.params8] at hA hval
  have hAll := hA
  obtain ⟨v0, vs0, d0, ds0, p0, q0, hargs, rfl, rfl, h0, r0⟩ := trodAll_cons hA
  obtain ⟨v1, vs1, d1, ds1, p1, q1, rfl, rfl, rfl, h1, r1⟩ := trodAll_cons r0
  obtain ⟨v2, vs2, d2, ds2, p2, q2, rfl, rfl, rfl, h2, r2⟩ := trodAll_cons r1
  obtain ⟨v3, vs3, d3, ds3, p3, q3, rfl, rfl, rfl, h3, r3⟩ := trodAll_cons r2
  obtain ⟨rfl, rfl, rfl⟩ := trodAll_nil r3
  obtain rfl : args = #[v0, v1, v2, v3] := by cases args; simp_all
  obtain ⟨rfl, rfl⟩ := trodVars_none hV
  obtain ⟨a0_0, a0_1, a0_2, rfl, g0_0, g0_1, g0_2⟩ := arg_27 (hval 0 27 v0 rfl rfl) h0
  obtain ⟨a1_0, a1_1, a1_2, rfl, g1_0, g1_1, g1_2⟩ := arg_27 (hval 1 27 v1 rfl rfl) h1
  obtain ⟨a2_0, a2_1, a2_2, rfl, g2_0, g2_1, g2_2⟩ := arg_27 (hval 2 27 v2 rfl rfl) h2
  obtain ⟨a3_0, a3_1, rfl, g3_0, g3_1⟩ := arg_25 (hval 3 25 v3 rfl rfl) h3
  clear hA0 hval0 hsz0
  refine (wideCompares_walk (w := W) a0_0 a0_1 a0_2 g0_0 g0_1 g0_2 a1_0 a1_1 a1_2 g1_0 g1_1 g1_2 a2_0 a2_1 a2_2 g2_0 g2_1 g2_2 a3_0 a3_1 g3_0 g3_1).mono fun e W' ⟨he, bel⟩ => ?_
  subst he
  exact ⟨_, rfl, _, _, _, [], _, [], hW', trodAll_mk1 (shut_bool Try.underlying4 _), args_back laidOut bel (by kernel_rfl) hAll, rfl, bel.frame _, fun h => by cases h⟩
theorem both {a b : Bool} (h : a = true) (k : b = true) : (a && b) = true := by rw [h, k]; rfl
theorem c0 : (Rows.wideComparesRow.wf (OpenSpec.ofChange Rows.wideComparesSpec)) = true := by kernel_rfl
theorem c1 : (laidOutB Try.prog) = true := by kernel_rfl
theorem c2 : (mapsRowed Try.prog) = true := by kernel_rfl
theorem c3 : (Try.f8.params.all (Try.prog.readableRec ·)) = true := by kernel_rfl
theorem c4 : (namedTie Try.prog Rows.wideComparesRow.named Rows.wideComparesSpec.vars) = true := by kernel_rfl
theorem c5 : ((Rows.wideComparesRow.stops == [])) = true := by kernel_rfl
theorem c6 : ((Try.prog.stops == [])) = true := by kernel_rfl
theorem c7 : ((Rows.wideComparesRow.knobs == [])) = true := by kernel_rfl
theorem c8 : ((Try.prog.stopKnobs == [])) = true := by kernel_rfl
theorem c9 : ((Rows.wideComparesRow.inPlace == Try.prog.inPlace 8)) = true := by kernel_rfl
theorem c10 : ((Rows.wideComparesRow.unfollowed == Try.prog.unfollowed 8)) = true := by kernel_rfl
theorem c11 : ((Rows.wideComparesRow.recurses == Try.prog.recurses 8)) = true := by kernel_rfl
theorem c12 : ((Rows.wideComparesRow.named == Try.prog.varsNamed 8)) = true := by kernel_rfl
theorem c13 : ((Rows.wideComparesRow.maps == (Try.f8.params.toList ++ Rows.wideComparesSpec.plain.varTypes Try.prog).any (Try.prog.mapsRec ·))) = true := by kernel_rfl
theorem c14 : ((Rows.wideComparesRow.ifaces == (Try.f8.params.toList ++ Rows.wideComparesSpec.plain.varTypes Try.prog).any (Try.prog.ifacesRec ·))) = true := by kernel_rfl
theorem c15 : ((Rows.wideComparesRow.mapsOut == Try.prog.mapsAmong Try.f8.resultTypes.toList)) = true := by kernel_rfl
theorem c16 : ((Rows.wideComparesRow.loops == (Try.f8.params.toList ++ Rows.wideComparesSpec.plain.varTypes Try.prog).any (Try.prog.loopsFrom ·))) = true := by kernel_rfl
theorem c17 : ((Rows.wideComparesRow.wideKeys == (Try.f8.params.toList ++ Rows.wideComparesSpec.plain.varTypes Try.prog ++ Try.f8.resultTypes.toList).any (Try.prog.wideKeysFrom ·))) = true := by kernel_rfl
theorem c18 : (Rows.wideComparesSpec.vars.all (Try.prog.varReadable ·)) = true := by kernel_rfl
theorem c19 : (Try.f8.resultTypes.all (fun t => Try.prog.readableRec t && decide (t < Try.prog.types.size))) = true := by kernel_rfl
theorem c20 : ((Rows.wideComparesRow.ifacesOut == Try.f8.resultTypes.toList.any (Try.prog.ifacesRec ·))) = true := by kernel_rfl
theorem c21 : ((Rows.wideComparesRow.loopsOut == Try.f8.resultTypes.toList.any (Try.prog.loopsFrom ·))) = true := by kernel_rfl
theorem c22 : ((Rows.wideComparesRow.plainKeys == Try.prog.plainKeys)) = true := by kernel_rfl
theorem c23 : (Rows.wideComparesRow.shortTexts.isNone) = true := by kernel_rfl
theorem c24 : (Try.prog.stopsHeard) = true := by kernel_rfl
theorem c25 : (Try.prog.mayEnter) = true := Facts.mayEnter
theorem c26 : ((Rows.wideComparesRow.lifted == Try.prog.liftsFinal)) = true := by rw [Facts.liftsFinal]; kernel_rfl
theorem c27 : ((Try.prog.make == some Rows.wideComparesRow.make)) = true := by rw [Facts.make]; kernel_rfl
theorem c28 : ((Rows.wideComparesRow.kinds == (if Rows.wideComparesRow.domain.isEmpty then [] else Try.f8.params.toList.map fun t => match Try.prog.underlying t with | some (.int k) => some k | _ => none))) = true := by kernel_rfl
theorem c29 : ((Rows.wideComparesRow.pinned == Rows.wideComparesRow.pinnedBy)) = true := by kernel_rfl
theorem c30 : ((Rows.wideComparesRow.veiled == (Try.f8.params.toList ++ Rows.wideComparesSpec.plain.varTypes Try.prog ++ Try.f8.resultTypes.toList).any (Try.prog.veiledRec ·))) = true := by kernel_rfl
theorem c31 : (Rows.wideComparesRow.veiledFits Try.prog Try.f8.params.toList (Try.f8.params.toList ++ Rows.wideComparesSpec.plain.varTypes Try.prog ++ Try.f8.resultTypes.toList)) = true := by kernel_rfl
set_option maxRecDepth 100000 in
theorem closed : joinedFacts Try.prog 8 Try.f8 Rows.wideComparesSpec Rows.wideComparesRow = true := by
  unfold joinedFacts
  exact both (both (both (both (both (both (both (both (both (both (both (both (both (both (both (both (both (both (both (both (both (both (both (both (both (both (both (both (both (both (both (c0) c1) c2) c3) c4) c5) c6) c7) c8) c9) c10) c11) c12) c13) c14) c15) c16) c17) c18) c19) c20) c21) c22) c23) c24) c25) c26) c27) c28) c29) c30) c31
theorem over : Rows.wideComparesRow.holds Try.pinned (OpenSpec.ofChange Rows.wideComparesSpec) :=
  OpenClaim.holds_of_wide 8 Try.f8 rfl rfl rfl rfl rfl rfl rfl ⟨rfl, rfl, rfl, rfl, rfl⟩ rfl rfl rfl rfl rfl (by kernel_rfl) Try.func8 closed
    (of_decide_eq_true (by kernel_rfl)) (by unfold Func.isWrapper; first | (rw [if_pos (by decide +kernel)]; kernel_rfl) | (rw [if_neg (by decide +kernel)]; exact ⟨rfl, rfl⟩))
    (fun os started H enc _ => lifted os started H enc)
end Go.Proofs.Ytpkjpiphjdpegaa.wideCompares
namespace Go.Proofs.Ytpkjpiphjdpegaa
theorem wideCompares_holds : Rows.WideComparesSaid := wideCompares.over
end Go.Proofs.Ytpkjpiphjdpegaa
