/- A program of this session wrote this text out of the session's own texts. (part 3 of 6) -/
import Derived.Test.YtpkjpiphjdpegaaCDecimalTexts2
namespace Go.Proofs.Ytpkjpiphjdpegaa.P
open Go.RowKit Go.Proofs.YtpkjpiphjdpegaaW.PrintWords Go.Proofs.YtpkjpiphjdpegaaW.PrintLast Go.Proofs.YtpkjpiphjdpegaaW.PrintMore
attribute [local go_sem] max2_int min2_int max_two min_two max_three min_three max_four min_four
set_option linter.unusedVariables false
set_option linter.unusedSimpArgs false
def bits_Mul64.f (a0 : Int) (a1 : Int) : Option (Int × Int) := some (IntKind.u64.wrap ((IntKind.u64.wrap ((IntKind.u64.wrap ((a0 / 4294967296) * (a1 / 4294967296))) + ((IntKind.u64.wrap ((IntKind.u64.wrap ((a0 / 4294967296) * (Go.bits .and .u64 a1 4294967295))) + ((IntKind.u64.wrap ((Go.bits .and .u64 a0 4294967295) * (Go.bits .and .u64 a1 4294967295))) / 4294967296))) / 4294967296))) + ((IntKind.u64.wrap ((Go.bits .and .u64 (IntKind.u64.wrap ((IntKind.u64.wrap ((a0 / 4294967296) * (Go.bits .and .u64 a1 4294967295))) + ((IntKind.u64.wrap ((Go.bits .and .u64 a0 4294967295) * (Go.bits .and .u64 a1 4294967295))) / 4294967296))) 4294967295) + (IntKind.u64.wrap ((Go.bits .and .u64 a0 4294967295) * (a1 / 4294967296))))) / 4294967296)), IntKind.u64.wrap (a0 * a1))
set_option maxHeartbeats 8000000 in
set_option maxRecDepth 100000 in
theorem bits_Mul64.calls (a0 : Int) (a1 : Int) (r1 : Int) (r2 : Int) (w : World) (h : bits_Mul64.f a0 a1 = some (r1, r2)) :
    Calls Try.prog 89 #[.int .u64 a0, .int .u64 a1] w fun e w' => e = .returned (.tuple #[.int .u64 r1, .int .u64 r2]) ∧ Drawn0 w w' := by
  have H : (some (IntKind.u64.wrap ((IntKind.u64.wrap ((IntKind.u64.wrap ((a0 / 4294967296) * (a1 / 4294967296))) + ((IntKind.u64.wrap ((IntKind.u64.wrap ((a0 / 4294967296) * (Go.bits .and .u64 a1 4294967295))) + ((IntKind.u64.wrap ((Go.bits .and .u64 a0 4294967295) * (Go.bits .and .u64 a1 4294967295))) / 4294967296))) / 4294967296))) + ((IntKind.u64.wrap ((Go.bits .and .u64 (IntKind.u64.wrap ((IntKind.u64.wrap ((a0 / 4294967296) * (Go.bits .and .u64 a1 4294967295))) + ((IntKind.u64.wrap ((Go.bits .and .u64 a0 4294967295) * (Go.bits .and .u64 a1 4294967295))) / 4294967296))) 4294967295) + (IntKind.u64.wrap ((Go.bits .and .u64 a0 4294967295) * (a1 / 4294967296))))) / 4294967296)), IntKind.u64.wrap (a0 * a1))) = some (r1, r2) := h
  clear h
  simp only [Option.some.injEq, Prod.mk.injEq] at H
  obtain ⟨rfl, rfl⟩ := H
  go_enter Try.func89, Try.ntmps89
  go_wp2
  go_ret2
  exact ⟨by first | rfl | (simp; done) | (simp [*]; done), by repeat (first | exact Drawn0.refl _ | apply Drawn0.step)⟩
mutual
def paymasterref01_Times.l0 : Nat → List Int → List Int → List Int → Int → Option (Int × Int × Int)
  | 0, _, _, _, _ => none
  | k + 1, x6, x7, x8, x9 => if x9 < 8 then (paymasterref01_Times.l1 k x6 x7 x8 x9 0) else ((paymasterref01_number.f k x8).bind fun bt869 => (if bt869.2.2 = true then (some (bt869.1, bt869.2.1, 0)) else (some (0, 0, 10))))
def paymasterref01_Times.l1 : Nat → List Int → List Int → List Int → Int → Int → Option (Int × Int × Int)
  | 0, _, _, _, _, _ => none
  | k + 1, x6, x7, x8, x9, x10 => if x10 < 4 then (if 0 ≤ x9 then (if x9 < (x6.length : Int) then (if 0 ≤ x10 then (if x10 < (x7.length : Int) then (paymasterref01_Times.l2 k x6 x7 x8 x9 x10 (IntKind.u64.wrap ((rd x6 x9) * (rd x7 x10))) (wrap64 (x9 + x10))) else (none)) else (none)) else (none)) else (none)) else (paymasterref01_Times.l0 k x6 x7 x8 (wrap64 (x9 + 1)))
def paymasterref01_Times.l2 : Nat → List Int → List Int → List Int → Int → Int → Int → Int → Option (Int × Int × Int)
  | 0, _, _, _, _, _, _, _ => none
  | k + 1, x6, x7, x8, x9, x10, x11, x12 => if x11 > 0 then (if 0 ≤ x12 then (if x12 < (x8.length : Int) then (paymasterref01_Times.l2 k x6 x7 (x8.set (x12 : Int).toNat (Int.tmod (IntKind.u64.wrap (x11 + (rd x8 x12))) 65536)) x9 x10 (IntKind.u64.wrap (Int.tdiv (IntKind.u64.wrap (x11 + (rd x8 x12))) 65536)) (wrap64 (x12 + 1))) else (none)) else (none)) else (paymasterref01_Times.l1 k x6 x7 x8 x9 (wrap64 (x10 + 1)))
end
def paymasterref01_Times.f (k : Nat) (a0_0 : Int) (a0_1 : Int) (a1 : Int) : Option (Int × Int × Int) := (paymasterref01_digits.f k a0_0 a0_1).bind fun t860 => ((paymasterref01_digits.f k 0 a1).bind fun t863 => (if 17 ≤ 35184372088832 then (paymasterref01_Times.l0 k t860 t863 (List.replicate 17 0) 0) else (none)))
theorem paymasterref01_Times.mono_l : ∀ k, (∀ y0 y1 y2 y3, LeO (paymasterref01_Times.l0 k y0 y1 y2 y3) (paymasterref01_Times.l0 (k + 1) y0 y1 y2 y3)) ∧ (∀ y0 y1 y2 y3 y4, LeO (paymasterref01_Times.l1 k y0 y1 y2 y3 y4) (paymasterref01_Times.l1 (k + 1) y0 y1 y2 y3 y4)) ∧ (∀ y0 y1 y2 y3 y4 y5 y6, LeO (paymasterref01_Times.l2 k y0 y1 y2 y3 y4 y5 y6) (paymasterref01_Times.l2 (k + 1) y0 y1 y2 y3 y4 y5 y6))
  | 0 => ⟨fun _ _ _ _ r h => by simp [paymasterref01_Times.l0] at h, fun _ _ _ _ _ r h => by simp [paymasterref01_Times.l1] at h, fun _ _ _ _ _ _ _ r h => by simp [paymasterref01_Times.l2] at h⟩
  | k + 1 => by
    obtain ⟨ih0, ih1, ih2⟩ := paymasterref01_Times.mono_l k
    refine ⟨?_, ?_, ?_⟩
    · intro y0 y1 y2 y3
      unfold paymasterref01_Times.l0
      repeat' first
      | (with_reducible exact ih0 _ _ _ _)
      | (with_reducible exact ih1 _ _ _ _ _)
      | (with_reducible exact ih2 _ _ _ _ _ _ _)
      | (with_reducible exact paymasterref01_digits.mono _ _ _)
      | (with_reducible exact paymasterref01_number.mono _ _)
      | (with_reducible exact LeO.refl _)
      | (with_reducible exact LeO.none _)
      | (with_reducible refine LeO.ite ?_ ?_)
      | (with_reducible refine LeO.bind ?_ (fun _ => ?_))
      | exact ih0 _ _ _ _
      | exact ih1 _ _ _ _ _
      | exact ih2 _ _ _ _ _ _ _
      | exact paymasterref01_digits.mono _ _ _
      | exact paymasterref01_number.mono _ _
      | exact LeO.none _
      | refine LeO.ite ?_ ?_
      | refine LeO.bind ?_ (fun _ => ?_)
    · intro y0 y1 y2 y3 y4
      unfold paymasterref01_Times.l1
      repeat' first
      | (with_reducible exact ih0 _ _ _ _)
      | (with_reducible exact ih1 _ _ _ _ _)
      | (with_reducible exact ih2 _ _ _ _ _ _ _)
      | (with_reducible exact paymasterref01_digits.mono _ _ _)
      | (with_reducible exact paymasterref01_number.mono _ _)
      | (with_reducible exact LeO.refl _)
      | (with_reducible exact LeO.none _)
      | (with_reducible refine LeO.ite ?_ ?_)
      | (with_reducible refine LeO.bind ?_ (fun _ => ?_))
      | exact ih0 _ _ _ _
      | exact ih1 _ _ _ _ _
      | exact ih2 _ _ _ _ _ _ _
      | exact paymasterref01_digits.mono _ _ _
      | exact paymasterref01_number.mono _ _
      | exact LeO.none _
      | refine LeO.ite ?_ ?_
      | refine LeO.bind ?_ (fun _ => ?_)
    · intro y0 y1 y2 y3 y4 y5 y6
      unfold paymasterref01_Times.l2
      repeat' first
      | (with_reducible exact ih0 _ _ _ _)
      | (with_reducible exact ih1 _ _ _ _ _)
      | (with_reducible exact ih2 _ _ _ _ _ _ _)
      | (with_reducible exact paymasterref01_digits.mono _ _ _)
      | (with_reducible exact paymasterref01_number.mono _ _)
      | (with_reducible exact LeO.refl _)
      | (with_reducible exact LeO.none _)
      | (with_reducible refine LeO.ite ?_ ?_)
      | (with_reducible refine LeO.bind ?_ (fun _ => ?_))
      | exact ih0 _ _ _ _
      | exact ih1 _ _ _ _ _
      | exact ih2 _ _ _ _ _ _ _
      | exact paymasterref01_digits.mono _ _ _
      | exact paymasterref01_number.mono _ _
      | exact LeO.none _
      | refine LeO.ite ?_ ?_
      | refine LeO.bind ?_ (fun _ => ?_)
set_option maxHeartbeats 8000000 in
set_option maxRecDepth 100000 in
theorem paymasterref01_Times.calls (k : Nat) (a0_0 : Int) (a0_1 : Int) (a1 : Int) (r1 : Int) (r2 : Int) (r3 : Int) (w : World) (h : paymasterref01_Times.f k a0_0 a0_1 a1 = some (r1, r2, r3)) :
    Calls Try.prog 57 #[.agg #[.int .u64 a0_0, .int .u64 a0_1], .int .u64 a1] w fun e w' => e = .returned (.tuple #[.agg #[.int .u64 r1, .int .u64 r2], .int .i64 r3]) ∧ Below w.heap.size w w' := by
  have hu25 := Try.underlying25
  have HB := Aside0.mk (Below.refl w.heap.size w)
  have H : ((paymasterref01_digits.f k a0_0 a0_1).bind fun t860 => ((paymasterref01_digits.f k 0 a1).bind fun t863 => (if 17 ≤ 35184372088832 then (paymasterref01_Times.l0 k t860 t863 (List.replicate 17 0) 0) else (none)))) = some (r1, r2, r3) := h
  clear h
  replace H := Option.bind_eq_some_iff.mp H
  obtain ⟨t860, A30, H⟩ := H
  replace H : ((paymasterref01_digits.f k 0 a1).bind fun t863 => (if 17 ≤ 35184372088832 then (paymasterref01_Times.l0 k t860 t863 (List.replicate 17 0) 0) else (none))) = some (r1, r2, r3) := H
  have A3 := Aside0.mk A30
  clear A30
  replace H := Option.bind_eq_some_iff.mp H
  obtain ⟨t863, A40, H⟩ := H
  replace H : (if 17 ≤ 35184372088832 then (paymasterref01_Times.l0 k t860 t863 (List.replicate 17 0) 0) else (none)) = some (r1, r2, r3) := H
  have A4 := Aside0.mk A40
  clear A40
  by_cases c5 : 17 ≤ 35184372088832
  · rw [if_pos c5] at H
    have c5b0 := eq_true c5
    have c5b1 : decide (17 ≤ 35184372088832) = true := decide_eq_true c5
    clear c5
    obtain ⟨y866, hy866⟩ : ∃ y_ : List Int, y_ = (List.replicate 17 0) := ⟨_, rfl⟩
    replace H : (paymasterref01_Times.l0 k t860 t863 y866 0) = some (r1, r2, r3) := by first | (rw [hy866]; with_reducible exact H) | (have H2_ := (Option.bind_some _ _).symm.trans H; rw [hy866]; with_reducible exact H2_) | (have H2_ := (Option.bind_some _ _).symm.trans H; with_reducible exact H2_) | with_reducible exact H | (rw [hy866]; exact H) | exact H
    have Ny866 := Aside0.mk hy866
    clear hy866
    have H' := Aside0.mk H
    clear H
    go_enter Try.func57, Try.ntmps57
    go_wp2_with (first | ((with_reducible refine gate_dst (N := 2) rfl ?_); refine box_event ?hg (N := 2) ?hd (cs := #[.int .u64 a0_0, .int .u64 a0_1]) (t := 25) ?hr ?_; (case hd => rfl); (case hg => rfl); (case hr => first | (go_simp; done) | (go_simp; rfl)); intro gb858 hg w6 hbox hb; have n0_ := Aside0.mk (below_step (by repeat (first | (with_reducible first | exact HB.out | apply below_alloc | apply pw_below_drewN | apply below_drew1) | exact HB.out)) hb); have n1_ := Aside0.mk (hbox); have n2_ := Aside0.mk ((by rw [hg]; exact (below_size (by repeat (first | (with_reducible first | exact HB.out | apply below_alloc | apply pw_below_drewN | apply below_drew1) | exact HB.out))) : w.heap.size ≤ gb858)); have n3_ := Aside0.mk ((by rw [hg]; exact (below_size (by repeat (first | (with_reducible first | exact HB.out | apply below_alloc | apply pw_below_drewN | apply below_drew1) | exact HB.out))) : w.heap.size ≤ gb858)); clear HB; have HB := n0_; have BK858 := n1_; have GW858 := n2_; have GE858 := n3_; clear n0_ n1_ n2_ n3_; clear hb hbox hg) | ((with_reducible refine gate_dst (N := 4) rfl ?_); refine box_event ?hg (N := 4) ?hd (cs := #[.int .u64 0, .int .u64 0]) (t := 25) ?hr ?_; (case hd => rfl); (case hg => rfl); (case hr => first | (go_simp; done) | (go_simp; rfl)); intro gb859 hg w7 hbox hb; have n0_ := Aside0.mk (blk_below (g := gb858) (o := .cells #[.int .u64 a0_0, .int .u64 a0_1] 25 (0, 0)) (by (with_reducible repeat (first | refine blk_drewN ?_ _ | refine blk_drew ?_ | refine blk_alloc ?_ _)); exact BK858.out) hb); have n1_ := Aside0.mk (below_step (by repeat (first | (with_reducible first | exact HB.out | apply below_alloc | apply pw_below_drewN | apply below_drew1 | refine below_set ?_ GE858.out) | exact HB.out)) hb); have n2_ := Aside0.mk (hbox); have n3_ := Aside0.mk ((by rw [hg]; exact (below_size (by repeat (first | (with_reducible first | exact HB.out | apply below_alloc | apply pw_below_drewN | apply below_drew1 | refine below_set ?_ GE858.out) | exact HB.out))) : w.heap.size ≤ gb859)); have n4_ := Aside0.mk ((by rw [hg]; exact (below_size (by repeat (first | (with_reducible first | exact HB.out | apply below_alloc | apply pw_below_drewN | apply below_drew1 | refine below_set ?_ GE858.out) | exact HB.out))) : w.heap.size ≤ gb859)); have n5_ := Aside0.mk ((by rw [hg]; exact Nat.ne_of_lt (blk_lt (g := gb858) (o := .cells #[.int .u64 a0_0, .int .u64 a0_1] 25 (0, 0)) (by (with_reducible repeat (first | refine blk_drewN ?_ _ | refine blk_drew ?_ | refine blk_alloc ?_ _)); exact BK858.out)) : gb858 ≠ gb859)); have n6_ := Aside0.mk ((by rw [hg]; exact Nat.ne_of_gt (blk_lt (g := gb858) (o := .cells #[.int .u64 a0_0, .int .u64 a0_1] 25 (0, 0)) (by (with_reducible repeat (first | refine blk_drewN ?_ _ | refine blk_drew ?_ | refine blk_alloc ?_ _)); exact BK858.out)) : gb859 ≠ gb858)); clear BK858; clear HB; have BK858 := n0_; have HB := n1_; have BK859 := n2_; have GW859 := n3_; have GE859 := n4_; have NB858_859 := n5_; have NB859_858 := n6_; clear n0_ n1_ n2_ n3_ n4_ n5_ n6_; clear hb hbox hg; have hnb8 := NB858_859.out; have hnc8 := NB859_858.out; have hcz9_0 : w7.cell? ⟨gb858, 0, none⟩ = some (.int .u64 a0_0) := (blk_cell BK858.out 0).trans rfl; have hcz9_1 : w7.cell? ⟨gb858, 1, none⟩ = some (.int .u64 a0_1) := (blk_cell BK858.out 1).trans rfl; have hfz9_0 := blk_frozen BK858.out 0; have hfz9_1 := blk_frozen BK858.out 1) | (go_at_call 84; (with_reducible refine (paymasterref01_digits.calls k a0_0 a0_1 t860 _ A3.out).mono ?_); rintro e w10 ⟨v861, rfl, ho0, hb⟩; have n0_ := Aside0.mk (Kd.R_lower ho0 (below_size (by repeat (first | (with_reducible first | exact HB.out | apply below_alloc | apply pw_below_drewN | apply below_drew1 | refine below_set ?_ GE858.out | refine below_set ?_ GE859.out) | exact HB.out)))); have n1_ := Aside0.mk (blk_below (g := gb858) (o := .cells #[.int .u64 a0_0, .int .u64 a0_1] 25 (0, 0)) (by (with_reducible repeat (first | refine blk_drewN ?_ _ | refine blk_drew ?_ | refine blk_alloc ?_ _)); exact BK858.out) hb); have n2_ := Aside0.mk (blk_below (g := gb859) (o := .cells #[.int .u64 0, .int .u64 0] 25 (0, 0)) (by (with_reducible repeat (first | refine blk_drewN ?_ _ | refine blk_drew ?_ | refine blk_alloc ?_ _)); exact BK859.out) hb); have n3_ := Aside0.mk (below_step (by repeat (first | (with_reducible first | exact HB.out | apply below_alloc | apply pw_below_drewN | apply below_drew1 | refine below_set ?_ GE858.out | refine below_set ?_ GE859.out) | exact HB.out)) hb); clear BK858; clear BK859; clear HB; have HO862 := n0_; have BK858 := n1_; have BK859 := n2_; have HB := n3_; clear n0_ n1_ n2_ n3_; (try clear hb); (try clear hb2); (try clear hk); (try clear hi); (try clear ho0)) | (go_at_call 84; (with_reducible refine (paymasterref01_digits.calls k 0 a1 t863 _ A4.out).mono ?_); rintro e w11 ⟨v864, rfl, ho0, hb⟩; have n0_ := Aside0.mk (Kd.R_elder' (by (with_reducible repeat (first | apply Kd.R_alloc | apply Kd.R_drewN | apply Kd.R_drew)); exact HO862.out) (Kd.R_base ho0) hb); have n1_ := Aside0.mk (Kd.R_lower (Kd.R_new' ho0 (Kd.R_lt (by (with_reducible repeat (first | apply Kd.R_alloc | apply Kd.R_drewN | apply Kd.R_drew)); exact HO862.out))) (below_size (by repeat (first | (with_reducible first | exact HB.out | apply below_alloc | apply pw_below_drewN | apply below_drew1 | refine below_set ?_ GE858.out | refine below_set ?_ GE859.out) | exact HB.out)))); have n2_ := Aside0.mk (blk_below (g := gb858) (o := .cells #[.int .u64 a0_0, .int .u64 a0_1] 25 (0, 0)) (by (with_reducible repeat (first | refine blk_drewN ?_ _ | refine blk_drew ?_ | refine blk_alloc ?_ _)); exact BK858.out) hb); have n3_ := Aside0.mk (blk_below (g := gb859) (o := .cells #[.int .u64 0, .int .u64 0] 25 (0, 0)) (by (with_reducible repeat (first | refine blk_drewN ?_ _ | refine blk_drew ?_ | refine blk_alloc ?_ _)); exact BK859.out) hb); have n4_ := Aside0.mk (below_step (by repeat (first | (with_reducible first | exact HB.out | apply below_alloc | apply pw_below_drewN | apply below_drew1 | refine below_set ?_ GE858.out | refine below_set ?_ GE859.out) | exact HB.out)) hb); clear HO862; clear BK858; clear BK859; clear HB; have HO862 := n0_; have HO865 := n1_; have BK858 := n2_; have BK859 := n3_; have HB := n4_; clear n0_ n1_ n2_ n3_ n4_; (try clear hb); (try clear hb2); (try clear hk); (try clear hi); (try clear ho0)) | ((with_reducible refine gate_dst (N := 20) rfl ?_); refine Kd.R_make (Kd.int .u64) _ 23 rfl (N := 20) rfl 95 _ _ rfl 17 rfl rfl Try.underlying95 (.int .u64 0) 8 info23 rfl (by decide) (by omega) 0 (ok := fun _ => True) (okp := fun _ => True) rfl (fun _ hk => hk) trivial (by omega) (by omega) (Below.refl _ _) (Nat.le_refl _) ?_; intro v867 w12 ho13 hb hg_ hnew_; clear hg_ hnew_; (first | rw [← Ny866.out] at ho13 | (simp only [Int.reduceToNat] at ho13; rw [← Ny866.out] at ho13)); have n0_ := Aside0.mk (Kd.R_elder' (by (with_reducible repeat (first | apply Kd.R_alloc | apply Kd.R_drewN | apply Kd.R_drew)); exact HO862.out) (Kd.R_base ho13) hb); have n1_ := Aside0.mk (Kd.R_elder' (by (with_reducible repeat (first | apply Kd.R_alloc | apply Kd.R_drewN | apply Kd.R_drew)); exact HO865.out) (Kd.R_base ho13) hb); have n2_ := Aside0.mk (Kd.R_lower (Kd.R_new' (Kd.R_new' ho13 (Kd.R_lt (by (with_reducible repeat (first | apply Kd.R_alloc | apply Kd.R_drewN | apply Kd.R_drew)); exact HO862.out))) (Kd.R_lt (by (with_reducible repeat (first | apply Kd.R_alloc | apply Kd.R_drewN | apply Kd.R_drew)); exact HO865.out))) (below_size (by repeat (first | (with_reducible first | exact HB.out | apply below_alloc | apply pw_below_drewN | apply below_drew1 | refine below_set ?_ GE858.out | refine below_set ?_ GE859.out) | exact HB.out)))); have n3_ := Aside0.mk (blk_below (g := gb858) (o := .cells #[.int .u64 a0_0, .int .u64 a0_1] 25 (0, 0)) (by (with_reducible repeat (first | refine blk_drewN ?_ _ | refine blk_drew ?_ | refine blk_alloc ?_ _)); exact BK858.out) hb); have n4_ := Aside0.mk (blk_below (g := gb859) (o := .cells #[.int .u64 0, .int .u64 0] 25 (0, 0)) (by (with_reducible repeat (first | refine blk_drewN ?_ _ | refine blk_drew ?_ | refine blk_alloc ?_ _)); exact BK859.out) hb); have n5_ := Aside0.mk (below_step (by repeat (first | (with_reducible first | exact HB.out | apply below_alloc | apply pw_below_drewN | apply below_drew1 | refine below_set ?_ GE858.out | refine below_set ?_ GE859.out) | exact HB.out)) hb); clear HO862; clear HO865; clear BK858; clear BK859; clear HB; have HO862 := n0_; have HO865 := n1_; have HO868 := n2_; have BK858 := n3_; have BK859 := n4_; have HB := n5_; clear n0_ n1_ n2_ n3_ n4_ n5_; clear hb ho13))
    repeat (go_quiet (first | ((with_reducible refine gate_dst (N := 2) rfl ?_); refine box_event ?hg (N := 2) ?hd (cs := #[.int .u64 a0_0, .int .u64 a0_1]) (t := 25) ?hr ?_; (case hd => rfl); (case hg => rfl); (case hr => first | (go_simp; done) | (go_simp; rfl)); intro gb858 hg w6 hbox hb; have n0_ := Aside0.mk (below_step (by repeat (first | (with_reducible first | exact HB.out | apply below_alloc | apply pw_below_drewN | apply below_drew1) | exact HB.out)) hb); have n1_ := Aside0.mk (hbox); have n2_ := Aside0.mk ((by rw [hg]; exact (below_size (by repeat (first | (with_reducible first | exact HB.out | apply below_alloc | apply pw_below_drewN | apply below_drew1) | exact HB.out))) : w.heap.size ≤ gb858)); have n3_ := Aside0.mk ((by rw [hg]; exact (below_size (by repeat (first | (with_reducible first | exact HB.out | apply below_alloc | apply pw_below_drewN | apply below_drew1) | exact HB.out))) : w.heap.size ≤ gb858)); clear HB; have HB := n0_; have BK858 := n1_; have GW858 := n2_; have GE858 := n3_; clear n0_ n1_ n2_ n3_; clear hb hbox hg) | ((with_reducible refine gate_dst (N := 4) rfl ?_); refine box_event ?hg (N := 4) ?hd (cs := #[.int .u64 0, .int .u64 0]) (t := 25) ?hr ?_; (case hd => rfl); (case hg => rfl); (case hr => first | (go_simp; done) | (go_simp; rfl)); intro gb859 hg w7 hbox hb; have n0_ := Aside0.mk (blk_below (g := gb858) (o := .cells #[.int .u64 a0_0, .int .u64 a0_1] 25 (0, 0)) (by (with_reducible repeat (first | refine blk_drewN ?_ _ | refine blk_drew ?_ | refine blk_alloc ?_ _)); exact BK858.out) hb); have n1_ := Aside0.mk (below_step (by repeat (first | (with_reducible first | exact HB.out | apply below_alloc | apply pw_below_drewN | apply below_drew1 | refine below_set ?_ GE858.out) | exact HB.out)) hb); have n2_ := Aside0.mk (hbox); have n3_ := Aside0.mk ((by rw [hg]; exact (below_size (by repeat (first | (with_reducible first | exact HB.out | apply below_alloc | apply pw_below_drewN | apply below_drew1 | refine below_set ?_ GE858.out) | exact HB.out))) : w.heap.size ≤ gb859)); have n4_ := Aside0.mk ((by rw [hg]; exact (below_size (by repeat (first | (with_reducible first | exact HB.out | apply below_alloc | apply pw_below_drewN | apply below_drew1 | refine below_set ?_ GE858.out) | exact HB.out))) : w.heap.size ≤ gb859)); have n5_ := Aside0.mk ((by rw [hg]; exact Nat.ne_of_lt (blk_lt (g := gb858) (o := .cells #[.int .u64 a0_0, .int .u64 a0_1] 25 (0, 0)) (by (with_reducible repeat (first | refine blk_drewN ?_ _ | refine blk_drew ?_ | refine blk_alloc ?_ _)); exact BK858.out)) : gb858 ≠ gb859)); have n6_ := Aside0.mk ((by rw [hg]; exact Nat.ne_of_gt (blk_lt (g := gb858) (o := .cells #[.int .u64 a0_0, .int .u64 a0_1] 25 (0, 0)) (by (with_reducible repeat (first | refine blk_drewN ?_ _ | refine blk_drew ?_ | refine blk_alloc ?_ _)); exact BK858.out)) : gb859 ≠ gb858)); clear BK858; clear HB; have BK858 := n0_; have HB := n1_; have BK859 := n2_; have GW859 := n3_; have GE859 := n4_; have NB858_859 := n5_; have NB859_858 := n6_; clear n0_ n1_ n2_ n3_ n4_ n5_ n6_; clear hb hbox hg; have hnb8 := NB858_859.out; have hnc8 := NB859_858.out; have hcz9_0 : w7.cell? ⟨gb858, 0, none⟩ = some (.int .u64 a0_0) := (blk_cell BK858.out 0).trans rfl; have hcz9_1 : w7.cell? ⟨gb858, 1, none⟩ = some (.int .u64 a0_1) := (blk_cell BK858.out 1).trans rfl; have hfz9_0 := blk_frozen BK858.out 0; have hfz9_1 := blk_frozen BK858.out 1) | (go_at_call 84; (with_reducible refine (paymasterref01_digits.calls k a0_0 a0_1 t860 _ A3.out).mono ?_); rintro e w10 ⟨v861, rfl, ho0, hb⟩; have n0_ := Aside0.mk (Kd.R_lower ho0 (below_size (by repeat (first | (with_reducible first | exact HB.out | apply below_alloc | apply pw_below_drewN | apply below_drew1 | refine below_set ?_ GE858.out | refine below_set ?_ GE859.out) | exact HB.out)))); have n1_ := Aside0.mk (blk_below (g := gb858) (o := .cells #[.int .u64 a0_0, .int .u64 a0_1] 25 (0, 0)) (by (with_reducible repeat (first | refine blk_drewN ?_ _ | refine blk_drew ?_ | refine blk_alloc ?_ _)); exact BK858.out) hb); have n2_ := Aside0.mk (blk_below (g := gb859) (o := .cells #[.int .u64 0, .int .u64 0] 25 (0, 0)) (by (with_reducible repeat (first | refine blk_drewN ?_ _ | refine blk_drew ?_ | refine blk_alloc ?_ _)); exact BK859.out) hb); have n3_ := Aside0.mk (below_step (by repeat (first | (with_reducible first | exact HB.out | apply below_alloc | apply pw_below_drewN | apply below_drew1 | refine below_set ?_ GE858.out | refine below_set ?_ GE859.out) | exact HB.out)) hb); clear BK858; clear BK859; clear HB; have HO862 := n0_; have BK858 := n1_; have BK859 := n2_; have HB := n3_; clear n0_ n1_ n2_ n3_; (try clear hb); (try clear hb2); (try clear hk); (try clear hi); (try clear ho0)) | (go_at_call 84; (with_reducible refine (paymasterref01_digits.calls k 0 a1 t863 _ A4.out).mono ?_); rintro e w11 ⟨v864, rfl, ho0, hb⟩; have n0_ := Aside0.mk (Kd.R_elder' (by (with_reducible repeat (first | apply Kd.R_alloc | apply Kd.R_drewN | apply Kd.R_drew)); exact HO862.out) (Kd.R_base ho0) hb); have n1_ := Aside0.mk (Kd.R_lower (Kd.R_new' ho0 (Kd.R_lt (by (with_reducible repeat (first | apply Kd.R_alloc | apply Kd.R_drewN | apply Kd.R_drew)); exact HO862.out))) (below_size (by repeat (first | (with_reducible first | exact HB.out | apply below_alloc | apply pw_below_drewN | apply below_drew1 | refine below_set ?_ GE858.out | refine below_set ?_ GE859.out) | exact HB.out)))); have n2_ := Aside0.mk (blk_below (g := gb858) (o := .cells #[.int .u64 a0_0, .int .u64 a0_1] 25 (0, 0)) (by (with_reducible repeat (first | refine blk_drewN ?_ _ | refine blk_drew ?_ | refine blk_alloc ?_ _)); exact BK858.out) hb); have n3_ := Aside0.mk (blk_below (g := gb859) (o := .cells #[.int .u64 0, .int .u64 0] 25 (0, 0)) (by (with_reducible repeat (first | refine blk_drewN ?_ _ | refine blk_drew ?_ | refine blk_alloc ?_ _)); exact BK859.out) hb); have n4_ := Aside0.mk (below_step (by repeat (first | (with_reducible first | exact HB.out | apply below_alloc | apply pw_below_drewN | apply below_drew1 | refine below_set ?_ GE858.out | refine below_set ?_ GE859.out) | exact HB.out)) hb); clear HO862; clear BK858; clear BK859; clear HB; have HO862 := n0_; have HO865 := n1_; have BK858 := n2_; have BK859 := n3_; have HB := n4_; clear n0_ n1_ n2_ n3_ n4_; (try clear hb); (try clear hb2); (try clear hk); (try clear hi); (try clear ho0)) | ((with_reducible refine gate_dst (N := 20) rfl ?_); refine Kd.R_make (Kd.int .u64) _ 23 rfl (N := 20) rfl 95 _ _ rfl 17 rfl rfl Try.underlying95 (.int .u64 0) 8 info23 rfl (by decide) (by omega) 0 (ok := fun _ => True) (okp := fun _ => True) rfl (fun _ hk => hk) trivial (by omega) (by omega) (Below.refl _ _) (Nat.le_refl _) ?_; intro v867 w12 ho13 hb hg_ hnew_; clear hg_ hnew_; (first | rw [← Ny866.out] at ho13 | (simp only [Int.reduceToNat] at ho13; rw [← Ny866.out] at ho13)); have n0_ := Aside0.mk (Kd.R_elder' (by (with_reducible repeat (first | apply Kd.R_alloc | apply Kd.R_drewN | apply Kd.R_drew)); exact HO862.out) (Kd.R_base ho13) hb); have n1_ := Aside0.mk (Kd.R_elder' (by (with_reducible repeat (first | apply Kd.R_alloc | apply Kd.R_drewN | apply Kd.R_drew)); exact HO865.out) (Kd.R_base ho13) hb); have n2_ := Aside0.mk (Kd.R_lower (Kd.R_new' (Kd.R_new' ho13 (Kd.R_lt (by (with_reducible repeat (first | apply Kd.R_alloc | apply Kd.R_drewN | apply Kd.R_drew)); exact HO862.out))) (Kd.R_lt (by (with_reducible repeat (first | apply Kd.R_alloc | apply Kd.R_drewN | apply Kd.R_drew)); exact HO865.out))) (below_size (by repeat (first | (with_reducible first | exact HB.out | apply below_alloc | apply pw_below_drewN | apply below_drew1 | refine below_set ?_ GE858.out | refine below_set ?_ GE859.out) | exact HB.out)))); have n3_ := Aside0.mk (blk_below (g := gb858) (o := .cells #[.int .u64 a0_0, .int .u64 a0_1] 25 (0, 0)) (by (with_reducible repeat (first | refine blk_drewN ?_ _ | refine blk_drew ?_ | refine blk_alloc ?_ _)); exact BK858.out) hb); have n4_ := Aside0.mk (blk_below (g := gb859) (o := .cells #[.int .u64 0, .int .u64 0] 25 (0, 0)) (by (with_reducible repeat (first | refine blk_drewN ?_ _ | refine blk_drew ?_ | refine blk_alloc ?_ _)); exact BK859.out) hb); have n5_ := Aside0.mk (below_step (by repeat (first | (with_reducible first | exact HB.out | apply below_alloc | apply pw_below_drewN | apply below_drew1 | refine below_set ?_ GE858.out | refine below_set ?_ GE859.out) | exact HB.out)) hb); clear HO862; clear HO865; clear BK858; clear BK859; clear HB; have HO862 := n0_; have HO865 := n1_; have HO868 := n2_; have BK858 := n3_; have BK859 := n4_; have HB := n5_; clear n0_ n1_ n2_ n3_ n4_ n5_; clear hb ho13)); try go_wp2_with (first | ((with_reducible refine gate_dst (N := 2) rfl ?_); refine box_event ?hg (N := 2) ?hd (cs := #[.int .u64 a0_0, .int .u64 a0_1]) (t := 25) ?hr ?_; (case hd => rfl); (case hg => rfl); (case hr => first | (go_simp; done) | (go_simp; rfl)); intro gb858 hg w6 hbox hb; have n0_ := Aside0.mk (below_step (by repeat (first | (with_reducible first | exact HB.out | apply below_alloc | apply pw_below_drewN | apply below_drew1) | exact HB.out)) hb); have n1_ := Aside0.mk (hbox); have n2_ := Aside0.mk ((by rw [hg]; exact (below_size (by repeat (first | (with_reducible first | exact HB.out | apply below_alloc | apply pw_below_drewN | apply below_drew1) | exact HB.out))) : w.heap.size ≤ gb858)); have n3_ := Aside0.mk ((by rw [hg]; exact (below_size (by repeat (first | (with_reducible first | exact HB.out | apply below_alloc | apply pw_below_drewN | apply below_drew1) | exact HB.out))) : w.heap.size ≤ gb858)); clear HB; have HB := n0_; have BK858 := n1_; have GW858 := n2_; have GE858 := n3_; clear n0_ n1_ n2_ n3_; clear hb hbox hg) | ((with_reducible refine gate_dst (N := 4) rfl ?_); refine box_event ?hg (N := 4) ?hd (cs := #[.int .u64 0, .int .u64 0]) (t := 25) ?hr ?_; (case hd => rfl); (case hg => rfl); (case hr => first | (go_simp; done) | (go_simp; rfl)); intro gb859 hg w7 hbox hb; have n0_ := Aside0.mk (blk_below (g := gb858) (o := .cells #[.int .u64 a0_0, .int .u64 a0_1] 25 (0, 0)) (by (with_reducible repeat (first | refine blk_drewN ?_ _ | refine blk_drew ?_ | refine blk_alloc ?_ _)); exact BK858.out) hb); have n1_ := Aside0.mk (below_step (by repeat (first | (with_reducible first | exact HB.out | apply below_alloc | apply pw_below_drewN | apply below_drew1 | refine below_set ?_ GE858.out) | exact HB.out)) hb); have n2_ := Aside0.mk (hbox); have n3_ := Aside0.mk ((by rw [hg]; exact (below_size (by repeat (first | (with_reducible first | exact HB.out | apply below_alloc | apply pw_below_drewN | apply below_drew1 | refine below_set ?_ GE858.out) | exact HB.out))) : w.heap.size ≤ gb859)); have n4_ := Aside0.mk ((by rw [hg]; exact (below_size (by repeat (first | (with_reducible first | exact HB.out | apply below_alloc | apply pw_below_drewN | apply below_drew1 | refine below_set ?_ GE858.out) | exact HB.out))) : w.heap.size ≤ gb859)); have n5_ := Aside0.mk ((by rw [hg]; exact Nat.ne_of_lt (blk_lt (g := gb858) (o := .cells #[.int .u64 a0_0, .int .u64 a0_1] 25 (0, 0)) (by (with_reducible repeat (first | refine blk_drewN ?_ _ | refine blk_drew ?_ | refine blk_alloc ?_ _)); exact BK858.out)) : gb858 ≠ gb859)); have n6_ := Aside0.mk ((by rw [hg]; exact Nat.ne_of_gt (blk_lt (g := gb858) (o := .cells #[.int .u64 a0_0, .int .u64 a0_1] 25 (0, 0)) (by (with_reducible repeat (first | refine blk_drewN ?_ _ | refine blk_drew ?_ | refine blk_alloc ?_ _)); exact BK858.out)) : gb859 ≠ gb858)); clear BK858; clear HB; have BK858 := n0_; have HB := n1_; have BK859 := n2_; have GW859 := n3_; have GE859 := n4_; have NB858_859 := n5_; have NB859_858 := n6_; clear n0_ n1_ n2_ n3_ n4_ n5_ n6_; clear hb hbox hg; have hnb8 := NB858_859.out; have hnc8 := NB859_858.out; have hcz9_0 : w7.cell? ⟨gb858, 0, none⟩ = some (.int .u64 a0_0) := (blk_cell BK858.out 0).trans rfl; have hcz9_1 : w7.cell? ⟨gb858, 1, none⟩ = some (.int .u64 a0_1) := (blk_cell BK858.out 1).trans rfl; have hfz9_0 := blk_frozen BK858.out 0; have hfz9_1 := blk_frozen BK858.out 1) | (go_at_call 84; (with_reducible refine (paymasterref01_digits.calls k a0_0 a0_1 t860 _ A3.out).mono ?_); rintro e w10 ⟨v861, rfl, ho0, hb⟩; have n0_ := Aside0.mk (Kd.R_lower ho0 (below_size (by repeat (first | (with_reducible first | exact HB.out | apply below_alloc | apply pw_below_drewN | apply below_drew1 | refine below_set ?_ GE858.out | refine below_set ?_ GE859.out) | exact HB.out)))); have n1_ := Aside0.mk (blk_below (g := gb858) (o := .cells #[.int .u64 a0_0, .int .u64 a0_1] 25 (0, 0)) (by (with_reducible repeat (first | refine blk_drewN ?_ _ | refine blk_drew ?_ | refine blk_alloc ?_ _)); exact BK858.out) hb); have n2_ := Aside0.mk (blk_below (g := gb859) (o := .cells #[.int .u64 0, .int .u64 0] 25 (0, 0)) (by (with_reducible repeat (first | refine blk_drewN ?_ _ | refine blk_drew ?_ | refine blk_alloc ?_ _)); exact BK859.out) hb); have n3_ := Aside0.mk (below_step (by repeat (first | (with_reducible first | exact HB.out | apply below_alloc | apply pw_below_drewN | apply below_drew1 | refine below_set ?_ GE858.out | refine below_set ?_ GE859.out) | exact HB.out)) hb); clear BK858; clear BK859; clear HB; have HO862 := n0_; have BK858 := n1_; have BK859 := n2_; have HB := n3_; clear n0_ n1_ n2_ n3_; (try clear hb); (try clear hb2); (try clear hk); (try clear hi); (try clear ho0)) | (go_at_call 84; (with_reducible refine (paymasterref01_digits.calls k 0 a1 t863 _ A4.out).mono ?_); rintro e w11 ⟨v864, rfl, ho0, hb⟩; have n0_ := Aside0.mk (Kd.R_elder' (by (with_reducible repeat (first | apply Kd.R_alloc | apply Kd.R_drewN | apply Kd.R_drew)); exact HO862.out) (Kd.R_base ho0) hb); have n1_ := Aside0.mk (Kd.R_lower (Kd.R_new' ho0 (Kd.R_lt (by (with_reducible repeat (first | apply Kd.R_alloc | apply Kd.R_drewN | apply Kd.R_drew)); exact HO862.out))) (below_size (by repeat (first | (with_reducible first | exact HB.out | apply below_alloc | apply pw_below_drewN | apply below_drew1 | refine below_set ?_ GE858.out | refine below_set ?_ GE859.out) | exact HB.out)))); have n2_ := Aside0.mk (blk_below (g := gb858) (o := .cells #[.int .u64 a0_0, .int .u64 a0_1] 25 (0, 0)) (by (with_reducible repeat (first | refine blk_drewN ?_ _ | refine blk_drew ?_ | refine blk_alloc ?_ _)); exact BK858.out) hb); have n3_ := Aside0.mk (blk_below (g := gb859) (o := .cells #[.int .u64 0, .int .u64 0] 25 (0, 0)) (by (with_reducible repeat (first | refine blk_drewN ?_ _ | refine blk_drew ?_ | refine blk_alloc ?_ _)); exact BK859.out) hb); have n4_ := Aside0.mk (below_step (by repeat (first | (with_reducible first | exact HB.out | apply below_alloc | apply pw_below_drewN | apply below_drew1 | refine below_set ?_ GE858.out | refine below_set ?_ GE859.out) | exact HB.out)) hb); clear HO862; clear BK858; clear BK859; clear HB; have HO862 := n0_; have HO865 := n1_; have BK858 := n2_; have BK859 := n3_; have HB := n4_; clear n0_ n1_ n2_ n3_ n4_; (try clear hb); (try clear hb2); (try clear hk); (try clear hi); (try clear ho0)) | ((with_reducible refine gate_dst (N := 20) rfl ?_); refine Kd.R_make (Kd.int .u64) _ 23 rfl (N := 20) rfl 95 _ _ rfl 17 rfl rfl Try.underlying95 (.int .u64 0) 8 info23 rfl (by decide) (by omega) 0 (ok := fun _ => True) (okp := fun _ => True) rfl (fun _ hk => hk) trivial (by omega) (by omega) (Below.refl _ _) (Nat.le_refl _) ?_; intro v867 w12 ho13 hb hg_ hnew_; clear hg_ hnew_; (first | rw [← Ny866.out] at ho13 | (simp only [Int.reduceToNat] at ho13; rw [← Ny866.out] at ho13)); have n0_ := Aside0.mk (Kd.R_elder' (by (with_reducible repeat (first | apply Kd.R_alloc | apply Kd.R_drewN | apply Kd.R_drew)); exact HO862.out) (Kd.R_base ho13) hb); have n1_ := Aside0.mk (Kd.R_elder' (by (with_reducible repeat (first | apply Kd.R_alloc | apply Kd.R_drewN | apply Kd.R_drew)); exact HO865.out) (Kd.R_base ho13) hb); have n2_ := Aside0.mk (Kd.R_lower (Kd.R_new' (Kd.R_new' ho13 (Kd.R_lt (by (with_reducible repeat (first | apply Kd.R_alloc | apply Kd.R_drewN | apply Kd.R_drew)); exact HO862.out))) (Kd.R_lt (by (with_reducible repeat (first | apply Kd.R_alloc | apply Kd.R_drewN | apply Kd.R_drew)); exact HO865.out))) (below_size (by repeat (first | (with_reducible first | exact HB.out | apply below_alloc | apply pw_below_drewN | apply below_drew1 | refine below_set ?_ GE858.out | refine below_set ?_ GE859.out) | exact HB.out)))); have n3_ := Aside0.mk (blk_below (g := gb858) (o := .cells #[.int .u64 a0_0, .int .u64 a0_1] 25 (0, 0)) (by (with_reducible repeat (first | refine blk_drewN ?_ _ | refine blk_drew ?_ | refine blk_alloc ?_ _)); exact BK858.out) hb); have n4_ := Aside0.mk (blk_below (g := gb859) (o := .cells #[.int .u64 0, .int .u64 0] 25 (0, 0)) (by (with_reducible repeat (first | refine blk_drewN ?_ _ | refine blk_drew ?_ | refine blk_alloc ?_ _)); exact BK859.out) hb); have n5_ := Aside0.mk (below_step (by repeat (first | (with_reducible first | exact HB.out | apply below_alloc | apply pw_below_drewN | apply below_drew1 | refine below_set ?_ GE858.out | refine below_set ?_ GE859.out) | exact HB.out)) hb); clear HO862; clear HO865; clear BK858; clear BK859; clear HB; have HO862 := n0_; have HO865 := n1_; have HO868 := n2_; have BK858 := n3_; have BK859 := n4_; have HB := n5_; clear n0_ n1_ n2_ n3_ n4_ n5_; clear hb ho13)))
    go_loopg [9] k (fun kq v9 w' => ∃ (x8_1 : List Int) (x9_1 : Int), v9 = .int .i64 x9_1 ∧ Aside0 (paymasterref01_Times.l0 kq t860 t863 x8_1 x9_1 = some (r1, r2, r3)) ∧ Aside0 (kq ≤ k) ∧ Aside0 (Kd.R (Kd.int .u64) 23 w' w.heap.size (fun k_ => some k_ ≠ (v864 : Value).ownBlock ∧ some k_ ≠ (v867 : Value).ownBlock) v861 t860) ∧ Aside0 (Kd.R (Kd.int .u64) 23 w' w.heap.size (fun k_ => some k_ ≠ (v861 : Value).ownBlock ∧ some k_ ≠ (v867 : Value).ownBlock) v864 t863) ∧ Aside0 (Kd.R (Kd.int .u64) 23 w' w.heap.size (fun k_ => some k_ ≠ (v861 : Value).ownBlock ∧ some k_ ≠ (v864 : Value).ownBlock) v867 x8_1) ∧ Aside0 (w'.heap[gb858]? = some (.cells #[.int .u64 a0_0, .int .u64 a0_1] 25 (0, 0))) ∧ Aside0 (w'.heap[gb859]? = some (.cells #[.int .u64 0, .int .u64 0] 25 (0, 0))) ∧ Aside0 (Below w.heap.size w w'))
    case atStart => exact ⟨(y866), (0), (by first | rfl | (simp; done) | (simp [*]; done)), H', ⟨Nat.le_refl _⟩, ⟨by (with_reducible repeat (first | apply Kd.R_alloc | apply Kd.R_drewN | apply Kd.R_drew)); exact Kd.R_mono HO862.out (fun _ hk => ⟨hk.1.2, hk.2⟩)⟩, ⟨by (with_reducible repeat (first | apply Kd.R_alloc | apply Kd.R_drewN | apply Kd.R_drew)); exact Kd.R_mono HO865.out (fun _ hk => ⟨hk.1.2, hk.2⟩)⟩, ⟨by (with_reducible repeat (first | apply Kd.R_alloc | apply Kd.R_drewN | apply Kd.R_drew)); exact Kd.R_mono HO868.out (fun _ hk => ⟨hk.1.2, hk.2⟩)⟩, ⟨by (with_reducible repeat (first | refine blk_drewN ?_ _ | refine blk_drew ?_ | refine blk_alloc ?_ _)); exact BK858.out⟩, ⟨by (with_reducible repeat (first | refine blk_drewN ?_ _ | refine blk_drew ?_ | refine blk_alloc ?_ _)); exact BK859.out⟩, ⟨by repeat (first | (with_reducible first | exact HB.out | apply below_alloc | apply pw_below_drewN | apply below_drew1 | refine below_set ?_ GE858.out | refine below_set ?_ GE859.out) | exact HB.out)⟩⟩
    case round =>
      clear H'
      try clear p2
      try clear c5
      try clear c5b0
      try clear c5b1
      try clear c8
      try clear hcz9_0
      try clear hcz9_1
      try clear hfz9_0
      try clear hfz9_1
      obtain ⟨x8_1, x9_1, rfl, HA, HK1, HO_6, HO_7, HO_8, BK858, BK859, HB⟩ := hrel
      cases gk with
      | zero => exact absurd HA.out (by simp [paymasterref01_Times.l0])
      | succ k1 =>
        have H := HA.out
        clear HA
        simp only [paymasterref01_Times.l0] at H
        by_cases c14 : x9_1 < 8
        · rw [if_pos c14] at H
          have c14b0 : decide (x9_1 < 8) = true := decide_eq_true c14
          clear c14
          have H' := Aside0.mk H
          clear H
          go_wp2
          repeat (go_quiet (fail); try go_wp2)
          go_loopg [10] k1 (fun kq v10 w' => ∃ (x8_2 : List Int) (x10_2 : Int), v10 = .int .i64 x10_2 ∧ Aside0 (paymasterref01_Times.l1 kq t860 t863 x8_2 x9_1 x10_2 = some (r1, r2, r3)) ∧ Aside0 (kq ≤ k1) ∧ Aside0 (Kd.R (Kd.int .u64) 23 w' w.heap.size (fun k_ => some k_ ≠ (v864 : Value).ownBlock ∧ some k_ ≠ (v867 : Value).ownBlock) v861 t860) ∧ Aside0 (Kd.R (Kd.int .u64) 23 w' w.heap.size (fun k_ => some k_ ≠ (v861 : Value).ownBlock ∧ some k_ ≠ (v867 : Value).ownBlock) v864 t863) ∧ Aside0 (Kd.R (Kd.int .u64) 23 w' w.heap.size (fun k_ => some k_ ≠ (v861 : Value).ownBlock ∧ some k_ ≠ (v864 : Value).ownBlock) v867 x8_2) ∧ Aside0 (w'.heap[gb858]? = some (.cells #[.int .u64 a0_0, .int .u64 a0_1] 25 (0, 0))) ∧ Aside0 (w'.heap[gb859]? = some (.cells #[.int .u64 0, .int .u64 0] 25 (0, 0))) ∧ Aside0 (Below w.heap.size w w'))
          case atStart => exact ⟨(x8_1), (0), (by first | rfl | (simp; done) | (simp [*]; done)), H', ⟨Nat.le_refl _⟩, ⟨by (with_reducible repeat (first | apply Kd.R_alloc | apply Kd.R_drewN | apply Kd.R_drew)); exact HO_6.out⟩, ⟨by (with_reducible repeat (first | apply Kd.R_alloc | apply Kd.R_drewN | apply Kd.R_drew)); exact HO_7.out⟩, ⟨by (with_reducible repeat (first | apply Kd.R_alloc | apply Kd.R_drewN | apply Kd.R_drew)); exact HO_8.out⟩, ⟨by (with_reducible repeat (first | refine blk_drewN ?_ _ | refine blk_drew ?_ | refine blk_alloc ?_ _)); exact BK858.out⟩, ⟨by (with_reducible repeat (first | refine blk_drewN ?_ _ | refine blk_drew ?_ | refine blk_alloc ?_ _)); exact BK859.out⟩, ⟨by repeat (first | (with_reducible first | exact HB.out | apply below_alloc | apply pw_below_drewN | apply below_drew1 | refine below_set ?_ GE858.out | refine below_set ?_ GE859.out) | exact HB.out)⟩⟩
          case round =>
            clear H'
            try clear c1
            try clear p2
            try clear c5
            try clear c5b0
            try clear c5b1
            try clear c8
            try clear c14
            try clear c14b0
            try clear hcz9_0
            try clear hcz9_1
            try clear hfz9_0
            try clear hfz9_1
            try clear p2
            obtain ⟨x8_2, x10_2, rfl, HA, HK2, HO_6, HO_7, HO_8, BK858, BK859, HB⟩ := hrel
            cases gk with
            | zero => exact absurd HA.out (by simp [paymasterref01_Times.l1])
            | succ k2 =>
              have H := HA.out
              clear HA
              simp only [paymasterref01_Times.l1] at H
              by_cases c15 : x10_2 < 4
              · rw [if_pos c15] at H
                have c15b0 : decide (x10_2 < 4) = true := decide_eq_true c15
                clear c15
                by_cases c16 : 0 ≤ x9_1
                · rw [if_pos c16] at H
                  have c16b0 : decide (0 ≤ x9_1) = true := decide_eq_true c16
                  clear c16
                  by_cases c17 : x9_1 < (t860.length : Int)
                  · rw [if_pos c17] at H
                    have c17b0 : decide (x9_1 < (t860.length : Int)) = true := decide_eq_true c17
                    clear c17
                    by_cases c18 : 0 ≤ x10_2
                    · rw [if_pos c18] at H
                      have c18b0 : decide (0 ≤ x10_2) = true := decide_eq_true c18
                      clear c18
                      by_cases c19 : x10_2 < (t863.length : Int)
                      · rw [if_pos c19] at H
                        have c19b0 : decide (x10_2 < (t863.length : Int)) = true := decide_eq_true c19
                        clear c19
                        have H' := Aside0.mk H
                        clear H
                        obtain ⟨Ao20, co20, eo20⟩ := Kd.R_slice HO_6.out
                        subst eo20
                        have p873 : 0 ≤ (x9_1 : Int) := of_decide_eq_true (by first | (with_reducible assumption) | assumption)
                        have q873 : x9_1 < (t860.length : Int) := of_decide_eq_true (by first | (with_reducible assumption) | assumption)
                        obtain ⟨ad873, e873, hx873_0⟩ := Kd.at_int (Kd.R_reads' HO_6.out).2.2 x9_1 p873 q873
                        cases e873
                        replace p873 := eq_true p873
                        replace q873 := eq_true q873
                        obtain ⟨Ao21, co21, eo21⟩ := Kd.R_slice HO_7.out
                        subst eo21
                        have p874 : 0 ≤ (x10_2 : Int) := of_decide_eq_true (by first | (with_reducible assumption) | assumption)
                        have q874 : x10_2 < (t863.length : Int) := of_decide_eq_true (by first | (with_reducible assumption) | assumption)
                        obtain ⟨ad874, e874, hx874_0⟩ := Kd.at_int (Kd.R_reads' HO_7.out).2.2 x10_2 p874 q874
                        cases e874
                        replace p874 := eq_true p874
                        replace q874 := eq_true q874
                        go_wp2
                        repeat (go_quiet (fail); try go_wp2)
                        go_loopg [11, 12] k2 (fun kq v11 v12 w' => ∃ (x8_3 : List Int) (x11_3 : Int) (x12_3 : Int), v11 = .int .u64 x11_3 ∧ v12 = .int .i64 x12_3 ∧ Aside0 (paymasterref01_Times.l2 kq t860 t863 x8_3 x9_1 x10_2 x11_3 x12_3 = some (r1, r2, r3)) ∧ Aside0 (kq ≤ k2) ∧ Aside0 (Kd.R (Kd.int .u64) 23 w' w.heap.size (fun k_ => some k_ ≠ ((.slice (some ad874) t863.length co21) : Value).ownBlock ∧ some k_ ≠ (v867 : Value).ownBlock) (.slice (some ad873) t860.length co20) t860) ∧ Aside0 (Kd.R (Kd.int .u64) 23 w' w.heap.size (fun k_ => some k_ ≠ ((.slice (some ad873) t860.length co20) : Value).ownBlock ∧ some k_ ≠ (v867 : Value).ownBlock) (.slice (some ad874) t863.length co21) t863) ∧ Aside0 (Kd.R (Kd.int .u64) 23 w' w.heap.size (fun k_ => some k_ ≠ ((.slice (some ad873) t860.length co20) : Value).ownBlock ∧ some k_ ≠ ((.slice (some ad874) t863.length co21) : Value).ownBlock) v867 x8_3) ∧ Aside0 (w'.heap[gb858]? = some (.cells #[.int .u64 a0_0, .int .u64 a0_1] 25 (0, 0))) ∧ Aside0 (w'.heap[gb859]? = some (.cells #[.int .u64 0, .int .u64 0] 25 (0, 0))) ∧ Aside0 (Below w.heap.size w w'))
                        case atStart => exact ⟨(x8_2), (IntKind.u64.wrap ((rd t860 x9_1) * (rd t863 x10_2))), (wrap64 (x9_1 + x10_2)), (by first | rfl | (simp; done) | (simp [*]; done)), (by first | rfl | (simp; done) | (simp [*]; done)), H', ⟨Nat.le_refl _⟩, ⟨by (with_reducible repeat (first | apply Kd.R_alloc | apply Kd.R_drewN | apply Kd.R_drew)); exact HO_6.out⟩, ⟨by (with_reducible repeat (first | apply Kd.R_alloc | apply Kd.R_drewN | apply Kd.R_drew)); exact HO_7.out⟩, ⟨by (with_reducible repeat (first | apply Kd.R_alloc | apply Kd.R_drewN | apply Kd.R_drew)); exact HO_8.out⟩, ⟨by (with_reducible repeat (first | refine blk_drewN ?_ _ | refine blk_drew ?_ | refine blk_alloc ?_ _)); exact BK858.out⟩, ⟨by (with_reducible repeat (first | refine blk_drewN ?_ _ | refine blk_drew ?_ | refine blk_alloc ?_ _)); exact BK859.out⟩, ⟨by repeat (first | (with_reducible first | exact HB.out | apply below_alloc | apply pw_below_drewN | apply below_drew1 | refine below_set ?_ GE858.out | refine below_set ?_ GE859.out) | exact HB.out)⟩⟩
                        case round =>
                          clear H'
                          try clear c1
                          try clear p2
                          try clear c5
                          try clear c5b0
                          try clear c5b1
                          try clear p6
                          try clear c8
                          try clear p8
                          try clear q8
                          try clear hx8
                          try clear c14
                          try clear c14b0
                          try clear c15
                          try clear c15b0
                          try clear c16
                          try clear c16b0
                          try clear c17
                          try clear c17b0
                          try clear c18
                          try clear c18b0
                          try clear c19
                          try clear c19b0
                          try clear hcz9_0
                          try clear hcz9_1
                          try clear hfz9_0
                          try clear hfz9_1
                          try clear hx873_0
                          try clear hx874_0
                          try clear p2
                          try clear p873
                          try clear p874
                          try clear q873
                          try clear q874
                          obtain ⟨x8_3, x11_3, x12_3, rfl, rfl, HA, HK3, HO_6, HO_7, HO_8, BK858, BK859, HB⟩ := hrel
                          cases gk with
                          | zero => exact absurd HA.out (by simp [paymasterref01_Times.l2])
                          | succ k3 =>
                            have H := HA.out
                            clear HA
                            simp only [paymasterref01_Times.l2] at H
                            by_cases c22 : x11_3 > 0
                            · rw [if_pos c22] at H
                              have c22b0 : decide (0 < x11_3) = true := decide_eq_true c22
                              clear c22
                              by_cases c23 : 0 ≤ x12_3
                              · rw [if_pos c23] at H
                                have c23b0 : decide (0 ≤ x12_3) = true := decide_eq_true c23
                                clear c23
                                by_cases c24 : x12_3 < (x8_3.length : Int)
                                · rw [if_pos c24] at H
                                  have c24b0 : decide (x12_3 < (x8_3.length : Int)) = true := decide_eq_true c24
                                  clear c24
                                  obtain ⟨y876, hy876⟩ : ∃ y_ : List Int, y_ = (x8_3.set (x12_3 : Int).toNat (Int.tmod (IntKind.u64.wrap (x11_3 + (rd x8_3 x12_3))) 65536)) := ⟨_, rfl⟩
                                  replace H : (paymasterref01_Times.l2 k3 t860 t863 y876 x9_1 x10_2 (IntKind.u64.wrap (Int.tdiv (IntKind.u64.wrap (x11_3 + (rd x8_3 x12_3))) 65536)) (wrap64 (x12_3 + 1))) = some (r1, r2, r3) := by first | (rw [hy876]; with_reducible exact H) | (have H2_ := (Option.bind_some _ _).symm.trans H; rw [hy876]; with_reducible exact H2_) | (have H2_ := (Option.bind_some _ _).symm.trans H; with_reducible exact H2_) | with_reducible exact H | (rw [hy876]; exact H) | exact H
                                  have Ny876 := Aside0.mk hy876
                                  clear hy876
                                  have H' := Aside0.mk H
                                  clear H
                                  obtain ⟨Ao26, co26, eo26⟩ := Kd.R_slice HO_8.out
                                  subst eo26
                                  have p875 : 0 ≤ (x12_3 : Int) := of_decide_eq_true (by first | (with_reducible assumption) | assumption)
                                  have q875 : x12_3 < (x8_3.length : Int) := of_decide_eq_true (by first | (with_reducible assumption) | assumption)
                                  obtain ⟨ad875, e875, hx875_0⟩ := Kd.at_int (Kd.R_reads' HO_8.out).2.2 x12_3 p875 q875
                                  cases e875
                                  replace p875 := eq_true p875
                                  replace q875 := eq_true q875
                                  have p25 : 0 ≤ (x12_3 : Int) := of_decide_eq_true (by first | (with_reducible assumption) | assumption)
                                  have q25 : (x12_3 : Int) < ((x8_3.length : Int) : Int) := of_decide_eq_true (by first | (with_reducible assumption) | assumption)
                                  obtain ⟨go25, co25, eo25, gb25, gl25, cl25, HG25⟩ := Kd.R_form HO_8.out (by omega)
                                  (first | cases eo25 | (injection eo25 with ea_ en_ ec_; (first | subst ea_ | (injection ea_ with ea_; subst ea_)); subst ec_; clear en_))
                                  have GB25 := Aside0.mk gb25
                                  have GG25 := Aside0.mk HG25
                                  clear gb25 gl25 HG25
                                  (first | simp only [add_plain] at hx875_0 | skip)
                                  obtain ⟨hx25_0, hf25_0⟩ := Kd.R_celln 0 HO_8.out (x12_3 : Int) p25 q25
                                  replace p25 := eq_true p25
                                  replace q25 := eq_true q25
                                  have HP27 := Kd.R_putg HO_8.out (x12_3 : Int) (Int.tmod (IntKind.u64.wrap (x11_3 + (rd x8_3 x12_3))) 65536)
                                  go_wp2_with (first | ((with_reducible refine gate_store (t := 23) (p := 55) rfl ?_); (try (rw [drewN_self wr]; generalize hq_ : World.drewN wr _ = wr; have n0_ := Aside0.mk (Kd.R_at hq_ HO_6.out); have n1_ := Aside0.mk (Kd.R_at hq_ HO_7.out); have n2_ := Aside0.mk (Kd.R_at hq_ HO_8.out); have n3_ := Aside0.mk (blk_at hq_ BK858.out); have n4_ := Aside0.mk (blk_at hq_ BK859.out); have n5_ := Aside0.mk (below_at hq_ HB.out); clear hq_ HO_6 HO_7 HO_8 BK858 BK859 HB; have HO_6 := n0_; have HO_7 := n1_; have HO_8 := n2_; have BK858 := n3_; have BK859 := n4_; have HB := n5_; clear n0_ n1_ n2_ n3_ n4_ n5_; (try (have HP27 := Kd.R_putg HO_8.out (x12_3 : Int) (Int.tmod (IntKind.u64.wrap (x11_3 + (rd x8_3 x12_3))) 65536))))); refine store_event (t := 23) (p := 55) (v := ?vo_w28) (w1 := (wr.setCell ⟨go25, (x12_3 : Int).toNat, none⟩ (.int .u64 (Int.tmod (IntKind.u64.wrap (x11_3 + (rd x8_3 x12_3))) 65536)))) ?hg ?ho ?hn ?hr ?_; (case ho => rfl); (case hg => rfl); (case hn => rfl); (case hr => first | (go_simp; done) | (go_simp; rfl)); intro w28 hw; have hg : wr.grownBy w28 (some go25) := (by rw [hw]; exact HP27.2); have hp_ : Kd.R (Kd.int .u64) 23 w28 w.heap.size (fun k_ => some k_ ≠ (.slice (some ad873) t860.length co20 : Value).ownBlock ∧ some k_ ≠ (.slice (some ad874) t863.length co21 : Value).ownBlock) (.slice (some ⟨go25, 0, none⟩) x8_3.length co26) y876 := (by rw [hw, Ny876.out]; exact HP27.1); clear HP27; have n0_ := Aside0.mk (Kd.R_after (v := (.slice (some ⟨go25, 0, none⟩) x8_3.length co26)) (v1 := (.slice (some ⟨go25, 0, none⟩) x8_3.length co26)) (ok := (fun k_ => some k_ ≠ (.slice (some ad874) t863.length co21 : Value).ownBlock)) (by (with_reducible repeat (first | apply Kd.R_alloc | apply Kd.R_drewN | apply Kd.R_drew)); exact HO_6.out) hg (.inl rfl)); have n1_ := Aside0.mk (Kd.R_after (v := (.slice (some ⟨go25, 0, none⟩) x8_3.length co26)) (v1 := (.slice (some ⟨go25, 0, none⟩) x8_3.length co26)) (ok := (fun k_ => some k_ ≠ (.slice (some ad873) t860.length co20 : Value).ownBlock)) (by (with_reducible repeat (first | apply Kd.R_alloc | apply Kd.R_drewN | apply Kd.R_drew)); exact HO_7.out) hg (.inl rfl)); have n2_ := Aside0.mk (hp_); have n3_ := Aside0.mk (blk_grown (g := gb858) (o := .cells #[.int .u64 a0_0, .int .u64 a0_1] 25 (0, 0)) (by (with_reducible repeat (first | refine blk_drewN ?_ _ | refine blk_drew ?_ | refine blk_alloc ?_ _)); exact BK858.out) hg (Kd.R_ne HO_8.out BK858.out (by decide))); have n4_ := Aside0.mk (blk_grown (g := gb859) (o := .cells #[.int .u64 0, .int .u64 0] 25 (0, 0)) (by (with_reducible repeat (first | refine blk_drewN ?_ _ | refine blk_drew ?_ | refine blk_alloc ?_ _)); exact BK859.out) hg (Kd.R_ne HO_8.out BK859.out (by decide))); have n5_ := Aside0.mk ((by rw [hw]; exact below_set (HB.out) GB25.out : Below w.heap.size w w28)); clear HO_6; clear HO_7; clear HO_8; clear BK858; clear BK859; clear HB; have HO_6 := n0_; have HO_7 := n1_; have HO_8 := n2_; have BK858 := n3_; have BK859 := n4_; have HB := n5_; clear n0_ n1_ n2_ n3_ n4_ n5_; clear hg hw hp_))
                                  repeat (go_quiet (first | ((with_reducible refine gate_store (t := 23) (p := 55) rfl ?_); (try (rw [drewN_self wr]; generalize hq_ : World.drewN wr _ = wr; have n0_ := Aside0.mk (Kd.R_at hq_ HO_6.out); have n1_ := Aside0.mk (Kd.R_at hq_ HO_7.out); have n2_ := Aside0.mk (Kd.R_at hq_ HO_8.out); have n3_ := Aside0.mk (blk_at hq_ BK858.out); have n4_ := Aside0.mk (blk_at hq_ BK859.out); have n5_ := Aside0.mk (below_at hq_ HB.out); clear hq_ HO_6 HO_7 HO_8 BK858 BK859 HB; have HO_6 := n0_; have HO_7 := n1_; have HO_8 := n2_; have BK858 := n3_; have BK859 := n4_; have HB := n5_; clear n0_ n1_ n2_ n3_ n4_ n5_; (try (have HP27 := Kd.R_putg HO_8.out (x12_3 : Int) (Int.tmod (IntKind.u64.wrap (x11_3 + (rd x8_3 x12_3))) 65536))))); refine store_event (t := 23) (p := 55) (v := ?vo_w28) (w1 := (wr.setCell ⟨go25, (x12_3 : Int).toNat, none⟩ (.int .u64 (Int.tmod (IntKind.u64.wrap (x11_3 + (rd x8_3 x12_3))) 65536)))) ?hg ?ho ?hn ?hr ?_; (case ho => rfl); (case hg => rfl); (case hn => rfl); (case hr => first | (go_simp; done) | (go_simp; rfl)); intro w28 hw; have hg : wr.grownBy w28 (some go25) := (by rw [hw]; exact HP27.2); have hp_ : Kd.R (Kd.int .u64) 23 w28 w.heap.size (fun k_ => some k_ ≠ (.slice (some ad873) t860.length co20 : Value).ownBlock ∧ some k_ ≠ (.slice (some ad874) t863.length co21 : Value).ownBlock) (.slice (some ⟨go25, 0, none⟩) x8_3.length co26) y876 := (by rw [hw, Ny876.out]; exact HP27.1); clear HP27; have n0_ := Aside0.mk (Kd.R_after (v := (.slice (some ⟨go25, 0, none⟩) x8_3.length co26)) (v1 := (.slice (some ⟨go25, 0, none⟩) x8_3.length co26)) (ok := (fun k_ => some k_ ≠ (.slice (some ad874) t863.length co21 : Value).ownBlock)) (by (with_reducible repeat (first | apply Kd.R_alloc | apply Kd.R_drewN | apply Kd.R_drew)); exact HO_6.out) hg (.inl rfl)); have n1_ := Aside0.mk (Kd.R_after (v := (.slice (some ⟨go25, 0, none⟩) x8_3.length co26)) (v1 := (.slice (some ⟨go25, 0, none⟩) x8_3.length co26)) (ok := (fun k_ => some k_ ≠ (.slice (some ad873) t860.length co20 : Value).ownBlock)) (by (with_reducible repeat (first | apply Kd.R_alloc | apply Kd.R_drewN | apply Kd.R_drew)); exact HO_7.out) hg (.inl rfl)); have n2_ := Aside0.mk (hp_); have n3_ := Aside0.mk (blk_grown (g := gb858) (o := .cells #[.int .u64 a0_0, .int .u64 a0_1] 25 (0, 0)) (by (with_reducible repeat (first | refine blk_drewN ?_ _ | refine blk_drew ?_ | refine blk_alloc ?_ _)); exact BK858.out) hg (Kd.R_ne HO_8.out BK858.out (by decide))); have n4_ := Aside0.mk (blk_grown (g := gb859) (o := .cells #[.int .u64 0, .int .u64 0] 25 (0, 0)) (by (with_reducible repeat (first | refine blk_drewN ?_ _ | refine blk_drew ?_ | refine blk_alloc ?_ _)); exact BK859.out) hg (Kd.R_ne HO_8.out BK859.out (by decide))); have n5_ := Aside0.mk ((by rw [hw]; exact below_set (HB.out) GB25.out : Below w.heap.size w w28)); clear HO_6; clear HO_7; clear HO_8; clear BK858; clear BK859; clear HB; have HO_6 := n0_; have HO_7 := n1_; have HO_8 := n2_; have BK858 := n3_; have BK859 := n4_; have HB := n5_; clear n0_ n1_ n2_ n3_ n4_ n5_; clear hg hw hp_)); try go_wp2_with (first | ((with_reducible refine gate_store (t := 23) (p := 55) rfl ?_); (try (rw [drewN_self wr]; generalize hq_ : World.drewN wr _ = wr; have n0_ := Aside0.mk (Kd.R_at hq_ HO_6.out); have n1_ := Aside0.mk (Kd.R_at hq_ HO_7.out); have n2_ := Aside0.mk (Kd.R_at hq_ HO_8.out); have n3_ := Aside0.mk (blk_at hq_ BK858.out); have n4_ := Aside0.mk (blk_at hq_ BK859.out); have n5_ := Aside0.mk (below_at hq_ HB.out); clear hq_ HO_6 HO_7 HO_8 BK858 BK859 HB; have HO_6 := n0_; have HO_7 := n1_; have HO_8 := n2_; have BK858 := n3_; have BK859 := n4_; have HB := n5_; clear n0_ n1_ n2_ n3_ n4_ n5_; (try (have HP27 := Kd.R_putg HO_8.out (x12_3 : Int) (Int.tmod (IntKind.u64.wrap (x11_3 + (rd x8_3 x12_3))) 65536))))); refine store_event (t := 23) (p := 55) (v := ?vo_w28) (w1 := (wr.setCell ⟨go25, (x12_3 : Int).toNat, none⟩ (.int .u64 (Int.tmod (IntKind.u64.wrap (x11_3 + (rd x8_3 x12_3))) 65536)))) ?hg ?ho ?hn ?hr ?_; (case ho => rfl); (case hg => rfl); (case hn => rfl); (case hr => first | (go_simp; done) | (go_simp; rfl)); intro w28 hw; have hg : wr.grownBy w28 (some go25) := (by rw [hw]; exact HP27.2); have hp_ : Kd.R (Kd.int .u64) 23 w28 w.heap.size (fun k_ => some k_ ≠ (.slice (some ad873) t860.length co20 : Value).ownBlock ∧ some k_ ≠ (.slice (some ad874) t863.length co21 : Value).ownBlock) (.slice (some ⟨go25, 0, none⟩) x8_3.length co26) y876 := (by rw [hw, Ny876.out]; exact HP27.1); clear HP27; have n0_ := Aside0.mk (Kd.R_after (v := (.slice (some ⟨go25, 0, none⟩) x8_3.length co26)) (v1 := (.slice (some ⟨go25, 0, none⟩) x8_3.length co26)) (ok := (fun k_ => some k_ ≠ (.slice (some ad874) t863.length co21 : Value).ownBlock)) (by (with_reducible repeat (first | apply Kd.R_alloc | apply Kd.R_drewN | apply Kd.R_drew)); exact HO_6.out) hg (.inl rfl)); have n1_ := Aside0.mk (Kd.R_after (v := (.slice (some ⟨go25, 0, none⟩) x8_3.length co26)) (v1 := (.slice (some ⟨go25, 0, none⟩) x8_3.length co26)) (ok := (fun k_ => some k_ ≠ (.slice (some ad873) t860.length co20 : Value).ownBlock)) (by (with_reducible repeat (first | apply Kd.R_alloc | apply Kd.R_drewN | apply Kd.R_drew)); exact HO_7.out) hg (.inl rfl)); have n2_ := Aside0.mk (hp_); have n3_ := Aside0.mk (blk_grown (g := gb858) (o := .cells #[.int .u64 a0_0, .int .u64 a0_1] 25 (0, 0)) (by (with_reducible repeat (first | refine blk_drewN ?_ _ | refine blk_drew ?_ | refine blk_alloc ?_ _)); exact BK858.out) hg (Kd.R_ne HO_8.out BK858.out (by decide))); have n4_ := Aside0.mk (blk_grown (g := gb859) (o := .cells #[.int .u64 0, .int .u64 0] 25 (0, 0)) (by (with_reducible repeat (first | refine blk_drewN ?_ _ | refine blk_drew ?_ | refine blk_alloc ?_ _)); exact BK859.out) hg (Kd.R_ne HO_8.out BK859.out (by decide))); have n5_ := Aside0.mk ((by rw [hw]; exact below_set (HB.out) GB25.out : Below w.heap.size w w28)); clear HO_6; clear HO_7; clear HO_8; clear BK858; clear BK859; clear HB; have HO_6 := n0_; have HO_7 := n1_; have HO_8 := n2_; have BK858 := n3_; have BK859 := n4_; have HB := n5_; clear n0_ n1_ n2_ n3_ n4_ n5_; clear hg hw hp_)))
                                  go_roundg k3
                                  case measure => have := HK1.out; have := HK2.out; have := HK3.out; omega
                                  case rel => exact ⟨(y876), (IntKind.u64.wrap (Int.tdiv (IntKind.u64.wrap (x11_3 + (rd x8_3 x12_3))) 65536)), (wrap64 (x12_3 + 1)), (by first | rfl | (simp; done) | (simp [*]; done)), (by first | rfl | (simp; done) | (simp [*]; done)), H', ⟨by have := HK1.out; have := HK2.out; have := HK3.out; omega⟩, ⟨by (with_reducible repeat (first | apply Kd.R_alloc | apply Kd.R_drewN | apply Kd.R_drew)); exact HO_6.out⟩, ⟨by (with_reducible repeat (first | apply Kd.R_alloc | apply Kd.R_drewN | apply Kd.R_drew)); exact HO_7.out⟩, ⟨by (with_reducible repeat (first | apply Kd.R_alloc | apply Kd.R_drewN | apply Kd.R_drew)); exact HO_8.out⟩, ⟨by (with_reducible repeat (first | refine blk_drewN ?_ _ | refine blk_drew ?_ | refine blk_alloc ?_ _)); exact BK858.out⟩, ⟨by (with_reducible repeat (first | refine blk_drewN ?_ _ | refine blk_drew ?_ | refine blk_alloc ?_ _)); exact BK859.out⟩, ⟨by repeat (first | (with_reducible first | exact HB.out | apply below_alloc | apply pw_below_drewN | apply below_drew1 | refine below_set ?_ GE858.out | refine below_set ?_ GE859.out) | exact HB.out)⟩⟩
                                · rw [if_neg c24] at H
                                  exact absurd H (by simp)
                              · rw [if_neg c23] at H
                                exact absurd H (by simp)
                            · rw [if_neg c22] at H
                              have c22b0 : decide (0 < x11_3) = false := decide_eq_false c22
                              clear c22
                              have H' := Aside0.mk H
                              clear H
                              go_wp2
                              repeat (go_quiet (fail); try go_wp2)
                              go_roundg k3
                              case measure => have := HK1.out; have := HK2.out; have := HK3.out; omega
                              case rel => exact ⟨(x8_3), (wrap64 (x10_2 + 1)), (by first | rfl | (simp; done) | (simp [*]; done)), H', ⟨by have := HK1.out; have := HK2.out; have := HK3.out; omega⟩, ⟨by (with_reducible repeat (first | apply Kd.R_alloc | apply Kd.R_drewN | apply Kd.R_drew)); exact HO_6.out⟩, ⟨by (with_reducible repeat (first | apply Kd.R_alloc | apply Kd.R_drewN | apply Kd.R_drew)); exact HO_7.out⟩, ⟨by (with_reducible repeat (first | apply Kd.R_alloc | apply Kd.R_drewN | apply Kd.R_drew)); exact HO_8.out⟩, ⟨by (with_reducible repeat (first | refine blk_drewN ?_ _ | refine blk_drew ?_ | refine blk_alloc ?_ _)); exact BK858.out⟩, ⟨by (with_reducible repeat (first | refine blk_drewN ?_ _ | refine blk_drew ?_ | refine blk_alloc ?_ _)); exact BK859.out⟩, ⟨by repeat (first | (with_reducible first | exact HB.out | apply below_alloc | apply pw_below_drewN | apply below_drew1 | refine below_set ?_ GE858.out | refine below_set ?_ GE859.out) | exact HB.out)⟩⟩
                      · rw [if_neg c19] at H
                        exact absurd H (by simp)
                    · rw [if_neg c18] at H
                      exact absurd H (by simp)
                  · rw [if_neg c17] at H
                    exact absurd H (by simp)
                · rw [if_neg c16] at H
                  exact absurd H (by simp)
              · rw [if_neg c15] at H
                have c15b0 : decide (x10_2 < 4) = false := decide_eq_false c15
                clear c15
                have H' := Aside0.mk H
                clear H
                go_wp2
                repeat (go_quiet (fail); try go_wp2)
                go_roundg k2
                case measure => have := HK1.out; have := HK2.out; omega
                case rel => exact ⟨(x8_2), (wrap64 (x9_1 + 1)), (by first | rfl | (simp; done) | (simp [*]; done)), H', ⟨by have := HK1.out; have := HK2.out; omega⟩, ⟨by (with_reducible repeat (first | apply Kd.R_alloc | apply Kd.R_drewN | apply Kd.R_drew)); exact HO_6.out⟩, ⟨by (with_reducible repeat (first | apply Kd.R_alloc | apply Kd.R_drewN | apply Kd.R_drew)); exact HO_7.out⟩, ⟨by (with_reducible repeat (first | apply Kd.R_alloc | apply Kd.R_drewN | apply Kd.R_drew)); exact HO_8.out⟩, ⟨by (with_reducible repeat (first | refine blk_drewN ?_ _ | refine blk_drew ?_ | refine blk_alloc ?_ _)); exact BK858.out⟩, ⟨by (with_reducible repeat (first | refine blk_drewN ?_ _ | refine blk_drew ?_ | refine blk_alloc ?_ _)); exact BK859.out⟩, ⟨by repeat (first | (with_reducible first | exact HB.out | apply below_alloc | apply pw_below_drewN | apply below_drew1 | refine below_set ?_ GE858.out | refine below_set ?_ GE859.out) | exact HB.out)⟩⟩
        · rw [if_neg c14] at H
          have c14b0 : decide (x9_1 < 8) = false := decide_eq_false c14
          clear c14
          replace H := Option.bind_eq_some_iff.mp H
          obtain ⟨⟨t869, t870, t871⟩, A290, H⟩ := H
          replace H : (if t871 = true then (some (t869, t870, 0)) else (some (0, 0, 10))) = some (r1, r2, r3) := H
          have A29 := Aside0.mk A290
          clear A290
          by_cases c30 : t871 = true
          · subst c30
            have H1 : (some (t869, t870, 0)) = some (r1, r2, r3) := by rw [if_pos rfl] at H; exact H
            clear H
            have H := H1
            clear H1
            simp only [Option.some.injEq, Prod.mk.injEq] at H
            obtain ⟨rfl, rfl, rfl⟩ := H
            obtain ⟨Ao31, co31, eo31⟩ := Kd.R_slice HO_8.out
            subst eo31
            go_wp2_with (first | (go_at_call 83; (with_reducible refine (paymasterref01_number.calls k1 _ _ x8_1 t869 t870 true _ ?side1 ?side2 A29.out).mono ?_); (case side1 => repeat (first | exact (Kd.R_reads' HO_8.out).2.2 | (with_reducible refine Kd.C_alloc ?_ _) | (with_reducible refine Kd.C_drewN ?_ _) | (with_reducible refine Kd.C_drew ?_))); (case side2 => exact (Kd.R_reads' HO_8.out).2.1); rintro e w32 ⟨rfl, hb⟩; have n0_ := Aside0.mk (Kd.R_below (by (with_reducible repeat (first | apply Kd.R_alloc | apply Kd.R_drewN | apply Kd.R_drew)); exact HO_6.out) hb); have n1_ := Aside0.mk (Kd.R_below (by (with_reducible repeat (first | apply Kd.R_alloc | apply Kd.R_drewN | apply Kd.R_drew)); exact HO_7.out) hb); have n2_ := Aside0.mk (Kd.R_below (by (with_reducible repeat (first | apply Kd.R_alloc | apply Kd.R_drewN | apply Kd.R_drew)); exact HO_8.out) hb); have n3_ := Aside0.mk (blk_below (g := gb858) (o := .cells #[.int .u64 a0_0, .int .u64 a0_1] 25 (0, 0)) (by (with_reducible repeat (first | refine blk_drewN ?_ _ | refine blk_drew ?_ | refine blk_alloc ?_ _)); exact BK858.out) hb); have n4_ := Aside0.mk (blk_below (g := gb859) (o := .cells #[.int .u64 0, .int .u64 0] 25 (0, 0)) (by (with_reducible repeat (first | refine blk_drewN ?_ _ | refine blk_drew ?_ | refine blk_alloc ?_ _)); exact BK859.out) hb); have n5_ := Aside0.mk (below_step (by repeat (first | (with_reducible first | exact HB.out | apply below_alloc | apply pw_below_drewN | apply below_drew1 | refine below_set ?_ GE858.out | refine below_set ?_ GE859.out) | exact HB.out)) hb); clear HO_6; clear HO_7; clear HO_8; clear BK858; clear BK859; clear HB; have HO_6 := n0_; have HO_7 := n1_; have HO_8 := n2_; have BK858 := n3_; have BK859 := n4_; have HB := n5_; clear n0_ n1_ n2_ n3_ n4_ n5_; (try clear hb); (try clear hb2); (try clear hk); (try clear hi)) | ((with_reducible refine gate_dst (N := 13) rfl ?_); refine box_event ?hg (N := 13) ?hd (cs := #[.int .u64 0, .int .u64 0]) (t := 25) ?hr ?_; (case hd => rfl); (case hg => rfl); (case hr => first | (go_simp; done) | (go_simp; rfl)); intro gb872 hg w33 hbox hb; have n0_ := Aside0.mk (Kd.R_below (by (with_reducible repeat (first | apply Kd.R_alloc | apply Kd.R_drewN | apply Kd.R_drew)); exact HO_6.out) hb); have n1_ := Aside0.mk (Kd.R_below (by (with_reducible repeat (first | apply Kd.R_alloc | apply Kd.R_drewN | apply Kd.R_drew)); exact HO_7.out) hb); have n2_ := Aside0.mk (Kd.R_below (by (with_reducible repeat (first | apply Kd.R_alloc | apply Kd.R_drewN | apply Kd.R_drew)); exact HO_8.out) hb); have n3_ := Aside0.mk (blk_below (g := gb858) (o := .cells #[.int .u64 a0_0, .int .u64 a0_1] 25 (0, 0)) (by (with_reducible repeat (first | refine blk_drewN ?_ _ | refine blk_drew ?_ | refine blk_alloc ?_ _)); exact BK858.out) hb); have n4_ := Aside0.mk (blk_below (g := gb859) (o := .cells #[.int .u64 0, .int .u64 0] 25 (0, 0)) (by (with_reducible repeat (first | refine blk_drewN ?_ _ | refine blk_drew ?_ | refine blk_alloc ?_ _)); exact BK859.out) hb); have n5_ := Aside0.mk (below_step (by repeat (first | (with_reducible first | exact HB.out | apply below_alloc | apply pw_below_drewN | apply below_drew1 | refine below_set ?_ GE858.out | refine below_set ?_ GE859.out) | exact HB.out)) hb); have n6_ := Aside0.mk (hbox); have n7_ := Aside0.mk ((by rw [hg]; exact (below_size (by repeat (first | (with_reducible first | exact HB.out | apply below_alloc | apply pw_below_drewN | apply below_drew1 | refine below_set ?_ GE858.out | refine below_set ?_ GE859.out) | exact HB.out))) : w.heap.size ≤ gb872)); have n8_ := Aside0.mk ((by rw [hg]; exact (below_size (by repeat (first | (with_reducible first | exact HB.out | apply below_alloc | apply pw_below_drewN | apply below_drew1 | refine below_set ?_ GE858.out | refine below_set ?_ GE859.out) | exact HB.out))) : w.heap.size ≤ gb872)); have n9_ := Aside0.mk ((by rw [hg]; exact Nat.ne_of_lt (blk_lt (g := gb858) (o := .cells #[.int .u64 a0_0, .int .u64 a0_1] 25 (0, 0)) (by (with_reducible repeat (first | refine blk_drewN ?_ _ | refine blk_drew ?_ | refine blk_alloc ?_ _)); exact BK858.out)) : gb858 ≠ gb872)); have n10_ := Aside0.mk ((by rw [hg]; exact Nat.ne_of_gt (blk_lt (g := gb858) (o := .cells #[.int .u64 a0_0, .int .u64 a0_1] 25 (0, 0)) (by (with_reducible repeat (first | refine blk_drewN ?_ _ | refine blk_drew ?_ | refine blk_alloc ?_ _)); exact BK858.out)) : gb872 ≠ gb858)); have n11_ := Aside0.mk ((by rw [hg]; exact Nat.ne_of_lt (blk_lt (g := gb859) (o := .cells #[.int .u64 0, .int .u64 0] 25 (0, 0)) (by (with_reducible repeat (first | refine blk_drewN ?_ _ | refine blk_drew ?_ | refine blk_alloc ?_ _)); exact BK859.out)) : gb859 ≠ gb872)); have n12_ := Aside0.mk ((by rw [hg]; exact Nat.ne_of_gt (blk_lt (g := gb859) (o := .cells #[.int .u64 0, .int .u64 0] 25 (0, 0)) (by (with_reducible repeat (first | refine blk_drewN ?_ _ | refine blk_drew ?_ | refine blk_alloc ?_ _)); exact BK859.out)) : gb872 ≠ gb859)); clear HO_6; clear HO_7; clear HO_8; clear BK858; clear BK859; clear HB; have HO_6 := n0_; have HO_7 := n1_; have HO_8 := n2_; have BK858 := n3_; have BK859 := n4_; have HB := n5_; have BK872 := n6_; have GW872 := n7_; have GE872 := n8_; have NB858_872 := n9_; have NB872_858 := n10_; have NB859_872 := n11_; have NB872_859 := n12_; clear n0_ n1_ n2_ n3_ n4_ n5_ n6_ n7_ n8_ n9_ n10_ n11_ n12_; clear hb hbox hg; have hnb34 := NB872_858.out; have hnc34 := NB858_872.out; have hnb35 := NB872_859.out; have hnc35 := NB859_872.out; have hcz36_0 : w33.cell? ⟨gb872, 0, none⟩ = some (.int .u64 0) := (blk_cell BK872.out 0).trans rfl; have hcz36_1 : w33.cell? ⟨gb872, 1, none⟩ = some (.int .u64 0) := (blk_cell BK872.out 1).trans rfl; have hfz36_0 := blk_frozen BK872.out 0; have hfz36_1 := blk_frozen BK872.out 1; have hnb37 := NB859_858.out; have hnc37 := NB858_859.out; have hcz38_0 : w33.cell? ⟨gb859, 0, none⟩ = some (.int .u64 0) := (blk_cell BK859.out 0).trans rfl; have hcz38_1 : w33.cell? ⟨gb859, 1, none⟩ = some (.int .u64 0) := (blk_cell BK859.out 1).trans rfl; have hfz38_0 := blk_frozen BK859.out 0; have hfz38_1 := blk_frozen BK859.out 1))
            repeat (go_quiet (first | (go_at_call 83; (with_reducible refine (paymasterref01_number.calls k1 _ _ x8_1 t869 t870 true _ ?side1 ?side2 A29.out).mono ?_); (case side1 => repeat (first | exact (Kd.R_reads' HO_8.out).2.2 | (with_reducible refine Kd.C_alloc ?_ _) | (with_reducible refine Kd.C_drewN ?_ _) | (with_reducible refine Kd.C_drew ?_))); (case side2 => exact (Kd.R_reads' HO_8.out).2.1); rintro e w32 ⟨rfl, hb⟩; have n0_ := Aside0.mk (Kd.R_below (by (with_reducible repeat (first | apply Kd.R_alloc | apply Kd.R_drewN | apply Kd.R_drew)); exact HO_6.out) hb); have n1_ := Aside0.mk (Kd.R_below (by (with_reducible repeat (first | apply Kd.R_alloc | apply Kd.R_drewN | apply Kd.R_drew)); exact HO_7.out) hb); have n2_ := Aside0.mk (Kd.R_below (by (with_reducible repeat (first | apply Kd.R_alloc | apply Kd.R_drewN | apply Kd.R_drew)); exact HO_8.out) hb); have n3_ := Aside0.mk (blk_below (g := gb858) (o := .cells #[.int .u64 a0_0, .int .u64 a0_1] 25 (0, 0)) (by (with_reducible repeat (first | refine blk_drewN ?_ _ | refine blk_drew ?_ | refine blk_alloc ?_ _)); exact BK858.out) hb); have n4_ := Aside0.mk (blk_below (g := gb859) (o := .cells #[.int .u64 0, .int .u64 0] 25 (0, 0)) (by (with_reducible repeat (first | refine blk_drewN ?_ _ | refine blk_drew ?_ | refine blk_alloc ?_ _)); exact BK859.out) hb); have n5_ := Aside0.mk (below_step (by repeat (first | (with_reducible first | exact HB.out | apply below_alloc | apply pw_below_drewN | apply below_drew1 | refine below_set ?_ GE858.out | refine below_set ?_ GE859.out) | exact HB.out)) hb); clear HO_6; clear HO_7; clear HO_8; clear BK858; clear BK859; clear HB; have HO_6 := n0_; have HO_7 := n1_; have HO_8 := n2_; have BK858 := n3_; have BK859 := n4_; have HB := n5_; clear n0_ n1_ n2_ n3_ n4_ n5_; (try clear hb); (try clear hb2); (try clear hk); (try clear hi)) | ((with_reducible refine gate_dst (N := 13) rfl ?_); refine box_event ?hg (N := 13) ?hd (cs := #[.int .u64 0, .int .u64 0]) (t := 25) ?hr ?_; (case hd => rfl); (case hg => rfl); (case hr => first | (go_simp; done) | (go_simp; rfl)); intro gb872 hg w33 hbox hb; have n0_ := Aside0.mk (Kd.R_below (by (with_reducible repeat (first | apply Kd.R_alloc | apply Kd.R_drewN | apply Kd.R_drew)); exact HO_6.out) hb); have n1_ := Aside0.mk (Kd.R_below (by (with_reducible repeat (first | apply Kd.R_alloc | apply Kd.R_drewN | apply Kd.R_drew)); exact HO_7.out) hb); have n2_ := Aside0.mk (Kd.R_below (by (with_reducible repeat (first | apply Kd.R_alloc | apply Kd.R_drewN | apply Kd.R_drew)); exact HO_8.out) hb); have n3_ := Aside0.mk (blk_below (g := gb858) (o := .cells #[.int .u64 a0_0, .int .u64 a0_1] 25 (0, 0)) (by (with_reducible repeat (first | refine blk_drewN ?_ _ | refine blk_drew ?_ | refine blk_alloc ?_ _)); exact BK858.out) hb); have n4_ := Aside0.mk (blk_below (g := gb859) (o := .cells #[.int .u64 0, .int .u64 0] 25 (0, 0)) (by (with_reducible repeat (first | refine blk_drewN ?_ _ | refine blk_drew ?_ | refine blk_alloc ?_ _)); exact BK859.out) hb); have n5_ := Aside0.mk (below_step (by repeat (first | (with_reducible first | exact HB.out | apply below_alloc | apply pw_below_drewN | apply below_drew1 | refine below_set ?_ GE858.out | refine below_set ?_ GE859.out) | exact HB.out)) hb); have n6_ := Aside0.mk (hbox); have n7_ := Aside0.mk ((by rw [hg]; exact (below_size (by repeat (first | (with_reducible first | exact HB.out | apply below_alloc | apply pw_below_drewN | apply below_drew1 | refine below_set ?_ GE858.out | refine below_set ?_ GE859.out) | exact HB.out))) : w.heap.size ≤ gb872)); have n8_ := Aside0.mk ((by rw [hg]; exact (below_size (by repeat (first | (with_reducible first | exact HB.out | apply below_alloc | apply pw_below_drewN | apply below_drew1 | refine below_set ?_ GE858.out | refine below_set ?_ GE859.out) | exact HB.out))) : w.heap.size ≤ gb872)); have n9_ := Aside0.mk ((by rw [hg]; exact Nat.ne_of_lt (blk_lt (g := gb858) (o := .cells #[.int .u64 a0_0, .int .u64 a0_1] 25 (0, 0)) (by (with_reducible repeat (first | refine blk_drewN ?_ _ | refine blk_drew ?_ | refine blk_alloc ?_ _)); exact BK858.out)) : gb858 ≠ gb872)); have n10_ := Aside0.mk ((by rw [hg]; exact Nat.ne_of_gt (blk_lt (g := gb858) (o := .cells #[.int .u64 a0_0, .int .u64 a0_1] 25 (0, 0)) (by (with_reducible repeat (first | refine blk_drewN ?_ _ | refine blk_drew ?_ | refine blk_alloc ?_ _)); exact BK858.out)) : gb872 ≠ gb858)); have n11_ := Aside0.mk ((by rw [hg]; exact Nat.ne_of_lt (blk_lt (g := gb859) (o := .cells #[.int .u64 0, .int .u64 0] 25 (0, 0)) (by (with_reducible repeat (first | refine blk_drewN ?_ _ | refine blk_drew ?_ | refine blk_alloc ?_ _)); exact BK859.out)) : gb859 ≠ gb872)); have n12_ := Aside0.mk ((by rw [hg]; exact Nat.ne_of_gt (blk_lt (g := gb859) (o := .cells #[.int .u64 0, .int .u64 0] 25 (0, 0)) (by (with_reducible repeat (first | refine blk_drewN ?_ _ | refine blk_drew ?_ | refine blk_alloc ?_ _)); exact BK859.out)) : gb872 ≠ gb859)); clear HO_6; clear HO_7; clear HO_8; clear BK858; clear BK859; clear HB; have HO_6 := n0_; have HO_7 := n1_; have HO_8 := n2_; have BK858 := n3_; have BK859 := n4_; have HB := n5_; have BK872 := n6_; have GW872 := n7_; have GE872 := n8_; have NB858_872 := n9_; have NB872_858 := n10_; have NB859_872 := n11_; have NB872_859 := n12_; clear n0_ n1_ n2_ n3_ n4_ n5_ n6_ n7_ n8_ n9_ n10_ n11_ n12_; clear hb hbox hg; have hnb34 := NB872_858.out; have hnc34 := NB858_872.out; have hnb35 := NB872_859.out; have hnc35 := NB859_872.out; have hcz36_0 : w33.cell? ⟨gb872, 0, none⟩ = some (.int .u64 0) := (blk_cell BK872.out 0).trans rfl; have hcz36_1 : w33.cell? ⟨gb872, 1, none⟩ = some (.int .u64 0) := (blk_cell BK872.out 1).trans rfl; have hfz36_0 := blk_frozen BK872.out 0; have hfz36_1 := blk_frozen BK872.out 1; have hnb37 := NB859_858.out; have hnc37 := NB858_859.out; have hcz38_0 : w33.cell? ⟨gb859, 0, none⟩ = some (.int .u64 0) := (blk_cell BK859.out 0).trans rfl; have hcz38_1 : w33.cell? ⟨gb859, 1, none⟩ = some (.int .u64 0) := (blk_cell BK859.out 1).trans rfl; have hfz38_0 := blk_frozen BK859.out 0; have hfz38_1 := blk_frozen BK859.out 1)); try go_wp2_with (first | (go_at_call 83; (with_reducible refine (paymasterref01_number.calls k1 _ _ x8_1 t869 t870 true _ ?side1 ?side2 A29.out).mono ?_); (case side1 => repeat (first | exact (Kd.R_reads' HO_8.out).2.2 | (with_reducible refine Kd.C_alloc ?_ _) | (with_reducible refine Kd.C_drewN ?_ _) | (with_reducible refine Kd.C_drew ?_))); (case side2 => exact (Kd.R_reads' HO_8.out).2.1); rintro e w32 ⟨rfl, hb⟩; have n0_ := Aside0.mk (Kd.R_below (by (with_reducible repeat (first | apply Kd.R_alloc | apply Kd.R_drewN | apply Kd.R_drew)); exact HO_6.out) hb); have n1_ := Aside0.mk (Kd.R_below (by (with_reducible repeat (first | apply Kd.R_alloc | apply Kd.R_drewN | apply Kd.R_drew)); exact HO_7.out) hb); have n2_ := Aside0.mk (Kd.R_below (by (with_reducible repeat (first | apply Kd.R_alloc | apply Kd.R_drewN | apply Kd.R_drew)); exact HO_8.out) hb); have n3_ := Aside0.mk (blk_below (g := gb858) (o := .cells #[.int .u64 a0_0, .int .u64 a0_1] 25 (0, 0)) (by (with_reducible repeat (first | refine blk_drewN ?_ _ | refine blk_drew ?_ | refine blk_alloc ?_ _)); exact BK858.out) hb); have n4_ := Aside0.mk (blk_below (g := gb859) (o := .cells #[.int .u64 0, .int .u64 0] 25 (0, 0)) (by (with_reducible repeat (first | refine blk_drewN ?_ _ | refine blk_drew ?_ | refine blk_alloc ?_ _)); exact BK859.out) hb); have n5_ := Aside0.mk (below_step (by repeat (first | (with_reducible first | exact HB.out | apply below_alloc | apply pw_below_drewN | apply below_drew1 | refine below_set ?_ GE858.out | refine below_set ?_ GE859.out) | exact HB.out)) hb); clear HO_6; clear HO_7; clear HO_8; clear BK858; clear BK859; clear HB; have HO_6 := n0_; have HO_7 := n1_; have HO_8 := n2_; have BK858 := n3_; have BK859 := n4_; have HB := n5_; clear n0_ n1_ n2_ n3_ n4_ n5_; (try clear hb); (try clear hb2); (try clear hk); (try clear hi)) | ((with_reducible refine gate_dst (N := 13) rfl ?_); refine box_event ?hg (N := 13) ?hd (cs := #[.int .u64 0, .int .u64 0]) (t := 25) ?hr ?_; (case hd => rfl); (case hg => rfl); (case hr => first | (go_simp; done) | (go_simp; rfl)); intro gb872 hg w33 hbox hb; have n0_ := Aside0.mk (Kd.R_below (by (with_reducible repeat (first | apply Kd.R_alloc | apply Kd.R_drewN | apply Kd.R_drew)); exact HO_6.out) hb); have n1_ := Aside0.mk (Kd.R_below (by (with_reducible repeat (first | apply Kd.R_alloc | apply Kd.R_drewN | apply Kd.R_drew)); exact HO_7.out) hb); have n2_ := Aside0.mk (Kd.R_below (by (with_reducible repeat (first | apply Kd.R_alloc | apply Kd.R_drewN | apply Kd.R_drew)); exact HO_8.out) hb); have n3_ := Aside0.mk (blk_below (g := gb858) (o := .cells #[.int .u64 a0_0, .int .u64 a0_1] 25 (0, 0)) (by (with_reducible repeat (first | refine blk_drewN ?_ _ | refine blk_drew ?_ | refine blk_alloc ?_ _)); exact BK858.out) hb); have n4_ := Aside0.mk (blk_below (g := gb859) (o := .cells #[.int .u64 0, .int .u64 0] 25 (0, 0)) (by (with_reducible repeat (first | refine blk_drewN ?_ _ | refine blk_drew ?_ | refine blk_alloc ?_ _)); exact BK859.out) hb); have n5_ := Aside0.mk (below_step (by repeat (first | (with_reducible first | exact HB.out | apply below_alloc | apply pw_below_drewN | apply below_drew1 | refine below_set ?_ GE858.out | refine below_set ?_ GE859.out) | exact HB.out)) hb); have n6_ := Aside0.mk (hbox); have n7_ := Aside0.mk ((by rw [hg]; exact (below_size (by repeat (first | (with_reducible first | exact HB.out | apply below_alloc | apply pw_below_drewN | apply below_drew1 | refine below_set ?_ GE858.out | refine below_set ?_ GE859.out) | exact HB.out))) : w.heap.size ≤ gb872)); have n8_ := Aside0.mk ((by rw [hg]; exact (below_size (by repeat (first | (with_reducible first | exact HB.out | apply below_alloc | apply pw_below_drewN | apply below_drew1 | refine below_set ?_ GE858.out | refine below_set ?_ GE859.out) | exact HB.out))) : w.heap.size ≤ gb872)); have n9_ := Aside0.mk ((by rw [hg]; exact Nat.ne_of_lt (blk_lt (g := gb858) (o := .cells #[.int .u64 a0_0, .int .u64 a0_1] 25 (0, 0)) (by (with_reducible repeat (first | refine blk_drewN ?_ _ | refine blk_drew ?_ | refine blk_alloc ?_ _)); exact BK858.out)) : gb858 ≠ gb872)); have n10_ := Aside0.mk ((by rw [hg]; exact Nat.ne_of_gt (blk_lt (g := gb858) (o := .cells #[.int .u64 a0_0, .int .u64 a0_1] 25 (0, 0)) (by (with_reducible repeat (first | refine blk_drewN ?_ _ | refine blk_drew ?_ | refine blk_alloc ?_ _)); exact BK858.out)) : gb872 ≠ gb858)); have n11_ := Aside0.mk ((by rw [hg]; exact Nat.ne_of_lt (blk_lt (g := gb859) (o := .cells #[.int .u64 0, .int .u64 0] 25 (0, 0)) (by (with_reducible repeat (first | refine blk_drewN ?_ _ | refine blk_drew ?_ | refine blk_alloc ?_ _)); exact BK859.out)) : gb859 ≠ gb872)); have n12_ := Aside0.mk ((by rw [hg]; exact Nat.ne_of_gt (blk_lt (g := gb859) (o := .cells #[.int .u64 0, .int .u64 0] 25 (0, 0)) (by (with_reducible repeat (first | refine blk_drewN ?_ _ | refine blk_drew ?_ | refine blk_alloc ?_ _)); exact BK859.out)) : gb872 ≠ gb859)); clear HO_6; clear HO_7; clear HO_8; clear BK858; clear BK859; clear HB; have HO_6 := n0_; have HO_7 := n1_; have HO_8 := n2_; have BK858 := n3_; have BK859 := n4_; have HB := n5_; have BK872 := n6_; have GW872 := n7_; have GE872 := n8_; have NB858_872 := n9_; have NB872_858 := n10_; have NB859_872 := n11_; have NB872_859 := n12_; clear n0_ n1_ n2_ n3_ n4_ n5_ n6_ n7_ n8_ n9_ n10_ n11_ n12_; clear hb hbox hg; have hnb34 := NB872_858.out; have hnc34 := NB858_872.out; have hnb35 := NB872_859.out; have hnc35 := NB859_872.out; have hcz36_0 : w33.cell? ⟨gb872, 0, none⟩ = some (.int .u64 0) := (blk_cell BK872.out 0).trans rfl; have hcz36_1 : w33.cell? ⟨gb872, 1, none⟩ = some (.int .u64 0) := (blk_cell BK872.out 1).trans rfl; have hfz36_0 := blk_frozen BK872.out 0; have hfz36_1 := blk_frozen BK872.out 1; have hnb37 := NB859_858.out; have hnc37 := NB858_859.out; have hcz38_0 : w33.cell? ⟨gb859, 0, none⟩ = some (.int .u64 0) := (blk_cell BK859.out 0).trans rfl; have hcz38_1 : w33.cell? ⟨gb859, 1, none⟩ = some (.int .u64 0) := (blk_cell BK859.out 1).trans rfl; have hfz38_0 := blk_frozen BK859.out 0; have hfz38_1 := blk_frozen BK859.out 1)))
            refine bodyPost_ret (results_ct rfl _ _ gb859 25 #[.int .u64 t869, .int .u64 t870] (0, 0) _ rfl (by (with_reducible repeat (first | refine blk_drewN ?_ _ | refine blk_drew ?_ | refine blk_alloc ?_ _)); refine blk_put (cs := #[.int .u64 t869, .int .u64 0]) ?_ 1 _ rfl; (with_reducible repeat (first | refine blk_drewN ?_ _ | refine blk_drew ?_ | refine blk_alloc ?_ _)); refine blk_put (cs := #[.int .u64 0, .int .u64 0]) ?_ 0 _ rfl; (with_reducible repeat (first | refine blk_drewN ?_ _ | refine blk_drew ?_ | refine blk_alloc ?_ _)); refine blk_far ?_ NB859_872.out _; (with_reducible repeat (first | refine blk_drewN ?_ _ | refine blk_drew ?_ | refine blk_alloc ?_ _)); refine blk_far ?_ NB859_872.out _; (with_reducible repeat (first | refine blk_drewN ?_ _ | refine blk_drew ?_ | refine blk_alloc ?_ _)); exact BK859.out) Try.underlying25 rfl (by kernel_rfl)) rfl ?_
            exact ⟨by first | rfl | (simp [errW_none, errW_some] <;> rfl) | (simp [*, errW_none, errW_some] <;> rfl), by repeat (first | (with_reducible first | exact HB.out | apply below_alloc | apply pw_below_drewN | apply below_drew1 | refine below_set ?_ GE858.out | refine below_set ?_ GE859.out | refine below_set ?_ GE872.out) | exact HB.out)⟩
          · replace c30 := Bool.eq_false_iff.mpr c30
            subst c30
            have H1 : (some (0, 0, 10)) = some (r1, r2, r3) := by rw [if_neg (show ¬ (false = true) by decide)] at H; exact H
            clear H
            have H := H1
            clear H1
            simp only [Option.some.injEq, Prod.mk.injEq] at H
            obtain ⟨rfl, rfl, rfl⟩ := H
            obtain ⟨Ao39, co39, eo39⟩ := Kd.R_slice HO_8.out
            subst eo39
            go_wp2_with (first | (go_at_call 83; (with_reducible refine (paymasterref01_number.calls k1 _ _ x8_1 t869 t870 false _ ?side1 ?side2 A29.out).mono ?_); (case side1 => repeat (first | exact (Kd.R_reads' HO_8.out).2.2 | (with_reducible refine Kd.C_alloc ?_ _) | (with_reducible refine Kd.C_drewN ?_ _) | (with_reducible refine Kd.C_drew ?_))); (case side2 => exact (Kd.R_reads' HO_8.out).2.1); rintro e w40 ⟨rfl, hb⟩; have n0_ := Aside0.mk (Kd.R_below (by (with_reducible repeat (first | apply Kd.R_alloc | apply Kd.R_drewN | apply Kd.R_drew)); exact HO_6.out) hb); have n1_ := Aside0.mk (Kd.R_below (by (with_reducible repeat (first | apply Kd.R_alloc | apply Kd.R_drewN | apply Kd.R_drew)); exact HO_7.out) hb); have n2_ := Aside0.mk (Kd.R_below (by (with_reducible repeat (first | apply Kd.R_alloc | apply Kd.R_drewN | apply Kd.R_drew)); exact HO_8.out) hb); have n3_ := Aside0.mk (blk_below (g := gb858) (o := .cells #[.int .u64 a0_0, .int .u64 a0_1] 25 (0, 0)) (by (with_reducible repeat (first | refine blk_drewN ?_ _ | refine blk_drew ?_ | refine blk_alloc ?_ _)); exact BK858.out) hb); have n4_ := Aside0.mk (blk_below (g := gb859) (o := .cells #[.int .u64 0, .int .u64 0] 25 (0, 0)) (by (with_reducible repeat (first | refine blk_drewN ?_ _ | refine blk_drew ?_ | refine blk_alloc ?_ _)); exact BK859.out) hb); have n5_ := Aside0.mk (below_step (by repeat (first | (with_reducible first | exact HB.out | apply below_alloc | apply pw_below_drewN | apply below_drew1 | refine below_set ?_ GE858.out | refine below_set ?_ GE859.out) | exact HB.out)) hb); clear HO_6; clear HO_7; clear HO_8; clear BK858; clear BK859; clear HB; have HO_6 := n0_; have HO_7 := n1_; have HO_8 := n2_; have BK858 := n3_; have BK859 := n4_; have HB := n5_; clear n0_ n1_ n2_ n3_ n4_ n5_; (try clear hb); (try clear hb2); (try clear hk); (try clear hi)) | ((with_reducible refine gate_dst (N := 13) rfl ?_); refine box_event ?hg (N := 13) ?hd (cs := #[.int .u64 0, .int .u64 0]) (t := 25) ?hr ?_; (case hd => rfl); (case hg => rfl); (case hr => first | (go_simp; done) | (go_simp; rfl)); intro gb872 hg w41 hbox hb; have n0_ := Aside0.mk (Kd.R_below (by (with_reducible repeat (first | apply Kd.R_alloc | apply Kd.R_drewN | apply Kd.R_drew)); exact HO_6.out) hb); have n1_ := Aside0.mk (Kd.R_below (by (with_reducible repeat (first | apply Kd.R_alloc | apply Kd.R_drewN | apply Kd.R_drew)); exact HO_7.out) hb); have n2_ := Aside0.mk (Kd.R_below (by (with_reducible repeat (first | apply Kd.R_alloc | apply Kd.R_drewN | apply Kd.R_drew)); exact HO_8.out) hb); have n3_ := Aside0.mk (blk_below (g := gb858) (o := .cells #[.int .u64 a0_0, .int .u64 a0_1] 25 (0, 0)) (by (with_reducible repeat (first | refine blk_drewN ?_ _ | refine blk_drew ?_ | refine blk_alloc ?_ _)); exact BK858.out) hb); have n4_ := Aside0.mk (blk_below (g := gb859) (o := .cells #[.int .u64 0, .int .u64 0] 25 (0, 0)) (by (with_reducible repeat (first | refine blk_drewN ?_ _ | refine blk_drew ?_ | refine blk_alloc ?_ _)); exact BK859.out) hb); have n5_ := Aside0.mk (below_step (by repeat (first | (with_reducible first | exact HB.out | apply below_alloc | apply pw_below_drewN | apply below_drew1 | refine below_set ?_ GE858.out | refine below_set ?_ GE859.out) | exact HB.out)) hb); have n6_ := Aside0.mk (hbox); have n7_ := Aside0.mk ((by rw [hg]; exact (below_size (by repeat (first | (with_reducible first | exact HB.out | apply below_alloc | apply pw_below_drewN | apply below_drew1 | refine below_set ?_ GE858.out | refine below_set ?_ GE859.out) | exact HB.out))) : w.heap.size ≤ gb872)); have n8_ := Aside0.mk ((by rw [hg]; exact (below_size (by repeat (first | (with_reducible first | exact HB.out | apply below_alloc | apply pw_below_drewN | apply below_drew1 | refine below_set ?_ GE858.out | refine below_set ?_ GE859.out) | exact HB.out))) : w.heap.size ≤ gb872)); have n9_ := Aside0.mk ((by rw [hg]; exact Nat.ne_of_lt (blk_lt (g := gb858) (o := .cells #[.int .u64 a0_0, .int .u64 a0_1] 25 (0, 0)) (by (with_reducible repeat (first | refine blk_drewN ?_ _ | refine blk_drew ?_ | refine blk_alloc ?_ _)); exact BK858.out)) : gb858 ≠ gb872)); have n10_ := Aside0.mk ((by rw [hg]; exact Nat.ne_of_gt (blk_lt (g := gb858) (o := .cells #[.int .u64 a0_0, .int .u64 a0_1] 25 (0, 0)) (by (with_reducible repeat (first | refine blk_drewN ?_ _ | refine blk_drew ?_ | refine blk_alloc ?_ _)); exact BK858.out)) : gb872 ≠ gb858)); have n11_ := Aside0.mk ((by rw [hg]; exact Nat.ne_of_lt (blk_lt (g := gb859) (o := .cells #[.int .u64 0, .int .u64 0] 25 (0, 0)) (by (with_reducible repeat (first | refine blk_drewN ?_ _ | refine blk_drew ?_ | refine blk_alloc ?_ _)); exact BK859.out)) : gb859 ≠ gb872)); have n12_ := Aside0.mk ((by rw [hg]; exact Nat.ne_of_gt (blk_lt (g := gb859) (o := .cells #[.int .u64 0, .int .u64 0] 25 (0, 0)) (by (with_reducible repeat (first | refine blk_drewN ?_ _ | refine blk_drew ?_ | refine blk_alloc ?_ _)); exact BK859.out)) : gb872 ≠ gb859)); clear HO_6; clear HO_7; clear HO_8; clear BK858; clear BK859; clear HB; have HO_6 := n0_; have HO_7 := n1_; have HO_8 := n2_; have BK858 := n3_; have BK859 := n4_; have HB := n5_; have BK872 := n6_; have GW872 := n7_; have GE872 := n8_; have NB858_872 := n9_; have NB872_858 := n10_; have NB859_872 := n11_; have NB872_859 := n12_; clear n0_ n1_ n2_ n3_ n4_ n5_ n6_ n7_ n8_ n9_ n10_ n11_ n12_; clear hb hbox hg; have hnb42 := NB872_858.out; have hnc42 := NB858_872.out; have hnb43 := NB872_859.out; have hnc43 := NB859_872.out; have hcz44_0 : w41.cell? ⟨gb872, 0, none⟩ = some (.int .u64 0) := (blk_cell BK872.out 0).trans rfl; have hcz44_1 : w41.cell? ⟨gb872, 1, none⟩ = some (.int .u64 0) := (blk_cell BK872.out 1).trans rfl; have hfz44_0 := blk_frozen BK872.out 0; have hfz44_1 := blk_frozen BK872.out 1; have hnb45 := NB859_858.out; have hnc45 := NB858_859.out; have hcz46_0 : w41.cell? ⟨gb859, 0, none⟩ = some (.int .u64 0) := (blk_cell BK859.out 0).trans rfl; have hcz46_1 : w41.cell? ⟨gb859, 1, none⟩ = some (.int .u64 0) := (blk_cell BK859.out 1).trans rfl; have hfz46_0 := blk_frozen BK859.out 0; have hfz46_1 := blk_frozen BK859.out 1))
            repeat (go_quiet (first | (go_at_call 83; (with_reducible refine (paymasterref01_number.calls k1 _ _ x8_1 t869 t870 false _ ?side1 ?side2 A29.out).mono ?_); (case side1 => repeat (first | exact (Kd.R_reads' HO_8.out).2.2 | (with_reducible refine Kd.C_alloc ?_ _) | (with_reducible refine Kd.C_drewN ?_ _) | (with_reducible refine Kd.C_drew ?_))); (case side2 => exact (Kd.R_reads' HO_8.out).2.1); rintro e w40 ⟨rfl, hb⟩; have n0_ := Aside0.mk (Kd.R_below (by (with_reducible repeat (first | apply Kd.R_alloc | apply Kd.R_drewN | apply Kd.R_drew)); exact HO_6.out) hb); have n1_ := Aside0.mk (Kd.R_below (by (with_reducible repeat (first | apply Kd.R_alloc | apply Kd.R_drewN | apply Kd.R_drew)); exact HO_7.out) hb); have n2_ := Aside0.mk (Kd.R_below (by (with_reducible repeat (first | apply Kd.R_alloc | apply Kd.R_drewN | apply Kd.R_drew)); exact HO_8.out) hb); have n3_ := Aside0.mk (blk_below (g := gb858) (o := .cells #[.int .u64 a0_0, .int .u64 a0_1] 25 (0, 0)) (by (with_reducible repeat (first | refine blk_drewN ?_ _ | refine blk_drew ?_ | refine blk_alloc ?_ _)); exact BK858.out) hb); have n4_ := Aside0.mk (blk_below (g := gb859) (o := .cells #[.int .u64 0, .int .u64 0] 25 (0, 0)) (by (with_reducible repeat (first | refine blk_drewN ?_ _ | refine blk_drew ?_ | refine blk_alloc ?_ _)); exact BK859.out) hb); have n5_ := Aside0.mk (below_step (by repeat (first | (with_reducible first | exact HB.out | apply below_alloc | apply pw_below_drewN | apply below_drew1 | refine below_set ?_ GE858.out | refine below_set ?_ GE859.out) | exact HB.out)) hb); clear HO_6; clear HO_7; clear HO_8; clear BK858; clear BK859; clear HB; have HO_6 := n0_; have HO_7 := n1_; have HO_8 := n2_; have BK858 := n3_; have BK859 := n4_; have HB := n5_; clear n0_ n1_ n2_ n3_ n4_ n5_; (try clear hb); (try clear hb2); (try clear hk); (try clear hi)) | ((with_reducible refine gate_dst (N := 13) rfl ?_); refine box_event ?hg (N := 13) ?hd (cs := #[.int .u64 0, .int .u64 0]) (t := 25) ?hr ?_; (case hd => rfl); (case hg => rfl); (case hr => first | (go_simp; done) | (go_simp; rfl)); intro gb872 hg w41 hbox hb; have n0_ := Aside0.mk (Kd.R_below (by (with_reducible repeat (first | apply Kd.R_alloc | apply Kd.R_drewN | apply Kd.R_drew)); exact HO_6.out) hb); have n1_ := Aside0.mk (Kd.R_below (by (with_reducible repeat (first | apply Kd.R_alloc | apply Kd.R_drewN | apply Kd.R_drew)); exact HO_7.out) hb); have n2_ := Aside0.mk (Kd.R_below (by (with_reducible repeat (first | apply Kd.R_alloc | apply Kd.R_drewN | apply Kd.R_drew)); exact HO_8.out) hb); have n3_ := Aside0.mk (blk_below (g := gb858) (o := .cells #[.int .u64 a0_0, .int .u64 a0_1] 25 (0, 0)) (by (with_reducible repeat (first | refine blk_drewN ?_ _ | refine blk_drew ?_ | refine blk_alloc ?_ _)); exact BK858.out) hb); have n4_ := Aside0.mk (blk_below (g := gb859) (o := .cells #[.int .u64 0, .int .u64 0] 25 (0, 0)) (by (with_reducible repeat (first | refine blk_drewN ?_ _ | refine blk_drew ?_ | refine blk_alloc ?_ _)); exact BK859.out) hb); have n5_ := Aside0.mk (below_step (by repeat (first | (with_reducible first | exact HB.out | apply below_alloc | apply pw_below_drewN | apply below_drew1 | refine below_set ?_ GE858.out | refine below_set ?_ GE859.out) | exact HB.out)) hb); have n6_ := Aside0.mk (hbox); have n7_ := Aside0.mk ((by rw [hg]; exact (below_size (by repeat (first | (with_reducible first | exact HB.out | apply below_alloc | apply pw_below_drewN | apply below_drew1 | refine below_set ?_ GE858.out | refine below_set ?_ GE859.out) | exact HB.out))) : w.heap.size ≤ gb872)); have n8_ := Aside0.mk ((by rw [hg]; exact (below_size (by repeat (first | (with_reducible first | exact HB.out | apply below_alloc | apply pw_below_drewN | apply below_drew1 | refine below_set ?_ GE858.out | refine below_set ?_ GE859.out) | exact HB.out))) : w.heap.size ≤ gb872)); have n9_ := Aside0.mk ((by rw [hg]; exact Nat.ne_of_lt (blk_lt (g := gb858) (o := .cells #[.int .u64 a0_0, .int .u64 a0_1] 25 (0, 0)) (by (with_reducible repeat (first | refine blk_drewN ?_ _ | refine blk_drew ?_ | refine blk_alloc ?_ _)); exact BK858.out)) : gb858 ≠ gb872)); have n10_ := Aside0.mk ((by rw [hg]; exact Nat.ne_of_gt (blk_lt (g := gb858) (o := .cells #[.int .u64 a0_0, .int .u64 a0_1] 25 (0, 0)) (by (with_reducible repeat (first | refine blk_drewN ?_ _ | refine blk_drew ?_ | refine blk_alloc ?_ _)); exact BK858.out)) : gb872 ≠ gb858)); have n11_ := Aside0.mk ((by rw [hg]; exact Nat.ne_of_lt (blk_lt (g := gb859) (o := .cells #[.int .u64 0, .int .u64 0] 25 (0, 0)) (by (with_reducible repeat (first | refine blk_drewN ?_ _ | refine blk_drew ?_ | refine blk_alloc ?_ _)); exact BK859.out)) : gb859 ≠ gb872)); have n12_ := Aside0.mk ((by rw [hg]; exact Nat.ne_of_gt (blk_lt (g := gb859) (o := .cells #[.int .u64 0, .int .u64 0] 25 (0, 0)) (by (with_reducible repeat (first | refine blk_drewN ?_ _ | refine blk_drew ?_ | refine blk_alloc ?_ _)); exact BK859.out)) : gb872 ≠ gb859)); clear HO_6; clear HO_7; clear HO_8; clear BK858; clear BK859; clear HB; have HO_6 := n0_; have HO_7 := n1_; have HO_8 := n2_; have BK858 := n3_; have BK859 := n4_; have HB := n5_; have BK872 := n6_; have GW872 := n7_; have GE872 := n8_; have NB858_872 := n9_; have NB872_858 := n10_; have NB859_872 := n11_; have NB872_859 := n12_; clear n0_ n1_ n2_ n3_ n4_ n5_ n6_ n7_ n8_ n9_ n10_ n11_ n12_; clear hb hbox hg; have hnb42 := NB872_858.out; have hnc42 := NB858_872.out; have hnb43 := NB872_859.out; have hnc43 := NB859_872.out; have hcz44_0 : w41.cell? ⟨gb872, 0, none⟩ = some (.int .u64 0) := (blk_cell BK872.out 0).trans rfl; have hcz44_1 : w41.cell? ⟨gb872, 1, none⟩ = some (.int .u64 0) := (blk_cell BK872.out 1).trans rfl; have hfz44_0 := blk_frozen BK872.out 0; have hfz44_1 := blk_frozen BK872.out 1; have hnb45 := NB859_858.out; have hnc45 := NB858_859.out; have hcz46_0 : w41.cell? ⟨gb859, 0, none⟩ = some (.int .u64 0) := (blk_cell BK859.out 0).trans rfl; have hcz46_1 : w41.cell? ⟨gb859, 1, none⟩ = some (.int .u64 0) := (blk_cell BK859.out 1).trans rfl; have hfz46_0 := blk_frozen BK859.out 0; have hfz46_1 := blk_frozen BK859.out 1)); try go_wp2_with (first | (go_at_call 83; (with_reducible refine (paymasterref01_number.calls k1 _ _ x8_1 t869 t870 false _ ?side1 ?side2 A29.out).mono ?_); (case side1 => repeat (first | exact (Kd.R_reads' HO_8.out).2.2 | (with_reducible refine Kd.C_alloc ?_ _) | (with_reducible refine Kd.C_drewN ?_ _) | (with_reducible refine Kd.C_drew ?_))); (case side2 => exact (Kd.R_reads' HO_8.out).2.1); rintro e w40 ⟨rfl, hb⟩; have n0_ := Aside0.mk (Kd.R_below (by (with_reducible repeat (first | apply Kd.R_alloc | apply Kd.R_drewN | apply Kd.R_drew)); exact HO_6.out) hb); have n1_ := Aside0.mk (Kd.R_below (by (with_reducible repeat (first | apply Kd.R_alloc | apply Kd.R_drewN | apply Kd.R_drew)); exact HO_7.out) hb); have n2_ := Aside0.mk (Kd.R_below (by (with_reducible repeat (first | apply Kd.R_alloc | apply Kd.R_drewN | apply Kd.R_drew)); exact HO_8.out) hb); have n3_ := Aside0.mk (blk_below (g := gb858) (o := .cells #[.int .u64 a0_0, .int .u64 a0_1] 25 (0, 0)) (by (with_reducible repeat (first | refine blk_drewN ?_ _ | refine blk_drew ?_ | refine blk_alloc ?_ _)); exact BK858.out) hb); have n4_ := Aside0.mk (blk_below (g := gb859) (o := .cells #[.int .u64 0, .int .u64 0] 25 (0, 0)) (by (with_reducible repeat (first | refine blk_drewN ?_ _ | refine blk_drew ?_ | refine blk_alloc ?_ _)); exact BK859.out) hb); have n5_ := Aside0.mk (below_step (by repeat (first | (with_reducible first | exact HB.out | apply below_alloc | apply pw_below_drewN | apply below_drew1 | refine below_set ?_ GE858.out | refine below_set ?_ GE859.out) | exact HB.out)) hb); clear HO_6; clear HO_7; clear HO_8; clear BK858; clear BK859; clear HB; have HO_6 := n0_; have HO_7 := n1_; have HO_8 := n2_; have BK858 := n3_; have BK859 := n4_; have HB := n5_; clear n0_ n1_ n2_ n3_ n4_ n5_; (try clear hb); (try clear hb2); (try clear hk); (try clear hi)) | ((with_reducible refine gate_dst (N := 13) rfl ?_); refine box_event ?hg (N := 13) ?hd (cs := #[.int .u64 0, .int .u64 0]) (t := 25) ?hr ?_; (case hd => rfl); (case hg => rfl); (case hr => first | (go_simp; done) | (go_simp; rfl)); intro gb872 hg w41 hbox hb; have n0_ := Aside0.mk (Kd.R_below (by (with_reducible repeat (first | apply Kd.R_alloc | apply Kd.R_drewN | apply Kd.R_drew)); exact HO_6.out) hb); have n1_ := Aside0.mk (Kd.R_below (by (with_reducible repeat (first | apply Kd.R_alloc | apply Kd.R_drewN | apply Kd.R_drew)); exact HO_7.out) hb); have n2_ := Aside0.mk (Kd.R_below (by (with_reducible repeat (first | apply Kd.R_alloc | apply Kd.R_drewN | apply Kd.R_drew)); exact HO_8.out) hb); have n3_ := Aside0.mk (blk_below (g := gb858) (o := .cells #[.int .u64 a0_0, .int .u64 a0_1] 25 (0, 0)) (by (with_reducible repeat (first | refine blk_drewN ?_ _ | refine blk_drew ?_ | refine blk_alloc ?_ _)); exact BK858.out) hb); have n4_ := Aside0.mk (blk_below (g := gb859) (o := .cells #[.int .u64 0, .int .u64 0] 25 (0, 0)) (by (with_reducible repeat (first | refine blk_drewN ?_ _ | refine blk_drew ?_ | refine blk_alloc ?_ _)); exact BK859.out) hb); have n5_ := Aside0.mk (below_step (by repeat (first | (with_reducible first | exact HB.out | apply below_alloc | apply pw_below_drewN | apply below_drew1 | refine below_set ?_ GE858.out | refine below_set ?_ GE859.out) | exact HB.out)) hb); have n6_ := Aside0.mk (hbox); have n7_ := Aside0.mk ((by rw [hg]; exact (below_size (by repeat (first | (with_reducible first | exact HB.out | apply below_alloc | apply pw_below_drewN | apply below_drew1 | refine below_set ?_ GE858.out | refine below_set ?_ GE859.out) | exact HB.out))) : w.heap.size ≤ gb872)); have n8_ := Aside0.mk ((by rw [hg]; exact (below_size (by repeat (first | (with_reducible first | exact HB.out | apply below_alloc | apply pw_below_drewN | apply below_drew1 | refine below_set ?_ GE858.out | refine below_set ?_ GE859.out) | exact HB.out))) : w.heap.size ≤ gb872)); have n9_ := Aside0.mk ((by rw [hg]; exact Nat.ne_of_lt (blk_lt (g := gb858) (o := .cells #[.int .u64 a0_0, .int .u64 a0_1] 25 (0, 0)) (by (with_reducible repeat (first | refine blk_drewN ?_ _ | refine blk_drew ?_ | refine blk_alloc ?_ _)); exact BK858.out)) : gb858 ≠ gb872)); have n10_ := Aside0.mk ((by rw [hg]; exact Nat.ne_of_gt (blk_lt (g := gb858) (o := .cells #[.int .u64 a0_0, .int .u64 a0_1] 25 (0, 0)) (by (with_reducible repeat (first | refine blk_drewN ?_ _ | refine blk_drew ?_ | refine blk_alloc ?_ _)); exact BK858.out)) : gb872 ≠ gb858)); have n11_ := Aside0.mk ((by rw [hg]; exact Nat.ne_of_lt (blk_lt (g := gb859) (o := .cells #[.int .u64 0, .int .u64 0] 25 (0, 0)) (by (with_reducible repeat (first | refine blk_drewN ?_ _ | refine blk_drew ?_ | refine blk_alloc ?_ _)); exact BK859.out)) : gb859 ≠ gb872)); have n12_ := Aside0.mk ((by rw [hg]; exact Nat.ne_of_gt (blk_lt (g := gb859) (o := .cells #[.int .u64 0, .int .u64 0] 25 (0, 0)) (by (with_reducible repeat (first | refine blk_drewN ?_ _ | refine blk_drew ?_ | refine blk_alloc ?_ _)); exact BK859.out)) : gb872 ≠ gb859)); clear HO_6; clear HO_7; clear HO_8; clear BK858; clear BK859; clear HB; have HO_6 := n0_; have HO_7 := n1_; have HO_8 := n2_; have BK858 := n3_; have BK859 := n4_; have HB := n5_; have BK872 := n6_; have GW872 := n7_; have GE872 := n8_; have NB858_872 := n9_; have NB872_858 := n10_; have NB859_872 := n11_; have NB872_859 := n12_; clear n0_ n1_ n2_ n3_ n4_ n5_ n6_ n7_ n8_ n9_ n10_ n11_ n12_; clear hb hbox hg; have hnb42 := NB872_858.out; have hnc42 := NB858_872.out; have hnb43 := NB872_859.out; have hnc43 := NB859_872.out; have hcz44_0 : w41.cell? ⟨gb872, 0, none⟩ = some (.int .u64 0) := (blk_cell BK872.out 0).trans rfl; have hcz44_1 : w41.cell? ⟨gb872, 1, none⟩ = some (.int .u64 0) := (blk_cell BK872.out 1).trans rfl; have hfz44_0 := blk_frozen BK872.out 0; have hfz44_1 := blk_frozen BK872.out 1; have hnb45 := NB859_858.out; have hnc45 := NB858_859.out; have hcz46_0 : w41.cell? ⟨gb859, 0, none⟩ = some (.int .u64 0) := (blk_cell BK859.out 0).trans rfl; have hcz46_1 : w41.cell? ⟨gb859, 1, none⟩ = some (.int .u64 0) := (blk_cell BK859.out 1).trans rfl; have hfz46_0 := blk_frozen BK859.out 0; have hfz46_1 := blk_frozen BK859.out 1)))
            refine bodyPost_ret (results_ct rfl _ _ gb859 25 #[.int .u64 0, .int .u64 0] (0, 0) _ rfl (by (with_reducible repeat (first | refine blk_drewN ?_ _ | refine blk_drew ?_ | refine blk_alloc ?_ _)); refine blk_put (cs := #[.int .u64 0, .int .u64 0]) ?_ 1 _ rfl; (with_reducible repeat (first | refine blk_drewN ?_ _ | refine blk_drew ?_ | refine blk_alloc ?_ _)); refine blk_put (cs := #[.int .u64 0, .int .u64 0]) ?_ 0 _ rfl; (with_reducible repeat (first | refine blk_drewN ?_ _ | refine blk_drew ?_ | refine blk_alloc ?_ _)); refine blk_far ?_ NB859_872.out _; (with_reducible repeat (first | refine blk_drewN ?_ _ | refine blk_drew ?_ | refine blk_alloc ?_ _)); refine blk_far ?_ NB859_872.out _; (with_reducible repeat (first | refine blk_drewN ?_ _ | refine blk_drew ?_ | refine blk_alloc ?_ _)); exact BK859.out) Try.underlying25 rfl (by kernel_rfl)) rfl ?_
            exact ⟨by first | rfl | (simp [errW_none, errW_some] <;> rfl) | (simp [*, errW_none, errW_some] <;> rfl), by repeat (first | (with_reducible first | exact HB.out | apply below_alloc | apply pw_below_drewN | apply below_drew1 | refine below_set ?_ GE858.out | refine below_set ?_ GE859.out | refine below_set ?_ GE872.out) | exact HB.out)⟩
  · rw [if_neg c5] at H
    exact absurd H (by simp)
def bits_Len64.j0 : Nat → Int → Int → Option (Int)
  | 0, _, _ => none
  | k + 1, x0, x2 => if x0 ≥ 65536 then (if (x0 / 65536) ≥ 256 then (if 0 ≤ (((x0 / 65536) / 256) % 256) then (if (((x0 / 65536) / 256) % 256) < 256 then (some (wrap64 ((wrap64 ((wrap64 (x2 + 16)) + 8)) + (wrap64 (bt (⟨#[0, 1, 2, 2, 3, 3, 3, 3, 4, 4, 4, 4, 4, 4, 4, 4, 5, 5, 5, 5, 5, 5, 5, 5, 5, 5, 5, 5, 5, 5, 5, 5, 6, 6, 6, 6, 6, 6, 6, 6, 6, 6, 6, 6, 6, 6, 6, 6, 6, 6, 6, 6, 6, 6, 6, 6, 6, 6, 6, 6, 6, 6, 6, 6, 7, 7, 7, 7, 7, 7, 7, 7, 7, 7, 7, 7, 7, 7, 7, 7, 7, 7, 7, 7, 7, 7, 7, 7, 7, 7, 7, 7, 7, 7, 7, 7, 7, 7, 7, 7, 7, 7, 7, 7, 7, 7, 7, 7, 7, 7, 7, 7, 7, 7, 7, 7, 7, 7, 7, 7, 7, 7, 7, 7, 7, 7, 7, 7, 8, 8, 8, 8, 8, 8, 8, 8, 8, 8, 8, 8, 8, 8, 8, 8, 8, 8, 8, 8, 8, 8, 8, 8, 8, 8, 8, 8, 8, 8, 8, 8, 8, 8, 8, 8, 8, 8, 8, 8, 8, 8, 8, 8, 8, 8, 8, 8, 8, 8, 8, 8, 8, 8, 8, 8, 8, 8, 8, 8, 8, 8, 8, 8, 8, 8, 8, 8, 8, 8, 8, 8, 8, 8, 8, 8, 8, 8, 8, 8, 8, 8, 8, 8, 8, 8, 8, 8, 8, 8, 8, 8, 8, 8, 8, 8, 8, 8, 8, 8, 8, 8, 8, 8, 8, 8, 8, 8, 8, 8, 8, 8, 8, 8, 8, 8, 8, 8, 8, 8, 8, 8, 8, 8, 8, 8, 8, 8]⟩ : ByteArray) (((x0 / 65536) / 256) % 256)))))) else (none)) else (none)) else (if 0 ≤ ((x0 / 65536) % 256) then (if ((x0 / 65536) % 256) < 256 then (some (wrap64 ((wrap64 (x2 + 16)) + (wrap64 (bt (⟨#[0, 1, 2, 2, 3, 3, 3, 3, 4, 4, 4, 4, 4, 4, 4, 4, 5, 5, 5, 5, 5, 5, 5, 5, 5, 5, 5, 5, 5, 5, 5, 5, 6, 6, 6, 6, 6, 6, 6, 6, 6, 6, 6, 6, 6, 6, 6, 6, 6, 6, 6, 6, 6, 6, 6, 6, 6, 6, 6, 6, 6, 6, 6, 6, 7, 7, 7, 7, 7, 7, 7, 7, 7, 7, 7, 7, 7, 7, 7, 7, 7, 7, 7, 7, 7, 7, 7, 7, 7, 7, 7, 7, 7, 7, 7, 7, 7, 7, 7, 7, 7, 7, 7, 7, 7, 7, 7, 7, 7, 7, 7, 7, 7, 7, 7, 7, 7, 7, 7, 7, 7, 7, 7, 7, 7, 7, 7, 7, 8, 8, 8, 8, 8, 8, 8, 8, 8, 8, 8, 8, 8, 8, 8, 8, 8, 8, 8, 8, 8, 8, 8, 8, 8, 8, 8, 8, 8, 8, 8, 8, 8, 8, 8, 8, 8, 8, 8, 8, 8, 8, 8, 8, 8, 8, 8, 8, 8, 8, 8, 8, 8, 8, 8, 8, 8, 8, 8, 8, 8, 8, 8, 8, 8, 8, 8, 8, 8, 8, 8, 8, 8, 8, 8, 8, 8, 8, 8, 8, 8, 8, 8, 8, 8, 8, 8, 8, 8, 8, 8, 8, 8, 8, 8, 8, 8, 8, 8, 8, 8, 8, 8, 8, 8, 8, 8, 8, 8, 8, 8, 8, 8, 8, 8, 8, 8, 8, 8, 8, 8, 8, 8, 8, 8, 8, 8, 8]⟩ : ByteArray) ((x0 / 65536) % 256)))))) else (none)) else (none))) else (if x0 ≥ 256 then (if 0 ≤ ((x0 / 256) % 256) then (if ((x0 / 256) % 256) < 256 then (some (wrap64 ((wrap64 (x2 + 8)) + (wrap64 (bt (⟨#[0, 1, 2, 2, 3, 3, 3, 3, 4, 4, 4, 4, 4, 4, 4, 4, 5, 5, 5, 5, 5, 5, 5, 5, 5, 5, 5, 5, 5, 5, 5, 5, 6, 6, 6, 6, 6, 6, 6, 6, 6, 6, 6, 6, 6, 6, 6, 6, 6, 6, 6, 6, 6, 6, 6, 6, 6, 6, 6, 6, 6, 6, 6, 6, 7, 7, 7, 7, 7, 7, 7, 7, 7, 7, 7, 7, 7, 7, 7, 7, 7, 7, 7, 7, 7, 7, 7, 7, 7, 7, 7, 7, 7, 7, 7, 7, 7, 7, 7, 7, 7, 7, 7, 7, 7, 7, 7, 7, 7, 7, 7, 7, 7, 7, 7, 7, 7, 7, 7, 7, 7, 7, 7, 7, 7, 7, 7, 7, 8, 8, 8, 8, 8, 8, 8, 8, 8, 8, 8, 8, 8, 8, 8, 8, 8, 8, 8, 8, 8, 8, 8, 8, 8, 8, 8, 8, 8, 8, 8, 8, 8, 8, 8, 8, 8, 8, 8, 8, 8, 8, 8, 8, 8, 8, 8, 8, 8, 8, 8, 8, 8, 8, 8, 8, 8, 8, 8, 8, 8, 8, 8, 8, 8, 8, 8, 8, 8, 8, 8, 8, 8, 8, 8, 8, 8, 8, 8, 8, 8, 8, 8, 8, 8, 8, 8, 8, 8, 8, 8, 8, 8, 8, 8, 8, 8, 8, 8, 8, 8, 8, 8, 8, 8, 8, 8, 8, 8, 8, 8, 8, 8, 8, 8, 8, 8, 8, 8, 8, 8, 8, 8, 8, 8, 8, 8, 8]⟩ : ByteArray) ((x0 / 256) % 256)))))) else (none)) else (none)) else (if 0 ≤ ((x0) % 256) then (if ((x0) % 256) < 256 then (some (wrap64 (x2 + (wrap64 (bt (⟨#[0, 1, 2, 2, 3, 3, 3, 3, 4, 4, 4, 4, 4, 4, 4, 4, 5, 5, 5, 5, 5, 5, 5, 5, 5, 5, 5, 5, 5, 5, 5, 5, 6, 6, 6, 6, 6, 6, 6, 6, 6, 6, 6, 6, 6, 6, 6, 6, 6, 6, 6, 6, 6, 6, 6, 6, 6, 6, 6, 6, 6, 6, 6, 6, 7, 7, 7, 7, 7, 7, 7, 7, 7, 7, 7, 7, 7, 7, 7, 7, 7, 7, 7, 7, 7, 7, 7, 7, 7, 7, 7, 7, 7, 7, 7, 7, 7, 7, 7, 7, 7, 7, 7, 7, 7, 7, 7, 7, 7, 7, 7, 7, 7, 7, 7, 7, 7, 7, 7, 7, 7, 7, 7, 7, 7, 7, 7, 7, 8, 8, 8, 8, 8, 8, 8, 8, 8, 8, 8, 8, 8, 8, 8, 8, 8, 8, 8, 8, 8, 8, 8, 8, 8, 8, 8, 8, 8, 8, 8, 8, 8, 8, 8, 8, 8, 8, 8, 8, 8, 8, 8, 8, 8, 8, 8, 8, 8, 8, 8, 8, 8, 8, 8, 8, 8, 8, 8, 8, 8, 8, 8, 8, 8, 8, 8, 8, 8, 8, 8, 8, 8, 8, 8, 8, 8, 8, 8, 8, 8, 8, 8, 8, 8, 8, 8, 8, 8, 8, 8, 8, 8, 8, 8, 8, 8, 8, 8, 8, 8, 8, 8, 8, 8, 8, 8, 8, 8, 8, 8, 8, 8, 8, 8, 8, 8, 8, 8, 8, 8, 8, 8, 8, 8, 8, 8, 8]⟩ : ByteArray) ((x0) % 256)))))) else (none)) else (none)))
def bits_Len64.f (k : Nat) (a0 : Int) : Option (Int) := if a0 ≥ 4294967296 then (bits_Len64.j0 k (a0 / 4294967296) 32) else (bits_Len64.j0 k a0 0)
set_option maxHeartbeats 8000000 in
set_option maxRecDepth 100000 in
theorem bits_Len64.calls (k : Nat) (a0 : Int) (r : Int) (w : World) (h : bits_Len64.f k a0 = some r) :
    Calls Try.prog 117 #[.int .u64 a0] w fun e w' => e = .returned (.int .i64 r) ∧ Drawn0 w w' := by
  have H : (if a0 ≥ 4294967296 then (bits_Len64.j0 k (a0 / 4294967296) 32) else (bits_Len64.j0 k a0 0)) = some r := h
  clear h
  have HC2 := Aside0.mk H
  clear H
  go_enter Try.func117, Try.ntmps117
  go_upto_if 4 with (fail)
  go_cut [0, 2] (fun v0 v2 wc => ∃ (kq : Nat) (x0_1 : Int) (x2_1 : Int), v0 = .int .u64 x0_1 ∧ v2 = .int .i64 x2_1 ∧ Aside0 (bits_Len64.j0 kq x0_1 x2_1 = some r) ∧ Aside0 (kq ≤ k) ∧ Drawn0 w wc)
  case first =>
    have H := HC2.out
    clear HC2
    by_cases c3 : a0 ≥ 4294967296
    · rw [if_pos c3] at H
      have c3b0 : decide (4294967296 ≤ a0) = true := decide_eq_true c3
      clear c3
      (first | rw [c3b0] | (simp only [i64_w, i32_w]; rw [c3b0]) | skip)
      have H' := Aside0.mk H
      clear H
      go_wp2
      go_meet
      case rel => exact ⟨_, (a0 / 4294967296), (32), (by first | rfl | (simp; done) | (simp [*]; done)), (by first | rfl | (simp; done) | (simp [*]; done)), H', ⟨by first | omega | exact Nat.le_refl _⟩, by repeat (first | exact Drawn0.refl _ | apply Drawn0.step)⟩
    · rw [if_neg c3] at H
      have c3b0 : decide (4294967296 ≤ a0) = false := decide_eq_false c3
      clear c3
      (first | rw [c3b0] | (simp only [i64_w, i32_w]; rw [c3b0]) | skip)
      have H' := Aside0.mk H
      clear H
      go_wp2
      go_meet
      case rel => exact ⟨_, (a0), (0), (by first | rfl | (simp; done) | (simp [*]; done)), (by first | rfl | (simp; done) | (simp [*]; done)), H', ⟨by first | omega | exact Nat.le_refl _⟩, by repeat (first | exact Drawn0.refl _ | apply Drawn0.step)⟩
  case rest =>
    clear HC2
    try clear c1
    try clear p2
    try clear c3
    try clear c3b0
    obtain ⟨kq, x0_1, x2_1, rfl, rfl, HA, HJ1, ⟨mc1, rfl⟩⟩ := hcut
    cases kq with
    | zero => exact absurd HA.out (by simp [bits_Len64.j0])
    | succ kj1 =>
      have H := HA.out
      clear HA
      simp only [bits_Len64.j0] at H
      by_cases c4 : x0_1 ≥ 65536
      · rw [if_pos c4] at H
        have c4b0 : decide (65536 ≤ x0_1) = true := decide_eq_true c4
        clear c4
        by_cases c5 : (x0_1 / 65536) ≥ 256
        · rw [if_pos c5] at H
          have c5b0 : decide (256 ≤ (x0_1 / 65536)) = true := decide_eq_true c5
          clear c5
          obtain ⟨ji6, hji6⟩ : ∃ j_ : Int, (((x0_1 / 65536) / 256) % 256) = j_ := ⟨_, rfl⟩
          replace H : (if 0 ≤ (ji6) then (if (ji6) < 256 then (some (wrap64 ((wrap64 ((wrap64 (x2_1 + 16)) + 8)) + (wrap64 (bt (⟨#[0, 1, 2, 2, 3, 3, 3, 3, 4, 4, 4, 4, 4, 4, 4, 4, 5, 5, 5, 5, 5, 5, 5, 5, 5, 5, 5, 5, 5, 5, 5, 5, 6, 6, 6, 6, 6, 6, 6, 6, 6, 6, 6, 6, 6, 6, 6, 6, 6, 6, 6, 6, 6, 6, 6, 6, 6, 6, 6, 6, 6, 6, 6, 6, 7, 7, 7, 7, 7, 7, 7, 7, 7, 7, 7, 7, 7, 7, 7, 7, 7, 7, 7, 7, 7, 7, 7, 7, 7, 7, 7, 7, 7, 7, 7, 7, 7, 7, 7, 7, 7, 7, 7, 7, 7, 7, 7, 7, 7, 7, 7, 7, 7, 7, 7, 7, 7, 7, 7, 7, 7, 7, 7, 7, 7, 7, 7, 7, 8, 8, 8, 8, 8, 8, 8, 8, 8, 8, 8, 8, 8, 8, 8, 8, 8, 8, 8, 8, 8, 8, 8, 8, 8, 8, 8, 8, 8, 8, 8, 8, 8, 8, 8, 8, 8, 8, 8, 8, 8, 8, 8, 8, 8, 8, 8, 8, 8, 8, 8, 8, 8, 8, 8, 8, 8, 8, 8, 8, 8, 8, 8, 8, 8, 8, 8, 8, 8, 8, 8, 8, 8, 8, 8, 8, 8, 8, 8, 8, 8, 8, 8, 8, 8, 8, 8, 8, 8, 8, 8, 8, 8, 8, 8, 8, 8, 8, 8, 8, 8, 8, 8, 8, 8, 8, 8, 8, 8, 8, 8, 8, 8, 8, 8, 8, 8, 8, 8, 8, 8, 8, 8, 8, 8, 8, 8, 8]⟩ : ByteArray) (ji6)))))) else (none)) else (none)) = some r := by first | (rw [hji6] at H; exact H) | (simp only [hji6] at H ⊢; exact H)
          by_cases c7 : 0 ≤ (ji6)
          · rw [if_pos c7] at H
            have c7b0 : decide (0 ≤ (ji6)) = true := decide_eq_true c7
            clear c7
            by_cases c8 : (ji6) < 256
            · rw [if_pos c8] at H
              have c8b0 : decide ((ji6) < 256) = true := decide_eq_true c8
              clear c8
              obtain rfl := Option.some.inj H
              have p9 : 0 ≤ ((ji6) : Int) := of_decide_eq_true (by first | (with_reducible assumption) | assumption)
              have q9 : (ji6) < (256 : Int) := of_decide_eq_true (by first | (with_reducible assumption) | assumption)
              have hx9 := bt_at (⟨#[0, 1, 2, 2, 3, 3, 3, 3, 4, 4, 4, 4, 4, 4, 4, 4, 5, 5, 5, 5, 5, 5, 5, 5, 5, 5, 5, 5, 5, 5, 5, 5, 6, 6, 6, 6, 6, 6, 6, 6, 6, 6, 6, 6, 6, 6, 6, 6, 6, 6, 6, 6, 6, 6, 6, 6, 6, 6, 6, 6, 6, 6, 6, 6, 7, 7, 7, 7, 7, 7, 7, 7, 7, 7, 7, 7, 7, 7, 7, 7, 7, 7, 7, 7, 7, 7, 7, 7, 7, 7, 7, 7, 7, 7, 7, 7, 7, 7, 7, 7, 7, 7, 7, 7, 7, 7, 7, 7, 7, 7, 7, 7, 7, 7, 7, 7, 7, 7, 7, 7, 7, 7, 7, 7, 7, 7, 7, 7, 8, 8, 8, 8, 8, 8, 8, 8, 8, 8, 8, 8, 8, 8, 8, 8, 8, 8, 8, 8, 8, 8, 8, 8, 8, 8, 8, 8, 8, 8, 8, 8, 8, 8, 8, 8, 8, 8, 8, 8, 8, 8, 8, 8, 8, 8, 8, 8, 8, 8, 8, 8, 8, 8, 8, 8, 8, 8, 8, 8, 8, 8, 8, 8, 8, 8, 8, 8, 8, 8, 8, 8, 8, 8, 8, 8, 8, 8, 8, 8, 8, 8, 8, 8, 8, 8, 8, 8, 8, 8, 8, 8, 8, 8, 8, 8, 8, 8, 8, 8, 8, 8, 8, 8, 8, 8, 8, 8, 8, 8, 8, 8, 8, 8, 8, 8, 8, 8, 8, 8, 8, 8, 8, 8, 8, 8, 8, 8]⟩ : ByteArray) (ji6)
              replace p9 := eq_true p9
              replace q9 := eq_true q9
              go_wp2
              go_ret
              exact ⟨by first | rfl | (simp; done) | (simp only [← hji6] <;> (first | rfl | simp)) | (simp [*]; done), by repeat (first | exact Drawn0.refl _ | apply Drawn0.step)⟩
            · rw [if_neg c8] at H
              exact absurd H (by simp)
          · rw [if_neg c7] at H
            exact absurd H (by simp)
        · rw [if_neg c5] at H
          have c5b0 : decide (256 ≤ (x0_1 / 65536)) = false := decide_eq_false c5
          clear c5
          obtain ⟨ji10, hji10⟩ : ∃ j_ : Int, ((x0_1 / 65536) % 256) = j_ := ⟨_, rfl⟩
          replace H : (if 0 ≤ (ji10) then (if (ji10) < 256 then (some (wrap64 ((wrap64 (x2_1 + 16)) + (wrap64 (bt (⟨#[0, 1, 2, 2, 3, 3, 3, 3, 4, 4, 4, 4, 4, 4, 4, 4, 5, 5, 5, 5, 5, 5, 5, 5, 5, 5, 5, 5, 5, 5, 5, 5, 6, 6, 6, 6, 6, 6, 6, 6, 6, 6, 6, 6, 6, 6, 6, 6, 6, 6, 6, 6, 6, 6, 6, 6, 6, 6, 6, 6, 6, 6, 6, 6, 7, 7, 7, 7, 7, 7, 7, 7, 7, 7, 7, 7, 7, 7, 7, 7, 7, 7, 7, 7, 7, 7, 7, 7, 7, 7, 7, 7, 7, 7, 7, 7, 7, 7, 7, 7, 7, 7, 7, 7, 7, 7, 7, 7, 7, 7, 7, 7, 7, 7, 7, 7, 7, 7, 7, 7, 7, 7, 7, 7, 7, 7, 7, 7, 8, 8, 8, 8, 8, 8, 8, 8, 8, 8, 8, 8, 8, 8, 8, 8, 8, 8, 8, 8, 8, 8, 8, 8, 8, 8, 8, 8, 8, 8, 8, 8, 8, 8, 8, 8, 8, 8, 8, 8, 8, 8, 8, 8, 8, 8, 8, 8, 8, 8, 8, 8, 8, 8, 8, 8, 8, 8, 8, 8, 8, 8, 8, 8, 8, 8, 8, 8, 8, 8, 8, 8, 8, 8, 8, 8, 8, 8, 8, 8, 8, 8, 8, 8, 8, 8, 8, 8, 8, 8, 8, 8, 8, 8, 8, 8, 8, 8, 8, 8, 8, 8, 8, 8, 8, 8, 8, 8, 8, 8, 8, 8, 8, 8, 8, 8, 8, 8, 8, 8, 8, 8, 8, 8, 8, 8, 8, 8]⟩ : ByteArray) (ji10)))))) else (none)) else (none)) = some r := by first | (rw [hji10] at H; exact H) | (simp only [hji10] at H ⊢; exact H)
          by_cases c11 : 0 ≤ (ji10)
          · rw [if_pos c11] at H
            have c11b0 : decide (0 ≤ (ji10)) = true := decide_eq_true c11
            clear c11
            by_cases c12 : (ji10) < 256
            · rw [if_pos c12] at H
              have c12b0 : decide ((ji10) < 256) = true := decide_eq_true c12
              clear c12
              obtain rfl := Option.some.inj H
              have p13 : 0 ≤ ((ji10) : Int) := of_decide_eq_true (by first | (with_reducible assumption) | assumption)
              have q13 : (ji10) < (256 : Int) := of_decide_eq_true (by first | (with_reducible assumption) | assumption)
              have hx13 := bt_at (⟨#[0, 1, 2, 2, 3, 3, 3, 3, 4, 4, 4, 4, 4, 4, 4, 4, 5, 5, 5, 5, 5, 5, 5, 5, 5, 5, 5, 5, 5, 5, 5, 5, 6, 6, 6, 6, 6, 6, 6, 6, 6, 6, 6, 6, 6, 6, 6, 6, 6, 6, 6, 6, 6, 6, 6, 6, 6, 6, 6, 6, 6, 6, 6, 6, 7, 7, 7, 7, 7, 7, 7, 7, 7, 7, 7, 7, 7, 7, 7, 7, 7, 7, 7, 7, 7, 7, 7, 7, 7, 7, 7, 7, 7, 7, 7, 7, 7, 7, 7, 7, 7, 7, 7, 7, 7, 7, 7, 7, 7, 7, 7, 7, 7, 7, 7, 7, 7, 7, 7, 7, 7, 7, 7, 7, 7, 7, 7, 7, 8, 8, 8, 8, 8, 8, 8, 8, 8, 8, 8, 8, 8, 8, 8, 8, 8, 8, 8, 8, 8, 8, 8, 8, 8, 8, 8, 8, 8, 8, 8, 8, 8, 8, 8, 8, 8, 8, 8, 8, 8, 8, 8, 8, 8, 8, 8, 8, 8, 8, 8, 8, 8, 8, 8, 8, 8, 8, 8, 8, 8, 8, 8, 8, 8, 8, 8, 8, 8, 8, 8, 8, 8, 8, 8, 8, 8, 8, 8, 8, 8, 8, 8, 8, 8, 8, 8, 8, 8, 8, 8, 8, 8, 8, 8, 8, 8, 8, 8, 8, 8, 8, 8, 8, 8, 8, 8, 8, 8, 8, 8, 8, 8, 8, 8, 8, 8, 8, 8, 8, 8, 8, 8, 8, 8, 8, 8, 8]⟩ : ByteArray) (ji10)
              replace p13 := eq_true p13
              replace q13 := eq_true q13
              go_wp2
              go_ret
              exact ⟨by first | rfl | (simp; done) | (simp only [← hji10] <;> (first | rfl | simp)) | (simp [*]; done), by repeat (first | exact Drawn0.refl _ | apply Drawn0.step)⟩
            · rw [if_neg c12] at H
              exact absurd H (by simp)
          · rw [if_neg c11] at H
            exact absurd H (by simp)
      · rw [if_neg c4] at H
        have c4b0 : decide (65536 ≤ x0_1) = false := decide_eq_false c4
        clear c4
        by_cases c14 : x0_1 ≥ 256
        · rw [if_pos c14] at H
          have c14b0 : decide (256 ≤ x0_1) = true := decide_eq_true c14
          clear c14
          obtain ⟨ji15, hji15⟩ : ∃ j_ : Int, ((x0_1 / 256) % 256) = j_ := ⟨_, rfl⟩
          replace H : (if 0 ≤ (ji15) then (if (ji15) < 256 then (some (wrap64 ((wrap64 (x2_1 + 8)) + (wrap64 (bt (⟨#[0, 1, 2, 2, 3, 3, 3, 3, 4, 4, 4, 4, 4, 4, 4, 4, 5, 5, 5, 5, 5, 5, 5, 5, 5, 5, 5, 5, 5, 5, 5, 5, 6, 6, 6, 6, 6, 6, 6, 6, 6, 6, 6, 6, 6, 6, 6, 6, 6, 6, 6, 6, 6, 6, 6, 6, 6, 6, 6, 6, 6, 6, 6, 6, 7, 7, 7, 7, 7, 7, 7, 7, 7, 7, 7, 7, 7, 7, 7, 7, 7, 7, 7, 7, 7, 7, 7, 7, 7, 7, 7, 7, 7, 7, 7, 7, 7, 7, 7, 7, 7, 7, 7, 7, 7, 7, 7, 7, 7, 7, 7, 7, 7, 7, 7, 7, 7, 7, 7, 7, 7, 7, 7, 7, 7, 7, 7, 7, 8, 8, 8, 8, 8, 8, 8, 8, 8, 8, 8, 8, 8, 8, 8, 8, 8, 8, 8, 8, 8, 8, 8, 8, 8, 8, 8, 8, 8, 8, 8, 8, 8, 8, 8, 8, 8, 8, 8, 8, 8, 8, 8, 8, 8, 8, 8, 8, 8, 8, 8, 8, 8, 8, 8, 8, 8, 8, 8, 8, 8, 8, 8, 8, 8, 8, 8, 8, 8, 8, 8, 8, 8, 8, 8, 8, 8, 8, 8, 8, 8, 8, 8, 8, 8, 8, 8, 8, 8, 8, 8, 8, 8, 8, 8, 8, 8, 8, 8, 8, 8, 8, 8, 8, 8, 8, 8, 8, 8, 8, 8, 8, 8, 8, 8, 8, 8, 8, 8, 8, 8, 8, 8, 8, 8, 8, 8, 8]⟩ : ByteArray) (ji15)))))) else (none)) else (none)) = some r := by first | (rw [hji15] at H; exact H) | (simp only [hji15] at H ⊢; exact H)
          by_cases c16 : 0 ≤ (ji15)
          · rw [if_pos c16] at H
            have c16b0 : decide (0 ≤ (ji15)) = true := decide_eq_true c16
            clear c16
            by_cases c17 : (ji15) < 256
            · rw [if_pos c17] at H
              have c17b0 : decide ((ji15) < 256) = true := decide_eq_true c17
              clear c17
              obtain rfl := Option.some.inj H
              have p18 : 0 ≤ ((ji15) : Int) := of_decide_eq_true (by first | (with_reducible assumption) | assumption)
              have q18 : (ji15) < (256 : Int) := of_decide_eq_true (by first | (with_reducible assumption) | assumption)
              have hx18 := bt_at (⟨#[0, 1, 2, 2, 3, 3, 3, 3, 4, 4, 4, 4, 4, 4, 4, 4, 5, 5, 5, 5, 5, 5, 5, 5, 5, 5, 5, 5, 5, 5, 5, 5, 6, 6, 6, 6, 6, 6, 6, 6, 6, 6, 6, 6, 6, 6, 6, 6, 6, 6, 6, 6, 6, 6, 6, 6, 6, 6, 6, 6, 6, 6, 6, 6, 7, 7, 7, 7, 7, 7, 7, 7, 7, 7, 7, 7, 7, 7, 7, 7, 7, 7, 7, 7, 7, 7, 7, 7, 7, 7, 7, 7, 7, 7, 7, 7, 7, 7, 7, 7, 7, 7, 7, 7, 7, 7, 7, 7, 7, 7, 7, 7, 7, 7, 7, 7, 7, 7, 7, 7, 7, 7, 7, 7, 7, 7, 7, 7, 8, 8, 8, 8, 8, 8, 8, 8, 8, 8, 8, 8, 8, 8, 8, 8, 8, 8, 8, 8, 8, 8, 8, 8, 8, 8, 8, 8, 8, 8, 8, 8, 8, 8, 8, 8, 8, 8, 8, 8, 8, 8, 8, 8, 8, 8, 8, 8, 8, 8, 8, 8, 8, 8, 8, 8, 8, 8, 8, 8, 8, 8, 8, 8, 8, 8, 8, 8, 8, 8, 8, 8, 8, 8, 8, 8, 8, 8, 8, 8, 8, 8, 8, 8, 8, 8, 8, 8, 8, 8, 8, 8, 8, 8, 8, 8, 8, 8, 8, 8, 8, 8, 8, 8, 8, 8, 8, 8, 8, 8, 8, 8, 8, 8, 8, 8, 8, 8, 8, 8, 8, 8, 8, 8, 8, 8, 8, 8]⟩ : ByteArray) (ji15)
              replace p18 := eq_true p18
              replace q18 := eq_true q18
              go_wp2
              go_ret
              exact ⟨by first | rfl | (simp; done) | (simp only [← hji15] <;> (first | rfl | simp)) | (simp [*]; done), by repeat (first | exact Drawn0.refl _ | apply Drawn0.step)⟩
            · rw [if_neg c17] at H
              exact absurd H (by simp)
          · rw [if_neg c16] at H
            exact absurd H (by simp)
        · rw [if_neg c14] at H
          have c14b0 : decide (256 ≤ x0_1) = false := decide_eq_false c14
          clear c14
          obtain ⟨ji19, hji19⟩ : ∃ j_ : Int, ((x0_1) % 256) = j_ := ⟨_, rfl⟩
          replace H : (if 0 ≤ (ji19) then (if (ji19) < 256 then (some (wrap64 (x2_1 + (wrap64 (bt (⟨#[0, 1, 2, 2, 3, 3, 3, 3, 4, 4, 4, 4, 4, 4, 4, 4, 5, 5, 5, 5, 5, 5, 5, 5, 5, 5, 5, 5, 5, 5, 5, 5, 6, 6, 6, 6, 6, 6, 6, 6, 6, 6, 6, 6, 6, 6, 6, 6, 6, 6, 6, 6, 6, 6, 6, 6, 6, 6, 6, 6, 6, 6, 6, 6, 7, 7, 7, 7, 7, 7, 7, 7, 7, 7, 7, 7, 7, 7, 7, 7, 7, 7, 7, 7, 7, 7, 7, 7, 7, 7, 7, 7, 7, 7, 7, 7, 7, 7, 7, 7, 7, 7, 7, 7, 7, 7, 7, 7, 7, 7, 7, 7, 7, 7, 7, 7, 7, 7, 7, 7, 7, 7, 7, 7, 7, 7, 7, 7, 8, 8, 8, 8, 8, 8, 8, 8, 8, 8, 8, 8, 8, 8, 8, 8, 8, 8, 8, 8, 8, 8, 8, 8, 8, 8, 8, 8, 8, 8, 8, 8, 8, 8, 8, 8, 8, 8, 8, 8, 8, 8, 8, 8, 8, 8, 8, 8, 8, 8, 8, 8, 8, 8, 8, 8, 8, 8, 8, 8, 8, 8, 8, 8, 8, 8, 8, 8, 8, 8, 8, 8, 8, 8, 8, 8, 8, 8, 8, 8, 8, 8, 8, 8, 8, 8, 8, 8, 8, 8, 8, 8, 8, 8, 8, 8, 8, 8, 8, 8, 8, 8, 8, 8, 8, 8, 8, 8, 8, 8, 8, 8, 8, 8, 8, 8, 8, 8, 8, 8, 8, 8, 8, 8, 8, 8, 8, 8]⟩ : ByteArray) (ji19)))))) else (none)) else (none)) = some r := by first | (rw [hji19] at H; exact H) | (simp only [hji19] at H ⊢; exact H)
          by_cases c20 : 0 ≤ (ji19)
          · rw [if_pos c20] at H
            have c20b0 : decide (0 ≤ (ji19)) = true := decide_eq_true c20
            clear c20
            by_cases c21 : (ji19) < 256
            · rw [if_pos c21] at H
              have c21b0 : decide ((ji19) < 256) = true := decide_eq_true c21
              clear c21
              obtain rfl := Option.some.inj H
              have p22 : 0 ≤ ((ji19) : Int) := of_decide_eq_true (by first | (with_reducible assumption) | assumption)
              have q22 : (ji19) < (256 : Int) := of_decide_eq_true (by first | (with_reducible assumption) | assumption)
              have hx22 := bt_at (⟨#[0, 1, 2, 2, 3, 3, 3, 3, 4, 4, 4, 4, 4, 4, 4, 4, 5, 5, 5, 5, 5, 5, 5, 5, 5, 5, 5, 5, 5, 5, 5, 5, 6, 6, 6, 6, 6, 6, 6, 6, 6, 6, 6, 6, 6, 6, 6, 6, 6, 6, 6, 6, 6, 6, 6, 6, 6, 6, 6, 6, 6, 6, 6, 6, 7, 7, 7, 7, 7, 7, 7, 7, 7, 7, 7, 7, 7, 7, 7, 7, 7, 7, 7, 7, 7, 7, 7, 7, 7, 7, 7, 7, 7, 7, 7, 7, 7, 7, 7, 7, 7, 7, 7, 7, 7, 7, 7, 7, 7, 7, 7, 7, 7, 7, 7, 7, 7, 7, 7, 7, 7, 7, 7, 7, 7, 7, 7, 7, 8, 8, 8, 8, 8, 8, 8, 8, 8, 8, 8, 8, 8, 8, 8, 8, 8, 8, 8, 8, 8, 8, 8, 8, 8, 8, 8, 8, 8, 8, 8, 8, 8, 8, 8, 8, 8, 8, 8, 8, 8, 8, 8, 8, 8, 8, 8, 8, 8, 8, 8, 8, 8, 8, 8, 8, 8, 8, 8, 8, 8, 8, 8, 8, 8, 8, 8, 8, 8, 8, 8, 8, 8, 8, 8, 8, 8, 8, 8, 8, 8, 8, 8, 8, 8, 8, 8, 8, 8, 8, 8, 8, 8, 8, 8, 8, 8, 8, 8, 8, 8, 8, 8, 8, 8, 8, 8, 8, 8, 8, 8, 8, 8, 8, 8, 8, 8, 8, 8, 8, 8, 8, 8, 8, 8, 8, 8, 8]⟩ : ByteArray) (ji19)
              replace p22 := eq_true p22
              replace q22 := eq_true q22
              go_wp2
              go_ret
              exact ⟨by first | rfl | (simp; done) | (simp only [← hji19] <;> (first | rfl | simp)) | (simp [*]; done), by repeat (first | exact Drawn0.refl _ | apply Drawn0.step)⟩
            · rw [if_neg c21] at H
              exact absurd H (by simp)
          · rw [if_neg c20] at H
            exact absurd H (by simp)
def bits_LeadingZeros64.f (k : Nat) (a0 : Int) : Option (Int) := (bits_Len64.f k a0).bind fun t877 => (some (wrap64 (64 - t877)))
set_option maxHeartbeats 8000000 in
set_option maxRecDepth 100000 in
theorem bits_LeadingZeros64.calls (k : Nat) (a0 : Int) (r : Int) (w : World) (h : bits_LeadingZeros64.f k a0 = some r) :
    Calls Try.prog 105 #[.int .u64 a0] w fun e w' => e = .returned (.int .i64 r) ∧ Drawn0 w w' := by
  have H : ((bits_Len64.f k a0).bind fun t877 => (some (wrap64 (64 - t877)))) = some r := h
  clear h
  replace H := Option.bind_eq_some_iff.mp H
  obtain ⟨t877, A20, H⟩ := H
  replace H : (some (wrap64 (64 - t877))) = some r := H
  have A2 := Aside0.mk A20
  clear A20
  obtain rfl := Option.some.inj H
  go_enter Try.func105, Try.ntmps105
  go_wp2_with (first | ((with_reducible refine gate_callee (f := 117) rfl ?_); refine goesL_ (some 4) rfl rfl Try.func117 (by kernel_rfl) rfl #[.int .u64 a0] rfl (by (try simp only [List.map_toArray, List.map_cons, List.map_nil]); first | done | rfl | (simp only [List.length_drop, List.length_take]; rfl)) ?_; (with_reducible refine (bits_Len64.calls k a0 t877 _ A2.out).mono ?_); rintro e w' ⟨rfl, ⟨nd, rfl⟩⟩; refine ⟨_, rfl, ?_⟩))
  go_ret
  exact ⟨by first | rfl | (simp; done) | (simp [*]; done), by repeat (first | exact Drawn0.refl _ | apply Drawn0.step)⟩
end Go.Proofs.Ytpkjpiphjdpegaa.P
namespace Go.Proofs.Ytpkjpiphjdpegaa.P
open Go.RowKit Go.Proofs.YtpkjpiphjdpegaaW.PrintWords Go.Proofs.YtpkjpiphjdpegaaW.PrintLast Go.Proofs.YtpkjpiphjdpegaaW.PrintMore
attribute [local go_sem] max2_int min2_int max_two min_two max_three min_three max_four min_four
set_option linter.unusedVariables false
set_option linter.unusedSimpArgs false
mutual
def bits_Div64.j2 : Nat → Int → Int → Int → Int → Int → Int → Int → Int → Option (Int × Int)
  | 0, _, _, _, _, _, _, _, _ => none
  | k + 1, x2, x8, x9, x10, x11, x13, x14, x15 => if x9 = 0 then (none) else (bits_Div64.l1 k x2 x8 x9 x10 x14 x15 (IntKind.u64.wrap ((IntKind.u64.wrap ((IntKind.u64.wrap ((IntKind.u64.wrap (x11 * 4294967296)) + x13)) - (IntKind.u64.wrap (x15 * x2)))) - (IntKind.u64.wrap ((IntKind.u64.wrap (Int.tdiv (IntKind.u64.wrap ((IntKind.u64.wrap ((IntKind.u64.wrap (x11 * 4294967296)) + x13)) - (IntKind.u64.wrap (x15 * x2)))) x9)) * x9)))) (IntKind.u64.wrap ((IntKind.u64.wrap ((IntKind.u64.wrap (x11 * 4294967296)) + x13)) - (IntKind.u64.wrap (x15 * x2)))) (IntKind.u64.wrap (Int.tdiv (IntKind.u64.wrap ((IntKind.u64.wrap ((IntKind.u64.wrap (x11 * 4294967296)) + x13)) - (IntKind.u64.wrap (x15 * x2)))) x9)))
def bits_Div64.l1 : Nat → Int → Int → Int → Int → Int → Int → Int → Int → Int → Option (Int × Int)
  | 0, _, _, _, _, _, _, _, _, _ => none
  | k + 1, x2, x8, x9, x10, x14, x15, x16, x17, x18 => if x18 ≥ 4294967296 then (bits_Div64.j4 k x2 x8 x9 x10 x14 x15 x16 x17 x18 true) else (bits_Div64.j4 k x2 x8 x9 x10 x14 x15 x16 x17 x18 (decide ((IntKind.u64.wrap (x18 * x10)) > (IntKind.u64.wrap ((IntKind.u64.wrap (4294967296 * x16)) + x14)))))
def bits_Div64.j4 : Nat → Int → Int → Int → Int → Int → Int → Int → Int → Int → Bool → Option (Int × Int)
  | 0, _, _, _, _, _, _, _, _, _, _ => none
  | k + 1, x2, x8, x9, x10, x14, x15, x16, x17, x18, x113 => if x113 = true then (if (IntKind.u64.wrap (x16 + x9)) ≥ 4294967296 then (if 0 ≤ x8 then (some (IntKind.u64.wrap ((IntKind.u64.wrap (x15 * 4294967296)) + (IntKind.u64.wrap (x18 - 1))), shr .u64 (IntKind.u64.wrap ((IntKind.u64.wrap ((IntKind.u64.wrap (x17 * 4294967296)) + x14)) - (IntKind.u64.wrap ((IntKind.u64.wrap (x18 - 1)) * x2)))) x8)) else (none)) else (bits_Div64.l1 k x2 x8 x9 x10 x14 x15 (IntKind.u64.wrap (x16 + x9)) x17 (IntKind.u64.wrap (x18 - 1)))) else (if 0 ≤ x8 then (some (IntKind.u64.wrap ((IntKind.u64.wrap (x15 * 4294967296)) + x18), shr .u64 (IntKind.u64.wrap ((IntKind.u64.wrap ((IntKind.u64.wrap (x17 * 4294967296)) + x14)) - (IntKind.u64.wrap (x18 * x2)))) x8)) else (none))
def bits_Div64.l0 : Nat → Int → Int → Int → Int → Int → Int → Int → Int → Int → Option (Int × Int)
  | 0, _, _, _, _, _, _, _, _, _ => none
  | k + 1, x2, x8, x9, x10, x11, x13, x14, x15, x16 => if x15 ≥ 4294967296 then (bits_Div64.j1 k x2 x8 x9 x10 x11 x13 x14 x15 x16 true) else (bits_Div64.j1 k x2 x8 x9 x10 x11 x13 x14 x15 x16 (decide ((IntKind.u64.wrap (x15 * x10)) > (IntKind.u64.wrap ((IntKind.u64.wrap (4294967296 * x16)) + x13)))))
def bits_Div64.j1 : Nat → Int → Int → Int → Int → Int → Int → Int → Int → Int → Bool → Option (Int × Int)
  | 0, _, _, _, _, _, _, _, _, _, _ => none
  | k + 1, x2, x8, x9, x10, x11, x13, x14, x15, x16, x78 => if x78 = true then (if (IntKind.u64.wrap (x16 + x9)) ≥ 4294967296 then (bits_Div64.j2 k x2 x8 x9 x10 x11 x13 x14 (IntKind.u64.wrap (x15 - 1))) else (bits_Div64.l0 k x2 x8 x9 x10 x11 x13 x14 (IntKind.u64.wrap (x15 - 1)) (IntKind.u64.wrap (x16 + x9)))) else (bits_Div64.j2 k x2 x8 x9 x10 x11 x13 x14 x15)
end
def bits_Div64.f (k : Nat) (a0 : Int) (a1 : Int) (a2 : Int) : Option (Int × Int) := if a2 = 0 then (none) else (if a2 ≤ a0 then (none) else (if a0 = 0 then (some (IntKind.u64.wrap (Int.tdiv a1 a2), Int.tmod a1 a2)) else ((bits_LeadingZeros64.f k a2).bind fun t878 => (if 0 ≤ (IntKind.u64.wrap (t878)) then (if 0 ≤ (IntKind.u64.wrap (64 - (IntKind.u64.wrap (t878)))) then (if ((shl .u64 a2 (IntKind.u64.wrap (t878))) / 4294967296) = 0 then (none) else (bits_Div64.l0 k (shl .u64 a2 (IntKind.u64.wrap (t878))) (IntKind.u64.wrap (t878)) ((shl .u64 a2 (IntKind.u64.wrap (t878))) / 4294967296) (Go.bits .and .u64 (shl .u64 a2 (IntKind.u64.wrap (t878))) 4294967295) (Go.bits .or .u64 (shl .u64 a0 (IntKind.u64.wrap (t878))) (shr .u64 a1 (IntKind.u64.wrap (64 - (IntKind.u64.wrap (t878)))))) ((shl .u64 a1 (IntKind.u64.wrap (t878))) / 4294967296) (Go.bits .and .u64 (shl .u64 a1 (IntKind.u64.wrap (t878))) 4294967295) (IntKind.u64.wrap (Int.tdiv (Go.bits .or .u64 (shl .u64 a0 (IntKind.u64.wrap (t878))) (shr .u64 a1 (IntKind.u64.wrap (64 - (IntKind.u64.wrap (t878)))))) ((shl .u64 a2 (IntKind.u64.wrap (t878))) / 4294967296))) (IntKind.u64.wrap ((Go.bits .or .u64 (shl .u64 a0 (IntKind.u64.wrap (t878))) (shr .u64 a1 (IntKind.u64.wrap (64 - (IntKind.u64.wrap (t878)))))) - (IntKind.u64.wrap ((IntKind.u64.wrap (Int.tdiv (Go.bits .or .u64 (shl .u64 a0 (IntKind.u64.wrap (t878))) (shr .u64 a1 (IntKind.u64.wrap (64 - (IntKind.u64.wrap (t878)))))) ((shl .u64 a2 (IntKind.u64.wrap (t878))) / 4294967296))) * ((shl .u64 a2 (IntKind.u64.wrap (t878))) / 4294967296))))))) else (none)) else (none)))))
set_option maxHeartbeats 8000000 in
set_option maxRecDepth 100000 in
theorem bits_Div64.calls (k : Nat) (a0 : Int) (a1 : Int) (a2 : Int) (r1 : Int) (r2 : Int) (w : World) (h : bits_Div64.f k a0 a1 a2 = some (r1, r2)) :
    Calls Try.prog 90 #[.int .u64 a0, .int .u64 a1, .int .u64 a2] w fun e w' => e = .returned (.tuple #[.int .u64 r1, .int .u64 r2]) ∧ Drawn0 w w' := by
  have H : (if a2 = 0 then (none) else (if a2 ≤ a0 then (none) else (if a0 = 0 then (some (IntKind.u64.wrap (Int.tdiv a1 a2), Int.tmod a1 a2)) else ((bits_LeadingZeros64.f k a2).bind fun t878 => (if 0 ≤ (IntKind.u64.wrap (t878)) then (if 0 ≤ (IntKind.u64.wrap (64 - (IntKind.u64.wrap (t878)))) then (if ((shl .u64 a2 (IntKind.u64.wrap (t878))) / 4294967296) = 0 then (none) else (bits_Div64.l0 k (shl .u64 a2 (IntKind.u64.wrap (t878))) (IntKind.u64.wrap (t878)) ((shl .u64 a2 (IntKind.u64.wrap (t878))) / 4294967296) (Go.bits .and .u64 (shl .u64 a2 (IntKind.u64.wrap (t878))) 4294967295) (Go.bits .or .u64 (shl .u64 a0 (IntKind.u64.wrap (t878))) (shr .u64 a1 (IntKind.u64.wrap (64 - (IntKind.u64.wrap (t878)))))) ((shl .u64 a1 (IntKind.u64.wrap (t878))) / 4294967296) (Go.bits .and .u64 (shl .u64 a1 (IntKind.u64.wrap (t878))) 4294967295) (IntKind.u64.wrap (Int.tdiv (Go.bits .or .u64 (shl .u64 a0 (IntKind.u64.wrap (t878))) (shr .u64 a1 (IntKind.u64.wrap (64 - (IntKind.u64.wrap (t878)))))) ((shl .u64 a2 (IntKind.u64.wrap (t878))) / 4294967296))) (IntKind.u64.wrap ((Go.bits .or .u64 (shl .u64 a0 (IntKind.u64.wrap (t878))) (shr .u64 a1 (IntKind.u64.wrap (64 - (IntKind.u64.wrap (t878)))))) - (IntKind.u64.wrap ((IntKind.u64.wrap (Int.tdiv (Go.bits .or .u64 (shl .u64 a0 (IntKind.u64.wrap (t878))) (shr .u64 a1 (IntKind.u64.wrap (64 - (IntKind.u64.wrap (t878)))))) ((shl .u64 a2 (IntKind.u64.wrap (t878))) / 4294967296))) * ((shl .u64 a2 (IntKind.u64.wrap (t878))) / 4294967296))))))) else (none)) else (none)))))) = some (r1, r2) := h
  clear h
  by_cases c4 : a2 = 0
  · rw [if_pos c4] at H
    exact absurd H (by simp)
  · rw [if_neg c4] at H
    have c4b0 : (a2 == 0) = false := beq_eq_false_iff_ne.mpr c4
    have c4b1 : (a2 != 0) = true := bne_iff_ne.mpr c4
    by_cases c5 : a2 ≤ a0
    · rw [if_pos c5] at H
      exact absurd H (by simp)
    · rw [if_neg c5] at H
      have c5b0 : decide (a2 ≤ a0) = false := decide_eq_false c5
      clear c5
      by_cases c6 : a0 = 0
      · rw [if_pos c6] at H
        have c6b0 : (a0 == 0) = true := beq_iff_eq.mpr c6
        have c6b1 : (a0 != 0) = false := bne_eq_false_iff_eq.mpr c6
        clear c6
        simp only [Option.some.injEq, Prod.mk.injEq] at H
        obtain ⟨rfl, rfl⟩ := H
        go_enter Try.func90, Try.ntmps90
        go_wp2
        repeat (go_quiet (fail); try go_wp2)
        go_ret2
        exact ⟨by first | rfl | (simp; done) | (simp [*]; done), by repeat (first | exact Drawn0.refl _ | apply Drawn0.step)⟩
      · rw [if_neg c6] at H
        have c6b0 : (a0 == 0) = false := beq_eq_false_iff_ne.mpr c6
        have c6b1 : (a0 != 0) = true := bne_iff_ne.mpr c6
        replace H := Option.bind_eq_some_iff.mp H
        obtain ⟨t878, A70, H⟩ := H
        replace H : (if 0 ≤ (IntKind.u64.wrap (t878)) then (if 0 ≤ (IntKind.u64.wrap (64 - (IntKind.u64.wrap (t878)))) then (if ((shl .u64 a2 (IntKind.u64.wrap (t878))) / 4294967296) = 0 then (none) else (bits_Div64.l0 k (shl .u64 a2 (IntKind.u64.wrap (t878))) (IntKind.u64.wrap (t878)) ((shl .u64 a2 (IntKind.u64.wrap (t878))) / 4294967296) (Go.bits .and .u64 (shl .u64 a2 (IntKind.u64.wrap (t878))) 4294967295) (Go.bits .or .u64 (shl .u64 a0 (IntKind.u64.wrap (t878))) (shr .u64 a1 (IntKind.u64.wrap (64 - (IntKind.u64.wrap (t878)))))) ((shl .u64 a1 (IntKind.u64.wrap (t878))) / 4294967296) (Go.bits .and .u64 (shl .u64 a1 (IntKind.u64.wrap (t878))) 4294967295) (IntKind.u64.wrap (Int.tdiv (Go.bits .or .u64 (shl .u64 a0 (IntKind.u64.wrap (t878))) (shr .u64 a1 (IntKind.u64.wrap (64 - (IntKind.u64.wrap (t878)))))) ((shl .u64 a2 (IntKind.u64.wrap (t878))) / 4294967296))) (IntKind.u64.wrap ((Go.bits .or .u64 (shl .u64 a0 (IntKind.u64.wrap (t878))) (shr .u64 a1 (IntKind.u64.wrap (64 - (IntKind.u64.wrap (t878)))))) - (IntKind.u64.wrap ((IntKind.u64.wrap (Int.tdiv (Go.bits .or .u64 (shl .u64 a0 (IntKind.u64.wrap (t878))) (shr .u64 a1 (IntKind.u64.wrap (64 - (IntKind.u64.wrap (t878)))))) ((shl .u64 a2 (IntKind.u64.wrap (t878))) / 4294967296))) * ((shl .u64 a2 (IntKind.u64.wrap (t878))) / 4294967296))))))) else (none)) else (none)) = some (r1, r2) := H
        have A7 := Aside0.mk A70
        clear A70
        obtain ⟨ji8, hji8⟩ : ∃ j_ : Int, (IntKind.u64.wrap (t878)) = j_ := ⟨_, rfl⟩
        replace H : (if 0 ≤ (ji8) then (if 0 ≤ (IntKind.u64.wrap (64 - (ji8))) then (if ((shl .u64 a2 (ji8)) / 4294967296) = 0 then (none) else (bits_Div64.l0 k (shl .u64 a2 (ji8)) ji8 ((shl .u64 a2 (ji8)) / 4294967296) (Go.bits .and .u64 (shl .u64 a2 (ji8)) 4294967295) (Go.bits .or .u64 (shl .u64 a0 (ji8)) (shr .u64 a1 (IntKind.u64.wrap (64 - (ji8))))) ((shl .u64 a1 (ji8)) / 4294967296) (Go.bits .and .u64 (shl .u64 a1 (ji8)) 4294967295) (IntKind.u64.wrap (Int.tdiv (Go.bits .or .u64 (shl .u64 a0 (ji8)) (shr .u64 a1 (IntKind.u64.wrap (64 - (ji8))))) ((shl .u64 a2 (ji8)) / 4294967296))) (IntKind.u64.wrap ((Go.bits .or .u64 (shl .u64 a0 (ji8)) (shr .u64 a1 (IntKind.u64.wrap (64 - (ji8))))) - (IntKind.u64.wrap ((IntKind.u64.wrap (Int.tdiv (Go.bits .or .u64 (shl .u64 a0 (ji8)) (shr .u64 a1 (IntKind.u64.wrap (64 - (ji8))))) ((shl .u64 a2 (ji8)) / 4294967296))) * ((shl .u64 a2 (ji8)) / 4294967296))))))) else (none)) else (none)) = some (r1, r2) := by first | (rw [hji8] at H; exact H) | (simp only [hji8] at H ⊢; exact H)
        (try rw [hji8] at A7)
        by_cases c9 : 0 ≤ (ji8)
        · rw [if_pos c9] at H
          have c9b0 := eq_true c9
          have c9b1 : decide (0 ≤ (ji8)) = true := decide_eq_true c9
          clear c9
          obtain ⟨ji10, hji10⟩ : ∃ j_ : Int, (shl .u64 a2 (ji8)) = j_ := ⟨_, rfl⟩
          replace H : (if 0 ≤ (IntKind.u64.wrap (64 - (ji8))) then (if ((ji10) / 4294967296) = 0 then (none) else (bits_Div64.l0 k ji10 ji8 ((ji10) / 4294967296) (Go.bits .and .u64 (ji10) 4294967295) (Go.bits .or .u64 (shl .u64 a0 (ji8)) (shr .u64 a1 (IntKind.u64.wrap (64 - (ji8))))) ((shl .u64 a1 (ji8)) / 4294967296) (Go.bits .and .u64 (shl .u64 a1 (ji8)) 4294967295) (IntKind.u64.wrap (Int.tdiv (Go.bits .or .u64 (shl .u64 a0 (ji8)) (shr .u64 a1 (IntKind.u64.wrap (64 - (ji8))))) ((ji10) / 4294967296))) (IntKind.u64.wrap ((Go.bits .or .u64 (shl .u64 a0 (ji8)) (shr .u64 a1 (IntKind.u64.wrap (64 - (ji8))))) - (IntKind.u64.wrap ((IntKind.u64.wrap (Int.tdiv (Go.bits .or .u64 (shl .u64 a0 (ji8)) (shr .u64 a1 (IntKind.u64.wrap (64 - (ji8))))) ((ji10) / 4294967296))) * ((ji10) / 4294967296))))))) else (none)) = some (r1, r2) := by first | (rw [hji10] at H; exact H) | (simp only [hji10] at H ⊢; exact H)
          (try rw [hji10] at A7)
          have hji10_ : (IntKind.u64.wrap (a2 * 2 ^ min (ji8).toNat 64)) = ji10 := hji10
          have hji10z : (ji8) ≤ 64 → (IntKind.u64.wrap (a2 * 2 ^ (ji8).toNat)) = ji10 := shl_small hji10
          have c11b0 := eq_true (of_decide_eq_true (by first | (with_reducible assumption) | assumption) : 0 ≤ (ji8))
          obtain ⟨ji12, hji12⟩ : ∃ j_ : Int, (shl .u64 a0 (ji8)) = j_ := ⟨_, rfl⟩
          replace H : (if 0 ≤ (IntKind.u64.wrap (64 - (ji8))) then (if ((ji10) / 4294967296) = 0 then (none) else (bits_Div64.l0 k ji10 ji8 ((ji10) / 4294967296) (Go.bits .and .u64 (ji10) 4294967295) (Go.bits .or .u64 (ji12) (shr .u64 a1 (IntKind.u64.wrap (64 - (ji8))))) ((shl .u64 a1 (ji8)) / 4294967296) (Go.bits .and .u64 (shl .u64 a1 (ji8)) 4294967295) (IntKind.u64.wrap (Int.tdiv (Go.bits .or .u64 (ji12) (shr .u64 a1 (IntKind.u64.wrap (64 - (ji8))))) ((ji10) / 4294967296))) (IntKind.u64.wrap ((Go.bits .or .u64 (ji12) (shr .u64 a1 (IntKind.u64.wrap (64 - (ji8))))) - (IntKind.u64.wrap ((IntKind.u64.wrap (Int.tdiv (Go.bits .or .u64 (ji12) (shr .u64 a1 (IntKind.u64.wrap (64 - (ji8))))) ((ji10) / 4294967296))) * ((ji10) / 4294967296))))))) else (none)) = some (r1, r2) := by first | (rw [hji12] at H; exact H) | (simp only [hji12] at H ⊢; exact H)
          (try rw [hji12] at A7)
          have hji12_ : (IntKind.u64.wrap (a0 * 2 ^ min (ji8).toNat 64)) = ji12 := hji12
          have hji12z : (ji8) ≤ 64 → (IntKind.u64.wrap (a0 * 2 ^ (ji8).toNat)) = ji12 := shl_small hji12
          obtain ⟨ji13, hji13⟩ : ∃ j_ : Int, (IntKind.u64.wrap (64 - (ji8))) = j_ := ⟨_, rfl⟩
          replace H : (if 0 ≤ (ji13) then (if ((ji10) / 4294967296) = 0 then (none) else (bits_Div64.l0 k ji10 ji8 ((ji10) / 4294967296) (Go.bits .and .u64 (ji10) 4294967295) (Go.bits .or .u64 (ji12) (shr .u64 a1 (ji13))) ((shl .u64 a1 (ji8)) / 4294967296) (Go.bits .and .u64 (shl .u64 a1 (ji8)) 4294967295) (IntKind.u64.wrap (Int.tdiv (Go.bits .or .u64 (ji12) (shr .u64 a1 (ji13))) ((ji10) / 4294967296))) (IntKind.u64.wrap ((Go.bits .or .u64 (ji12) (shr .u64 a1 (ji13))) - (IntKind.u64.wrap ((IntKind.u64.wrap (Int.tdiv (Go.bits .or .u64 (ji12) (shr .u64 a1 (ji13))) ((ji10) / 4294967296))) * ((ji10) / 4294967296))))))) else (none)) = some (r1, r2) := by first | (rw [hji13] at H; exact H) | (simp only [hji13] at H ⊢; exact H)
          (try rw [hji13] at A7)
          by_cases c14 : 0 ≤ (ji13)
          · rw [if_pos c14] at H
            have c14b0 := eq_true c14
            have c14b1 : decide (0 ≤ (ji13)) = true := decide_eq_true c14
            clear c14
            obtain ⟨ji15, hji15⟩ : ∃ j_ : Int, (shr .u64 a1 (ji13)) = j_ := ⟨_, rfl⟩
            replace H : (if ((ji10) / 4294967296) = 0 then (none) else (bits_Div64.l0 k ji10 ji8 ((ji10) / 4294967296) (Go.bits .and .u64 (ji10) 4294967295) (Go.bits .or .u64 (ji12) (ji15)) ((shl .u64 a1 (ji8)) / 4294967296) (Go.bits .and .u64 (shl .u64 a1 (ji8)) 4294967295) (IntKind.u64.wrap (Int.tdiv (Go.bits .or .u64 (ji12) (ji15)) ((ji10) / 4294967296))) (IntKind.u64.wrap ((Go.bits .or .u64 (ji12) (ji15)) - (IntKind.u64.wrap ((IntKind.u64.wrap (Int.tdiv (Go.bits .or .u64 (ji12) (ji15)) ((ji10) / 4294967296))) * ((ji10) / 4294967296))))))) = some (r1, r2) := by first | (rw [hji15] at H; exact H) | (simp only [hji15] at H ⊢; exact H)
            (try rw [hji15] at A7)
            have hji15_ : (a1 / 2 ^ min (ji13).toNat 64) = ji15 := hji15
            have hji15z : (ji13) ≤ 64 → (a1 / 2 ^ (ji13).toNat) = ji15 := shr_small hji15
            have c16b0 := eq_true (of_decide_eq_true (by first | (with_reducible assumption) | assumption) : 0 ≤ (ji8))
            obtain ⟨ji17, hji17⟩ : ∃ j_ : Int, (shl .u64 a1 (ji8)) = j_ := ⟨_, rfl⟩
            replace H : (if ((ji10) / 4294967296) = 0 then (none) else (bits_Div64.l0 k ji10 ji8 ((ji10) / 4294967296) (Go.bits .and .u64 (ji10) 4294967295) (Go.bits .or .u64 (ji12) (ji15)) ((ji17) / 4294967296) (Go.bits .and .u64 (ji17) 4294967295) (IntKind.u64.wrap (Int.tdiv (Go.bits .or .u64 (ji12) (ji15)) ((ji10) / 4294967296))) (IntKind.u64.wrap ((Go.bits .or .u64 (ji12) (ji15)) - (IntKind.u64.wrap ((IntKind.u64.wrap (Int.tdiv (Go.bits .or .u64 (ji12) (ji15)) ((ji10) / 4294967296))) * ((ji10) / 4294967296))))))) = some (r1, r2) := by first | (rw [hji17] at H; exact H) | (simp only [hji17] at H ⊢; exact H)
            (try rw [hji17] at A7)
            have hji17_ : (IntKind.u64.wrap (a1 * 2 ^ min (ji8).toNat 64)) = ji17 := hji17
            have hji17z : (ji8) ≤ 64 → (IntKind.u64.wrap (a1 * 2 ^ (ji8).toNat)) = ji17 := shl_small hji17
            by_cases c18 : ((ji10) / 4294967296) = 0
            · rw [if_pos c18] at H
              exact absurd H (by simp)
            · rw [if_neg c18] at H
              have c18b0 : (((ji10) / 4294967296) == 0) = false := beq_eq_false_iff_ne.mpr c18
              have c18b1 : (((ji10) / 4294967296) != 0) = true := bne_iff_ne.mpr c18
              have HC19 := Aside0.mk H
              clear H
              go_enter Try.func90, Try.ntmps90
              go_upto_block 0 with (first | (go_at_call 105; (with_reducible refine (bits_LeadingZeros64.calls k a2 t878 _ A7.out).mono ?_); rintro e w' ⟨rfl, ⟨nd, rfl⟩⟩; (try first | exact ⟨rfl, _, World.drewN_drewN _ _ _⟩ | exact ⟨rfl, _, Eq.trans (World.drewN_drewN _ _ _) (congrArg (World.drewN _) (Nat.add_assoc _ _ _))⟩)))
              repeat (go_quiet (first | (go_at_call 105; (with_reducible refine (bits_LeadingZeros64.calls k a2 t878 _ A7.out).mono ?_); rintro e w' ⟨rfl, ⟨nd, rfl⟩⟩; (try first | exact ⟨rfl, _, World.drewN_drewN _ _ _⟩ | exact ⟨rfl, _, Eq.trans (World.drewN_drewN _ _ _) (congrArg (World.drewN _) (Nat.add_assoc _ _ _))⟩))); go_upto_block 0 with (first | (go_at_call 105; (with_reducible refine (bits_LeadingZeros64.calls k a2 t878 _ A7.out).mono ?_); rintro e w' ⟨rfl, ⟨nd, rfl⟩⟩; (try first | exact ⟨rfl, _, World.drewN_drewN _ _ _⟩ | exact ⟨rfl, _, Eq.trans (World.drewN_drewN _ _ _) (congrArg (World.drewN _) (Nat.add_assoc _ _ _))⟩))))
              (try simp only [Act.put, List.setIfInBounds_toArray, List.set_cons_zero, List.set_cons_succ])
              go_cut [15] (fun v15 wc => ∃ (kq : Nat) (x15_18 : Int), v15 = .int .u64 x15_18 ∧ Aside0 (bits_Div64.j2 kq ji10 ji8 ((ji10) / 4294967296) (Go.bits .and .u64 (ji10) 4294967295) (Go.bits .or .u64 (ji12) (ji15)) ((ji17) / 4294967296) (Go.bits .and .u64 (ji17) 4294967295) x15_18 = some (r1, r2)) ∧ Aside0 (kq ≤ k) ∧ Drawn0 w wc)
              case first =>
                have H := HC19.out
                clear HC19
                have H' := Aside0.mk H
                clear H
                go_wp2
                repeat (go_quiet (fail); try go_wp2)
                go_loopg [15, 16] k (fun kq v15 v16 w' => ∃ (x15_1 : Int) (x16_1 : Int), v15 = .int .u64 x15_1 ∧ v16 = .int .u64 x16_1 ∧ Aside0 (bits_Div64.l0 kq ji10 ji8 ((ji10) / 4294967296) (Go.bits .and .u64 (ji10) 4294967295) (Go.bits .or .u64 (ji12) (ji15)) ((ji17) / 4294967296) (Go.bits .and .u64 (ji17) 4294967295) x15_1 x16_1 = some (r1, r2)) ∧ Aside0 (kq ≤ k) ∧ Drawn0 w w')
                case atStart => exact ⟨(IntKind.u64.wrap (Int.tdiv (Go.bits .or .u64 (ji12) (ji15)) ((ji10) / 4294967296))), (IntKind.u64.wrap ((Go.bits .or .u64 (ji12) (ji15)) - (IntKind.u64.wrap ((IntKind.u64.wrap (Int.tdiv (Go.bits .or .u64 (ji12) (ji15)) ((ji10) / 4294967296))) * ((ji10) / 4294967296))))), (by first | rfl | (simp; done) | (simp only [← hji10, ← hji12, ← hji15] <;> (first | rfl | simp)) | (simp [*]; done)), (by first | rfl | (simp; done) | (simp only [← hji10, ← hji12, ← hji15] <;> (first | rfl | simp)) | (simp [*]; done)), H', ⟨Nat.le_refl _⟩, by repeat (first | exact Drawn0.refl _ | apply Drawn0.step)⟩
                case round =>
                  clear H'
                  try clear c1
                  try clear p2
                  try clear c4
                  try clear c4b0
                  try clear c4b1
                  try clear c5
                  try clear c5b0
                  try clear c6
                  try clear c6b0
                  try clear c6b1
                  try clear c9
                  try clear c9b0
                  try clear c9b1
                  try clear c11
                  try clear c11b0
                  try clear c14
                  try clear c14b0
                  try clear c14b1
                  try clear c16
                  try clear c16b0
                  try clear c18
                  try clear c18b0
                  try clear c18b1
                  obtain ⟨x15_1, x16_1, rfl, rfl, HA, HK1, ⟨m1, rfl⟩⟩ := hrel
                  cases gk with
                  | zero => exact absurd HA.out (by simp [bits_Div64.l0])
                  | succ k1 =>
                    have H := HA.out
                    clear HA
                    simp only [bits_Div64.l0] at H
                    have HC20 := Aside0.mk H
                    clear H
                    go_upto_region 17 with (fail)
                    repeat (go_quiet (fail); go_upto_region 17 with (fail))
                    go_cut [78] (fun v78 wc => ∃ (kq : Nat) (x78_19 : Bool), v78 = .bool x78_19 ∧ Aside0 (bits_Div64.j1 kq ji10 ji8 ((ji10) / 4294967296) (Go.bits .and .u64 (ji10) 4294967295) (Go.bits .or .u64 (ji12) (ji15)) ((ji17) / 4294967296) (Go.bits .and .u64 (ji17) 4294967295) x15_1 x16_1 x78_19 = some (r1, r2)) ∧ Aside0 (kq ≤ k1) ∧ Drawn0 w wc)
                    case first =>
                      have H := HC20.out
                      clear HC20
                      by_cases c21 : x15_1 ≥ 4294967296
                      · rw [if_pos c21] at H
                        have c21b0 : decide (4294967296 ≤ x15_1) = true := decide_eq_true c21
                        clear c21
                        (first | rw [c21b0] | (simp only [i64_w, i32_w]; rw [c21b0]) | skip)
                        have H' := Aside0.mk H
                        clear H
                        go_wp2
                        repeat (go_quiet (fail); try go_wp2)
                        go_meet
                        case rel => exact ⟨_, (true), (by first | rfl | (simp; done) | (simp [*]; done)), H', ⟨by have := HK1.out; first | omega | exact Nat.le_refl _⟩, by repeat (first | exact Drawn0.refl _ | apply Drawn0.step)⟩
                      · rw [if_neg c21] at H
                        have c21b0 : decide (4294967296 ≤ x15_1) = false := decide_eq_false c21
                        clear c21
                        (first | rw [c21b0] | (simp only [i64_w, i32_w]; rw [c21b0]) | skip)
                        have H' := Aside0.mk H
                        clear H
                        go_wp2
                        repeat (go_quiet (fail); try go_wp2)
                        go_meet
                        case rel => exact ⟨_, (decide ((IntKind.u64.wrap (x15_1 * (Go.bits .and .u64 (ji10) 4294967295))) > (IntKind.u64.wrap ((IntKind.u64.wrap (4294967296 * x16_1)) + ((ji17) / 4294967296))))), (by first | rfl | (simp; done) | (simp only [← hji10, ← hji17] <;> (first | rfl | simp)) | (simp [*]; done)), H', ⟨by have := HK1.out; first | omega | exact Nat.le_refl _⟩, by repeat (first | exact Drawn0.refl _ | apply Drawn0.step)⟩
                    case rest =>
                      clear HC20
                      try clear c1
                      try clear c2
                      try clear p2
                      try clear c4
                      try clear c4b0
                      try clear c4b1
                      try clear c5
                      try clear c5b0
                      try clear c6
                      try clear c6b0
                      try clear c6b1
                      try clear c9
                      try clear c9b0
                      try clear c9b1
                      try clear c11
                      try clear c11b0
                      try clear c14
                      try clear c14b0
                      try clear c14b1
                      try clear c16
                      try clear c16b0
                      try clear c18
                      try clear c18b0
                      try clear c18b1
                      try clear c21
                      try clear c21b0
                      try clear p2
                      obtain ⟨kq, x78_19, rfl, HA, HJ19, ⟨mc19, rfl⟩⟩ := hcut
                      cases kq with
                      | zero => exact absurd HA.out (by simp [bits_Div64.j1])
                      | succ kj19 =>
                        have H := HA.out
                        clear HA
                        simp only [bits_Div64.j1] at H
                        by_cases c22 : x78_19 = true
                        · subst c22
                          have H1 : (if (IntKind.u64.wrap (x16_1 + ((ji10) / 4294967296))) ≥ 4294967296 then (bits_Div64.j2 kj19 ji10 ji8 ((ji10) / 4294967296) (Go.bits .and .u64 (ji10) 4294967295) (Go.bits .or .u64 (ji12) (ji15)) ((ji17) / 4294967296) (Go.bits .and .u64 (ji17) 4294967295) (IntKind.u64.wrap (x15_1 - 1))) else (bits_Div64.l0 kj19 ji10 ji8 ((ji10) / 4294967296) (Go.bits .and .u64 (ji10) 4294967295) (Go.bits .or .u64 (ji12) (ji15)) ((ji17) / 4294967296) (Go.bits .and .u64 (ji17) 4294967295) (IntKind.u64.wrap (x15_1 - 1)) (IntKind.u64.wrap (x16_1 + ((ji10) / 4294967296))))) = some (r1, r2) := by rw [if_pos rfl] at H; exact H
                          clear H
                          have H := H1
                          clear H1
                          by_cases c23 : (IntKind.u64.wrap (x16_1 + ((ji10) / 4294967296))) ≥ 4294967296
                          · rw [if_pos c23] at H
                            have c23b0 : decide (4294967296 ≤ (IntKind.u64.wrap (x16_1 + ((ji10) / 4294967296)))) = true := decide_eq_true c23
                            clear c23
                            have H' := Aside0.mk H
                            clear H
                            go_wp2
                            repeat (go_quiet (fail); try go_wp2)
                            go_meet
                            case rel => exact ⟨_, (IntKind.u64.wrap (x15_1 - 1)), (by first | rfl | (simp; done) | (simp [*]; done)), H', ⟨by have := HK1.out; have := HJ19.out; first | omega | exact Nat.le_refl _⟩, by repeat (first | exact Drawn0.refl _ | apply Drawn0.step)⟩
                          · rw [if_neg c23] at H
                            have c23b0 : decide (4294967296 ≤ (IntKind.u64.wrap (x16_1 + ((ji10) / 4294967296)))) = false := decide_eq_false c23
                            clear c23
                            have H' := Aside0.mk H
                            clear H
                            go_wp2
                            repeat (go_quiet (fail); try go_wp2)
                            go_roundg kj19
                            case measure => have := HK1.out; have := HJ19.out; omega
                            case rel => exact ⟨(IntKind.u64.wrap (x15_1 - 1)), (IntKind.u64.wrap (x16_1 + ((ji10) / 4294967296))), (by first | rfl | (simp; done) | (simp [*]; done)), (by first | rfl | (simp; done) | (simp only [← hji10] <;> (first | rfl | simp)) | (simp [*]; done)), H', ⟨by have := HK1.out; have := HJ19.out; omega⟩, by repeat (first | exact Drawn0.refl _ | apply Drawn0.step)⟩
                        · replace c22 := Bool.eq_false_iff.mpr c22
                          subst c22
                          have H1 : (bits_Div64.j2 kj19 ji10 ji8 ((ji10) / 4294967296) (Go.bits .and .u64 (ji10) 4294967295) (Go.bits .or .u64 (ji12) (ji15)) ((ji17) / 4294967296) (Go.bits .and .u64 (ji17) 4294967295) x15_1) = some (r1, r2) := by rw [if_neg (show ¬ (false = true) by decide)] at H; exact H
                          clear H
                          have H := H1
                          clear H1
                          have H' := Aside0.mk H
                          clear H
                          go_wp2
                          repeat (go_quiet (fail); try go_wp2)
                          go_meet
                          case rel => exact ⟨_, (x15_1), (by first | rfl | (simp; done) | (simp [*]; done)), H', ⟨by have := HK1.out; have := HJ19.out; first | omega | exact Nat.le_refl _⟩, by repeat (first | exact Drawn0.refl _ | apply Drawn0.step)⟩
              case rest =>
                clear HC19
                try clear c1
                try clear c2
                try clear p2
                try clear c4
                try clear c4b0
                try clear c4b1
                try clear c5
                try clear c5b0
                try clear c6
                try clear c6b0
                try clear c6b1
                try clear c9
                try clear c9b0
                try clear c9b1
                try clear c11
                try clear c11b0
                try clear c14
                try clear c14b0
                try clear c14b1
                try clear c16
                try clear c16b0
                try clear c18
                try clear c18b0
                try clear c18b1
                try clear c19
                try clear c21
                try clear c21b0
                try clear c22
                try clear c23
                try clear c23b0
                try clear p2
                obtain ⟨kq, x15_18, rfl, HA, HJ18, ⟨mc18, rfl⟩⟩ := hcut
                cases kq with
                | zero => exact absurd HA.out (by simp [bits_Div64.j2])
                | succ kj18 =>
                  have H := HA.out
                  clear HA
                  simp only [bits_Div64.j2] at H
                  by_cases c24 : ((ji10) / 4294967296) = 0
                  · rw [if_pos c24] at H
                    exact absurd H (by simp)
                  · rw [if_neg c24] at H
                    have c24b0 : (((ji10) / 4294967296) == 0) = false := beq_eq_false_iff_ne.mpr c24
                    have c24b1 : (((ji10) / 4294967296) != 0) = true := bne_iff_ne.mpr c24
                    have H' := Aside0.mk H
                    clear H
                    go_wp2
                    repeat (go_quiet (fail); try go_wp2)
                    go_loopg [16, 18] kj18 (fun kq v16 v18 w' => ∃ (x16_2 : Int) (x18_2 : Int), v16 = .int .u64 x16_2 ∧ v18 = .int .u64 x18_2 ∧ Aside0 (bits_Div64.l1 kq ji10 ji8 ((ji10) / 4294967296) (Go.bits .and .u64 (ji10) 4294967295) (Go.bits .and .u64 (ji17) 4294967295) x15_18 x16_2 (IntKind.u64.wrap ((IntKind.u64.wrap ((IntKind.u64.wrap ((Go.bits .or .u64 (ji12) (ji15)) * 4294967296)) + ((ji17) / 4294967296))) - (IntKind.u64.wrap (x15_18 * ji10)))) x18_2 = some (r1, r2)) ∧ Aside0 (kq ≤ kj18) ∧ Drawn0 w w')
                    case atStart => exact ⟨(IntKind.u64.wrap ((IntKind.u64.wrap ((IntKind.u64.wrap ((IntKind.u64.wrap ((Go.bits .or .u64 (ji12) (ji15)) * 4294967296)) + ((ji17) / 4294967296))) - (IntKind.u64.wrap (x15_18 * ji10)))) - (IntKind.u64.wrap ((IntKind.u64.wrap (Int.tdiv (IntKind.u64.wrap ((IntKind.u64.wrap ((IntKind.u64.wrap ((Go.bits .or .u64 (ji12) (ji15)) * 4294967296)) + ((ji17) / 4294967296))) - (IntKind.u64.wrap (x15_18 * ji10)))) ((ji10) / 4294967296))) * ((ji10) / 4294967296))))), (IntKind.u64.wrap (Int.tdiv (IntKind.u64.wrap ((IntKind.u64.wrap ((IntKind.u64.wrap ((Go.bits .or .u64 (ji12) (ji15)) * 4294967296)) + ((ji17) / 4294967296))) - (IntKind.u64.wrap (x15_18 * ji10)))) ((ji10) / 4294967296))), (by first | rfl | (simp; done) | (simp only [← hji10, ← hji12, ← hji15, ← hji17] <;> (first | rfl | simp)) | (simp [*]; done)), (by first | rfl | (simp; done) | (simp only [← hji10, ← hji12, ← hji15, ← hji17] <;> (first | rfl | simp)) | (simp [*]; done)), H', ⟨Nat.le_refl _⟩, by repeat (first | exact Drawn0.refl _ | apply Drawn0.step)⟩
                    case round =>
                      clear H'
                      try clear c1
                      try clear c2
                      try clear p2
                      try clear c4
                      try clear c4b0
                      try clear c4b1
                      try clear c5
                      try clear c5b0
                      try clear c6
                      try clear c6b0
                      try clear c6b1
                      try clear c9
                      try clear c9b0
                      try clear c9b1
                      try clear c11
                      try clear c11b0
                      try clear c14
                      try clear c14b0
                      try clear c14b1
                      try clear c16
                      try clear c16b0
                      try clear c18
                      try clear c18b0
                      try clear c18b1
                      try clear c19
                      try clear c21
                      try clear c21b0
                      try clear c22
                      try clear c23
                      try clear c23b0
                      try clear c24
                      try clear c24b0
                      try clear c24b1
                      try clear p2
                      obtain ⟨x16_2, x18_2, rfl, rfl, HA, HK2, ⟨m2, rfl⟩⟩ := hrel
                      cases gk with
                      | zero => exact absurd HA.out (by simp [bits_Div64.l1])
                      | succ k2 =>
                        have H := HA.out
                        clear HA
                        simp only [bits_Div64.l1] at H
                        have HC25 := Aside0.mk H
                        clear H
                        go_upto_region 24 with (fail)
                        repeat (go_quiet (fail); go_upto_region 24 with (fail))
                        go_cut [113] (fun v113 wc => ∃ (kq : Nat) (x113_24 : Bool), v113 = .bool x113_24 ∧ Aside0 (bits_Div64.j4 kq ji10 ji8 ((ji10) / 4294967296) (Go.bits .and .u64 (ji10) 4294967295) (Go.bits .and .u64 (ji17) 4294967295) x15_18 x16_2 (IntKind.u64.wrap ((IntKind.u64.wrap ((IntKind.u64.wrap ((Go.bits .or .u64 (ji12) (ji15)) * 4294967296)) + ((ji17) / 4294967296))) - (IntKind.u64.wrap (x15_18 * ji10)))) x18_2 x113_24 = some (r1, r2)) ∧ Aside0 (kq ≤ k2) ∧ Drawn0 w wc)
                        case first =>
                          have H := HC25.out
                          clear HC25
                          by_cases c26 : x18_2 ≥ 4294967296
                          · rw [if_pos c26] at H
                            have c26b0 : decide (4294967296 ≤ x18_2) = true := decide_eq_true c26
                            clear c26
                            (first | rw [c26b0] | (simp only [i64_w, i32_w]; rw [c26b0]) | skip)
                            have H' := Aside0.mk H
                            clear H
                            go_wp2
                            repeat (go_quiet (fail); try go_wp2)
                            go_meet
                            case rel => exact ⟨_, (true), (by first | rfl | (simp; done) | (simp [*]; done)), H', ⟨by have := HJ18.out; have := HK2.out; first | omega | exact Nat.le_refl _⟩, by repeat (first | exact Drawn0.refl _ | apply Drawn0.step)⟩
                          · rw [if_neg c26] at H
                            have c26b0 : decide (4294967296 ≤ x18_2) = false := decide_eq_false c26
                            clear c26
                            (first | rw [c26b0] | (simp only [i64_w, i32_w]; rw [c26b0]) | skip)
                            have H' := Aside0.mk H
                            clear H
                            go_wp2
                            repeat (go_quiet (fail); try go_wp2)
                            go_meet
                            case rel => exact ⟨_, (decide ((IntKind.u64.wrap (x18_2 * (Go.bits .and .u64 (ji10) 4294967295))) > (IntKind.u64.wrap ((IntKind.u64.wrap (4294967296 * x16_2)) + (Go.bits .and .u64 (ji17) 4294967295))))), (by first | rfl | (simp; done) | (simp only [← hji10, ← hji17] <;> (first | rfl | simp)) | (simp [*]; done)), H', ⟨by have := HJ18.out; have := HK2.out; first | omega | exact Nat.le_refl _⟩, by repeat (first | exact Drawn0.refl _ | apply Drawn0.step)⟩
                        case rest =>
                          clear HC25
                          try clear c1
                          try clear c2
                          try clear p2
                          try clear c4
                          try clear c4b0
                          try clear c4b1
                          try clear c5
                          try clear c5b0
                          try clear c6
                          try clear c6b0
                          try clear c6b1
                          try clear c9
                          try clear c9b0
                          try clear c9b1
                          try clear c11
                          try clear c11b0
                          try clear c14
                          try clear c14b0
                          try clear c14b1
                          try clear c16
                          try clear c16b0
                          try clear c18
                          try clear c18b0
                          try clear c18b1
                          try clear c19
                          try clear c21
                          try clear c21b0
                          try clear c22
                          try clear c23
                          try clear c23b0
                          try clear c24
                          try clear c24b0
                          try clear c24b1
                          try clear c26
                          try clear c26b0
                          try clear p2
                          obtain ⟨kq, x113_24, rfl, HA, HJ24, ⟨mc24, rfl⟩⟩ := hcut
                          cases kq with
                          | zero => exact absurd HA.out (by simp [bits_Div64.j4])
                          | succ kj24 =>
                            have H := HA.out
                            clear HA
                            simp only [bits_Div64.j4] at H
                            by_cases c27 : x113_24 = true
                            · subst c27
                              have H1 : (if (IntKind.u64.wrap (x16_2 + ((ji10) / 4294967296))) ≥ 4294967296 then (if 0 ≤ ji8 then (some (IntKind.u64.wrap ((IntKind.u64.wrap (x15_18 * 4294967296)) + (IntKind.u64.wrap (x18_2 - 1))), shr .u64 (IntKind.u64.wrap ((IntKind.u64.wrap ((IntKind.u64.wrap ((IntKind.u64.wrap ((IntKind.u64.wrap ((IntKind.u64.wrap ((Go.bits .or .u64 (ji12) (ji15)) * 4294967296)) + ((ji17) / 4294967296))) - (IntKind.u64.wrap (x15_18 * ji10)))) * 4294967296)) + (Go.bits .and .u64 (ji17) 4294967295))) - (IntKind.u64.wrap ((IntKind.u64.wrap (x18_2 - 1)) * ji10)))) ji8)) else (none)) else (bits_Div64.l1 kj24 ji10 ji8 ((ji10) / 4294967296) (Go.bits .and .u64 (ji10) 4294967295) (Go.bits .and .u64 (ji17) 4294967295) x15_18 (IntKind.u64.wrap (x16_2 + ((ji10) / 4294967296))) (IntKind.u64.wrap ((IntKind.u64.wrap ((IntKind.u64.wrap ((Go.bits .or .u64 (ji12) (ji15)) * 4294967296)) + ((ji17) / 4294967296))) - (IntKind.u64.wrap (x15_18 * ji10)))) (IntKind.u64.wrap (x18_2 - 1)))) = some (r1, r2) := by rw [if_pos rfl] at H; exact H
                              clear H
                              have H := H1
                              clear H1
                              by_cases c28 : (IntKind.u64.wrap (x16_2 + ((ji10) / 4294967296))) ≥ 4294967296
                              · rw [if_pos c28] at H
                                have c28b0 : decide (4294967296 ≤ (IntKind.u64.wrap (x16_2 + ((ji10) / 4294967296)))) = true := decide_eq_true c28
                                clear c28
                                by_cases c29 : 0 ≤ ji8
                                · rw [if_pos c29] at H
                                  have c29b0 := eq_true c29
                                  have c29b1 : decide (0 ≤ ji8) = true := decide_eq_true c29
                                  clear c29
                                  obtain ⟨ji30, hji30⟩ : ∃ j_ : Int, (shr .u64 (IntKind.u64.wrap ((IntKind.u64.wrap ((IntKind.u64.wrap ((IntKind.u64.wrap ((IntKind.u64.wrap ((IntKind.u64.wrap ((Go.bits .or .u64 (ji12) (ji15)) * 4294967296)) + ((ji17) / 4294967296))) - (IntKind.u64.wrap (x15_18 * ji10)))) * 4294967296)) + (Go.bits .and .u64 (ji17) 4294967295))) - (IntKind.u64.wrap ((IntKind.u64.wrap (x18_2 - 1)) * ji10)))) ji8) = j_ := ⟨_, rfl⟩
                                  replace H : (some (IntKind.u64.wrap ((IntKind.u64.wrap (x15_18 * 4294967296)) + (IntKind.u64.wrap (x18_2 - 1))), ji30)) = some (r1, r2) := by first | (rw [hji30] at H; exact H) | (simp only [hji30] at H ⊢; exact H)
                                  have hji30_ : ((IntKind.u64.wrap ((IntKind.u64.wrap ((IntKind.u64.wrap ((IntKind.u64.wrap ((IntKind.u64.wrap ((IntKind.u64.wrap ((Go.bits .or .u64 (ji12) (ji15)) * 4294967296)) + ((ji17) / 4294967296))) - (IntKind.u64.wrap (x15_18 * ji10)))) * 4294967296)) + (Go.bits .and .u64 (ji17) 4294967295))) - (IntKind.u64.wrap ((IntKind.u64.wrap (x18_2 - 1)) * ji10)))) / 2 ^ min ji8.toNat 64) = ji30 := hji30
                                  have hji30z : ji8 ≤ 64 → ((IntKind.u64.wrap ((IntKind.u64.wrap ((IntKind.u64.wrap ((IntKind.u64.wrap ((IntKind.u64.wrap ((IntKind.u64.wrap ((Go.bits .or .u64 (ji12) (ji15)) * 4294967296)) + ((ji17) / 4294967296))) - (IntKind.u64.wrap (x15_18 * ji10)))) * 4294967296)) + (Go.bits .and .u64 (ji17) 4294967295))) - (IntKind.u64.wrap ((IntKind.u64.wrap (x18_2 - 1)) * ji10)))) / 2 ^ ji8.toNat) = ji30 := shr_small hji30
                                  simp only [Option.some.injEq, Prod.mk.injEq] at H
                                  obtain ⟨rfl, rfl⟩ := H
                                  go_wp2
                                  repeat (go_quiet (fail); try go_wp2)
                                  go_ret2
                                  exact ⟨by first | rfl | (simp; done) | (simp only [← hji8, ← hji10, ← hji12, ← hji13, ← hji15, ← hji17, ← hji30] <;> (first | rfl | simp)) | (simp [*]; done), by repeat (first | exact Drawn0.refl _ | apply Drawn0.step)⟩
                                · rw [if_neg c29] at H
                                  exact absurd H (by simp)
                              · rw [if_neg c28] at H
                                have c28b0 : decide (4294967296 ≤ (IntKind.u64.wrap (x16_2 + ((ji10) / 4294967296)))) = false := decide_eq_false c28
                                clear c28
                                have H' := Aside0.mk H
                                clear H
                                go_wp2
                                repeat (go_quiet (fail); try go_wp2)
                                go_roundg kj24
                                case measure => have := HJ18.out; have := HK2.out; have := HJ24.out; omega
                                case rel => exact ⟨(IntKind.u64.wrap (x16_2 + ((ji10) / 4294967296))), (IntKind.u64.wrap (x18_2 - 1)), (by first | rfl | (simp; done) | (simp only [← hji10] <;> (first | rfl | simp)) | (simp [*]; done)), (by first | rfl | (simp; done) | (simp [*]; done)), H', ⟨by have := HJ18.out; have := HK2.out; have := HJ24.out; omega⟩, by repeat (first | exact Drawn0.refl _ | apply Drawn0.step)⟩
                            · replace c27 := Bool.eq_false_iff.mpr c27
                              subst c27
                              have H1 : (if 0 ≤ ji8 then (some (IntKind.u64.wrap ((IntKind.u64.wrap (x15_18 * 4294967296)) + x18_2), shr .u64 (IntKind.u64.wrap ((IntKind.u64.wrap ((IntKind.u64.wrap ((IntKind.u64.wrap ((IntKind.u64.wrap ((IntKind.u64.wrap ((Go.bits .or .u64 (ji12) (ji15)) * 4294967296)) + ((ji17) / 4294967296))) - (IntKind.u64.wrap (x15_18 * ji10)))) * 4294967296)) + (Go.bits .and .u64 (ji17) 4294967295))) - (IntKind.u64.wrap (x18_2 * ji10)))) ji8)) else (none)) = some (r1, r2) := by rw [if_neg (show ¬ (false = true) by decide)] at H; exact H
                              clear H
                              have H := H1
                              clear H1
                              by_cases c31 : 0 ≤ ji8
                              · rw [if_pos c31] at H
                                have c31b0 := eq_true c31
                                have c31b1 : decide (0 ≤ ji8) = true := decide_eq_true c31
                                clear c31
                                obtain ⟨ji32, hji32⟩ : ∃ j_ : Int, (shr .u64 (IntKind.u64.wrap ((IntKind.u64.wrap ((IntKind.u64.wrap ((IntKind.u64.wrap ((IntKind.u64.wrap ((IntKind.u64.wrap ((Go.bits .or .u64 (ji12) (ji15)) * 4294967296)) + ((ji17) / 4294967296))) - (IntKind.u64.wrap (x15_18 * ji10)))) * 4294967296)) + (Go.bits .and .u64 (ji17) 4294967295))) - (IntKind.u64.wrap (x18_2 * ji10)))) ji8) = j_ := ⟨_, rfl⟩
                                replace H : (some (IntKind.u64.wrap ((IntKind.u64.wrap (x15_18 * 4294967296)) + x18_2), ji32)) = some (r1, r2) := by first | (rw [hji32] at H; exact H) | (simp only [hji32] at H ⊢; exact H)
                                have hji32_ : ((IntKind.u64.wrap ((IntKind.u64.wrap ((IntKind.u64.wrap ((IntKind.u64.wrap ((IntKind.u64.wrap ((IntKind.u64.wrap ((Go.bits .or .u64 (ji12) (ji15)) * 4294967296)) + ((ji17) / 4294967296))) - (IntKind.u64.wrap (x15_18 * ji10)))) * 4294967296)) + (Go.bits .and .u64 (ji17) 4294967295))) - (IntKind.u64.wrap (x18_2 * ji10)))) / 2 ^ min ji8.toNat 64) = ji32 := hji32
                                have hji32z : ji8 ≤ 64 → ((IntKind.u64.wrap ((IntKind.u64.wrap ((IntKind.u64.wrap ((IntKind.u64.wrap ((IntKind.u64.wrap ((IntKind.u64.wrap ((Go.bits .or .u64 (ji12) (ji15)) * 4294967296)) + ((ji17) / 4294967296))) - (IntKind.u64.wrap (x15_18 * ji10)))) * 4294967296)) + (Go.bits .and .u64 (ji17) 4294967295))) - (IntKind.u64.wrap (x18_2 * ji10)))) / 2 ^ ji8.toNat) = ji32 := shr_small hji32
                                simp only [Option.some.injEq, Prod.mk.injEq] at H
                                obtain ⟨rfl, rfl⟩ := H
                                go_wp2
                                repeat (go_quiet (fail); try go_wp2)
                                go_ret2
                                exact ⟨by first | rfl | (simp; done) | (simp only [← hji8, ← hji10, ← hji12, ← hji13, ← hji15, ← hji17, ← hji32] <;> (first | rfl | simp)) | (simp [*]; done), by repeat (first | exact Drawn0.refl _ | apply Drawn0.step)⟩
                              · rw [if_neg c31] at H
                                exact absurd H (by simp)
          · rw [if_neg c14] at H
            exact absurd H (by simp)
        · rw [if_neg c9] at H
          exact absurd H (by simp)
end Go.Proofs.Ytpkjpiphjdpegaa.P
namespace Go.Proofs.Ytpkjpiphjdpegaa.P
open Go.RowKit Go.Proofs.YtpkjpiphjdpegaaW.PrintWords Go.Proofs.YtpkjpiphjdpegaaW.PrintLast Go.Proofs.YtpkjpiphjdpegaaW.PrintMore
set_option linter.unusedVariables false
set_option linter.unusedSimpArgs false
theorem quot_lt {y Q R T q : Int} (hy : 0 < y) (e : Q * y + R = T) (hR : 0 ≤ R) (h : T < q * y) : Q < q := by
  rcases Int.lt_or_le Q q with h1 | h1
  · exact h1
  · have := Int.mul_le_mul_of_nonneg_right h1 (Int.le_of_lt hy)
    omega
theorem quot_le {y Q R T q : Int} (hy : 0 < y) (e : Q * y + R = T) (hR : R < y) (h : q * y ≤ T) : q ≤ Q := by
  rcases Int.lt_or_le Q q with h1 | h1
  · have h2 : Q + 1 ≤ q := h1
    have := Int.mul_le_mul_of_nonneg_right h2 (Int.le_of_lt hy)
    rw [Int.add_mul, Int.one_mul] at this
    omega
  · exact h1
structure Est (x2 v1 v0 u d Q R : Int) : Prop where
  hy : x2 = v1 * 4294967296 + v0
  v1l : 2147483648 ≤ v1
  v1u : v1 < 4294967296
  v0l : 0 ≤ v0
  v0u : v0 < 4294967296
  dl : 0 ≤ d
  du : d < 4294967296
  ul : 0 ≤ u
  hQ : Q * x2 + R = u * 4294967296 + d
  Rl : 0 ≤ R
  Ru : R < x2
  Ql : 0 ≤ Q
  Qu : Q < 4294967296
theorem Est.made {x2 v1 v0 u d Q R q rh : Int} (h : Est x2 v1 v0 u d Q R) (e : q * v1 + rh = u) : q * x2 = (u - rh) * 4294967296 + q * v0 := by
  rw [h.hy, Int.mul_add, ← Int.mul_assoc, show q * v1 = u - rh by omega]
theorem Est.pos {x2 v1 v0 u d Q R : Int} (h : Est x2 v1 v0 u d Q R) : 0 < x2 := by
  have := h.hy
  have := h.v1l
  have := h.v0l
  omega
theorem Est.big {x2 v1 v0 u d Q R q rh : Int} (h : Est x2 v1 v0 u d Q R) (e : q * v1 + rh = u) (t : q ≥ 4294967296 ∨ q * v0 > 4294967296 * rh + d) : Q < q := by
  rcases t with t | t
  · have := h.Qu
    omega
  · have m := h.made e
    exact quot_lt h.pos h.hQ h.Rl (by omega)
theorem Est.fits {x2 v1 v0 u d Q R q rh : Int} (h : Est x2 v1 v0 u d Q R) (e : q * v1 + rh = u) (hq : Q ≤ q) (t : ¬ (q * v0 > 4294967296 * rh + d)) : q = Q := by
  have m := h.made e
  have := quot_le h.pos h.hQ h.Ru (q := q) (by omega)
  omega
theorem Est.over {x2 v1 v0 u d Q R q rh : Int} (h : Est x2 v1 v0 u d Q R) (e : q * v1 + rh = u) (hq : Q ≤ q) (hq' : q ≤ 4294967296) (t : rh ≥ 4294967296) : q = Q := by
  have m := h.made e
  have h0 : 0 ≤ q := by
    have := h.Ql
    omega
  have w : q * v0 ≤ 4294967296 * v0 := Int.mul_le_mul_of_nonneg_right hq' h.v0l
  have := h.v0u
  have := h.dl
  have := quot_le h.pos h.hQ h.Ru (q := q) (by omega)
  omega
theorem Est.word {x2 v1 v0 u d Q R q : Int} (h : Est x2 v1 v0 u d Q R) (hq : 0 ≤ q) (hq' : q < 4294967296) : 0 ≤ q * v0 ∧ q * v0 < 18446744073709551616 := by
  have w : q * v0 ≤ 4294967296 * v0 := Int.mul_le_mul_of_nonneg_right (by omega) h.v0l
  have := h.v0u
  exact ⟨Int.mul_nonneg hq h.v0l, by omega⟩
theorem wuu (x : Int) (h : 0 ≤ x) (h' : x < 18446744073709551616) : IntKind.u64.wrap x = x := by rw [IntKind.wrap_u64]; omega
theorem div_l0 {x2 v1 v0 u d Q R : Int} (h : Est x2 v1 v0 u d Q R) (x8 x14 : Int) : ∀ (n k : Nat) (q rh : Int), q * v1 + rh = u → Q ≤ q → q ≤ 4294967297 → 0 ≤ rh → rh < 4294967296 → 4294967296 ≤ rh + n * 2147483648 →
    ∃ k' : Nat, k' ≤ 2 * n ∧ bits_Div64.l0 (k + 2 * n) x2 x8 v1 v0 u d x14 q rh = bits_Div64.j2 (k + k') x2 x8 v1 v0 u d x14 Q
  | 0, k, q, rh, e, hq, hq1, r0, r1, hn => by omega
  | n + 1, k, q, rh, e, hq, hq1, r0, r1, hn => by
    have v1l := h.v1l
    have v1u := h.v1u
    have Ql := h.Ql
    have dl := h.dl
    have du := h.du
    have T : Q < q → ∃ k' : Nat, k' ≤ 2 * (n + 1) ∧ bits_Div64.j1 (k + 2 * n + 1) x2 x8 v1 v0 u d x14 q rh true = bits_Div64.j2 (k + k') x2 x8 v1 v0 u d x14 Q := by
      intro hlt
      have e' : (q - 1) * v1 + (rh + v1) = u := by rw [Int.sub_mul, Int.one_mul]; omega
      rw [bits_Div64.j1, if_pos rfl, wuu (rh + v1) (by omega) (by omega), wuu (q - 1) (by omega) (by omega)]
      by_cases hb : rh + v1 ≥ 4294967296
      · rw [if_pos hb, h.over e' (by omega) (by omega) hb]
        exact ⟨2 * n, by omega, rfl⟩
      · rw [if_neg hb]
        obtain ⟨k', hk, ee⟩ := div_l0 h x8 x14 n k (q - 1) (rh + v1) e' (by omega) (by omega) (by omega) (by omega) (by omega)
        exact ⟨k', by omega, ee⟩
    show ∃ k' : Nat, k' ≤ 2 * (n + 1) ∧ bits_Div64.l0 (k + 2 * n + 1 + 1) x2 x8 v1 v0 u d x14 q rh = bits_Div64.j2 (k + k') x2 x8 v1 v0 u d x14 Q
    rw [bits_Div64.l0]
    by_cases hb : q ≥ 4294967296
    · rw [if_pos hb]
      exact T (h.big e (.inl hb))
    · rw [if_neg hb]
      have w := h.word (q := q) (by omega) (by omega)
      rw [wuu (q * v0) w.1 w.2, wuu (4294967296 * rh) (by omega) (by omega), wuu (4294967296 * rh + d) (by omega) (by omega)]
      by_cases ht : q * v0 > 4294967296 * rh + d
      · rw [decide_eq_true ht]
        exact T (h.big e (.inr ht))
      · rw [decide_eq_false ht, bits_Div64.j1, if_neg (by simp), h.fits e hq ht]
        exact ⟨2 * n, by omega, rfl⟩
theorem div_l1 {x2 v1 v0 u d Q R : Int} (h : Est x2 v1 v0 u d Q R) (x8 x15 : Int) (h8 : 0 ≤ x8) : ∀ (n k : Nat) (q rh : Int), q * v1 + rh = u → Q ≤ q → q ≤ 4294967297 → 0 ≤ rh → rh < 4294967296 → 4294967296 ≤ rh + n * 2147483648 →
    bits_Div64.l1 (k + 2 * n) x2 x8 v1 v0 d x15 rh u q = some (IntKind.u64.wrap (IntKind.u64.wrap (x15 * 4294967296) + Q), shr .u64 (IntKind.u64.wrap (IntKind.u64.wrap (IntKind.u64.wrap (u * 4294967296) + d) - IntKind.u64.wrap (Q * x2))) x8)
  | 0, k, q, rh, e, hq, hq1, r0, r1, hn => by omega
  | n + 1, k, q, rh, e, hq, hq1, r0, r1, hn => by
    have v1l := h.v1l
    have v1u := h.v1u
    have Ql := h.Ql
    have dl := h.dl
    have du := h.du
    have T : Q < q → bits_Div64.j4 (k + 2 * n + 1) x2 x8 v1 v0 d x15 rh u q true = some (IntKind.u64.wrap (IntKind.u64.wrap (x15 * 4294967296) + Q), shr .u64 (IntKind.u64.wrap (IntKind.u64.wrap (IntKind.u64.wrap (u * 4294967296) + d) - IntKind.u64.wrap (Q * x2))) x8) := by
      intro hlt
      have e' : (q - 1) * v1 + (rh + v1) = u := by rw [Int.sub_mul, Int.one_mul]; omega
      rw [bits_Div64.j4, if_pos rfl, wuu (rh + v1) (by omega) (by omega), wuu (q - 1) (by omega) (by omega)]
      by_cases hb : rh + v1 ≥ 4294967296
      · rw [if_pos hb, if_pos h8, h.over e' (by omega) (by omega) hb]
      · rw [if_neg hb]
        exact div_l1 h x8 x15 h8 n k (q - 1) (rh + v1) e' (by omega) (by omega) (by omega) (by omega) (by omega)
    show bits_Div64.l1 (k + 2 * n + 1 + 1) x2 x8 v1 v0 d x15 rh u q = _
    rw [bits_Div64.l1]
    by_cases hb : q ≥ 4294967296
    · rw [if_pos hb]
      exact T (h.big e (.inl hb))
    · rw [if_neg hb]
      have w := h.word (q := q) (by omega) (by omega)
      rw [wuu (q * v0) w.1 w.2, wuu (4294967296 * rh) (by omega) (by omega), wuu (4294967296 * rh + d) (by omega) (by omega)]
      by_cases ht : q * v0 > 4294967296 * rh + d
      · rw [decide_eq_true ht]
        exact T (h.big e (.inr ht))
      · rw [decide_eq_false ht, bits_Div64.j4, if_neg (by simp), if_pos h8, h.fits e hq ht]
end Go.Proofs.Ytpkjpiphjdpegaa.P
namespace Go.Proofs.Ytpkjpiphjdpegaa.P
open Go.RowKit Go.Proofs.YtpkjpiphjdpegaaW.PrintWords Go.Proofs.YtpkjpiphjdpegaaW.PrintLast Go.Proofs.YtpkjpiphjdpegaaW.PrintMore
set_option linter.unusedVariables false
set_option linter.unusedSimpArgs false
def lenTab : ByteArray := (⟨#[0, 1, 2, 2, 3, 3, 3, 3, 4, 4, 4, 4, 4, 4, 4, 4, 5, 5, 5, 5, 5, 5, 5, 5, 5, 5, 5, 5, 5, 5, 5, 5, 6, 6, 6, 6, 6, 6, 6, 6, 6, 6, 6, 6, 6, 6, 6, 6, 6, 6, 6, 6, 6, 6, 6, 6, 6, 6, 6, 6, 6, 6, 6, 6, 7, 7, 7, 7, 7, 7, 7, 7, 7, 7, 7, 7, 7, 7, 7, 7, 7, 7, 7, 7, 7, 7, 7, 7, 7, 7, 7, 7, 7, 7, 7, 7, 7, 7, 7, 7, 7, 7, 7, 7, 7, 7, 7, 7, 7, 7, 7, 7, 7, 7, 7, 7, 7, 7, 7, 7, 7, 7, 7, 7, 7, 7, 7, 7, 8, 8, 8, 8, 8, 8, 8, 8, 8, 8, 8, 8, 8, 8, 8, 8, 8, 8, 8, 8, 8, 8, 8, 8, 8, 8, 8, 8, 8, 8, 8, 8, 8, 8, 8, 8, 8, 8, 8, 8, 8, 8, 8, 8, 8, 8, 8, 8, 8, 8, 8, 8, 8, 8, 8, 8, 8, 8, 8, 8, 8, 8, 8, 8, 8, 8, 8, 8, 8, 8, 8, 8, 8, 8, 8, 8, 8, 8, 8, 8, 8, 8, 8, 8, 8, 8, 8, 8, 8, 8, 8, 8, 8, 8, 8, 8, 8, 8, 8, 8, 8, 8, 8, 8, 8, 8, 8, 8, 8, 8, 8, 8, 8, 8, 8, 8, 8, 8, 8, 8, 8, 8, 8, 8, 8, 8, 8, 8]⟩ : ByteArray)
set_option maxRecDepth 100000 in
theorem lenTab_all : ∀ b : Fin 256, 0 < b.val → ∃ n : Fin 9, bt lenTab (b.val : Int) = (n.val : Int) ∧ 2 ^ n.val ≤ 2 * b.val ∧ b.val < 2 ^ n.val := by decide +kernel
theorem lenTab_is (b : Int) (h0 : 0 < b) (h1 : b < 256) : ∃ n : Nat, n ≤ 8 ∧ 1 ≤ n ∧ bt lenTab b = (n : Int) ∧ (2 : Nat) ^ n ≤ 2 * b.toNat ∧ b.toNat < 2 ^ n := by
  obtain ⟨n, e, l, u⟩ := lenTab_all ⟨b.toNat, by omega⟩ (by show 0 < b.toNat; omega)
  have hb : ((⟨b.toNat, by omega⟩ : Fin 256).val : Int) = b := by show (b.toNat : Int) = b; omega
  rw [hb] at e
  refine ⟨n.val, by omega, ?_, e, l, u⟩
  rcases Nat.eq_zero_or_pos n.val with h | h
  · rw [h] at u
    have : b.toNat < 1 := u
    omega
  · exact h
structure Len (x : Int) (n : Nat) : Prop where
  pos : 1 ≤ n
  le : n ≤ 64
  low : 9223372036854775808 ≤ x * ((2 ^ (64 - n) : Nat) : Int)
  high : x * ((2 ^ (64 - n) : Nat) : Int) < 18446744073709551616
theorem len_at (x : Int) (off n : Nat) (hx : 0 < x) (P : Nat) (hP : P = 2 ^ off) (hn : n ≤ 8) (hn1 : 1 ≤ n) (ho : off + n ≤ 64) (b : Int) (hb : b = x / (P : Int)) (hb0 : 0 < b) (l : (2 : Nat) ^ n ≤ 2 * b.toNat) (u : b.toNat < 2 ^ n) : Len x (off + n) := by
  obtain ⟨X, rfl⟩ := Int.eq_ofNat_of_zero_le (Int.le_of_lt hx)
  have hPp : 0 < P := by rw [hP]; exact Nat.two_pow_pos _
  have eb : b = ((X / P : Nat) : Int) := by rw [hb]; rfl
  have eb' : b.toNat = X / P := by omega
  rw [eb'] at l u
  have h1 : P * (X / P) ≤ X := Nat.mul_div_le X P
  have h2 : X < P * 2 ^ n := by
    have := Nat.lt_mul_of_div_lt u hPp
    rw [Nat.mul_comm] at this
    exact this
  have e64 : P * 2 ^ n * 2 ^ (64 - (off + n)) = 2 ^ 64 := by
    rw [hP, ← Nat.pow_add, ← Nat.pow_add]
    congr 1
    omega
  have hQ : 0 < 2 ^ (64 - (off + n)) := Nat.two_pow_pos _
  have l2 : P * 2 ^ n ≤ 2 * X := by
    have := Nat.mul_le_mul_left P l
    rw [Nat.mul_left_comm] at this
    omega
  refine ⟨by omega, ho, ?_, ?_⟩
  · have := Nat.mul_le_mul_right (2 ^ (64 - (off + n))) l2
    rw [e64, Nat.mul_assoc] at this
    have h : (9223372036854775808 : Nat) ≤ X * 2 ^ (64 - (off + n)) := by
      have e : (2 : Nat) ^ 64 = 18446744073709551616 := by decide
      omega
    rw [← Int.natCast_mul]
    exact Int.ofNat_le.2 h
  · have := Nat.mul_lt_mul_of_pos_right h2 hQ
    rw [e64] at this
    rw [← Int.natCast_mul]
    exact Int.ofNat_lt.2 this
theorem len_part (x y base : Int) (off : Nat) (P : Nat) (hP : P = 2 ^ off) (hx : 0 < x) (b : Int) (hb : b = x / (P : Int)) (hb0 : 0 < b) (hb1 : b < 256) (ho : off ≤ 56) (hbase : y = (off : Int)) :
    ∃ n : Nat, wrap64 (y + wrap64 (bt lenTab b)) = (n : Int) ∧ Len x n := by
  obtain ⟨n, h1, h2, e, l, u⟩ := lenTab_is b hb0 hb1
  refine ⟨off + n, ?_, len_at x off n hx P hP h1 h2 (by omega) b hb hb0 l u⟩
  rw [e, hbase, wi (n : Int) (by omega) (by omega), wi _ (by omega) (by omega)]
  omega
theorem len_j (x : Int) (hx : 0 < x) (k : Nat) (y base : Int) (off : Nat) (hy : 0 < y) (hy1 : y < 4294967296) (P : Nat) (hP : P = 2 ^ off) (hyx : y = x / (P : Int)) (ho : off = 0 ∨ off = 32) (hb : base = (off : Int)) :
    ∃ n : Nat, bits_Len64.j0 (k + 1) y base = some (n : Int) ∧ Len x n := by
  rw [bits_Len64.j0, show (⟨#[0, 1, 2, 2, 3, 3, 3, 3, 4, 4, 4, 4, 4, 4, 4, 4, 5, 5, 5, 5, 5, 5, 5, 5, 5, 5, 5, 5, 5, 5, 5, 5, 6, 6, 6, 6, 6, 6, 6, 6, 6, 6, 6, 6, 6, 6, 6, 6, 6, 6, 6, 6, 6, 6, 6, 6, 6, 6, 6, 6, 6, 6, 6, 6, 7, 7, 7, 7, 7, 7, 7, 7, 7, 7, 7, 7, 7, 7, 7, 7, 7, 7, 7, 7, 7, 7, 7, 7, 7, 7, 7, 7, 7, 7, 7, 7, 7, 7, 7, 7, 7, 7, 7, 7, 7, 7, 7, 7, 7, 7, 7, 7, 7, 7, 7, 7, 7, 7, 7, 7, 7, 7, 7, 7, 7, 7, 7, 7, 8, 8, 8, 8, 8, 8, 8, 8, 8, 8, 8, 8, 8, 8, 8, 8, 8, 8, 8, 8, 8, 8, 8, 8, 8, 8, 8, 8, 8, 8, 8, 8, 8, 8, 8, 8, 8, 8, 8, 8, 8, 8, 8, 8, 8, 8, 8, 8, 8, 8, 8, 8, 8, 8, 8, 8, 8, 8, 8, 8, 8, 8, 8, 8, 8, 8, 8, 8, 8, 8, 8, 8, 8, 8, 8, 8, 8, 8, 8, 8, 8, 8, 8, 8, 8, 8, 8, 8, 8, 8, 8, 8, 8, 8, 8, 8, 8, 8, 8, 8, 8, 8, 8, 8, 8, 8, 8, 8, 8, 8, 8, 8, 8, 8, 8, 8, 8, 8, 8, 8, 8, 8, 8, 8, 8, 8, 8, 8]⟩ : ByteArray) = lenTab from rfl]
  have hPP : (P : Int) = 1 ∨ (P : Int) = 4294967296 := by
    rcases ho with rfl | rfl
    · left; rw [hP]; rfl
    · right; rw [hP]; rfl
  have wb : ∀ a c : Int, base + a = c → 0 ≤ a → a ≤ 100 → wrap64 (base + a) = c := by
    intro a c e a0 a1
    rw [e, wi _ (by omega) (by omega)]
  have p : ∀ (m : Nat), m ≤ 24 → ((P * 2 ^ m : Nat) = 2 ^ (off + m)) := by
    intro m hm
    rw [hP, ← Nat.pow_add]
  by_cases h1 : y ≥ 65536
  · rw [if_pos h1]
    by_cases h2 : y / 65536 ≥ 256
    · rw [if_pos h2, if_pos (by omega), if_pos (by omega), wb 16 (base + 16) rfl (by omega) (by omega), wi (base + 16 + 8) (by omega) (by omega)]
      obtain ⟨n, e, hl⟩ := len_part x (base + 16 + 8) base (off + 24) (P * 2 ^ 24) (p 24 (by omega)) hx (y / 65536 / 256 % 256) (by rcases hPP with h | h <;> (rw [h] at hyx; rw [Int.natCast_mul, h]; omega)) (by omega) (by omega) (by omega) (by omega)
      exact ⟨n, by rw [e], hl⟩
    · rw [if_neg h2, if_pos (by omega), if_pos (by omega), wb 16 (base + 16) rfl (by omega) (by omega)]
      obtain ⟨n, e, hl⟩ := len_part x (base + 16) base (off + 16) (P * 2 ^ 16) (p 16 (by omega)) hx (y / 65536 % 256) (by rcases hPP with h | h <;> (rw [h] at hyx; rw [Int.natCast_mul, h]; omega)) (by omega) (by omega) (by omega) (by omega)
      exact ⟨n, by rw [e], hl⟩
  · rw [if_neg h1]
    by_cases h2 : y ≥ 256
    · rw [if_pos h2, if_pos (by omega), if_pos (by omega), wb 8 (base + 8) rfl (by omega) (by omega)]
      obtain ⟨n, e, hl⟩ := len_part x (base + 8) base (off + 8) (P * 2 ^ 8) (p 8 (by omega)) hx (y / 256 % 256) (by rcases hPP with h | h <;> (rw [h] at hyx; rw [Int.natCast_mul, h]; omega)) (by omega) (by omega) (by omega) (by omega)
      exact ⟨n, by rw [e], hl⟩
    · rw [if_neg h2, if_pos (by omega), if_pos (by omega)]
      obtain ⟨n, e, hl⟩ := len_part x base base off P hP hx (y % 256) (by rcases hPP with h | h <;> (rw [h] at hyx; rw [h]; omega)) (by omega) (by omega) (by omega) (by omega)
      exact ⟨n, by rw [e], hl⟩
theorem lead_is (x : Int) (hx : 0 < x) (hx1 : x < 18446744073709551616) (k : Nat) : ∃ s : Nat, s ≤ 63 ∧ bits_LeadingZeros64.f (k + 1) x = some (s : Int) ∧ 9223372036854775808 ≤ x * ((2 ^ s : Nat) : Int) ∧ x * ((2 ^ s : Nat) : Int) < 18446744073709551616 := by
  have H : ∃ n : Nat, bits_Len64.f (k + 1) x = some (n : Int) ∧ Len x n := by
    unfold bits_Len64.f
    by_cases h : x ≥ 4294967296
    · rw [if_pos h]
      exact len_j x hx k (x / 4294967296) 32 32 (by omega) (by omega) 4294967296 (by decide) rfl (.inr rfl) rfl
    · rw [if_neg h]
      exact len_j x hx k x 0 0 (by omega) (by omega) 1 (by decide) (by omega) (.inl rfl) rfl
  obtain ⟨n, e, hl⟩ := H
  have := hl.pos
  have := hl.le
  refine ⟨64 - n, by omega, ?_, hl.low, hl.high⟩
  unfold bits_LeadingZeros64.f
  rw [e]
  simp only [Option.bind_some]
  rw [wi _ (by omega) (by omega)]
  congr 1
  omega
end Go.Proofs.Ytpkjpiphjdpegaa.P
namespace Go.Proofs.Ytpkjpiphjdpegaa.P
open Go.RowKit Go.Proofs.YtpkjpiphjdpegaaW.PrintWords Go.Proofs.YtpkjpiphjdpegaaW.PrintLast Go.Proofs.YtpkjpiphjdpegaaW.PrintMore
set_option linter.unusedVariables false
set_option linter.unusedSimpArgs false
theorem shl_is (x : Int) (s : Nat) (hs : s ≤ 64) : shl .u64 x (s : Int) = IntKind.u64.wrap (x * ((2 ^ s : Nat) : Int)) := by
  unfold shl
  rw [show ((s : Int)).toNat = s by omega, show min s IntKind.u64.bits = s from Nat.min_eq_left hs, Int.natCast_pow]
  rfl
theorem shr_is (x : Int) (s : Nat) (hs : s ≤ 64) : shr .u64 x (s : Int) = x / ((2 ^ s : Nat) : Int) := by
  unfold shr
  rw [show ((s : Int)).toNat = s by omega, show min s IntKind.u64.bits = s from Nat.min_eq_left hs, Int.natCast_pow]
  rfl
theorem mask_is (x : Int) (h0 : 0 ≤ x) (h1 : x < 18446744073709551616) : Go.bits .and .u64 x 4294967295 = x % 4294967296 := by
  obtain ⟨X, rfl⟩ := Int.eq_ofNat_of_zero_le h0
  rw [Go.Proofs.Mul64.maskN X (by omega)]
  omega
theorem or_is2 (x y : Int) (s : Nat) (hx : 0 ≤ x) (hx1 : x < 18446744073709551616) (hd : x % ((2 ^ s : Nat) : Int) = 0) (hy : 0 ≤ y) (hy1 : y < ((2 ^ s : Nat) : Int)) (hs : s ≤ 63) : Go.bits .or .u64 x y = x + y := by
  have e : ((2 ^ s : Nat) : Int) = 2 ^ s := by rw [Int.natCast_pow]; rfl
  have hle : (2 : Nat) ^ s ≤ 2 ^ 63 := Nat.pow_le_pow_right (by omega) hs
  have hle' : ((2 ^ s : Nat) : Int) ≤ 9223372036854775808 := Int.ofNat_le.2 hle
  rw [e] at hd
  refine bits_join .u64 64 (by decide) (fun n h0 h1 => wuu n h0 (by omega)) s x y hx hd (by omega) hy (by rw [← e]; exact hy1) (by omega)
theorem est_mk (V u d : Int) (hV : 9223372036854775808 ≤ V) (hV1 : V < 18446744073709551616) (hu : 0 ≤ u) (hu1 : u < V) (hd : 0 ≤ d) (hd1 : d < 4294967296) :
    Est V (V / 4294967296) (V % 4294967296) u d ((u * 4294967296 + d) / V) ((u * 4294967296 + d) % V) :=
  ⟨by omega, by omega, by omega, by omega, by omega, hd, hd1, hu, Int.ediv_mul_add_emod _ _, Int.emod_nonneg _ (by omega), Int.emod_lt_of_pos _ (by omega), Int.ediv_nonneg (by omega) (by omega),
    Int.ediv_lt_of_lt_mul (by omega) (by omega)⟩
theorem Est.first {x2 v1 v0 u d Q R : Int} (h : Est x2 v1 v0 u d Q R) : Q ≤ u / v1 ∧ u / v1 ≤ 4294967297 ∧ u / v1 * v1 + u % v1 = u ∧ 0 ≤ u % v1 ∧ u % v1 < 4294967296 := by
  obtain ⟨hy, v1l, v1u, v0l, v0u, dl, du, ul, hQ, Rl, Ru, Ql, Qu⟩ := h
  have e : Q * x2 = Q * v1 * 4294967296 + Q * v0 := by rw [hy, Int.mul_add, ← Int.mul_assoc]
  have w := Int.mul_nonneg Ql v0l
  have hv : 0 < v1 := by omega
  have q1 := Int.emod_lt_of_pos u hv
  have q0 := Int.emod_nonneg u (show v1 ≠ 0 by omega)
  have hm : Q * x2 ≤ 4294967295 * x2 := Int.mul_le_mul_of_nonneg_right (by omega) (by omega)
  have hlt : u < 4294967298 * v1 := by omega
  have := Int.ediv_lt_of_lt_mul hv hlt
  exact ⟨Int.le_ediv_of_mul_le hv (by omega), by omega, Int.ediv_mul_add_emod _ _, q0, by omega⟩
theorem div_core (V u d1 d0 : Int) (s : Nat) (hs : s ≤ 63) (hV : 9223372036854775808 ≤ V) (hV1 : V < 18446744073709551616) (hu : 0 ≤ u) (hu1 : u < V) (hd : 0 ≤ d1) (hd1 : d1 < 4294967296) (hd' : 0 ≤ d0) (hd1' : d0 < 4294967296) (k : Nat) :
    ∃ Qt R : Int, bits_Div64.l0 (k + 16) V (s : Int) (V / 4294967296) (V % 4294967296) u d1 d0 (IntKind.u64.wrap (Int.tdiv u (V / 4294967296))) (IntKind.u64.wrap (u - IntKind.u64.wrap (IntKind.u64.wrap (Int.tdiv u (V / 4294967296)) * (V / 4294967296)))) = some (Qt, R / ((2 ^ s : Nat) : Int)) ∧
      Qt * V + R = (u * 4294967296 + d1) * 4294967296 + d0 ∧ 0 ≤ R ∧ R < V ∧ 0 ≤ Qt ∧ Qt < 18446744073709551616 := by
  have E := est_mk V u d1 hV hV1 hu hu1 hd hd1
  obtain ⟨f1, f2, f3, f4, f5⟩ := E.first
  have hR0 := E.Rl
  have hR1 := E.Ru
  have hQ0 := E.Ql
  have hQ1 := E.Qu
  have hE := E.hQ
  have hdiv : ∀ x : Int, 0 ≤ x → x < V → IntKind.u64.wrap (Int.tdiv x (V / 4294967296)) = x / (V / 4294967296) := by
    intro x h0 h1
    have hp := Int.ediv_nonneg h0 (show 0 ≤ V / 4294967296 by omega)
    have hq : x / (V / 4294967296) ≤ x := Int.ediv_le_self _ h0
    rw [Int.tdiv_eq_ediv_of_nonneg h0, wuu _ hp (by omega)]
  have hrest : ∀ x : Int, 0 ≤ x → x < V → IntKind.u64.wrap (x - IntKind.u64.wrap (x / (V / 4294967296) * (V / 4294967296))) = x % (V / 4294967296) := by
    intro x h0 h1
    have e := Int.ediv_mul_add_emod x (V / 4294967296)
    have r0 := Int.emod_nonneg x (show V / 4294967296 ≠ 0 by omega)
    have r1 := Int.emod_lt_of_pos x (show 0 < V / 4294967296 by omega)
    have p0 := Int.mul_nonneg (Int.ediv_nonneg h0 (show 0 ≤ V / 4294967296 by omega)) (show 0 ≤ V / 4294967296 by omega)
    generalize x / (V / 4294967296) * (V / 4294967296) = P at *
    rw [wuu P p0 (by omega), wuu _ (by omega) (by omega)]
    omega
  rw [hdiv u hu hu1, hrest u hu hu1]
  generalize hQn : (u * 4294967296 + d1) / V = Q1 at *
  generalize hRn : (u * 4294967296 + d1) % V = R1 at *
  obtain ⟨k', hk, e1⟩ := div_l0 E (s : Int) d0 2 (k + 12) (u / (V / 4294967296)) (u % (V / 4294967296)) f3 f1 f2 f4 f5 (by omega)
  have E2 := est_mk V R1 d0 hV hV1 hR0 hR1 hd' hd1'
  obtain ⟨g1, g2, g3, g4, g5⟩ := E2.first
  have hR20 := E2.Rl
  have hR21 := E2.Ru
  have hQ20 := E2.Ql
  have hQ21 := E2.Qu
  have hE2 := E2.hQ
  have hd2 := hdiv R1 hR0 hR1
  have hr2 := hrest R1 hR0 hR1
  generalize (R1 * 4294967296 + d0) / V = Q0 at *
  generalize (R1 * 4294967296 + d0) % V = R0 at *
  have e2 := div_l1 E2 (s : Int) Q1 (by omega) 2 (k + 7 + k') (R1 / (V / 4294967296)) (R1 % (V / 4294967296)) g3 g1 g2 g4 g5 (by omega)
  have u21 : IntKind.u64.wrap (IntKind.u64.wrap (IntKind.u64.wrap (u * 4294967296) + d1) - IntKind.u64.wrap (Q1 * V)) = R1 := by
    generalize Q1 * V = P at *
    rw [IntKind.wrap_u64, IntKind.wrap_u64, IntKind.wrap_u64, IntKind.wrap_u64]
    omega
  have u20 : IntKind.u64.wrap (IntKind.u64.wrap (IntKind.u64.wrap (R1 * 4294967296) + d0) - IntKind.u64.wrap (Q0 * V)) = R0 := by
    generalize Q0 * V = P at *
    rw [IntKind.wrap_u64, IntKind.wrap_u64, IntKind.wrap_u64, IntKind.wrap_u64]
    omega
  have e3 : bits_Div64.l0 (k + 16) V (s : Int) (V / 4294967296) (V % 4294967296) u d1 d0 (u / (V / 4294967296)) (u % (V / 4294967296)) = bits_Div64.j2 (k + 12 + k') V (s : Int) (V / 4294967296) (V % 4294967296) u d1 d0 Q1 := e1
  refine ⟨Q1 * 4294967296 + Q0, R0, ?_, ?_, hR20, hR21, by omega, by omega⟩
  · rw [e3, show k + 12 + k' = (k + 11 + k') + 1 by omega, bits_Div64.j2, if_neg (by omega), u21, hd2, hr2, show k + 11 + k' = k + 7 + k' + 2 * 2 by omega, e2, u20, shr_is R0 s (by omega), wuu (Q1 * 4294967296) (by omega) (by omega), wuu _ (by omega) (by omega)]
  · rw [Int.add_mul, Int.mul_right_comm]
    omega
theorem div64_is (hi lo y : Int) (h1 : U64 hi) (h2 : U64 lo) (h3 : U64 y) (hlt : hi < y) (k : Nat) :
    bits_Div64.f (k + 20) hi lo y = some ((hi * 18446744073709551616 + lo) / y, (hi * 18446744073709551616 + lo) % y) := by
  obtain ⟨a0, a1⟩ := h1
  obtain ⟨b0, b1⟩ := h2
  obtain ⟨c0, c1⟩ := h3
  unfold bits_Div64.f
  rw [if_neg (by omega), if_neg (by omega)]
  by_cases h0 : hi = 0
  · subst h0
    have hq : lo / y ≤ lo := Int.ediv_le_self _ b0
    have hq0 := Int.ediv_nonneg b0 (show 0 ≤ y by omega)
    rw [if_pos rfl, Int.tdiv_eq_ediv_of_nonneg b0, Int.tmod_eq_emod_of_nonneg b0, wuu _ hq0 (by omega), show (0 : Int) * 18446744073709551616 + lo = lo by omega]
  rw [if_neg h0]
  obtain ⟨s, hs, es, low, high⟩ := lead_is y (by omega) c1 (k + 19)
  have es' : bits_LeadingZeros64.f (k + 20) y = some (s : Int) := es
  rw [es']
  simp only [Option.bind_some]
  have hST : (2 ^ s) * (2 ^ (64 - s)) = (18446744073709551616 : Nat) := by
    rw [← Nat.pow_add, show s + (64 - s) = 64 by omega]
  have hSp : 0 < 2 ^ s := Nat.two_pow_pos s
  have hTp : 0 < 2 ^ (64 - s) := Nat.two_pow_pos (64 - s)
  have hSi : ((2 ^ s : Nat) : Int) * ((2 ^ (64 - s) : Nat) : Int) = 18446744073709551616 := by
    rw [← Int.natCast_mul, hST]
    rfl
  have hle : (2 : Nat) ^ s ≤ 2 ^ 63 := Nat.pow_le_pow_right (by omega) hs
  have hle' : ((2 ^ s : Nat) : Int) ≤ 9223372036854775808 := Int.ofNat_le.2 hle
  rw [wuu (s : Int) (by omega) (by omega), wuu (64 - (s : Int)) (by omega) (by omega), if_pos (by omega), if_pos (by omega), show (64 : Int) - (s : Int) = ((64 - s : Nat) : Int) by omega]
  rw [shl_is y s (by omega), shl_is hi s (by omega), shl_is lo s (by omega), shr_is lo (64 - s) (by omega)]
  have hor : ∀ x z, _ := fun x z => or_is2 x z s
  generalize hS : ((2 ^ s : Nat) : Int) = S at *
  generalize hT : ((2 ^ (64 - s) : Nat) : Int) = T at *
  have hS0 : 0 < S := by omega
  have hT0 : 0 < T := by omega
  have hL : lo / T = lo * S / 18446744073709551616 := by
    rw [← hSi, Int.mul_comm S T, Int.mul_ediv_mul_of_pos_left _ _ hS0]
  have hH : (hi + 1) * S ≤ y * S := Int.mul_le_mul_of_nonneg_right (by omega) (by omega)
  rw [Int.add_mul, Int.one_mul] at hH
  have hH0 : 0 ≤ hi * S := Int.mul_nonneg a0 (by omega)
  have hHd : hi * S % S = 0 := Int.mul_emod_left hi S
  have hL0 : 0 ≤ lo * S := Int.mul_nonneg b0 (by omega)
  have hL1 : lo * S ≤ 18446744073709551615 * S := Int.mul_le_mul_of_nonneg_right (by omega) (by omega)
  have hN : (hi * 18446744073709551616 + lo) * S = hi * S * 18446744073709551616 + lo * S := by rw [Int.add_mul, Int.mul_right_comm]
  have hMS := Int.mul_ediv_mul_of_pos_left (hi * 18446744073709551616 + lo) y hS0
  have hMr := Int.mul_emod_mul_of_pos (hi * 18446744073709551616 + lo) y hS0
  rw [Int.mul_comm S, Int.mul_comm S] at hMr
  rw [hN] at hMS hMr
  rw [hL]
  generalize hi * S = H at *
  generalize lo * S = L at *
  generalize y * S = V at *
  rw [wuu V (by omega) high, wuu H hH0 (by omega), hor H (L / 18446744073709551616) hH0 (by omega) hHd (by omega) (by omega) hs, mask_is V (by omega) high, show IntKind.u64.wrap L = L % 18446744073709551616 from IntKind.wrap_u64 L, mask_is (L % 18446744073709551616) (by omega) (by omega), if_neg (by omega)]
  obtain ⟨Qt, R, e, eq, r0, r1, q0, q1⟩ := div_core V (H + L / 18446744073709551616) (L % 18446744073709551616 / 4294967296) (L % 18446744073709551616 % 4294967296) s hs low high (by omega) (by omega) (by omega) (by omega) (by omega) (by omega) (k + 4)
  rw [hS] at e
  have hTt : H * 18446744073709551616 + L = R + V * Qt := by rw [Int.mul_comm V]; omega
  obtain ⟨d1, d2⟩ := (Int.ediv_emod_unique (show 0 < V by omega)).2 ⟨hTt.symm, r0, r1⟩
  rw [hMS] at d1
  rw [hMr, Int.mul_comm] at d2
  have hr : R / S = (hi * 18446744073709551616 + lo) % y := by rw [← d2]; exact Int.mul_ediv_cancel _ (by omega)
  rw [← hr, d1]
  exact e
end Go.Proofs.Ytpkjpiphjdpegaa.P
namespace Go.Proofs.Ytpkjpiphjdpegaa.P
open Go.RowKit Go.Proofs.YtpkjpiphjdpegaaW.PrintWords Go.Proofs.YtpkjpiphjdpegaaW.PrintLast Go.Proofs.YtpkjpiphjdpegaaW.PrintMore
set_option linter.unusedVariables false
set_option linter.unusedSimpArgs false
theorem dg_cases (hi lo : Int) (h : U64 hi) (h' : U64 lo) : ∃ d0 d1 d2 d3 d4 d5 d6 d7 : Int, dg hi lo = [d0, d1, d2, d3, d4, d5, d6, d7] ∧ D16 d0 ∧ D16 d1 ∧ D16 d2 ∧ D16 d3 ∧ D16 d4 ∧ D16 d5 ∧ D16 d6 ∧ D16 d7 ∧ hi = hf d4 d5 d6 d7 ∧ lo = hf d0 d1 d2 d3 := by
  obtain ⟨d0, d1, d2, d3, e0, e1, e2, e3, h0, h1, h2, h3, hl⟩ := split4 lo h'
  obtain ⟨d4, d5, d6, d7, e4, e5, e6, e7, h4, h5, h6, h7, hh⟩ := split4 hi h
  refine ⟨d0, d1, d2, d3, d4, d5, d6, d7, ?_, h0, h1, h2, h3, h4, h5, h6, h7, hh, hl⟩
  unfold dg
  rw [e0, e1, e2, e3, e4, e5, e6, e7]
theorem add_step {k : Nat} (X Y out : List Int) (c i j x y : Int) (hj : j = i + 1) (h0 : 0 ≤ i) (h8 : i < 8) (hX : (X.length : Int) = 8) (hY : (Y.length : Int) = 8) (hx : rd X i = x) (hy : rd Y i = y) (dx : D16 x) (dy : D16 y) (hc : 0 ≤ c) (hc1 : c ≤ 1) (hl : out.length < 100) :
    paymasterref01_Add.l0 (k + 1) X Y c out i = paymasterref01_Add.l0 k X Y ((x + y + c) / 65536) (out ++ [(x + y + c) % 65536]) j := by
  obtain ⟨x0, x1⟩ := dx
  obtain ⟨y0, y1⟩ := dy
  subst hj hx hy
  simp only [paymasterref01_Add.l0]
  rw [if_pos h8, if_pos h0, if_pos (by omega), if_pos (by omega), if_pos (by omega), wu (rd X i + rd Y i) (by omega) (by omega), wu (rd X i + rd Y i + c) (by omega) (by omega), tm _ (by omega), td _ (by omega), wu _ (by omega) (by omega), wi _ (by omega) (by omega)]
theorem sum_digits (x0 x1 x2 x3 x4 x5 x6 x7 : Int) : hf x4 x5 x6 x7 * 18446744073709551616 + hf x0 x1 x2 x3 = x0 + x1 * 65536 + x2 * 4294967296 + x3 * 281474976710656 + x4 * 18446744073709551616 + x5 * 1208925819614629174706176 + x6 * 79228162514264337593543950336 + x7 * 5192296858534827628530496329220096 := by
  unfold hf; omega
theorem hf_range (a b c d : Int) (ha : D16 a) (hb : D16 b) (hc : D16 c) (hd : D16 d) : U64 (hf a b c d) := by
  unfold D16 at *; unfold hf; constructor <;> omega
theorem halves (n hi lo : Int) (h : U64 lo) (e : n = hi * 18446744073709551616 + lo) : hiOf n = hi ∧ loOf n = lo := by
  unfold hiOf loOf; constructor <;> omega
set_option maxHeartbeats 400000 in
theorem refAdd_is (k : Nat) (a b c d : Int) (ha : U64 a) (hb : U64 b) (hc : U64 c) (hd : U64 d) : paymasterref01_Add.f (k + 50) a b c d = u128_Add.f a b c d := by
  unfold paymasterref01_Add.f
  have A : paymasterref01_digits.f (k + 50) a b = some (dg a b) := digits_is (k + 40) a b ha hb
  have B : paymasterref01_digits.f (k + 50) c d = some (dg c d) := digits_is (k + 40) c d hc hd
  rw [A, B]
  clear A B
  simp only [Option.bind_some]
  obtain ⟨x0, x1, x2, x3, x4, x5, x6, x7, eX, hx0, hx1, hx2, hx3, hx4, hx5, hx6, hx7, va, vb⟩ := dg_cases a b ha hb
  obtain ⟨y0, y1, y2, y3, y4, y5, y6, y7, eY, hy0, hy1, hy2, hy3, hy4, hy5, hy6, hy7, vc, vd⟩ := dg_cases c d hc hd
  have lx : ((dg a b).length : Int) = 8 := rfl
  have ly : ((dg c d).length : Int) = 8 := rfl
  have e0 : rd (dg a b) 0 = x0 := by rw [eX]; rfl
  have e1 : rd (dg a b) 1 = x1 := by rw [eX]; rfl
  have e2 : rd (dg a b) 2 = x2 := by rw [eX]; rfl
  have e3 : rd (dg a b) 3 = x3 := by rw [eX]; rfl
  have e4 : rd (dg a b) 4 = x4 := by rw [eX]; rfl
  have e5 : rd (dg a b) 5 = x5 := by rw [eX]; rfl
  have e6 : rd (dg a b) 6 = x6 := by rw [eX]; rfl
  have e7 : rd (dg a b) 7 = x7 := by rw [eX]; rfl
  have f0 : rd (dg c d) 0 = y0 := by rw [eY]; rfl
  have f1 : rd (dg c d) 1 = y1 := by rw [eY]; rfl
  have f2 : rd (dg c d) 2 = y2 := by rw [eY]; rfl
  have f3 : rd (dg c d) 3 = y3 := by rw [eY]; rfl
  have f4 : rd (dg c d) 4 = y4 := by rw [eY]; rfl
  have f5 : rd (dg c d) 5 = y5 := by rw [eY]; rfl
  have f6 : rd (dg c d) 6 = y6 := by rw [eY]; rfl
  have f7 : rd (dg c d) 7 = y7 := by rw [eY]; rfl
  generalize dg a b = X at *
  generalize dg c d = Y at *
  have vx : val a b = x0 + x1 * 65536 + x2 * 4294967296 + x3 * 281474976710656 + x4 * 18446744073709551616 + x5 * 1208925819614629174706176 + x6 * 79228162514264337593543950336 + x7 * 5192296858534827628530496329220096 := by
    unfold val; rw [va, vb, sum_digits]
  have vy : val c d = y0 + y1 * 65536 + y2 * 4294967296 + y3 * 281474976710656 + y4 * 18446744073709551616 + y5 * 1208925819614629174706176 + y6 * 79228162514264337593543950336 + y7 * 5192296858534827628530496329220096 := by
    unfold val; rw [vc, vd, sum_digits]
  clear eX eY va vb vc vd
  have key : ∀ x y c : Int, D16 x → D16 y → 0 ≤ c → c ≤ 1 → ∃ s q : Int, (x + y + c) % 65536 = s ∧ (x + y + c) / 65536 = q ∧ D16 s ∧ 0 ≤ q ∧ q ≤ 1 ∧ x + y + c = q * 65536 + s := by
    intro x y c hx hy h0 h1
    unfold D16 at *
    exact ⟨_, _, rfl, rfl, by omega, by omega, by omega, by omega⟩
  obtain ⟨s0, c1, p0, q0, t0, g0, g0', v0⟩ := key x0 y0 0 hx0 hy0 (by omega) (by omega)
  obtain ⟨s1, c2, p1, q1, t1, g1, g1', v1⟩ := key x1 y1 c1 hx1 hy1 g0 g0'
  obtain ⟨s2, c3, p2, q2, t2, g2, g2', v2⟩ := key x2 y2 c2 hx2 hy2 g1 g1'
  obtain ⟨s3, c4, p3, q3, t3, g3, g3', v3⟩ := key x3 y3 c3 hx3 hy3 g2 g2'
  obtain ⟨s4, c5, p4, q4, t4, g4, g4', v4⟩ := key x4 y4 c4 hx4 hy4 g3 g3'
  obtain ⟨s5, c6, p5, q5, t5, g5, g5', v5⟩ := key x5 y5 c5 hx5 hy5 g4 g4'
  obtain ⟨s6, c7, p6, q6, t6, g6, g6', v6⟩ := key x6 y6 c6 hx6 hy6 g5 g5'
  obtain ⟨s7, c8, p7, q7, t7, g7, g7', v7⟩ := key x7 y7 c7 hx7 hy7 g6 g6'
  refine (add_step (k := k + 49) X Y [] 0 0 1 x0 y0 rfl (by omega) (by omega) lx ly e0 f0 hx0 hy0 (by omega) (by omega) (by simp)).trans ?_
  rw [p0, q0]
  simp only [List.nil_append]
  refine (add_step (k := k + 48) X Y [s0] c1 1 2 x1 y1 rfl (by omega) (by omega) lx ly e1 f1 hx1 hy1 g0 g0' (by simp)).trans ?_
  rw [p1, q1]
  simp only [List.cons_append, List.nil_append]
  refine (add_step (k := k + 47) X Y [s0, s1] c2 2 3 x2 y2 rfl (by omega) (by omega) lx ly e2 f2 hx2 hy2 g1 g1' (by simp)).trans ?_
  rw [p2, q2]
  simp only [List.cons_append, List.nil_append]
  refine (add_step (k := k + 46) X Y [s0, s1, s2] c3 3 4 x3 y3 rfl (by omega) (by omega) lx ly e3 f3 hx3 hy3 g2 g2' (by simp)).trans ?_
  rw [p3, q3]
  simp only [List.cons_append, List.nil_append]
  refine (add_step (k := k + 45) X Y [s0, s1, s2, s3] c4 4 5 x4 y4 rfl (by omega) (by omega) lx ly e4 f4 hx4 hy4 g3 g3' (by simp)).trans ?_
  rw [p4, q4]
  simp only [List.cons_append, List.nil_append]
  refine (add_step (k := k + 44) X Y [s0, s1, s2, s3, s4] c5 5 6 x5 y5 rfl (by omega) (by omega) lx ly e5 f5 hx5 hy5 g4 g4' (by simp)).trans ?_
  rw [p5, q5]
  simp only [List.cons_append, List.nil_append]
  refine (add_step (k := k + 43) X Y [s0, s1, s2, s3, s4, s5] c6 6 7 x6 y6 rfl (by omega) (by omega) lx ly e6 f6 hx6 hy6 g5 g5' (by simp)).trans ?_
  rw [p6, q6]
  simp only [List.cons_append, List.nil_append]
  refine (add_step (k := k + 42) X Y [s0, s1, s2, s3, s4, s5, s6] c7 7 8 x7 y7 rfl (by omega) (by omega) lx ly e7 f7 hx7 hy7 g6 g6' (by simp)).trans ?_
  rw [p7, q7]
  simp only [List.cons_append, List.nil_append]
  have fin : paymasterref01_Add.l0 (k + 42) X Y c8 [s0, s1, s2, s3, s4, s5, s6, s7] 8 = (paymasterref01_number.f (k + 41) [s0, s1, s2, s3, s4, s5, s6, s7, c8]).bind fun bt153 => (if bt153.2.2 = true then (some (bt153.1, bt153.2.1, 0)) else (some (0, 0, 10))) := by
    rw [paymasterref01_Add.l0, if_neg (by omega), if_pos (by simp)]
    rfl
  refine fin.trans ?_
  have N := number9 (k + 13) s0 s1 s2 s3 s4 s5 s6 s7 c8 t0 t1 t2 t3 t4 t5 t6 t7
  rw [show k + 13 + 28 = k + 41 from rfl] at N
  rw [N]
  clear N fin
  have sd := sum_digits s0 s1 s2 s3 s4 s5 s6 s7
  have hr := hf_range s4 s5 s6 s7 t4 t5 t6 t7
  have hr' := hf_range s0 s1 s2 s3 t0 t1 t2 t3
  have tot : val a b + val c d = c8 * 340282366920938463463374607431768211456 + (hf s4 s5 s6 s7 * 18446744073709551616 + hf s0 s1 s2 s3) := by
    rw [sd, vx, vy]
    omega
  obtain ⟨r0, r1⟩ := hr
  obtain ⟨r2, r3⟩ := hr'
  generalize hf s4 s5 s6 s7 = H at *
  generalize hf s0 s1 s2 s3 = L at *
  clear sd vx vy key
  by_cases h8 : c8 = 0
  · have hlt : val a b + val c d < m128 := by unfold m128; omega
    have hh := halves (val a b + val c d) H L ⟨r2, r3⟩ (by rw [tot, h8]; omega)
    have hA : u128_Add.f a b c d = some (H, L, 0) := by
      unfold u128_Add.f
      rw [if_pos (show U64 a ∧ U64 b ∧ U64 c ∧ U64 d from ⟨ha, hb, hc, hd⟩), if_pos hlt, hh.1, hh.2]
    rw [hA, if_pos h8]
    rfl
  · have hge : ¬ (val a b + val c d < m128) := by unfold m128; omega
    have hA : u128_Add.f a b c d = some (0, 0, 10) := by
      unfold u128_Add.f
      rw [if_pos (show U64 a ∧ U64 b ∧ U64 c ∧ U64 d from ⟨ha, hb, hc, hd⟩), if_neg hge]
    rw [hA, if_neg h8]
    rfl
end Go.Proofs.Ytpkjpiphjdpegaa.P
namespace Go.Proofs.Ytpkjpiphjdpegaa.P
open Go.RowKit Go.Proofs.YtpkjpiphjdpegaaW.PrintWords Go.Proofs.YtpkjpiphjdpegaaW.PrintLast Go.Proofs.YtpkjpiphjdpegaaW.PrintMore
set_option linter.unusedVariables false
set_option linter.unusedSimpArgs false
open Go.Proofs.Mul64 in
theorem mul64_nat (x y : Nat) (hx : x < 18446744073709551616) (hy : y < 18446744073709551616) :
    bits_Mul64.f (x : Int) (y : Int) = some (((x * y / 18446744073709551616 : Nat) : Int), ((x * y % 18446744073709551616 : Nat) : Int)) := by
  obtain ⟨bd, bt, bw, hhi⟩ := Lib.mul64_hi x y hx hy
  have ba := Lib.half_mul_le (a := x / 4294967296) (b := y / 4294967296) (by omega) (by omega)
  have bb := Lib.half_mul_le (a := x / 4294967296) (b := y % 4294967296) (by omega) (by omega)
  have bc := Lib.half_mul_le (a := x % 4294967296) (b := y / 4294967296) (by omega) (by omega)
  have ba' : x / 4294967296 * (y / 4294967296) < 18446744073709551616 := by omega
  have bb' : x / 4294967296 * (y % 4294967296) < 18446744073709551616 := by omega
  have bc' : x % 4294967296 * (y / 4294967296) < 18446744073709551616 := by omega
  have bh1 : x / 4294967296 * (y / 4294967296) + (x / 4294967296 * (y % 4294967296) + x % 4294967296 * (y % 4294967296) / 4294967296) / 4294967296 < 18446744073709551616 := by omega
  have bh : x / 4294967296 * (y / 4294967296) + (x / 4294967296 * (y % 4294967296) + x % 4294967296 * (y % 4294967296) / 4294967296) / 4294967296 + ((x / 4294967296 * (y % 4294967296) + x % 4294967296 * (y % 4294967296) / 4294967296) % 4294967296 + x % 4294967296 * (y / 4294967296)) / 4294967296 < 18446744073709551616 := by omega
  unfold bits_Mul64.f
  rw [maskN x hx, maskN y hy, divN x, divN y]
  simp only [mulN, addN, divN]
  rw [wrapN _ ba', wrapN _ bb', wrapN _ bc', wrapN _ bd]
  simp only [mulN, addN, divN]
  rw [wrapN _ bt]
  simp only [mulN, addN, divN]
  rw [maskN _ bt, wrapN _ bh1]
  simp only [mulN, addN, divN]
  rw [wrapN _ bw]
  simp only [mulN, addN, divN]
  rw [wrapN _ bh, wrapM, hhi]
theorem mul64_is (x y : Int) (hx : U64 x) (hy : U64 y) : bits_Mul64.f x y = some (hiOf (x * y), loOf (x * y)) := by
  obtain ⟨x1, x2⟩ := hx
  obtain ⟨y1, y2⟩ := hy
  obtain ⟨X, rfl⟩ := Int.eq_ofNat_of_zero_le x1
  obtain ⟨Y, rfl⟩ := Int.eq_ofNat_of_zero_le y1
  rw [mul64_nat X Y (by omega) (by omega)]
  unfold hiOf loOf
  rw [← Int.natCast_mul]
  rfl
theorem idx105_0 (x y : Int) (W : World) : (Instr.index 105 (.agg #[.int .u64 x, .int .u64 y]) (.int .i64 0)).run Try.prog W = .ok (.int .u64 x) W := by
  simp [Instr.index, run_underlying Try.underlying105, asIntOf, go_sem]
theorem idx105_1 (x y : Int) (W : World) : (Instr.index 105 (.agg #[.int .u64 x, .int .u64 y]) (.int .i64 1)).run Try.prog W = .ok (.int .u64 y) W := by
  simp [Instr.index, run_underlying Try.underlying105, asIntOf, go_sem]
attribute [local go_sem] idx105_0 idx105_1
def u128_Times.f (a0_0 a0_1 a1 : Int) : Option (Int × Int × Int) :=
  if U64 a0_0 ∧ U64 a0_1 ∧ U64 a1 then
    (if val a0_0 a0_1 * a1 < m128 then some (hiOf (val a0_0 a0_1 * a1), loOf (val a0_0 a0_1 * a1), 0) else some (0, 0, 10))
  else none
theorem times_plan (a b n : Int) (ha : U64 a) (hb : U64 b) (hn : U64 n) :
    ∃ H0 L0 H1 L1 hi c, bits_Mul64.f b n = some (H0, L0) ∧ bits_Mul64.f a n = some (H1, L1) ∧ 0 ≤ L1 ∧ 0 ≤ H0 ∧ (L1 + H0 + 0) % 18446744073709551616 = hi ∧ (L1 + H0 + 0) / 18446744073709551616 = c ∧
      ((c = 0 ∧ H1 = 0 ∧ u128_Times.f a b n = some (hi, L0, 0)) ∨ (c = 0 ∧ H1 ≠ 0 ∧ u128_Times.f a b n = some (0, 0, 10)) ∨ (c ≠ 0 ∧ u128_Times.f a b n = some (0, 0, 10))) := by
  have h0 : 0 ≤ a * n := Int.mul_nonneg ha.1 hn.1
  have h1 : 0 ≤ b * n := Int.mul_nonneg hb.1 hn.1
  have e : val a b * n = a * n * 18446744073709551616 + b * n := by
    unfold val
    rw [Int.add_mul, Int.mul_right_comm]
  refine ⟨_, _, _, _, _, _, mul64_is b n hb hn, mul64_is a n ha hn, by unfold loOf; omega, by unfold hiOf; omega, rfl, rfl, ?_⟩
  unfold u128_Times.f
  rw [if_pos ⟨ha, hb, hn⟩, e]
  generalize a * n = X at *
  generalize b * n = Y at *
  clear e
  by_cases hc : (loOf X + hiOf Y + 0) / 18446744073709551616 = 0
  · by_cases hh : hiOf X = 0
    · left
      refine ⟨hc, hh, ?_⟩
      unfold hiOf loOf m128 at *
      rw [if_pos (by omega)]
      congr 2
      · omega
      · congr 1
        omega
    · right; left
      refine ⟨hc, hh, ?_⟩
      unfold hiOf loOf m128 at *
      rw [if_neg (by omega)]
  · right; right
    refine ⟨hc, ?_⟩
    unfold hiOf loOf m128 at *
    rw [if_neg (by omega)]
set_option maxHeartbeats 4000000 in
set_option maxRecDepth 100000 in
theorem u128_Times.calls (a0_0 a0_1 a1 r1 r2 r3 : Int) (w : World) (h : u128_Times.f a0_0 a0_1 a1 = some (r1, r2, r3)) :
    Calls Try.prog 56 #[.agg #[.int .u64 a0_0, .int .u64 a0_1], .int .u64 a1] w fun e w' => e = .returned (.tuple #[.agg #[.int .u64 r1, .int .u64 r2], .int .i64 r3]) ∧ Below w.heap.size w w' := by
  have hu : U64 a0_0 ∧ U64 a0_1 ∧ U64 a1 := by
    unfold u128_Times.f at h
    split at h
    · assumption
    · cases h
  obtain ⟨H0, L0, H1, L1, hi, c, m0, m1, l1, l2, e1, e2, hf⟩ := times_plan a0_0 a0_1 a1 hu.1 hu.2.1 hu.2.2
  have k1 : ∀ W : World, (callFunc 85 #[.int .u64 L1, .int .u64 H0, .int .u64 0]).run Try.prog W = .ok (.value (.tuple #[.int .u64 hi, .int .u64 c])) W := by
    intro W
    rw [call_add64 _ _ _ l1 l2 (by omega) (by omega), e1, e2]
  have M0 := Aside0.mk m0
  have M1 := Aside0.mk m1
  clear e1 e2 l1 l2 hu m0 m1
  rcases hf with ⟨hc, hh, hf⟩ | ⟨hc, hh, hf⟩ | ⟨hc, hf⟩
  · rw [hf] at h
    simp only [Option.some.injEq, Prod.mk.injEq] at h
    obtain ⟨rfl, rfl, rfl⟩ := h
    subst hc
    subst hh
    clear hf
    go_enter Try.func56, Try.ntmps56
    go_wp2
    refine wp_loop_rounds 3 ?_
    rw [rounds_succ]
    go_wp2_with (first | (go_at_call 89; (with_reducible refine (bits_Mul64.calls _ _ _ _ _ M0.out).mono ?_); rintro e w' ⟨rfl, ⟨nd, rfl⟩⟩) | (go_at_call 89; (with_reducible refine (bits_Mul64.calls _ _ _ _ _ M1.out).mono ?_); rintro e w' ⟨rfl, ⟨nd', rfl⟩⟩))
    rw [rounds_succ]
    go_wp2_with (first | (go_at_call 89; (with_reducible refine (bits_Mul64.calls _ _ _ _ _ M0.out).mono ?_); rintro e w' ⟨rfl, ⟨nd, rfl⟩⟩) | (go_at_call 89; (with_reducible refine (bits_Mul64.calls _ _ _ _ _ M1.out).mono ?_); rintro e w' ⟨rfl, ⟨nd', rfl⟩⟩))
    rw [rounds_succ]
    go_wp2
    exact bodyPost_ret (v := .tuple #[.agg #[.int .u64 hi, .int .u64 L0], .int .i64 0]) (by simp [results, Try.results56, go_sem]) rfl ⟨rfl, by repeat (first | (with_reducible exact Below.refl _ _) | (with_reducible apply below_alloc) | (with_reducible apply pw_below_drewN) | (with_reducible refine below_set ?_ (by omega)))⟩
  · rw [hf] at h
    simp only [Option.some.injEq, Prod.mk.injEq] at h
    obtain ⟨rfl, rfl, rfl⟩ := h
    subst hc
    have hn : (H1 != 0) = true := by simpa using hh
    clear hf hh
    go_enter Try.func56, Try.ntmps56
    go_wp2
    refine wp_loop_rounds 3 ?_
    rw [rounds_succ]
    go_wp2_with (first | (go_at_call 89; (with_reducible refine (bits_Mul64.calls _ _ _ _ _ M0.out).mono ?_); rintro e w' ⟨rfl, ⟨nd, rfl⟩⟩) | (go_at_call 89; (with_reducible refine (bits_Mul64.calls _ _ _ _ _ M1.out).mono ?_); rintro e w' ⟨rfl, ⟨nd', rfl⟩⟩))
    rw [rounds_succ]
    go_wp2_with (first | (go_at_call 89; (with_reducible refine (bits_Mul64.calls _ _ _ _ _ M0.out).mono ?_); rintro e w' ⟨rfl, ⟨nd, rfl⟩⟩) | (go_at_call 89; (with_reducible refine (bits_Mul64.calls _ _ _ _ _ M1.out).mono ?_); rintro e w' ⟨rfl, ⟨nd', rfl⟩⟩))
    rw [rounds_succ]
    go_wp2
    exact bodyPost_ret (v := .tuple #[.agg #[.int .u64 0, .int .u64 0], .int .i64 10]) (by simp [results, Try.results56, go_sem]) rfl ⟨rfl, by repeat (first | (with_reducible exact Below.refl _ _) | (with_reducible apply below_alloc) | (with_reducible apply pw_below_drewN) | (with_reducible refine below_set ?_ (by omega)))⟩
  · rw [hf] at h
    simp only [Option.some.injEq, Prod.mk.injEq] at h
    obtain ⟨rfl, rfl, rfl⟩ := h
    have hn : (c != 0) = true := by simpa using hc
    clear hf hc
    go_enter Try.func56, Try.ntmps56
    go_wp2
    refine wp_loop_rounds 3 ?_
    rw [rounds_succ]
    go_wp2_with (first | (go_at_call 89; (with_reducible refine (bits_Mul64.calls _ _ _ _ _ M0.out).mono ?_); rintro e w' ⟨rfl, ⟨nd, rfl⟩⟩) | (go_at_call 89; (with_reducible refine (bits_Mul64.calls _ _ _ _ _ M1.out).mono ?_); rintro e w' ⟨rfl, ⟨nd', rfl⟩⟩))
    rw [rounds_succ]
    go_wp2_with (first | (go_at_call 89; (with_reducible refine (bits_Mul64.calls _ _ _ _ _ M0.out).mono ?_); rintro e w' ⟨rfl, ⟨nd, rfl⟩⟩) | (go_at_call 89; (with_reducible refine (bits_Mul64.calls _ _ _ _ _ M1.out).mono ?_); rintro e w' ⟨rfl, ⟨nd', rfl⟩⟩))
    rw [rounds_succ]
    go_wp2
    exact bodyPost_ret (v := .tuple #[.agg #[.int .u64 0, .int .u64 0], .int .i64 10]) (by simp [results, Try.results56, go_sem]) rfl ⟨rfl, by repeat (first | (with_reducible exact Below.refl _ _) | (with_reducible apply below_alloc) | (with_reducible apply pw_below_drewN) | (with_reducible refine below_set ?_ (by omega)))⟩
end Go.Proofs.Ytpkjpiphjdpegaa.P
namespace Go.Proofs.Ytpkjpiphjdpegaa.P
open Go.RowKit Go.Proofs.YtpkjpiphjdpegaaW.PrintWords Go.Proofs.YtpkjpiphjdpegaaW.PrintLast Go.Proofs.YtpkjpiphjdpegaaW.PrintMore
attribute [local go_sem] max2_int min2_int max_two min_two max_three min_three max_four min_four
set_option linter.unusedVariables false
set_option linter.unusedSimpArgs false
def u128_OverP.f (k : Nat) (a0_0 : Int) (a0_1 : Int) (a1 : Int) : Option (Int × Int × Int × Int) := if a1 = 0 then (some (0, 0, 0, 2)) else ((bits_Div64.f k (Int.tmod a0_0 a1) a0_1 a1).bind fun bt137 => (some (IntKind.u64.wrap (Int.tdiv a0_0 a1), bt137.1, bt137.2, 0)))
set_option maxHeartbeats 8000000 in
set_option maxRecDepth 100000 in
theorem u128_OverP.calls (k : Nat) (a0_0 : Int) (a0_1 : Int) (a1 : Int) (r1 : Int) (r2 : Int) (r3 : Int) (r4 : Int) (w : World) (h : u128_OverP.f k a0_0 a0_1 a1 = some (r1, r2, r3, r4)) :
    Calls Try.prog 58 #[.agg #[.int .u64 a0_0, .int .u64 a0_1], .int .u64 a1] w fun e w' => e = .returned (.tuple #[.agg #[.int .u64 r1, .int .u64 r2], .int .u64 r3, .int .i64 r4]) ∧ Below w.heap.size w w' := by
  have hu25 := Try.underlying25
  have HB := Aside0.mk (Below.refl w.heap.size w)
  have H : (if a1 = 0 then (some (0, 0, 0, 2)) else ((bits_Div64.f k (Int.tmod a0_0 a1) a0_1 a1).bind fun bt137 => (some (IntKind.u64.wrap (Int.tdiv a0_0 a1), bt137.1, bt137.2, 0)))) = some (r1, r2, r3, r4) := h
  clear h
  by_cases c3 : a1 = 0
  · rw [if_pos c3] at H
    have c3b0 : (a1 == 0) = true := beq_iff_eq.mpr c3
    have c3b1 : (a1 != 0) = false := bne_eq_false_iff_eq.mpr c3
    clear c3
    simp only [Option.some.injEq, Prod.mk.injEq] at H
    obtain ⟨rfl, rfl, rfl, rfl⟩ := H
    go_enter Try.func58, Try.ntmps58
    go_wp2_with (first | ((with_reducible refine gate_dst (N := 2) rfl ?_); refine box_event ?hg (N := 2) ?hd (cs := #[.int .u64 a0_0, .int .u64 a0_1]) (t := 25) ?hr ?_; (case hd => rfl); (case hg => rfl); (case hr => first | (go_simp; done) | (go_simp; rfl)); intro gb135 hg w4 hbox hb; have n0_ := Aside0.mk (below_step (by repeat (first | (with_reducible first | exact HB.out | apply below_alloc | apply pw_below_drewN | apply below_drew1) | exact HB.out)) hb); have n1_ := Aside0.mk (hbox); have n2_ := Aside0.mk ((by rw [hg]; exact (below_size (by repeat (first | (with_reducible first | exact HB.out | apply below_alloc | apply pw_below_drewN | apply below_drew1) | exact HB.out))) : w.heap.size ≤ gb135)); have n3_ := Aside0.mk ((by rw [hg]; exact (below_size (by repeat (first | (with_reducible first | exact HB.out | apply below_alloc | apply pw_below_drewN | apply below_drew1) | exact HB.out))) : w.heap.size ≤ gb135)); clear HB; have HB := n0_; have BK135 := n1_; have GW135 := n2_; have GE135 := n3_; clear n0_ n1_ n2_ n3_; clear hb hbox hg) | ((with_reducible refine gate_dst (N := 4) rfl ?_); refine box_event ?hg (N := 4) ?hd (cs := #[.int .u64 0, .int .u64 0]) (t := 25) ?hr ?_; (case hd => rfl); (case hg => rfl); (case hr => first | (go_simp; done) | (go_simp; rfl)); intro gb136 hg w5 hbox hb; have n0_ := Aside0.mk (blk_below (g := gb135) (o := .cells #[.int .u64 a0_0, .int .u64 a0_1] 25 (0, 0)) (by (with_reducible repeat (first | refine blk_drewN ?_ _ | refine blk_drew ?_ | refine blk_alloc ?_ _)); exact BK135.out) hb); have n1_ := Aside0.mk (below_step (by repeat (first | (with_reducible first | exact HB.out | apply below_alloc | apply pw_below_drewN | apply below_drew1 | refine below_set ?_ GE135.out) | exact HB.out)) hb); have n2_ := Aside0.mk (hbox); have n3_ := Aside0.mk ((by rw [hg]; exact (below_size (by repeat (first | (with_reducible first | exact HB.out | apply below_alloc | apply pw_below_drewN | apply below_drew1 | refine below_set ?_ GE135.out) | exact HB.out))) : w.heap.size ≤ gb136)); have n4_ := Aside0.mk ((by rw [hg]; exact (below_size (by repeat (first | (with_reducible first | exact HB.out | apply below_alloc | apply pw_below_drewN | apply below_drew1 | refine below_set ?_ GE135.out) | exact HB.out))) : w.heap.size ≤ gb136)); have n5_ := Aside0.mk ((by rw [hg]; exact Nat.ne_of_lt (blk_lt (g := gb135) (o := .cells #[.int .u64 a0_0, .int .u64 a0_1] 25 (0, 0)) (by (with_reducible repeat (first | refine blk_drewN ?_ _ | refine blk_drew ?_ | refine blk_alloc ?_ _)); exact BK135.out)) : gb135 ≠ gb136)); have n6_ := Aside0.mk ((by rw [hg]; exact Nat.ne_of_gt (blk_lt (g := gb135) (o := .cells #[.int .u64 a0_0, .int .u64 a0_1] 25 (0, 0)) (by (with_reducible repeat (first | refine blk_drewN ?_ _ | refine blk_drew ?_ | refine blk_alloc ?_ _)); exact BK135.out)) : gb136 ≠ gb135)); clear BK135; clear HB; have BK135 := n0_; have HB := n1_; have BK136 := n2_; have GW136 := n3_; have GE136 := n4_; have NB135_136 := n5_; have NB136_135 := n6_; clear n0_ n1_ n2_ n3_ n4_ n5_ n6_; clear hb hbox hg; have hnb6 := NB136_135.out; have hnc6 := NB135_136.out; have hcz7_0 : w5.cell? ⟨gb136, 0, none⟩ = some (.int .u64 0) := (blk_cell BK136.out 0).trans rfl; have hcz7_1 : w5.cell? ⟨gb136, 1, none⟩ = some (.int .u64 0) := (blk_cell BK136.out 1).trans rfl; have hfz7_0 := blk_frozen BK136.out 0; have hfz7_1 := blk_frozen BK136.out 1))
    repeat (go_quiet (first | ((with_reducible refine gate_dst (N := 2) rfl ?_); refine box_event ?hg (N := 2) ?hd (cs := #[.int .u64 a0_0, .int .u64 a0_1]) (t := 25) ?hr ?_; (case hd => rfl); (case hg => rfl); (case hr => first | (go_simp; done) | (go_simp; rfl)); intro gb135 hg w4 hbox hb; have n0_ := Aside0.mk (below_step (by repeat (first | (with_reducible first | exact HB.out | apply below_alloc | apply pw_below_drewN | apply below_drew1) | exact HB.out)) hb); have n1_ := Aside0.mk (hbox); have n2_ := Aside0.mk ((by rw [hg]; exact (below_size (by repeat (first | (with_reducible first | exact HB.out | apply below_alloc | apply pw_below_drewN | apply below_drew1) | exact HB.out))) : w.heap.size ≤ gb135)); have n3_ := Aside0.mk ((by rw [hg]; exact (below_size (by repeat (first | (with_reducible first | exact HB.out | apply below_alloc | apply pw_below_drewN | apply below_drew1) | exact HB.out))) : w.heap.size ≤ gb135)); clear HB; have HB := n0_; have BK135 := n1_; have GW135 := n2_; have GE135 := n3_; clear n0_ n1_ n2_ n3_; clear hb hbox hg) | ((with_reducible refine gate_dst (N := 4) rfl ?_); refine box_event ?hg (N := 4) ?hd (cs := #[.int .u64 0, .int .u64 0]) (t := 25) ?hr ?_; (case hd => rfl); (case hg => rfl); (case hr => first | (go_simp; done) | (go_simp; rfl)); intro gb136 hg w5 hbox hb; have n0_ := Aside0.mk (blk_below (g := gb135) (o := .cells #[.int .u64 a0_0, .int .u64 a0_1] 25 (0, 0)) (by (with_reducible repeat (first | refine blk_drewN ?_ _ | refine blk_drew ?_ | refine blk_alloc ?_ _)); exact BK135.out) hb); have n1_ := Aside0.mk (below_step (by repeat (first | (with_reducible first | exact HB.out | apply below_alloc | apply pw_below_drewN | apply below_drew1 | refine below_set ?_ GE135.out) | exact HB.out)) hb); have n2_ := Aside0.mk (hbox); have n3_ := Aside0.mk ((by rw [hg]; exact (below_size (by repeat (first | (with_reducible first | exact HB.out | apply below_alloc | apply pw_below_drewN | apply below_drew1 | refine below_set ?_ GE135.out) | exact HB.out))) : w.heap.size ≤ gb136)); have n4_ := Aside0.mk ((by rw [hg]; exact (below_size (by repeat (first | (with_reducible first | exact HB.out | apply below_alloc | apply pw_below_drewN | apply below_drew1 | refine below_set ?_ GE135.out) | exact HB.out))) : w.heap.size ≤ gb136)); have n5_ := Aside0.mk ((by rw [hg]; exact Nat.ne_of_lt (blk_lt (g := gb135) (o := .cells #[.int .u64 a0_0, .int .u64 a0_1] 25 (0, 0)) (by (with_reducible repeat (first | refine blk_drewN ?_ _ | refine blk_drew ?_ | refine blk_alloc ?_ _)); exact BK135.out)) : gb135 ≠ gb136)); have n6_ := Aside0.mk ((by rw [hg]; exact Nat.ne_of_gt (blk_lt (g := gb135) (o := .cells #[.int .u64 a0_0, .int .u64 a0_1] 25 (0, 0)) (by (with_reducible repeat (first | refine blk_drewN ?_ _ | refine blk_drew ?_ | refine blk_alloc ?_ _)); exact BK135.out)) : gb136 ≠ gb135)); clear BK135; clear HB; have BK135 := n0_; have HB := n1_; have BK136 := n2_; have GW136 := n3_; have GE136 := n4_; have NB135_136 := n5_; have NB136_135 := n6_; clear n0_ n1_ n2_ n3_ n4_ n5_ n6_; clear hb hbox hg; have hnb6 := NB136_135.out; have hnc6 := NB135_136.out; have hcz7_0 : w5.cell? ⟨gb136, 0, none⟩ = some (.int .u64 0) := (blk_cell BK136.out 0).trans rfl; have hcz7_1 : w5.cell? ⟨gb136, 1, none⟩ = some (.int .u64 0) := (blk_cell BK136.out 1).trans rfl; have hfz7_0 := blk_frozen BK136.out 0; have hfz7_1 := blk_frozen BK136.out 1)); try go_wp2_with (first | ((with_reducible refine gate_dst (N := 2) rfl ?_); refine box_event ?hg (N := 2) ?hd (cs := #[.int .u64 a0_0, .int .u64 a0_1]) (t := 25) ?hr ?_; (case hd => rfl); (case hg => rfl); (case hr => first | (go_simp; done) | (go_simp; rfl)); intro gb135 hg w4 hbox hb; have n0_ := Aside0.mk (below_step (by repeat (first | (with_reducible first | exact HB.out | apply below_alloc | apply pw_below_drewN | apply below_drew1) | exact HB.out)) hb); have n1_ := Aside0.mk (hbox); have n2_ := Aside0.mk ((by rw [hg]; exact (below_size (by repeat (first | (with_reducible first | exact HB.out | apply below_alloc | apply pw_below_drewN | apply below_drew1) | exact HB.out))) : w.heap.size ≤ gb135)); have n3_ := Aside0.mk ((by rw [hg]; exact (below_size (by repeat (first | (with_reducible first | exact HB.out | apply below_alloc | apply pw_below_drewN | apply below_drew1) | exact HB.out))) : w.heap.size ≤ gb135)); clear HB; have HB := n0_; have BK135 := n1_; have GW135 := n2_; have GE135 := n3_; clear n0_ n1_ n2_ n3_; clear hb hbox hg) | ((with_reducible refine gate_dst (N := 4) rfl ?_); refine box_event ?hg (N := 4) ?hd (cs := #[.int .u64 0, .int .u64 0]) (t := 25) ?hr ?_; (case hd => rfl); (case hg => rfl); (case hr => first | (go_simp; done) | (go_simp; rfl)); intro gb136 hg w5 hbox hb; have n0_ := Aside0.mk (blk_below (g := gb135) (o := .cells #[.int .u64 a0_0, .int .u64 a0_1] 25 (0, 0)) (by (with_reducible repeat (first | refine blk_drewN ?_ _ | refine blk_drew ?_ | refine blk_alloc ?_ _)); exact BK135.out) hb); have n1_ := Aside0.mk (below_step (by repeat (first | (with_reducible first | exact HB.out | apply below_alloc | apply pw_below_drewN | apply below_drew1 | refine below_set ?_ GE135.out) | exact HB.out)) hb); have n2_ := Aside0.mk (hbox); have n3_ := Aside0.mk ((by rw [hg]; exact (below_size (by repeat (first | (with_reducible first | exact HB.out | apply below_alloc | apply pw_below_drewN | apply below_drew1 | refine below_set ?_ GE135.out) | exact HB.out))) : w.heap.size ≤ gb136)); have n4_ := Aside0.mk ((by rw [hg]; exact (below_size (by repeat (first | (with_reducible first | exact HB.out | apply below_alloc | apply pw_below_drewN | apply below_drew1 | refine below_set ?_ GE135.out) | exact HB.out))) : w.heap.size ≤ gb136)); have n5_ := Aside0.mk ((by rw [hg]; exact Nat.ne_of_lt (blk_lt (g := gb135) (o := .cells #[.int .u64 a0_0, .int .u64 a0_1] 25 (0, 0)) (by (with_reducible repeat (first | refine blk_drewN ?_ _ | refine blk_drew ?_ | refine blk_alloc ?_ _)); exact BK135.out)) : gb135 ≠ gb136)); have n6_ := Aside0.mk ((by rw [hg]; exact Nat.ne_of_gt (blk_lt (g := gb135) (o := .cells #[.int .u64 a0_0, .int .u64 a0_1] 25 (0, 0)) (by (with_reducible repeat (first | refine blk_drewN ?_ _ | refine blk_drew ?_ | refine blk_alloc ?_ _)); exact BK135.out)) : gb136 ≠ gb135)); clear BK135; clear HB; have BK135 := n0_; have HB := n1_; have BK136 := n2_; have GW136 := n3_; have GE136 := n4_; have NB135_136 := n5_; have NB136_135 := n6_; clear n0_ n1_ n2_ n3_ n4_ n5_ n6_; clear hb hbox hg; have hnb6 := NB136_135.out; have hnc6 := NB135_136.out; have hcz7_0 : w5.cell? ⟨gb136, 0, none⟩ = some (.int .u64 0) := (blk_cell BK136.out 0).trans rfl; have hcz7_1 : w5.cell? ⟨gb136, 1, none⟩ = some (.int .u64 0) := (blk_cell BK136.out 1).trans rfl; have hfz7_0 := blk_frozen BK136.out 0; have hfz7_1 := blk_frozen BK136.out 1)))
    refine bodyPost_ret (results_ctt rfl _ _ gb136 25 #[.int .u64 0, .int .u64 0] (0, 0) _ rfl (by (with_reducible repeat (first | refine blk_drewN ?_ _ | refine blk_drew ?_ | refine blk_alloc ?_ _)); refine blk_put (cs := #[.int .u64 0, .int .u64 0]) ?_ 1 _ rfl; (with_reducible repeat (first | refine blk_drewN ?_ _ | refine blk_drew ?_ | refine blk_alloc ?_ _)); refine blk_put (cs := #[.int .u64 0, .int .u64 0]) ?_ 0 _ rfl; (with_reducible repeat (first | refine blk_drewN ?_ _ | refine blk_drew ?_ | refine blk_alloc ?_ _)); exact BK136.out) Try.underlying25 rfl (by kernel_rfl)) rfl ?_
    exact ⟨by first | rfl | (simp [errW_none, errW_some] <;> rfl) | (simp [*, errW_none, errW_some] <;> rfl), by repeat (first | (with_reducible first | exact HB.out | apply below_alloc | apply pw_below_drewN | apply below_drew1 | refine below_set ?_ GE135.out | refine below_set ?_ GE136.out) | exact HB.out)⟩
  · rw [if_neg c3] at H
    have c3b0 : (a1 == 0) = false := beq_eq_false_iff_ne.mpr c3
    have c3b1 : (a1 != 0) = true := bne_iff_ne.mpr c3
    replace H := Option.bind_eq_some_iff.mp H
    obtain ⟨⟨t137, t138⟩, A80, H⟩ := H
    replace H : (some (IntKind.u64.wrap (Int.tdiv a0_0 a1), t137, t138, 0)) = some (r1, r2, r3, r4) := H
    have A8 := Aside0.mk A80
    clear A80
    simp only [Option.some.injEq, Prod.mk.injEq] at H
    obtain ⟨rfl, rfl, rfl, rfl⟩ := H
    go_enter Try.func58, Try.ntmps58
    go_wp2_with (first | ((with_reducible refine gate_dst (N := 2) rfl ?_); refine box_event ?hg (N := 2) ?hd (cs := #[.int .u64 a0_0, .int .u64 a0_1]) (t := 25) ?hr ?_; (case hd => rfl); (case hg => rfl); (case hr => first | (go_simp; done) | (go_simp; rfl)); intro gb135 hg w9 hbox hb; have n0_ := Aside0.mk (below_step (by repeat (first | (with_reducible first | exact HB.out | apply below_alloc | apply pw_below_drewN | apply below_drew1) | exact HB.out)) hb); have n1_ := Aside0.mk (hbox); have n2_ := Aside0.mk ((by rw [hg]; exact (below_size (by repeat (first | (with_reducible first | exact HB.out | apply below_alloc | apply pw_below_drewN | apply below_drew1) | exact HB.out))) : w.heap.size ≤ gb135)); have n3_ := Aside0.mk ((by rw [hg]; exact (below_size (by repeat (first | (with_reducible first | exact HB.out | apply below_alloc | apply pw_below_drewN | apply below_drew1) | exact HB.out))) : w.heap.size ≤ gb135)); clear HB; have HB := n0_; have BK135 := n1_; have GW135 := n2_; have GE135 := n3_; clear n0_ n1_ n2_ n3_; clear hb hbox hg) | ((with_reducible refine gate_dst (N := 4) rfl ?_); refine box_event ?hg (N := 4) ?hd (cs := #[.int .u64 0, .int .u64 0]) (t := 25) ?hr ?_; (case hd => rfl); (case hg => rfl); (case hr => first | (go_simp; done) | (go_simp; rfl)); intro gb136 hg w10 hbox hb; have n0_ := Aside0.mk (blk_below (g := gb135) (o := .cells #[.int .u64 a0_0, .int .u64 a0_1] 25 (0, 0)) (by (with_reducible repeat (first | refine blk_drewN ?_ _ | refine blk_drew ?_ | refine blk_alloc ?_ _)); exact BK135.out) hb); have n1_ := Aside0.mk (below_step (by repeat (first | (with_reducible first | exact HB.out | apply below_alloc | apply pw_below_drewN | apply below_drew1 | refine below_set ?_ GE135.out) | exact HB.out)) hb); have n2_ := Aside0.mk (hbox); have n3_ := Aside0.mk ((by rw [hg]; exact (below_size (by repeat (first | (with_reducible first | exact HB.out | apply below_alloc | apply pw_below_drewN | apply below_drew1 | refine below_set ?_ GE135.out) | exact HB.out))) : w.heap.size ≤ gb136)); have n4_ := Aside0.mk ((by rw [hg]; exact (below_size (by repeat (first | (with_reducible first | exact HB.out | apply below_alloc | apply pw_below_drewN | apply below_drew1 | refine below_set ?_ GE135.out) | exact HB.out))) : w.heap.size ≤ gb136)); have n5_ := Aside0.mk ((by rw [hg]; exact Nat.ne_of_lt (blk_lt (g := gb135) (o := .cells #[.int .u64 a0_0, .int .u64 a0_1] 25 (0, 0)) (by (with_reducible repeat (first | refine blk_drewN ?_ _ | refine blk_drew ?_ | refine blk_alloc ?_ _)); exact BK135.out)) : gb135 ≠ gb136)); have n6_ := Aside0.mk ((by rw [hg]; exact Nat.ne_of_gt (blk_lt (g := gb135) (o := .cells #[.int .u64 a0_0, .int .u64 a0_1] 25 (0, 0)) (by (with_reducible repeat (first | refine blk_drewN ?_ _ | refine blk_drew ?_ | refine blk_alloc ?_ _)); exact BK135.out)) : gb136 ≠ gb135)); clear BK135; clear HB; have BK135 := n0_; have HB := n1_; have BK136 := n2_; have GW136 := n3_; have GE136 := n4_; have NB135_136 := n5_; have NB136_135 := n6_; clear n0_ n1_ n2_ n3_ n4_ n5_ n6_; clear hb hbox hg; have hnb11 := NB135_136.out; have hnc11 := NB136_135.out; have hcz12_0 : w10.cell? ⟨gb135, 0, none⟩ = some (.int .u64 a0_0) := (blk_cell BK135.out 0).trans rfl; have hcz12_1 : w10.cell? ⟨gb135, 1, none⟩ = some (.int .u64 a0_1) := (blk_cell BK135.out 1).trans rfl; have hfz12_0 := blk_frozen BK135.out 0; have hfz12_1 := blk_frozen BK135.out 1) | (go_at_call 90; (with_reducible refine (bits_Div64.calls k (Int.tmod a0_0 a1) a0_1 a1 t137 t138 _ A8.out).mono ?_); rintro e w' ⟨rfl, ⟨nd, rfl⟩⟩; (try first | exact ⟨rfl, _, World.drewN_drewN _ _ _⟩ | exact ⟨rfl, _, Eq.trans (World.drewN_drewN _ _ _) (congrArg (World.drewN _) (Nat.add_assoc _ _ _))⟩); have hcz13_0 : w10.cell? ⟨gb136, 0, none⟩ = some (.int .u64 0) := (blk_cell BK136.out 0).trans rfl; have hcz13_1 : w10.cell? ⟨gb136, 1, none⟩ = some (.int .u64 0) := (blk_cell BK136.out 1).trans rfl; have hfz13_0 := blk_frozen BK136.out 0; have hfz13_1 := blk_frozen BK136.out 1))
    repeat (go_quiet (first | ((with_reducible refine gate_dst (N := 2) rfl ?_); refine box_event ?hg (N := 2) ?hd (cs := #[.int .u64 a0_0, .int .u64 a0_1]) (t := 25) ?hr ?_; (case hd => rfl); (case hg => rfl); (case hr => first | (go_simp; done) | (go_simp; rfl)); intro gb135 hg w9 hbox hb; have n0_ := Aside0.mk (below_step (by repeat (first | (with_reducible first | exact HB.out | apply below_alloc | apply pw_below_drewN | apply below_drew1) | exact HB.out)) hb); have n1_ := Aside0.mk (hbox); have n2_ := Aside0.mk ((by rw [hg]; exact (below_size (by repeat (first | (with_reducible first | exact HB.out | apply below_alloc | apply pw_below_drewN | apply below_drew1) | exact HB.out))) : w.heap.size ≤ gb135)); have n3_ := Aside0.mk ((by rw [hg]; exact (below_size (by repeat (first | (with_reducible first | exact HB.out | apply below_alloc | apply pw_below_drewN | apply below_drew1) | exact HB.out))) : w.heap.size ≤ gb135)); clear HB; have HB := n0_; have BK135 := n1_; have GW135 := n2_; have GE135 := n3_; clear n0_ n1_ n2_ n3_; clear hb hbox hg) | ((with_reducible refine gate_dst (N := 4) rfl ?_); refine box_event ?hg (N := 4) ?hd (cs := #[.int .u64 0, .int .u64 0]) (t := 25) ?hr ?_; (case hd => rfl); (case hg => rfl); (case hr => first | (go_simp; done) | (go_simp; rfl)); intro gb136 hg w10 hbox hb; have n0_ := Aside0.mk (blk_below (g := gb135) (o := .cells #[.int .u64 a0_0, .int .u64 a0_1] 25 (0, 0)) (by (with_reducible repeat (first | refine blk_drewN ?_ _ | refine blk_drew ?_ | refine blk_alloc ?_ _)); exact BK135.out) hb); have n1_ := Aside0.mk (below_step (by repeat (first | (with_reducible first | exact HB.out | apply below_alloc | apply pw_below_drewN | apply below_drew1 | refine below_set ?_ GE135.out) | exact HB.out)) hb); have n2_ := Aside0.mk (hbox); have n3_ := Aside0.mk ((by rw [hg]; exact (below_size (by repeat (first | (with_reducible first | exact HB.out | apply below_alloc | apply pw_below_drewN | apply below_drew1 | refine below_set ?_ GE135.out) | exact HB.out))) : w.heap.size ≤ gb136)); have n4_ := Aside0.mk ((by rw [hg]; exact (below_size (by repeat (first | (with_reducible first | exact HB.out | apply below_alloc | apply pw_below_drewN | apply below_drew1 | refine below_set ?_ GE135.out) | exact HB.out))) : w.heap.size ≤ gb136)); have n5_ := Aside0.mk ((by rw [hg]; exact Nat.ne_of_lt (blk_lt (g := gb135) (o := .cells #[.int .u64 a0_0, .int .u64 a0_1] 25 (0, 0)) (by (with_reducible repeat (first | refine blk_drewN ?_ _ | refine blk_drew ?_ | refine blk_alloc ?_ _)); exact BK135.out)) : gb135 ≠ gb136)); have n6_ := Aside0.mk ((by rw [hg]; exact Nat.ne_of_gt (blk_lt (g := gb135) (o := .cells #[.int .u64 a0_0, .int .u64 a0_1] 25 (0, 0)) (by (with_reducible repeat (first | refine blk_drewN ?_ _ | refine blk_drew ?_ | refine blk_alloc ?_ _)); exact BK135.out)) : gb136 ≠ gb135)); clear BK135; clear HB; have BK135 := n0_; have HB := n1_; have BK136 := n2_; have GW136 := n3_; have GE136 := n4_; have NB135_136 := n5_; have NB136_135 := n6_; clear n0_ n1_ n2_ n3_ n4_ n5_ n6_; clear hb hbox hg; have hnb11 := NB135_136.out; have hnc11 := NB136_135.out; have hcz12_0 : w10.cell? ⟨gb135, 0, none⟩ = some (.int .u64 a0_0) := (blk_cell BK135.out 0).trans rfl; have hcz12_1 : w10.cell? ⟨gb135, 1, none⟩ = some (.int .u64 a0_1) := (blk_cell BK135.out 1).trans rfl; have hfz12_0 := blk_frozen BK135.out 0; have hfz12_1 := blk_frozen BK135.out 1) | (go_at_call 90; (with_reducible refine (bits_Div64.calls k (Int.tmod a0_0 a1) a0_1 a1 t137 t138 _ A8.out).mono ?_); rintro e w' ⟨rfl, ⟨nd, rfl⟩⟩; (try first | exact ⟨rfl, _, World.drewN_drewN _ _ _⟩ | exact ⟨rfl, _, Eq.trans (World.drewN_drewN _ _ _) (congrArg (World.drewN _) (Nat.add_assoc _ _ _))⟩); have hcz13_0 : w10.cell? ⟨gb136, 0, none⟩ = some (.int .u64 0) := (blk_cell BK136.out 0).trans rfl; have hcz13_1 : w10.cell? ⟨gb136, 1, none⟩ = some (.int .u64 0) := (blk_cell BK136.out 1).trans rfl; have hfz13_0 := blk_frozen BK136.out 0; have hfz13_1 := blk_frozen BK136.out 1)); try go_wp2_with (first | ((with_reducible refine gate_dst (N := 2) rfl ?_); refine box_event ?hg (N := 2) ?hd (cs := #[.int .u64 a0_0, .int .u64 a0_1]) (t := 25) ?hr ?_; (case hd => rfl); (case hg => rfl); (case hr => first | (go_simp; done) | (go_simp; rfl)); intro gb135 hg w9 hbox hb; have n0_ := Aside0.mk (below_step (by repeat (first | (with_reducible first | exact HB.out | apply below_alloc | apply pw_below_drewN | apply below_drew1) | exact HB.out)) hb); have n1_ := Aside0.mk (hbox); have n2_ := Aside0.mk ((by rw [hg]; exact (below_size (by repeat (first | (with_reducible first | exact HB.out | apply below_alloc | apply pw_below_drewN | apply below_drew1) | exact HB.out))) : w.heap.size ≤ gb135)); have n3_ := Aside0.mk ((by rw [hg]; exact (below_size (by repeat (first | (with_reducible first | exact HB.out | apply below_alloc | apply pw_below_drewN | apply below_drew1) | exact HB.out))) : w.heap.size ≤ gb135)); clear HB; have HB := n0_; have BK135 := n1_; have GW135 := n2_; have GE135 := n3_; clear n0_ n1_ n2_ n3_; clear hb hbox hg) | ((with_reducible refine gate_dst (N := 4) rfl ?_); refine box_event ?hg (N := 4) ?hd (cs := #[.int .u64 0, .int .u64 0]) (t := 25) ?hr ?_; (case hd => rfl); (case hg => rfl); (case hr => first | (go_simp; done) | (go_simp; rfl)); intro gb136 hg w10 hbox hb; have n0_ := Aside0.mk (blk_below (g := gb135) (o := .cells #[.int .u64 a0_0, .int .u64 a0_1] 25 (0, 0)) (by (with_reducible repeat (first | refine blk_drewN ?_ _ | refine blk_drew ?_ | refine blk_alloc ?_ _)); exact BK135.out) hb); have n1_ := Aside0.mk (below_step (by repeat (first | (with_reducible first | exact HB.out | apply below_alloc | apply pw_below_drewN | apply below_drew1 | refine below_set ?_ GE135.out) | exact HB.out)) hb); have n2_ := Aside0.mk (hbox); have n3_ := Aside0.mk ((by rw [hg]; exact (below_size (by repeat (first | (with_reducible first | exact HB.out | apply below_alloc | apply pw_below_drewN | apply below_drew1 | refine below_set ?_ GE135.out) | exact HB.out))) : w.heap.size ≤ gb136)); have n4_ := Aside0.mk ((by rw [hg]; exact (below_size (by repeat (first | (with_reducible first | exact HB.out | apply below_alloc | apply pw_below_drewN | apply below_drew1 | refine below_set ?_ GE135.out) | exact HB.out))) : w.heap.size ≤ gb136)); have n5_ := Aside0.mk ((by rw [hg]; exact Nat.ne_of_lt (blk_lt (g := gb135) (o := .cells #[.int .u64 a0_0, .int .u64 a0_1] 25 (0, 0)) (by (with_reducible repeat (first | refine blk_drewN ?_ _ | refine blk_drew ?_ | refine blk_alloc ?_ _)); exact BK135.out)) : gb135 ≠ gb136)); have n6_ := Aside0.mk ((by rw [hg]; exact Nat.ne_of_gt (blk_lt (g := gb135) (o := .cells #[.int .u64 a0_0, .int .u64 a0_1] 25 (0, 0)) (by (with_reducible repeat (first | refine blk_drewN ?_ _ | refine blk_drew ?_ | refine blk_alloc ?_ _)); exact BK135.out)) : gb136 ≠ gb135)); clear BK135; clear HB; have BK135 := n0_; have HB := n1_; have BK136 := n2_; have GW136 := n3_; have GE136 := n4_; have NB135_136 := n5_; have NB136_135 := n6_; clear n0_ n1_ n2_ n3_ n4_ n5_ n6_; clear hb hbox hg; have hnb11 := NB135_136.out; have hnc11 := NB136_135.out; have hcz12_0 : w10.cell? ⟨gb135, 0, none⟩ = some (.int .u64 a0_0) := (blk_cell BK135.out 0).trans rfl; have hcz12_1 : w10.cell? ⟨gb135, 1, none⟩ = some (.int .u64 a0_1) := (blk_cell BK135.out 1).trans rfl; have hfz12_0 := blk_frozen BK135.out 0; have hfz12_1 := blk_frozen BK135.out 1) | (go_at_call 90; (with_reducible refine (bits_Div64.calls k (Int.tmod a0_0 a1) a0_1 a1 t137 t138 _ A8.out).mono ?_); rintro e w' ⟨rfl, ⟨nd, rfl⟩⟩; (try first | exact ⟨rfl, _, World.drewN_drewN _ _ _⟩ | exact ⟨rfl, _, Eq.trans (World.drewN_drewN _ _ _) (congrArg (World.drewN _) (Nat.add_assoc _ _ _))⟩); have hcz13_0 : w10.cell? ⟨gb136, 0, none⟩ = some (.int .u64 0) := (blk_cell BK136.out 0).trans rfl; have hcz13_1 : w10.cell? ⟨gb136, 1, none⟩ = some (.int .u64 0) := (blk_cell BK136.out 1).trans rfl; have hfz13_0 := blk_frozen BK136.out 0; have hfz13_1 := blk_frozen BK136.out 1)))
    refine bodyPost_ret (results_ctt rfl _ _ gb136 25 #[.int .u64 (IntKind.u64.wrap (Int.tdiv a0_0 a1)), .int .u64 t137] (0, 0) _ rfl (by (with_reducible repeat (first | refine blk_drewN ?_ _ | refine blk_drew ?_ | refine blk_alloc ?_ _)); refine blk_put (cs := #[.int .u64 (IntKind.u64.wrap (Int.tdiv a0_0 a1)), .int .u64 0]) ?_ 1 _ rfl; (with_reducible repeat (first | refine blk_drewN ?_ _ | refine blk_drew ?_ | refine blk_alloc ?_ _)); refine blk_put (cs := #[.int .u64 0, .int .u64 0]) ?_ 0 _ rfl; (with_reducible repeat (first | refine blk_drewN ?_ _ | refine blk_drew ?_ | refine blk_alloc ?_ _)); exact BK136.out) Try.underlying25 rfl (by kernel_rfl)) rfl ?_
    exact ⟨by first | rfl | (simp [errW_none, errW_some] <;> rfl) | (simp [*, errW_none, errW_some] <;> rfl), by repeat (first | (with_reducible first | exact HB.out | apply below_alloc | apply pw_below_drewN | apply below_drew1 | refine below_set ?_ GE135.out | refine below_set ?_ GE136.out) | exact HB.out)⟩
def u128_Over.f (a0_0 a0_1 a1 : Int) : Option (Int × Int × Int × Int) :=
  if U64 a0_0 ∧ U64 a0_1 ∧ U64 a1 then
    (if a1 = 0 then some (0, 0, 0, 2) else some (hiOf (val a0_0 a0_1 / a1), loOf (val a0_0 a0_1 / a1), val a0_0 a0_1 % a1, 0))
  else none
theorem over_plan (a b n : Int) (ha : U64 a) (hb : U64 b) (hn : U64 n) (k : Nat) : u128_OverP.f (k + 20) a b n = u128_Over.f a b n := by
  unfold u128_OverP.f u128_Over.f
  rw [if_pos (show U64 a ∧ U64 b ∧ U64 n from ⟨ha, hb, hn⟩)]
  by_cases h : n = 0
  · rw [if_pos h, if_pos h]
  · have hn' := hn
    obtain ⟨n0, n1⟩ := hn
    have hp : 0 < n := by omega
    have r0 := Int.emod_nonneg a h
    have r1 := Int.emod_lt_of_pos a hp
    have hq : a / n ≤ a := Int.ediv_le_self _ ha.1
    have hq0 := Int.ediv_nonneg ha.1 n0
    rw [if_neg h, if_neg h, Int.tmod_eq_emod_of_nonneg ha.1, div64_is (a % n) b n ⟨r0, by omega⟩ hb hn' r1 k, Int.tdiv_eq_ediv_of_nonneg ha.1]
    simp only [Option.bind_some]
    rw [wuu _ hq0 (by have := ha.2; omega)]
    have ea := Int.ediv_mul_add_emod a n
    have e : val a b = (a % n * 18446744073709551616 + b) + a / n * 18446744073709551616 * n := by
      unfold val
      rw [Int.mul_right_comm]
      omega
    have e1 : val a b / n = a / n * 18446744073709551616 + (a % n * 18446744073709551616 + b) / n := by
      rw [e, Int.add_mul_ediv_right _ _ h]
      omega
    have e2 : val a b % n = (a % n * 18446744073709551616 + b) % n := by
      rw [e, Int.add_mul_emod_self_right]
    have l0 := Int.ediv_nonneg (show 0 ≤ a % n * 18446744073709551616 + b by have := hb.1; omega) n0
    have l1 := Int.ediv_lt_of_lt_mul hp (show a % n * 18446744073709551616 + b < 18446744073709551616 * n by have := hb.2; omega)
    rw [e1, e2]
    obtain ⟨x1, x2⟩ := halves (a / n * 18446744073709551616 + (a % n * 18446744073709551616 + b) / n) (a / n) ((a % n * 18446744073709551616 + b) / n) ⟨l0, by omega⟩ rfl
    rw [x1, x2]
theorem u128_Over.calls (a0_0 a0_1 a1 r1 r2 r3 r4 : Int) (w : World) (h : u128_Over.f a0_0 a0_1 a1 = some (r1, r2, r3, r4)) :
    Calls Try.prog 58 #[.agg #[.int .u64 a0_0, .int .u64 a0_1], .int .u64 a1] w fun e w' => e = .returned (.tuple #[.agg #[.int .u64 r1, .int .u64 r2], .int .u64 r3, .int .i64 r4]) ∧ Below w.heap.size w w' := by
  have hu : U64 a0_0 ∧ U64 a0_1 ∧ U64 a1 := by
    unfold u128_Over.f at h
    split at h
    · assumption
    · cases h
  exact u128_OverP.calls 20 a0_0 a0_1 a1 r1 r2 r3 r4 w ((over_plan a0_0 a0_1 a1 hu.1 hu.2.1 hu.2.2 0).trans h)
end Go.Proofs.Ytpkjpiphjdpegaa.P
namespace Go.Proofs.Ytpkjpiphjdpegaa.P
open Go.RowKit Go.Proofs.YtpkjpiphjdpegaaW.PrintWords Go.Proofs.YtpkjpiphjdpegaaW.PrintLast Go.Proofs.YtpkjpiphjdpegaaW.PrintMore
set_option linter.unusedVariables false
set_option linter.unusedSimpArgs false
theorem d16 (x : Int) (h : D16 x) : 0 ≤ x ∧ x < 65536 := h
end Go.Proofs.Ytpkjpiphjdpegaa.P
namespace Go.Proofs.Ytpkjpiphjdpegaa.P
open Go.RowKit Go.Proofs.YtpkjpiphjdpegaaW.PrintWords Go.Proofs.YtpkjpiphjdpegaaW.PrintLast Go.Proofs.YtpkjpiphjdpegaaW.PrintMore
attribute [local go_sem] max2_int min2_int max_two min_two max_three min_three max_four min_four
set_option linter.unusedVariables false
set_option linter.unusedSimpArgs false
theorem eqA25 (d : Nat) (w : World) (x0 y0 : Int) (x1 y1 : Int) :
    (Op.equalIn (d + 2) 25 (.agg #[.int .u64 x0, .int .u64 x1]) (.agg #[.int .u64 y0, .int .u64 y1])).run Try.prog w = .ok (x0 == y0 && (x1 == y1)) w := by
  refine eqA_of Try.underlying25 (by kernel_rfl) ?_
  refine eqf_cons (by rfl) (by go_simp; rfl) (by go_simp; rfl) (by go_simp) ?_
  exact eqf_last (by rfl) (by go_simp; rfl) (by go_simp; rfl) (by go_simp)
end Go.Proofs.Ytpkjpiphjdpegaa.P
namespace Go.Proofs.Ytpkjpiphjdpegaa.P
open Go.RowKit Go.Proofs.YtpkjpiphjdpegaaW.PrintWords Go.Proofs.YtpkjpiphjdpegaaW.PrintLast Go.Proofs.YtpkjpiphjdpegaaW.PrintMore
set_option linter.unusedVariables false
set_option linter.unusedSimpArgs false
theorem u_hiOf (n : Int) (h : 0 ≤ n) (h' : n < m128) : U64 (hiOf n) ∧ U64 (loOf n) := by unfold hiOf loOf m128 at *; constructor <;> constructor <;> omega
theorem val_halves (n : Int) : val (hiOf n) (loOf n) = n := by unfold val hiOf loOf; omega
theorem val_range (a b : Int) (ha : U64 a) (hb : U64 b) : 0 ≤ val a b ∧ val a b < m128 := by
  obtain ⟨a0, a1⟩ := ha
  obtain ⟨b0, b1⟩ := hb
  unfold val m128; omega
end Go.Proofs.Ytpkjpiphjdpegaa.P
namespace Go.Proofs.Ytpkjpiphjdpegaa.P
open Go.RowKit Go.Proofs.YtpkjpiphjdpegaaW.PrintWords Go.Proofs.YtpkjpiphjdpegaaW.PrintLast Go.Proofs.YtpkjpiphjdpegaaW.PrintMore
attribute [local go_sem] max2_int min2_int max_two min_two max_three min_three max_four min_four
set_option linter.unusedVariables false
set_option linter.unusedSimpArgs false
attribute [local go_sem high] eqA25
def u128_Of.f (a0 : Int) : Option (Int × Int) := some (0, a0)
end Go.Proofs.Ytpkjpiphjdpegaa.P
namespace Go.Proofs.Ytpkjpiphjdpegaa.P
open Go.RowKit Go.Proofs.YtpkjpiphjdpegaaW.PrintWords Go.Proofs.YtpkjpiphjdpegaaW.PrintLast Go.Proofs.YtpkjpiphjdpegaaW.PrintMore
set_option linter.unusedVariables false
set_option linter.unusedSimpArgs false
theorem add_num (a b c d : Int) (ha : U64 a) (hb : U64 b) (hc : U64 c) (hd : U64 d) :
    u128_Add.f a b c d = if val a b + val c d < m128 then some (hiOf (val a b + val c d), loOf (val a b + val c d), 0) else some (0, 0, 10) := by
  unfold u128_Add.f
  rw [if_pos ⟨ha, hb, hc, hd⟩]
theorem hiOf_val (a b : Int) (hb : U64 b) : hiOf (val a b) = a := by
  obtain ⟨h1, h2⟩ := hb
  unfold hiOf val
  omega
theorem loOf_val (a b : Int) (hb : U64 b) : loOf (val a b) = b := by
  obtain ⟨h1, h2⟩ := hb
  unfold loOf val
  omega
end Go.Proofs.Ytpkjpiphjdpegaa.P
namespace Go.Proofs.Ytpkjpiphjdpegaa.P
open Go.RowKit Go.Proofs.YtpkjpiphjdpegaaW.PrintWords Go.Proofs.YtpkjpiphjdpegaaW.PrintLast Go.Proofs.YtpkjpiphjdpegaaW.PrintMore
set_option linter.unusedVariables false
set_option linter.unusedSimpArgs false
theorem times_num (a b n : Int) (ha : U64 a) (hb : U64 b) (hn : U64 n) :
    u128_Times.f a b n = if val a b * n < m128 then some (hiOf (val a b * n), loOf (val a b * n), 0) else some (0, 0, 10) := by
  unfold u128_Times.f
  rw [if_pos ⟨ha, hb, hn⟩]
theorem over_num (a b n : Int) (ha : U64 a) (hb : U64 b) (hn : U64 n) (h : n ≠ 0) :
    u128_Over.f a b n = some (hiOf (val a b / n), loOf (val a b / n), val a b % n, 0) := by
  unfold u128_Over.f
  rw [if_pos (show U64 a ∧ U64 b ∧ U64 n from ⟨ha, hb, hn⟩), if_neg h]
theorem small_val (x : Int) : val 0 x = x := by unfold val; omega
theorem u0 : U64 0 := ⟨by omega, by omega⟩
end Go.Proofs.Ytpkjpiphjdpegaa.P
namespace Go.Proofs.Ytpkjpiphjdpegaa.P
open Go.RowKit Go.Proofs.YtpkjpiphjdpegaaW.PrintWords Go.Proofs.YtpkjpiphjdpegaaW.PrintLast Go.Proofs.YtpkjpiphjdpegaaW.PrintMore
set_option linter.unusedVariables false
set_option linter.unusedSimpArgs false
def asc (l : List Int) : List Int := l.map (· + 48)
def unasc (l : List Int) : List Int := l.map (· - 48)
def dec (n : Int) : List Int := decF 38 n
def nb (s : ByteArray) : List Int := s.data.toList.map fun x => (x.toNat : Int)
theorem nb_length (s : ByteArray) : (nb s).length = s.size := by
  unfold nb
  rw [List.length_map]
  rfl
theorem bt_nb (s : ByteArray) (i : Nat) : bt s (i : Int) = (nb s).getD i 0 := by
  unfold bt nb
  rw [List.getD_eq_getElem?_getD, List.getElem?_map]
  by_cases h : i < s.size
  · have h' : ((i : Int)).toNat < s.size := by omega
    rw [dif_pos h', List.getElem?_eq_getElem (by simpa using h)]
    simp only [Option.map_some, Option.getD_some, Array.getElem_toList]
    rfl
  · have h' : ¬ ((i : Int)).toNat < s.size := by omega
    rw [dif_neg h', List.getElem?_eq_none (by simpa using Nat.le_of_not_lt h)]
    rfl
theorem str_append (a b : List Int) : strOfNums a ++ strOfNums b = strOfNums (a ++ b) := by
  apply ByteArray.ext
  rw [ByteArray.data_append]
  apply Array.ext'
  rw [Array.toList_append, strOfNums_data, strOfNums_data, strOfNums_data, List.map_append]
theorem str_extract (l : List Int) (i j : Nat) : (strOfNums l).extract i j = strOfNums ((l.take j).drop i) := by
  apply ByteArray.ext
  rw [ByteArray.data_extract]
  apply Array.ext'
  rw [Array.toList_extract, strOfNums_data, strOfNums_data, List.map_drop, List.map_take]
  rw [List.extract_eq_take_drop, List.drop_take]
theorem str_one (p l : List Int) (x : Int) : (strOfNums (p ++ x :: l)).extract p.length (p.length + 1) = strOfNums [x] := by
  rw [str_extract, List.take_append, List.take_of_length_le (by omega), List.drop_append, List.drop_of_length_le (by omega)]
  simp
theorem m39 : m128 ≤ 10 ^ 39 := by unfold m128; decide
theorem dec_facts (n : Int) (h0 : 0 ≤ n) (h1 : n < m128) : valD (dec n) = n ∧ Dig (dec n) ∧ 1 ≤ (dec n).length ∧ (dec n).length ≤ 39 := by
  have := m39
  exact ⟨dec_val 38 n, dec_dig 38 n h0 (by omega), (dec_len 38 n).1, (dec_len 38 n).2⟩
def decimal_Text.f (a0_0 a0_1 : Int) : Option ByteArray := if U64 a0_0 ∧ U64 a0_1 then some (strOfNums (asc (dec (val a0_0 a0_1)))) else none
def decimal_Grouped.f (a0_0 a0_1 : Int) : Option ByteArray := if U64 a0_0 ∧ U64 a0_1 then some (strOfNums (grp 95 (asc (dec (val a0_0 a0_1))))) else none
def noNum (l : List Int) : Bool := l.isEmpty || l.any (fun c => decide (c < 48) || decide (c > 57)) || (decide (1 < l.length) && l.head? == some 48)
def parseOf (l : List Int) : Int × Int × Int := if noNum l = true then (0, 0, 20) else if valD (unasc l) < m128 then (hiOf (valD (unasc l)), loOf (valD (unasc l)), 0) else (0, 0, 10)
def decimal_Parse.f (a0 : ByteArray) : Option (Int × Int × Int) := if a0.size ≤ 1000000000 then some (parseOf (nb a0)) else none
theorem text_num (a b : Int) (ha : U64 a) (hb : U64 b) : decimal_Text.f a b = some (strOfNums (asc (dec (val a b)))) := if_pos ⟨ha, hb⟩
theorem grouped_num (a b : Int) (ha : U64 a) (hb : U64 b) : decimal_Grouped.f a b = some (strOfNums (grp 95 (asc (dec (val a b))))) := if_pos ⟨ha, hb⟩
theorem parse_num (s : ByteArray) (h : s.size ≤ 1000000000) : decimal_Parse.f s = some (parseOf (nb s)) := if_pos h
end Go.Proofs.Ytpkjpiphjdpegaa.P
namespace Go.Proofs.Ytpkjpiphjdpegaa.P
open Go.RowKit Go.Proofs.YtpkjpiphjdpegaaW.PrintWords Go.Proofs.YtpkjpiphjdpegaaW.PrintLast Go.Proofs.YtpkjpiphjdpegaaW.PrintMore
set_option linter.unusedVariables false
set_option linter.unusedSimpArgs false
def numL : List Int → Int
  | [] => 0
  | x :: l => x + 65536 * numL l
def Ds (l : List Int) : Prop := ∀ d, d ∈ l → D16 d
theorem numL_nonneg : ∀ (l : List Int), Ds l → 0 ≤ numL l
  | [], _ => by simp [numL]
  | x :: l, h => by
    have h0 := numL_nonneg l (fun d hd => h d (List.mem_cons_of_mem _ hd))
    have h1 := h x (List.mem_cons_self ..)
    unfold D16 at h1
    simp only [numL]
    omega
theorem numL_set : ∀ (l : List Int) (m : Nat) (v : Int), m < l.length → numL (l.set m v) = numL l + (v - l.getD m 0) * 65536 ^ m
  | x :: l, 0, v, _ => by
    simp only [List.set_cons_zero, numL, List.getD_cons_zero, Int.pow_zero]
    omega
  | x :: l, m + 1, v, h => by
    simp only [List.set_cons_succ, numL, List.getD_cons_succ, Int.pow_succ]
    rw [numL_set l m v (by simpa using h)]
    have e : (v - l.getD m 0) * (65536 ^ m * 65536) = 65536 * ((v - l.getD m 0) * 65536 ^ m) := by rw [← Int.mul_assoc, Int.mul_comm]
    rw [e]
    omega
theorem numL_append : ∀ (a b : List Int), numL (a ++ b) = numL a + numL b * 65536 ^ a.length
  | [], b => by simp [numL]
  | x :: a, b => by
    simp only [List.cons_append, numL, List.length_cons, Int.pow_succ]
    rw [numL_append a b]
    have e : numL b * (65536 ^ a.length * 65536) = 65536 * (numL b * 65536 ^ a.length) := by rw [← Int.mul_assoc, Int.mul_comm]
    rw [e]
    omega
theorem Ds_set {l : List Int} {m : Nat} {v : Int} (h : Ds l) (hv : D16 v) : Ds (l.set m v) := by
  intro d hd
  rcases List.mem_or_eq_of_mem_set hd with h1 | h1
  · exact h d h1
  · subst h1; exact hv
theorem Ds_getD {l : List Int} {m : Nat} (h : Ds l) (hm : m < l.length) : D16 (l.getD m 0) := by
  rw [List.getD_eq_getElem?_getD, List.getElem?_eq_getElem hm]
  exact h _ (List.getElem_mem hm)
theorem pow_pos' (m : Nat) : (0 : Int) < 65536 ^ m := Int.pow_pos (by omega)
theorem times_l1_mono {X Y out : List Int} {i c : Int} {r : Int × Int × Int} : ∀ (j k : Nat), paymasterref01_Times.l1 k X Y out i c = some r → paymasterref01_Times.l1 (k + j) X Y out i c = some r
  | 0, k, h => h
  | j + 1, k, h => (paymasterref01_Times.mono_l (k + j)).2.1 _ _ _ _ _ r (times_l1_mono j k h)
theorem times_l2 (X Y : List Int) (i c : Int) : ∀ (j : Nat) (out : List Int) (more : Int) (m : Nat), out.length = 17 → Ds out → m + j = 17 → 0 ≤ more → more < 4294967296 → numL out + more * 65536 ^ m < 65536 ^ 17 →
    ∃ out', out'.length = 17 ∧ Ds out' ∧ numL out' = numL out + more * 65536 ^ m ∧ ∀ k r, paymasterref01_Times.l1 k X Y out' i (wrap64 (c + 1)) = some r → paymasterref01_Times.l2 (k + (j + 1)) X Y out i c more (m : Int) = some r
  | 0, out, more, m, hl, hd, hm, h0, h1, hT => by
    obtain rfl : m = 17 := by omega
    have n0 := numL_nonneg out hd
    have z : more = 0 := by omega
    subst z
    refine ⟨out, hl, hd, by omega, fun k r h => ?_⟩
    show paymasterref01_Times.l2 (k + 1) X Y out i c 0 _ = some r
    simp only [paymasterref01_Times.l2]
    rw [if_neg (by omega)]
    exact h
  | j + 1, out, more, m, hl, hd, hm, h0, h1, hT => by
    by_cases hp : more > 0
    · have hD := Ds_getD (m := m) hd (by omega)
      have S := numL_set out m ((more + out.getD m 0) % 65536) (by omega)
      generalize e : out.getD m 0 = y at hD S
      obtain ⟨y0, y1⟩ := hD
      obtain ⟨q, hq⟩ : ∃ q, (more + y) / 65536 = q := ⟨_, rfl⟩
      obtain ⟨s, hs⟩ : ∃ s, (more + y) % 65536 = s := ⟨_, rfl⟩
      rw [hs] at S
      have hD' : D16 s := ⟨by omega, by omega⟩
      have E : numL (out.set m s) + q * 65536 ^ (m + 1) = numL out + more * 65536 ^ m := by
        rw [S, Int.pow_succ]
        have e1 : more = q * 65536 + (s - y) := by omega
        rw [e1, Int.add_mul, Int.mul_assoc q 65536, Int.mul_comm 65536 (65536 ^ m)]
        omega
      obtain ⟨out', a1, a2, a3, a4⟩ := times_l2 X Y i c j (out.set m s) q (m + 1) (by simpa using hl) (Ds_set hd hD') (by omega) (by omega) (by omega) (by rw [E]; exact hT)
      refine ⟨out', a1, a2, a3.trans E, fun k r h => ?_⟩
      have F := a4 k r h
      show paymasterref01_Times.l2 (k + (j + 1) + 1) X Y out i c more (m : Int) = some r
      simp only [paymasterref01_Times.l2]
      rw [if_pos hp, if_pos (by omega), if_pos (by rw [hl]; omega), show rd out (m : Int) = y from e, wu (more + y) (by omega) (by omega), tm _ (by omega), td _ (by omega), hs, hq, wu q (by omega) (by omega), show wrap64 ((m : Int) + 1) = ((m + 1 : Nat) : Int) from by rw [wi _ (by omega) (by omega)]; omega, Int.toNat_natCast]
      exact F
    · obtain rfl : more = 0 := by omega
      refine ⟨out, hl, hd, by omega, fun k r h => ?_⟩
      show paymasterref01_Times.l2 (k + (j + 1) + 1) X Y out i c 0 _ = some r
      simp only [paymasterref01_Times.l2]
      rw [if_neg (by omega)]
      exact times_l1_mono (j + 1) k h
theorem times_l1 (X Y out : List Int) (i c : Nat) (x y : Int) (hi : i < 8) (hc : c < 4) (lX : X.length = 8) (lY : Y.length = 8) (hx : rd X i = x) (hy : rd Y c = y) (dx : D16 x) (dy : D16 y) (hl : out.length = 17) (hd : Ds out) (hT : numL out + x * y * 65536 ^ (i + c) < 65536 ^ 17) :
    ∃ out', out'.length = 17 ∧ Ds out' ∧ numL out' = numL out + x * y * 65536 ^ (i + c) ∧ ∀ k r, paymasterref01_Times.l1 k X Y out' i ((c + 1 : Nat) : Int) = some r → paymasterref01_Times.l1 (k + 20) X Y out i (c : Int) = some r := by
  obtain ⟨x0, x1⟩ := dx
  obtain ⟨y0, y1⟩ := dy
  have p0 : 0 ≤ x * y := Int.mul_nonneg x0 y0
  have p1 : x * y ≤ 65535 * 65535 := Int.mul_le_mul (by omega) (by omega) y0 (by omega)
  obtain ⟨out', a1, a2, a3, a4⟩ := times_l2 X Y i c (17 - (i + c)) out (x * y) (i + c) hl hd (by omega) p0 (by omega) hT
  refine ⟨out', a1, a2, a3, fun k r h => ?_⟩
  rw [show wrap64 ((c : Int) + 1) = ((c + 1 : Nat) : Int) from by rw [wi _ (by omega) (by omega)]; omega] at a4
  have F := a4 (k + (18 - (17 - (i + c)))) r (times_l1_mono _ k h)
  rw [show k + (18 - (17 - (i + c))) + (17 - (i + c) + 1) = k + 19 from by omega] at F
  show paymasterref01_Times.l1 (k + 19 + 1) X Y out i (c : Int) = some r
  simp only [paymasterref01_Times.l1]
  rw [if_pos (by omega), if_pos (by omega), if_pos (by omega), if_pos (by omega), if_pos (by omega), hx, hy, wu (x * y) p0 (by omega), show wrap64 ((i : Int) + (c : Int)) = ((i + c : Nat) : Int) from by rw [wi _ (by omega) (by omega)]; omega]
  exact F
theorem times_row (X Y out : List Int) (i : Nat) (x a b c d : Int) (hi : i < 8) (lX : X.length = 8) (lY : Y.length = 8) (hx : rd X i = x) (ha : rd Y 0 = a) (hb : rd Y 1 = b) (hc : rd Y 2 = c) (hd : rd Y 3 = d) (dx : D16 x) (da : D16 a) (db : D16 b) (dc : D16 c) (dd : D16 d) (hl : out.length = 17) (hD : Ds out)
    (hT : numL out + x * 65536 ^ i * hf a b c d < 65536 ^ 17) :
    ∃ out', out'.length = 17 ∧ Ds out' ∧ numL out' = numL out + x * 65536 ^ i * hf a b c d ∧ ∀ k r, paymasterref01_Times.l0 k X Y out' ((i + 1 : Nat) : Int) = some r → paymasterref01_Times.l0 (k + 82) X Y out (i : Int) = some r := by
  have P0 := pow_pos' i
  have u : ∀ z : Int, 0 ≤ z → 0 ≤ x * z * 65536 ^ i := fun z hz => Int.mul_nonneg (Int.mul_nonneg dx.1 hz) (by omega)
  have u0 := u a da.1
  have u1 := u b db.1
  have u2 := u c dc.1
  have u3 := u d dd.1
  have sh : ∀ (z : Int) (t : Nat), x * z * 65536 ^ (i + t) = x * z * 65536 ^ i * 65536 ^ t := fun z t => by rw [Int.pow_add, ← Int.mul_assoc]
  have E : x * 65536 ^ i * hf a b c d = x * a * 65536 ^ i + x * b * 65536 ^ i * 65536 + x * c * 65536 ^ i * 4294967296 + x * d * 65536 ^ i * 281474976710656 := by
    have s : ∀ z : Int, x * z * 65536 ^ i = x * 65536 ^ i * z := fun z => Int.mul_right_comm ..
    rw [s, s, s, s]
    generalize x * 65536 ^ i = g
    unfold hf
    simp only [Int.mul_add, ← Int.mul_assoc]
    omega
  rw [E] at hT
  obtain ⟨o1, a1, a2, a3, a4⟩ := times_l1 X Y out i 0 x a hi (by omega) lX lY hx ha dx da hl hD (by rw [sh]; omega)
  rw [sh] at a3
  obtain ⟨o2, b1, b2, b3, b4⟩ := times_l1 X Y o1 i 1 x b hi (by omega) lX lY hx hb dx db a1 a2 (by rw [sh, a3]; omega)
  rw [sh] at b3
  obtain ⟨o3, c1, c2, c3, c4⟩ := times_l1 X Y o2 i 2 x c hi (by omega) lX lY hx hc dx dc b1 b2 (by rw [sh, b3, a3]; omega)
  rw [sh] at c3
  obtain ⟨o4, d1, d2, d3, d4⟩ := times_l1 X Y o3 i 3 x d hi (by omega) lX lY hx hd dx dd c1 c2 (by rw [sh, c3, b3, a3]; omega)
  rw [sh] at d3
  refine ⟨o4, d1, d2, by rw [d3, c3, b3, a3, E]; omega, fun k r h => ?_⟩
  show paymasterref01_Times.l0 (k + 81 + 1) X Y out (i : Int) = some r
  simp only [paymasterref01_Times.l0]
  rw [if_pos (by omega)]
  refine a4 (k + 61) r (b4 (k + 41) r (c4 (k + 21) r (d4 (k + 1) r ?_)))
  simp only [paymasterref01_Times.l1]
  rw [if_neg (by omega), show wrap64 ((i : Int) + 1) = ((i + 1 : Nat) : Int) from by rw [wi _ (by omega) (by omega)]; omega]
  exact h
theorem rd_drop (X : List Int) (i : Nat) (h : i < X.length) : X.drop i = rd X i :: X.drop (i + 1) := by
  rw [List.drop_eq_getElem_cons h]
  congr 1
  show X[i] = X.getD i 0
  rw [List.getD_eq_getElem?_getD, List.getElem?_eq_getElem h]
  rfl
theorem times_l0 (X Y : List Int) (a b c d : Int) (lX : X.length = 8) (lY : Y.length = 8) (dX : Ds X) (ha : rd Y 0 = a) (hb : rd Y 1 = b) (hc : rd Y 2 = c) (hd : rd Y 3 = d) (da : D16 a) (db : D16 b) (dc : D16 c) (dd : D16 d) : ∀ (t i : Nat) (out : List Int), i + t = 8 → out.length = 17 → Ds out → numL out + numL (X.drop i) * 65536 ^ i * hf a b c d < 65536 ^ 17 →
    ∃ out', out'.length = 17 ∧ Ds out' ∧ numL out' = numL out + numL (X.drop i) * 65536 ^ i * hf a b c d ∧ ∀ k r, paymasterref01_Times.l0 k X Y out' 8 = some r → paymasterref01_Times.l0 (k + 82 * t) X Y out (i : Int) = some r
  | 0, i, out, hi, hl, hD, hT => by
    obtain rfl : i = 8 := by omega
    have e : X.drop 8 = [] := List.drop_eq_nil_of_le (by omega)
    refine ⟨out, hl, hD, ?_, fun k r h => h⟩
    rw [e]
    simp [numL]
  | t + 1, i, out, hi, hl, hD, hT => by
    have hN := hf_range a b c d da db dc dd
    have dx := Ds_getD (m := i) dX (by omega)
    have e := rd_drop X i (by omega)
    have P0 := pow_pos' i
    have R0 : 0 ≤ numL (X.drop (i + 1)) := numL_nonneg _ (fun d hd => dX d (List.mem_of_mem_drop hd))
    have hx : rd X i = X.getD i 0 := rfl
    have E : numL (X.drop i) * 65536 ^ i * hf a b c d = rd X i * 65536 ^ i * hf a b c d + numL (X.drop (i + 1)) * 65536 ^ (i + 1) * hf a b c d := by
      rw [e]
      simp only [numL]
      rw [← Int.add_mul, Int.pow_succ, Int.add_mul, Int.mul_comm 65536, Int.mul_assoc (numL (X.drop (i + 1))), Int.mul_comm 65536 (65536 ^ i)]
    rw [E] at hT
    have z : 0 ≤ numL (X.drop (i + 1)) * 65536 ^ (i + 1) * hf a b c d := Int.mul_nonneg (Int.mul_nonneg R0 (Int.le_of_lt (pow_pos' _))) hN.1
    obtain ⟨o1, a1, a2, a3, a4⟩ := times_row X Y out i (rd X i) a b c d (by omega) lX lY rfl ha hb hc hd dx da db dc dd hl hD (by omega)
    obtain ⟨o2, b1, b2, b3, b4⟩ := times_l0 X Y a b c d lX lY dX ha hb hc hd da db dc dd t (i + 1) o1 (by omega) a1 a2 (by rw [a3]; omega)
    refine ⟨o2, b1, b2, by rw [b3, a3, E]; omega, fun k r h => ?_⟩
    rw [show k + 82 * (t + 1) = k + 82 * t + 82 from by omega]
    exact a4 _ r (b4 k r h)
theorem numL_dg (a b : Int) (ha : U64 a) (hb : U64 b) : numL (dg a b) = val a b ∧ Ds (dg a b) ∧ (dg a b).length = 8 := by
  obtain ⟨d0, d1, d2, d3, d4, d5, d6, d7, eX, h0, h1, h2, h3, h4, h5, h6, h7, va, vb⟩ := dg_cases a b ha hb
  rw [eX]
  refine ⟨?_, ?_, rfl⟩
  · unfold val
    rw [va, vb, sum_digits]
    simp only [numL]
    omega
  · intro d hd
    simp only [List.mem_cons, List.not_mem_nil, or_false] at hd
    rcases hd with rfl | rfl | rfl | rfl | rfl | rfl | rfl | rfl <;> assumption
theorem list_cons {α : Type} (l : List α) (n : Nat) (h : l.length = n + 1) : ∃ x t, l = x :: t ∧ t.length = n := by
  cases l with
  | nil => cases h
  | cons x t => exact ⟨x, t, rfl, by simpa using h⟩
theorem number8' (k : Nat) (l : List Int) (hl : l.length = 8) (hd : Ds l) : paymasterref01_number.f (k + 25) l = some (hiOf (numL l), loOf (numL l), true) := by
  obtain ⟨d0, l1, rfl, k1⟩ := list_cons l 7 hl
  obtain ⟨d1, l2, rfl, k2⟩ := list_cons l1 6 k1
  obtain ⟨d2, l3, rfl, k3⟩ := list_cons l2 5 k2
  obtain ⟨d3, l4, rfl, k4⟩ := list_cons l3 4 k3
  obtain ⟨d4, l5, rfl, k5⟩ := list_cons l4 3 k4
  obtain ⟨d5, l6, rfl, k6⟩ := list_cons l5 2 k5
  obtain ⟨d6, l7, rfl, k7⟩ := list_cons l6 1 k6
  obtain ⟨d7, l8, rfl, k8⟩ := list_cons l7 0 k7
  obtain rfl := List.eq_nil_of_length_eq_zero k8
  have h0 := hd d0 (by simp)
  have h1 := hd d1 (by simp)
  have h2 := hd d2 (by simp)
  have h3 := hd d3 (by simp)
  have h4 := hd d4 (by simp)
  have h5 := hd d5 (by simp)
  have h6 := hd d6 (by simp)
  have h7 := hd d7 (by simp)
  rw [number8 k d0 d1 d2 d3 d4 d5 d6 d7 h0 h1 h2 h3 h4 h5 h6 h7]
  have s := sum_digits d0 d1 d2 d3 d4 d5 d6 d7
  have e : numL [d0, d1, d2, d3, d4, d5, d6, d7] = hf d4 d5 d6 d7 * 18446744073709551616 + hf d0 d1 d2 d3 := by
    rw [s]; simp only [numL]; omega
  obtain ⟨e1, e2⟩ := halves _ _ _ (hf_range d0 d1 d2 d3 h0 h1 h2 h3) e
  rw [e1, e2]
theorem number17 (k : Nat) (l : List Int) (hl : l.length = 17) (hd : Ds l) : paymasterref01_number.f (k + 55) l = some (if numL l < m128 then (hiOf (numL l), loOf (numL l), true) else (0, 0, false)) := by
  obtain ⟨d0, l1, rfl, k1⟩ := list_cons l 16 hl
  obtain ⟨d1, l2, rfl, k2⟩ := list_cons l1 15 k1
  obtain ⟨d2, l3, rfl, k3⟩ := list_cons l2 14 k2
  obtain ⟨d3, l4, rfl, k4⟩ := list_cons l3 13 k3
  obtain ⟨d4, l5, rfl, k5⟩ := list_cons l4 12 k4
  obtain ⟨d5, l6, rfl, k6⟩ := list_cons l5 11 k5
  obtain ⟨d6, l7, rfl, k7⟩ := list_cons l6 10 k6
  obtain ⟨d7, l8, rfl, k8⟩ := list_cons l7 9 k7
  obtain ⟨d8, l9, rfl, k9⟩ := list_cons l8 8 k8
  obtain ⟨d9, l10, rfl, k10⟩ := list_cons l9 7 k9
  obtain ⟨d10, l11, rfl, k11⟩ := list_cons l10 6 k10
  obtain ⟨d11, l12, rfl, k12⟩ := list_cons l11 5 k11
  obtain ⟨d12, l13, rfl, k13⟩ := list_cons l12 4 k12
  obtain ⟨d13, l14, rfl, k14⟩ := list_cons l13 3 k13
  obtain ⟨d14, l15, rfl, k15⟩ := list_cons l14 2 k14
  obtain ⟨d15, l16, rfl, k16⟩ := list_cons l15 1 k15
  obtain ⟨d16, l17, rfl, k17⟩ := list_cons l16 0 k16
  obtain rfl := List.eq_nil_of_length_eq_zero k17
  have h0 := hd d0 (by simp)
  have h1 := hd d1 (by simp)
  have h2 := hd d2 (by simp)
  have h3 := hd d3 (by simp)
  have h4 := hd d4 (by simp)
  have h5 := hd d5 (by simp)
  have h6 := hd d6 (by simp)
  have h7 := hd d7 (by simp)
  have h8 := (hd d8 (by simp)).1
  have h9 := (hd d9 (by simp)).1
  have h10 := (hd d10 (by simp)).1
  have h11 := (hd d11 (by simp)).1
  have h12 := (hd d12 (by simp)).1
  have h13 := (hd d13 (by simp)).1
  have h14 := (hd d14 (by simp)).1
  have h15 := (hd d15 (by simp)).1
  have h16 := (hd d16 (by simp)).1
  clear hd
  have s := sum_digits d0 d1 d2 d3 d4 d5 d6 d7
  have r0 := hf_range d0 d1 d2 d3 h0 h1 h2 h3
  have r1 := hf_range d4 d5 d6 d7 h4 h5 h6 h7
  generalize eL : [d0, d1, d2, d3, d4, d5, d6, d7, d8, d9, d10, d11, d12, d13, d14, d15, d16] = L
  have B := fun k => num_body k L d0 d1 d2 d3 d4 d5 d6 d7 (by rw [← eL]; simp) (by rw [← eL]; rfl) (by rw [← eL]; rfl) (by rw [← eL]; rfl) (by rw [← eL]; rfl) (by rw [← eL]; rfl) (by rw [← eL]; rfl) (by rw [← eL]; rfl) (by rw [← eL]; rfl) h0 h1 h2 h3 h4 h5 h6 h7
  have lL : (L.length : Int) = 17 := by rw [← eL]; rfl
  have e8 : rd L 8 = d8 := by rw [← eL]; rfl
  have e9 : rd L 9 = d9 := by rw [← eL]; rfl
  have e10 : rd L 10 = d10 := by rw [← eL]; rfl
  have e11 : rd L 11 = d11 := by rw [← eL]; rfl
  have e12 : rd L 12 = d12 := by rw [← eL]; rfl
  have e13 : rd L 13 = d13 := by rw [← eL]; rfl
  have e14 : rd L 14 = d14 := by rw [← eL]; rfl
  have e15 : rd L 15 = d15 := by rw [← eL]; rfl
  have e16 : rd L 16 = d16 := by rw [← eL]; rfl
  have e : numL L = d16 * 115792089237316195423570985008687907853269984665640564039457584007913129639936 + d15 * 1766847064778384329583297500742918515827483896875618958121606201292619776 + d14 * 26959946667150639794667015087019630673637144422540572481103610249216 + d13 * 411376139330301510538742295639337626245683966408394965837152256 + d12 * 6277101735386680763835789423207666416102355444464034512896 + d11 * 95780971304118053647396689196894323976171195136475136 + d10 * 1461501637330902918203684832716283019655932542976 + d9 * 22300745198530623141535718272648361505980416 + d8 * 340282366920938463463374607431768211456 + (hf d4 d5 d6 d7 * 18446744073709551616 + hf d0 d1 d2 d3) := by
    rw [s, ← eL]; simp only [numL]; omega
  obtain ⟨q0, q1⟩ := r0
  obtain ⟨q2, q3⟩ := r1
  generalize hf d4 d5 d6 d7 = H at *
  generalize hf d0 d1 d2 d3 = J at *
  clear h0 h1 h2 h3 h4 h5 h6 h7 s eL hl
  unfold paymasterref01_number.f
  rw [lL, show wrap64 ((17 : Int) - 1) = 16 from by simp [wrap64]]
  have T := fun k i => num_top (k := k) L i 0 0
  have fin : ∀ v : Int, 0 < v → numL L = v * 340282366920938463463374607431768211456 + (H * 18446744073709551616 + J) → (some ((0 : Int), (0 : Int), false) : Option (Int × Int × Bool)) = some (if numL L < m128 then (hiOf (numL L), loOf (numL L), true) else (0, 0, false)) := by
    intro v hv he
    rw [if_neg (by unfold m128; omega)]
  rw [show k + 55 = k + 52 + 3 from rfl, T (k + 52) 16 (by omega) (by omega) (by omega), e16]
  by_cases z16 : d16 = 0
  case neg => rw [if_neg z16]; exact fin (d16 * 340282366920938463463374607431768211456 + d15 * 5192296858534827628530496329220096 + d14 * 79228162514264337593543950336 + d13 * 1208925819614629174706176 + d12 * 18446744073709551616 + d11 * 281474976710656 + d10 * 4294967296 + d9 * 65536 + d8) (by omega) (by omega)
  rw [if_pos z16, show (16 : Int) - 1 = 15 from rfl, show k + 52 = k + 49 + 3 from rfl, T (k + 49) 15 (by omega) (by omega) (by omega), e15]
  by_cases z15 : d15 = 0
  case neg => rw [if_neg z15]; exact fin (d15 * 5192296858534827628530496329220096 + d14 * 79228162514264337593543950336 + d13 * 1208925819614629174706176 + d12 * 18446744073709551616 + d11 * 281474976710656 + d10 * 4294967296 + d9 * 65536 + d8) (by omega) (by omega)
  rw [if_pos z15, show (15 : Int) - 1 = 14 from rfl, show k + 49 = k + 46 + 3 from rfl, T (k + 46) 14 (by omega) (by omega) (by omega), e14]
  by_cases z14 : d14 = 0
  case neg => rw [if_neg z14]; exact fin (d14 * 79228162514264337593543950336 + d13 * 1208925819614629174706176 + d12 * 18446744073709551616 + d11 * 281474976710656 + d10 * 4294967296 + d9 * 65536 + d8) (by omega) (by omega)
  rw [if_pos z14, show (14 : Int) - 1 = 13 from rfl, show k + 46 = k + 43 + 3 from rfl, T (k + 43) 13 (by omega) (by omega) (by omega), e13]
  by_cases z13 : d13 = 0
  case neg => rw [if_neg z13]; exact fin (d13 * 1208925819614629174706176 + d12 * 18446744073709551616 + d11 * 281474976710656 + d10 * 4294967296 + d9 * 65536 + d8) (by omega) (by omega)
  rw [if_pos z13, show (13 : Int) - 1 = 12 from rfl, show k + 43 = k + 40 + 3 from rfl, T (k + 40) 12 (by omega) (by omega) (by omega), e12]
  by_cases z12 : d12 = 0
  case neg => rw [if_neg z12]; exact fin (d12 * 18446744073709551616 + d11 * 281474976710656 + d10 * 4294967296 + d9 * 65536 + d8) (by omega) (by omega)
  rw [if_pos z12, show (12 : Int) - 1 = 11 from rfl, show k + 40 = k + 37 + 3 from rfl, T (k + 37) 11 (by omega) (by omega) (by omega), e11]
  by_cases z11 : d11 = 0
  case neg => rw [if_neg z11]; exact fin (d11 * 281474976710656 + d10 * 4294967296 + d9 * 65536 + d8) (by omega) (by omega)
  rw [if_pos z11, show (11 : Int) - 1 = 10 from rfl, show k + 37 = k + 34 + 3 from rfl, T (k + 34) 10 (by omega) (by omega) (by omega), e10]
  by_cases z10 : d10 = 0
  case neg => rw [if_neg z10]; exact fin (d10 * 4294967296 + d9 * 65536 + d8) (by omega) (by omega)
  rw [if_pos z10, show (10 : Int) - 1 = 9 from rfl, show k + 34 = k + 31 + 3 from rfl, T (k + 31) 9 (by omega) (by omega) (by omega), e9]
  by_cases z9 : d9 = 0
  case neg => rw [if_neg z9]; exact fin (d9 * 65536 + d8) (by omega) (by omega)
  rw [if_pos z9, show (9 : Int) - 1 = 8 from rfl, show k + 31 = k + 28 + 3 from rfl, T (k + 28) 8 (by omega) (by omega) (by omega), e8]
  by_cases z8 : d8 = 0
  case neg => rw [if_neg z8]; exact fin d8 (by omega) (by omega)
  rw [if_pos z8, show (8 : Int) - 1 = 7 from rfl, show k + 28 = k + 3 + 25 from rfl, B (k + 3)]
  have e' : numL L = H * 18446744073709551616 + J := by omega
  obtain ⟨w1, w2⟩ := halves (numL L) H J ⟨q0, q1⟩ e'
  rw [if_pos (by unfold m128; omega), w1, w2]
theorem refTimes_is (k : Nat) (a b n : Int) (ha : U64 a) (hb : U64 b) (hn : U64 n) : paymasterref01_Times.f (k + 720) a b n = u128_Times.f a b n := by
  rw [times_num a b n ha hb hn]
  have u0' := u0
  have A : paymasterref01_digits.f (k + 720) a b = some (dg a b) := digits_is (k + 710) a b ha hb
  have B : paymasterref01_digits.f (k + 720) 0 n = some (dg 0 n) := digits_is (k + 710) 0 n u0' hn
  unfold paymasterref01_Times.f
  rw [A, Option.bind_some, B, Option.bind_some, if_pos (by omega)]
  clear A B
  obtain ⟨vX, dX, lX⟩ := numL_dg a b ha hb
  obtain ⟨y0, y1, y2, y3, y4, y5, y6, y7, eY, g0, g1, g2, g3, g4, g5, g6, g7, vc, vd⟩ := dg_cases 0 n u0' hn
  have lY : (dg 0 n).length = 8 := rfl
  have f0 : rd (dg 0 n) 0 = y0 := by rw [eY]; rfl
  have f1 : rd (dg 0 n) 1 = y1 := by rw [eY]; rfl
  have f2 : rd (dg 0 n) 2 = y2 := by rw [eY]; rfl
  have f3 : rd (dg 0 n) 3 = y3 := by rw [eY]; rfl
  have v0 := val_range a b ha hb
  have z17 : numL (List.replicate 17 0) = 0 := by decide
  have d17 : Ds (List.replicate 17 0) := by
    intro d hd
    rw [List.eq_of_mem_replicate hd]
    exact ⟨by omega, by omega⟩
  have V : numL (List.replicate 17 0) + numL ((dg a b).drop 0) * 65536 ^ 0 * hf y0 y1 y2 y3 = val a b * n := by
    rw [z17, List.drop_zero, vX, ← vd, Int.pow_zero, Int.mul_one, Int.zero_add]
  have p0 : 0 ≤ val a b * n := Int.mul_nonneg v0.1 hn.1
  have p1 : val a b * n ≤ m128 * 18446744073709551616 := Int.mul_le_mul (by omega) (by have := hn.2; omega) hn.1 (by unfold m128; omega)
  obtain ⟨out, a1, a2, a3, a4⟩ := times_l0 (dg a b) (dg 0 n) y0 y1 y2 y3 lX lY dX f0 f1 f2 f3 g0 g1 g2 g3 8 0 (List.replicate 17 0) rfl rfl d17 (by rw [V]; unfold m128 at p1; omega)
  rw [V] at a3
  have N := number17 (k + 8) out a1 a2
  rw [a3] at N
  have L : paymasterref01_Times.l0 (k + 64) (dg a b) (dg 0 n) out 8 = if val a b * n < m128 then some (hiOf (val a b * n), loOf (val a b * n), 0) else some (0, 0, 10) := by
    rw [show k + 64 = k + 63 + 1 from rfl, paymasterref01_Times.l0, if_neg (by omega), show k + 63 = k + 8 + 55 from rfl, N, Option.bind_some]
    by_cases h : val a b * n < m128
    · rw [if_pos h, if_pos h, if_pos rfl]
    · rw [if_neg h, if_neg h, if_neg (by simp)]
  have G : ∀ r, (if val a b * n < m128 then some (hiOf (val a b * n), loOf (val a b * n), (0 : Int)) else some (0, 0, 10)) = some r → paymasterref01_Times.l0 (k + 720) (dg a b) (dg 0 n) (List.replicate 17 0) 0 = some r := by
    intro r h
    exact a4 (k + 64) r (L.trans h)
  by_cases h : val a b * n < m128
  · rw [if_pos h] at G ⊢
    exact G _ rfl
  · rw [if_neg h] at G ⊢
    exact G _ rfl
end Go.Proofs.Ytpkjpiphjdpegaa.P
