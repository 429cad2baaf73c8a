/- A program of this session wrote this text out of the session's own texts. (part 4 of 6) -/
import Derived.Test.YtpkjpiphjdpegaaCDecimalTexts3
namespace Go.Proofs.Ytpkjpiphjdpegaa.P
open Go.RowKit Go.Proofs.YtpkjpiphjdpegaaW.PrintWords Go.Proofs.YtpkjpiphjdpegaaW.PrintLast Go.Proofs.YtpkjpiphjdpegaaW.PrintMore
attribute [local go_sem] max2_int min2_int max_two min_two max_three min_three max_four min_four
set_option linter.unusedVariables false
set_option linter.unusedSimpArgs false
attribute [local go_sem high] eqA25
mutual
def paymasterref01_Over.l0 : Nat → Int → List Int → List Int → Int → Int → Option (Int × Int × Int × Int)
  | 0, _, _, _, _, _ => none
  | k + 1, x1, x7, x8, x9, x10 => if x10 ≥ 0 then (paymasterref01_Over.l1 k x1 x7 x8 x9 x10 32768) else ((paymasterref01_number.f k x8).bind fun bt887 => (some (bt887.1, bt887.2.1, x9, 0)))
def paymasterref01_Over.l1 : Nat → Int → List Int → List Int → Int → Int → Int → Option (Int × Int × Int × Int)
  | 0, _, _, _, _, _, _ => none
  | k + 1, x1, x7, x8, x9, x10, x11 => if x11 > 0 then (if 0 ≤ x10 then (if x10 < (x7.length : Int) then (if x11 = 0 then (none) else (if x9 ≥ (IntKind.u64.wrap (x1 - x9)) then (if x10 < (x8.length : Int) then (paymasterref01_Over.l1 k x1 x7 (x8.set (x10 : Int).toNat (IntKind.u64.wrap ((rd x8 x10) + x11))) (IntKind.u64.wrap ((IntKind.u64.wrap (x9 - (IntKind.u64.wrap (x1 - x9)))) + (Int.tmod (IntKind.u64.wrap (Int.tdiv (rd x7 x10) x11)) 2))) x10 (IntKind.u64.wrap (Int.tdiv x11 2))) else (none)) else (if (IntKind.u64.wrap (x9 + 1)) ≥ (IntKind.u64.wrap (x1 - x9)) then (if (Int.tmod (IntKind.u64.wrap (Int.tdiv (rd x7 x10) x11)) 2) = 1 then (if x10 < (x8.length : Int) then (paymasterref01_Over.l1 k x1 x7 (x8.set (x10 : Int).toNat (IntKind.u64.wrap ((rd x8 x10) + x11))) (IntKind.u64.wrap ((IntKind.u64.wrap (x9 - (IntKind.u64.wrap (x1 - x9)))) + (Int.tmod (IntKind.u64.wrap (Int.tdiv (rd x7 x10) x11)) 2))) x10 (IntKind.u64.wrap (Int.tdiv x11 2))) else (none)) else (paymasterref01_Over.l1 k x1 x7 x8 (IntKind.u64.wrap ((IntKind.u64.wrap (2 * x9)) + (Int.tmod (IntKind.u64.wrap (Int.tdiv (rd x7 x10) x11)) 2))) x10 (IntKind.u64.wrap (Int.tdiv x11 2)))) else (paymasterref01_Over.l1 k x1 x7 x8 (IntKind.u64.wrap ((IntKind.u64.wrap (2 * x9)) + (Int.tmod (IntKind.u64.wrap (Int.tdiv (rd x7 x10) x11)) 2))) x10 (IntKind.u64.wrap (Int.tdiv x11 2)))))) else (none)) else (none)) else (paymasterref01_Over.l0 k x1 x7 x8 x9 (wrap64 (x10 - 1)))
end
def paymasterref01_Over.f (k : Nat) (a0_0 : Int) (a0_1 : Int) (a1 : Int) : Option (Int × Int × Int × Int) := if a1 = 0 then (some (0, 0, 0, 2)) else ((paymasterref01_digits.f k a0_0 a0_1).bind fun t881 => (if 8 ≤ 35184372088832 then (paymasterref01_Over.l0 k a1 t881 (List.replicate 8 0) 0 7) else (none)))
set_option maxHeartbeats 8000000 in
set_option maxRecDepth 100000 in
theorem paymasterref01_Over.calls (k : Nat) (a0_0 : Int) (a0_1 : Int) (a1 : Int) (r1 : Int) (r2 : Int) (r3 : Int) (r4 : Int) (w : World) (h : paymasterref01_Over.f k a0_0 a0_1 a1 = some (r1, r2, r3, r4)) :
    Calls Try.prog 59 #[.agg #[.int .u64 a0_0, .int .u64 a0_1], .int .u64 a1] w fun e w' => e = .returned (.tuple #[.agg #[.int .u64 r1, .int .u64 r2], .int .u64 r3, .int .i64 r4]) ∧ Below w.heap.size w w' := by
  have hu25 := Try.underlying25
  have HB := Aside0.mk (Below.refl w.heap.size w)
  have H : (if a1 = 0 then (some (0, 0, 0, 2)) else ((paymasterref01_digits.f k a0_0 a0_1).bind fun t881 => (if 8 ≤ 35184372088832 then (paymasterref01_Over.l0 k a1 t881 (List.replicate 8 0) 0 7) else (none)))) = some (r1, r2, r3, r4) := h
  clear h
  by_cases c3 : a1 = 0
  · rw [if_pos c3] at H
    have c3b0 : (a1 == 0) = true := beq_iff_eq.mpr c3
    have c3b1 : (a1 != 0) = false := bne_eq_false_iff_eq.mpr c3
    clear c3
    simp only [Option.some.injEq, Prod.mk.injEq] at H
    obtain ⟨rfl, rfl, rfl, rfl⟩ := H
    go_enter Try.func59, Try.ntmps59
    go_wp2_with (first | ((with_reducible refine gate_dst (N := 2) rfl ?_); refine box_event ?hg (N := 2) ?hd (cs := #[.int .u64 a0_0, .int .u64 a0_1]) (t := 25) ?hr ?_; (case hd => rfl); (case hg => rfl); (case hr => first | (go_simp; done) | (go_simp; rfl)); intro gb879 hg w4 hbox hb; have n0_ := Aside0.mk (below_step (by repeat (first | (with_reducible first | exact HB.out | apply below_alloc | apply pw_below_drewN | apply below_drew1) | exact HB.out)) hb); have n1_ := Aside0.mk (hbox); have n2_ := Aside0.mk ((by rw [hg]; exact (below_size (by repeat (first | (with_reducible first | exact HB.out | apply below_alloc | apply pw_below_drewN | apply below_drew1) | exact HB.out))) : w.heap.size ≤ gb879)); have n3_ := Aside0.mk ((by rw [hg]; exact (below_size (by repeat (first | (with_reducible first | exact HB.out | apply below_alloc | apply pw_below_drewN | apply below_drew1) | exact HB.out))) : w.heap.size ≤ gb879)); clear HB; have HB := n0_; have BK879 := n1_; have GW879 := n2_; have GE879 := n3_; clear n0_ n1_ n2_ n3_; clear hb hbox hg) | ((with_reducible refine gate_dst (N := 4) rfl ?_); refine box_event ?hg (N := 4) ?hd (cs := #[.int .u64 0, .int .u64 0]) (t := 25) ?hr ?_; (case hd => rfl); (case hg => rfl); (case hr => first | (go_simp; done) | (go_simp; rfl)); intro gb880 hg w5 hbox hb; have n0_ := Aside0.mk (blk_below (g := gb879) (o := .cells #[.int .u64 a0_0, .int .u64 a0_1] 25 (0, 0)) (by (with_reducible repeat (first | refine blk_drewN ?_ _ | refine blk_drew ?_ | refine blk_alloc ?_ _)); exact BK879.out) hb); have n1_ := Aside0.mk (below_step (by repeat (first | (with_reducible first | exact HB.out | apply below_alloc | apply pw_below_drewN | apply below_drew1 | refine below_set ?_ GE879.out) | exact HB.out)) hb); have n2_ := Aside0.mk (hbox); have n3_ := Aside0.mk ((by rw [hg]; exact (below_size (by repeat (first | (with_reducible first | exact HB.out | apply below_alloc | apply pw_below_drewN | apply below_drew1 | refine below_set ?_ GE879.out) | exact HB.out))) : w.heap.size ≤ gb880)); have n4_ := Aside0.mk ((by rw [hg]; exact (below_size (by repeat (first | (with_reducible first | exact HB.out | apply below_alloc | apply pw_below_drewN | apply below_drew1 | refine below_set ?_ GE879.out) | exact HB.out))) : w.heap.size ≤ gb880)); have n5_ := Aside0.mk ((by rw [hg]; exact Nat.ne_of_lt (blk_lt (g := gb879) (o := .cells #[.int .u64 a0_0, .int .u64 a0_1] 25 (0, 0)) (by (with_reducible repeat (first | refine blk_drewN ?_ _ | refine blk_drew ?_ | refine blk_alloc ?_ _)); exact BK879.out)) : gb879 ≠ gb880)); have n6_ := Aside0.mk ((by rw [hg]; exact Nat.ne_of_gt (blk_lt (g := gb879) (o := .cells #[.int .u64 a0_0, .int .u64 a0_1] 25 (0, 0)) (by (with_reducible repeat (first | refine blk_drewN ?_ _ | refine blk_drew ?_ | refine blk_alloc ?_ _)); exact BK879.out)) : gb880 ≠ gb879)); clear BK879; clear HB; have BK879 := n0_; have HB := n1_; have BK880 := n2_; have GW880 := n3_; have GE880 := n4_; have NB879_880 := n5_; have NB880_879 := n6_; clear n0_ n1_ n2_ n3_ n4_ n5_ n6_; clear hb hbox hg; have hnb6 := NB880_879.out; have hnc6 := NB879_880.out; have hcz7_0 : w5.cell? ⟨gb880, 0, none⟩ = some (.int .u64 0) := (blk_cell BK880.out 0).trans rfl; have hcz7_1 : w5.cell? ⟨gb880, 1, none⟩ = some (.int .u64 0) := (blk_cell BK880.out 1).trans rfl; have hfz7_0 := blk_frozen BK880.out 0; have hfz7_1 := blk_frozen BK880.out 1))
    refine bodyPost_ret (results_ctt rfl _ _ gb880 25 #[.int .u64 0, .int .u64 0] (0, 0) _ rfl (by (with_reducible repeat (first | refine blk_drewN ?_ _ | refine blk_drew ?_ | refine blk_alloc ?_ _)); refine blk_put (cs := #[.int .u64 0, .int .u64 0]) ?_ 1 _ rfl; (with_reducible repeat (first | refine blk_drewN ?_ _ | refine blk_drew ?_ | refine blk_alloc ?_ _)); refine blk_put (cs := #[.int .u64 0, .int .u64 0]) ?_ 0 _ rfl; (with_reducible repeat (first | refine blk_drewN ?_ _ | refine blk_drew ?_ | refine blk_alloc ?_ _)); exact BK880.out) Try.underlying25 rfl (by kernel_rfl)) rfl ?_
    exact ⟨by first | rfl | (simp [errW_none, errW_some] <;> rfl) | (simp [*, errW_none, errW_some] <;> rfl), by repeat (first | (with_reducible first | exact HB.out | apply below_alloc | apply pw_below_drewN | apply below_drew1 | refine below_set ?_ GE879.out | refine below_set ?_ GE880.out) | exact HB.out)⟩
  · rw [if_neg c3] at H
    have c3b0 : (a1 == 0) = false := beq_eq_false_iff_ne.mpr c3
    have c3b1 : (a1 != 0) = true := bne_iff_ne.mpr c3
    replace H := Option.bind_eq_some_iff.mp H
    obtain ⟨t881, A80, H⟩ := H
    replace H : (if 8 ≤ 35184372088832 then (paymasterref01_Over.l0 k a1 t881 (List.replicate 8 0) 0 7) else (none)) = some (r1, r2, r3, r4) := H
    have A8 := Aside0.mk A80
    clear A80
    by_cases c9 : 8 ≤ 35184372088832
    · rw [if_pos c9] at H
      have c9b0 := eq_true c9
      have c9b1 : decide (8 ≤ 35184372088832) = true := decide_eq_true c9
      clear c9
      obtain ⟨y884, hy884⟩ : ∃ y_ : List Int, y_ = (List.replicate 8 0) := ⟨_, rfl⟩
      replace H : (paymasterref01_Over.l0 k a1 t881 y884 0 7) = some (r1, r2, r3, r4) := by first | (rw [hy884]; with_reducible exact H) | (have H2_ := (Option.bind_some _ _).symm.trans H; rw [hy884]; with_reducible exact H2_) | (have H2_ := (Option.bind_some _ _).symm.trans H; with_reducible exact H2_) | with_reducible exact H | (rw [hy884]; exact H) | exact H
      have Ny884 := Aside0.mk hy884
      clear hy884
      have H' := Aside0.mk H
      clear H
      go_enter Try.func59, Try.ntmps59
      go_wp2_with (first | ((with_reducible refine gate_dst (N := 2) rfl ?_); refine box_event ?hg (N := 2) ?hd (cs := #[.int .u64 a0_0, .int .u64 a0_1]) (t := 25) ?hr ?_; (case hd => rfl); (case hg => rfl); (case hr => first | (go_simp; done) | (go_simp; rfl)); intro gb879 hg w10 hbox hb; have n0_ := Aside0.mk (below_step (by repeat (first | (with_reducible first | exact HB.out | apply below_alloc | apply pw_below_drewN | apply below_drew1) | exact HB.out)) hb); have n1_ := Aside0.mk (hbox); have n2_ := Aside0.mk ((by rw [hg]; exact (below_size (by repeat (first | (with_reducible first | exact HB.out | apply below_alloc | apply pw_below_drewN | apply below_drew1) | exact HB.out))) : w.heap.size ≤ gb879)); have n3_ := Aside0.mk ((by rw [hg]; exact (below_size (by repeat (first | (with_reducible first | exact HB.out | apply below_alloc | apply pw_below_drewN | apply below_drew1) | exact HB.out))) : w.heap.size ≤ gb879)); clear HB; have HB := n0_; have BK879 := n1_; have GW879 := n2_; have GE879 := n3_; clear n0_ n1_ n2_ n3_; clear hb hbox hg) | ((with_reducible refine gate_dst (N := 4) rfl ?_); refine box_event ?hg (N := 4) ?hd (cs := #[.int .u64 0, .int .u64 0]) (t := 25) ?hr ?_; (case hd => rfl); (case hg => rfl); (case hr => first | (go_simp; done) | (go_simp; rfl)); intro gb880 hg w11 hbox hb; have n0_ := Aside0.mk (blk_below (g := gb879) (o := .cells #[.int .u64 a0_0, .int .u64 a0_1] 25 (0, 0)) (by (with_reducible repeat (first | refine blk_drewN ?_ _ | refine blk_drew ?_ | refine blk_alloc ?_ _)); exact BK879.out) hb); have n1_ := Aside0.mk (below_step (by repeat (first | (with_reducible first | exact HB.out | apply below_alloc | apply pw_below_drewN | apply below_drew1 | refine below_set ?_ GE879.out) | exact HB.out)) hb); have n2_ := Aside0.mk (hbox); have n3_ := Aside0.mk ((by rw [hg]; exact (below_size (by repeat (first | (with_reducible first | exact HB.out | apply below_alloc | apply pw_below_drewN | apply below_drew1 | refine below_set ?_ GE879.out) | exact HB.out))) : w.heap.size ≤ gb880)); have n4_ := Aside0.mk ((by rw [hg]; exact (below_size (by repeat (first | (with_reducible first | exact HB.out | apply below_alloc | apply pw_below_drewN | apply below_drew1 | refine below_set ?_ GE879.out) | exact HB.out))) : w.heap.size ≤ gb880)); have n5_ := Aside0.mk ((by rw [hg]; exact Nat.ne_of_lt (blk_lt (g := gb879) (o := .cells #[.int .u64 a0_0, .int .u64 a0_1] 25 (0, 0)) (by (with_reducible repeat (first | refine blk_drewN ?_ _ | refine blk_drew ?_ | refine blk_alloc ?_ _)); exact BK879.out)) : gb879 ≠ gb880)); have n6_ := Aside0.mk ((by rw [hg]; exact Nat.ne_of_gt (blk_lt (g := gb879) (o := .cells #[.int .u64 a0_0, .int .u64 a0_1] 25 (0, 0)) (by (with_reducible repeat (first | refine blk_drewN ?_ _ | refine blk_drew ?_ | refine blk_alloc ?_ _)); exact BK879.out)) : gb880 ≠ gb879)); clear BK879; clear HB; have BK879 := n0_; have HB := n1_; have BK880 := n2_; have GW880 := n3_; have GE880 := n4_; have NB879_880 := n5_; have NB880_879 := n6_; clear n0_ n1_ n2_ n3_ n4_ n5_ n6_; clear hb hbox hg; have hnb12 := NB879_880.out; have hnc12 := NB880_879.out; have hcz13_0 : w11.cell? ⟨gb879, 0, none⟩ = some (.int .u64 a0_0) := (blk_cell BK879.out 0).trans rfl; have hcz13_1 : w11.cell? ⟨gb879, 1, none⟩ = some (.int .u64 a0_1) := (blk_cell BK879.out 1).trans rfl; have hfz13_0 := blk_frozen BK879.out 0; have hfz13_1 := blk_frozen BK879.out 1) | ((with_reducible refine gate_callee (f := 84) rfl ?_); refine goesL_ (some 19) rfl rfl Try.func84 (by kernel_rfl) rfl #[.agg #[.int .u64 a0_0, .int .u64 a0_1]] rfl (by (try simp only [List.map_toArray, List.map_cons, List.map_nil]); first | done | rfl | (simp only [List.length_drop, List.length_take]; rfl)) ?_; (with_reducible refine (paymasterref01_digits.calls k a0_0 a0_1 t881 _ A8.out).mono ?_); rintro e w14 ⟨v882, rfl, ho0, hb⟩; refine ⟨_, rfl, ?_⟩; have n0_ := Aside0.mk (Kd.R_lower ho0 (below_size (by repeat (first | (with_reducible first | exact HB.out | apply below_alloc | apply pw_below_drewN | apply below_drew1 | refine below_set ?_ GE879.out | refine below_set ?_ GE880.out) | exact HB.out)))); have n1_ := Aside0.mk (blk_below (g := gb879) (o := .cells #[.int .u64 a0_0, .int .u64 a0_1] 25 (0, 0)) (by (with_reducible repeat (first | refine blk_drewN ?_ _ | refine blk_drew ?_ | refine blk_alloc ?_ _)); exact BK879.out) hb); have n2_ := Aside0.mk (blk_below (g := gb880) (o := .cells #[.int .u64 0, .int .u64 0] 25 (0, 0)) (by (with_reducible repeat (first | refine blk_drewN ?_ _ | refine blk_drew ?_ | refine blk_alloc ?_ _)); exact BK880.out) hb); have n3_ := Aside0.mk (below_step (by repeat (first | (with_reducible first | exact HB.out | apply below_alloc | apply pw_below_drewN | apply below_drew1 | refine below_set ?_ GE879.out | refine below_set ?_ GE880.out) | exact HB.out)) hb); clear BK879; clear BK880; clear HB; have HO883 := n0_; have BK879 := n1_; have BK880 := n2_; have HB := n3_; clear n0_ n1_ n2_ n3_; (try clear hb); (try clear hb2); (try clear hk); (try clear hi); (try clear ho0)) | ((with_reducible refine gate_dst (N := 20) rfl ?_); refine Kd.R_make (Kd.int .u64) _ 23 rfl (N := 20) rfl 95 _ _ rfl 8 rfl rfl Try.underlying95 (.int .u64 0) 8 info23 rfl (by decide) (by omega) 0 (ok := fun _ => True) (okp := fun _ => True) rfl (fun _ hk => hk) trivial (by omega) (by omega) (Below.refl _ _) (Nat.le_refl _) ?_; intro v885 w15 ho16 hb hg_ hnew_; clear hg_ hnew_; (first | rw [← Ny884.out] at ho16 | (simp only [Int.reduceToNat] at ho16; rw [← Ny884.out] at ho16)); have n0_ := Aside0.mk (Kd.R_elder' (by (with_reducible repeat (first | apply Kd.R_alloc | apply Kd.R_drewN | apply Kd.R_drew)); exact HO883.out) (Kd.R_base ho16) hb); have n1_ := Aside0.mk (Kd.R_lower (Kd.R_new' ho16 (Kd.R_lt (by (with_reducible repeat (first | apply Kd.R_alloc | apply Kd.R_drewN | apply Kd.R_drew)); exact HO883.out))) (below_size (by repeat (first | (with_reducible first | exact HB.out | apply below_alloc | apply pw_below_drewN | apply below_drew1 | refine below_set ?_ GE879.out | refine below_set ?_ GE880.out) | exact HB.out)))); have n2_ := Aside0.mk (blk_below (g := gb879) (o := .cells #[.int .u64 a0_0, .int .u64 a0_1] 25 (0, 0)) (by (with_reducible repeat (first | refine blk_drewN ?_ _ | refine blk_drew ?_ | refine blk_alloc ?_ _)); exact BK879.out) hb); have n3_ := Aside0.mk (blk_below (g := gb880) (o := .cells #[.int .u64 0, .int .u64 0] 25 (0, 0)) (by (with_reducible repeat (first | refine blk_drewN ?_ _ | refine blk_drew ?_ | refine blk_alloc ?_ _)); exact BK880.out) hb); have n4_ := Aside0.mk (below_step (by repeat (first | (with_reducible first | exact HB.out | apply below_alloc | apply pw_below_drewN | apply below_drew1 | refine below_set ?_ GE879.out | refine below_set ?_ GE880.out) | exact HB.out)) hb); clear HO883; clear BK879; clear BK880; clear HB; have HO883 := n0_; have HO886 := n1_; have BK879 := n2_; have BK880 := n3_; have HB := n4_; clear n0_ n1_ n2_ n3_ n4_; clear hb ho16))
      go_loopg [9, 10] k (fun kq v9 v10 w' => ∃ (x8_1 : List Int) (x9_1 : Int) (x10_1 : Int), v9 = .int .u64 x9_1 ∧ v10 = .int .i64 x10_1 ∧ Aside0 (paymasterref01_Over.l0 kq a1 t881 x8_1 x9_1 x10_1 = some (r1, r2, r3, r4)) ∧ Aside0 (kq ≤ k) ∧ Aside0 (Kd.R (Kd.int .u64) 23 w' w.heap.size (fun k_ => some k_ ≠ (v885 : Value).ownBlock) v882 t881) ∧ Aside0 (Kd.R (Kd.int .u64) 23 w' w.heap.size (fun k_ => some k_ ≠ (v882 : Value).ownBlock) v885 x8_1) ∧ Aside0 (w'.heap[gb879]? = some (.cells #[.int .u64 a0_0, .int .u64 a0_1] 25 (0, 0))) ∧ Aside0 (w'.heap[gb880]? = some (.cells #[.int .u64 0, .int .u64 0] 25 (0, 0))) ∧ Aside0 (Below w.heap.size w w'))
      case atStart => exact ⟨(y884), (0), (7), (by first | rfl | (simp; done) | (simp [*]; done)), (by first | rfl | (simp; done) | (simp [*]; done)), H', ⟨Nat.le_refl _⟩, ⟨by (with_reducible repeat (first | apply Kd.R_alloc | apply Kd.R_drewN | apply Kd.R_drew)); exact Kd.R_mono HO883.out (fun _ hk => hk.2)⟩, ⟨by (with_reducible repeat (first | apply Kd.R_alloc | apply Kd.R_drewN | apply Kd.R_drew)); exact Kd.R_mono HO886.out (fun _ hk => hk.2)⟩, ⟨by (with_reducible repeat (first | refine blk_drewN ?_ _ | refine blk_drew ?_ | refine blk_alloc ?_ _)); exact BK879.out⟩, ⟨by (with_reducible repeat (first | refine blk_drewN ?_ _ | refine blk_drew ?_ | refine blk_alloc ?_ _)); exact BK880.out⟩, ⟨by repeat (first | (with_reducible first | exact HB.out | apply below_alloc | apply pw_below_drewN | apply below_drew1 | refine below_set ?_ GE879.out | refine below_set ?_ GE880.out) | exact HB.out)⟩⟩
      case round =>
        clear H'
        try clear c1
        try clear p2
        try clear c3
        try clear c3b0
        try clear c3b1
        try clear c5
        try clear c6
        try clear c8
        try clear c9
        try clear c9b0
        try clear c9b1
        try clear c12
        try clear hcz13_0
        try clear hcz13_1
        try clear hcz7_0
        try clear hcz7_1
        try clear hfz13_0
        try clear hfz13_1
        try clear hfz7_0
        try clear hfz7_1
        obtain ⟨x8_1, x9_1, x10_1, rfl, rfl, HA, HK1, HO_7, HO_8, BK879, BK880, HB⟩ := hrel
        cases gk with
        | zero => exact absurd HA.out (by simp [paymasterref01_Over.l0])
        | succ k1 =>
          have H := HA.out
          clear HA
          simp only [paymasterref01_Over.l0] at H
          by_cases c17 : x10_1 ≥ 0
          · rw [if_pos c17] at H
            have c17b0 : decide (0 ≤ x10_1) = true := decide_eq_true c17
            clear c17
            have H' := Aside0.mk H
            clear H
            go_wp2
            go_loopg [9, 11] k1 (fun kq v9 v11 w' => ∃ (x8_2 : List Int) (x9_2 : Int) (x11_2 : Int), v9 = .int .u64 x9_2 ∧ v11 = .int .u64 x11_2 ∧ Aside0 (paymasterref01_Over.l1 kq a1 t881 x8_2 x9_2 x10_1 x11_2 = some (r1, r2, r3, r4)) ∧ Aside0 (kq ≤ k1) ∧ Aside0 (Kd.R (Kd.int .u64) 23 w' w.heap.size (fun k_ => some k_ ≠ (v885 : Value).ownBlock) v882 t881) ∧ Aside0 (Kd.R (Kd.int .u64) 23 w' w.heap.size (fun k_ => some k_ ≠ (v882 : Value).ownBlock) v885 x8_2) ∧ Aside0 (w'.heap[gb879]? = some (.cells #[.int .u64 a0_0, .int .u64 a0_1] 25 (0, 0))) ∧ Aside0 (w'.heap[gb880]? = some (.cells #[.int .u64 0, .int .u64 0] 25 (0, 0))) ∧ Aside0 (Below w.heap.size w w'))
            case atStart => exact ⟨(x8_1), (x9_1), (32768), (by first | rfl | (simp; done) | (simp [*]; done)), (by first | rfl | (simp; done) | (simp [*]; done)), H', ⟨Nat.le_refl _⟩, ⟨by (with_reducible repeat (first | apply Kd.R_alloc | apply Kd.R_drewN | apply Kd.R_drew)); exact HO_7.out⟩, ⟨by (with_reducible repeat (first | apply Kd.R_alloc | apply Kd.R_drewN | apply Kd.R_drew)); exact HO_8.out⟩, ⟨by (with_reducible repeat (first | refine blk_drewN ?_ _ | refine blk_drew ?_ | refine blk_alloc ?_ _)); exact BK879.out⟩, ⟨by (with_reducible repeat (first | refine blk_drewN ?_ _ | refine blk_drew ?_ | refine blk_alloc ?_ _)); exact BK880.out⟩, ⟨by repeat (first | (with_reducible first | exact HB.out | apply below_alloc | apply pw_below_drewN | apply below_drew1 | refine below_set ?_ GE879.out | refine below_set ?_ GE880.out) | exact HB.out)⟩⟩
            case round =>
              clear H'
              try clear c1
              try clear p2
              try clear c3
              try clear c3b0
              try clear c3b1
              try clear c5
              try clear c6
              try clear c8
              try clear c9
              try clear c9b0
              try clear c9b1
              try clear c12
              try clear c17
              try clear c17b0
              try clear hcz13_0
              try clear hcz13_1
              try clear hcz7_0
              try clear hcz7_1
              try clear hfz13_0
              try clear hfz13_1
              try clear hfz7_0
              try clear hfz7_1
              try clear p2
              obtain ⟨x8_2, x9_2, x11_2, rfl, rfl, HA, HK2, HO_7, HO_8, BK879, BK880, HB⟩ := hrel
              cases gk with
              | zero => exact absurd HA.out (by simp [paymasterref01_Over.l1])
              | succ k2 =>
                have H := HA.out
                clear HA
                simp only [paymasterref01_Over.l1] at H
                by_cases c18 : x11_2 > 0
                · rw [if_pos c18] at H
                  have c18b0 : decide (0 < x11_2) = true := decide_eq_true c18
                  clear c18
                  by_cases c19 : 0 ≤ x10_1
                  · rw [if_pos c19] at H
                    have c19b0 : decide (0 ≤ x10_1) = true := decide_eq_true c19
                    clear c19
                    by_cases c20 : x10_1 < (t881.length : Int)
                    · rw [if_pos c20] at H
                      have c20b0 : decide (x10_1 < (t881.length : Int)) = true := decide_eq_true c20
                      clear c20
                      by_cases c21 : x11_2 = 0
                      · rw [if_pos c21] at H
                        exact absurd H (by simp)
                      · rw [if_neg c21] at H
                        have c21b0 : (x11_2 == 0) = false := beq_eq_false_iff_ne.mpr c21
                        have c21b1 : (x11_2 != 0) = true := bne_iff_ne.mpr c21
                        by_cases c22 : x9_2 ≥ (IntKind.u64.wrap (a1 - x9_2))
                        · rw [if_pos c22] at H
                          have c22b0 : decide ((IntKind.u64.wrap (a1 - x9_2)) ≤ x9_2) = true := decide_eq_true c22
                          clear c22
                          by_cases c23 : x10_1 < (x8_2.length : Int)
                          · rw [if_pos c23] at H
                            have c23b0 : decide (x10_1 < (x8_2.length : Int)) = true := decide_eq_true c23
                            clear c23
                            obtain ⟨y893, hy893⟩ : ∃ y_ : List Int, y_ = (x8_2.set (x10_1 : Int).toNat (IntKind.u64.wrap ((rd x8_2 x10_1) + x11_2))) := ⟨_, rfl⟩
                            replace H : (paymasterref01_Over.l1 k2 a1 t881 y893 (IntKind.u64.wrap ((IntKind.u64.wrap (x9_2 - (IntKind.u64.wrap (a1 - x9_2)))) + (Int.tmod (IntKind.u64.wrap (Int.tdiv (rd t881 x10_1) x11_2)) 2))) x10_1 (IntKind.u64.wrap (Int.tdiv x11_2 2))) = some (r1, r2, r3, r4) := by first | (rw [hy893]; with_reducible exact H) | (have H2_ := (Option.bind_some _ _).symm.trans H; rw [hy893]; with_reducible exact H2_) | (have H2_ := (Option.bind_some _ _).symm.trans H; with_reducible exact H2_) | with_reducible exact H | (rw [hy893]; exact H) | exact H
                            have Ny893 := Aside0.mk hy893
                            clear hy893
                            have H' := Aside0.mk H
                            clear H
                            obtain ⟨Ao25, co25, eo25⟩ := Kd.R_slice HO_7.out
                            subst eo25
                            have p891 : 0 ≤ (x10_1 : Int) := of_decide_eq_true (by first | (with_reducible assumption) | assumption)
                            have q891 : x10_1 < (t881.length : Int) := of_decide_eq_true (by first | (with_reducible assumption) | assumption)
                            obtain ⟨ad891, e891, hx891_0⟩ := Kd.at_int (Kd.R_reads' HO_7.out).2.2 x10_1 p891 q891
                            cases e891
                            replace p891 := eq_true p891
                            replace q891 := eq_true q891
                            obtain ⟨Ao26, co26, eo26⟩ := Kd.R_slice HO_8.out
                            subst eo26
                            have p892 : 0 ≤ (x10_1 : Int) := of_decide_eq_true (by first | (with_reducible assumption) | assumption)
                            have q892 : x10_1 < (x8_2.length : Int) := of_decide_eq_true (by first | (with_reducible assumption) | assumption)
                            obtain ⟨ad892, e892, hx892_0⟩ := Kd.at_int (Kd.R_reads' HO_8.out).2.2 x10_1 p892 q892
                            cases e892
                            replace p892 := eq_true p892
                            replace q892 := eq_true q892
                            have p24 : 0 ≤ (x10_1 : Int) := of_decide_eq_true (by first | (with_reducible assumption) | assumption)
                            have q24 : (x10_1 : Int) < ((x8_2.length : Int) : Int) := of_decide_eq_true (by first | (with_reducible assumption) | assumption)
                            obtain ⟨go24, co24, eo24, gb24, gl24, cl24, HG24⟩ := Kd.R_form HO_8.out (by omega)
                            (first | cases eo24 | (injection eo24 with ea_ en_ ec_; (first | subst ea_ | (injection ea_ with ea_; subst ea_)); subst ec_; clear en_))
                            have GB24 := Aside0.mk gb24
                            have GG24 := Aside0.mk HG24
                            clear gb24 gl24 HG24
                            (first | simp only [add_plain] at hx892_0 | skip)
                            obtain ⟨hx24_0, hf24_0⟩ := Kd.R_celln 0 HO_8.out (x10_1 : Int) p24 q24
                            replace p24 := eq_true p24
                            replace q24 := eq_true q24
                            have HP27 := Kd.R_putg HO_8.out (x10_1 : Int) (IntKind.u64.wrap ((rd x8_2 x10_1) + x11_2))
                            go_wp2_with (first | ((with_reducible refine gate_store (t := 23) (p := 68) rfl ?_); refine store_event (t := 23) (p := 68) (v := ?vo_w28) (w1 := (wr.setCell ⟨go24, (x10_1 : Int).toNat, none⟩ (.int .u64 (IntKind.u64.wrap ((rd x8_2 x10_1) + x11_2))))) ?hg ?ho ?hn ?hr ?_; (case ho => rfl); (case hg => rfl); (case hn => rfl); (case hr => first | (go_simp; done) | (go_simp; rfl)); intro w28 hw; have hg : wr.grownBy w28 (some go24) := (by rw [hw]; exact HP27.2); have hp_ : Kd.R (Kd.int .u64) 23 w28 w.heap.size (fun k_ => some k_ ≠ (.slice (some ad891) t881.length co25 : Value).ownBlock) (.slice (some ⟨go24, 0, none⟩) x8_2.length co26) y893 := (by rw [hw, Ny893.out]; exact HP27.1); clear HP27; have n0_ := Aside0.mk (Kd.R_after (v := (.slice (some ⟨go24, 0, none⟩) x8_2.length co26)) (v1 := (.slice (some ⟨go24, 0, none⟩) x8_2.length co26)) (ok := (fun _ => True)) (by (with_reducible repeat (first | apply Kd.R_alloc | apply Kd.R_drewN | apply Kd.R_drew)); exact Kd.R_mono HO_7.out (fun _ hk => ⟨trivial, hk⟩)) hg (.inl rfl)); have n1_ := Aside0.mk (hp_); have n2_ := Aside0.mk (blk_grown (g := gb879) (o := .cells #[.int .u64 a0_0, .int .u64 a0_1] 25 (0, 0)) (by (with_reducible repeat (first | refine blk_drewN ?_ _ | refine blk_drew ?_ | refine blk_alloc ?_ _)); exact BK879.out) hg (Kd.R_ne HO_8.out BK879.out (by decide))); have n3_ := Aside0.mk (blk_grown (g := gb880) (o := .cells #[.int .u64 0, .int .u64 0] 25 (0, 0)) (by (with_reducible repeat (first | refine blk_drewN ?_ _ | refine blk_drew ?_ | refine blk_alloc ?_ _)); exact BK880.out) hg (Kd.R_ne HO_8.out BK880.out (by decide))); have n4_ := Aside0.mk ((by rw [hw]; exact below_set (HB.out) GB24.out : Below w.heap.size w w28)); clear HO_7; clear HO_8; clear BK879; clear BK880; clear HB; have HO_7 := n0_; have HO_8 := n1_; have BK879 := n2_; have BK880 := n3_; have HB := n4_; clear n0_ n1_ n2_ n3_ n4_; clear hg hw hp_))
                            go_roundg k2
                            case measure => have := HK1.out; have := HK2.out; omega
                            case rel => exact ⟨(y893), (IntKind.u64.wrap ((IntKind.u64.wrap (x9_2 - (IntKind.u64.wrap (a1 - x9_2)))) + (Int.tmod (IntKind.u64.wrap (Int.tdiv (rd t881 x10_1) x11_2)) 2))), (IntKind.u64.wrap (Int.tdiv x11_2 2)), (by first | rfl | (simp; done) | (simp [*]; done)), (by first | rfl | (simp; done) | (simp [*]; done)), H', ⟨by have := HK1.out; have := HK2.out; omega⟩, ⟨by (with_reducible repeat (first | apply Kd.R_alloc | apply Kd.R_drewN | apply Kd.R_drew)); exact Kd.R_mono HO_7.out (fun _ hk => hk.2)⟩, ⟨by (with_reducible repeat (first | apply Kd.R_alloc | apply Kd.R_drewN | apply Kd.R_drew)); exact HO_8.out⟩, ⟨by (with_reducible repeat (first | refine blk_drewN ?_ _ | refine blk_drew ?_ | refine blk_alloc ?_ _)); exact BK879.out⟩, ⟨by (with_reducible repeat (first | refine blk_drewN ?_ _ | refine blk_drew ?_ | refine blk_alloc ?_ _)); exact BK880.out⟩, ⟨by repeat (first | (with_reducible first | exact HB.out | apply below_alloc | apply pw_below_drewN | apply below_drew1 | refine below_set ?_ GE879.out | refine below_set ?_ GE880.out) | exact HB.out)⟩⟩
                          · rw [if_neg c23] at H
                            exact absurd H (by simp)
                        · rw [if_neg c22] at H
                          have c22b0 : decide ((IntKind.u64.wrap (a1 - x9_2)) ≤ x9_2) = false := decide_eq_false c22
                          clear c22
                          by_cases c29 : (IntKind.u64.wrap (x9_2 + 1)) ≥ (IntKind.u64.wrap (a1 - x9_2))
                          · rw [if_pos c29] at H
                            have c29b0 : decide ((IntKind.u64.wrap (a1 - x9_2)) ≤ (IntKind.u64.wrap (x9_2 + 1))) = true := decide_eq_true c29
                            clear c29
                            by_cases c30 : (Int.tmod (IntKind.u64.wrap (Int.tdiv (rd t881 x10_1) x11_2)) 2) = 1
                            · rw [if_pos c30] at H
                              have c30b0 : ((Int.tmod (IntKind.u64.wrap (Int.tdiv (rd t881 x10_1) x11_2)) 2) == 1) = true := beq_iff_eq.mpr c30
                              have c30b1 : ((Int.tmod (IntKind.u64.wrap (Int.tdiv (rd t881 x10_1) x11_2)) 2) != 1) = false := bne_eq_false_iff_eq.mpr c30
                              clear c30
                              by_cases c31 : x10_1 < (x8_2.length : Int)
                              · rw [if_pos c31] at H
                                have c31b0 : decide (x10_1 < (x8_2.length : Int)) = true := decide_eq_true c31
                                clear c31
                                obtain ⟨y895, hy895⟩ : ∃ y_ : List Int, y_ = (x8_2.set (x10_1 : Int).toNat (IntKind.u64.wrap ((rd x8_2 x10_1) + x11_2))) := ⟨_, rfl⟩
                                replace H : (paymasterref01_Over.l1 k2 a1 t881 y895 (IntKind.u64.wrap ((IntKind.u64.wrap (x9_2 - (IntKind.u64.wrap (a1 - x9_2)))) + (Int.tmod (IntKind.u64.wrap (Int.tdiv (rd t881 x10_1) x11_2)) 2))) x10_1 (IntKind.u64.wrap (Int.tdiv x11_2 2))) = some (r1, r2, r3, r4) := by first | (rw [hy895]; with_reducible exact H) | (have H2_ := (Option.bind_some _ _).symm.trans H; rw [hy895]; with_reducible exact H2_) | (have H2_ := (Option.bind_some _ _).symm.trans H; with_reducible exact H2_) | with_reducible exact H | (rw [hy895]; exact H) | exact H
                                have Ny895 := Aside0.mk hy895
                                clear hy895
                                have H' := Aside0.mk H
                                clear H
                                obtain ⟨Ao33, co33, eo33⟩ := Kd.R_slice HO_7.out
                                subst eo33
                                have p891 : 0 ≤ (x10_1 : Int) := of_decide_eq_true (by first | (with_reducible assumption) | assumption)
                                have q891 : x10_1 < (t881.length : Int) := of_decide_eq_true (by first | (with_reducible assumption) | assumption)
                                obtain ⟨ad891, e891, hx891_0⟩ := Kd.at_int (Kd.R_reads' HO_7.out).2.2 x10_1 p891 q891
                                cases e891
                                replace p891 := eq_true p891
                                replace q891 := eq_true q891
                                obtain ⟨Ao34, co34, eo34⟩ := Kd.R_slice HO_8.out
                                subst eo34
                                have p894 : 0 ≤ (x10_1 : Int) := of_decide_eq_true (by first | (with_reducible assumption) | assumption)
                                have q894 : x10_1 < (x8_2.length : Int) := of_decide_eq_true (by first | (with_reducible assumption) | assumption)
                                obtain ⟨ad894, e894, hx894_0⟩ := Kd.at_int (Kd.R_reads' HO_8.out).2.2 x10_1 p894 q894
                                cases e894
                                replace p894 := eq_true p894
                                replace q894 := eq_true q894
                                have p32 : 0 ≤ (x10_1 : Int) := of_decide_eq_true (by first | (with_reducible assumption) | assumption)
                                have q32 : (x10_1 : Int) < ((x8_2.length : Int) : Int) := of_decide_eq_true (by first | (with_reducible assumption) | assumption)
                                obtain ⟨go32, co32, eo32, gb32, gl32, cl32, HG32⟩ := Kd.R_form HO_8.out (by omega)
                                (first | cases eo32 | (injection eo32 with ea_ en_ ec_; (first | subst ea_ | (injection ea_ with ea_; subst ea_)); subst ec_; clear en_))
                                have GB32 := Aside0.mk gb32
                                have GG32 := Aside0.mk HG32
                                clear gb32 gl32 HG32
                                (first | simp only [add_plain] at hx894_0 | skip)
                                obtain ⟨hx32_0, hf32_0⟩ := Kd.R_celln 0 HO_8.out (x10_1 : Int) p32 q32
                                replace p32 := eq_true p32
                                replace q32 := eq_true q32
                                have HP35 := Kd.R_putg HO_8.out (x10_1 : Int) (IntKind.u64.wrap ((rd x8_2 x10_1) + x11_2))
                                go_wp2_with (first | ((with_reducible refine gate_store (t := 23) (p := 68) rfl ?_); refine store_event (t := 23) (p := 68) (v := ?vo_w36) (w1 := (wr.setCell ⟨go32, (x10_1 : Int).toNat, none⟩ (.int .u64 (IntKind.u64.wrap ((rd x8_2 x10_1) + x11_2))))) ?hg ?ho ?hn ?hr ?_; (case ho => rfl); (case hg => rfl); (case hn => rfl); (case hr => first | (go_simp; done) | (go_simp; rfl)); intro w36 hw; have hg : wr.grownBy w36 (some go32) := (by rw [hw]; exact HP35.2); have hp_ : Kd.R (Kd.int .u64) 23 w36 w.heap.size (fun k_ => some k_ ≠ (.slice (some ad891) t881.length co33 : Value).ownBlock) (.slice (some ⟨go32, 0, none⟩) x8_2.length co34) y895 := (by rw [hw, Ny895.out]; exact HP35.1); clear HP35; have n0_ := Aside0.mk (Kd.R_after (v := (.slice (some ⟨go32, 0, none⟩) x8_2.length co34)) (v1 := (.slice (some ⟨go32, 0, none⟩) x8_2.length co34)) (ok := (fun _ => True)) (by (with_reducible repeat (first | apply Kd.R_alloc | apply Kd.R_drewN | apply Kd.R_drew)); exact Kd.R_mono HO_7.out (fun _ hk => ⟨trivial, hk⟩)) hg (.inl rfl)); have n1_ := Aside0.mk (hp_); have n2_ := Aside0.mk (blk_grown (g := gb879) (o := .cells #[.int .u64 a0_0, .int .u64 a0_1] 25 (0, 0)) (by (with_reducible repeat (first | refine blk_drewN ?_ _ | refine blk_drew ?_ | refine blk_alloc ?_ _)); exact BK879.out) hg (Kd.R_ne HO_8.out BK879.out (by decide))); have n3_ := Aside0.mk (blk_grown (g := gb880) (o := .cells #[.int .u64 0, .int .u64 0] 25 (0, 0)) (by (with_reducible repeat (first | refine blk_drewN ?_ _ | refine blk_drew ?_ | refine blk_alloc ?_ _)); exact BK880.out) hg (Kd.R_ne HO_8.out BK880.out (by decide))); have n4_ := Aside0.mk ((by rw [hw]; exact below_set (HB.out) GB32.out : Below w.heap.size w w36)); clear HO_7; clear HO_8; clear BK879; clear BK880; clear HB; have HO_7 := n0_; have HO_8 := n1_; have BK879 := n2_; have BK880 := n3_; have HB := n4_; clear n0_ n1_ n2_ n3_ n4_; clear hg hw hp_))
                                go_roundg k2
                                case measure => have := HK1.out; have := HK2.out; omega
                                case rel => exact ⟨(y895), (IntKind.u64.wrap ((IntKind.u64.wrap (x9_2 - (IntKind.u64.wrap (a1 - x9_2)))) + (Int.tmod (IntKind.u64.wrap (Int.tdiv (rd t881 x10_1) x11_2)) 2))), (IntKind.u64.wrap (Int.tdiv x11_2 2)), (by first | rfl | (simp; done) | (simp [*]; done)), (by first | rfl | (simp; done) | (simp [*]; done)), H', ⟨by have := HK1.out; have := HK2.out; omega⟩, ⟨by (with_reducible repeat (first | apply Kd.R_alloc | apply Kd.R_drewN | apply Kd.R_drew)); exact Kd.R_mono HO_7.out (fun _ hk => hk.2)⟩, ⟨by (with_reducible repeat (first | apply Kd.R_alloc | apply Kd.R_drewN | apply Kd.R_drew)); exact HO_8.out⟩, ⟨by (with_reducible repeat (first | refine blk_drewN ?_ _ | refine blk_drew ?_ | refine blk_alloc ?_ _)); exact BK879.out⟩, ⟨by (with_reducible repeat (first | refine blk_drewN ?_ _ | refine blk_drew ?_ | refine blk_alloc ?_ _)); exact BK880.out⟩, ⟨by repeat (first | (with_reducible first | exact HB.out | apply below_alloc | apply pw_below_drewN | apply below_drew1 | refine below_set ?_ GE879.out | refine below_set ?_ GE880.out) | exact HB.out)⟩⟩
                              · rw [if_neg c31] at H
                                exact absurd H (by simp)
                            · rw [if_neg c30] at H
                              have c30b0 : ((Int.tmod (IntKind.u64.wrap (Int.tdiv (rd t881 x10_1) x11_2)) 2) == 1) = false := beq_eq_false_iff_ne.mpr c30
                              have c30b1 : ((Int.tmod (IntKind.u64.wrap (Int.tdiv (rd t881 x10_1) x11_2)) 2) != 1) = true := bne_iff_ne.mpr c30
                              have H' := Aside0.mk H
                              clear H
                              obtain ⟨Ao37, co37, eo37⟩ := Kd.R_slice HO_7.out
                              subst eo37
                              have p891 : 0 ≤ (x10_1 : Int) := of_decide_eq_true (by first | (with_reducible assumption) | assumption)
                              have q891 : x10_1 < (t881.length : Int) := of_decide_eq_true (by first | (with_reducible assumption) | assumption)
                              obtain ⟨ad891, e891, hx891_0⟩ := Kd.at_int (Kd.R_reads' HO_7.out).2.2 x10_1 p891 q891
                              cases e891
                              replace p891 := eq_true p891
                              replace q891 := eq_true q891
                              go_wp2
                              go_roundg k2
                              case measure => have := HK1.out; have := HK2.out; omega
                              case rel => exact ⟨(x8_2), (IntKind.u64.wrap ((IntKind.u64.wrap (2 * x9_2)) + (Int.tmod (IntKind.u64.wrap (Int.tdiv (rd t881 x10_1) x11_2)) 2))), (IntKind.u64.wrap (Int.tdiv x11_2 2)), (by first | rfl | (simp; done) | (simp [*]; done)), (by first | rfl | (simp; done) | (simp [*]; done)), H', ⟨by have := HK1.out; have := HK2.out; omega⟩, ⟨by (with_reducible repeat (first | apply Kd.R_alloc | apply Kd.R_drewN | apply Kd.R_drew)); exact HO_7.out⟩, ⟨by (with_reducible repeat (first | apply Kd.R_alloc | apply Kd.R_drewN | apply Kd.R_drew)); exact HO_8.out⟩, ⟨by (with_reducible repeat (first | refine blk_drewN ?_ _ | refine blk_drew ?_ | refine blk_alloc ?_ _)); exact BK879.out⟩, ⟨by (with_reducible repeat (first | refine blk_drewN ?_ _ | refine blk_drew ?_ | refine blk_alloc ?_ _)); exact BK880.out⟩, ⟨by repeat (first | (with_reducible first | exact HB.out | apply below_alloc | apply pw_below_drewN | apply below_drew1 | refine below_set ?_ GE879.out | refine below_set ?_ GE880.out) | exact HB.out)⟩⟩
                          · rw [if_neg c29] at H
                            have c29b0 : decide ((IntKind.u64.wrap (a1 - x9_2)) ≤ (IntKind.u64.wrap (x9_2 + 1))) = false := decide_eq_false c29
                            clear c29
                            have H' := Aside0.mk H
                            clear H
                            obtain ⟨Ao38, co38, eo38⟩ := Kd.R_slice HO_7.out
                            subst eo38
                            have p891 : 0 ≤ (x10_1 : Int) := of_decide_eq_true (by first | (with_reducible assumption) | assumption)
                            have q891 : x10_1 < (t881.length : Int) := of_decide_eq_true (by first | (with_reducible assumption) | assumption)
                            obtain ⟨ad891, e891, hx891_0⟩ := Kd.at_int (Kd.R_reads' HO_7.out).2.2 x10_1 p891 q891
                            cases e891
                            replace p891 := eq_true p891
                            replace q891 := eq_true q891
                            go_wp2
                            go_roundg k2
                            case measure => have := HK1.out; have := HK2.out; omega
                            case rel => exact ⟨(x8_2), (IntKind.u64.wrap ((IntKind.u64.wrap (2 * x9_2)) + (Int.tmod (IntKind.u64.wrap (Int.tdiv (rd t881 x10_1) x11_2)) 2))), (IntKind.u64.wrap (Int.tdiv x11_2 2)), (by first | rfl | (simp; done) | (simp [*]; done)), (by first | rfl | (simp; done) | (simp [*]; done)), H', ⟨by have := HK1.out; have := HK2.out; omega⟩, ⟨by (with_reducible repeat (first | apply Kd.R_alloc | apply Kd.R_drewN | apply Kd.R_drew)); exact HO_7.out⟩, ⟨by (with_reducible repeat (first | apply Kd.R_alloc | apply Kd.R_drewN | apply Kd.R_drew)); exact HO_8.out⟩, ⟨by (with_reducible repeat (first | refine blk_drewN ?_ _ | refine blk_drew ?_ | refine blk_alloc ?_ _)); exact BK879.out⟩, ⟨by (with_reducible repeat (first | refine blk_drewN ?_ _ | refine blk_drew ?_ | refine blk_alloc ?_ _)); exact BK880.out⟩, ⟨by repeat (first | (with_reducible first | exact HB.out | apply below_alloc | apply pw_below_drewN | apply below_drew1 | refine below_set ?_ GE879.out | refine below_set ?_ GE880.out) | exact HB.out)⟩⟩
                    · rw [if_neg c20] at H
                      exact absurd H (by simp)
                  · rw [if_neg c19] at H
                    exact absurd H (by simp)
                · rw [if_neg c18] at H
                  have c18b0 : decide (0 < x11_2) = false := decide_eq_false c18
                  clear c18
                  have H' := Aside0.mk H
                  clear H
                  go_wp2
                  go_roundg k2
                  case measure => have := HK1.out; have := HK2.out; omega
                  case rel => exact ⟨(x8_2), (x9_2), (wrap64 (x10_1 - 1)), (by first | rfl | (simp; done) | (simp [*]; done)), (by first | rfl | (simp; done) | (simp [*]; done)), H', ⟨by have := HK1.out; have := HK2.out; omega⟩, ⟨by (with_reducible repeat (first | apply Kd.R_alloc | apply Kd.R_drewN | apply Kd.R_drew)); exact HO_7.out⟩, ⟨by (with_reducible repeat (first | apply Kd.R_alloc | apply Kd.R_drewN | apply Kd.R_drew)); exact HO_8.out⟩, ⟨by (with_reducible repeat (first | refine blk_drewN ?_ _ | refine blk_drew ?_ | refine blk_alloc ?_ _)); exact BK879.out⟩, ⟨by (with_reducible repeat (first | refine blk_drewN ?_ _ | refine blk_drew ?_ | refine blk_alloc ?_ _)); exact BK880.out⟩, ⟨by repeat (first | (with_reducible first | exact HB.out | apply below_alloc | apply pw_below_drewN | apply below_drew1 | refine below_set ?_ GE879.out | refine below_set ?_ GE880.out) | exact HB.out)⟩⟩
          · rw [if_neg c17] at H
            have c17b0 : decide (0 ≤ x10_1) = false := decide_eq_false c17
            clear c17
            replace H := Option.bind_eq_some_iff.mp H
            obtain ⟨⟨t887, t888, t889⟩, A390, H⟩ := H
            replace H : (some (t887, t888, x9_1, 0)) = some (r1, r2, r3, r4) := H
            have A39 := Aside0.mk A390
            clear A390
            simp only [Option.some.injEq, Prod.mk.injEq] at H
            obtain ⟨rfl, rfl, rfl, rfl⟩ := H
            obtain ⟨Ao40, co40, eo40⟩ := Kd.R_slice HO_8.out
            subst eo40
            go_wp2_with (first | ((with_reducible refine gate_callee (f := 83) rfl ?_); refine goesL_ (some 75) rfl rfl Try.func83 (by kernel_rfl) rfl #[.slice Ao40 x8_1.length co40] rfl (by (try simp only [List.map_toArray, List.map_cons, List.map_nil]); first | done | rfl | (simp only [List.length_drop, List.length_take]; rfl)) ?_; (with_reducible refine (paymasterref01_number.calls k1 _ _ x8_1 t887 t888 t889 _ ?side1 ?side2 A39.out).mono ?_); (case side1 => repeat (first | exact (Kd.R_reads' HO_8.out).2.2 | (with_reducible refine Kd.C_alloc ?_ _) | (with_reducible refine Kd.C_drewN ?_ _) | (with_reducible refine Kd.C_drew ?_))); (case side2 => exact (Kd.R_reads' HO_8.out).2.1); rintro e w41 ⟨rfl, hb⟩; refine ⟨_, rfl, ?_⟩; have n0_ := Aside0.mk (Kd.R_below (by (with_reducible repeat (first | apply Kd.R_alloc | apply Kd.R_drewN | apply Kd.R_drew)); exact HO_7.out) hb); have n1_ := Aside0.mk (Kd.R_below (by (with_reducible repeat (first | apply Kd.R_alloc | apply Kd.R_drewN | apply Kd.R_drew)); exact HO_8.out) hb); have n2_ := Aside0.mk (blk_below (g := gb879) (o := .cells #[.int .u64 a0_0, .int .u64 a0_1] 25 (0, 0)) (by (with_reducible repeat (first | refine blk_drewN ?_ _ | refine blk_drew ?_ | refine blk_alloc ?_ _)); exact BK879.out) hb); have n3_ := Aside0.mk (blk_below (g := gb880) (o := .cells #[.int .u64 0, .int .u64 0] 25 (0, 0)) (by (with_reducible repeat (first | refine blk_drewN ?_ _ | refine blk_drew ?_ | refine blk_alloc ?_ _)); exact BK880.out) hb); have n4_ := Aside0.mk (below_step (by repeat (first | (with_reducible first | exact HB.out | apply below_alloc | apply pw_below_drewN | apply below_drew1 | refine below_set ?_ GE879.out | refine below_set ?_ GE880.out) | exact HB.out)) hb); clear HO_7; clear HO_8; clear BK879; clear BK880; clear HB; have HO_7 := n0_; have HO_8 := n1_; have BK879 := n2_; have BK880 := n3_; have HB := n4_; clear n0_ n1_ n2_ n3_ n4_; (try clear hb); (try clear hb2); (try clear hk); (try clear hi)) | ((with_reducible refine gate_dst (N := 13) rfl ?_); refine box_event ?hg (N := 13) ?hd (cs := #[.int .u64 0, .int .u64 0]) (t := 25) ?hr ?_; (case hd => rfl); (case hg => rfl); (case hr => first | (go_simp; done) | (go_simp; rfl)); intro gb890 hg w42 hbox hb; have n0_ := Aside0.mk (Kd.R_below (by (with_reducible repeat (first | apply Kd.R_alloc | apply Kd.R_drewN | apply Kd.R_drew)); exact HO_7.out) hb); have n1_ := Aside0.mk (Kd.R_below (by (with_reducible repeat (first | apply Kd.R_alloc | apply Kd.R_drewN | apply Kd.R_drew)); exact HO_8.out) hb); have n2_ := Aside0.mk (blk_below (g := gb879) (o := .cells #[.int .u64 a0_0, .int .u64 a0_1] 25 (0, 0)) (by (with_reducible repeat (first | refine blk_drewN ?_ _ | refine blk_drew ?_ | refine blk_alloc ?_ _)); exact BK879.out) hb); have n3_ := Aside0.mk (blk_below (g := gb880) (o := .cells #[.int .u64 0, .int .u64 0] 25 (0, 0)) (by (with_reducible repeat (first | refine blk_drewN ?_ _ | refine blk_drew ?_ | refine blk_alloc ?_ _)); exact BK880.out) hb); have n4_ := Aside0.mk (below_step (by repeat (first | (with_reducible first | exact HB.out | apply below_alloc | apply pw_below_drewN | apply below_drew1 | refine below_set ?_ GE879.out | refine below_set ?_ GE880.out) | exact HB.out)) hb); have n5_ := Aside0.mk (hbox); have n6_ := Aside0.mk ((by rw [hg]; exact (below_size (by repeat (first | (with_reducible first | exact HB.out | apply below_alloc | apply pw_below_drewN | apply below_drew1 | refine below_set ?_ GE879.out | refine below_set ?_ GE880.out) | exact HB.out))) : w.heap.size ≤ gb890)); have n7_ := Aside0.mk ((by rw [hg]; exact (below_size (by repeat (first | (with_reducible first | exact HB.out | apply below_alloc | apply pw_below_drewN | apply below_drew1 | refine below_set ?_ GE879.out | refine below_set ?_ GE880.out) | exact HB.out))) : w.heap.size ≤ gb890)); have n8_ := Aside0.mk ((by rw [hg]; exact Nat.ne_of_lt (blk_lt (g := gb879) (o := .cells #[.int .u64 a0_0, .int .u64 a0_1] 25 (0, 0)) (by (with_reducible repeat (first | refine blk_drewN ?_ _ | refine blk_drew ?_ | refine blk_alloc ?_ _)); exact BK879.out)) : gb879 ≠ gb890)); have n9_ := Aside0.mk ((by rw [hg]; exact Nat.ne_of_gt (blk_lt (g := gb879) (o := .cells #[.int .u64 a0_0, .int .u64 a0_1] 25 (0, 0)) (by (with_reducible repeat (first | refine blk_drewN ?_ _ | refine blk_drew ?_ | refine blk_alloc ?_ _)); exact BK879.out)) : gb890 ≠ gb879)); have n10_ := Aside0.mk ((by rw [hg]; exact Nat.ne_of_lt (blk_lt (g := gb880) (o := .cells #[.int .u64 0, .int .u64 0] 25 (0, 0)) (by (with_reducible repeat (first | refine blk_drewN ?_ _ | refine blk_drew ?_ | refine blk_alloc ?_ _)); exact BK880.out)) : gb880 ≠ gb890)); have n11_ := Aside0.mk ((by rw [hg]; exact Nat.ne_of_gt (blk_lt (g := gb880) (o := .cells #[.int .u64 0, .int .u64 0] 25 (0, 0)) (by (with_reducible repeat (first | refine blk_drewN ?_ _ | refine blk_drew ?_ | refine blk_alloc ?_ _)); exact BK880.out)) : gb890 ≠ gb880)); clear HO_7; clear HO_8; clear BK879; clear BK880; clear HB; have HO_7 := n0_; have HO_8 := n1_; have BK879 := n2_; have BK880 := n3_; have HB := n4_; have BK890 := n5_; have GW890 := n6_; have GE890 := n7_; have NB879_890 := n8_; have NB890_879 := n9_; have NB880_890 := n10_; have NB890_880 := n11_; clear n0_ n1_ n2_ n3_ n4_ n5_ n6_ n7_ n8_ n9_ n10_ n11_; clear hb hbox hg; have hnb43 := NB890_879.out; have hnc43 := NB879_890.out; have hnb44 := NB890_880.out; have hnc44 := NB880_890.out; have hcz45_0 : w42.cell? ⟨gb890, 0, none⟩ = some (.int .u64 0) := (blk_cell BK890.out 0).trans rfl; have hcz45_1 : w42.cell? ⟨gb890, 1, none⟩ = some (.int .u64 0) := (blk_cell BK890.out 1).trans rfl; have hfz45_0 := blk_frozen BK890.out 0; have hfz45_1 := blk_frozen BK890.out 1; have hnb46 := NB880_879.out; have hnc46 := NB879_880.out; have hcz47_0 : w42.cell? ⟨gb880, 0, none⟩ = some (.int .u64 0) := (blk_cell BK880.out 0).trans rfl; have hcz47_1 : w42.cell? ⟨gb880, 1, none⟩ = some (.int .u64 0) := (blk_cell BK880.out 1).trans rfl; have hfz47_0 := blk_frozen BK880.out 0; have hfz47_1 := blk_frozen BK880.out 1))
            refine bodyPost_ret (results_ctt rfl _ _ gb880 25 #[.int .u64 t887, .int .u64 t888] (0, 0) _ rfl (by (with_reducible repeat (first | refine blk_drewN ?_ _ | refine blk_drew ?_ | refine blk_alloc ?_ _)); refine blk_put (cs := #[.int .u64 t887, .int .u64 0]) ?_ 1 _ rfl; (with_reducible repeat (first | refine blk_drewN ?_ _ | refine blk_drew ?_ | refine blk_alloc ?_ _)); refine blk_put (cs := #[.int .u64 0, .int .u64 0]) ?_ 0 _ rfl; (with_reducible repeat (first | refine blk_drewN ?_ _ | refine blk_drew ?_ | refine blk_alloc ?_ _)); refine blk_far ?_ NB880_890.out _; (with_reducible repeat (first | refine blk_drewN ?_ _ | refine blk_drew ?_ | refine blk_alloc ?_ _)); refine blk_far ?_ NB880_890.out _; (with_reducible repeat (first | refine blk_drewN ?_ _ | refine blk_drew ?_ | refine blk_alloc ?_ _)); exact BK880.out) Try.underlying25 rfl (by kernel_rfl)) rfl ?_
            exact ⟨by first | rfl | (simp [errW_none, errW_some] <;> rfl) | (simp [*, errW_none, errW_some] <;> rfl), by repeat (first | (with_reducible first | exact HB.out | apply below_alloc | apply pw_below_drewN | apply below_drew1 | refine below_set ?_ GE879.out | refine below_set ?_ GE880.out | refine below_set ?_ GE890.out) | exact HB.out)⟩
    · rw [if_neg c9] at H
      exact absurd H (by simp)
end Go.Proofs.Ytpkjpiphjdpegaa.P
namespace Go.Proofs.Ytpkjpiphjdpegaa.P
open Go.RowKit Go.Proofs.YtpkjpiphjdpegaaW.PrintWords Go.Proofs.YtpkjpiphjdpegaaW.PrintLast Go.Proofs.YtpkjpiphjdpegaaW.PrintMore
set_option linter.unusedVariables false
set_option linter.unusedSimpArgs false
theorem over_bit (k : Nat) (n : Int) (X q : List Int) (i : Nat) (x g rest p one : Int) (hn : 0 < n) (hn' : n < 18446744073709551616) (lX : X.length = 8) (lq : q.length = 8) (hi : i < 8) (hx : rd X i = x) (dx : D16 x) (hg : rd q i = g) (g0 : 0 ≤ g) (p0 : 0 < p) (gp : g + p ≤ 65536) (r0 : 0 ≤ rest) (r1 : rest < n) (ho : x / p % 2 = one) :
    paymasterref01_Over.l1 (k + 1) n X q rest (i : Int) p = if n ≤ 2 * rest + one then paymasterref01_Over.l1 k n X (q.set i (g + p)) (2 * rest + one - n) (i : Int) (p / 2) else paymasterref01_Over.l1 k n X q (2 * rest + one) (i : Int) (p / 2) := by
  obtain ⟨x0, x1⟩ := dx
  have d0 : 0 ≤ x / p := Int.ediv_nonneg x0 (by omega)
  have d1 : x / p ≤ x := Int.ediv_le_self _ x0
  have o0 : 0 ≤ one := by omega
  have o1 : one ≤ 1 := by omega
  simp only [paymasterref01_Over.l1]
  rw [if_pos p0, if_pos (by omega), if_pos (by omega), if_neg (by omega), hx, hg, Int.tdiv_eq_ediv_of_nonneg x0, wu (x / p) d0 (by omega), Int.tmod_eq_emod_of_nonneg d0, ho, Int.tdiv_eq_ediv_of_nonneg (a := p) (by omega), wu (p / 2) (by omega) (by omega), wu (g + p) (by omega) (by omega), wu (n - rest) (by omega) (by omega), Int.toNat_natCast]
  by_cases h1 : rest ≥ n - rest
  · rw [if_pos h1, if_pos (by omega), if_pos (show n ≤ 2 * rest + one by omega), wu (rest - (n - rest)) (by omega) (by omega), wu (rest - (n - rest) + one) (by omega) (by omega), show rest - (n - rest) + one = 2 * rest + one - n from by omega]
  · rw [if_neg h1, wu (rest + 1) (by omega) (by omega)]
    by_cases h2 : rest + 1 ≥ n - rest
    · rw [if_pos h2]
      by_cases h3 : one = 1
      · rw [if_pos h3, if_pos (by omega), if_pos (show n ≤ 2 * rest + one by omega)]
        congr 1
        rw [IntKind.wrap_u64, IntKind.wrap_u64]
        omega
      · rw [if_neg h3, if_neg (show ¬ n ≤ 2 * rest + one by omega), wu (2 * rest) (by omega) (by omega), wu (2 * rest + one) (by omega) (by omega)]
    · rw [if_neg h2, if_neg (show ¬ n ≤ 2 * rest + one by omega), wu (2 * rest) (by omega) (by omega), wu (2 * rest + one) (by omega) (by omega)]
theorem bits_split (x p : Int) (x0 : 0 ≤ x) (p0 : 0 < p) : x % (p * 2) = (x / p % 2) * p + x % p := by
  have e := Int.ediv_mul_add_emod x p
  have m0 := Int.emod_nonneg x (by omega : p ≠ 0)
  have m1 := Int.emod_lt_of_pos x p0
  have f := Int.ediv_mul_add_emod (x / p) 2
  have b0 := Int.emod_nonneg (x / p) (by omega : (2 : Int) ≠ 0)
  have b1 := Int.emod_lt_of_pos (x / p) (by omega : (0 : Int) < 2)
  generalize x / p % 2 = b at *
  generalize x / p / 2 = d at *
  generalize x % p = m at *
  have t : x = b * p + m + d * (p * 2) := by
    rw [← e, ← f, Int.add_mul, Int.mul_assoc, Int.mul_comm 2 p]
    omega
  rw [t, Int.add_mul_emod_self_right]
  have hb : b = 0 ∨ b = 1 := by omega
  rcases hb with rfl | rfl
  · exact Int.emod_eq_of_lt (by omega) (by omega)
  · exact Int.emod_eq_of_lt (by omega) (by omega)
theorem set_self (q : List Int) (i : Nat) (h : i < q.length) : q.set i (rd q i) = q := by
  have e : rd q (i : Int) = q[i] := by
    show q.getD i 0 = q[i]
    rw [List.getD_eq_getElem?_getD, List.getElem?_eq_getElem h]
    rfl
  rw [e]
  exact List.set_getElem_self h
theorem rd_set (q : List Int) (i : Nat) (v : Int) (h : i < q.length) : rd (q.set i v) i = v := by
  show (q.set i v).getD i 0 = v
  rw [List.getD_eq_getElem?_getD, List.getElem?_set_self h]
  rfl
theorem over_l1 (n : Int) (X : List Int) (i : Nat) (x : Int) (hn : 0 < n) (hn' : n < 18446744073709551616) (lX : X.length = 8) (hi : i < 8) (hx : rd X i = x) (dx : D16 x) : ∀ (s : Nat) (q : List Int) (rest g : Int), q.length = 8 → rd q i = g → 0 ≤ g → g + 2 ^ s ≤ 65536 → 0 ≤ rest → rest < n → ∀ k r,
    paymasterref01_Over.l0 k n X (q.set i (g + (rest * 2 ^ s + x % 2 ^ s) / n)) ((rest * 2 ^ s + x % 2 ^ s) % n) (wrap64 ((i : Int) - 1)) = some r → paymasterref01_Over.l1 (k + (s + 1)) n X q rest (i : Int) (2 ^ s / 2) = some r
  | 0, q, rest, g, lq, hg, g0, gs, r0, r1, k, r, h => by
    show paymasterref01_Over.l1 (k + 1) n X q rest (i : Int) ((1 : Int) / 2) = some r
    simp only [paymasterref01_Over.l1]
    rw [if_neg (by omega)]
    rw [Int.pow_zero, Int.mul_one, Int.emod_one, Int.add_zero, Int.ediv_eq_zero_of_lt r0 r1, Int.add_zero, Int.emod_eq_of_lt r0 r1, ← hg, set_self q i (by omega)] at h
    exact h
  | s + 1, q, rest, g, lq, hg, g0, gs, r0, r1, k, r, h => by
    have P0 : (0 : Int) < 2 ^ s := Int.pow_pos (by omega)
    rw [Int.pow_succ] at gs h ⊢
    obtain ⟨p, hp⟩ : ∃ p : Int, 2 ^ s = p := ⟨_, rfl⟩
    have IH := over_l1 n X i x hn hn' lX hi hx dx s
    rw [hp] at gs h IH P0 ⊢
    have dx' := dx
    obtain ⟨x0, x1⟩ := dx'
    obtain ⟨one, ho⟩ : ∃ o : Int, x / p % 2 = o := ⟨_, rfl⟩
    have B := bits_split x p x0 P0
    rw [ho] at B
    rw [show p * 2 / 2 = p from Int.mul_ediv_cancel _ (by omega)]
    have S := over_bit (k + (s + 1)) n X q i x g rest p one hn hn' lX lq hi hx dx hg g0 P0 (by omega) r0 r1 ho
    have o0 : 0 ≤ one := by omega
    have o1 : one ≤ 1 := by omega
    have M : rest * (p * 2) + x % (p * 2) = (2 * rest + one) * p + x % p := by
      rw [B, Int.add_mul, Int.mul_comm p 2, ← Int.mul_assoc, Int.mul_comm rest 2]
      omega
    rw [M] at h
    refine S.trans ?_
    by_cases c : n ≤ 2 * rest + one
    · rw [if_pos c]
      refine IH _ _ (g + p) (by rw [List.length_set]; exact lq) (rd_set q i _ (by omega)) (by omega) (by omega) (by omega) (by omega) k r ?_
      have M2 : (2 * rest + one) * p + x % p = (2 * rest + one - n) * p + x % p + p * n := by
        rw [Int.sub_mul, Int.mul_comm n p]
        omega
      rw [M2, Int.add_mul_ediv_right _ _ (by omega), Int.add_mul_emod_self_right] at h
      rw [List.set_set, show g + p + ((2 * rest + one - n) * p + x % p) / n = g + (((2 * rest + one - n) * p + x % p) / n + p) from by omega]
      exact h
    · rw [if_neg c]
      exact IH q (2 * rest + one) g lq hg g0 (by omega) (by omega) (by omega) k r h
theorem set_mid : ∀ (t : Nat) (Q : List Int) (d : Int), (List.replicate (t + 1) 0 ++ Q).set t d = List.replicate t 0 ++ (d :: Q)
  | 0, Q, d => rfl
  | t + 1, Q, d => by
    rw [List.replicate_succ, List.cons_append, List.set_cons_succ, set_mid t Q d]
    rfl
theorem rd_mid : ∀ (t : Nat) (Q : List Int), rd (List.replicate (t + 1) 0 ++ Q) (t : Int) = 0
  | 0, Q => rfl
  | t + 1, Q => rd_mid t Q
theorem over_l0 (n : Int) (X : List Int) (hn : 0 < n) (hn' : n < 18446744073709551616) (lX : X.length = 8) (dX : Ds X) : ∀ (t : Nat) (Q : List Int) (rest : Int), t + Q.length = 8 → 0 ≤ rest → rest < n →
    ∃ R rest', R.length = t ∧ Ds R ∧ 0 ≤ rest' ∧ rest' < n ∧ numL R * n + rest' = rest * 65536 ^ t + numL (X.take t) ∧ ∀ k r, paymasterref01_Over.l0 k n X (R ++ Q) rest' (-1) = some r → paymasterref01_Over.l0 (k + 18 * t) n X (List.replicate t 0 ++ Q) rest ((t : Int) - 1) = some r
  | 0, Q, rest, hl, r0, r1 => by
    refine ⟨[], rest, rfl, fun d hd => (by cases hd), r0, r1, ?_, fun k r h => h⟩
    simp [numL]
  | t + 1, Q, rest, hl, r0, r1 => by
    have dx := Ds_getD (m := t) dX (by omega)
    obtain ⟨x, hx⟩ : ∃ x, rd X t = x := ⟨_, rfl⟩
    have dx : D16 x := by rw [← hx]; exact dx
    have dx' := dx
    obtain ⟨x0, x1⟩ := dx'
    obtain ⟨d, hd⟩ : ∃ d, (rest * 65536 + x) / n = d := ⟨_, rfl⟩
    obtain ⟨e, he⟩ : ∃ e, (rest * 65536 + x) % n = e := ⟨_, rfl⟩
    have E := Int.ediv_mul_add_emod (rest * 65536 + x) n
    rw [hd, he] at E
    have e0 : 0 ≤ e := by rw [← he]; exact Int.emod_nonneg _ (by omega)
    have e1 : e < n := by rw [← he]; exact Int.emod_lt_of_pos _ hn
    have d0 : 0 ≤ d := by rw [← hd]; exact Int.ediv_nonneg (by omega) (by omega)
    have d1 : d < 65536 := by
      rw [← hd]
      exact Int.ediv_lt_of_lt_mul hn (by omega)
    obtain ⟨R, rest', a1, a2, a3, a4, a5, a6⟩ := over_l0 n X hn hn' lX dX t (d :: Q) e (by simp only [List.length_cons]; omega) e0 e1
    refine ⟨R ++ [d], rest', by simp [a1], ?_, a3, a4, ?_, fun k r h => ?_⟩
    · intro z hz
      rcases List.mem_append.1 hz with h | h
      · exact a2 z h
      · rw [List.mem_singleton] at h
        subst h
        exact ⟨d0, d1⟩
    · have T : X.take (t + 1) = X.take t ++ [x] := by
        have g : X[t]'(by omega) = x := by
          rw [← hx]
          show _ = X.getD t 0
          rw [List.getD_eq_getElem?_getD, List.getElem?_eq_getElem (by omega)]
          rfl
        rw [List.take_succ_eq_append_getElem (by omega), g]
      have ll : (X.take t).length = t := by rw [List.length_take]; omega
      rw [T, numL_append, numL_append, a1, ll, Int.pow_succ]
      have s1 : ∀ z : Int, numL [z] = z := fun z => by simp [numL]
      rw [s1, s1]
      have P : (d * n + e) * 65536 ^ t = (rest * 65536 + x) * 65536 ^ t := by rw [E]
      rw [Int.add_mul, Int.add_mul] at P
      rw [Int.add_mul, Int.mul_right_comm d, Int.mul_comm (65536 ^ t) 65536, ← Int.mul_assoc]
      omega
    · have F := a6 k r (by rw [List.append_assoc] at h; exact h)
      rw [show k + 18 * (t + 1) = k + 18 * t + 17 + 1 from by omega]
      rw [show ((t + 1 : Nat) : Int) - 1 = (t : Int) from by omega]
      simp only [paymasterref01_Over.l0]
      rw [if_pos (by omega)]
      have lq : (List.replicate (t + 1) (0 : Int) ++ Q).length = 8 := by rw [List.length_append, List.length_replicate]; exact hl
      refine over_l1 n X t x hn hn' lX (by omega) hx dx 16 (List.replicate (t + 1) 0 ++ Q) rest 0 lq (rd_mid t Q) (by omega) (by omega) r0 r1 (k + 18 * t) r ?_
      rw [show x % 2 ^ 16 = x from Int.emod_eq_of_lt x0 x1, show rest * 2 ^ 16 + x = rest * 65536 + x from rfl, hd, he, set_mid, Int.zero_add, wi _ (by omega) (by omega)]
      exact F
theorem refOver_is (k : Nat) (a b n : Int) (ha : U64 a) (hb : U64 b) (hn : U64 n) : paymasterref01_Over.f (k + 180) a b n = u128_Over.f a b n := by
  unfold paymasterref01_Over.f
  by_cases h : n = 0
  · rw [if_pos h]
    unfold u128_Over.f
    rw [if_pos (show U64 a ∧ U64 b ∧ U64 n from ⟨ha, hb, hn⟩), if_pos h]
  rw [if_neg h, over_num a b n ha hb hn h]
  have A : paymasterref01_digits.f (k + 180) a b = some (dg a b) := digits_is (k + 170) a b ha hb
  rw [A, Option.bind_some, if_pos (by omega)]
  clear A
  obtain ⟨vX, dX, lX⟩ := numL_dg a b ha hb
  have n0 : 0 < n := by have := hn.1; omega
  obtain ⟨R, rest, a1, a2, a3, a4, a5, a6⟩ := over_l0 n (dg a b) n0 hn.2 lX dX 8 [] 0 rfl (by omega) n0
  rw [Int.zero_mul, Int.zero_add, List.take_of_length_le (by omega), vX] at a5
  have q : val a b / n = numL R := by
    rw [← a5, Int.add_comm, Int.add_mul_ediv_right _ _ h, Int.ediv_eq_zero_of_lt a3 a4, Int.zero_add]
  have m : val a b % n = rest := by
    rw [← a5, Int.add_comm, Int.add_mul_emod_self_right, Int.emod_eq_of_lt a3 a4]
  have N := number8' (k + 10) R a1 a2
  rw [q, m]
  refine a6 (k + 36) _ ?_
  rw [List.append_nil, show k + 36 = k + 35 + 1 from rfl, paymasterref01_Over.l0, if_neg (by omega), show k + 35 = k + 10 + 25 from rfl, N, Option.bind_some]
end Go.Proofs.Ytpkjpiphjdpegaa.P
namespace Go.Proofs.Ytpkjpiphjdpegaa.P
open Go.RowKit Go.Proofs.YtpkjpiphjdpegaaW.PrintWords Go.Proofs.YtpkjpiphjdpegaaW.PrintLast Go.Proofs.YtpkjpiphjdpegaaW.PrintMore
attribute [local go_sem] max2_int min2_int max_two min_two max_three min_three max_four min_four
set_option linter.unusedVariables false
set_option linter.unusedSimpArgs false
theorem u64_u8_ (x : Int) : IntKind.u64.wrap (IntKind.u8.wrap x) = IntKind.u8.wrap x := by
  have h : IntKind.u8.wrap x = x % 256 := rfl
  rw [h, IntKind.wrap_u64]
  omega
attribute [local go_sem] u64_u8_
mutual
def paymasterref02_Parse.l0 : Nat → ByteArray → Int → Int → Int → Option (Int × Int × Int)
  | 0, _, _, _, _ => none
  | k + 1, x0, x5, x1006000, x1006001 => if x5 < (x0.size : Int) then (if 0 ≤ x5 then (if (bt x0 x5) < 48 then (some (x1006000, x1006001, 20)) else (if (bt x0 x5) > 57 then (some (x1006000, x1006001, 20)) else (paymasterref02_Parse.l0 k x0 (wrap64 (x5 + 1)) x1006000 x1006001))) else (none)) else (if (x0.size : Int) = 0 then (paymasterref02_Parse.j1 k x0 true x1006000 x1006001) else (if (x0.size : Int) > 1 then (if 0 < (x0.size : Int) then (paymasterref02_Parse.j1 k x0 ((bt x0 0) == 48) x1006000 x1006001) else (none)) else (paymasterref02_Parse.j1 k x0 false x1006000 x1006001)))
def paymasterref02_Parse.j1 : Nat → ByteArray → Bool → Int → Int → Option (Int × Int × Int)
  | 0, _, _, _, _ => none
  | k + 1, x0, x42, x1006000, x1006001 => if x42 = true then (some (x1006000, x1006001, 20)) else (paymasterref02_Parse.l1 k x0 0 x1006000 x1006001 x1006000 x1006001)
def paymasterref02_Parse.l1 : Nat → ByteArray → Int → Int → Int → Int → Int → Option (Int × Int × Int)
  | 0, _, _, _, _, _, _ => none
  | k + 1, x0, x7, x1006000, x1006001, x1007000, x1007001 => if x7 < (x0.size : Int) then ((paymasterref01_Times.f k x1007000 x1007001 10).bind fun bt1007 => (if bt1007.2.2 = 0 then (if 0 ≤ x7 then ((paymasterref01_Add.f k bt1007.1 bt1007.2.1 0 (((bt x0 x7) - 48) % 256)).bind fun bt1011 => (if bt1011.2.2 = 0 then (paymasterref02_Parse.l1 k x0 (wrap64 (x7 + 1)) x1006000 x1006001 bt1011.1 bt1011.2.1) else (some (x1006000, x1006001, 10)))) else (none)) else (some (x1006000, x1006001, 10)))) else (some (x1007000, x1007001, 0))
end
def paymasterref02_Parse.f (k : Nat) (a0 : ByteArray) : Option (Int × Int × Int) := paymasterref02_Parse.l0 k a0 0 0 0
def paymasterref02_Parse.T16 : Bool × List (List Nat × List Nat) := (true, [([], []), ([], []), ([], []), ([1, 2], [1, 2]), ([3], [3]), ([4], [4]), ([5], [5]), ([0, 6], [0, 6]), ([7], [7]), ([8], [8]), ([8], [8]), ([], []), ([11, 9, 7, 0, 1, 2, 3, 4, 5, 6, 7, 8, 9, 11], [9, 11]), ([10, 12, 0, 1, 2, 3, 4, 5, 6, 7, 8, 9, 10, 11, 12], [10])])
def paymasterref02_Parse.B16 : List Nat := [0, 0, 0, 6, 14, 30, 62, 127, 255, 511, 511, 0, 3071, 8191]
theorem paymasterref02_Parse.tab16 : rtab .any (opsOf Try.f77 16) = paymasterref02_Parse.T16 := by kernel_rfl
theorem paymasterref02_Parse.bits16 : waitsOk paymasterref02_Parse.T16.2 paymasterref02_Parse.B16 = true := by kernel_rfl
set_option maxHeartbeats 8000000 in
set_option maxRecDepth 100000 in
theorem paymasterref02_Parse.calls (k : Nat) (a0 : ByteArray) (r1 : Int) (r2 : Int) (r3 : Int) (w : World) (h : paymasterref02_Parse.f k a0 = some (r1, r2, r3)) :
    Calls Try.prog 77 #[.string a0] w fun e w' => e = .returned (.tuple #[.agg #[.int .u64 r1, .int .u64 r2], .int .i64 r3]) ∧ Below w.heap.size w w' := by
  have hu25 := Try.underlying25
  have HB := Aside0.mk (Below.refl w.heap.size w)
  have H : (paymasterref02_Parse.l0 k a0 0 0 0) = some (r1, r2, r3) := h
  clear h
  have H' := Aside0.mk H
  clear H
  go_enter Try.func77, Try.ntmps77
  go_wp2_with (first | ((with_reducible refine gate_dst (N := 2) rfl ?_); (try (refine gate_guard (by rfl) ?_; dsimp only)); refine box_event ?hg (N := 2) ?hd (cs := #[.int .u64 0, .int .u64 0]) (t := 25) ?hr ?_; (case hd => rfl); (case hg => rfl); (case hr => first | (go_simp; done) | (go_simp; rfl)); intro gb1004 hg w2 hbox hb; have n0_ := Aside0.mk (below_step (by repeat (first | (with_reducible first | exact HB.out | apply below_alloc | apply pw_below_drewN | apply below_drew1) | exact HB.out)) hb); have n1_ := Aside0.mk (hbox); have n2_ := Aside0.mk ((by rw [hg]; exact (below_size (by repeat (first | (with_reducible first | exact HB.out | apply below_alloc | apply pw_below_drewN | apply below_drew1) | exact HB.out))) : w.heap.size ≤ gb1004)); have n3_ := Aside0.mk ((by rw [hg]; exact (below_size (by repeat (first | (with_reducible first | exact HB.out | apply below_alloc | apply pw_below_drewN | apply below_drew1) | exact HB.out))) : w.heap.size ≤ gb1004)); clear HB; have HB := n0_; have BK1004 := n1_; have GW1004 := n2_; have GE1004 := n3_; clear n0_ n1_ n2_ n3_; clear hb hbox hg) | ((with_reducible refine gate_dst (N := 4) rfl ?_); (try (refine gate_guard (by rfl) ?_; dsimp only)); refine box_event ?hg (N := 4) ?hd (cs := #[.int .u64 0, .int .u64 0]) (t := 25) ?hr ?_; (case hd => rfl); (case hg => rfl); (case hr => first | (go_simp; done) | (go_simp; rfl)); intro gb1005 hg w3 hbox hb; have n0_ := Aside0.mk (blk_below (g := gb1004) (o := .cells #[.int .u64 0, .int .u64 0] 25 (0, 0)) (by (with_reducible repeat (first | refine blk_drewN ?_ _ | refine blk_drew ?_ | refine blk_alloc ?_ _)); exact BK1004.out) hb); have n1_ := Aside0.mk (below_step (by repeat (first | (with_reducible first | exact HB.out | apply below_alloc | apply pw_below_drewN | apply below_drew1 | refine below_set ?_ GE1004.out) | exact HB.out)) hb); have n2_ := Aside0.mk (hbox); have n3_ := Aside0.mk ((by rw [hg]; exact (below_size (by repeat (first | (with_reducible first | exact HB.out | apply below_alloc | apply pw_below_drewN | apply below_drew1 | refine below_set ?_ GE1004.out) | exact HB.out))) : w.heap.size ≤ gb1005)); have n4_ := Aside0.mk ((by rw [hg]; exact (below_size (by repeat (first | (with_reducible first | exact HB.out | apply below_alloc | apply pw_below_drewN | apply below_drew1 | refine below_set ?_ GE1004.out) | exact HB.out))) : w.heap.size ≤ gb1005)); have n5_ := Aside0.mk ((by rw [hg]; exact Nat.ne_of_lt (blk_lt (g := gb1004) (o := .cells #[.int .u64 0, .int .u64 0] 25 (0, 0)) (by (with_reducible repeat (first | refine blk_drewN ?_ _ | refine blk_drew ?_ | refine blk_alloc ?_ _)); exact BK1004.out)) : gb1004 ≠ gb1005)); have n6_ := Aside0.mk ((by rw [hg]; exact Nat.ne_of_gt (blk_lt (g := gb1004) (o := .cells #[.int .u64 0, .int .u64 0] 25 (0, 0)) (by (with_reducible repeat (first | refine blk_drewN ?_ _ | refine blk_drew ?_ | refine blk_alloc ?_ _)); exact BK1004.out)) : gb1005 ≠ gb1004)); clear BK1004; clear HB; have BK1004 := n0_; have HB := n1_; have BK1005 := n2_; have GW1005 := n3_; have GE1005 := n4_; have NB1004_1005 := n5_; have NB1005_1004 := n6_; clear n0_ n1_ n2_ n3_ n4_ n5_ n6_; clear hb hbox hg; have hnb4 := NB1005_1004.out; have hnc4 := NB1004_1005.out; have hcz5_0 : w3.cell? ⟨gb1005, 0, none⟩ = some (.int .u64 0) := (blk_cell BK1005.out 0).trans rfl; have hcz5_1 : w3.cell? ⟨gb1005, 1, none⟩ = some (.int .u64 0) := (blk_cell BK1005.out 1).trans rfl; have hfz5_0 := blk_frozen BK1005.out 0; have hfz5_1 := blk_frozen BK1005.out 1))
  go_loopg [5] k (fun kq v5 w' => ∃ (x5_1 : Int) (x1005000_1 : Int) (x1005001_1 : Int), v5 = .int .i64 x5_1 ∧ Aside0 (paymasterref02_Parse.l0 kq a0 x5_1 0 0 = some (r1, r2, r3)) ∧ Aside0 (kq ≤ k) ∧ Aside0 (w'.heap[gb1004]? = some (.cells #[.int .u64 x1005000_1, .int .u64 x1005001_1] 25 (0, 0))) ∧ Aside0 (w'.heap[gb1005]? = some (.cells #[.int .u64 0, .int .u64 0] 25 (0, 0))) ∧ Aside0 (Below w.heap.size w w'))
  case atStart => exact ⟨(0), (0), (0), (by first | rfl | (simp; done) | (simp [*]; done)), H', ⟨Nat.le_refl _⟩, ⟨by (with_reducible repeat (first | refine blk_drewN ?_ _ | refine blk_drew ?_ | refine blk_alloc ?_ _)); refine blk_far ?_ NB1004_1005.out _; (with_reducible repeat (first | refine blk_drewN ?_ _ | refine blk_drew ?_ | refine blk_alloc ?_ _)); refine blk_far ?_ NB1004_1005.out _; (with_reducible repeat (first | refine blk_drewN ?_ _ | refine blk_drew ?_ | refine blk_alloc ?_ _)); exact BK1004.out⟩, ⟨by (with_reducible repeat (first | refine blk_drewN ?_ _ | refine blk_drew ?_ | refine blk_alloc ?_ _)); refine blk_put (cs := #[.int .u64 0, .int .u64 0]) ?_ 1 _ rfl; (with_reducible repeat (first | refine blk_drewN ?_ _ | refine blk_drew ?_ | refine blk_alloc ?_ _)); refine blk_put (cs := #[.int .u64 0, .int .u64 0]) ?_ 0 _ rfl; (with_reducible repeat (first | refine blk_drewN ?_ _ | refine blk_drew ?_ | refine blk_alloc ?_ _)); exact BK1005.out⟩, ⟨by repeat (first | (with_reducible first | exact HB.out | apply below_alloc | apply pw_below_drewN | apply below_drew1 | refine below_set ?_ GE1004.out | refine below_set ?_ GE1005.out) | exact HB.out)⟩⟩
  case round =>
    clear H'
    try clear p2
    try clear c4
    try clear hcz5_0
    try clear hcz5_1
    try clear hfz5_0
    try clear hfz5_1
    obtain ⟨x5_1, x1005000_1, x1005001_1, rfl, HA, HK1, BK1004, BK1005, HB⟩ := hrel
    cases gk with
    | zero => exact absurd HA.out (by simp [paymasterref02_Parse.l0])
    | succ k1 =>
      have H := HA.out
      clear HA
      simp only [paymasterref02_Parse.l0] at H
      by_cases c6 : x5_1 < (a0.size : Int)
      · rw [if_pos c6] at H
        have c6b0 : decide (x5_1 < (a0.size : Int)) = true := decide_eq_true c6
        clear c6
        by_cases c7 : 0 ≤ x5_1
        · rw [if_pos c7] at H
          have c7b0 : decide (0 ≤ x5_1) = true := decide_eq_true c7
          clear c7
          by_cases c9 : (bt a0 x5_1) < 48
          · rw [if_pos c9] at H
            have c9b0 : decide ((bt a0 x5_1) < 48) = true := decide_eq_true c9
            clear c9
            simp only [Option.some.injEq, Prod.mk.injEq] at H
            obtain ⟨rfl, rfl, rfl⟩ := H
            have p8 : 0 ≤ (x5_1 : Int) := of_decide_eq_true (by first | (with_reducible assumption) | assumption)
            have q8 : x5_1 < (a0.size : Int) := of_decide_eq_true (by first | (with_reducible assumption) | assumption)
            have hx8 := bt_at a0 x5_1
            replace p8 := eq_true p8
            replace q8 := eq_true q8
            have hnb10 := NB1005_1004.out
            have hnc10 := NB1004_1005.out
            have hcz11_0 : wr.cell? ⟨gb1005, 0, none⟩ = some (.int .u64 0) := (blk_cell BK1005.out 0).trans rfl
            have hcz11_1 : wr.cell? ⟨gb1005, 1, none⟩ = some (.int .u64 0) := (blk_cell BK1005.out 1).trans rfl
            have hfz11_0 := blk_frozen BK1005.out 0
            have hfz11_1 := blk_frozen BK1005.out 1
            have hcz12_0 : wr.cell? ⟨gb1004, 0, none⟩ = some (.int .u64 x1005000_1) := (blk_cell BK1004.out 0).trans rfl
            have hcz12_1 : wr.cell? ⟨gb1004, 1, none⟩ = some (.int .u64 x1005001_1) := (blk_cell BK1004.out 1).trans rfl
            have hfz12_0 := blk_frozen BK1004.out 0
            have hfz12_1 := blk_frozen BK1004.out 1
            go_wp2
            refine bodyPost_ret (results_ct rfl _ _ gb1004 25 #[.int .u64 0, .int .u64 0] (0, 0) _ rfl (by (with_reducible repeat (first | refine blk_drewN ?_ _ | refine blk_drew ?_ | refine blk_alloc ?_ _)); refine blk_put (cs := #[.int .u64 0, .int .u64 x1005001_1]) ?_ 1 _ rfl; (with_reducible repeat (first | refine blk_drewN ?_ _ | refine blk_drew ?_ | refine blk_alloc ?_ _)); refine blk_put (cs := #[.int .u64 x1005000_1, .int .u64 x1005001_1]) ?_ 0 _ rfl; (with_reducible repeat (first | refine blk_drewN ?_ _ | refine blk_drew ?_ | refine blk_alloc ?_ _)); exact BK1004.out) Try.underlying25 rfl (by kernel_rfl)) rfl ?_
            exact ⟨by first | rfl | (simp [errW_none, errW_some] <;> rfl) | (simp [*, errW_none, errW_some] <;> rfl), by repeat (first | (with_reducible first | exact HB.out | apply below_alloc | apply pw_below_drewN | apply below_drew1 | refine below_set ?_ GE1004.out | refine below_set ?_ GE1005.out) | exact HB.out)⟩
          · rw [if_neg c9] at H
            have c9b0 : decide ((bt a0 x5_1) < 48) = false := decide_eq_false c9
            clear c9
            by_cases c14 : (bt a0 x5_1) > 57
            · rw [if_pos c14] at H
              have c14b0 : decide (57 < (bt a0 x5_1)) = true := decide_eq_true c14
              clear c14
              simp only [Option.some.injEq, Prod.mk.injEq] at H
              obtain ⟨rfl, rfl, rfl⟩ := H
              have p8 : 0 ≤ (x5_1 : Int) := of_decide_eq_true (by first | (with_reducible assumption) | assumption)
              have q8 : x5_1 < (a0.size : Int) := of_decide_eq_true (by first | (with_reducible assumption) | assumption)
              have hx8 := bt_at a0 x5_1
              replace p8 := eq_true p8
              replace q8 := eq_true q8
              have p13 : 0 ≤ (x5_1 : Int) := of_decide_eq_true (by first | (with_reducible assumption) | assumption)
              have q13 : x5_1 < (a0.size : Int) := of_decide_eq_true (by first | (with_reducible assumption) | assumption)
              have hx13 := bt_at a0 x5_1
              replace p13 := eq_true p13
              replace q13 := eq_true q13
              have hnb15 := NB1005_1004.out
              have hnc15 := NB1004_1005.out
              have hcz16_0 : wr.cell? ⟨gb1005, 0, none⟩ = some (.int .u64 0) := (blk_cell BK1005.out 0).trans rfl
              have hcz16_1 : wr.cell? ⟨gb1005, 1, none⟩ = some (.int .u64 0) := (blk_cell BK1005.out 1).trans rfl
              have hfz16_0 := blk_frozen BK1005.out 0
              have hfz16_1 := blk_frozen BK1005.out 1
              have hcz17_0 : wr.cell? ⟨gb1004, 0, none⟩ = some (.int .u64 x1005000_1) := (blk_cell BK1004.out 0).trans rfl
              have hcz17_1 : wr.cell? ⟨gb1004, 1, none⟩ = some (.int .u64 x1005001_1) := (blk_cell BK1004.out 1).trans rfl
              have hfz17_0 := blk_frozen BK1004.out 0
              have hfz17_1 := blk_frozen BK1004.out 1
              go_wp2
              refine bodyPost_ret (results_ct rfl _ _ gb1004 25 #[.int .u64 0, .int .u64 0] (0, 0) _ rfl (by (with_reducible repeat (first | refine blk_drewN ?_ _ | refine blk_drew ?_ | refine blk_alloc ?_ _)); refine blk_put (cs := #[.int .u64 0, .int .u64 x1005001_1]) ?_ 1 _ rfl; (with_reducible repeat (first | refine blk_drewN ?_ _ | refine blk_drew ?_ | refine blk_alloc ?_ _)); refine blk_put (cs := #[.int .u64 x1005000_1, .int .u64 x1005001_1]) ?_ 0 _ rfl; (with_reducible repeat (first | refine blk_drewN ?_ _ | refine blk_drew ?_ | refine blk_alloc ?_ _)); exact BK1004.out) Try.underlying25 rfl (by kernel_rfl)) rfl ?_
              exact ⟨by first | rfl | (simp [errW_none, errW_some] <;> rfl) | (simp [*, errW_none, errW_some] <;> rfl), by repeat (first | (with_reducible first | exact HB.out | apply below_alloc | apply pw_below_drewN | apply below_drew1 | refine below_set ?_ GE1004.out | refine below_set ?_ GE1005.out) | exact HB.out)⟩
            · rw [if_neg c14] at H
              have c14b0 : decide (57 < (bt a0 x5_1)) = false := decide_eq_false c14
              clear c14
              have H' := Aside0.mk H
              clear H
              have p8 : 0 ≤ (x5_1 : Int) := of_decide_eq_true (by first | (with_reducible assumption) | assumption)
              have q8 : x5_1 < (a0.size : Int) := of_decide_eq_true (by first | (with_reducible assumption) | assumption)
              have hx8 := bt_at a0 x5_1
              replace p8 := eq_true p8
              replace q8 := eq_true q8
              have p13 : 0 ≤ (x5_1 : Int) := of_decide_eq_true (by first | (with_reducible assumption) | assumption)
              have q13 : x5_1 < (a0.size : Int) := of_decide_eq_true (by first | (with_reducible assumption) | assumption)
              have hx13 := bt_at a0 x5_1
              replace p13 := eq_true p13
              replace q13 := eq_true q13
              go_wp2
              go_roundg k1
              case measure => have := HK1.out; omega
              case rel => exact ⟨(wrap64 (x5_1 + 1)), (x1005000_1), (x1005001_1), (by first | rfl | (simp; done) | (simp [*]; done)), H', ⟨by have := HK1.out; omega⟩, ⟨by (with_reducible repeat (first | refine blk_drewN ?_ _ | refine blk_drew ?_ | refine blk_alloc ?_ _)); exact BK1004.out⟩, ⟨by (with_reducible repeat (first | refine blk_drewN ?_ _ | refine blk_drew ?_ | refine blk_alloc ?_ _)); exact BK1005.out⟩, ⟨by repeat (first | (with_reducible first | exact HB.out | apply below_alloc | apply pw_below_drewN | apply below_drew1 | refine below_set ?_ GE1004.out | refine below_set ?_ GE1005.out) | exact HB.out)⟩⟩
        · rw [if_neg c7] at H
          exact absurd H (by simp)
      · rw [if_neg c6] at H
        have c6b0 : decide (x5_1 < (a0.size : Int)) = false := decide_eq_false c6
        clear c6
        have HC18 := Aside0.mk H
        clear H
        go_upto_region 7 with (fail)
        go_cut [42] (fun v42 wc => ∃ (kq : Nat) (x42_17 : Bool), v42 = .bool x42_17 ∧ Aside0 (paymasterref02_Parse.j1 kq a0 x42_17 0 0 = some (r1, r2, r3)) ∧ Aside0 (kq ≤ k1) ∧ Aside0 (wc.heap[gb1004]? = some (.cells #[.int .u64 x1005000_1, .int .u64 x1005001_1] 25 (0, 0))) ∧ Aside0 (wc.heap[gb1005]? = some (.cells #[.int .u64 0, .int .u64 0] 25 (0, 0))) ∧ Aside0 (Below w.heap.size w wc))
        case first =>
          have H := HC18.out
          clear HC18
          by_cases c19 : (a0.size : Int) = 0
          · rw [if_pos c19] at H
            have c19b0 : ((a0.size : Int) == 0) = true := beq_iff_eq.mpr c19
            have c19b1 : ((a0.size : Int) != 0) = false := bne_eq_false_iff_eq.mpr c19
            clear c19
            (first | rw [c19b0] | (simp only [i64_w, i32_w]; rw [c19b0]) | skip)
            have H' := Aside0.mk H
            clear H
            go_wp2
            go_meet
            case rel => exact ⟨_, (true), (by first | rfl | (simp; done) | (simp [*]; done)), H', ⟨by have := HK1.out; first | omega | exact Nat.le_refl _⟩, ⟨by (with_reducible repeat (first | refine blk_drewN ?_ _ | refine blk_drew ?_ | refine blk_alloc ?_ _)); exact BK1004.out⟩, ⟨by (with_reducible repeat (first | refine blk_drewN ?_ _ | refine blk_drew ?_ | refine blk_alloc ?_ _)); exact BK1005.out⟩, ⟨by repeat (first | (with_reducible first | exact HB.out | apply below_alloc | apply pw_below_drewN | apply below_drew1 | refine below_set ?_ GE1004.out | refine below_set ?_ GE1005.out) | exact HB.out)⟩⟩
          · rw [if_neg c19] at H
            have c19b0 : ((a0.size : Int) == 0) = false := beq_eq_false_iff_ne.mpr c19
            have c19b1 : ((a0.size : Int) != 0) = true := bne_iff_ne.mpr c19
            (first | rw [c19b0] | (simp only [i64_w, i32_w]; rw [c19b0]) | skip)
            by_cases c20 : (a0.size : Int) > 1
            · rw [if_pos c20] at H
              have c20b0 : decide (1 < (a0.size : Int)) = true := decide_eq_true c20
              have c20b1 : decide (1 < a0.size) = true := decide_eq_true (by omega)
              clear c20
              by_cases c21 : 0 < (a0.size : Int)
              · rw [if_pos c21] at H
                have c21b0 : decide (0 < (a0.size : Int)) = true := decide_eq_true c21
                have c21b1 : decide (0 < a0.size) = true := decide_eq_true (by omega)
                clear c21
                have H' := Aside0.mk H
                clear H
                have p22 : 0 ≤ (0 : Int) := (by omega)
                have q22 : 0 < a0.size := (by have : (0 : Int) < (a0.size : Int) := of_decide_eq_true (by first | (with_reducible assumption) | assumption); omega)
                have hx22 : ∀ h : 0 < a0.size, ((a0[0]'h).toNat : Int) = bt a0 0 := bt_at a0 0
                clear p22
                have qi22 : (0 < (a0.size : Int)) = True := eq_true (of_decide_eq_true (by first | (with_reducible assumption) | assumption))
                replace q22 := eq_true q22
                go_wp2
                go_meet
                case rel => exact ⟨_, (((bt a0 0) == 48)), (by first | rfl | (simp; done) | (simp [*]; done)), H', ⟨by have := HK1.out; first | omega | exact Nat.le_refl _⟩, ⟨by (with_reducible repeat (first | refine blk_drewN ?_ _ | refine blk_drew ?_ | refine blk_alloc ?_ _)); exact BK1004.out⟩, ⟨by (with_reducible repeat (first | refine blk_drewN ?_ _ | refine blk_drew ?_ | refine blk_alloc ?_ _)); exact BK1005.out⟩, ⟨by repeat (first | (with_reducible first | exact HB.out | apply below_alloc | apply pw_below_drewN | apply below_drew1 | refine below_set ?_ GE1004.out | refine below_set ?_ GE1005.out) | exact HB.out)⟩⟩
              · rw [if_neg c21] at H
                exact absurd H (by simp)
            · rw [if_neg c20] at H
              have c20b0 : decide (1 < (a0.size : Int)) = false := decide_eq_false c20
              have c20b1 : decide (1 < a0.size) = false := decide_eq_false (by omega)
              clear c20
              have H' := Aside0.mk H
              clear H
              go_wp2
              go_meet
              case rel => exact ⟨_, (false), (by first | rfl | (simp; done) | (simp [*]; done)), H', ⟨by have := HK1.out; first | omega | exact Nat.le_refl _⟩, ⟨by (with_reducible repeat (first | refine blk_drewN ?_ _ | refine blk_drew ?_ | refine blk_alloc ?_ _)); exact BK1004.out⟩, ⟨by (with_reducible repeat (first | refine blk_drewN ?_ _ | refine blk_drew ?_ | refine blk_alloc ?_ _)); exact BK1005.out⟩, ⟨by repeat (first | (with_reducible first | exact HB.out | apply below_alloc | apply pw_below_drewN | apply below_drew1 | refine below_set ?_ GE1004.out | refine below_set ?_ GE1005.out) | exact HB.out)⟩⟩
        case rest =>
          clear HC18
          try clear c1
          try clear p1
          try clear q1
          try clear hx1
          try clear c2
          try clear p2
          try clear q2
          try clear hx2
          try clear qi2
          try clear c4
          try clear c6
          try clear c6b0
          try clear p6
          try clear c7
          try clear c7b0
          try clear p8
          try clear q8
          try clear hx8
          try clear c9
          try clear c9b0
          try clear c10
          try clear p13
          try clear q13
          try clear hx13
          try clear c14
          try clear c14b0
          try clear c15
          try clear c19
          try clear c19b0
          try clear c19b1
          try clear c20
          try clear c20b0
          try clear c20b1
          try clear c21
          try clear c21b0
          try clear c21b1
          try clear p22
          try clear q22
          try clear hx22
          try clear qi22
          try clear hcz11_0
          try clear hcz11_1
          try clear hcz12_0
          try clear hcz12_1
          try clear hcz16_0
          try clear hcz16_1
          try clear hcz17_0
          try clear hcz17_1
          try clear hcz5_0
          try clear hcz5_1
          try clear hfz11_0
          try clear hfz11_1
          try clear hfz12_0
          try clear hfz12_1
          try clear hfz16_0
          try clear hfz16_1
          try clear hfz17_0
          try clear hfz17_1
          try clear hfz5_0
          try clear hfz5_1
          try clear p13
          try clear p2
          try clear p22
          try clear p8
          try clear q13
          try clear q22
          try clear q8
          obtain ⟨kq, x42_17, rfl, HA, HJ17, BK1004, BK1005, HB⟩ := hcut
          cases kq with
          | zero => exact absurd HA.out (by simp [paymasterref02_Parse.j1])
          | succ kj17 =>
            have H := HA.out
            clear HA
            simp only [paymasterref02_Parse.j1] at H
            by_cases c23 : x42_17 = true
            · subst c23
              have H1 : (some (0, 0, 20)) = some (r1, r2, r3) := by rw [if_pos rfl] at H; exact H
              clear H
              have H := H1
              clear H1
              simp only [Option.some.injEq, Prod.mk.injEq] at H
              obtain ⟨rfl, rfl, rfl⟩ := H
              have hnb24 := NB1005_1004.out
              have hnc24 := NB1004_1005.out
              have hcz25_0 : wc.cell? ⟨gb1005, 0, none⟩ = some (.int .u64 0) := (blk_cell BK1005.out 0).trans rfl
              have hcz25_1 : wc.cell? ⟨gb1005, 1, none⟩ = some (.int .u64 0) := (blk_cell BK1005.out 1).trans rfl
              have hfz25_0 := blk_frozen BK1005.out 0
              have hfz25_1 := blk_frozen BK1005.out 1
              have hcz26_0 : wc.cell? ⟨gb1004, 0, none⟩ = some (.int .u64 x1005000_1) := (blk_cell BK1004.out 0).trans rfl
              have hcz26_1 : wc.cell? ⟨gb1004, 1, none⟩ = some (.int .u64 x1005001_1) := (blk_cell BK1004.out 1).trans rfl
              have hfz26_0 := blk_frozen BK1004.out 0
              have hfz26_1 := blk_frozen BK1004.out 1
              go_wp2
              refine bodyPost_ret (results_ct rfl _ _ gb1004 25 #[.int .u64 0, .int .u64 0] (0, 0) _ rfl (by (with_reducible repeat (first | refine blk_drewN ?_ _ | refine blk_drew ?_ | refine blk_alloc ?_ _)); refine blk_put (cs := #[.int .u64 0, .int .u64 x1005001_1]) ?_ 1 _ rfl; (with_reducible repeat (first | refine blk_drewN ?_ _ | refine blk_drew ?_ | refine blk_alloc ?_ _)); refine blk_put (cs := #[.int .u64 x1005000_1, .int .u64 x1005001_1]) ?_ 0 _ rfl; (with_reducible repeat (first | refine blk_drewN ?_ _ | refine blk_drew ?_ | refine blk_alloc ?_ _)); exact BK1004.out) Try.underlying25 rfl (by kernel_rfl)) rfl ?_
              exact ⟨by first | rfl | (simp [errW_none, errW_some] <;> rfl) | (simp [*, errW_none, errW_some] <;> rfl), by repeat (first | (with_reducible first | exact HB.out | apply below_alloc | apply pw_below_drewN | apply below_drew1 | refine below_set ?_ GE1004.out | refine below_set ?_ GE1005.out) | exact HB.out)⟩
            · replace c23 := Bool.eq_false_iff.mpr c23
              subst c23
              have H1 : (paymasterref02_Parse.l1 kj17 a0 0 0 0 0 0) = some (r1, r2, r3) := by rw [if_neg (show ¬ (false = true) by decide)] at H; exact H
              clear H
              have H := H1
              clear H1
              have H' := Aside0.mk H
              clear H
              have hnb27 := NB1005_1004.out
              have hnc27 := NB1004_1005.out
              have hcz28_0 : wc.cell? ⟨gb1005, 0, none⟩ = some (.int .u64 0) := (blk_cell BK1005.out 0).trans rfl
              have hcz28_1 : wc.cell? ⟨gb1005, 1, none⟩ = some (.int .u64 0) := (blk_cell BK1005.out 1).trans rfl
              have hfz28_0 := blk_frozen BK1005.out 0
              have hfz28_1 := blk_frozen BK1005.out 1
              go_wp2_with (first | ((with_reducible refine gate_dst (N := 6) rfl ?_); (try (refine gate_guard (by rfl) ?_; dsimp only)); refine box_event ?hg (N := 6) ?hd (cs := #[.int .u64 0, .int .u64 0]) (t := 25) ?hr ?_; (case hd => rfl); (case hg => rfl); (case hr => first | (go_simp; done) | (go_simp; rfl)); intro gb1006 hg w29 hbox hb; have n0_ := Aside0.mk (blk_below (g := gb1004) (o := .cells #[.int .u64 x1005000_1, .int .u64 x1005001_1] 25 (0, 0)) (by (with_reducible repeat (first | refine blk_drewN ?_ _ | refine blk_drew ?_ | refine blk_alloc ?_ _)); exact BK1004.out) hb); have n1_ := Aside0.mk (blk_below (g := gb1005) (o := .cells #[.int .u64 0, .int .u64 0] 25 (0, 0)) (by (with_reducible repeat (first | refine blk_drewN ?_ _ | refine blk_drew ?_ | refine blk_alloc ?_ _)); exact BK1005.out) hb); have n2_ := Aside0.mk (below_step (by repeat (first | (with_reducible first | exact HB.out | apply below_alloc | apply pw_below_drewN | apply below_drew1 | refine below_set ?_ GE1004.out | refine below_set ?_ GE1005.out) | exact HB.out)) hb); have n3_ := Aside0.mk (hbox); have n4_ := Aside0.mk ((by rw [hg]; exact (below_size (by repeat (first | (with_reducible first | exact HB.out | apply below_alloc | apply pw_below_drewN | apply below_drew1 | refine below_set ?_ GE1004.out | refine below_set ?_ GE1005.out) | exact HB.out))) : w.heap.size ≤ gb1006)); have n5_ := Aside0.mk ((by rw [hg]; exact (below_size (by repeat (first | (with_reducible first | exact HB.out | apply below_alloc | apply pw_below_drewN | apply below_drew1 | refine below_set ?_ GE1004.out | refine below_set ?_ GE1005.out) | exact HB.out))) : w.heap.size ≤ gb1006)); have n6_ := Aside0.mk ((by rw [hg]; exact Nat.ne_of_lt (blk_lt (g := gb1004) (o := .cells #[.int .u64 x1005000_1, .int .u64 x1005001_1] 25 (0, 0)) (by (with_reducible repeat (first | refine blk_drewN ?_ _ | refine blk_drew ?_ | refine blk_alloc ?_ _)); exact BK1004.out)) : gb1004 ≠ gb1006)); have n7_ := Aside0.mk ((by rw [hg]; exact Nat.ne_of_gt (blk_lt (g := gb1004) (o := .cells #[.int .u64 x1005000_1, .int .u64 x1005001_1] 25 (0, 0)) (by (with_reducible repeat (first | refine blk_drewN ?_ _ | refine blk_drew ?_ | refine blk_alloc ?_ _)); exact BK1004.out)) : gb1006 ≠ gb1004)); have n8_ := Aside0.mk ((by rw [hg]; exact Nat.ne_of_lt (blk_lt (g := gb1005) (o := .cells #[.int .u64 0, .int .u64 0] 25 (0, 0)) (by (with_reducible repeat (first | refine blk_drewN ?_ _ | refine blk_drew ?_ | refine blk_alloc ?_ _)); exact BK1005.out)) : gb1005 ≠ gb1006)); have n9_ := Aside0.mk ((by rw [hg]; exact Nat.ne_of_gt (blk_lt (g := gb1005) (o := .cells #[.int .u64 0, .int .u64 0] 25 (0, 0)) (by (with_reducible repeat (first | refine blk_drewN ?_ _ | refine blk_drew ?_ | refine blk_alloc ?_ _)); exact BK1005.out)) : gb1006 ≠ gb1005)); clear BK1004; clear BK1005; clear HB; have BK1004 := n0_; have BK1005 := n1_; have HB := n2_; have BK1006 := n3_; have GW1006 := n4_; have GE1006 := n5_; have NB1004_1006 := n6_; have NB1006_1004 := n7_; have NB1005_1006 := n8_; have NB1006_1005 := n9_; clear n0_ n1_ n2_ n3_ n4_ n5_ n6_ n7_ n8_ n9_; clear hb hbox hg; have hnb30 := NB1006_1004.out; have hnc30 := NB1004_1006.out; have hnb31 := NB1006_1005.out; have hnc31 := NB1005_1006.out; have hcz32_0 : w29.cell? ⟨gb1006, 0, none⟩ = some (.int .u64 0) := (blk_cell BK1006.out 0).trans rfl; have hcz32_1 : w29.cell? ⟨gb1006, 1, none⟩ = some (.int .u64 0) := (blk_cell BK1006.out 1).trans rfl; have hfz32_0 := blk_frozen BK1006.out 0; have hfz32_1 := blk_frozen BK1006.out 1))
              go_loopg [7] kj17 (fun kq v7 w' => ∃ (x7_3 : Int) (x1005000_3 : Int) (x1005001_3 : Int) (x1007000_3 : Int) (x1007001_3 : Int), v7 = .int .i64 x7_3 ∧ Aside0 (paymasterref02_Parse.l1 kq a0 x7_3 0 0 x1007000_3 x1007001_3 = some (r1, r2, r3)) ∧ Aside0 (kq ≤ kj17) ∧ Aside0 (w'.heap[gb1004]? = some (.cells #[.int .u64 x1005000_3, .int .u64 x1005001_3] 25 (0, 0))) ∧ Aside0 (w'.heap[gb1005]? = some (.cells #[.int .u64 0, .int .u64 0] 25 (0, 0))) ∧ Aside0 (w'.heap[gb1006]? = some (.cells #[.int .u64 x1007000_3, .int .u64 x1007001_3] 25 (0, 0))) ∧ Aside0 (Below w.heap.size w w'))
              case atStart => exact ⟨(0), (x1005000_1), (x1005001_1), (0), (0), (by first | rfl | (simp; done) | (simp [*]; done)), H', ⟨Nat.le_refl _⟩, ⟨by (with_reducible repeat (first | refine blk_drewN ?_ _ | refine blk_drew ?_ | refine blk_alloc ?_ _)); refine blk_far ?_ NB1004_1006.out _; (with_reducible repeat (first | refine blk_drewN ?_ _ | refine blk_drew ?_ | refine blk_alloc ?_ _)); refine blk_far ?_ NB1004_1006.out _; (with_reducible repeat (first | refine blk_drewN ?_ _ | refine blk_drew ?_ | refine blk_alloc ?_ _)); exact BK1004.out⟩, ⟨by (with_reducible repeat (first | refine blk_drewN ?_ _ | refine blk_drew ?_ | refine blk_alloc ?_ _)); refine blk_far ?_ NB1005_1006.out _; (with_reducible repeat (first | refine blk_drewN ?_ _ | refine blk_drew ?_ | refine blk_alloc ?_ _)); refine blk_far ?_ NB1005_1006.out _; (with_reducible repeat (first | refine blk_drewN ?_ _ | refine blk_drew ?_ | refine blk_alloc ?_ _)); exact BK1005.out⟩, ⟨by (with_reducible repeat (first | refine blk_drewN ?_ _ | refine blk_drew ?_ | refine blk_alloc ?_ _)); refine blk_put (cs := #[.int .u64 0, .int .u64 0]) ?_ 1 _ rfl; (with_reducible repeat (first | refine blk_drewN ?_ _ | refine blk_drew ?_ | refine blk_alloc ?_ _)); refine blk_put (cs := #[.int .u64 0, .int .u64 0]) ?_ 0 _ rfl; (with_reducible repeat (first | refine blk_drewN ?_ _ | refine blk_drew ?_ | refine blk_alloc ?_ _)); exact BK1006.out⟩, ⟨by repeat (first | (with_reducible first | exact HB.out | apply below_alloc | apply pw_below_drewN | apply below_drew1 | refine below_set ?_ GE1004.out | refine below_set ?_ GE1005.out | refine below_set ?_ GE1006.out) | exact HB.out)⟩⟩
              case round =>
                clear H'
                try clear c1
                try clear p1
                try clear q1
                try clear hx1
                try clear c2
                try clear p2
                try clear q2
                try clear hx2
                try clear qi2
                try clear c3
                try clear c4
                try clear c6
                try clear c6b0
                try clear p6
                try clear c7
                try clear c7b0
                try clear p8
                try clear q8
                try clear hx8
                try clear c9
                try clear c9b0
                try clear c10
                try clear p13
                try clear q13
                try clear hx13
                try clear c14
                try clear c14b0
                try clear c15
                try clear c19
                try clear c19b0
                try clear c19b1
                try clear c20
                try clear c20b0
                try clear c20b1
                try clear c21
                try clear c21b0
                try clear c21b1
                try clear p22
                try clear q22
                try clear hx22
                try clear qi22
                try clear c23
                try clear c24
                try clear c27
                try clear c30
                try clear c31
                try clear hcz11_0
                try clear hcz11_1
                try clear hcz12_0
                try clear hcz12_1
                try clear hcz16_0
                try clear hcz16_1
                try clear hcz17_0
                try clear hcz17_1
                try clear hcz25_0
                try clear hcz25_1
                try clear hcz26_0
                try clear hcz26_1
                try clear hcz28_0
                try clear hcz28_1
                try clear hcz32_0
                try clear hcz32_1
                try clear hcz5_0
                try clear hcz5_1
                try clear hfz11_0
                try clear hfz11_1
                try clear hfz12_0
                try clear hfz12_1
                try clear hfz16_0
                try clear hfz16_1
                try clear hfz17_0
                try clear hfz17_1
                try clear hfz25_0
                try clear hfz25_1
                try clear hfz26_0
                try clear hfz26_1
                try clear hfz28_0
                try clear hfz28_1
                try clear hfz32_0
                try clear hfz32_1
                try clear hfz5_0
                try clear hfz5_1
                try clear p1
                try clear p13
                try clear p2
                try clear p22
                try clear p6
                try clear p8
                try clear q1
                try clear q13
                try clear q2
                try clear q22
                try clear q8
                obtain ⟨x7_3, x1005000_3, x1005001_3, x1007000_3, x1007001_3, rfl, HA, HK3, BK1004, BK1005, BK1006, HB⟩ := hrel
                cases gk with
                | zero => exact absurd HA.out (by simp [paymasterref02_Parse.l1])
                | succ k3 =>
                  have H := HA.out
                  clear HA
                  simp only [paymasterref02_Parse.l1] at H
                  by_cases c33 : x7_3 < (a0.size : Int)
                  · rw [if_pos c33] at H
                    have c33b0 : decide (x7_3 < (a0.size : Int)) = true := decide_eq_true c33
                    clear c33
                    replace H := Option.bind_eq_some_iff.mp H
                    obtain ⟨⟨t1007, t1008, t1009⟩, A340, H⟩ := H
                    replace H : (if t1009 = 0 then (if 0 ≤ x7_3 then ((paymasterref01_Add.f k3 t1007 t1008 0 (((bt a0 x7_3) - 48) % 256)).bind fun bt1011 => (if bt1011.2.2 = 0 then (paymasterref02_Parse.l1 k3 a0 (wrap64 (x7_3 + 1)) 0 0 bt1011.1 bt1011.2.1) else (some (0, 0, 10)))) else (none)) else (some (0, 0, 10))) = some (r1, r2, r3) := H
                    have A34 := Aside0.mk A340
                    clear A340
                    by_cases c35 : t1009 = 0
                    · rw [if_pos c35] at H
                      have c35b0 : (t1009 == 0) = true := beq_iff_eq.mpr c35
                      have c35b1 : (t1009 != 0) = false := bne_eq_false_iff_eq.mpr c35
                      clear c35
                      by_cases c36 : 0 ≤ x7_3
                      · rw [if_pos c36] at H
                        have c36b0 : decide (0 ≤ x7_3) = true := decide_eq_true c36
                        clear c36
                        replace H := Option.bind_eq_some_iff.mp H
                        obtain ⟨⟨t1011, t1012, t1013⟩, A380, H⟩ := H
                        replace H : (if t1013 = 0 then (paymasterref02_Parse.l1 k3 a0 (wrap64 (x7_3 + 1)) 0 0 t1011 t1012) else (some (0, 0, 10))) = some (r1, r2, r3) := H
                        have A38 := Aside0.mk A380
                        clear A380
                        by_cases c39 : t1013 = 0
                        · rw [if_pos c39] at H
                          have c39b0 : (t1013 == 0) = true := beq_iff_eq.mpr c39
                          have c39b1 : (t1013 != 0) = false := bne_eq_false_iff_eq.mpr c39
                          clear c39
                          have H' := Aside0.mk H
                          clear H
                          have hnb40 := NB1006_1004.out
                          have hnc40 := NB1004_1006.out
                          have hnb41 := NB1006_1005.out
                          have hnc41 := NB1005_1006.out
                          have hcz42_0 : wr.cell? ⟨gb1006, 0, none⟩ = some (.int .u64 x1007000_3) := (blk_cell BK1006.out 0).trans rfl
                          have hcz42_1 : wr.cell? ⟨gb1006, 1, none⟩ = some (.int .u64 x1007001_3) := (blk_cell BK1006.out 1).trans rfl
                          have hfz42_0 := blk_frozen BK1006.out 0
                          have hfz42_1 := blk_frozen BK1006.out 1
                          try go_wp2_with (first | ((with_reducible refine gate_callee (f := 57) rfl ?_); refine goesL_ (some 53) rfl rfl Try.func57 (by kernel_rfl) rfl #[.agg #[.int .u64 x1007000_3, .int .u64 x1007001_3], .int .u64 10] rfl (by (try simp only [List.map_toArray, List.map_cons, List.map_nil]); first | done | rfl | (simp only [List.length_drop, List.length_take]; rfl)) ?_; (with_reducible refine (paymasterref01_Times.calls k3 x1007000_3 x1007001_3 10 t1007 t1008 t1009 _ A34.out).mono ?_); rintro e w43 ⟨rfl, hb⟩; refine ⟨_, rfl, ?_⟩; have n0_ := Aside0.mk (blk_below (g := gb1004) (o := .cells #[.int .u64 x1005000_3, .int .u64 x1005001_3] 25 (0, 0)) (by (with_reducible repeat (first | refine blk_drewN ?_ _ | refine blk_drew ?_ | refine blk_alloc ?_ _)); exact BK1004.out) hb); have n1_ := Aside0.mk (blk_below (g := gb1005) (o := .cells #[.int .u64 0, .int .u64 0] 25 (0, 0)) (by (with_reducible repeat (first | refine blk_drewN ?_ _ | refine blk_drew ?_ | refine blk_alloc ?_ _)); exact BK1005.out) hb); have n2_ := Aside0.mk (blk_below (g := gb1006) (o := .cells #[.int .u64 x1007000_3, .int .u64 x1007001_3] 25 (0, 0)) (by (with_reducible repeat (first | refine blk_drewN ?_ _ | refine blk_drew ?_ | refine blk_alloc ?_ _)); exact BK1006.out) hb); have n3_ := Aside0.mk (below_step (by repeat (first | (with_reducible first | exact HB.out | apply below_alloc | apply pw_below_drewN | apply below_drew1 | refine below_set ?_ GE1004.out | refine below_set ?_ GE1005.out | refine below_set ?_ GE1006.out) | exact HB.out)) hb); clear BK1004; clear BK1005; clear BK1006; clear HB; have BK1004 := n0_; have BK1005 := n1_; have BK1006 := n2_; have HB := n3_; clear n0_ n1_ n2_ n3_; (try clear hb); (try clear hb2); (try clear hk); (try clear hi)) | ((with_reducible refine gate_dst (N := 8) rfl ?_); (try (refine gate_guard (by rfl) ?_; dsimp only)); refine box_event ?hg (N := 8) ?hd (cs := #[.int .u64 0, .int .u64 0]) (t := 25) ?hr ?_; (case hd => rfl); (case hg => rfl); (case hr => first | (go_simp; done) | (go_simp; rfl)); intro gb1010 hg w44 hbox hb; have n0_ := Aside0.mk (blk_below (g := gb1004) (o := .cells #[.int .u64 x1005000_3, .int .u64 x1005001_3] 25 (0, 0)) (by (with_reducible repeat (first | refine blk_drewN ?_ _ | refine blk_drew ?_ | refine blk_alloc ?_ _)); exact BK1004.out) hb); have n1_ := Aside0.mk (blk_below (g := gb1005) (o := .cells #[.int .u64 0, .int .u64 0] 25 (0, 0)) (by (with_reducible repeat (first | refine blk_drewN ?_ _ | refine blk_drew ?_ | refine blk_alloc ?_ _)); exact BK1005.out) hb); have n2_ := Aside0.mk (blk_below (g := gb1006) (o := .cells #[.int .u64 x1007000_3, .int .u64 x1007001_3] 25 (0, 0)) (by (with_reducible repeat (first | refine blk_drewN ?_ _ | refine blk_drew ?_ | refine blk_alloc ?_ _)); exact BK1006.out) hb); have n3_ := Aside0.mk (below_step (by repeat (first | (with_reducible first | exact HB.out | apply below_alloc | apply pw_below_drewN | apply below_drew1 | refine below_set ?_ GE1004.out | refine below_set ?_ GE1005.out | refine below_set ?_ GE1006.out) | exact HB.out)) hb); have n4_ := Aside0.mk (hbox); have n5_ := Aside0.mk ((by rw [hg]; exact (below_size (by repeat (first | (with_reducible first | exact HB.out | apply below_alloc | apply pw_below_drewN | apply below_drew1 | refine below_set ?_ GE1004.out | refine below_set ?_ GE1005.out | refine below_set ?_ GE1006.out) | exact HB.out))) : w.heap.size ≤ gb1010)); have n6_ := Aside0.mk ((by rw [hg]; exact (below_size (by repeat (first | (with_reducible first | exact HB.out | apply below_alloc | apply pw_below_drewN | apply below_drew1 | refine below_set ?_ GE1004.out | refine below_set ?_ GE1005.out | refine below_set ?_ GE1006.out) | exact HB.out))) : w.heap.size ≤ gb1010)); have n7_ := Aside0.mk ((by rw [hg]; exact Nat.ne_of_lt (blk_lt (g := gb1004) (o := .cells #[.int .u64 x1005000_3, .int .u64 x1005001_3] 25 (0, 0)) (by (with_reducible repeat (first | refine blk_drewN ?_ _ | refine blk_drew ?_ | refine blk_alloc ?_ _)); exact BK1004.out)) : gb1004 ≠ gb1010)); have n8_ := Aside0.mk ((by rw [hg]; exact Nat.ne_of_gt (blk_lt (g := gb1004) (o := .cells #[.int .u64 x1005000_3, .int .u64 x1005001_3] 25 (0, 0)) (by (with_reducible repeat (first | refine blk_drewN ?_ _ | refine blk_drew ?_ | refine blk_alloc ?_ _)); exact BK1004.out)) : gb1010 ≠ gb1004)); have n9_ := Aside0.mk ((by rw [hg]; exact Nat.ne_of_lt (blk_lt (g := gb1005) (o := .cells #[.int .u64 0, .int .u64 0] 25 (0, 0)) (by (with_reducible repeat (first | refine blk_drewN ?_ _ | refine blk_drew ?_ | refine blk_alloc ?_ _)); exact BK1005.out)) : gb1005 ≠ gb1010)); have n10_ := Aside0.mk ((by rw [hg]; exact Nat.ne_of_gt (blk_lt (g := gb1005) (o := .cells #[.int .u64 0, .int .u64 0] 25 (0, 0)) (by (with_reducible repeat (first | refine blk_drewN ?_ _ | refine blk_drew ?_ | refine blk_alloc ?_ _)); exact BK1005.out)) : gb1010 ≠ gb1005)); have n11_ := Aside0.mk ((by rw [hg]; exact Nat.ne_of_lt (blk_lt (g := gb1006) (o := .cells #[.int .u64 x1007000_3, .int .u64 x1007001_3] 25 (0, 0)) (by (with_reducible repeat (first | refine blk_drewN ?_ _ | refine blk_drew ?_ | refine blk_alloc ?_ _)); exact BK1006.out)) : gb1006 ≠ gb1010)); have n12_ := Aside0.mk ((by rw [hg]; exact Nat.ne_of_gt (blk_lt (g := gb1006) (o := .cells #[.int .u64 x1007000_3, .int .u64 x1007001_3] 25 (0, 0)) (by (with_reducible repeat (first | refine blk_drewN ?_ _ | refine blk_drew ?_ | refine blk_alloc ?_ _)); exact BK1006.out)) : gb1010 ≠ gb1006)); clear BK1004; clear BK1005; clear BK1006; clear HB; have BK1004 := n0_; have BK1005 := n1_; have BK1006 := n2_; have HB := n3_; have BK1010 := n4_; have GW1010 := n5_; have GE1010 := n6_; have NB1004_1010 := n7_; have NB1010_1004 := n8_; have NB1005_1010 := n9_; have NB1010_1005 := n10_; have NB1006_1010 := n11_; have NB1010_1006 := n12_; clear n0_ n1_ n2_ n3_ n4_ n5_ n6_ n7_ n8_ n9_ n10_ n11_ n12_; clear hb hbox hg; have hnb45 := NB1010_1004.out; have hnc45 := NB1004_1010.out; have hnb46 := NB1010_1005.out; have hnc46 := NB1005_1010.out; have hnb47 := NB1010_1006.out; have hnc47 := NB1006_1010.out; have hcz48_0 : w44.cell? ⟨gb1010, 0, none⟩ = some (.int .u64 0) := (blk_cell BK1010.out 0).trans rfl; have hcz48_1 : w44.cell? ⟨gb1010, 1, none⟩ = some (.int .u64 0) := (blk_cell BK1010.out 1).trans rfl; have hfz48_0 := blk_frozen BK1010.out 0; have hfz48_1 := blk_frozen BK1010.out 1))
                          have n0_ : Aside0 (((w44.setCell ⟨gb1010, 0, none⟩ (.int .u64 t1007)).setCell ⟨gb1010, 1, none⟩ (.int .u64 t1008)).heap[gb1004]? = some (.cells #[.int .u64 x1005000_3, .int .u64 x1005001_3] 25 (0, 0))) := ⟨by (with_reducible repeat (first | refine blk_drewN ?_ _ | refine blk_drew ?_ | refine blk_alloc ?_ _)); refine blk_far ?_ NB1004_1010.out _; (with_reducible repeat (first | refine blk_drewN ?_ _ | refine blk_drew ?_ | refine blk_alloc ?_ _)); refine blk_far ?_ NB1004_1010.out _; (with_reducible repeat (first | refine blk_drewN ?_ _ | refine blk_drew ?_ | refine blk_alloc ?_ _)); exact BK1004.out⟩
                          have n1_ : Aside0 (((w44.setCell ⟨gb1010, 0, none⟩ (.int .u64 t1007)).setCell ⟨gb1010, 1, none⟩ (.int .u64 t1008)).heap[gb1005]? = some (.cells #[.int .u64 0, .int .u64 0] 25 (0, 0))) := ⟨by (with_reducible repeat (first | refine blk_drewN ?_ _ | refine blk_drew ?_ | refine blk_alloc ?_ _)); refine blk_far ?_ NB1005_1010.out _; (with_reducible repeat (first | refine blk_drewN ?_ _ | refine blk_drew ?_ | refine blk_alloc ?_ _)); refine blk_far ?_ NB1005_1010.out _; (with_reducible repeat (first | refine blk_drewN ?_ _ | refine blk_drew ?_ | refine blk_alloc ?_ _)); exact BK1005.out⟩
                          have n2_ : Aside0 (((w44.setCell ⟨gb1010, 0, none⟩ (.int .u64 t1007)).setCell ⟨gb1010, 1, none⟩ (.int .u64 t1008)).heap[gb1006]? = some (.cells #[.int .u64 x1007000_3, .int .u64 x1007001_3] 25 (0, 0))) := ⟨by (with_reducible repeat (first | refine blk_drewN ?_ _ | refine blk_drew ?_ | refine blk_alloc ?_ _)); refine blk_far ?_ NB1006_1010.out _; (with_reducible repeat (first | refine blk_drewN ?_ _ | refine blk_drew ?_ | refine blk_alloc ?_ _)); refine blk_far ?_ NB1006_1010.out _; (with_reducible repeat (first | refine blk_drewN ?_ _ | refine blk_drew ?_ | refine blk_alloc ?_ _)); exact BK1006.out⟩
                          have n3_ : Aside0 (((w44.setCell ⟨gb1010, 0, none⟩ (.int .u64 t1007)).setCell ⟨gb1010, 1, none⟩ (.int .u64 t1008)).heap[gb1010]? = some (.cells #[.int .u64 t1007, .int .u64 t1008] 25 (0, 0))) := ⟨by (with_reducible repeat (first | refine blk_drewN ?_ _ | refine blk_drew ?_ | refine blk_alloc ?_ _)); refine blk_put (cs := #[.int .u64 t1007, .int .u64 0]) ?_ 1 _ rfl; (with_reducible repeat (first | refine blk_drewN ?_ _ | refine blk_drew ?_ | refine blk_alloc ?_ _)); refine blk_put (cs := #[.int .u64 0, .int .u64 0]) ?_ 0 _ rfl; (with_reducible repeat (first | refine blk_drewN ?_ _ | refine blk_drew ?_ | refine blk_alloc ?_ _)); exact BK1010.out⟩
                          have n4_ : Aside0 (Below w.heap.size w ((w44.setCell ⟨gb1010, 0, none⟩ (.int .u64 t1007)).setCell ⟨gb1010, 1, none⟩ (.int .u64 t1008))) := ⟨by repeat (first | (with_reducible first | exact HB.out | apply below_alloc | apply pw_below_drewN | apply below_drew1 | refine below_set ?_ GE1004.out | refine below_set ?_ GE1005.out | refine below_set ?_ GE1006.out | refine below_set ?_ GE1010.out) | exact HB.out)⟩
                          (try clear BK1004)
                          (try clear BK1005)
                          (try clear BK1006)
                          (try clear BK1010)
                          (try clear HB)
                          generalize ((w44.setCell ⟨gb1010, 0, none⟩ (.int .u64 t1007)).setCell ⟨gb1010, 1, none⟩ (.int .u64 t1008)) = w49 at n0_ n1_ n2_ n3_ n4_ ⊢
                          have BK1004 := n0_
                          have BK1005 := n1_
                          have BK1006 := n2_
                          have BK1010 := n3_
                          have HB := n4_
                          clear n0_ n1_ n2_ n3_ n4_
                          have n0_ := Aside0.mk (blk_drew BK1004.out)
                          have n1_ := Aside0.mk (blk_drew BK1005.out)
                          have n2_ := Aside0.mk (blk_drew BK1006.out)
                          have n3_ := Aside0.mk (blk_drew BK1010.out)
                          have n4_ := Aside0.mk (below_drew1 HB.out)
                          clear BK1004
                          clear BK1005
                          clear BK1006
                          clear BK1010
                          clear HB
                          have BK1004 := n0_
                          have BK1005 := n1_
                          have BK1006 := n2_
                          have BK1010 := n3_
                          have HB := n4_
                          clear n0_ n1_ n2_ n3_ n4_
                          have p37 : 0 ≤ (x7_3 : Int) := of_decide_eq_true (by first | (with_reducible assumption) | assumption)
                          have q37 : x7_3 < (a0.size : Int) := of_decide_eq_true (by first | (with_reducible assumption) | assumption)
                          have hx37 := bt_at a0 x7_3
                          replace p37 := eq_true p37
                          replace q37 := eq_true q37
                          refine start_ (n := 14) (S := fun w' => w'.cell? ⟨gb1010, 0, none⟩ = some (.int .u64 t1007) ∧ w'.cell? ⟨gb1010, 1, none⟩ = some (.int .u64 t1008)) (ds := []) #[false, false, false, false, false, false, false, false, false, false, false, false, false, false] (by kernel_rfl) rfl rfl ⟨(blk_cell BK1010.out 0).trans rfl, (blk_cell BK1010.out 1).trans rfl⟩ (fun hHeld => ?_); refine with_tabW paymasterref02_Parse.tab16 paymasterref02_Parse.bits16 (fun HT_ HW_ => ?_)
                          generalize w49.drew = w50 at BK1004 BK1005 BK1006 BK1010 HB hHeld ⊢
                          refine pure_ (i := 1) (N := some 61) (v := ?_) (a' := ?_) #[false, true, false, false, false, false, false, false, false, false, false, false, false, false] rfl rfl (any_of HT_.out (by kernel_rfl)) (fun _ _ _ h => h) (Or.inl ⟨by rfl, ?_⟩) ?_ ?_
                          rotate_left
                          · intro w'
                            go_simp
                            with_reducible rfl
                          rotate_left
                          · simp only [Act.put, List.setIfInBounds_toArray, List.set_cons_zero, List.set_cons_succ, i64_w, i32_w]
                            rfl
                          refine pure_ (i := 2) (N := some 62) (v := ?_) (a' := ?_) #[false, true, true, false, false, false, false, false, false, false, false, false, false, false] rfl rfl (any_of HT_.out (by kernel_rfl)) (fun _ _ _ h => h) (Or.inl ⟨by rfl, ?_⟩) ?_ ?_
                          rotate_left
                          · intro w'
                            go_simp
                            with_reducible rfl
                          rotate_left
                          · simp only [Act.put, List.setIfInBounds_toArray, List.set_cons_zero, List.set_cons_succ, i64_w, i32_w]
                            rfl
                          refine take_ (i := 0) (N := some 60) (v := ?_) (a' := ?_) #[true, true, true, false, false, false, false, false, false, false, false, false, false, false] rfl rfl (take_ofW HT_.out HW_.out (by kernel_rfl)) (fun _ _ _ h => h) (Or.inl ⟨by rfl, ?_⟩) hHeld ?_ ?_
                          rotate_left
                          · rintro w' ⟨s0, s1⟩
                            go_simp
                            with_reducible rfl
                          rotate_left
                          · simp only [Act.put, List.setIfInBounds_toArray, List.set_cons_zero, List.set_cons_succ, i64_w, i32_w]
                            rfl
                          refine take_ (i := 3) (N := some 63) (v := ?_) (a' := ?_) #[true, true, true, true, false, false, false, false, false, false, false, false, false, false] rfl rfl (take_ofW HT_.out HW_.out (by kernel_rfl)) (fun _ _ _ h => h) (Or.inl ⟨by rfl, ?_⟩) hHeld ?_ ?_
                          rotate_left
                          · rintro w' ⟨s0, s1⟩
                            go_simp
                            with_reducible rfl
                          rotate_left
                          · simp only [Act.put, List.setIfInBounds_toArray, List.set_cons_zero, List.set_cons_succ, i64_w, i32_w]
                            rfl
                          refine pure_ (i := 4) (N := some 64) (v := ?_) (a' := ?_) #[true, true, true, true, true, false, false, false, false, false, false, false, false, false] rfl rfl (any_of HT_.out (by kernel_rfl)) (fun _ _ _ h => h) (Or.inl ⟨by rfl, ?_⟩) ?_ ?_
                          rotate_left
                          · intro w'
                            go_simp
                            with_reducible rfl
                          rotate_left
                          · simp only [Act.put, List.setIfInBounds_toArray, List.set_cons_zero, List.set_cons_succ, i64_w, i32_w]
                            rfl
                          refine pure_ (i := 5) (N := some 65) (v := ?_) (a' := ?_) #[true, true, true, true, true, true, false, false, false, false, false, false, false, false] rfl rfl (any_of HT_.out (by kernel_rfl)) (fun _ _ _ h => h) (Or.inl ⟨by rfl, ?_⟩) ?_ ?_
                          rotate_left
                          · intro w'
                            go_simp
                            with_reducible rfl
                          rotate_left
                          · simp only [Act.put, List.setIfInBounds_toArray, List.set_cons_zero, List.set_cons_succ, i64_w, i32_w]
                            rfl
                          refine pure_ (i := 6) (N := some 66) (v := ?_) (a' := ?_) #[true, true, true, true, true, true, true, false, false, false, false, false, false, false] rfl rfl (any_of HT_.out (by kernel_rfl)) (fun _ _ _ h => h) (Or.inl ⟨by rfl, ?_⟩) ?_ ?_
                          rotate_left
                          · intro w'
                            go_simp
                            with_reducible rfl
                          rotate_left
                          · simp only [Act.put, List.setIfInBounds_toArray, List.set_cons_zero, List.set_cons_succ, i64_w, i32_w]
                            rfl
                          refine join_ (σ := Nat) 2 #[true, true, true, true, true, true, true, true, true, true, true, true, false, false] (fun s_ => [(67, .tuple #[.agg #[.int .u64 t1011, .int .u64 t1012], .int .i64 t1013]), (10, .pointer (some ⟨s_, 0, none⟩)), (59, .tuple #[.agg #[.int .u64 t1011, .int .u64 t1012], .int .i64 t1013]), (68, .agg #[.int .u64 t1011, .int .u64 t1012]), (69, .int .i64 t1013)]) (fun s_ w' => (w'.cell? ⟨gb1010, 0, none⟩ = some (.int .u64 t1007) ∧ w'.cell? ⟨gb1010, 1, none⟩ = some (.int .u64 t1008)) ∧ (w'.heap[gb1004]? = some (.cells #[.int .u64 x1005000_3, .int .u64 x1005001_3] 25 (0, 0))) ∧ (w'.heap[gb1005]? = some (.cells #[.int .u64 0, .int .u64 0] 25 (0, 0))) ∧ (w'.heap[gb1006]? = some (.cells #[.int .u64 x1007000_3, .int .u64 x1007001_3] 25 (0, 0))) ∧ (w'.heap[gb1010]? = some (.cells #[.int .u64 t1007, .int .u64 t1008] 25 (0, 0))) ∧ (w'.heap[s_]? = some (.cells #[.int .u64 0, .int .u64 0] 25 (0, 0))) ∧ (w.heap.size ≤ s_) ∧ (w.heap.size ≤ s_) ∧ (gb1004 ≠ s_) ∧ (s_ ≠ gb1004) ∧ (gb1005 ≠ s_) ∧ (s_ ≠ gb1005) ∧ (gb1006 ≠ s_) ∧ (s_ ≠ gb1006) ∧ (gb1010 ≠ s_) ∧ (s_ ≠ gb1010) ∧ (Below w.heap.size w w')) ?_ ?_
                          rotate_left
                          · intro hCont
                            refine two_ (i := 7) (j := 11) (Ni := some 67) (Nj := some 10) #[true, true, true, true, true, true, true, true, false, false, false, false, false, false] #[true, true, true, true, true, true, true, false, false, false, false, true, false, false] rfl rfl rfl rfl (two_of HT_.out (by kernel_rfl)) (by decide) (by decide) (fun K hK => ?_) (fun K hK => ?_)
                            · skip
                              refine goes_ Try.func46 (by kernel_rfl) rfl #[.agg #[.int .u64 t1007, .int .u64 t1008], .agg #[.int .u64 0, .int .u64 (((bt a0 x7_3) - 48) % 256)]] (by rfl) rfl rfl (by (try simp only [List.map_toArray, List.map_cons, List.map_nil]); first | done | rfl | (simp only [List.length_drop, List.length_take]; rfl)) ?_
                              with_reducible refine (paymasterref01_Add.calls k3 t1007 t1008 0 (((bt a0 x7_3) - 48) % 256) t1011 t1012 t1013 _ A38.out).mono ?_
                              rintro e w51 ⟨rfl, hb⟩
                              refine ⟨_, rfl, ?_⟩
                              have n0_ := Aside0.mk (blk_below (g := gb1004) (o := .cells #[.int .u64 x1005000_3, .int .u64 x1005001_3] 25 (0, 0)) (by (with_reducible repeat (first | refine blk_drewN ?_ _ | refine blk_drew ?_ | refine blk_alloc ?_ _)); exact BK1004.out) hb)
                              have n1_ := Aside0.mk (blk_below (g := gb1005) (o := .cells #[.int .u64 0, .int .u64 0] 25 (0, 0)) (by (with_reducible repeat (first | refine blk_drewN ?_ _ | refine blk_drew ?_ | refine blk_alloc ?_ _)); exact BK1005.out) hb)
                              have n2_ := Aside0.mk (blk_below (g := gb1006) (o := .cells #[.int .u64 x1007000_3, .int .u64 x1007001_3] 25 (0, 0)) (by (with_reducible repeat (first | refine blk_drewN ?_ _ | refine blk_drew ?_ | refine blk_alloc ?_ _)); exact BK1006.out) hb)
                              have n3_ := Aside0.mk (blk_below (g := gb1010) (o := .cells #[.int .u64 t1007, .int .u64 t1008] 25 (0, 0)) (by (with_reducible repeat (first | refine blk_drewN ?_ _ | refine blk_drew ?_ | refine blk_alloc ?_ _)); exact BK1010.out) hb)
                              have n4_ := Aside0.mk (below_step (by repeat (first | (with_reducible first | exact HB.out | apply below_alloc | apply pw_below_drewN | apply below_drew1 | refine below_set ?_ GE1004.out | refine below_set ?_ GE1005.out | refine below_set ?_ GE1006.out | refine below_set ?_ GE1010.out) | exact HB.out)) hb)
                              clear BK1004
                              clear BK1005
                              clear BK1006
                              clear BK1010
                              clear HB
                              have BK1004 := n0_
                              have BK1005 := n1_
                              have BK1006 := n2_
                              have BK1010 := n3_
                              have HB := n4_
                              clear n0_ n1_ n2_ n3_ n4_
                              (try clear hb)
                              (try clear hb2)
                              (try clear hk)
                              (try clear hi)
                              refine hK.out _ _ ⟨(blk_cell BK1010.out 0).trans rfl, (blk_cell BK1010.out 1).trans rfl⟩ (fun hHeld => ?_)
                              clear hK K
                              refine norm_ (a' := ?_) ?_ ?_
                              rotate_left
                              · show Act.put _ (some 67) _ = _
                                simp only [Act.put, List.setIfInBounds_toArray, List.set_cons_zero, List.set_cons_succ, i64_w, i32_w]
                                rfl
                              refine pure_ (i := 8) (N := some 59) (v := ?_) (a' := ?_) #[true, true, true, true, true, true, true, true, true, false, false, false, false, false] rfl rfl (any_of HT_.out (by kernel_rfl)) (fun _ _ _ h => h) (Or.inl ⟨by rfl, ?_⟩) ?_ ?_
                              rotate_left
                              · intro w'
                                go_simp
                                with_reducible rfl
                              rotate_left
                              · simp only [Act.put, List.setIfInBounds_toArray, List.set_cons_zero, List.set_cons_succ, i64_w, i32_w]
                                rfl
                              refine pure_ (i := 9) (N := some 68) (v := ?_) (a' := ?_) #[true, true, true, true, true, true, true, true, true, true, false, false, false, false] rfl rfl (any_of HT_.out (by kernel_rfl)) (fun _ _ _ h => h) (Or.inl ⟨by rfl, ?_⟩) ?_ ?_
                              rotate_left
                              · intro w'
                                go_simp
                                with_reducible rfl
                              rotate_left
                              · simp only [Act.put, List.setIfInBounds_toArray, List.set_cons_zero, List.set_cons_succ, i64_w, i32_w]
                                rfl
                              refine pure_ (i := 10) (N := some 69) (v := ?_) (a' := ?_) #[true, true, true, true, true, true, true, true, true, true, true, false, false, false] rfl rfl (any_of HT_.out (by kernel_rfl)) (fun _ _ _ h => h) (Or.inl ⟨by rfl, ?_⟩) ?_ ?_
                              rotate_left
                              · intro w'
                                go_simp
                                with_reducible rfl
                              rotate_left
                              · simp only [Act.put, List.setIfInBounds_toArray, List.set_cons_zero, List.set_cons_succ, i64_w, i32_w]
                                rfl
                              refine one_ (i := 11) (N := some 10) #[true, true, true, true, true, true, true, true, true, true, true, true, false, false] rfl rfl (one_of HT_.out (by kernel_rfl)) (by decide) (fun K hK => ?_)
                              refine box_step ?hg (N := 10) ?hd (cs := #[.int .u64 0, .int .u64 0]) (t := 25) ?hr ?_; (case hd => rfl); (case hg => rfl); (case hr => first | (go_simp; done) | (go_simp; rfl))
                              intro gb1014 hg w52 hbox hb
                              have n0_ := Aside0.mk (blk_below (g := gb1004) (o := .cells #[.int .u64 x1005000_3, .int .u64 x1005001_3] 25 (0, 0)) (by (with_reducible repeat (first | refine blk_drewN ?_ _ | refine blk_drew ?_ | refine blk_alloc ?_ _)); exact BK1004.out) hb)
                              have n1_ := Aside0.mk (blk_below (g := gb1005) (o := .cells #[.int .u64 0, .int .u64 0] 25 (0, 0)) (by (with_reducible repeat (first | refine blk_drewN ?_ _ | refine blk_drew ?_ | refine blk_alloc ?_ _)); exact BK1005.out) hb)
                              have n2_ := Aside0.mk (blk_below (g := gb1006) (o := .cells #[.int .u64 x1007000_3, .int .u64 x1007001_3] 25 (0, 0)) (by (with_reducible repeat (first | refine blk_drewN ?_ _ | refine blk_drew ?_ | refine blk_alloc ?_ _)); exact BK1006.out) hb)
                              have n3_ := Aside0.mk (blk_below (g := gb1010) (o := .cells #[.int .u64 t1007, .int .u64 t1008] 25 (0, 0)) (by (with_reducible repeat (first | refine blk_drewN ?_ _ | refine blk_drew ?_ | refine blk_alloc ?_ _)); exact BK1010.out) hb)
                              have n4_ := Aside0.mk (below_step (by repeat (first | (with_reducible first | exact HB.out | apply below_alloc | apply pw_below_drewN | apply below_drew1 | refine below_set ?_ GE1004.out | refine below_set ?_ GE1005.out | refine below_set ?_ GE1006.out | refine below_set ?_ GE1010.out) | exact HB.out)) hb)
                              have n5_ := Aside0.mk (hbox)
                              have n6_ := Aside0.mk ((by rw [hg]; exact (below_size (by repeat (first | (with_reducible first | exact HB.out | apply below_alloc | apply pw_below_drewN | apply below_drew1 | refine below_set ?_ GE1004.out | refine below_set ?_ GE1005.out | refine below_set ?_ GE1006.out | refine below_set ?_ GE1010.out) | exact HB.out))) : w.heap.size ≤ gb1014))
                              have n7_ := Aside0.mk ((by rw [hg]; exact (below_size (by repeat (first | (with_reducible first | exact HB.out | apply below_alloc | apply pw_below_drewN | apply below_drew1 | refine below_set ?_ GE1004.out | refine below_set ?_ GE1005.out | refine below_set ?_ GE1006.out | refine below_set ?_ GE1010.out) | exact HB.out))) : w.heap.size ≤ gb1014))
                              have n8_ := Aside0.mk ((by rw [hg]; exact Nat.ne_of_lt (blk_lt (g := gb1004) (o := .cells #[.int .u64 x1005000_3, .int .u64 x1005001_3] 25 (0, 0)) (by (with_reducible repeat (first | refine blk_drewN ?_ _ | refine blk_drew ?_ | refine blk_alloc ?_ _)); exact BK1004.out)) : gb1004 ≠ gb1014))
                              have n9_ := Aside0.mk ((by rw [hg]; exact Nat.ne_of_gt (blk_lt (g := gb1004) (o := .cells #[.int .u64 x1005000_3, .int .u64 x1005001_3] 25 (0, 0)) (by (with_reducible repeat (first | refine blk_drewN ?_ _ | refine blk_drew ?_ | refine blk_alloc ?_ _)); exact BK1004.out)) : gb1014 ≠ gb1004))
                              have n10_ := Aside0.mk ((by rw [hg]; exact Nat.ne_of_lt (blk_lt (g := gb1005) (o := .cells #[.int .u64 0, .int .u64 0] 25 (0, 0)) (by (with_reducible repeat (first | refine blk_drewN ?_ _ | refine blk_drew ?_ | refine blk_alloc ?_ _)); exact BK1005.out)) : gb1005 ≠ gb1014))
                              have n11_ := Aside0.mk ((by rw [hg]; exact Nat.ne_of_gt (blk_lt (g := gb1005) (o := .cells #[.int .u64 0, .int .u64 0] 25 (0, 0)) (by (with_reducible repeat (first | refine blk_drewN ?_ _ | refine blk_drew ?_ | refine blk_alloc ?_ _)); exact BK1005.out)) : gb1014 ≠ gb1005))
                              have n12_ := Aside0.mk ((by rw [hg]; exact Nat.ne_of_lt (blk_lt (g := gb1006) (o := .cells #[.int .u64 x1007000_3, .int .u64 x1007001_3] 25 (0, 0)) (by (with_reducible repeat (first | refine blk_drewN ?_ _ | refine blk_drew ?_ | refine blk_alloc ?_ _)); exact BK1006.out)) : gb1006 ≠ gb1014))
                              have n13_ := Aside0.mk ((by rw [hg]; exact Nat.ne_of_gt (blk_lt (g := gb1006) (o := .cells #[.int .u64 x1007000_3, .int .u64 x1007001_3] 25 (0, 0)) (by (with_reducible repeat (first | refine blk_drewN ?_ _ | refine blk_drew ?_ | refine blk_alloc ?_ _)); exact BK1006.out)) : gb1014 ≠ gb1006))
                              have n14_ := Aside0.mk ((by rw [hg]; exact Nat.ne_of_lt (blk_lt (g := gb1010) (o := .cells #[.int .u64 t1007, .int .u64 t1008] 25 (0, 0)) (by (with_reducible repeat (first | refine blk_drewN ?_ _ | refine blk_drew ?_ | refine blk_alloc ?_ _)); exact BK1010.out)) : gb1010 ≠ gb1014))
                              have n15_ := Aside0.mk ((by rw [hg]; exact Nat.ne_of_gt (blk_lt (g := gb1010) (o := .cells #[.int .u64 t1007, .int .u64 t1008] 25 (0, 0)) (by (with_reducible repeat (first | refine blk_drewN ?_ _ | refine blk_drew ?_ | refine blk_alloc ?_ _)); exact BK1010.out)) : gb1014 ≠ gb1010))
                              clear BK1004
                              clear BK1005
                              clear BK1006
                              clear BK1010
                              clear HB
                              have BK1004 := n0_
                              have BK1005 := n1_
                              have BK1006 := n2_
                              have BK1010 := n3_
                              have HB := n4_
                              have BK1014 := n5_
                              have GW1014 := n6_
                              have GE1014 := n7_
                              have NB1004_1014 := n8_
                              have NB1014_1004 := n9_
                              have NB1005_1014 := n10_
                              have NB1014_1005 := n11_
                              have NB1006_1014 := n12_
                              have NB1014_1006 := n13_
                              have NB1010_1014 := n14_
                              have NB1014_1010 := n15_
                              clear n0_ n1_ n2_ n3_ n4_ n5_ n6_ n7_ n8_ n9_ n10_ n11_ n12_ n13_ n14_ n15_
                              clear hb hbox hg
                              refine hK.out _ _ ⟨(blk_cell BK1010.out 0).trans rfl, (blk_cell BK1010.out 1).trans rfl⟩ (fun hHeld => ?_)
                              clear hK K
                              refine norm_ (a' := ?_) ?_ ?_
                              rotate_left
                              · show Act.put _ (some 10) _ = _
                                simp only [Act.put, List.setIfInBounds_toArray, List.set_cons_zero, List.set_cons_succ, i64_w, i32_w]
                                rfl
                              exact norm_ (by simp only [putAll, Act.put, List.setIfInBounds_toArray, List.set_cons_zero, List.set_cons_succ]) (hCont (gb1014) _ ⟨hHeld, (by (with_reducible repeat (first | refine blk_drewN ?_ _ | refine blk_drew ?_ | refine blk_alloc ?_ _)); exact BK1004.out), (by (with_reducible repeat (first | refine blk_drewN ?_ _ | refine blk_drew ?_ | refine blk_alloc ?_ _)); exact BK1005.out), (by (with_reducible repeat (first | refine blk_drewN ?_ _ | refine blk_drew ?_ | refine blk_alloc ?_ _)); exact BK1006.out), (by (with_reducible repeat (first | refine blk_drewN ?_ _ | refine blk_drew ?_ | refine blk_alloc ?_ _)); exact BK1010.out), (by (with_reducible repeat (first | refine blk_drewN ?_ _ | refine blk_drew ?_ | refine blk_alloc ?_ _)); exact BK1014.out), GW1014.out, GE1014.out, NB1004_1014.out, NB1014_1004.out, NB1005_1014.out, NB1014_1005.out, NB1006_1014.out, NB1014_1006.out, NB1010_1014.out, NB1014_1010.out, (by repeat (first | (with_reducible first | exact HB.out | apply below_alloc | apply pw_below_drewN | apply below_drew1 | refine below_set ?_ GE1004.out | refine below_set ?_ GE1005.out | refine below_set ?_ GE1006.out | refine below_set ?_ GE1010.out | refine below_set ?_ GE1014.out) | exact HB.out))⟩)
                            · skip
                              refine box_step ?hg (N := 10) ?hd (cs := #[.int .u64 0, .int .u64 0]) (t := 25) ?hr ?_; (case hd => rfl); (case hg => rfl); (case hr => first | (go_simp; done) | (go_simp; rfl))
                              intro gb1014 hg w51 hbox hb
                              have n0_ := Aside0.mk (blk_below (g := gb1004) (o := .cells #[.int .u64 x1005000_3, .int .u64 x1005001_3] 25 (0, 0)) (by (with_reducible repeat (first | refine blk_drewN ?_ _ | refine blk_drew ?_ | refine blk_alloc ?_ _)); exact BK1004.out) hb)
                              have n1_ := Aside0.mk (blk_below (g := gb1005) (o := .cells #[.int .u64 0, .int .u64 0] 25 (0, 0)) (by (with_reducible repeat (first | refine blk_drewN ?_ _ | refine blk_drew ?_ | refine blk_alloc ?_ _)); exact BK1005.out) hb)
                              have n2_ := Aside0.mk (blk_below (g := gb1006) (o := .cells #[.int .u64 x1007000_3, .int .u64 x1007001_3] 25 (0, 0)) (by (with_reducible repeat (first | refine blk_drewN ?_ _ | refine blk_drew ?_ | refine blk_alloc ?_ _)); exact BK1006.out) hb)
                              have n3_ := Aside0.mk (blk_below (g := gb1010) (o := .cells #[.int .u64 t1007, .int .u64 t1008] 25 (0, 0)) (by (with_reducible repeat (first | refine blk_drewN ?_ _ | refine blk_drew ?_ | refine blk_alloc ?_ _)); exact BK1010.out) hb)
                              have n4_ := Aside0.mk (below_step (by repeat (first | (with_reducible first | exact HB.out | apply below_alloc | apply pw_below_drewN | apply below_drew1 | refine below_set ?_ GE1004.out | refine below_set ?_ GE1005.out | refine below_set ?_ GE1006.out | refine below_set ?_ GE1010.out) | exact HB.out)) hb)
                              have n5_ := Aside0.mk (hbox)
                              have n6_ := Aside0.mk ((by rw [hg]; exact (below_size (by repeat (first | (with_reducible first | exact HB.out | apply below_alloc | apply pw_below_drewN | apply below_drew1 | refine below_set ?_ GE1004.out | refine below_set ?_ GE1005.out | refine below_set ?_ GE1006.out | refine below_set ?_ GE1010.out) | exact HB.out))) : w.heap.size ≤ gb1014))
                              have n7_ := Aside0.mk ((by rw [hg]; exact (below_size (by repeat (first | (with_reducible first | exact HB.out | apply below_alloc | apply pw_below_drewN | apply below_drew1 | refine below_set ?_ GE1004.out | refine below_set ?_ GE1005.out | refine below_set ?_ GE1006.out | refine below_set ?_ GE1010.out) | exact HB.out))) : w.heap.size ≤ gb1014))
                              have n8_ := Aside0.mk ((by rw [hg]; exact Nat.ne_of_lt (blk_lt (g := gb1004) (o := .cells #[.int .u64 x1005000_3, .int .u64 x1005001_3] 25 (0, 0)) (by (with_reducible repeat (first | refine blk_drewN ?_ _ | refine blk_drew ?_ | refine blk_alloc ?_ _)); exact BK1004.out)) : gb1004 ≠ gb1014))
                              have n9_ := Aside0.mk ((by rw [hg]; exact Nat.ne_of_gt (blk_lt (g := gb1004) (o := .cells #[.int .u64 x1005000_3, .int .u64 x1005001_3] 25 (0, 0)) (by (with_reducible repeat (first | refine blk_drewN ?_ _ | refine blk_drew ?_ | refine blk_alloc ?_ _)); exact BK1004.out)) : gb1014 ≠ gb1004))
                              have n10_ := Aside0.mk ((by rw [hg]; exact Nat.ne_of_lt (blk_lt (g := gb1005) (o := .cells #[.int .u64 0, .int .u64 0] 25 (0, 0)) (by (with_reducible repeat (first | refine blk_drewN ?_ _ | refine blk_drew ?_ | refine blk_alloc ?_ _)); exact BK1005.out)) : gb1005 ≠ gb1014))
                              have n11_ := Aside0.mk ((by rw [hg]; exact Nat.ne_of_gt (blk_lt (g := gb1005) (o := .cells #[.int .u64 0, .int .u64 0] 25 (0, 0)) (by (with_reducible repeat (first | refine blk_drewN ?_ _ | refine blk_drew ?_ | refine blk_alloc ?_ _)); exact BK1005.out)) : gb1014 ≠ gb1005))
                              have n12_ := Aside0.mk ((by rw [hg]; exact Nat.ne_of_lt (blk_lt (g := gb1006) (o := .cells #[.int .u64 x1007000_3, .int .u64 x1007001_3] 25 (0, 0)) (by (with_reducible repeat (first | refine blk_drewN ?_ _ | refine blk_drew ?_ | refine blk_alloc ?_ _)); exact BK1006.out)) : gb1006 ≠ gb1014))
                              have n13_ := Aside0.mk ((by rw [hg]; exact Nat.ne_of_gt (blk_lt (g := gb1006) (o := .cells #[.int .u64 x1007000_3, .int .u64 x1007001_3] 25 (0, 0)) (by (with_reducible repeat (first | refine blk_drewN ?_ _ | refine blk_drew ?_ | refine blk_alloc ?_ _)); exact BK1006.out)) : gb1014 ≠ gb1006))
                              have n14_ := Aside0.mk ((by rw [hg]; exact Nat.ne_of_lt (blk_lt (g := gb1010) (o := .cells #[.int .u64 t1007, .int .u64 t1008] 25 (0, 0)) (by (with_reducible repeat (first | refine blk_drewN ?_ _ | refine blk_drew ?_ | refine blk_alloc ?_ _)); exact BK1010.out)) : gb1010 ≠ gb1014))
                              have n15_ := Aside0.mk ((by rw [hg]; exact Nat.ne_of_gt (blk_lt (g := gb1010) (o := .cells #[.int .u64 t1007, .int .u64 t1008] 25 (0, 0)) (by (with_reducible repeat (first | refine blk_drewN ?_ _ | refine blk_drew ?_ | refine blk_alloc ?_ _)); exact BK1010.out)) : gb1014 ≠ gb1010))
                              clear BK1004
                              clear BK1005
                              clear BK1006
                              clear BK1010
                              clear HB
                              have BK1004 := n0_
                              have BK1005 := n1_
                              have BK1006 := n2_
                              have BK1010 := n3_
                              have HB := n4_
                              have BK1014 := n5_
                              have GW1014 := n6_
                              have GE1014 := n7_
                              have NB1004_1014 := n8_
                              have NB1014_1004 := n9_
                              have NB1005_1014 := n10_
                              have NB1014_1005 := n11_
                              have NB1006_1014 := n12_
                              have NB1014_1006 := n13_
                              have NB1010_1014 := n14_
                              have NB1014_1010 := n15_
                              clear n0_ n1_ n2_ n3_ n4_ n5_ n6_ n7_ n8_ n9_ n10_ n11_ n12_ n13_ n14_ n15_
                              clear hb hbox hg
                              refine hK.out _ _ ⟨(blk_cell BK1010.out 0).trans rfl, (blk_cell BK1010.out 1).trans rfl⟩ (fun hHeld => ?_)
                              clear hK K
                              refine norm_ (a' := ?_) ?_ ?_
                              rotate_left
                              · show Act.put _ (some 10) _ = _
                                simp only [Act.put, List.setIfInBounds_toArray, List.set_cons_zero, List.set_cons_succ, i64_w, i32_w]
                                rfl
                              refine one_ (i := 7) (N := some 67) #[true, true, true, true, true, true, true, true, false, false, false, true, false, false] rfl rfl (one_of HT_.out (by kernel_rfl)) (by decide) (fun K hK => ?_)
                              refine goes_ Try.func46 (by kernel_rfl) rfl #[.agg #[.int .u64 t1007, .int .u64 t1008], .agg #[.int .u64 0, .int .u64 (((bt a0 x7_3) - 48) % 256)]] (by rfl) rfl rfl (by (try simp only [List.map_toArray, List.map_cons, List.map_nil]); first | done | rfl | (simp only [List.length_drop, List.length_take]; rfl)) ?_
                              with_reducible refine (paymasterref01_Add.calls k3 t1007 t1008 0 (((bt a0 x7_3) - 48) % 256) t1011 t1012 t1013 _ A38.out).mono ?_
                              rintro e w52 ⟨rfl, hb⟩
                              refine ⟨_, rfl, ?_⟩
                              have n0_ := Aside0.mk (blk_below (g := gb1004) (o := .cells #[.int .u64 x1005000_3, .int .u64 x1005001_3] 25 (0, 0)) (by (with_reducible repeat (first | refine blk_drewN ?_ _ | refine blk_drew ?_ | refine blk_alloc ?_ _)); exact BK1004.out) hb)
                              have n1_ := Aside0.mk (blk_below (g := gb1005) (o := .cells #[.int .u64 0, .int .u64 0] 25 (0, 0)) (by (with_reducible repeat (first | refine blk_drewN ?_ _ | refine blk_drew ?_ | refine blk_alloc ?_ _)); exact BK1005.out) hb)
                              have n2_ := Aside0.mk (blk_below (g := gb1006) (o := .cells #[.int .u64 x1007000_3, .int .u64 x1007001_3] 25 (0, 0)) (by (with_reducible repeat (first | refine blk_drewN ?_ _ | refine blk_drew ?_ | refine blk_alloc ?_ _)); exact BK1006.out) hb)
                              have n3_ := Aside0.mk (blk_below (g := gb1010) (o := .cells #[.int .u64 t1007, .int .u64 t1008] 25 (0, 0)) (by (with_reducible repeat (first | refine blk_drewN ?_ _ | refine blk_drew ?_ | refine blk_alloc ?_ _)); exact BK1010.out) hb)
                              have n4_ := Aside0.mk (blk_below (g := gb1014) (o := .cells #[.int .u64 0, .int .u64 0] 25 (0, 0)) (by (with_reducible repeat (first | refine blk_drewN ?_ _ | refine blk_drew ?_ | refine blk_alloc ?_ _)); exact BK1014.out) hb)
                              have n5_ := Aside0.mk (below_step (by repeat (first | (with_reducible first | exact HB.out | apply below_alloc | apply pw_below_drewN | apply below_drew1 | refine below_set ?_ GE1004.out | refine below_set ?_ GE1005.out | refine below_set ?_ GE1006.out | refine below_set ?_ GE1010.out | refine below_set ?_ GE1014.out) | exact HB.out)) hb)
                              clear BK1004
                              clear BK1005
                              clear BK1006
                              clear BK1010
                              clear BK1014
                              clear HB
                              have BK1004 := n0_
                              have BK1005 := n1_
                              have BK1006 := n2_
                              have BK1010 := n3_
                              have BK1014 := n4_
                              have HB := n5_
                              clear n0_ n1_ n2_ n3_ n4_ n5_
                              (try clear hb)
                              (try clear hb2)
                              (try clear hk)
                              (try clear hi)
                              refine hK.out _ _ ⟨(blk_cell BK1010.out 0).trans rfl, (blk_cell BK1010.out 1).trans rfl⟩ (fun hHeld => ?_)
                              clear hK K
                              refine norm_ (a' := ?_) ?_ ?_
                              rotate_left
                              · show Act.put _ (some 67) _ = _
                                simp only [Act.put, List.setIfInBounds_toArray, List.set_cons_zero, List.set_cons_succ, i64_w, i32_w]
                                rfl
                              refine pure_ (i := 8) (N := some 59) (v := ?_) (a' := ?_) #[true, true, true, true, true, true, true, true, true, false, false, true, false, false] rfl rfl (any_of HT_.out (by kernel_rfl)) (fun _ _ _ h => h) (Or.inl ⟨by rfl, ?_⟩) ?_ ?_
                              rotate_left
                              · intro w'
                                go_simp
                                with_reducible rfl
                              rotate_left
                              · simp only [Act.put, List.setIfInBounds_toArray, List.set_cons_zero, List.set_cons_succ, i64_w, i32_w]
                                rfl
                              refine pure_ (i := 9) (N := some 68) (v := ?_) (a' := ?_) #[true, true, true, true, true, true, true, true, true, true, false, true, false, false] rfl rfl (any_of HT_.out (by kernel_rfl)) (fun _ _ _ h => h) (Or.inl ⟨by rfl, ?_⟩) ?_ ?_
                              rotate_left
                              · intro w'
                                go_simp
                                with_reducible rfl
                              rotate_left
                              · simp only [Act.put, List.setIfInBounds_toArray, List.set_cons_zero, List.set_cons_succ, i64_w, i32_w]
                                rfl
                              refine pure_ (i := 10) (N := some 69) (v := ?_) (a' := ?_) #[true, true, true, true, true, true, true, true, true, true, true, true, false, false] rfl rfl (any_of HT_.out (by kernel_rfl)) (fun _ _ _ h => h) (Or.inl ⟨by rfl, ?_⟩) ?_ ?_
                              rotate_left
                              · intro w'
                                go_simp
                                with_reducible rfl
                              rotate_left
                              · simp only [Act.put, List.setIfInBounds_toArray, List.set_cons_zero, List.set_cons_succ, i64_w, i32_w]
                                rfl
                              exact norm_ (by simp only [putAll, Act.put, List.setIfInBounds_toArray, List.set_cons_zero, List.set_cons_succ]) (hCont (gb1014) _ ⟨hHeld, (by (with_reducible repeat (first | refine blk_drewN ?_ _ | refine blk_drew ?_ | refine blk_alloc ?_ _)); exact BK1004.out), (by (with_reducible repeat (first | refine blk_drewN ?_ _ | refine blk_drew ?_ | refine blk_alloc ?_ _)); exact BK1005.out), (by (with_reducible repeat (first | refine blk_drewN ?_ _ | refine blk_drew ?_ | refine blk_alloc ?_ _)); exact BK1006.out), (by (with_reducible repeat (first | refine blk_drewN ?_ _ | refine blk_drew ?_ | refine blk_alloc ?_ _)); exact BK1010.out), (by (with_reducible repeat (first | refine blk_drewN ?_ _ | refine blk_drew ?_ | refine blk_alloc ?_ _)); exact BK1014.out), GW1014.out, GE1014.out, NB1004_1014.out, NB1014_1004.out, NB1005_1014.out, NB1014_1005.out, NB1006_1014.out, NB1014_1006.out, NB1010_1014.out, NB1014_1010.out, (by repeat (first | (with_reducible first | exact HB.out | apply below_alloc | apply pw_below_drewN | apply below_drew1 | refine below_set ?_ GE1004.out | refine below_set ?_ GE1005.out | refine below_set ?_ GE1006.out | refine below_set ?_ GE1010.out | refine below_set ?_ GE1014.out) | exact HB.out))⟩)
                          rintro gb1014 w53 ⟨hS_, h0_, h1_, h2_, h3_, h4_, h5_, h6_, h7_, h8_, h9_, h10_, h11_, h12_, h13_, h14_, h15_⟩
                          have n0_ : Aside0 (w53.heap[gb1004]? = some (.cells #[.int .u64 x1005000_3, .int .u64 x1005001_3] 25 (0, 0))) := ⟨h0_⟩
                          have n1_ : Aside0 (w53.heap[gb1005]? = some (.cells #[.int .u64 0, .int .u64 0] 25 (0, 0))) := ⟨h1_⟩
                          have n2_ : Aside0 (w53.heap[gb1006]? = some (.cells #[.int .u64 x1007000_3, .int .u64 x1007001_3] 25 (0, 0))) := ⟨h2_⟩
                          have n3_ : Aside0 (w53.heap[gb1010]? = some (.cells #[.int .u64 t1007, .int .u64 t1008] 25 (0, 0))) := ⟨h3_⟩
                          have n4_ : Aside0 (w53.heap[gb1014]? = some (.cells #[.int .u64 0, .int .u64 0] 25 (0, 0))) := ⟨h4_⟩
                          have n5_ : Aside0 (w.heap.size ≤ gb1014) := ⟨h5_⟩
                          have n6_ : Aside0 (w.heap.size ≤ gb1014) := ⟨h6_⟩
                          have n7_ : Aside0 (gb1004 ≠ gb1014) := ⟨h7_⟩
                          have n8_ : Aside0 (gb1014 ≠ gb1004) := ⟨h8_⟩
                          have n9_ : Aside0 (gb1005 ≠ gb1014) := ⟨h9_⟩
                          have n10_ : Aside0 (gb1014 ≠ gb1005) := ⟨h10_⟩
                          have n11_ : Aside0 (gb1006 ≠ gb1014) := ⟨h11_⟩
                          have n12_ : Aside0 (gb1014 ≠ gb1006) := ⟨h12_⟩
                          have n13_ : Aside0 (gb1010 ≠ gb1014) := ⟨h13_⟩
                          have n14_ : Aside0 (gb1014 ≠ gb1010) := ⟨h14_⟩
                          have n15_ : Aside0 (Below w.heap.size w w53) := ⟨h15_⟩
                          clear BK1004
                          clear BK1005
                          clear BK1006
                          clear BK1010
                          clear HB
                          clear h0_ h1_ h2_ h3_ h4_ h5_ h6_ h7_ h8_ h9_ h10_ h11_ h12_ h13_ h14_ h15_
                          have BK1004 := n0_
                          have BK1005 := n1_
                          have BK1006 := n2_
                          have BK1010 := n3_
                          have BK1014 := n4_
                          have GW1014 := n5_
                          have GE1014 := n6_
                          have NB1004_1014 := n7_
                          have NB1014_1004 := n8_
                          have NB1005_1014 := n9_
                          have NB1014_1005 := n10_
                          have NB1006_1014 := n11_
                          have NB1014_1006 := n12_
                          have NB1010_1014 := n13_
                          have NB1014_1010 := n14_
                          have HB := n15_
                          clear n0_ n1_ n2_ n3_ n4_ n5_ n6_ n7_ n8_ n9_ n10_ n11_ n12_ n13_ n14_ n15_
                          have hHeld : w53.cell? ⟨gb1010, 0, none⟩ = some (.int .u64 t1007) ∧ w53.cell? ⟨gb1010, 1, none⟩ = some (.int .u64 t1008) := hS_
                          refine norm_ (a' := ?_) ?_ ?_
                          rotate_left
                          · simp only [putAll, Act.put, List.setIfInBounds_toArray, List.set_cons_zero, List.set_cons_succ]
                            rfl
                          refine one_ (i := 12) (N := none) #[true, true, true, true, true, true, true, true, true, true, true, true, true, false] rfl rfl (one_of HT_.out (by kernel_rfl)) (by decide) (fun K hK => ?_)
                          have hs54 : w53.cell? ⟨gb1014, 0, none⟩ = some (.int .u64 0) := (blk_cell BK1014.out 0).trans rfl
                          have hfs54 := blk_frozen BK1014.out 0
                          have hns54_0 := NB1004_1014.out
                          have hns54_1 := NB1005_1014.out
                          have hns54_2 := NB1006_1014.out
                          have hns54_3 := NB1010_1014.out
                          have hms54_0 := NB1014_1004.out
                          have hms54_1 := NB1014_1005.out
                          have hms54_2 := NB1014_1006.out
                          have hms54_3 := NB1014_1010.out
                          have hs55 : w53.cell? ⟨gb1014, 1, none⟩ = some (.int .u64 0) := (blk_cell BK1014.out 1).trans rfl
                          have hfs55 := blk_frozen BK1014.out 1
                          have hns55_0 := NB1004_1014.out
                          have hns55_1 := NB1005_1014.out
                          have hns55_2 := NB1006_1014.out
                          have hns55_3 := NB1010_1014.out
                          have hms55_0 := NB1014_1004.out
                          have hms55_1 := NB1014_1005.out
                          have hms55_2 := NB1014_1006.out
                          have hms55_3 := NB1014_1010.out
                          refine skip_ (w1 := ?_) (by rfl) rfl ?_ ?_
                          rotate_left
                          · go_simp
                            rfl
                          refine hK.out _ _ ⟨((cell_far (p := ⟨gb1014, _, none⟩) NB1010_1014.out _).trans (((cell_far (p := ⟨gb1014, _, none⟩) NB1010_1014.out _).trans (hHeld.1)))), ((cell_far (p := ⟨gb1014, _, none⟩) NB1010_1014.out _).trans (((cell_far (p := ⟨gb1014, _, none⟩) NB1010_1014.out _).trans (hHeld.2))))⟩ (fun hHeld => ?_)
                          clear hK K
                          refine pure_ (i := 13) (N := some 11) (v := ?_) (a' := ?_) #[true, true, true, true, true, true, true, true, true, true, true, true, true, true] rfl rfl (any_of HT_.out (by kernel_rfl)) (fun _ _ _ h => h) (Or.inl ⟨by rfl, ?_⟩) ?_ ?_
                          rotate_left
                          · intro w'
                            go_simp
                            with_reducible rfl
                          rotate_left
                          · simp only [Act.put, List.setIfInBounds_toArray, List.set_cons_zero, List.set_cons_succ, i64_w, i32_w]
                            rfl
                          refine done_ (done_of HT_.out (by kernel_rfl)) ?_
                          have hnb56 := NB1014_1004.out
                          have hnc56 := NB1004_1014.out
                          have hnb57 := NB1014_1005.out
                          have hnc57 := NB1005_1014.out
                          have hnb58 := NB1014_1006.out
                          have hnc58 := NB1006_1014.out
                          have hnb59 := NB1014_1010.out
                          have hnc59 := NB1010_1014.out
                          have hcz60_0 : w53.cell? ⟨gb1014, 0, none⟩ = some (.int .u64 0) := (blk_cell BK1014.out 0).trans rfl
                          have hcz60_1 : w53.cell? ⟨gb1014, 1, none⟩ = some (.int .u64 0) := (blk_cell BK1014.out 1).trans rfl
                          have hfz60_0 := blk_frozen BK1014.out 0
                          have hfz60_1 := blk_frozen BK1014.out 1
                          have hcz61_0 : w53.cell? ⟨gb1006, 0, none⟩ = some (.int .u64 x1007000_3) := (blk_cell BK1006.out 0).trans rfl
                          have hcz61_1 : w53.cell? ⟨gb1006, 1, none⟩ = some (.int .u64 x1007001_3) := (blk_cell BK1006.out 1).trans rfl
                          have hfz61_0 := blk_frozen BK1006.out 0
                          have hfz61_1 := blk_frozen BK1006.out 1
                          try go_wp2
                          go_roundg k3
                          case measure => have := HK1.out; have := HJ17.out; have := HK3.out; omega
                          case rel => exact ⟨(wrap64 (x7_3 + 1)), (x1005000_3), (x1005001_3), (t1011), (t1012), (by first | rfl | (simp; done) | (simp [*]; done)), H', ⟨by have := HK1.out; have := HJ17.out; have := HK3.out; omega⟩, ⟨by (with_reducible repeat (first | refine blk_drewN ?_ _ | refine blk_drew ?_ | refine blk_alloc ?_ _)); refine blk_far ?_ NB1004_1006.out _; (with_reducible repeat (first | refine blk_drewN ?_ _ | refine blk_drew ?_ | refine blk_alloc ?_ _)); refine blk_far ?_ NB1004_1006.out _; (with_reducible repeat (first | refine blk_drewN ?_ _ | refine blk_drew ?_ | refine blk_alloc ?_ _)); refine blk_far ?_ NB1004_1014.out _; (with_reducible repeat (first | refine blk_drewN ?_ _ | refine blk_drew ?_ | refine blk_alloc ?_ _)); refine blk_far ?_ NB1004_1014.out _; (with_reducible repeat (first | refine blk_drewN ?_ _ | refine blk_drew ?_ | refine blk_alloc ?_ _)); exact BK1004.out⟩, ⟨by (with_reducible repeat (first | refine blk_drewN ?_ _ | refine blk_drew ?_ | refine blk_alloc ?_ _)); refine blk_far ?_ NB1005_1006.out _; (with_reducible repeat (first | refine blk_drewN ?_ _ | refine blk_drew ?_ | refine blk_alloc ?_ _)); refine blk_far ?_ NB1005_1006.out _; (with_reducible repeat (first | refine blk_drewN ?_ _ | refine blk_drew ?_ | refine blk_alloc ?_ _)); refine blk_far ?_ NB1005_1014.out _; (with_reducible repeat (first | refine blk_drewN ?_ _ | refine blk_drew ?_ | refine blk_alloc ?_ _)); refine blk_far ?_ NB1005_1014.out _; (with_reducible repeat (first | refine blk_drewN ?_ _ | refine blk_drew ?_ | refine blk_alloc ?_ _)); exact BK1005.out⟩, ⟨by (with_reducible repeat (first | refine blk_drewN ?_ _ | refine blk_drew ?_ | refine blk_alloc ?_ _)); refine blk_put (cs := #[.int .u64 t1011, .int .u64 x1007001_3]) ?_ 1 _ rfl; (with_reducible repeat (first | refine blk_drewN ?_ _ | refine blk_drew ?_ | refine blk_alloc ?_ _)); refine blk_put (cs := #[.int .u64 x1007000_3, .int .u64 x1007001_3]) ?_ 0 _ rfl; (with_reducible repeat (first | refine blk_drewN ?_ _ | refine blk_drew ?_ | refine blk_alloc ?_ _)); refine blk_far ?_ NB1006_1014.out _; (with_reducible repeat (first | refine blk_drewN ?_ _ | refine blk_drew ?_ | refine blk_alloc ?_ _)); refine blk_far ?_ NB1006_1014.out _; (with_reducible repeat (first | refine blk_drewN ?_ _ | refine blk_drew ?_ | refine blk_alloc ?_ _)); exact BK1006.out⟩, ⟨by repeat (first | (with_reducible first | exact HB.out | apply below_alloc | apply pw_below_drewN | apply below_drew1 | refine below_set ?_ GE1004.out | refine below_set ?_ GE1005.out | refine below_set ?_ GE1006.out | refine below_set ?_ GE1010.out | refine below_set ?_ GE1014.out) | exact HB.out)⟩⟩
                        · rw [if_neg c39] at H
                          have c39b0 : (t1013 == 0) = false := beq_eq_false_iff_ne.mpr c39
                          have c39b1 : (t1013 != 0) = true := bne_iff_ne.mpr c39
                          simp only [Option.some.injEq, Prod.mk.injEq] at H
                          obtain ⟨rfl, rfl, rfl⟩ := H
                          have hnb62 := NB1006_1004.out
                          have hnc62 := NB1004_1006.out
                          have hnb63 := NB1006_1005.out
                          have hnc63 := NB1005_1006.out
                          have hcz64_0 : wr.cell? ⟨gb1006, 0, none⟩ = some (.int .u64 x1007000_3) := (blk_cell BK1006.out 0).trans rfl
                          have hcz64_1 : wr.cell? ⟨gb1006, 1, none⟩ = some (.int .u64 x1007001_3) := (blk_cell BK1006.out 1).trans rfl
                          have hfz64_0 := blk_frozen BK1006.out 0
                          have hfz64_1 := blk_frozen BK1006.out 1
                          try go_wp2_with (first | ((with_reducible refine gate_callee (f := 57) rfl ?_); refine goesL_ (some 53) rfl rfl Try.func57 (by kernel_rfl) rfl #[.agg #[.int .u64 x1007000_3, .int .u64 x1007001_3], .int .u64 10] rfl (by (try simp only [List.map_toArray, List.map_cons, List.map_nil]); first | done | rfl | (simp only [List.length_drop, List.length_take]; rfl)) ?_; (with_reducible refine (paymasterref01_Times.calls k3 x1007000_3 x1007001_3 10 t1007 t1008 t1009 _ A34.out).mono ?_); rintro e w65 ⟨rfl, hb⟩; refine ⟨_, rfl, ?_⟩; have n0_ := Aside0.mk (blk_below (g := gb1004) (o := .cells #[.int .u64 x1005000_3, .int .u64 x1005001_3] 25 (0, 0)) (by (with_reducible repeat (first | refine blk_drewN ?_ _ | refine blk_drew ?_ | refine blk_alloc ?_ _)); exact BK1004.out) hb); have n1_ := Aside0.mk (blk_below (g := gb1005) (o := .cells #[.int .u64 0, .int .u64 0] 25 (0, 0)) (by (with_reducible repeat (first | refine blk_drewN ?_ _ | refine blk_drew ?_ | refine blk_alloc ?_ _)); exact BK1005.out) hb); have n2_ := Aside0.mk (blk_below (g := gb1006) (o := .cells #[.int .u64 x1007000_3, .int .u64 x1007001_3] 25 (0, 0)) (by (with_reducible repeat (first | refine blk_drewN ?_ _ | refine blk_drew ?_ | refine blk_alloc ?_ _)); exact BK1006.out) hb); have n3_ := Aside0.mk (below_step (by repeat (first | (with_reducible first | exact HB.out | apply below_alloc | apply pw_below_drewN | apply below_drew1 | refine below_set ?_ GE1004.out | refine below_set ?_ GE1005.out | refine below_set ?_ GE1006.out) | exact HB.out)) hb); clear BK1004; clear BK1005; clear BK1006; clear HB; have BK1004 := n0_; have BK1005 := n1_; have BK1006 := n2_; have HB := n3_; clear n0_ n1_ n2_ n3_; (try clear hb); (try clear hb2); (try clear hk); (try clear hi)) | ((with_reducible refine gate_dst (N := 8) rfl ?_); (try (refine gate_guard (by rfl) ?_; dsimp only)); refine box_event ?hg (N := 8) ?hd (cs := #[.int .u64 0, .int .u64 0]) (t := 25) ?hr ?_; (case hd => rfl); (case hg => rfl); (case hr => first | (go_simp; done) | (go_simp; rfl)); intro gb1010 hg w66 hbox hb; have n0_ := Aside0.mk (blk_below (g := gb1004) (o := .cells #[.int .u64 x1005000_3, .int .u64 x1005001_3] 25 (0, 0)) (by (with_reducible repeat (first | refine blk_drewN ?_ _ | refine blk_drew ?_ | refine blk_alloc ?_ _)); exact BK1004.out) hb); have n1_ := Aside0.mk (blk_below (g := gb1005) (o := .cells #[.int .u64 0, .int .u64 0] 25 (0, 0)) (by (with_reducible repeat (first | refine blk_drewN ?_ _ | refine blk_drew ?_ | refine blk_alloc ?_ _)); exact BK1005.out) hb); have n2_ := Aside0.mk (blk_below (g := gb1006) (o := .cells #[.int .u64 x1007000_3, .int .u64 x1007001_3] 25 (0, 0)) (by (with_reducible repeat (first | refine blk_drewN ?_ _ | refine blk_drew ?_ | refine blk_alloc ?_ _)); exact BK1006.out) hb); have n3_ := Aside0.mk (below_step (by repeat (first | (with_reducible first | exact HB.out | apply below_alloc | apply pw_below_drewN | apply below_drew1 | refine below_set ?_ GE1004.out | refine below_set ?_ GE1005.out | refine below_set ?_ GE1006.out) | exact HB.out)) hb); have n4_ := Aside0.mk (hbox); have n5_ := Aside0.mk ((by rw [hg]; exact (below_size (by repeat (first | (with_reducible first | exact HB.out | apply below_alloc | apply pw_below_drewN | apply below_drew1 | refine below_set ?_ GE1004.out | refine below_set ?_ GE1005.out | refine below_set ?_ GE1006.out) | exact HB.out))) : w.heap.size ≤ gb1010)); have n6_ := Aside0.mk ((by rw [hg]; exact (below_size (by repeat (first | (with_reducible first | exact HB.out | apply below_alloc | apply pw_below_drewN | apply below_drew1 | refine below_set ?_ GE1004.out | refine below_set ?_ GE1005.out | refine below_set ?_ GE1006.out) | exact HB.out))) : w.heap.size ≤ gb1010)); have n7_ := Aside0.mk ((by rw [hg]; exact Nat.ne_of_lt (blk_lt (g := gb1004) (o := .cells #[.int .u64 x1005000_3, .int .u64 x1005001_3] 25 (0, 0)) (by (with_reducible repeat (first | refine blk_drewN ?_ _ | refine blk_drew ?_ | refine blk_alloc ?_ _)); exact BK1004.out)) : gb1004 ≠ gb1010)); have n8_ := Aside0.mk ((by rw [hg]; exact Nat.ne_of_gt (blk_lt (g := gb1004) (o := .cells #[.int .u64 x1005000_3, .int .u64 x1005001_3] 25 (0, 0)) (by (with_reducible repeat (first | refine blk_drewN ?_ _ | refine blk_drew ?_ | refine blk_alloc ?_ _)); exact BK1004.out)) : gb1010 ≠ gb1004)); have n9_ := Aside0.mk ((by rw [hg]; exact Nat.ne_of_lt (blk_lt (g := gb1005) (o := .cells #[.int .u64 0, .int .u64 0] 25 (0, 0)) (by (with_reducible repeat (first | refine blk_drewN ?_ _ | refine blk_drew ?_ | refine blk_alloc ?_ _)); exact BK1005.out)) : gb1005 ≠ gb1010)); have n10_ := Aside0.mk ((by rw [hg]; exact Nat.ne_of_gt (blk_lt (g := gb1005) (o := .cells #[.int .u64 0, .int .u64 0] 25 (0, 0)) (by (with_reducible repeat (first | refine blk_drewN ?_ _ | refine blk_drew ?_ | refine blk_alloc ?_ _)); exact BK1005.out)) : gb1010 ≠ gb1005)); have n11_ := Aside0.mk ((by rw [hg]; exact Nat.ne_of_lt (blk_lt (g := gb1006) (o := .cells #[.int .u64 x1007000_3, .int .u64 x1007001_3] 25 (0, 0)) (by (with_reducible repeat (first | refine blk_drewN ?_ _ | refine blk_drew ?_ | refine blk_alloc ?_ _)); exact BK1006.out)) : gb1006 ≠ gb1010)); have n12_ := Aside0.mk ((by rw [hg]; exact Nat.ne_of_gt (blk_lt (g := gb1006) (o := .cells #[.int .u64 x1007000_3, .int .u64 x1007001_3] 25 (0, 0)) (by (with_reducible repeat (first | refine blk_drewN ?_ _ | refine blk_drew ?_ | refine blk_alloc ?_ _)); exact BK1006.out)) : gb1010 ≠ gb1006)); clear BK1004; clear BK1005; clear BK1006; clear HB; have BK1004 := n0_; have BK1005 := n1_; have BK1006 := n2_; have HB := n3_; have BK1010 := n4_; have GW1010 := n5_; have GE1010 := n6_; have NB1004_1010 := n7_; have NB1010_1004 := n8_; have NB1005_1010 := n9_; have NB1010_1005 := n10_; have NB1006_1010 := n11_; have NB1010_1006 := n12_; clear n0_ n1_ n2_ n3_ n4_ n5_ n6_ n7_ n8_ n9_ n10_ n11_ n12_; clear hb hbox hg; have hnb67 := NB1010_1004.out; have hnc67 := NB1004_1010.out; have hnb68 := NB1010_1005.out; have hnc68 := NB1005_1010.out; have hnb69 := NB1010_1006.out; have hnc69 := NB1006_1010.out; have hcz70_0 : w66.cell? ⟨gb1010, 0, none⟩ = some (.int .u64 0) := (blk_cell BK1010.out 0).trans rfl; have hcz70_1 : w66.cell? ⟨gb1010, 1, none⟩ = some (.int .u64 0) := (blk_cell BK1010.out 1).trans rfl; have hfz70_0 := blk_frozen BK1010.out 0; have hfz70_1 := blk_frozen BK1010.out 1))
                          have n0_ : Aside0 (((w66.setCell ⟨gb1010, 0, none⟩ (.int .u64 t1007)).setCell ⟨gb1010, 1, none⟩ (.int .u64 t1008)).heap[gb1004]? = some (.cells #[.int .u64 x1005000_3, .int .u64 x1005001_3] 25 (0, 0))) := ⟨by (with_reducible repeat (first | refine blk_drewN ?_ _ | refine blk_drew ?_ | refine blk_alloc ?_ _)); refine blk_far ?_ NB1004_1010.out _; (with_reducible repeat (first | refine blk_drewN ?_ _ | refine blk_drew ?_ | refine blk_alloc ?_ _)); refine blk_far ?_ NB1004_1010.out _; (with_reducible repeat (first | refine blk_drewN ?_ _ | refine blk_drew ?_ | refine blk_alloc ?_ _)); exact BK1004.out⟩
                          have n1_ : Aside0 (((w66.setCell ⟨gb1010, 0, none⟩ (.int .u64 t1007)).setCell ⟨gb1010, 1, none⟩ (.int .u64 t1008)).heap[gb1005]? = some (.cells #[.int .u64 0, .int .u64 0] 25 (0, 0))) := ⟨by (with_reducible repeat (first | refine blk_drewN ?_ _ | refine blk_drew ?_ | refine blk_alloc ?_ _)); refine blk_far ?_ NB1005_1010.out _; (with_reducible repeat (first | refine blk_drewN ?_ _ | refine blk_drew ?_ | refine blk_alloc ?_ _)); refine blk_far ?_ NB1005_1010.out _; (with_reducible repeat (first | refine blk_drewN ?_ _ | refine blk_drew ?_ | refine blk_alloc ?_ _)); exact BK1005.out⟩
                          have n2_ : Aside0 (((w66.setCell ⟨gb1010, 0, none⟩ (.int .u64 t1007)).setCell ⟨gb1010, 1, none⟩ (.int .u64 t1008)).heap[gb1006]? = some (.cells #[.int .u64 x1007000_3, .int .u64 x1007001_3] 25 (0, 0))) := ⟨by (with_reducible repeat (first | refine blk_drewN ?_ _ | refine blk_drew ?_ | refine blk_alloc ?_ _)); refine blk_far ?_ NB1006_1010.out _; (with_reducible repeat (first | refine blk_drewN ?_ _ | refine blk_drew ?_ | refine blk_alloc ?_ _)); refine blk_far ?_ NB1006_1010.out _; (with_reducible repeat (first | refine blk_drewN ?_ _ | refine blk_drew ?_ | refine blk_alloc ?_ _)); exact BK1006.out⟩
                          have n3_ : Aside0 (((w66.setCell ⟨gb1010, 0, none⟩ (.int .u64 t1007)).setCell ⟨gb1010, 1, none⟩ (.int .u64 t1008)).heap[gb1010]? = some (.cells #[.int .u64 t1007, .int .u64 t1008] 25 (0, 0))) := ⟨by (with_reducible repeat (first | refine blk_drewN ?_ _ | refine blk_drew ?_ | refine blk_alloc ?_ _)); refine blk_put (cs := #[.int .u64 t1007, .int .u64 0]) ?_ 1 _ rfl; (with_reducible repeat (first | refine blk_drewN ?_ _ | refine blk_drew ?_ | refine blk_alloc ?_ _)); refine blk_put (cs := #[.int .u64 0, .int .u64 0]) ?_ 0 _ rfl; (with_reducible repeat (first | refine blk_drewN ?_ _ | refine blk_drew ?_ | refine blk_alloc ?_ _)); exact BK1010.out⟩
                          have n4_ : Aside0 (Below w.heap.size w ((w66.setCell ⟨gb1010, 0, none⟩ (.int .u64 t1007)).setCell ⟨gb1010, 1, none⟩ (.int .u64 t1008))) := ⟨by repeat (first | (with_reducible first | exact HB.out | apply below_alloc | apply pw_below_drewN | apply below_drew1 | refine below_set ?_ GE1004.out | refine below_set ?_ GE1005.out | refine below_set ?_ GE1006.out | refine below_set ?_ GE1010.out) | exact HB.out)⟩
                          (try clear BK1004)
                          (try clear BK1005)
                          (try clear BK1006)
                          (try clear BK1010)
                          (try clear HB)
                          generalize ((w66.setCell ⟨gb1010, 0, none⟩ (.int .u64 t1007)).setCell ⟨gb1010, 1, none⟩ (.int .u64 t1008)) = w71 at n0_ n1_ n2_ n3_ n4_ ⊢
                          have BK1004 := n0_
                          have BK1005 := n1_
                          have BK1006 := n2_
                          have BK1010 := n3_
                          have HB := n4_
                          clear n0_ n1_ n2_ n3_ n4_
                          have n0_ := Aside0.mk (blk_drew BK1004.out)
                          have n1_ := Aside0.mk (blk_drew BK1005.out)
                          have n2_ := Aside0.mk (blk_drew BK1006.out)
                          have n3_ := Aside0.mk (blk_drew BK1010.out)
                          have n4_ := Aside0.mk (below_drew1 HB.out)
                          clear BK1004
                          clear BK1005
                          clear BK1006
                          clear BK1010
                          clear HB
                          have BK1004 := n0_
                          have BK1005 := n1_
                          have BK1006 := n2_
                          have BK1010 := n3_
                          have HB := n4_
                          clear n0_ n1_ n2_ n3_ n4_
                          have p37 : 0 ≤ (x7_3 : Int) := of_decide_eq_true (by first | (with_reducible assumption) | assumption)
                          have q37 : x7_3 < (a0.size : Int) := of_decide_eq_true (by first | (with_reducible assumption) | assumption)
                          have hx37 := bt_at a0 x7_3
                          replace p37 := eq_true p37
                          replace q37 := eq_true q37
                          refine start_ (n := 14) (S := fun w' => w'.cell? ⟨gb1010, 0, none⟩ = some (.int .u64 t1007) ∧ w'.cell? ⟨gb1010, 1, none⟩ = some (.int .u64 t1008)) (ds := []) #[false, false, false, false, false, false, false, false, false, false, false, false, false, false] (by kernel_rfl) rfl rfl ⟨(blk_cell BK1010.out 0).trans rfl, (blk_cell BK1010.out 1).trans rfl⟩ (fun hHeld => ?_); refine with_tabW paymasterref02_Parse.tab16 paymasterref02_Parse.bits16 (fun HT_ HW_ => ?_)
                          generalize w71.drew = w72 at BK1004 BK1005 BK1006 BK1010 HB hHeld ⊢
                          refine pure_ (i := 1) (N := some 61) (v := ?_) (a' := ?_) #[false, true, false, false, false, false, false, false, false, false, false, false, false, false] rfl rfl (any_of HT_.out (by kernel_rfl)) (fun _ _ _ h => h) (Or.inl ⟨by rfl, ?_⟩) ?_ ?_
                          rotate_left
                          · intro w'
                            go_simp
                            with_reducible rfl
                          rotate_left
                          · simp only [Act.put, List.setIfInBounds_toArray, List.set_cons_zero, List.set_cons_succ, i64_w, i32_w]
                            rfl
                          refine pure_ (i := 2) (N := some 62) (v := ?_) (a' := ?_) #[false, true, true, false, false, false, false, false, false, false, false, false, false, false] rfl rfl (any_of HT_.out (by kernel_rfl)) (fun _ _ _ h => h) (Or.inl ⟨by rfl, ?_⟩) ?_ ?_
                          rotate_left
                          · intro w'
                            go_simp
                            with_reducible rfl
                          rotate_left
                          · simp only [Act.put, List.setIfInBounds_toArray, List.set_cons_zero, List.set_cons_succ, i64_w, i32_w]
                            rfl
                          refine take_ (i := 0) (N := some 60) (v := ?_) (a' := ?_) #[true, true, true, false, false, false, false, false, false, false, false, false, false, false] rfl rfl (take_ofW HT_.out HW_.out (by kernel_rfl)) (fun _ _ _ h => h) (Or.inl ⟨by rfl, ?_⟩) hHeld ?_ ?_
                          rotate_left
                          · rintro w' ⟨s0, s1⟩
                            go_simp
                            with_reducible rfl
                          rotate_left
                          · simp only [Act.put, List.setIfInBounds_toArray, List.set_cons_zero, List.set_cons_succ, i64_w, i32_w]
                            rfl
                          refine take_ (i := 3) (N := some 63) (v := ?_) (a' := ?_) #[true, true, true, true, false, false, false, false, false, false, false, false, false, false] rfl rfl (take_ofW HT_.out HW_.out (by kernel_rfl)) (fun _ _ _ h => h) (Or.inl ⟨by rfl, ?_⟩) hHeld ?_ ?_
                          rotate_left
                          · rintro w' ⟨s0, s1⟩
                            go_simp
                            with_reducible rfl
                          rotate_left
                          · simp only [Act.put, List.setIfInBounds_toArray, List.set_cons_zero, List.set_cons_succ, i64_w, i32_w]
                            rfl
                          refine pure_ (i := 4) (N := some 64) (v := ?_) (a' := ?_) #[true, true, true, true, true, false, false, false, false, false, false, false, false, false] rfl rfl (any_of HT_.out (by kernel_rfl)) (fun _ _ _ h => h) (Or.inl ⟨by rfl, ?_⟩) ?_ ?_
                          rotate_left
                          · intro w'
                            go_simp
                            with_reducible rfl
                          rotate_left
                          · simp only [Act.put, List.setIfInBounds_toArray, List.set_cons_zero, List.set_cons_succ, i64_w, i32_w]
                            rfl
                          refine pure_ (i := 5) (N := some 65) (v := ?_) (a' := ?_) #[true, true, true, true, true, true, false, false, false, false, false, false, false, false] rfl rfl (any_of HT_.out (by kernel_rfl)) (fun _ _ _ h => h) (Or.inl ⟨by rfl, ?_⟩) ?_ ?_
                          rotate_left
                          · intro w'
                            go_simp
                            with_reducible rfl
                          rotate_left
                          · simp only [Act.put, List.setIfInBounds_toArray, List.set_cons_zero, List.set_cons_succ, i64_w, i32_w]
                            rfl
                          refine pure_ (i := 6) (N := some 66) (v := ?_) (a' := ?_) #[true, true, true, true, true, true, true, false, false, false, false, false, false, false] rfl rfl (any_of HT_.out (by kernel_rfl)) (fun _ _ _ h => h) (Or.inl ⟨by rfl, ?_⟩) ?_ ?_
                          rotate_left
                          · intro w'
                            go_simp
                            with_reducible rfl
                          rotate_left
                          · simp only [Act.put, List.setIfInBounds_toArray, List.set_cons_zero, List.set_cons_succ, i64_w, i32_w]
                            rfl
                          refine join_ (σ := Nat) 2 #[true, true, true, true, true, true, true, true, true, true, true, true, false, false] (fun s_ => [(67, .tuple #[.agg #[.int .u64 t1011, .int .u64 t1012], .int .i64 t1013]), (10, .pointer (some ⟨s_, 0, none⟩)), (59, .tuple #[.agg #[.int .u64 t1011, .int .u64 t1012], .int .i64 t1013]), (68, .agg #[.int .u64 t1011, .int .u64 t1012]), (69, .int .i64 t1013)]) (fun s_ w' => (w'.cell? ⟨gb1010, 0, none⟩ = some (.int .u64 t1007) ∧ w'.cell? ⟨gb1010, 1, none⟩ = some (.int .u64 t1008)) ∧ (w'.heap[gb1004]? = some (.cells #[.int .u64 x1005000_3, .int .u64 x1005001_3] 25 (0, 0))) ∧ (w'.heap[gb1005]? = some (.cells #[.int .u64 0, .int .u64 0] 25 (0, 0))) ∧ (w'.heap[gb1006]? = some (.cells #[.int .u64 x1007000_3, .int .u64 x1007001_3] 25 (0, 0))) ∧ (w'.heap[gb1010]? = some (.cells #[.int .u64 t1007, .int .u64 t1008] 25 (0, 0))) ∧ (w'.heap[s_]? = some (.cells #[.int .u64 0, .int .u64 0] 25 (0, 0))) ∧ (w.heap.size ≤ s_) ∧ (w.heap.size ≤ s_) ∧ (gb1004 ≠ s_) ∧ (s_ ≠ gb1004) ∧ (gb1005 ≠ s_) ∧ (s_ ≠ gb1005) ∧ (gb1006 ≠ s_) ∧ (s_ ≠ gb1006) ∧ (gb1010 ≠ s_) ∧ (s_ ≠ gb1010) ∧ (Below w.heap.size w w')) ?_ ?_
                          rotate_left
                          · intro hCont
                            refine two_ (i := 7) (j := 11) (Ni := some 67) (Nj := some 10) #[true, true, true, true, true, true, true, true, false, false, false, false, false, false] #[true, true, true, true, true, true, true, false, false, false, false, true, false, false] rfl rfl rfl rfl (two_of HT_.out (by kernel_rfl)) (by decide) (by decide) (fun K hK => ?_) (fun K hK => ?_)
                            · skip
                              refine goes_ Try.func46 (by kernel_rfl) rfl #[.agg #[.int .u64 t1007, .int .u64 t1008], .agg #[.int .u64 0, .int .u64 (((bt a0 x7_3) - 48) % 256)]] (by rfl) rfl rfl (by (try simp only [List.map_toArray, List.map_cons, List.map_nil]); first | done | rfl | (simp only [List.length_drop, List.length_take]; rfl)) ?_
                              with_reducible refine (paymasterref01_Add.calls k3 t1007 t1008 0 (((bt a0 x7_3) - 48) % 256) t1011 t1012 t1013 _ A38.out).mono ?_
                              rintro e w73 ⟨rfl, hb⟩
                              refine ⟨_, rfl, ?_⟩
                              have n0_ := Aside0.mk (blk_below (g := gb1004) (o := .cells #[.int .u64 x1005000_3, .int .u64 x1005001_3] 25 (0, 0)) (by (with_reducible repeat (first | refine blk_drewN ?_ _ | refine blk_drew ?_ | refine blk_alloc ?_ _)); exact BK1004.out) hb)
                              have n1_ := Aside0.mk (blk_below (g := gb1005) (o := .cells #[.int .u64 0, .int .u64 0] 25 (0, 0)) (by (with_reducible repeat (first | refine blk_drewN ?_ _ | refine blk_drew ?_ | refine blk_alloc ?_ _)); exact BK1005.out) hb)
                              have n2_ := Aside0.mk (blk_below (g := gb1006) (o := .cells #[.int .u64 x1007000_3, .int .u64 x1007001_3] 25 (0, 0)) (by (with_reducible repeat (first | refine blk_drewN ?_ _ | refine blk_drew ?_ | refine blk_alloc ?_ _)); exact BK1006.out) hb)
                              have n3_ := Aside0.mk (blk_below (g := gb1010) (o := .cells #[.int .u64 t1007, .int .u64 t1008] 25 (0, 0)) (by (with_reducible repeat (first | refine blk_drewN ?_ _ | refine blk_drew ?_ | refine blk_alloc ?_ _)); exact BK1010.out) hb)
                              have n4_ := Aside0.mk (below_step (by repeat (first | (with_reducible first | exact HB.out | apply below_alloc | apply pw_below_drewN | apply below_drew1 | refine below_set ?_ GE1004.out | refine below_set ?_ GE1005.out | refine below_set ?_ GE1006.out | refine below_set ?_ GE1010.out) | exact HB.out)) hb)
                              clear BK1004
                              clear BK1005
                              clear BK1006
                              clear BK1010
                              clear HB
                              have BK1004 := n0_
                              have BK1005 := n1_
                              have BK1006 := n2_
                              have BK1010 := n3_
                              have HB := n4_
                              clear n0_ n1_ n2_ n3_ n4_
                              (try clear hb)
                              (try clear hb2)
                              (try clear hk)
                              (try clear hi)
                              refine hK.out _ _ ⟨(blk_cell BK1010.out 0).trans rfl, (blk_cell BK1010.out 1).trans rfl⟩ (fun hHeld => ?_)
                              clear hK K
                              refine norm_ (a' := ?_) ?_ ?_
                              rotate_left
                              · show Act.put _ (some 67) _ = _
                                simp only [Act.put, List.setIfInBounds_toArray, List.set_cons_zero, List.set_cons_succ, i64_w, i32_w]
                                rfl
                              refine pure_ (i := 8) (N := some 59) (v := ?_) (a' := ?_) #[true, true, true, true, true, true, true, true, true, false, false, false, false, false] rfl rfl (any_of HT_.out (by kernel_rfl)) (fun _ _ _ h => h) (Or.inl ⟨by rfl, ?_⟩) ?_ ?_
                              rotate_left
                              · intro w'
                                go_simp
                                with_reducible rfl
                              rotate_left
                              · simp only [Act.put, List.setIfInBounds_toArray, List.set_cons_zero, List.set_cons_succ, i64_w, i32_w]
                                rfl
                              refine pure_ (i := 9) (N := some 68) (v := ?_) (a' := ?_) #[true, true, true, true, true, true, true, true, true, true, false, false, false, false] rfl rfl (any_of HT_.out (by kernel_rfl)) (fun _ _ _ h => h) (Or.inl ⟨by rfl, ?_⟩) ?_ ?_
                              rotate_left
                              · intro w'
                                go_simp
                                with_reducible rfl
                              rotate_left
                              · simp only [Act.put, List.setIfInBounds_toArray, List.set_cons_zero, List.set_cons_succ, i64_w, i32_w]
                                rfl
                              refine pure_ (i := 10) (N := some 69) (v := ?_) (a' := ?_) #[true, true, true, true, true, true, true, true, true, true, true, false, false, false] rfl rfl (any_of HT_.out (by kernel_rfl)) (fun _ _ _ h => h) (Or.inl ⟨by rfl, ?_⟩) ?_ ?_
                              rotate_left
                              · intro w'
                                go_simp
                                with_reducible rfl
                              rotate_left
                              · simp only [Act.put, List.setIfInBounds_toArray, List.set_cons_zero, List.set_cons_succ, i64_w, i32_w]
                                rfl
                              refine one_ (i := 11) (N := some 10) #[true, true, true, true, true, true, true, true, true, true, true, true, false, false] rfl rfl (one_of HT_.out (by kernel_rfl)) (by decide) (fun K hK => ?_)
                              refine box_step ?hg (N := 10) ?hd (cs := #[.int .u64 0, .int .u64 0]) (t := 25) ?hr ?_; (case hd => rfl); (case hg => rfl); (case hr => first | (go_simp; done) | (go_simp; rfl))
                              intro gb1014 hg w74 hbox hb
                              have n0_ := Aside0.mk (blk_below (g := gb1004) (o := .cells #[.int .u64 x1005000_3, .int .u64 x1005001_3] 25 (0, 0)) (by (with_reducible repeat (first | refine blk_drewN ?_ _ | refine blk_drew ?_ | refine blk_alloc ?_ _)); exact BK1004.out) hb)
                              have n1_ := Aside0.mk (blk_below (g := gb1005) (o := .cells #[.int .u64 0, .int .u64 0] 25 (0, 0)) (by (with_reducible repeat (first | refine blk_drewN ?_ _ | refine blk_drew ?_ | refine blk_alloc ?_ _)); exact BK1005.out) hb)
                              have n2_ := Aside0.mk (blk_below (g := gb1006) (o := .cells #[.int .u64 x1007000_3, .int .u64 x1007001_3] 25 (0, 0)) (by (with_reducible repeat (first | refine blk_drewN ?_ _ | refine blk_drew ?_ | refine blk_alloc ?_ _)); exact BK1006.out) hb)
                              have n3_ := Aside0.mk (blk_below (g := gb1010) (o := .cells #[.int .u64 t1007, .int .u64 t1008] 25 (0, 0)) (by (with_reducible repeat (first | refine blk_drewN ?_ _ | refine blk_drew ?_ | refine blk_alloc ?_ _)); exact BK1010.out) hb)
                              have n4_ := Aside0.mk (below_step (by repeat (first | (with_reducible first | exact HB.out | apply below_alloc | apply pw_below_drewN | apply below_drew1 | refine below_set ?_ GE1004.out | refine below_set ?_ GE1005.out | refine below_set ?_ GE1006.out | refine below_set ?_ GE1010.out) | exact HB.out)) hb)
                              have n5_ := Aside0.mk (hbox)
                              have n6_ := Aside0.mk ((by rw [hg]; exact (below_size (by repeat (first | (with_reducible first | exact HB.out | apply below_alloc | apply pw_below_drewN | apply below_drew1 | refine below_set ?_ GE1004.out | refine below_set ?_ GE1005.out | refine below_set ?_ GE1006.out | refine below_set ?_ GE1010.out) | exact HB.out))) : w.heap.size ≤ gb1014))
                              have n7_ := Aside0.mk ((by rw [hg]; exact (below_size (by repeat (first | (with_reducible first | exact HB.out | apply below_alloc | apply pw_below_drewN | apply below_drew1 | refine below_set ?_ GE1004.out | refine below_set ?_ GE1005.out | refine below_set ?_ GE1006.out | refine below_set ?_ GE1010.out) | exact HB.out))) : w.heap.size ≤ gb1014))
                              have n8_ := Aside0.mk ((by rw [hg]; exact Nat.ne_of_lt (blk_lt (g := gb1004) (o := .cells #[.int .u64 x1005000_3, .int .u64 x1005001_3] 25 (0, 0)) (by (with_reducible repeat (first | refine blk_drewN ?_ _ | refine blk_drew ?_ | refine blk_alloc ?_ _)); exact BK1004.out)) : gb1004 ≠ gb1014))
                              have n9_ := Aside0.mk ((by rw [hg]; exact Nat.ne_of_gt (blk_lt (g := gb1004) (o := .cells #[.int .u64 x1005000_3, .int .u64 x1005001_3] 25 (0, 0)) (by (with_reducible repeat (first | refine blk_drewN ?_ _ | refine blk_drew ?_ | refine blk_alloc ?_ _)); exact BK1004.out)) : gb1014 ≠ gb1004))
                              have n10_ := Aside0.mk ((by rw [hg]; exact Nat.ne_of_lt (blk_lt (g := gb1005) (o := .cells #[.int .u64 0, .int .u64 0] 25 (0, 0)) (by (with_reducible repeat (first | refine blk_drewN ?_ _ | refine blk_drew ?_ | refine blk_alloc ?_ _)); exact BK1005.out)) : gb1005 ≠ gb1014))
                              have n11_ := Aside0.mk ((by rw [hg]; exact Nat.ne_of_gt (blk_lt (g := gb1005) (o := .cells #[.int .u64 0, .int .u64 0] 25 (0, 0)) (by (with_reducible repeat (first | refine blk_drewN ?_ _ | refine blk_drew ?_ | refine blk_alloc ?_ _)); exact BK1005.out)) : gb1014 ≠ gb1005))
                              have n12_ := Aside0.mk ((by rw [hg]; exact Nat.ne_of_lt (blk_lt (g := gb1006) (o := .cells #[.int .u64 x1007000_3, .int .u64 x1007001_3] 25 (0, 0)) (by (with_reducible repeat (first | refine blk_drewN ?_ _ | refine blk_drew ?_ | refine blk_alloc ?_ _)); exact BK1006.out)) : gb1006 ≠ gb1014))
                              have n13_ := Aside0.mk ((by rw [hg]; exact Nat.ne_of_gt (blk_lt (g := gb1006) (o := .cells #[.int .u64 x1007000_3, .int .u64 x1007001_3] 25 (0, 0)) (by (with_reducible repeat (first | refine blk_drewN ?_ _ | refine blk_drew ?_ | refine blk_alloc ?_ _)); exact BK1006.out)) : gb1014 ≠ gb1006))
                              have n14_ := Aside0.mk ((by rw [hg]; exact Nat.ne_of_lt (blk_lt (g := gb1010) (o := .cells #[.int .u64 t1007, .int .u64 t1008] 25 (0, 0)) (by (with_reducible repeat (first | refine blk_drewN ?_ _ | refine blk_drew ?_ | refine blk_alloc ?_ _)); exact BK1010.out)) : gb1010 ≠ gb1014))
                              have n15_ := Aside0.mk ((by rw [hg]; exact Nat.ne_of_gt (blk_lt (g := gb1010) (o := .cells #[.int .u64 t1007, .int .u64 t1008] 25 (0, 0)) (by (with_reducible repeat (first | refine blk_drewN ?_ _ | refine blk_drew ?_ | refine blk_alloc ?_ _)); exact BK1010.out)) : gb1014 ≠ gb1010))
                              clear BK1004
                              clear BK1005
                              clear BK1006
                              clear BK1010
                              clear HB
                              have BK1004 := n0_
                              have BK1005 := n1_
                              have BK1006 := n2_
                              have BK1010 := n3_
                              have HB := n4_
                              have BK1014 := n5_
                              have GW1014 := n6_
                              have GE1014 := n7_
                              have NB1004_1014 := n8_
                              have NB1014_1004 := n9_
                              have NB1005_1014 := n10_
                              have NB1014_1005 := n11_
                              have NB1006_1014 := n12_
                              have NB1014_1006 := n13_
                              have NB1010_1014 := n14_
                              have NB1014_1010 := n15_
                              clear n0_ n1_ n2_ n3_ n4_ n5_ n6_ n7_ n8_ n9_ n10_ n11_ n12_ n13_ n14_ n15_
                              clear hb hbox hg
                              refine hK.out _ _ ⟨(blk_cell BK1010.out 0).trans rfl, (blk_cell BK1010.out 1).trans rfl⟩ (fun hHeld => ?_)
                              clear hK K
                              refine norm_ (a' := ?_) ?_ ?_
                              rotate_left
                              · show Act.put _ (some 10) _ = _
                                simp only [Act.put, List.setIfInBounds_toArray, List.set_cons_zero, List.set_cons_succ, i64_w, i32_w]
                                rfl
                              exact norm_ (by simp only [putAll, Act.put, List.setIfInBounds_toArray, List.set_cons_zero, List.set_cons_succ]) (hCont (gb1014) _ ⟨hHeld, (by (with_reducible repeat (first | refine blk_drewN ?_ _ | refine blk_drew ?_ | refine blk_alloc ?_ _)); exact BK1004.out), (by (with_reducible repeat (first | refine blk_drewN ?_ _ | refine blk_drew ?_ | refine blk_alloc ?_ _)); exact BK1005.out), (by (with_reducible repeat (first | refine blk_drewN ?_ _ | refine blk_drew ?_ | refine blk_alloc ?_ _)); exact BK1006.out), (by (with_reducible repeat (first | refine blk_drewN ?_ _ | refine blk_drew ?_ | refine blk_alloc ?_ _)); exact BK1010.out), (by (with_reducible repeat (first | refine blk_drewN ?_ _ | refine blk_drew ?_ | refine blk_alloc ?_ _)); exact BK1014.out), GW1014.out, GE1014.out, NB1004_1014.out, NB1014_1004.out, NB1005_1014.out, NB1014_1005.out, NB1006_1014.out, NB1014_1006.out, NB1010_1014.out, NB1014_1010.out, (by repeat (first | (with_reducible first | exact HB.out | apply below_alloc | apply pw_below_drewN | apply below_drew1 | refine below_set ?_ GE1004.out | refine below_set ?_ GE1005.out | refine below_set ?_ GE1006.out | refine below_set ?_ GE1010.out | refine below_set ?_ GE1014.out) | exact HB.out))⟩)
                            · skip
                              refine box_step ?hg (N := 10) ?hd (cs := #[.int .u64 0, .int .u64 0]) (t := 25) ?hr ?_; (case hd => rfl); (case hg => rfl); (case hr => first | (go_simp; done) | (go_simp; rfl))
                              intro gb1014 hg w73 hbox hb
                              have n0_ := Aside0.mk (blk_below (g := gb1004) (o := .cells #[.int .u64 x1005000_3, .int .u64 x1005001_3] 25 (0, 0)) (by (with_reducible repeat (first | refine blk_drewN ?_ _ | refine blk_drew ?_ | refine blk_alloc ?_ _)); exact BK1004.out) hb)
                              have n1_ := Aside0.mk (blk_below (g := gb1005) (o := .cells #[.int .u64 0, .int .u64 0] 25 (0, 0)) (by (with_reducible repeat (first | refine blk_drewN ?_ _ | refine blk_drew ?_ | refine blk_alloc ?_ _)); exact BK1005.out) hb)
                              have n2_ := Aside0.mk (blk_below (g := gb1006) (o := .cells #[.int .u64 x1007000_3, .int .u64 x1007001_3] 25 (0, 0)) (by (with_reducible repeat (first | refine blk_drewN ?_ _ | refine blk_drew ?_ | refine blk_alloc ?_ _)); exact BK1006.out) hb)
                              have n3_ := Aside0.mk (blk_below (g := gb1010) (o := .cells #[.int .u64 t1007, .int .u64 t1008] 25 (0, 0)) (by (with_reducible repeat (first | refine blk_drewN ?_ _ | refine blk_drew ?_ | refine blk_alloc ?_ _)); exact BK1010.out) hb)
                              have n4_ := Aside0.mk (below_step (by repeat (first | (with_reducible first | exact HB.out | apply below_alloc | apply pw_below_drewN | apply below_drew1 | refine below_set ?_ GE1004.out | refine below_set ?_ GE1005.out | refine below_set ?_ GE1006.out | refine below_set ?_ GE1010.out) | exact HB.out)) hb)
                              have n5_ := Aside0.mk (hbox)
                              have n6_ := Aside0.mk ((by rw [hg]; exact (below_size (by repeat (first | (with_reducible first | exact HB.out | apply below_alloc | apply pw_below_drewN | apply below_drew1 | refine below_set ?_ GE1004.out | refine below_set ?_ GE1005.out | refine below_set ?_ GE1006.out | refine below_set ?_ GE1010.out) | exact HB.out))) : w.heap.size ≤ gb1014))
                              have n7_ := Aside0.mk ((by rw [hg]; exact (below_size (by repeat (first | (with_reducible first | exact HB.out | apply below_alloc | apply pw_below_drewN | apply below_drew1 | refine below_set ?_ GE1004.out | refine below_set ?_ GE1005.out | refine below_set ?_ GE1006.out | refine below_set ?_ GE1010.out) | exact HB.out))) : w.heap.size ≤ gb1014))
                              have n8_ := Aside0.mk ((by rw [hg]; exact Nat.ne_of_lt (blk_lt (g := gb1004) (o := .cells #[.int .u64 x1005000_3, .int .u64 x1005001_3] 25 (0, 0)) (by (with_reducible repeat (first | refine blk_drewN ?_ _ | refine blk_drew ?_ | refine blk_alloc ?_ _)); exact BK1004.out)) : gb1004 ≠ gb1014))
                              have n9_ := Aside0.mk ((by rw [hg]; exact Nat.ne_of_gt (blk_lt (g := gb1004) (o := .cells #[.int .u64 x1005000_3, .int .u64 x1005001_3] 25 (0, 0)) (by (with_reducible repeat (first | refine blk_drewN ?_ _ | refine blk_drew ?_ | refine blk_alloc ?_ _)); exact BK1004.out)) : gb1014 ≠ gb1004))
                              have n10_ := Aside0.mk ((by rw [hg]; exact Nat.ne_of_lt (blk_lt (g := gb1005) (o := .cells #[.int .u64 0, .int .u64 0] 25 (0, 0)) (by (with_reducible repeat (first | refine blk_drewN ?_ _ | refine blk_drew ?_ | refine blk_alloc ?_ _)); exact BK1005.out)) : gb1005 ≠ gb1014))
                              have n11_ := Aside0.mk ((by rw [hg]; exact Nat.ne_of_gt (blk_lt (g := gb1005) (o := .cells #[.int .u64 0, .int .u64 0] 25 (0, 0)) (by (with_reducible repeat (first | refine blk_drewN ?_ _ | refine blk_drew ?_ | refine blk_alloc ?_ _)); exact BK1005.out)) : gb1014 ≠ gb1005))
                              have n12_ := Aside0.mk ((by rw [hg]; exact Nat.ne_of_lt (blk_lt (g := gb1006) (o := .cells #[.int .u64 x1007000_3, .int .u64 x1007001_3] 25 (0, 0)) (by (with_reducible repeat (first | refine blk_drewN ?_ _ | refine blk_drew ?_ | refine blk_alloc ?_ _)); exact BK1006.out)) : gb1006 ≠ gb1014))
                              have n13_ := Aside0.mk ((by rw [hg]; exact Nat.ne_of_gt (blk_lt (g := gb1006) (o := .cells #[.int .u64 x1007000_3, .int .u64 x1007001_3] 25 (0, 0)) (by (with_reducible repeat (first | refine blk_drewN ?_ _ | refine blk_drew ?_ | refine blk_alloc ?_ _)); exact BK1006.out)) : gb1014 ≠ gb1006))
                              have n14_ := Aside0.mk ((by rw [hg]; exact Nat.ne_of_lt (blk_lt (g := gb1010) (o := .cells #[.int .u64 t1007, .int .u64 t1008] 25 (0, 0)) (by (with_reducible repeat (first | refine blk_drewN ?_ _ | refine blk_drew ?_ | refine blk_alloc ?_ _)); exact BK1010.out)) : gb1010 ≠ gb1014))
                              have n15_ := Aside0.mk ((by rw [hg]; exact Nat.ne_of_gt (blk_lt (g := gb1010) (o := .cells #[.int .u64 t1007, .int .u64 t1008] 25 (0, 0)) (by (with_reducible repeat (first | refine blk_drewN ?_ _ | refine blk_drew ?_ | refine blk_alloc ?_ _)); exact BK1010.out)) : gb1014 ≠ gb1010))
                              clear BK1004
                              clear BK1005
                              clear BK1006
                              clear BK1010
                              clear HB
                              have BK1004 := n0_
                              have BK1005 := n1_
                              have BK1006 := n2_
                              have BK1010 := n3_
                              have HB := n4_
                              have BK1014 := n5_
                              have GW1014 := n6_
                              have GE1014 := n7_
                              have NB1004_1014 := n8_
                              have NB1014_1004 := n9_
                              have NB1005_1014 := n10_
                              have NB1014_1005 := n11_
                              have NB1006_1014 := n12_
                              have NB1014_1006 := n13_
                              have NB1010_1014 := n14_
                              have NB1014_1010 := n15_
                              clear n0_ n1_ n2_ n3_ n4_ n5_ n6_ n7_ n8_ n9_ n10_ n11_ n12_ n13_ n14_ n15_
                              clear hb hbox hg
                              refine hK.out _ _ ⟨(blk_cell BK1010.out 0).trans rfl, (blk_cell BK1010.out 1).trans rfl⟩ (fun hHeld => ?_)
                              clear hK K
                              refine norm_ (a' := ?_) ?_ ?_
                              rotate_left
                              · show Act.put _ (some 10) _ = _
                                simp only [Act.put, List.setIfInBounds_toArray, List.set_cons_zero, List.set_cons_succ, i64_w, i32_w]
                                rfl
                              refine one_ (i := 7) (N := some 67) #[true, true, true, true, true, true, true, true, false, false, false, true, false, false] rfl rfl (one_of HT_.out (by kernel_rfl)) (by decide) (fun K hK => ?_)
                              refine goes_ Try.func46 (by kernel_rfl) rfl #[.agg #[.int .u64 t1007, .int .u64 t1008], .agg #[.int .u64 0, .int .u64 (((bt a0 x7_3) - 48) % 256)]] (by rfl) rfl rfl (by (try simp only [List.map_toArray, List.map_cons, List.map_nil]); first | done | rfl | (simp only [List.length_drop, List.length_take]; rfl)) ?_
                              with_reducible refine (paymasterref01_Add.calls k3 t1007 t1008 0 (((bt a0 x7_3) - 48) % 256) t1011 t1012 t1013 _ A38.out).mono ?_
                              rintro e w74 ⟨rfl, hb⟩
                              refine ⟨_, rfl, ?_⟩
                              have n0_ := Aside0.mk (blk_below (g := gb1004) (o := .cells #[.int .u64 x1005000_3, .int .u64 x1005001_3] 25 (0, 0)) (by (with_reducible repeat (first | refine blk_drewN ?_ _ | refine blk_drew ?_ | refine blk_alloc ?_ _)); exact BK1004.out) hb)
                              have n1_ := Aside0.mk (blk_below (g := gb1005) (o := .cells #[.int .u64 0, .int .u64 0] 25 (0, 0)) (by (with_reducible repeat (first | refine blk_drewN ?_ _ | refine blk_drew ?_ | refine blk_alloc ?_ _)); exact BK1005.out) hb)
                              have n2_ := Aside0.mk (blk_below (g := gb1006) (o := .cells #[.int .u64 x1007000_3, .int .u64 x1007001_3] 25 (0, 0)) (by (with_reducible repeat (first | refine blk_drewN ?_ _ | refine blk_drew ?_ | refine blk_alloc ?_ _)); exact BK1006.out) hb)
                              have n3_ := Aside0.mk (blk_below (g := gb1010) (o := .cells #[.int .u64 t1007, .int .u64 t1008] 25 (0, 0)) (by (with_reducible repeat (first | refine blk_drewN ?_ _ | refine blk_drew ?_ | refine blk_alloc ?_ _)); exact BK1010.out) hb)
                              have n4_ := Aside0.mk (blk_below (g := gb1014) (o := .cells #[.int .u64 0, .int .u64 0] 25 (0, 0)) (by (with_reducible repeat (first | refine blk_drewN ?_ _ | refine blk_drew ?_ | refine blk_alloc ?_ _)); exact BK1014.out) hb)
                              have n5_ := Aside0.mk (below_step (by repeat (first | (with_reducible first | exact HB.out | apply below_alloc | apply pw_below_drewN | apply below_drew1 | refine below_set ?_ GE1004.out | refine below_set ?_ GE1005.out | refine below_set ?_ GE1006.out | refine below_set ?_ GE1010.out | refine below_set ?_ GE1014.out) | exact HB.out)) hb)
                              clear BK1004
                              clear BK1005
                              clear BK1006
                              clear BK1010
                              clear BK1014
                              clear HB
                              have BK1004 := n0_
                              have BK1005 := n1_
                              have BK1006 := n2_
                              have BK1010 := n3_
                              have BK1014 := n4_
                              have HB := n5_
                              clear n0_ n1_ n2_ n3_ n4_ n5_
                              (try clear hb)
                              (try clear hb2)
                              (try clear hk)
                              (try clear hi)
                              refine hK.out _ _ ⟨(blk_cell BK1010.out 0).trans rfl, (blk_cell BK1010.out 1).trans rfl⟩ (fun hHeld => ?_)
                              clear hK K
                              refine norm_ (a' := ?_) ?_ ?_
                              rotate_left
                              · show Act.put _ (some 67) _ = _
                                simp only [Act.put, List.setIfInBounds_toArray, List.set_cons_zero, List.set_cons_succ, i64_w, i32_w]
                                rfl
                              refine pure_ (i := 8) (N := some 59) (v := ?_) (a' := ?_) #[true, true, true, true, true, true, true, true, true, false, false, true, false, false] rfl rfl (any_of HT_.out (by kernel_rfl)) (fun _ _ _ h => h) (Or.inl ⟨by rfl, ?_⟩) ?_ ?_
                              rotate_left
                              · intro w'
                                go_simp
                                with_reducible rfl
                              rotate_left
                              · simp only [Act.put, List.setIfInBounds_toArray, List.set_cons_zero, List.set_cons_succ, i64_w, i32_w]
                                rfl
                              refine pure_ (i := 9) (N := some 68) (v := ?_) (a' := ?_) #[true, true, true, true, true, true, true, true, true, true, false, true, false, false] rfl rfl (any_of HT_.out (by kernel_rfl)) (fun _ _ _ h => h) (Or.inl ⟨by rfl, ?_⟩) ?_ ?_
                              rotate_left
                              · intro w'
                                go_simp
                                with_reducible rfl
                              rotate_left
                              · simp only [Act.put, List.setIfInBounds_toArray, List.set_cons_zero, List.set_cons_succ, i64_w, i32_w]
                                rfl
                              refine pure_ (i := 10) (N := some 69) (v := ?_) (a' := ?_) #[true, true, true, true, true, true, true, true, true, true, true, true, false, false] rfl rfl (any_of HT_.out (by kernel_rfl)) (fun _ _ _ h => h) (Or.inl ⟨by rfl, ?_⟩) ?_ ?_
                              rotate_left
                              · intro w'
                                go_simp
                                with_reducible rfl
                              rotate_left
                              · simp only [Act.put, List.setIfInBounds_toArray, List.set_cons_zero, List.set_cons_succ, i64_w, i32_w]
                                rfl
                              exact norm_ (by simp only [putAll, Act.put, List.setIfInBounds_toArray, List.set_cons_zero, List.set_cons_succ]) (hCont (gb1014) _ ⟨hHeld, (by (with_reducible repeat (first | refine blk_drewN ?_ _ | refine blk_drew ?_ | refine blk_alloc ?_ _)); exact BK1004.out), (by (with_reducible repeat (first | refine blk_drewN ?_ _ | refine blk_drew ?_ | refine blk_alloc ?_ _)); exact BK1005.out), (by (with_reducible repeat (first | refine blk_drewN ?_ _ | refine blk_drew ?_ | refine blk_alloc ?_ _)); exact BK1006.out), (by (with_reducible repeat (first | refine blk_drewN ?_ _ | refine blk_drew ?_ | refine blk_alloc ?_ _)); exact BK1010.out), (by (with_reducible repeat (first | refine blk_drewN ?_ _ | refine blk_drew ?_ | refine blk_alloc ?_ _)); exact BK1014.out), GW1014.out, GE1014.out, NB1004_1014.out, NB1014_1004.out, NB1005_1014.out, NB1014_1005.out, NB1006_1014.out, NB1014_1006.out, NB1010_1014.out, NB1014_1010.out, (by repeat (first | (with_reducible first | exact HB.out | apply below_alloc | apply pw_below_drewN | apply below_drew1 | refine below_set ?_ GE1004.out | refine below_set ?_ GE1005.out | refine below_set ?_ GE1006.out | refine below_set ?_ GE1010.out | refine below_set ?_ GE1014.out) | exact HB.out))⟩)
                          rintro gb1014 w75 ⟨hS_, h0_, h1_, h2_, h3_, h4_, h5_, h6_, h7_, h8_, h9_, h10_, h11_, h12_, h13_, h14_, h15_⟩
                          have n0_ : Aside0 (w75.heap[gb1004]? = some (.cells #[.int .u64 x1005000_3, .int .u64 x1005001_3] 25 (0, 0))) := ⟨h0_⟩
                          have n1_ : Aside0 (w75.heap[gb1005]? = some (.cells #[.int .u64 0, .int .u64 0] 25 (0, 0))) := ⟨h1_⟩
                          have n2_ : Aside0 (w75.heap[gb1006]? = some (.cells #[.int .u64 x1007000_3, .int .u64 x1007001_3] 25 (0, 0))) := ⟨h2_⟩
                          have n3_ : Aside0 (w75.heap[gb1010]? = some (.cells #[.int .u64 t1007, .int .u64 t1008] 25 (0, 0))) := ⟨h3_⟩
                          have n4_ : Aside0 (w75.heap[gb1014]? = some (.cells #[.int .u64 0, .int .u64 0] 25 (0, 0))) := ⟨h4_⟩
                          have n5_ : Aside0 (w.heap.size ≤ gb1014) := ⟨h5_⟩
                          have n6_ : Aside0 (w.heap.size ≤ gb1014) := ⟨h6_⟩
                          have n7_ : Aside0 (gb1004 ≠ gb1014) := ⟨h7_⟩
                          have n8_ : Aside0 (gb1014 ≠ gb1004) := ⟨h8_⟩
                          have n9_ : Aside0 (gb1005 ≠ gb1014) := ⟨h9_⟩
                          have n10_ : Aside0 (gb1014 ≠ gb1005) := ⟨h10_⟩
                          have n11_ : Aside0 (gb1006 ≠ gb1014) := ⟨h11_⟩
                          have n12_ : Aside0 (gb1014 ≠ gb1006) := ⟨h12_⟩
                          have n13_ : Aside0 (gb1010 ≠ gb1014) := ⟨h13_⟩
                          have n14_ : Aside0 (gb1014 ≠ gb1010) := ⟨h14_⟩
                          have n15_ : Aside0 (Below w.heap.size w w75) := ⟨h15_⟩
                          clear BK1004
                          clear BK1005
                          clear BK1006
                          clear BK1010
                          clear HB
                          clear h0_ h1_ h2_ h3_ h4_ h5_ h6_ h7_ h8_ h9_ h10_ h11_ h12_ h13_ h14_ h15_
                          have BK1004 := n0_
                          have BK1005 := n1_
                          have BK1006 := n2_
                          have BK1010 := n3_
                          have BK1014 := n4_
                          have GW1014 := n5_
                          have GE1014 := n6_
                          have NB1004_1014 := n7_
                          have NB1014_1004 := n8_
                          have NB1005_1014 := n9_
                          have NB1014_1005 := n10_
                          have NB1006_1014 := n11_
                          have NB1014_1006 := n12_
                          have NB1010_1014 := n13_
                          have NB1014_1010 := n14_
                          have HB := n15_
                          clear n0_ n1_ n2_ n3_ n4_ n5_ n6_ n7_ n8_ n9_ n10_ n11_ n12_ n13_ n14_ n15_
                          have hHeld : w75.cell? ⟨gb1010, 0, none⟩ = some (.int .u64 t1007) ∧ w75.cell? ⟨gb1010, 1, none⟩ = some (.int .u64 t1008) := hS_
                          refine norm_ (a' := ?_) ?_ ?_
                          rotate_left
                          · simp only [putAll, Act.put, List.setIfInBounds_toArray, List.set_cons_zero, List.set_cons_succ]
                            rfl
                          refine one_ (i := 12) (N := none) #[true, true, true, true, true, true, true, true, true, true, true, true, true, false] rfl rfl (one_of HT_.out (by kernel_rfl)) (by decide) (fun K hK => ?_)
                          have hs76 : w75.cell? ⟨gb1014, 0, none⟩ = some (.int .u64 0) := (blk_cell BK1014.out 0).trans rfl
                          have hfs76 := blk_frozen BK1014.out 0
                          have hns76_0 := NB1004_1014.out
                          have hns76_1 := NB1005_1014.out
                          have hns76_2 := NB1006_1014.out
                          have hns76_3 := NB1010_1014.out
                          have hms76_0 := NB1014_1004.out
                          have hms76_1 := NB1014_1005.out
                          have hms76_2 := NB1014_1006.out
                          have hms76_3 := NB1014_1010.out
                          have hs77 : w75.cell? ⟨gb1014, 1, none⟩ = some (.int .u64 0) := (blk_cell BK1014.out 1).trans rfl
                          have hfs77 := blk_frozen BK1014.out 1
                          have hns77_0 := NB1004_1014.out
                          have hns77_1 := NB1005_1014.out
                          have hns77_2 := NB1006_1014.out
                          have hns77_3 := NB1010_1014.out
                          have hms77_0 := NB1014_1004.out
                          have hms77_1 := NB1014_1005.out
                          have hms77_2 := NB1014_1006.out
                          have hms77_3 := NB1014_1010.out
                          refine skip_ (w1 := ?_) (by rfl) rfl ?_ ?_
                          rotate_left
                          · go_simp
                            rfl
                          refine hK.out _ _ ⟨((cell_far (p := ⟨gb1014, _, none⟩) NB1010_1014.out _).trans (((cell_far (p := ⟨gb1014, _, none⟩) NB1010_1014.out _).trans (hHeld.1)))), ((cell_far (p := ⟨gb1014, _, none⟩) NB1010_1014.out _).trans (((cell_far (p := ⟨gb1014, _, none⟩) NB1010_1014.out _).trans (hHeld.2))))⟩ (fun hHeld => ?_)
                          clear hK K
                          refine pure_ (i := 13) (N := some 11) (v := ?_) (a' := ?_) #[true, true, true, true, true, true, true, true, true, true, true, true, true, true] rfl rfl (any_of HT_.out (by kernel_rfl)) (fun _ _ _ h => h) (Or.inl ⟨by rfl, ?_⟩) ?_ ?_
                          rotate_left
                          · intro w'
                            go_simp
                            with_reducible rfl
                          rotate_left
                          · simp only [Act.put, List.setIfInBounds_toArray, List.set_cons_zero, List.set_cons_succ, i64_w, i32_w]
                            rfl
                          refine done_ (done_of HT_.out (by kernel_rfl)) ?_
                          have hnb78 := NB1005_1004.out
                          have hnc78 := NB1004_1005.out
                          have hnb79 := NB1005_1014.out
                          have hnc79 := NB1014_1005.out
                          have hcz80_0 : w75.cell? ⟨gb1005, 0, none⟩ = some (.int .u64 0) := (blk_cell BK1005.out 0).trans rfl
                          have hcz80_1 : w75.cell? ⟨gb1005, 1, none⟩ = some (.int .u64 0) := (blk_cell BK1005.out 1).trans rfl
                          have hfz80_0 := blk_frozen BK1005.out 0
                          have hfz80_1 := blk_frozen BK1005.out 1
                          have hnb81 := NB1004_1014.out
                          have hnc81 := NB1014_1004.out
                          have hcz82_0 : w75.cell? ⟨gb1004, 0, none⟩ = some (.int .u64 x1005000_3) := (blk_cell BK1004.out 0).trans rfl
                          have hcz82_1 : w75.cell? ⟨gb1004, 1, none⟩ = some (.int .u64 x1005001_3) := (blk_cell BK1004.out 1).trans rfl
                          have hfz82_0 := blk_frozen BK1004.out 0
                          have hfz82_1 := blk_frozen BK1004.out 1
                          try go_wp2
                          refine bodyPost_ret (results_ct rfl _ _ gb1004 25 #[.int .u64 0, .int .u64 0] (0, 0) _ rfl (by (with_reducible repeat (first | refine blk_drewN ?_ _ | refine blk_drew ?_ | refine blk_alloc ?_ _)); refine blk_put (cs := #[.int .u64 0, .int .u64 x1005001_3]) ?_ 1 _ rfl; (with_reducible repeat (first | refine blk_drewN ?_ _ | refine blk_drew ?_ | refine blk_alloc ?_ _)); refine blk_put (cs := #[.int .u64 x1005000_3, .int .u64 x1005001_3]) ?_ 0 _ rfl; (with_reducible repeat (first | refine blk_drewN ?_ _ | refine blk_drew ?_ | refine blk_alloc ?_ _)); refine blk_far ?_ NB1004_1014.out _; (with_reducible repeat (first | refine blk_drewN ?_ _ | refine blk_drew ?_ | refine blk_alloc ?_ _)); refine blk_far ?_ NB1004_1014.out _; (with_reducible repeat (first | refine blk_drewN ?_ _ | refine blk_drew ?_ | refine blk_alloc ?_ _)); exact BK1004.out) Try.underlying25 rfl (by kernel_rfl)) rfl ?_
                          exact ⟨by first | rfl | (simp [errW_none, errW_some] <;> rfl) | (simp [*, errW_none, errW_some] <;> rfl), by repeat (first | (with_reducible first | exact HB.out | apply below_alloc | apply pw_below_drewN | apply below_drew1 | refine below_set ?_ GE1004.out | refine below_set ?_ GE1005.out | refine below_set ?_ GE1006.out | refine below_set ?_ GE1010.out | refine below_set ?_ GE1014.out) | exact HB.out)⟩
                      · rw [if_neg c36] at H
                        exact absurd H (by simp)
                    · rw [if_neg c35] at H
                      have c35b0 : (t1009 == 0) = false := beq_eq_false_iff_ne.mpr c35
                      have c35b1 : (t1009 != 0) = true := bne_iff_ne.mpr c35
                      simp only [Option.some.injEq, Prod.mk.injEq] at H
                      obtain ⟨rfl, rfl, rfl⟩ := H
                      have hnb83 := NB1006_1004.out
                      have hnc83 := NB1004_1006.out
                      have hnb84 := NB1006_1005.out
                      have hnc84 := NB1005_1006.out
                      have hcz85_0 : wr.cell? ⟨gb1006, 0, none⟩ = some (.int .u64 x1007000_3) := (blk_cell BK1006.out 0).trans rfl
                      have hcz85_1 : wr.cell? ⟨gb1006, 1, none⟩ = some (.int .u64 x1007001_3) := (blk_cell BK1006.out 1).trans rfl
                      have hfz85_0 := blk_frozen BK1006.out 0
                      have hfz85_1 := blk_frozen BK1006.out 1
                      go_wp2_with (first | ((with_reducible refine gate_callee (f := 57) rfl ?_); refine goesL_ (some 53) rfl rfl Try.func57 (by kernel_rfl) rfl #[.agg #[.int .u64 x1007000_3, .int .u64 x1007001_3], .int .u64 10] rfl (by (try simp only [List.map_toArray, List.map_cons, List.map_nil]); first | done | rfl | (simp only [List.length_drop, List.length_take]; rfl)) ?_; (with_reducible refine (paymasterref01_Times.calls k3 x1007000_3 x1007001_3 10 t1007 t1008 t1009 _ A34.out).mono ?_); rintro e w86 ⟨rfl, hb⟩; refine ⟨_, rfl, ?_⟩; have n0_ := Aside0.mk (blk_below (g := gb1004) (o := .cells #[.int .u64 x1005000_3, .int .u64 x1005001_3] 25 (0, 0)) (by (with_reducible repeat (first | refine blk_drewN ?_ _ | refine blk_drew ?_ | refine blk_alloc ?_ _)); exact BK1004.out) hb); have n1_ := Aside0.mk (blk_below (g := gb1005) (o := .cells #[.int .u64 0, .int .u64 0] 25 (0, 0)) (by (with_reducible repeat (first | refine blk_drewN ?_ _ | refine blk_drew ?_ | refine blk_alloc ?_ _)); exact BK1005.out) hb); have n2_ := Aside0.mk (blk_below (g := gb1006) (o := .cells #[.int .u64 x1007000_3, .int .u64 x1007001_3] 25 (0, 0)) (by (with_reducible repeat (first | refine blk_drewN ?_ _ | refine blk_drew ?_ | refine blk_alloc ?_ _)); exact BK1006.out) hb); have n3_ := Aside0.mk (below_step (by repeat (first | (with_reducible first | exact HB.out | apply below_alloc | apply pw_below_drewN | apply below_drew1 | refine below_set ?_ GE1004.out | refine below_set ?_ GE1005.out | refine below_set ?_ GE1006.out) | exact HB.out)) hb); clear BK1004; clear BK1005; clear BK1006; clear HB; have BK1004 := n0_; have BK1005 := n1_; have BK1006 := n2_; have HB := n3_; clear n0_ n1_ n2_ n3_; (try clear hb); (try clear hb2); (try clear hk); (try clear hi)) | ((with_reducible refine gate_dst (N := 8) rfl ?_); (try (refine gate_guard (by rfl) ?_; dsimp only)); refine box_event ?hg (N := 8) ?hd (cs := #[.int .u64 0, .int .u64 0]) (t := 25) ?hr ?_; (case hd => rfl); (case hg => rfl); (case hr => first | (go_simp; done) | (go_simp; rfl)); intro gb1010 hg w87 hbox hb; have n0_ := Aside0.mk (blk_below (g := gb1004) (o := .cells #[.int .u64 x1005000_3, .int .u64 x1005001_3] 25 (0, 0)) (by (with_reducible repeat (first | refine blk_drewN ?_ _ | refine blk_drew ?_ | refine blk_alloc ?_ _)); exact BK1004.out) hb); have n1_ := Aside0.mk (blk_below (g := gb1005) (o := .cells #[.int .u64 0, .int .u64 0] 25 (0, 0)) (by (with_reducible repeat (first | refine blk_drewN ?_ _ | refine blk_drew ?_ | refine blk_alloc ?_ _)); exact BK1005.out) hb); have n2_ := Aside0.mk (blk_below (g := gb1006) (o := .cells #[.int .u64 x1007000_3, .int .u64 x1007001_3] 25 (0, 0)) (by (with_reducible repeat (first | refine blk_drewN ?_ _ | refine blk_drew ?_ | refine blk_alloc ?_ _)); exact BK1006.out) hb); have n3_ := Aside0.mk (below_step (by repeat (first | (with_reducible first | exact HB.out | apply below_alloc | apply pw_below_drewN | apply below_drew1 | refine below_set ?_ GE1004.out | refine below_set ?_ GE1005.out | refine below_set ?_ GE1006.out) | exact HB.out)) hb); have n4_ := Aside0.mk (hbox); have n5_ := Aside0.mk ((by rw [hg]; exact (below_size (by repeat (first | (with_reducible first | exact HB.out | apply below_alloc | apply pw_below_drewN | apply below_drew1 | refine below_set ?_ GE1004.out | refine below_set ?_ GE1005.out | refine below_set ?_ GE1006.out) | exact HB.out))) : w.heap.size ≤ gb1010)); have n6_ := Aside0.mk ((by rw [hg]; exact (below_size (by repeat (first | (with_reducible first | exact HB.out | apply below_alloc | apply pw_below_drewN | apply below_drew1 | refine below_set ?_ GE1004.out | refine below_set ?_ GE1005.out | refine below_set ?_ GE1006.out) | exact HB.out))) : w.heap.size ≤ gb1010)); have n7_ := Aside0.mk ((by rw [hg]; exact Nat.ne_of_lt (blk_lt (g := gb1004) (o := .cells #[.int .u64 x1005000_3, .int .u64 x1005001_3] 25 (0, 0)) (by (with_reducible repeat (first | refine blk_drewN ?_ _ | refine blk_drew ?_ | refine blk_alloc ?_ _)); exact BK1004.out)) : gb1004 ≠ gb1010)); have n8_ := Aside0.mk ((by rw [hg]; exact Nat.ne_of_gt (blk_lt (g := gb1004) (o := .cells #[.int .u64 x1005000_3, .int .u64 x1005001_3] 25 (0, 0)) (by (with_reducible repeat (first | refine blk_drewN ?_ _ | refine blk_drew ?_ | refine blk_alloc ?_ _)); exact BK1004.out)) : gb1010 ≠ gb1004)); have n9_ := Aside0.mk ((by rw [hg]; exact Nat.ne_of_lt (blk_lt (g := gb1005) (o := .cells #[.int .u64 0, .int .u64 0] 25 (0, 0)) (by (with_reducible repeat (first | refine blk_drewN ?_ _ | refine blk_drew ?_ | refine blk_alloc ?_ _)); exact BK1005.out)) : gb1005 ≠ gb1010)); have n10_ := Aside0.mk ((by rw [hg]; exact Nat.ne_of_gt (blk_lt (g := gb1005) (o := .cells #[.int .u64 0, .int .u64 0] 25 (0, 0)) (by (with_reducible repeat (first | refine blk_drewN ?_ _ | refine blk_drew ?_ | refine blk_alloc ?_ _)); exact BK1005.out)) : gb1010 ≠ gb1005)); have n11_ := Aside0.mk ((by rw [hg]; exact Nat.ne_of_lt (blk_lt (g := gb1006) (o := .cells #[.int .u64 x1007000_3, .int .u64 x1007001_3] 25 (0, 0)) (by (with_reducible repeat (first | refine blk_drewN ?_ _ | refine blk_drew ?_ | refine blk_alloc ?_ _)); exact BK1006.out)) : gb1006 ≠ gb1010)); have n12_ := Aside0.mk ((by rw [hg]; exact Nat.ne_of_gt (blk_lt (g := gb1006) (o := .cells #[.int .u64 x1007000_3, .int .u64 x1007001_3] 25 (0, 0)) (by (with_reducible repeat (first | refine blk_drewN ?_ _ | refine blk_drew ?_ | refine blk_alloc ?_ _)); exact BK1006.out)) : gb1010 ≠ gb1006)); clear BK1004; clear BK1005; clear BK1006; clear HB; have BK1004 := n0_; have BK1005 := n1_; have BK1006 := n2_; have HB := n3_; have BK1010 := n4_; have GW1010 := n5_; have GE1010 := n6_; have NB1004_1010 := n7_; have NB1010_1004 := n8_; have NB1005_1010 := n9_; have NB1010_1005 := n10_; have NB1006_1010 := n11_; have NB1010_1006 := n12_; clear n0_ n1_ n2_ n3_ n4_ n5_ n6_ n7_ n8_ n9_ n10_ n11_ n12_; clear hb hbox hg; have hnb88 := NB1010_1004.out; have hnc88 := NB1004_1010.out; have hnb89 := NB1010_1005.out; have hnc89 := NB1005_1010.out; have hnb90 := NB1010_1006.out; have hnc90 := NB1006_1010.out; have hcz91_0 : w87.cell? ⟨gb1010, 0, none⟩ = some (.int .u64 0) := (blk_cell BK1010.out 0).trans rfl; have hcz91_1 : w87.cell? ⟨gb1010, 1, none⟩ = some (.int .u64 0) := (blk_cell BK1010.out 1).trans rfl; have hfz91_0 := blk_frozen BK1010.out 0; have hfz91_1 := blk_frozen BK1010.out 1; have hnb92 := NB1005_1004.out; have hnc92 := NB1004_1005.out; have hcz93_0 : w87.cell? ⟨gb1005, 0, none⟩ = some (.int .u64 0) := (blk_cell BK1005.out 0).trans rfl; have hcz93_1 : w87.cell? ⟨gb1005, 1, none⟩ = some (.int .u64 0) := (blk_cell BK1005.out 1).trans rfl; have hfz93_0 := blk_frozen BK1005.out 0; have hfz93_1 := blk_frozen BK1005.out 1; have hcz94_0 : w87.cell? ⟨gb1004, 0, none⟩ = some (.int .u64 x1005000_3) := (blk_cell BK1004.out 0).trans rfl; have hcz94_1 : w87.cell? ⟨gb1004, 1, none⟩ = some (.int .u64 x1005001_3) := (blk_cell BK1004.out 1).trans rfl; have hfz94_0 := blk_frozen BK1004.out 0; have hfz94_1 := blk_frozen BK1004.out 1))
                      refine bodyPost_ret (results_ct rfl _ _ gb1004 25 #[.int .u64 0, .int .u64 0] (0, 0) _ rfl (by (with_reducible repeat (first | refine blk_drewN ?_ _ | refine blk_drew ?_ | refine blk_alloc ?_ _)); refine blk_put (cs := #[.int .u64 0, .int .u64 x1005001_3]) ?_ 1 _ rfl; (with_reducible repeat (first | refine blk_drewN ?_ _ | refine blk_drew ?_ | refine blk_alloc ?_ _)); refine blk_put (cs := #[.int .u64 x1005000_3, .int .u64 x1005001_3]) ?_ 0 _ rfl; (with_reducible repeat (first | refine blk_drewN ?_ _ | refine blk_drew ?_ | refine blk_alloc ?_ _)); refine blk_far ?_ NB1004_1010.out _; (with_reducible repeat (first | refine blk_drewN ?_ _ | refine blk_drew ?_ | refine blk_alloc ?_ _)); refine blk_far ?_ NB1004_1010.out _; (with_reducible repeat (first | refine blk_drewN ?_ _ | refine blk_drew ?_ | refine blk_alloc ?_ _)); exact BK1004.out) Try.underlying25 rfl (by kernel_rfl)) rfl ?_
                      exact ⟨by first | rfl | (simp [errW_none, errW_some] <;> rfl) | (simp [*, errW_none, errW_some] <;> rfl), by repeat (first | (with_reducible first | exact HB.out | apply below_alloc | apply pw_below_drewN | apply below_drew1 | refine below_set ?_ GE1004.out | refine below_set ?_ GE1005.out | refine below_set ?_ GE1006.out | refine below_set ?_ GE1010.out) | exact HB.out)⟩
                  · rw [if_neg c33] at H
                    have c33b0 : decide (x7_3 < (a0.size : Int)) = false := decide_eq_false c33
                    clear c33
                    simp only [Option.some.injEq, Prod.mk.injEq] at H
                    obtain ⟨rfl, rfl, rfl⟩ := H
                    have hnb95 := NB1006_1004.out
                    have hnc95 := NB1004_1006.out
                    have hnb96 := NB1006_1005.out
                    have hnc96 := NB1005_1006.out
                    have hcz97_0 : wr.cell? ⟨gb1006, 0, none⟩ = some (.int .u64 x1007000_3) := (blk_cell BK1006.out 0).trans rfl
                    have hcz97_1 : wr.cell? ⟨gb1006, 1, none⟩ = some (.int .u64 x1007001_3) := (blk_cell BK1006.out 1).trans rfl
                    have hfz97_0 := blk_frozen BK1006.out 0
                    have hfz97_1 := blk_frozen BK1006.out 1
                    have hnb98 := NB1004_1005.out
                    have hnc98 := NB1005_1004.out
                    have hcz99_0 : wr.cell? ⟨gb1004, 0, none⟩ = some (.int .u64 x1005000_3) := (blk_cell BK1004.out 0).trans rfl
                    have hcz99_1 : wr.cell? ⟨gb1004, 1, none⟩ = some (.int .u64 x1005001_3) := (blk_cell BK1004.out 1).trans rfl
                    have hfz99_0 := blk_frozen BK1004.out 0
                    have hfz99_1 := blk_frozen BK1004.out 1
                    go_wp2
                    refine bodyPost_ret (results_ct rfl _ _ gb1004 25 #[.int .u64 x1007000_3, .int .u64 x1007001_3] (0, 0) _ rfl (by (with_reducible repeat (first | refine blk_drewN ?_ _ | refine blk_drew ?_ | refine blk_alloc ?_ _)); refine blk_put (cs := #[.int .u64 x1007000_3, .int .u64 x1005001_3]) ?_ 1 _ rfl; (with_reducible repeat (first | refine blk_drewN ?_ _ | refine blk_drew ?_ | refine blk_alloc ?_ _)); refine blk_put (cs := #[.int .u64 x1005000_3, .int .u64 x1005001_3]) ?_ 0 _ rfl; (with_reducible repeat (first | refine blk_drewN ?_ _ | refine blk_drew ?_ | refine blk_alloc ?_ _)); exact BK1004.out) Try.underlying25 rfl (by kernel_rfl)) rfl ?_
                    exact ⟨by first | rfl | (simp [errW_none, errW_some] <;> rfl) | (simp [*, errW_none, errW_some] <;> rfl), by repeat (first | (with_reducible first | exact HB.out | apply below_alloc | apply pw_below_drewN | apply below_drew1 | refine below_set ?_ GE1004.out | refine below_set ?_ GE1005.out | refine below_set ?_ GE1006.out) | exact HB.out)⟩
end Go.Proofs.Ytpkjpiphjdpegaa.P
namespace Go.Proofs.Ytpkjpiphjdpegaa.P
set_option linter.unusedVariables false
set_option linter.unusedSimpArgs false
theorem val_all : ∀ (n : Nat) (l : List Int) (V : Int), l.length = n → 0 ≤ V → V < 10 ^ n → (∀ i, i < n → l.getD i 0 = V / 10 ^ (n - 1 - i) % 10) → valD l = V
  | 0, l, V, hl, h0, h1, h => by
    obtain rfl := List.eq_nil_of_length_eq_zero hl
    rw [Int.pow_zero] at h1
    show (0 : Int) = V
    omega
  | n + 1, l, V, hl, h0, h1, h => by
    obtain ⟨t, d, rfl⟩ : ∃ t d, l = t ++ [d] := by
      rcases List.eq_nil_or_concat l with e | ⟨t, d, e⟩
      · rw [e] at hl; simp at hl
      · exact ⟨t, d, by rw [e, List.concat_eq_append]⟩
    have lt : t.length = n := by simpa using hl
    have hd := h n (by omega)
    rw [show n + 1 - 1 - n = 0 from by omega, Int.pow_zero, Int.ediv_one, List.getD_eq_getElem?_getD, List.getElem?_append_right (by omega), show n - t.length = 0 from by omega] at hd
    have hd' : d = V % 10 := hd
    have ih := val_all n t (V / 10) lt (by omega) (by rw [Int.pow_succ] at h1; omega) (fun i hi => by
      have := h i (by omega)
      rw [List.getD_eq_getElem?_getD, List.getElem?_append_left (by omega), ← List.getD_eq_getElem?_getD] at this
      rw [this, show n + 1 - 1 - i = (n - 1 - i) + 1 from by omega, ediv_ten])
    rw [valD_snoc, ih]
    omega
theorem val_skip (l : List Int) (i : Nat) (hi : i < l.length) (h : l.getD i 0 = 0) : valD (l.drop (i + 1)) = valD (l.drop i) := by
  have e : l.drop i = l.getD i 0 :: l.drop (i + 1) := by
    rw [List.drop_eq_getElem_cons hi]
    congr 1
    rw [List.getD_eq_getElem?_getD, List.getElem?_eq_getElem hi]
    rfl
  rw [e, h, valD_cons]
  simp
theorem ten_split (V : Int) (a b : Nat) : V / 10 ^ (a + b) = V / 10 ^ a / 10 ^ b := by
  rw [Int.pow_add, Int.ediv_ediv_of_nonneg (Int.le_of_lt (ten_pos a))]
theorem dig_rest (V : Int) (h0 : 0 ≤ V) (j : Nat) (hj : j < 19) : V % 10 ^ 19 / 10 ^ j % 10 = V / 10 ^ j % 10 := by
  have e : (10 : Int) ^ 19 = 10 ^ j * (10 * 10 ^ (18 - j)) := by
    rw [← Int.pow_succ', ← Int.pow_add]
    congr 1
    omega
  have p := ten_pos j
  rw [e]
  generalize hp : (10 : Int) ^ j = P at *
  generalize (10 : Int) ^ (18 - j) = Q at *
  have m : V % (P * (10 * Q)) = V - P * (10 * Q) * (V / (P * (10 * Q))) := by
    have := Int.mul_ediv_add_emod V (P * (10 * Q))
    omega
  generalize V / (P * (10 * Q)) = Z at m
  have m' : V % (P * (10 * Q)) = V + P * (-(10 * (Q * Z))) := by
    rw [m, Int.mul_neg, Int.mul_assoc P, Int.mul_assoc 10]
    omega
  rw [m', Int.add_mul_ediv_left _ _ (by omega)]
  omega
end Go.Proofs.Ytpkjpiphjdpegaa.P
namespace Go.Proofs.Ytpkjpiphjdpegaa.P
open Go.RowKit Go.Proofs.YtpkjpiphjdpegaaW.PrintWords Go.Proofs.YtpkjpiphjdpegaaW.PrintLast Go.Proofs.YtpkjpiphjdpegaaW.PrintMore
set_option linter.unusedVariables false
set_option linter.unusedSimpArgs false
theorem over_calls (x y n : Int) (ha : U64 x) (hb : U64 y) (hn : U64 n) (h : n ≠ 0) (w : World) :
    Calls Try.prog 58 #[.agg #[.int .u64 x, .int .u64 y], .int .u64 n] w fun e w' => e = .returned (.tuple #[.agg #[.int .u64 (hiOf (val x y / n)), .int .u64 (loOf (val x y / n))], .int .u64 (val x y % n), .int .i64 0]) ∧ Below w.heap.size w w' :=
  u128_Over.calls x y n _ _ _ _ w (over_num x y n ha hb hn h)
theorem u_unit : U64 10000000000000000000 := ⟨by omega, by omega⟩
theorem set_nums (L : List Int) (i : Nat) (v : Int) : (nums .u8 L).toArray.setIfInBounds i (.int .u8 v) = (nums .u8 (L.set i v)).toArray := by
  apply Array.ext'
  rw [Array.toList_setIfInBounds]
  simp [nums, List.map_set]
theorem cell_nums (L : List Int) (i : Nat) (h : i < L.length) : (nums .u8 L).toArray[i]? = some (.int .u8 (L.getD i 0)) := by
  simp [nums, List.getElem?_eq_getElem h, List.getD_eq_getElem?_getD]
theorem dig_put (V : Int) (L : List Int) (at_ : Nat) (h39 : at_ < 39) (hl : L.length = 39) (D : ∀ i : Nat, i < 39 → ((at_ + 1 : Nat) : Int) ≤ i → L.getD i 0 = V / 10 ^ (38 - i) % 10) (v : Int) (hv : v = V / 10 ^ (38 - at_) % 10) :
    ∀ i : Nat, i < 39 → (at_ : Int) ≤ i → (L.set at_ v).getD i 0 = V / 10 ^ (38 - i) % 10 := by
  intro i h1 h2
  rw [List.getD_eq_getElem?_getD, List.getElem?_set]
  by_cases c : at_ = i
  · subst c
    rw [if_pos rfl, if_pos (by omega), Option.getD_some, hv]
  · rw [if_neg c, ← List.getD_eq_getElem?_getD]
    exact D i h1 (by omega)
set_option maxHeartbeats 4000000 in
set_option maxRecDepth 100000 in
theorem decimal_digits_calls (a b : Int) (ha : U64 a) (hb : U64 b) (w : World) :
    Calls Try.prog 91 #[.agg #[.int .u64 a, .int .u64 b]] w fun e w' => ∃ (g s : Nat) (L : List Int), e = .returned (.slice (some ⟨g, s, none⟩) (dec (val a b)).length (dec (val a b)).length) ∧ w'.heap[g]? = some (.cells (nums .u8 L).toArray 124 (0, 0)) ∧ w.heap.size ≤ g ∧ L.length = 39 ∧ s + (dec (val a b)).length = 39 ∧ L.drop s = dec (val a b) ∧ Below w.heap.size w w' := by
  obtain ⟨V0, V1⟩ := val_range a b ha hb
  go_enter Try.func91, Try.ntmps91
  go_wp2
  go_loopg [4] 4 (fun g v4 w' => ∃ (at_ : Int) (x y : Int) (L : List Int), v4 = .int .i64 at_ ∧ Aside0 ((at_ = 39 ∧ 3 ≤ g) ∨ (at_ = 20 ∧ 2 ≤ g) ∨ (at_ = 1 ∧ 1 ≤ g) ∨ at_ = 0) ∧ Aside0 (U64 x ∧ U64 y ∧ val x y = val a b / 10 ^ (39 - at_.toNat)) ∧ Aside0 (L.length = 39) ∧ Aside0 (∀ i : Nat, i < 39 → at_ ≤ i → L.getD i 0 = val a b / 10 ^ (38 - i) % 10) ∧ Aside0 (w'.heap[w.heap.size]? = some (.cells #[.int .u64 x, .int .u64 y] 25 (0, 0))) ∧ Aside0 (w'.heap[w.heap.size + 1]? = some (.cells (nums .u8 L).toArray 124 (0, 0))) ∧ Aside0 (Below w.heap.size w w'))
  case atStart =>
    refine ⟨39, a, b, List.replicate 39 0, rfl, ⟨.inl ⟨rfl, by omega⟩⟩, ⟨ha, hb, ?_⟩, ⟨rfl⟩, ⟨?_⟩, ⟨?_⟩, ⟨?_⟩, ⟨?_⟩⟩
    · show val a b = val a b / 10 ^ 0
      rw [Int.pow_zero, Int.ediv_one]
    · intro i h1 h2; omega
    · refine blk_alloc (blk_new w _) _
    · have e := blk_new (w.alloc (.cells #[.int .u64 a, .int .u64 b] 25)) (.cells (nums .u8 (List.replicate 39 0)).toArray 124)
      rw [World.size_alloc] at e
      exact e
    · exact below_alloc (below_alloc (Below.refl _ _) _) _
  case round =>
    obtain ⟨at_, x, y, L, rfl, C, V, hL, D, B0, B1, HB⟩ := hrel
    have cz0 : wr.cell? ⟨w.heap.size, 0, none⟩ = some (.int .u64 x) := (blk_cell B0.out 0).trans rfl
    have cz1 : wr.cell? ⟨w.heap.size, 1, none⟩ = some (.int .u64 y) := (blk_cell B0.out 1).trans rfl
    rcases C.out with ⟨rfl, c⟩ | ⟨rfl, c⟩ | ⟨rfl, c⟩ | rfl
    · clear C
      obtain ⟨go_, rfl⟩ : ∃ g, gk = g + 1 := ⟨gk - 1, by omega⟩
      go_wp2_with (first | (go_at_call 58; (with_reducible refine (over_calls x y 10000000000000000000 V.out.1 V.out.2.1 u_unit (by decide) _).mono ?_); rintro e w' ⟨rfl, hb'⟩))
      have B0' := Aside0.mk (blk_below B0.out hb')
      have B1' := Aside0.mk (blk_below B1.out hb')
      have HB' := Aside0.mk (below_step HB.out hb')
      have lt1 := blk_lt B1'.out
      obtain ⟨g5, h5⟩ : ∃ g, w'.heap.size = g := ⟨_, rfl⟩
      have hn := Aside0.mk (blk_new w' (.cells #[.int .u64 (hiOf (val x y / 10000000000000000000)), .int .u64 (loOf (val x y / 10000000000000000000))] 25))
      have qe : val x y / 10000000000000000000 = val a b / 10 ^ (39 - (20 : Int).toNat) := by
        have e1 := V.out.2.2
        have e2 : (10000000000000000000 : Int) = 10 ^ 19 := rfl
        rw [e1, e2, ← ten_split]
        rfl
      have q0 : 0 ≤ val x y / 10000000000000000000 := by
        have := (val_range x y V.out.1 V.out.2.1).1
        omega
      have q1 : val x y / 10000000000000000000 < m128 := by
        have := (val_range x y V.out.1 V.out.2.1).2
        have := (val_range x y V.out.1 V.out.2.1).1
        omega
      have uq := Aside0.mk (u_hiOf _ q0 q1)
      have re : ∀ j : Nat, j < 19 → val x y % 10000000000000000000 / 10 ^ j % 10 = val a b / 10 ^ (39 - (39 : Int).toNat + j) % 10 := by
        intro j hj
        have e2 : (10000000000000000000 : Int) = 10 ^ 19 := rfl
        rw [e2, dig_rest _ (val_range x y V.out.1 V.out.2.1).1 j hj, V.out.2.2, ← ten_split]
      have r0 : 0 ≤ val x y % 10000000000000000000 := by omega
      have r1 : val x y % 10000000000000000000 < 10000000000000000000 := by omega
      have RE := Aside0.mk re
      have QE := Aside0.mk ((val_halves _).trans qe)
      clear re qe q0 q1
      rw [h5] at hn lt1
      generalize hiOf (val x y / 10000000000000000000) = qh at *
      generalize loOf (val x y / 10000000000000000000) = ql at *
      generalize val x y % 10000000000000000000 = R at *
      have B0'' := Aside0.mk (blk_alloc B0'.out (.cells #[.int .u64 qh, .int .u64 ql] 25))
      have B1'' := Aside0.mk (blk_alloc B1'.out (.cells #[.int .u64 qh, .int .u64 ql] 25))
      have HB'' := Aside0.mk (below_alloc HB'.out (.cells #[.int .u64 qh, .int .u64 ql] 25))
      generalize hW : w'.alloc (.cells #[.int .u64 qh, .int .u64 ql] 25) = W at *
      simp only [h5]
      clear hb' B0 B1 HB B0' B1' HB' hW h5 cz0 cz1
      go_loopg [4, 6, 19] 20 (fun g v4 v6 v19 W => ∃ (j : Nat) (L : List Int), v4 = .int .i64 (39 - (j : Int)) ∧ v6 = .int .u64 (R / 10 ^ j) ∧ v19 = .int .i64 (j : Int) ∧ Aside0 (j ≤ 19 ∧ 19 ≤ j + g) ∧ Aside0 (L.length = 39) ∧ Aside0 (∀ i : Nat, i < 39 → 39 - (j : Int) ≤ i → L.getD i 0 = val a b / 10 ^ (38 - i) % 10) ∧ Aside0 (W.heap[w.heap.size]? = some (.cells #[.int .u64 x, .int .u64 y] 25 (0, 0))) ∧ Aside0 (W.heap[w.heap.size + 1]? = some (.cells (nums .u8 L).toArray 124 (0, 0))) ∧ Aside0 (W.heap[g5]? = some (.cells #[.int .u64 qh, .int .u64 ql] 25 (0, 0))) ∧ Aside0 (Below w.heap.size w W))
      case atStart =>
        refine ⟨0, L, by simp, by simp, rfl, ⟨by omega, by omega⟩, hL, ⟨?_⟩, B0'', B1'', hn, HB''⟩
        intro i h1 h2
        exact D.out i h1 (by simpa using h2)
      case round =>
        obtain ⟨j, L, rfl, rfl, rfl, J, hL, D, B0, B1, B5, HB⟩ := hrel
        by_cases c2 : j < 19
        · have c2b : decide ((j : Int) < 19) = true := decide_eq_true (by omega)
          have wj : wrap64 (39 - (j : Int) - 1) = ((39 - j - 1 : Nat) : Int) := by rw [wi _ (by omega) (by omega)]; omega
          have p0 : 0 ≤ R / 10 ^ j := Int.ediv_nonneg r0 (Int.le_of_lt (ten_pos j))
          have p1 : R / 10 ^ j ≤ R := Int.ediv_le_self _ r0
          have t10 : Int.tmod (R / 10 ^ j) 10 = R / 10 ^ j % 10 := Int.tmod_eq_emod_of_nonneg p0
          have d10 : Int.tdiv (R / 10 ^ j) 10 = R / 10 ^ (j + 1) := by rw [Int.tdiv_eq_ediv_of_nonneg p0, ten_split]; rfl
          have fz := blk_frozen B1.out (39 - j - 1)
          have cz := (blk_cell B1.out (39 - j - 1)).trans (cell_nums L _ (by rw [hL.out]; omega))
          have wq : IntKind.u64.wrap (R / 10 ^ (j + 1)) = R / 10 ^ (j + 1) := by
            rw [← d10, Int.tdiv_eq_ediv_of_nonneg p0]
            exact wu _ (by omega) (by omega)
          obtain ⟨gi, rfl⟩ : ∃ g, gk = g + 1 := ⟨gk - 1, by have := J.out; omega⟩
          go_wp2
          go_roundg gi
          case measure => omega
          case rel =>
            refine ⟨j + 1, L.set (39 - j - 1) (R / 10 ^ j % 10), ?_, rfl, ?_, ⟨?_⟩, ⟨?_⟩, ⟨?_⟩, ⟨?_⟩, ⟨?_⟩, ⟨?_⟩, ⟨?_⟩⟩
            · rw [show (39 : Int) - ((j + 1 : Nat) : Int) = 39 - (j : Int) - 1 from by omega]
            · rw [show ((j + 1 : Nat) : Int) = (j : Int) + 1 from by omega]
            · have := J.out; omega
            · rw [List.length_set]; exact hL.out
            · have := dig_put (val a b) L (39 - j - 1) (by omega) hL.out (fun i h1 h2 => D.out i h1 (by omega)) (R / 10 ^ j % 10) (by rw [RE.out j (by omega)]; congr 3; show (_ : Nat) = _; simp; omega)
              intro i h1 h2
              exact this i h1 (by omega)
            · exact blk_far B0.out (by show w.heap.size ≠ w.heap.size + 1; omega) _
            · exact blk_put B1.out _ _ (set_nums ..)
            · exact blk_far B5.out (by show g5 ≠ w.heap.size + 1; omega) _
            · exact below_set HB.out (by omega)
        · have c2b : decide ((j : Int) < 19) = false := decide_eq_false (by omega)
          obtain rfl : j = 19 := by have := J.out; omega
          have cy0 : wr.cell? ⟨g5, 0, none⟩ = some (.int .u64 qh) := (blk_cell B5.out 0).trans rfl
          have cy1 : wr.cell? ⟨g5, 1, none⟩ = some (.int .u64 ql) := (blk_cell B5.out 1).trans rfl
          have cz0 : wr.cell? ⟨w.heap.size, 0, none⟩ = some (.int .u64 x) := (blk_cell B0.out 0).trans rfl
          have cz1 : wr.cell? ⟨w.heap.size, 1, none⟩ = some (.int .u64 y) := (blk_cell B0.out 1).trans rfl
          have fz0 := blk_frozen B0.out 0
          have fz1 := blk_frozen B0.out 1
          go_wp2
          go_roundg go_
          case measure => omega
          case rel =>
            refine ⟨20, qh, ql, L, rfl, ⟨?_⟩, ⟨uq.out.1, uq.out.2, QE.out⟩, hL, ⟨?_⟩, ⟨?_⟩, ⟨?_⟩, ⟨?_⟩⟩
            · omega
            · intro i h1 h2
              exact D.out i h1 (by omega)
            · exact blk_put (blk_put B0.out 0 _ rfl) 1 _ rfl
            · exact blk_far (blk_far B1.out (by show w.heap.size + 1 ≠ w.heap.size; omega) _) (by show w.heap.size + 1 ≠ w.heap.size; omega) _
            · exact below_set (below_set HB.out (Nat.le_refl _)) (Nat.le_refl _)
    · clear C
      obtain ⟨go_, rfl⟩ : ∃ g, gk = g + 1 := ⟨gk - 1, by omega⟩
      go_wp2_with (first | (go_at_call 58; (with_reducible refine (over_calls x y 10000000000000000000 V.out.1 V.out.2.1 u_unit (by decide) _).mono ?_); rintro e w' ⟨rfl, hb'⟩))
      have B0' := Aside0.mk (blk_below B0.out hb')
      have B1' := Aside0.mk (blk_below B1.out hb')
      have HB' := Aside0.mk (below_step HB.out hb')
      have lt1 := blk_lt B1'.out
      obtain ⟨g5, h5⟩ : ∃ g, w'.heap.size = g := ⟨_, rfl⟩
      have hn := Aside0.mk (blk_new w' (.cells #[.int .u64 (hiOf (val x y / 10000000000000000000)), .int .u64 (loOf (val x y / 10000000000000000000))] 25))
      have qe : val x y / 10000000000000000000 = val a b / 10 ^ (39 - (1 : Int).toNat) := by
        have e1 := V.out.2.2
        have e2 : (10000000000000000000 : Int) = 10 ^ 19 := rfl
        rw [e1, e2, ← ten_split]
        rfl
      have q0 : 0 ≤ val x y / 10000000000000000000 := by
        have := (val_range x y V.out.1 V.out.2.1).1
        omega
      have q1 : val x y / 10000000000000000000 < m128 := by
        have := (val_range x y V.out.1 V.out.2.1).2
        have := (val_range x y V.out.1 V.out.2.1).1
        omega
      have uq := Aside0.mk (u_hiOf _ q0 q1)
      have re : ∀ j : Nat, j < 19 → val x y % 10000000000000000000 / 10 ^ j % 10 = val a b / 10 ^ (39 - (20 : Int).toNat + j) % 10 := by
        intro j hj
        have e2 : (10000000000000000000 : Int) = 10 ^ 19 := rfl
        rw [e2, dig_rest _ (val_range x y V.out.1 V.out.2.1).1 j hj, V.out.2.2, ← ten_split]
      have r0 : 0 ≤ val x y % 10000000000000000000 := by omega
      have r1 : val x y % 10000000000000000000 < 10000000000000000000 := by omega
      have RE := Aside0.mk re
      have QE := Aside0.mk ((val_halves _).trans qe)
      clear re qe q0 q1
      rw [h5] at hn lt1
      generalize hiOf (val x y / 10000000000000000000) = qh at *
      generalize loOf (val x y / 10000000000000000000) = ql at *
      generalize val x y % 10000000000000000000 = R at *
      have B0'' := Aside0.mk (blk_alloc B0'.out (.cells #[.int .u64 qh, .int .u64 ql] 25))
      have B1'' := Aside0.mk (blk_alloc B1'.out (.cells #[.int .u64 qh, .int .u64 ql] 25))
      have HB'' := Aside0.mk (below_alloc HB'.out (.cells #[.int .u64 qh, .int .u64 ql] 25))
      generalize hW : w'.alloc (.cells #[.int .u64 qh, .int .u64 ql] 25) = W at *
      simp only [h5]
      clear hb' B0 B1 HB B0' B1' HB' hW h5 cz0 cz1
      go_loopg [4, 6, 19] 20 (fun g v4 v6 v19 W => ∃ (j : Nat) (L : List Int), v4 = .int .i64 (20 - (j : Int)) ∧ v6 = .int .u64 (R / 10 ^ j) ∧ v19 = .int .i64 (j : Int) ∧ Aside0 (j ≤ 19 ∧ 19 ≤ j + g) ∧ Aside0 (L.length = 39) ∧ Aside0 (∀ i : Nat, i < 39 → 20 - (j : Int) ≤ i → L.getD i 0 = val a b / 10 ^ (38 - i) % 10) ∧ Aside0 (W.heap[w.heap.size]? = some (.cells #[.int .u64 x, .int .u64 y] 25 (0, 0))) ∧ Aside0 (W.heap[w.heap.size + 1]? = some (.cells (nums .u8 L).toArray 124 (0, 0))) ∧ Aside0 (W.heap[g5]? = some (.cells #[.int .u64 qh, .int .u64 ql] 25 (0, 0))) ∧ Aside0 (Below w.heap.size w W))
      case atStart =>
        refine ⟨0, L, by simp, by simp, rfl, ⟨by omega, by omega⟩, hL, ⟨?_⟩, B0'', B1'', hn, HB''⟩
        intro i h1 h2
        exact D.out i h1 (by simpa using h2)
      case round =>
        obtain ⟨j, L, rfl, rfl, rfl, J, hL, D, B0, B1, B5, HB⟩ := hrel
        by_cases c2 : j < 19
        · have c2b : decide ((j : Int) < 19) = true := decide_eq_true (by omega)
          have wj : wrap64 (20 - (j : Int) - 1) = ((20 - j - 1 : Nat) : Int) := by rw [wi _ (by omega) (by omega)]; omega
          have p0 : 0 ≤ R / 10 ^ j := Int.ediv_nonneg r0 (Int.le_of_lt (ten_pos j))
          have p1 : R / 10 ^ j ≤ R := Int.ediv_le_self _ r0
          have t10 : Int.tmod (R / 10 ^ j) 10 = R / 10 ^ j % 10 := Int.tmod_eq_emod_of_nonneg p0
          have d10 : Int.tdiv (R / 10 ^ j) 10 = R / 10 ^ (j + 1) := by rw [Int.tdiv_eq_ediv_of_nonneg p0, ten_split]; rfl
          have fz := blk_frozen B1.out (20 - j - 1)
          have cz := (blk_cell B1.out (20 - j - 1)).trans (cell_nums L _ (by rw [hL.out]; omega))
          have wq : IntKind.u64.wrap (R / 10 ^ (j + 1)) = R / 10 ^ (j + 1) := by
            rw [← d10, Int.tdiv_eq_ediv_of_nonneg p0]
            exact wu _ (by omega) (by omega)
          obtain ⟨gi, rfl⟩ : ∃ g, gk = g + 1 := ⟨gk - 1, by have := J.out; omega⟩
          go_wp2
          go_roundg gi
          case measure => omega
          case rel =>
            refine ⟨j + 1, L.set (20 - j - 1) (R / 10 ^ j % 10), ?_, rfl, ?_, ⟨?_⟩, ⟨?_⟩, ⟨?_⟩, ⟨?_⟩, ⟨?_⟩, ⟨?_⟩, ⟨?_⟩⟩
            · rw [show (20 : Int) - ((j + 1 : Nat) : Int) = 20 - (j : Int) - 1 from by omega]
            · rw [show ((j + 1 : Nat) : Int) = (j : Int) + 1 from by omega]
            · have := J.out; omega
            · rw [List.length_set]; exact hL.out
            · have := dig_put (val a b) L (20 - j - 1) (by omega) hL.out (fun i h1 h2 => D.out i h1 (by omega)) (R / 10 ^ j % 10) (by rw [RE.out j (by omega)]; congr 3; show (_ : Nat) = _; simp; omega)
              intro i h1 h2
              exact this i h1 (by omega)
            · exact blk_far B0.out (by show w.heap.size ≠ w.heap.size + 1; omega) _
            · exact blk_put B1.out _ _ (set_nums ..)
            · exact blk_far B5.out (by show g5 ≠ w.heap.size + 1; omega) _
            · exact below_set HB.out (by omega)
        · have c2b : decide ((j : Int) < 19) = false := decide_eq_false (by omega)
          obtain rfl : j = 19 := by have := J.out; omega
          have cy0 : wr.cell? ⟨g5, 0, none⟩ = some (.int .u64 qh) := (blk_cell B5.out 0).trans rfl
          have cy1 : wr.cell? ⟨g5, 1, none⟩ = some (.int .u64 ql) := (blk_cell B5.out 1).trans rfl
          have cz0 : wr.cell? ⟨w.heap.size, 0, none⟩ = some (.int .u64 x) := (blk_cell B0.out 0).trans rfl
          have cz1 : wr.cell? ⟨w.heap.size, 1, none⟩ = some (.int .u64 y) := (blk_cell B0.out 1).trans rfl
          have fz0 := blk_frozen B0.out 0
          have fz1 := blk_frozen B0.out 1
          go_wp2
          go_roundg go_
          case measure => omega
          case rel =>
            refine ⟨1, qh, ql, L, rfl, ⟨?_⟩, ⟨uq.out.1, uq.out.2, QE.out⟩, hL, ⟨?_⟩, ⟨?_⟩, ⟨?_⟩, ⟨?_⟩⟩
            · omega
            · intro i h1 h2
              exact D.out i h1 (by omega)
            · exact blk_put (blk_put B0.out 0 _ rfl) 1 _ rfl
            · exact blk_far (blk_far B1.out (by show w.heap.size + 1 ≠ w.heap.size; omega) _) (by show w.heap.size + 1 ≠ w.heap.size; omega) _
            · exact below_set (below_set HB.out (Nat.le_refl _)) (Nat.le_refl _)
    · clear C
      obtain ⟨go_, rfl⟩ : ∃ g, gk = g + 1 := ⟨gk - 1, by omega⟩
      go_wp2_with (first | (go_at_call 58; (with_reducible refine (over_calls x y 10000000000000000000 V.out.1 V.out.2.1 u_unit (by decide) _).mono ?_); rintro e w' ⟨rfl, hb'⟩))
      have B0' := Aside0.mk (blk_below B0.out hb')
      have B1' := Aside0.mk (blk_below B1.out hb')
      have HB' := Aside0.mk (below_step HB.out hb')
      have lt1 := blk_lt B1'.out
      obtain ⟨g5, h5⟩ : ∃ g, w'.heap.size = g := ⟨_, rfl⟩
      have hn := Aside0.mk (blk_new w' (.cells #[.int .u64 (hiOf (val x y / 10000000000000000000)), .int .u64 (loOf (val x y / 10000000000000000000))] 25))
      have qe : val x y / 10000000000000000000 = val a b / 10 ^ (39 - (0 : Int).toNat) := by
        have e1 := V.out.2.2
        have e2 : (10000000000000000000 : Int) = 10 ^ 19 := rfl
        have m := m39
        have t1 : (39 - (1 : Int).toNat) = 38 := rfl
        have t0 : (39 - (0 : Int).toNat) = 39 := rfl
        rw [t1] at e1
        rw [t0, e1, e2, ← ten_split]
        have f1 : (10 : Int) ^ 39 ≤ 10 ^ (38 + 19) := ten_mono 39 18
        rw [Int.ediv_eq_zero_of_lt V0 (by omega), Int.ediv_eq_zero_of_lt V0 (by omega)]
      have q0 : 0 ≤ val x y / 10000000000000000000 := by
        have := (val_range x y V.out.1 V.out.2.1).1
        omega
      have q1 : val x y / 10000000000000000000 < m128 := by
        have := (val_range x y V.out.1 V.out.2.1).2
        have := (val_range x y V.out.1 V.out.2.1).1
        omega
      have uq := Aside0.mk (u_hiOf _ q0 q1)
      have re : ∀ j : Nat, j < 19 → val x y % 10000000000000000000 / 10 ^ j % 10 = val a b / 10 ^ (39 - (1 : Int).toNat + j) % 10 := by
        intro j hj
        have e2 : (10000000000000000000 : Int) = 10 ^ 19 := rfl
        rw [e2, dig_rest _ (val_range x y V.out.1 V.out.2.1).1 j hj, V.out.2.2, ← ten_split]
      have r0 : 0 ≤ val x y % 10000000000000000000 := by omega
      have r1 : val x y % 10000000000000000000 < 10000000000000000000 := by omega
      have RE := Aside0.mk re
      have QE := Aside0.mk ((val_halves _).trans qe)
      clear re qe q0 q1
      rw [h5] at hn lt1
      generalize hiOf (val x y / 10000000000000000000) = qh at *
      generalize loOf (val x y / 10000000000000000000) = ql at *
      generalize val x y % 10000000000000000000 = R at *
      have B0'' := Aside0.mk (blk_alloc B0'.out (.cells #[.int .u64 qh, .int .u64 ql] 25))
      have B1'' := Aside0.mk (blk_alloc B1'.out (.cells #[.int .u64 qh, .int .u64 ql] 25))
      have HB'' := Aside0.mk (below_alloc HB'.out (.cells #[.int .u64 qh, .int .u64 ql] 25))
      generalize hW : w'.alloc (.cells #[.int .u64 qh, .int .u64 ql] 25) = W at *
      simp only [h5]
      clear hb' B0 B1 HB B0' B1' HB' hW h5 cz0 cz1
      go_loopg [4, 6, 19] 20 (fun g v4 v6 v19 W => ∃ (j : Nat) (L : List Int), v4 = .int .i64 (1 - (j : Int)) ∧ v6 = .int .u64 (R / 10 ^ j) ∧ v19 = .int .i64 (j : Int) ∧ Aside0 (j ≤ 1 ∧ 1 ≤ j + g) ∧ Aside0 (L.length = 39) ∧ Aside0 (∀ i : Nat, i < 39 → 1 - (j : Int) ≤ i → L.getD i 0 = val a b / 10 ^ (38 - i) % 10) ∧ Aside0 (W.heap[w.heap.size]? = some (.cells #[.int .u64 x, .int .u64 y] 25 (0, 0))) ∧ Aside0 (W.heap[w.heap.size + 1]? = some (.cells (nums .u8 L).toArray 124 (0, 0))) ∧ Aside0 (W.heap[g5]? = some (.cells #[.int .u64 qh, .int .u64 ql] 25 (0, 0))) ∧ Aside0 (Below w.heap.size w W))
      case atStart =>
        refine ⟨0, L, by simp, by simp, rfl, ⟨by omega, by omega⟩, hL, ⟨?_⟩, B0'', B1'', hn, HB''⟩
        intro i h1 h2
        exact D.out i h1 (by simpa using h2)
      case round =>
        obtain ⟨j, L, rfl, rfl, rfl, J, hL, D, B0, B1, B5, HB⟩ := hrel
        by_cases c2 : j < 1
        · obtain rfl : j = 0 := by omega
          obtain ⟨gi, rfl⟩ : ∃ g, gk = g + 1 := ⟨gk - 1, by have := J.out; omega⟩
          have t10 : Int.tmod R 10 = R % 10 := Int.tmod_eq_emod_of_nonneg r0
          have d10 : Int.tdiv R 10 = R / 10 := Int.tdiv_eq_ediv_of_nonneg r0
          have wq : IntKind.u64.wrap (R / 10) = R / 10 := wu _ (by omega) (by omega)
          have p : R / 10 ^ 0 = R := by rw [Int.pow_zero, Int.ediv_one]
          simp only [p]
          have fz := blk_frozen B1.out 0
          have cz := (blk_cell B1.out 0).trans (cell_nums L 0 (by rw [hL.out]; omega))
          go_wp2
          go_roundg gi
          case measure => omega
          case rel =>
            refine ⟨1, L.set 0 (R % 10), ?_, ?_, rfl, ⟨?_⟩, ⟨?_⟩, ⟨?_⟩, ⟨?_⟩, ⟨?_⟩, ⟨?_⟩, ⟨?_⟩⟩
            · rfl
            · rfl
            · omega
            · rw [List.length_set]; exact hL.out
            · have := dig_put (val a b) L 0 (by omega) hL.out (fun i h1 h2 => D.out i h1 (by omega)) (R % 10) (by have e := RE.out 0 (by omega); rw [p] at e; exact e)
              intro i h1 h2
              exact this i h1 (by omega)
            · exact blk_far B0.out (by show w.heap.size ≠ w.heap.size + 1; omega) _
            · exact blk_put B1.out _ _ (set_nums ..)
            · exact blk_far B5.out (by show g5 ≠ w.heap.size + 1; omega) _
            · exact below_set HB.out (by omega)
        · have c2b : decide ((j : Int) < 1) = false := decide_eq_false (by omega)
          obtain rfl : j = 1 := by have := J.out; omega
          have cy0 : wr.cell? ⟨g5, 0, none⟩ = some (.int .u64 qh) := (blk_cell B5.out 0).trans rfl
          have cy1 : wr.cell? ⟨g5, 1, none⟩ = some (.int .u64 ql) := (blk_cell B5.out 1).trans rfl
          have cz0 : wr.cell? ⟨w.heap.size, 0, none⟩ = some (.int .u64 x) := (blk_cell B0.out 0).trans rfl
          have cz1 : wr.cell? ⟨w.heap.size, 1, none⟩ = some (.int .u64 y) := (blk_cell B0.out 1).trans rfl
          have fz0 := blk_frozen B0.out 0
          have fz1 := blk_frozen B0.out 1
          go_wp2
          go_roundg go_
          case measure => omega
          case rel =>
            refine ⟨0, qh, ql, L, rfl, ⟨?_⟩, ⟨uq.out.1, uq.out.2, QE.out⟩, hL, ⟨?_⟩, ⟨?_⟩, ⟨?_⟩, ⟨?_⟩⟩
            · omega
            · intro i h1 h2
              exact D.out i h1 (by omega)
            · exact blk_put (blk_put B0.out 0 _ rfl) 1 _ rfl
            · exact blk_far (blk_far B1.out (by show w.heap.size + 1 ≠ w.heap.size; omega) _) (by show w.heap.size + 1 ≠ w.heap.size; omega) _
            · exact below_set (below_set HB.out (Nat.le_refl _)) (Nat.le_refl _)
    · clear C
      go_wp2
      go_loopg [8] 40 (fun g v8 W => ∃ (j : Nat), v8 = .int .i64 (j : Int) ∧ Aside0 (j ≤ 38 ∧ 38 ≤ j + g) ∧ Aside0 (valD (L.drop j) = val a b) ∧ Aside0 (W.heap[w.heap.size + 1]? = some (.cells (nums .u8 L).toArray 124 (0, 0))) ∧ Aside0 (Below w.heap.size w W))
      case atStart =>
        refine ⟨0, rfl, ⟨by omega, by omega⟩, ⟨?_⟩, B1, HB⟩
        have m := m39
        exact val_all 39 L (val a b) hL.out V0 (by omega) (fun i hi => D.out i hi (by omega))
      case round =>
        clear cz0 cz1 B1 HB
        obtain ⟨j, rfl, J, S, B1, HB⟩ := hrel
        have hj := J.out.1
        have j39 : (j : Int) ≤ 39 := by omega
        have j0 : (0 : Int) ≤ (j : Int) := by omega
        have cz := (blk_cell B1.out j).trans (cell_nums L j (by rw [hL.out]; omega))
        by_cases c2 : j < 38
        · have c2b : decide ((j : Int) < 38) = true := decide_eq_true (by omega)
          obtain ⟨z, hz⟩ : ∃ z, L.getD j 0 = z := ⟨_, rfl⟩
          rw [hz] at cz
          by_cases c3 : z = 0
          · obtain ⟨gi, rfl⟩ : ∃ g, gk = g + 1 := ⟨gk - 1, by have := J.out; omega⟩
            rw [c3] at cz
            go_wp2
            go_roundg gi
            case measure => omega
            case rel =>
              refine ⟨j + 1, ?_, ⟨?_⟩, ⟨?_⟩, B1, HB⟩
              · rw [show ((j + 1 : Nat) : Int) = (j : Int) + 1 from by omega]
              · have := J.out; omega
              · rw [val_skip L j (by rw [hL.out]; omega) (hz.trans c3)]; exact S.out
          · have c3b : (z == 0) = false := beq_eq_false_iff_ne.mpr c3
            go_wp2
            have dL : Dig (L.drop j) := by
              intro d hd
              obtain ⟨i, hi, e⟩ := List.mem_iff_getElem.1 (List.mem_of_mem_drop hd)
              have q := D.out i (by have := hL.out; omega) (by omega)
              rw [List.getD_eq_getElem?_getD, List.getElem?_eq_getElem hi] at q
              have q' : d = val a b / 10 ^ (38 - i) % 10 := e ▸ q
              omega
            have ld : (L.drop j).length = (38 - j) + 1 := by rw [List.length_drop, hL.out]; omega
            have m := m39
            have un := dec_uniq (38 - j) 38 (L.drop j) ld dL (fun _ => by
              rw [List.drop_eq_getElem_cons (by rw [hL.out]; omega)]
              intro e
              rw [List.head?_cons] at e
              apply c3
              rw [← hz, List.getD_eq_getElem?_getD, List.getElem?_eq_getElem (by rw [hL.out]; omega)]
              exact Option.some.inj e) (by rw [S.out]; omega)
            rw [S.out] at un
            have dl : (dec (val a b)).length = 39 - j := by
              show (decF 38 (val a b)).length = _
              rw [un, ld]; omega
            go_ret
            exact ⟨w.heap.size + 1, j, L, by rw [dl]; rfl, B1.out, by omega, hL.out, by rw [dl]; omega, un.symm, HB.out⟩
        · have c2b : decide ((j : Int) < 38) = false := decide_eq_false (by omega)
          go_wp2
          have dL : Dig (L.drop j) := by
            intro d hd
            obtain ⟨i, hi, e⟩ := List.mem_iff_getElem.1 (List.mem_of_mem_drop hd)
            have q := D.out i (by have := hL.out; omega) (by omega)
            rw [List.getD_eq_getElem?_getD, List.getElem?_eq_getElem hi] at q
            have q' : d = val a b / 10 ^ (38 - i) % 10 := e ▸ q
            omega
          have ld : (L.drop j).length = (38 - j) + 1 := by rw [List.length_drop, hL.out]; omega
          have m := m39
          have un := dec_uniq (38 - j) 38 (L.drop j) ld dL (fun h => by omega) (by rw [S.out]; omega)
          rw [S.out] at un
          have dl : (dec (val a b)).length = 39 - j := by
            show (decF 38 (val a b)).length = _
            rw [un, ld]; omega
          go_ret
          exact ⟨w.heap.size + 1, j, L, by rw [dl]; rfl, B1.out, by omega, hL.out, by rw [dl]; omega, un.symm, HB.out⟩
end Go.Proofs.Ytpkjpiphjdpegaa.P
namespace Go.Proofs.Ytpkjpiphjdpegaa.P
open Go.RowKit Go.Proofs.YtpkjpiphjdpegaaW.PrintWords Go.Proofs.YtpkjpiphjdpegaaW.PrintLast Go.Proofs.YtpkjpiphjdpegaaW.PrintMore
set_option linter.unusedVariables false
set_option linter.unusedSimpArgs false
theorem drop_set (L : List Int) (s j : Nat) (v : Int) : (L.set (s + j) v).drop s = (L.drop s).set j v := by
  rw [List.drop_set, if_neg (by omega), Nat.add_sub_cancel_left]
theorem set_asc (D : List Int) (j : Nat) (hj : j < D.length) : (asc (D.take j) ++ D.drop j).set j (D.getD j 0 + 48) = asc (D.take (j + 1)) ++ D.drop (j + 1) := by
  have l : (asc (D.take j)).length = j := by simp [asc]; omega
  have e : D.getD j 0 = D[j] := by rw [List.getD_eq_getElem?_getD, List.getElem?_eq_getElem hj]; rfl
  rw [List.set_append_right _ _ (by omega), l, Nat.sub_self, List.drop_eq_getElem_cons hj, List.set_cons_zero, List.take_succ_eq_append_getElem hj, e]
  unfold asc
  rw [List.map_append, List.append_assoc]
  rfl
set_option maxHeartbeats 4000000 in
set_option maxRecDepth 100000 in
theorem decimal_Text.calls (a0_0 a0_1 : Int) (r : ByteArray) (w : World) (h : decimal_Text.f a0_0 a0_1 = some r) :
    Calls Try.prog 78 #[.agg #[.int .u64 a0_0, .int .u64 a0_1]] w fun e w' => e = .returned (.string r) ∧ Below w.heap.size w w' := by
  have hu : U64 a0_0 ∧ U64 a0_1 := by
    unfold decimal_Text.f at h
    split at h
    · assumption
    · cases h
  rw [text_num _ _ hu.1 hu.2] at h
  obtain rfl := Option.some.inj h
  clear h
  have D1 := dec_facts (val a0_0 a0_1) (val_range _ _ hu.1 hu.2).1 (val_range _ _ hu.1 hu.2).2
  have cl := decimal_digits_calls a0_0 a0_1 hu.1 hu.2
  generalize dec (val a0_0 a0_1) = D at *
  obtain ⟨_, dD, l0, l1⟩ := D1
  go_enter Try.func78, Try.ntmps78
  go_wp2_with (first | (go_at_call 91; (with_reducible refine (cl _).mono ?_); rintro e w' ⟨g, s, L, rfl, hg, hge, hl, hs, hd, hb⟩; rw [World.size_alloc] at hge; have HB0 := Aside0.mk (below_step (below_alloc (Below.refl _ _) _) hb); clear hb; have HG := Aside0.mk hg; clear hg))
  go_loopg [9] 40 (fun gk v9 W => ∃ (j : Nat) (L : List Int), v9 = .int .i64 (j : Int) ∧ Aside0 (j ≤ D.length ∧ D.length ≤ j + gk) ∧ Aside0 (L.length = 39) ∧ Aside0 (L.drop s = asc (D.take j) ++ D.drop j) ∧ Aside0 (W.heap[g]? = some (.cells (nums .u8 L).toArray 124 (0, 0))) ∧ Aside0 (Below w.heap.size w W))
  case atStart => exact ⟨0, L, rfl, ⟨by omega, by omega⟩, ⟨hl⟩, ⟨by rw [hd]; rfl⟩, HG, HB0⟩
  case round =>
    clear HG HB0 hd hl cl
    obtain ⟨j, L, rfl, J, hl, hd, HG, HB⟩ := hrel
    by_cases c : j < D.length
    · have cb : decide ((j : Int) < (D.length : Int)) = true := decide_eq_true (by omega)
      obtain ⟨gi, rfl⟩ : ∃ g, gk = g + 1 := ⟨gk - 1, by have := J.out; omega⟩
      have fz := blk_frozen HG.out (s + j)
      have q : L.getD (s + j) 0 = D.getD j 0 := by
        have e : L.getD (s + j) 0 = (L.drop s).getD j 0 := by rw [List.getD_eq_getElem?_getD, List.getD_eq_getElem?_getD, List.getElem?_drop]
        have l : (asc (D.take j)).length = j := by simp [asc]; omega
        rw [e, hd.out, List.getD_eq_getElem?_getD, List.getElem?_append_right (by omega), l, Nat.sub_self, List.getElem?_drop, Nat.add_zero, List.getD_eq_getElem?_getD]
      have cz := (blk_cell HG.out (s + j)).trans (cell_nums L (s + j) (by have := hl.out; omega))
      rw [q] at cz
      have dz : 0 ≤ D.getD j 0 ∧ D.getD j 0 < 10 := by
        rw [List.getD_eq_getElem?_getD, List.getElem?_eq_getElem c]
        exact dD _ (List.getElem_mem c)
      have sa := set_asc D j c
      generalize D.getD j 0 = z at *
      have wz : IntKind.u8.wrap (z + 48) = z + 48 := by rw [IntKind.wrap_u8]; omega
      go_wp2
      go_roundg gi
      case measure => omega
      case rel =>
        refine ⟨j + 1, L.set (s + j) (z + 48), ?_, ⟨?_⟩, ⟨?_⟩, ⟨?_⟩, ⟨?_⟩, ⟨?_⟩⟩
        · rw [show ((j + 1 : Nat) : Int) = (j : Int) + 1 from by omega]
        · have := J.out; omega
        · rw [List.length_set]; exact hl.out
        · rw [drop_set, hd.out, sa]
        · exact blk_put HG.out _ _ (set_nums ..)
        · exact below_set HB.out (by omega)
    · have cb : decide ((j : Int) < (D.length : Int)) = false := decide_eq_false (by omega)
      obtain rfl : j = D.length := by have := J.out; omega
      have hd' : L.drop s = asc D := by rw [hd.out, List.take_length, List.drop_length, List.append_nil]
      have la : (asc D).length = D.length := by simp [asc]
      have cv := run_convert_bytes_arg (P := Try.prog) wr 99 5 Try.underlying99 Try.underlying5 g s D.length D.length (asc D) la (fun i hi => by
        have e1 := (blk_cell HG.out (s + i)).trans (cell_nums L (s + i) (by have := hl.out; omega))
        rw [e1, ← hd', List.getD_eq_getElem?_getD, List.getD_eq_getElem?_getD, List.getElem?_drop]) 9 Try.underlying9
      go_wp2
      go_ret
      exact ⟨rfl, HB.out⟩
end Go.Proofs.Ytpkjpiphjdpegaa.P
namespace Go.Proofs.Ytpkjpiphjdpegaa.P
open Go.RowKit Go.Proofs.YtpkjpiphjdpegaaW.PrintWords Go.Proofs.YtpkjpiphjdpegaaW.PrintLast Go.Proofs.YtpkjpiphjdpegaaW.PrintMore
attribute [local go_sem] max2_int min2_int max_two min_two max_three min_three max_four min_four
set_option linter.unusedVariables false
set_option linter.unusedSimpArgs false
attribute [local go_sem high] eqA25
def paymasterref02_Text.f : Nat → Int → Int → Option (ByteArray)
  | 0, _, _ => none
  | k + 1, a0_0, a0_1 => (paymasterref01_Over.f k a0_0 a0_1 10).bind fun bt1024 => ((some (([(48 + ((bt1024.2.2.1) % 256)) % 256] : List Int) : List Int)).bind fun y1029 => (if (bt1024.1 == 0 && (bt1024.2.1 == 0)) = true then (some (strOfNums y1029)) else ((paymasterref02_Text.f k bt1024.1 bt1024.2.1).bind fun t1032 => (if t1032.size + (strOfNums y1029).size ≤ 9223372036854775807 then (some (t1032 ++ (strOfNums y1029))) else (none)))))
set_option maxHeartbeats 8000000 in
set_option maxRecDepth 100000 in
theorem paymasterref02_Text.calls (k : Nat) : ∀ (a0_0 : Int) (a0_1 : Int) (r : ByteArray) (w : World) (h : paymasterref02_Text.f k a0_0 a0_1 = some r),
    Calls Try.prog 63 #[.agg #[.int .u64 a0_0, .int .u64 a0_1]] w fun e w' => e = .returned (.string r) ∧ Below w.heap.size w w' := by
  induction k using Nat.strongRecOn with
  | _ k ih =>
  intro a0_0 a0_1 r w h
  cases k with
  | zero => exact absurd h (by simp [paymasterref02_Text.f])
  | succ k =>
  simp only [paymasterref02_Text.f] at h
  have hu25 := Try.underlying25
  have HB := Aside0.mk (Below.refl w.heap.size w)
  have H : ((paymasterref01_Over.f k a0_0 a0_1 10).bind fun bt1024 => ((some (([(48 + ((bt1024.2.2.1) % 256)) % 256] : List Int) : List Int)).bind fun y1029 => (if (bt1024.1 == 0 && (bt1024.2.1 == 0)) = true then (some (strOfNums y1029)) else ((paymasterref02_Text.f k bt1024.1 bt1024.2.1).bind fun t1032 => (if t1032.size + (strOfNums y1029).size ≤ 9223372036854775807 then (some (t1032 ++ (strOfNums y1029))) else (none)))))) = some r := h
  clear h
  replace H := Option.bind_eq_some_iff.mp H
  obtain ⟨⟨t1024, t1025, t1026, t1027⟩, A20, H⟩ := H
  replace H : ((some (([(48 + ((t1026) % 256)) % 256] : List Int) : List Int)).bind fun y1029 => (if (t1024 == 0 && (t1025 == 0)) = true then (some (strOfNums y1029)) else ((paymasterref02_Text.f k t1024 t1025).bind fun t1032 => (if t1032.size + (strOfNums y1029).size ≤ 9223372036854775807 then (some (t1032 ++ (strOfNums y1029))) else (none))))) = some r := H
  have A2 := Aside0.mk A20
  clear A20
  obtain ⟨y1029, hy1029⟩ : ∃ y_ : List Int, y_ = (([(48 + ((t1026) % 256)) % 256] : List Int)) := ⟨_, rfl⟩
  replace H : (if (t1024 == 0 && (t1025 == 0)) = true then (some (strOfNums y1029)) else ((paymasterref02_Text.f k t1024 t1025).bind fun t1032 => (if t1032.size + (strOfNums y1029).size ≤ 9223372036854775807 then (some (t1032 ++ (strOfNums y1029))) else (none)))) = some r := by first | (rw [hy1029]; with_reducible exact H) | (have H2_ := (Option.bind_some _ _).symm.trans H; rw [hy1029]; with_reducible exact H2_) | (have H2_ := (Option.bind_some _ _).symm.trans H; with_reducible exact H2_) | with_reducible exact H | (rw [hy1029]; exact H) | exact H
  have Ny1029 := Aside0.mk hy1029
  clear hy1029
  by_cases c3 : (t1024 == 0 && (t1025 == 0)) = true
  · rw [if_pos c3] at H
    have c3b0 : (t1024 == 0 && (t1025 == 0)) = true := c3
    (try (have c3b1 : decide (t1024 = 0 && (t1025 == 0)) = true := by simpa using c3))
    (try (have c3b2 : (t1024 == 0 && (t1025 == 0)) = true := by simpa using c3))
    clear c3
    obtain rfl := Option.some.inj H
    go_enter Try.func63, Try.ntmps63
    go_wp2_with (first | ((with_reducible refine gate_dst (N := 1) rfl ?_); refine box_event ?hg (N := 1) ?hd (cs := #[.int .u64 a0_0, .int .u64 a0_1]) (t := 25) ?hr ?_; (case hd => rfl); (case hg => rfl); (case hr => first | (go_simp; done) | (go_simp; rfl)); intro gb1023 hg w4 hbox hb; have n0_ := Aside0.mk (below_step (by repeat (first | (with_reducible first | exact HB.out | apply below_alloc | apply pw_below_drewN | apply below_drew1) | exact HB.out)) hb); have n1_ := Aside0.mk (hbox); have n2_ := Aside0.mk ((by rw [hg]; exact (below_size (by repeat (first | (with_reducible first | exact HB.out | apply below_alloc | apply pw_below_drewN | apply below_drew1) | exact HB.out))) : w.heap.size ≤ gb1023)); have n3_ := Aside0.mk ((by rw [hg]; exact (below_size (by repeat (first | (with_reducible first | exact HB.out | apply below_alloc | apply pw_below_drewN | apply below_drew1) | exact HB.out))) : w.heap.size ≤ gb1023)); clear HB; have HB := n0_; have BK1023 := n1_; have GW1023 := n2_; have GE1023 := n3_; clear n0_ n1_ n2_ n3_; clear hb hbox hg; have hcz5_0 : w4.cell? ⟨gb1023, 0, none⟩ = some (.int .u64 a0_0) := (blk_cell BK1023.out 0).trans rfl; have hcz5_1 : w4.cell? ⟨gb1023, 1, none⟩ = some (.int .u64 a0_1) := (blk_cell BK1023.out 1).trans rfl; have hfz5_0 := blk_frozen BK1023.out 0; have hfz5_1 := blk_frozen BK1023.out 1) | ((with_reducible refine gate_callee (f := 59) rfl ?_); refine goesL_ (some 9) rfl rfl Try.func59 (by kernel_rfl) rfl #[.agg #[.int .u64 a0_0, .int .u64 a0_1], .int .u64 10] rfl (by (try simp only [List.map_toArray, List.map_cons, List.map_nil]); first | done | rfl | (simp only [List.length_drop, List.length_take]; rfl)) ?_; (with_reducible refine (paymasterref01_Over.calls k a0_0 a0_1 10 t1024 t1025 t1026 t1027 _ A2.out).mono ?_); rintro e w6 ⟨rfl, hb⟩; refine ⟨_, rfl, ?_⟩; have n0_ := Aside0.mk (blk_below (g := gb1023) (o := .cells #[.int .u64 a0_0, .int .u64 a0_1] 25 (0, 0)) (by (with_reducible repeat (first | refine blk_drewN ?_ _ | refine blk_drew ?_ | refine blk_alloc ?_ _)); exact BK1023.out) hb); have n1_ := Aside0.mk (below_step (by repeat (first | (with_reducible first | exact HB.out | apply below_alloc | apply pw_below_drewN | apply below_drew1 | refine below_set ?_ GE1023.out) | exact HB.out)) hb); clear BK1023; clear HB; have BK1023 := n0_; have HB := n1_; clear n0_ n1_; (try clear hb); (try clear hb2); (try clear hk); (try clear hi)) | ((with_reducible refine gate_dst (N := 3) rfl ?_); refine box_event ?hg (N := 3) ?hd (cs := #[.int .u64 0, .int .u64 0]) (t := 25) ?hr ?_; (case hd => rfl); (case hg => rfl); (case hr => first | (go_simp; done) | (go_simp; rfl)); intro gb1028 hg w7 hbox hb; have n0_ := Aside0.mk (blk_below (g := gb1023) (o := .cells #[.int .u64 a0_0, .int .u64 a0_1] 25 (0, 0)) (by (with_reducible repeat (first | refine blk_drewN ?_ _ | refine blk_drew ?_ | refine blk_alloc ?_ _)); exact BK1023.out) hb); have n1_ := Aside0.mk (below_step (by repeat (first | (with_reducible first | exact HB.out | apply below_alloc | apply pw_below_drewN | apply below_drew1 | refine below_set ?_ GE1023.out) | exact HB.out)) hb); have n2_ := Aside0.mk (hbox); have n3_ := Aside0.mk ((by rw [hg]; exact (below_size (by repeat (first | (with_reducible first | exact HB.out | apply below_alloc | apply pw_below_drewN | apply below_drew1 | refine below_set ?_ GE1023.out) | exact HB.out))) : w.heap.size ≤ gb1028)); have n4_ := Aside0.mk ((by rw [hg]; exact (below_size (by repeat (first | (with_reducible first | exact HB.out | apply below_alloc | apply pw_below_drewN | apply below_drew1 | refine below_set ?_ GE1023.out) | exact HB.out))) : w.heap.size ≤ gb1028)); have n5_ := Aside0.mk ((by rw [hg]; exact Nat.ne_of_lt (blk_lt (g := gb1023) (o := .cells #[.int .u64 a0_0, .int .u64 a0_1] 25 (0, 0)) (by (with_reducible repeat (first | refine blk_drewN ?_ _ | refine blk_drew ?_ | refine blk_alloc ?_ _)); exact BK1023.out)) : gb1023 ≠ gb1028)); have n6_ := Aside0.mk ((by rw [hg]; exact Nat.ne_of_gt (blk_lt (g := gb1023) (o := .cells #[.int .u64 a0_0, .int .u64 a0_1] 25 (0, 0)) (by (with_reducible repeat (first | refine blk_drewN ?_ _ | refine blk_drew ?_ | refine blk_alloc ?_ _)); exact BK1023.out)) : gb1028 ≠ gb1023)); clear BK1023; clear HB; have BK1023 := n0_; have HB := n1_; have BK1028 := n2_; have GW1028 := n3_; have GE1028 := n4_; have NB1023_1028 := n5_; have NB1028_1023 := n6_; clear n0_ n1_ n2_ n3_ n4_ n5_ n6_; clear hb hbox hg; have hnb8 := NB1028_1023.out; have hnc8 := NB1023_1028.out; have hcz9_0 : w7.cell? ⟨gb1028, 0, none⟩ = some (.int .u64 0) := (blk_cell BK1028.out 0).trans rfl; have hcz9_1 : w7.cell? ⟨gb1028, 1, none⟩ = some (.int .u64 0) := (blk_cell BK1028.out 1).trans rfl; have hfz9_0 := blk_frozen BK1028.out 0; have hfz9_1 := blk_frozen BK1028.out 1) | ((with_reducible refine gate_dst (N := 16) rfl ?_); refine Kd.R_lit (Kd.int .u8) _ 5 ?hg (N := 16) ?hd (xs := ([(48 + ((t1026) % 256)) % 256] : List Int)) (inner := [.int .u8 ((48 + ((t1026) % 256)) % 256)]) (ok := fun _ => True) (okp := fun _ => True) ?hr ?hp (fun _ hk => hk) trivial (Below.refl _ _) (Nat.le_refl _) (by simp) ?_; (case hd => rfl); (case hg => rfl); (case hr => first | (go_simp; done) | (go_simp; rfl)); (case hp => exact (Reps.one (show Kd.M (Kd.int .u8) _ _ _ ((48 + ((t1026) % 256)) % 256) [.int .u8 ((48 + ((t1026) % 256)) % 256)] from rfl) (Reps.none _ _))); intro v1030 w10 ho11 hb hg_ hnew_; clear hg_ hnew_; (first | rw [← Ny1029.out] at ho11 | (simp only [Int.reduceToNat] at ho11; rw [← Ny1029.out] at ho11)); have n0_ := Aside0.mk (Kd.R_lower ho11 (below_size (by repeat (first | (with_reducible first | exact HB.out | apply below_alloc | apply pw_below_drewN | apply below_drew1 | refine below_set ?_ GE1023.out | refine below_set ?_ GE1028.out) | exact HB.out)))); have n1_ := Aside0.mk (blk_below (g := gb1023) (o := .cells #[.int .u64 a0_0, .int .u64 a0_1] 25 (0, 0)) (by (with_reducible repeat (first | refine blk_drewN ?_ _ | refine blk_drew ?_ | refine blk_alloc ?_ _)); refine blk_far ?_ NB1023_1028.out _; (with_reducible repeat (first | refine blk_drewN ?_ _ | refine blk_drew ?_ | refine blk_alloc ?_ _)); refine blk_far ?_ NB1023_1028.out _; (with_reducible repeat (first | refine blk_drewN ?_ _ | refine blk_drew ?_ | refine blk_alloc ?_ _)); exact BK1023.out) hb); have n2_ := Aside0.mk (blk_below (g := gb1028) (o := .cells #[.int .u64 t1024, .int .u64 t1025] 25 (0, 0)) (by (with_reducible repeat (first | refine blk_drewN ?_ _ | refine blk_drew ?_ | refine blk_alloc ?_ _)); refine blk_put (cs := #[.int .u64 t1024, .int .u64 0]) ?_ 1 _ rfl; (with_reducible repeat (first | refine blk_drewN ?_ _ | refine blk_drew ?_ | refine blk_alloc ?_ _)); refine blk_put (cs := #[.int .u64 0, .int .u64 0]) ?_ 0 _ rfl; (with_reducible repeat (first | refine blk_drewN ?_ _ | refine blk_drew ?_ | refine blk_alloc ?_ _)); exact BK1028.out) hb); have n3_ := Aside0.mk (below_step (by repeat (first | (with_reducible first | exact HB.out | apply below_alloc | apply pw_below_drewN | apply below_drew1 | refine below_set ?_ GE1023.out | refine below_set ?_ GE1028.out) | exact HB.out)) hb); clear BK1023; clear BK1028; clear HB; have HO1031 := n0_; have BK1023 := n1_; have BK1028 := n2_; have HB := n3_; clear n0_ n1_ n2_ n3_; clear hb ho11; have hcv12 := own_string (P := Try.prog) Try.underlying99 Try.underlying5 Try.underlying9 (Kd.own_of_R HO1031.out); have hcz13_0 : w10.cell? ⟨gb1028, 0, none⟩ = some (.int .u64 t1024) := (blk_cell BK1028.out 0).trans rfl; have hcz13_1 : w10.cell? ⟨gb1028, 1, none⟩ = some (.int .u64 t1025) := (blk_cell BK1028.out 1).trans rfl; have hfz13_0 := blk_frozen BK1028.out 0; have hfz13_1 := blk_frozen BK1028.out 1))
    go_ret
    exact ⟨by first | rfl | (simp [errW_none, errW_some] <;> rfl) | (simp [*, errW_none, errW_some] <;> rfl), by repeat (first | (with_reducible first | exact HB.out | apply below_alloc | apply pw_below_drewN | apply below_drew1 | refine below_set ?_ GE1023.out | refine below_set ?_ GE1028.out) | exact HB.out)⟩
  · rw [if_neg c3] at H
    have c3b0 : (t1024 == 0 && (t1025 == 0)) = false := by simpa using c3
    (try (have c3b1 : decide (t1024 = 0 && (t1025 == 0)) = false := by simpa using c3))
    (try (have c3b2 : (t1024 == 0 && (t1025 == 0)) = false := by simpa using c3))
    (try (have c3b3 : ¬ (t1024 = 0 && (t1025 == 0)) := by simpa using c3))
    clear c3
    replace H := Option.bind_eq_some_iff.mp H
    obtain ⟨t1032, A140, H⟩ := H
    replace H : (if t1032.size + (strOfNums y1029).size ≤ 9223372036854775807 then (some (t1032 ++ (strOfNums y1029))) else (none)) = some r := H
    have A14 := Aside0.mk A140
    clear A140
    by_cases c15 : t1032.size + (strOfNums y1029).size ≤ 9223372036854775807
    · rw [if_pos c15] at H
      have c15b0 := eq_true c15
      have c15b1 : decide (t1032.size + (strOfNums y1029).size ≤ 9223372036854775807) = true := decide_eq_true c15
      try have c15b2 : (9223372036854775807 < t1032.size + (strOfNums y1029).size) = False := eq_false (Nat.not_lt.2 c15)
      obtain rfl := Option.some.inj H
      go_enter Try.func63, Try.ntmps63
      go_wp2_with (first | ((with_reducible refine gate_dst (N := 1) rfl ?_); refine box_event ?hg (N := 1) ?hd (cs := #[.int .u64 a0_0, .int .u64 a0_1]) (t := 25) ?hr ?_; (case hd => rfl); (case hg => rfl); (case hr => first | (go_simp; done) | (go_simp; rfl)); intro gb1023 hg w16 hbox hb; have n0_ := Aside0.mk (below_step (by repeat (first | (with_reducible first | exact HB.out | apply below_alloc | apply pw_below_drewN | apply below_drew1) | exact HB.out)) hb); have n1_ := Aside0.mk (hbox); have n2_ := Aside0.mk ((by rw [hg]; exact (below_size (by repeat (first | (with_reducible first | exact HB.out | apply below_alloc | apply pw_below_drewN | apply below_drew1) | exact HB.out))) : w.heap.size ≤ gb1023)); have n3_ := Aside0.mk ((by rw [hg]; exact (below_size (by repeat (first | (with_reducible first | exact HB.out | apply below_alloc | apply pw_below_drewN | apply below_drew1) | exact HB.out))) : w.heap.size ≤ gb1023)); clear HB; have HB := n0_; have BK1023 := n1_; have GW1023 := n2_; have GE1023 := n3_; clear n0_ n1_ n2_ n3_; clear hb hbox hg; have hcz17_0 : w16.cell? ⟨gb1023, 0, none⟩ = some (.int .u64 a0_0) := (blk_cell BK1023.out 0).trans rfl; have hcz17_1 : w16.cell? ⟨gb1023, 1, none⟩ = some (.int .u64 a0_1) := (blk_cell BK1023.out 1).trans rfl; have hfz17_0 := blk_frozen BK1023.out 0; have hfz17_1 := blk_frozen BK1023.out 1) | ((with_reducible refine gate_callee (f := 59) rfl ?_); refine goesL_ (some 9) rfl rfl Try.func59 (by kernel_rfl) rfl #[.agg #[.int .u64 a0_0, .int .u64 a0_1], .int .u64 10] rfl (by (try simp only [List.map_toArray, List.map_cons, List.map_nil]); first | done | rfl | (simp only [List.length_drop, List.length_take]; rfl)) ?_; (with_reducible refine (paymasterref01_Over.calls k a0_0 a0_1 10 t1024 t1025 t1026 t1027 _ A2.out).mono ?_); rintro e w18 ⟨rfl, hb⟩; refine ⟨_, rfl, ?_⟩; have n0_ := Aside0.mk (blk_below (g := gb1023) (o := .cells #[.int .u64 a0_0, .int .u64 a0_1] 25 (0, 0)) (by (with_reducible repeat (first | refine blk_drewN ?_ _ | refine blk_drew ?_ | refine blk_alloc ?_ _)); exact BK1023.out) hb); have n1_ := Aside0.mk (below_step (by repeat (first | (with_reducible first | exact HB.out | apply below_alloc | apply pw_below_drewN | apply below_drew1 | refine below_set ?_ GE1023.out) | exact HB.out)) hb); clear BK1023; clear HB; have BK1023 := n0_; have HB := n1_; clear n0_ n1_; (try clear hb); (try clear hb2); (try clear hk); (try clear hi)) | ((with_reducible refine gate_dst (N := 3) rfl ?_); refine box_event ?hg (N := 3) ?hd (cs := #[.int .u64 0, .int .u64 0]) (t := 25) ?hr ?_; (case hd => rfl); (case hg => rfl); (case hr => first | (go_simp; done) | (go_simp; rfl)); intro gb1028 hg w19 hbox hb; have n0_ := Aside0.mk (blk_below (g := gb1023) (o := .cells #[.int .u64 a0_0, .int .u64 a0_1] 25 (0, 0)) (by (with_reducible repeat (first | refine blk_drewN ?_ _ | refine blk_drew ?_ | refine blk_alloc ?_ _)); exact BK1023.out) hb); have n1_ := Aside0.mk (below_step (by repeat (first | (with_reducible first | exact HB.out | apply below_alloc | apply pw_below_drewN | apply below_drew1 | refine below_set ?_ GE1023.out) | exact HB.out)) hb); have n2_ := Aside0.mk (hbox); have n3_ := Aside0.mk ((by rw [hg]; exact (below_size (by repeat (first | (with_reducible first | exact HB.out | apply below_alloc | apply pw_below_drewN | apply below_drew1 | refine below_set ?_ GE1023.out) | exact HB.out))) : w.heap.size ≤ gb1028)); have n4_ := Aside0.mk ((by rw [hg]; exact (below_size (by repeat (first | (with_reducible first | exact HB.out | apply below_alloc | apply pw_below_drewN | apply below_drew1 | refine below_set ?_ GE1023.out) | exact HB.out))) : w.heap.size ≤ gb1028)); have n5_ := Aside0.mk ((by rw [hg]; exact Nat.ne_of_lt (blk_lt (g := gb1023) (o := .cells #[.int .u64 a0_0, .int .u64 a0_1] 25 (0, 0)) (by (with_reducible repeat (first | refine blk_drewN ?_ _ | refine blk_drew ?_ | refine blk_alloc ?_ _)); exact BK1023.out)) : gb1023 ≠ gb1028)); have n6_ := Aside0.mk ((by rw [hg]; exact Nat.ne_of_gt (blk_lt (g := gb1023) (o := .cells #[.int .u64 a0_0, .int .u64 a0_1] 25 (0, 0)) (by (with_reducible repeat (first | refine blk_drewN ?_ _ | refine blk_drew ?_ | refine blk_alloc ?_ _)); exact BK1023.out)) : gb1028 ≠ gb1023)); clear BK1023; clear HB; have BK1023 := n0_; have HB := n1_; have BK1028 := n2_; have GW1028 := n3_; have GE1028 := n4_; have NB1023_1028 := n5_; have NB1028_1023 := n6_; clear n0_ n1_ n2_ n3_ n4_ n5_ n6_; clear hb hbox hg; have hnb20 := NB1028_1023.out; have hnc20 := NB1023_1028.out; have hcz21_0 : w19.cell? ⟨gb1028, 0, none⟩ = some (.int .u64 0) := (blk_cell BK1028.out 0).trans rfl; have hcz21_1 : w19.cell? ⟨gb1028, 1, none⟩ = some (.int .u64 0) := (blk_cell BK1028.out 1).trans rfl; have hfz21_0 := blk_frozen BK1028.out 0; have hfz21_1 := blk_frozen BK1028.out 1) | ((with_reducible refine gate_dst (N := 16) rfl ?_); refine Kd.R_lit (Kd.int .u8) _ 5 ?hg (N := 16) ?hd (xs := ([(48 + ((t1026) % 256)) % 256] : List Int)) (inner := [.int .u8 ((48 + ((t1026) % 256)) % 256)]) (ok := fun _ => True) (okp := fun _ => True) ?hr ?hp (fun _ hk => hk) trivial (Below.refl _ _) (Nat.le_refl _) (by simp) ?_; (case hd => rfl); (case hg => rfl); (case hr => first | (go_simp; done) | (go_simp; rfl)); (case hp => exact (Reps.one (show Kd.M (Kd.int .u8) _ _ _ ((48 + ((t1026) % 256)) % 256) [.int .u8 ((48 + ((t1026) % 256)) % 256)] from rfl) (Reps.none _ _))); intro v1030 w22 ho23 hb hg_ hnew_; clear hg_ hnew_; (first | rw [← Ny1029.out] at ho23 | (simp only [Int.reduceToNat] at ho23; rw [← Ny1029.out] at ho23)); have n0_ := Aside0.mk (Kd.R_lower ho23 (below_size (by repeat (first | (with_reducible first | exact HB.out | apply below_alloc | apply pw_below_drewN | apply below_drew1 | refine below_set ?_ GE1023.out | refine below_set ?_ GE1028.out) | exact HB.out)))); have n1_ := Aside0.mk (blk_below (g := gb1023) (o := .cells #[.int .u64 a0_0, .int .u64 a0_1] 25 (0, 0)) (by (with_reducible repeat (first | refine blk_drewN ?_ _ | refine blk_drew ?_ | refine blk_alloc ?_ _)); refine blk_far ?_ NB1023_1028.out _; (with_reducible repeat (first | refine blk_drewN ?_ _ | refine blk_drew ?_ | refine blk_alloc ?_ _)); refine blk_far ?_ NB1023_1028.out _; (with_reducible repeat (first | refine blk_drewN ?_ _ | refine blk_drew ?_ | refine blk_alloc ?_ _)); exact BK1023.out) hb); have n2_ := Aside0.mk (blk_below (g := gb1028) (o := .cells #[.int .u64 t1024, .int .u64 t1025] 25 (0, 0)) (by (with_reducible repeat (first | refine blk_drewN ?_ _ | refine blk_drew ?_ | refine blk_alloc ?_ _)); refine blk_put (cs := #[.int .u64 t1024, .int .u64 0]) ?_ 1 _ rfl; (with_reducible repeat (first | refine blk_drewN ?_ _ | refine blk_drew ?_ | refine blk_alloc ?_ _)); refine blk_put (cs := #[.int .u64 0, .int .u64 0]) ?_ 0 _ rfl; (with_reducible repeat (first | refine blk_drewN ?_ _ | refine blk_drew ?_ | refine blk_alloc ?_ _)); exact BK1028.out) hb); have n3_ := Aside0.mk (below_step (by repeat (first | (with_reducible first | exact HB.out | apply below_alloc | apply pw_below_drewN | apply below_drew1 | refine below_set ?_ GE1023.out | refine below_set ?_ GE1028.out) | exact HB.out)) hb); clear BK1023; clear BK1028; clear HB; have HO1031 := n0_; have BK1023 := n1_; have BK1028 := n2_; have HB := n3_; clear n0_ n1_ n2_ n3_; clear hb ho23; have hcv24 := own_string (P := Try.prog) Try.underlying99 Try.underlying5 Try.underlying9 (Kd.own_of_R HO1031.out); have hcz25_0 : w22.cell? ⟨gb1028, 0, none⟩ = some (.int .u64 t1024) := (blk_cell BK1028.out 0).trans rfl; have hcz25_1 : w22.cell? ⟨gb1028, 1, none⟩ = some (.int .u64 t1025) := (blk_cell BK1028.out 1).trans rfl; have hfz25_0 := blk_frozen BK1028.out 0; have hfz25_1 := blk_frozen BK1028.out 1) | ((with_reducible refine gate_callee (f := 63) rfl ?_); refine goesL_ (some 23) rfl rfl Try.func63 (by kernel_rfl) rfl #[.agg #[.int .u64 t1024, .int .u64 t1025]] rfl (by (try simp only [List.map_toArray, List.map_cons, List.map_nil]); first | done | rfl | (simp only [List.length_drop, List.length_take]; rfl)) ?_; (with_reducible refine (ih k (by omega) t1024 t1025 t1032 _ A14.out).mono ?_); rintro e w26 ⟨rfl, hb⟩; refine ⟨_, rfl, ?_⟩; have n0_ := Aside0.mk (Kd.R_below (by (with_reducible repeat (first | apply Kd.R_alloc | apply Kd.R_drewN | apply Kd.R_drew)); exact HO1031.out) hb); have n1_ := Aside0.mk (blk_below (g := gb1023) (o := .cells #[.int .u64 a0_0, .int .u64 a0_1] 25 (0, 0)) (by (with_reducible repeat (first | refine blk_drewN ?_ _ | refine blk_drew ?_ | refine blk_alloc ?_ _)); exact BK1023.out) hb); have n2_ := Aside0.mk (blk_below (g := gb1028) (o := .cells #[.int .u64 t1024, .int .u64 t1025] 25 (0, 0)) (by (with_reducible repeat (first | refine blk_drewN ?_ _ | refine blk_drew ?_ | refine blk_alloc ?_ _)); exact BK1028.out) hb); have n3_ := Aside0.mk (below_step (by repeat (first | (with_reducible first | exact HB.out | apply below_alloc | apply pw_below_drewN | apply below_drew1 | refine below_set ?_ GE1023.out | refine below_set ?_ GE1028.out) | exact HB.out)) hb); clear HO1031; clear BK1023; clear BK1028; clear HB; have HO1031 := n0_; have BK1023 := n1_; have BK1028 := n2_; have HB := n3_; clear n0_ n1_ n2_ n3_; (try clear hb); (try clear hb2); (try clear hk); (try clear hi)))
      go_ret
      exact ⟨by first | rfl | (simp [errW_none, errW_some] <;> rfl) | (simp [*, errW_none, errW_some] <;> rfl), by repeat (first | (with_reducible first | exact HB.out | apply below_alloc | apply pw_below_drewN | apply below_drew1 | refine below_set ?_ GE1023.out | refine below_set ?_ GE1028.out) | exact HB.out)⟩
    · rw [if_neg c15] at H
      exact absurd H (by simp)
end Go.Proofs.Ytpkjpiphjdpegaa.P
