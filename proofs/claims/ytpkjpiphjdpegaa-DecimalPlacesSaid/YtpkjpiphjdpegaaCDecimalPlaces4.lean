/- A program of this session wrote this text out of the session's own texts. (part 4 of 4) -/
import Derived.Test.YtpkjpiphjdpegaaCDecimalPlaces3
namespace Go.Proofs.Ytpkjpiphjdpegaa.P
open Go.RowKit Go.Proofs.YtpkjpiphjdpegaaW.PrintWords Go.Proofs.YtpkjpiphjdpegaaW.PrintLast Go.Proofs.YtpkjpiphjdpegaaW.PrintMore
attribute [local go_sem] max2_int min2_int max_two min_two max_three min_three max_four min_four
set_option linter.unusedVariables false
set_option linter.unusedSimpArgs false
attribute [local go_sem high] eqA25
mutual
def paymasterlaw02_DecimalPlaces.j0 : Nat → Int → Bool → Int → Int → Int → Int → Option (Bool)
  | 0, _, _, _, _, _, _ => none
  | k + 1, x4, x45, x1773000, x1773001, x1780000, x1780001 => if x45 = true then (none) else (paymasterlaw02_DecimalPlaces.l0 k x4 0 x1773000 x1773001 x1780000 x1780001)
def paymasterlaw02_DecimalPlaces.l0 : Nat → Int → Int → Int → Int → Int → Int → Option (Bool)
  | 0, _, _, _, _, _, _ => none
  | k + 1, x4, x5, x1773000, x1773001, x1780000, x1780001 => if x5 < x4 then ((decimal_Digit.f x1773000 x1773001 x5).bind fun t1799 => ((decimal_Ten.f k x5).bind fun bt1800 => ((u128_Times.f bt1800.1 bt1800.2.1 (IntKind.u64.wrap (t1799))).bind fun bt1804 => ((u128_Add.f x1780000 x1780001 bt1804.1 bt1804.2.1).bind fun bt1808 => (if t1799 > 9 then (none) else (if bt1800.2.2 = 0 then (if bt1804.2.2 = 0 then (if bt1808.2.2 = 0 then (paymasterlaw02_DecimalPlaces.l0 k x4 (wrap64 (x5 + 1)) x1773000 x1773001 bt1808.1 bt1808.2.1) else (none)) else (none)) else (none))))))) else (some (x1780000 == x1773000 && (x1780001 == x1773001)))
end
def paymasterlaw02_DecimalPlaces.f (k : Nat) (a0_0 : Int) (a0_1 : Int) : Option (Bool) := (paymasterlaw02_awake.f k).bind fun t1773 => (if t1773 = true then ((decimal_Digits.f a0_0 a0_1).bind fun t1780 => (if t1780 < 1 then (none) else (if t1780 > 39 then (none) else ((decimal_Digit.f a0_0 a0_1 (wrap64 (t1780 - 1))).bind fun t1781 => (if t1781 = 0 then (if (!(a0_0 == 0) || (!(a0_1 == 0))) = true then (none) else ((decimal_Digit.f a0_0 a0_1 t1780).bind fun t1782 => (if t1782 = 0 then ((decimal_Digit.f a0_0 a0_1 (-1)).bind fun t1783 => (paymasterlaw02_DecimalPlaces.j0 k t1780 (t1783 != 0) a0_0 a0_1 0 0)) else (none)))) else ((decimal_Digit.f a0_0 a0_1 t1780).bind fun t1784 => (if t1784 = 0 then ((decimal_Digit.f a0_0 a0_1 (-1)).bind fun t1785 => (paymasterlaw02_DecimalPlaces.j0 k t1780 (t1785 != 0) a0_0 a0_1 0 0)) else (none)))))))) else (none))
theorem paymasterlaw02_DecimalPlaces.mono_l : ∀ k, (∀ y0 y1 y2 y3 y4 y5, LeO (paymasterlaw02_DecimalPlaces.j0 k y0 y1 y2 y3 y4 y5) (paymasterlaw02_DecimalPlaces.j0 (k + 1) y0 y1 y2 y3 y4 y5)) ∧ (∀ y0 y1 y2 y3 y4 y5, LeO (paymasterlaw02_DecimalPlaces.l0 k y0 y1 y2 y3 y4 y5) (paymasterlaw02_DecimalPlaces.l0 (k + 1) y0 y1 y2 y3 y4 y5))
  | 0 => ⟨fun _ _ _ _ _ _ r h => by simp [paymasterlaw02_DecimalPlaces.j0] at h, fun _ _ _ _ _ _ r h => by simp [paymasterlaw02_DecimalPlaces.l0] at h⟩
  | k + 1 => by
    obtain ⟨ih0, ih1⟩ := paymasterlaw02_DecimalPlaces.mono_l k
    refine ⟨?_, ?_⟩
    · intro y0 y1 y2 y3 y4 y5
      unfold paymasterlaw02_DecimalPlaces.j0
      repeat' first
      | (with_reducible exact ih0 _ _ _ _ _ _)
      | (with_reducible exact ih1 _ _ _ _ _ _)
      | (with_reducible exact decimal_Ten.mono _ _)
      | (with_reducible exact paymasterlaw02_awake.mono _)
      | (with_reducible exact LeO.refl _)
      | (with_reducible exact LeO.none _)
      | (with_reducible refine LeO.ite ?_ ?_)
      | (with_reducible refine LeO.bind ?_ (fun _ => ?_))
      | exact ih0 _ _ _ _ _ _
      | exact ih1 _ _ _ _ _ _
      | exact decimal_Ten.mono _ _
      | exact paymasterlaw02_awake.mono _
      | exact LeO.none _
      | refine LeO.ite ?_ ?_
      | refine LeO.bind ?_ (fun _ => ?_)
    · intro y0 y1 y2 y3 y4 y5
      unfold paymasterlaw02_DecimalPlaces.l0
      repeat' first
      | (with_reducible exact ih0 _ _ _ _ _ _)
      | (with_reducible exact ih1 _ _ _ _ _ _)
      | (with_reducible exact decimal_Ten.mono _ _)
      | (with_reducible exact paymasterlaw02_awake.mono _)
      | (with_reducible exact LeO.refl _)
      | (with_reducible exact LeO.none _)
      | (with_reducible refine LeO.ite ?_ ?_)
      | (with_reducible refine LeO.bind ?_ (fun _ => ?_))
      | exact ih0 _ _ _ _ _ _
      | exact ih1 _ _ _ _ _ _
      | exact decimal_Ten.mono _ _
      | exact paymasterlaw02_awake.mono _
      | exact LeO.none _
      | refine LeO.ite ?_ ?_
      | refine LeO.bind ?_ (fun _ => ?_)
set_option maxHeartbeats 8000000 in
set_option maxRecDepth 100000 in
theorem paymasterlaw02_DecimalPlaces.calls (k : Nat) (a0_0 : Int) (a0_1 : Int) (r : Bool) (w : World) (h : paymasterlaw02_DecimalPlaces.f k a0_0 a0_1 = some r) :
    Calls Try.prog 21 #[.agg #[.int .u64 a0_0, .int .u64 a0_1]] w fun e w' => e = .returned (.bool r) ∧ Below w.heap.size w w' := by
  have hu25 := Try.underlying25
  have HB := Aside0.mk (Below.refl w.heap.size w)
  have H : ((paymasterlaw02_awake.f k).bind fun t1773 => (if t1773 = true then ((decimal_Digits.f a0_0 a0_1).bind fun t1780 => (if t1780 < 1 then (none) else (if t1780 > 39 then (none) else ((decimal_Digit.f a0_0 a0_1 (wrap64 (t1780 - 1))).bind fun t1781 => (if t1781 = 0 then (if (!(a0_0 == 0) || (!(a0_1 == 0))) = true then (none) else ((decimal_Digit.f a0_0 a0_1 t1780).bind fun t1782 => (if t1782 = 0 then ((decimal_Digit.f a0_0 a0_1 (-1)).bind fun t1783 => (paymasterlaw02_DecimalPlaces.j0 k t1780 (t1783 != 0) a0_0 a0_1 0 0)) else (none)))) else ((decimal_Digit.f a0_0 a0_1 t1780).bind fun t1784 => (if t1784 = 0 then ((decimal_Digit.f a0_0 a0_1 (-1)).bind fun t1785 => (paymasterlaw02_DecimalPlaces.j0 k t1780 (t1785 != 0) a0_0 a0_1 0 0)) else (none)))))))) else (none))) = some r := h
  clear h
  replace H := Option.bind_eq_some_iff.mp H
  obtain ⟨t1773, A20, H⟩ := H
  replace H : (if t1773 = true then ((decimal_Digits.f a0_0 a0_1).bind fun t1780 => (if t1780 < 1 then (none) else (if t1780 > 39 then (none) else ((decimal_Digit.f a0_0 a0_1 (wrap64 (t1780 - 1))).bind fun t1781 => (if t1781 = 0 then (if (!(a0_0 == 0) || (!(a0_1 == 0))) = true then (none) else ((decimal_Digit.f a0_0 a0_1 t1780).bind fun t1782 => (if t1782 = 0 then ((decimal_Digit.f a0_0 a0_1 (-1)).bind fun t1783 => (paymasterlaw02_DecimalPlaces.j0 k t1780 (t1783 != 0) a0_0 a0_1 0 0)) else (none)))) else ((decimal_Digit.f a0_0 a0_1 t1780).bind fun t1784 => (if t1784 = 0 then ((decimal_Digit.f a0_0 a0_1 (-1)).bind fun t1785 => (paymasterlaw02_DecimalPlaces.j0 k t1780 (t1785 != 0) a0_0 a0_1 0 0)) else (none)))))))) else (none)) = some r := H
  have A2 := Aside0.mk A20
  clear A20
  by_cases c3 : t1773 = true
  · subst c3
    have H1 : ((decimal_Digits.f a0_0 a0_1).bind fun t1780 => (if t1780 < 1 then (none) else (if t1780 > 39 then (none) else ((decimal_Digit.f a0_0 a0_1 (wrap64 (t1780 - 1))).bind fun t1781 => (if t1781 = 0 then (if (!(a0_0 == 0) || (!(a0_1 == 0))) = true then (none) else ((decimal_Digit.f a0_0 a0_1 t1780).bind fun t1782 => (if t1782 = 0 then ((decimal_Digit.f a0_0 a0_1 (-1)).bind fun t1783 => (paymasterlaw02_DecimalPlaces.j0 k t1780 (t1783 != 0) a0_0 a0_1 0 0)) else (none)))) else ((decimal_Digit.f a0_0 a0_1 t1780).bind fun t1784 => (if t1784 = 0 then ((decimal_Digit.f a0_0 a0_1 (-1)).bind fun t1785 => (paymasterlaw02_DecimalPlaces.j0 k t1780 (t1785 != 0) a0_0 a0_1 0 0)) else (none)))))))) = some r := by rw [if_pos rfl] at H; exact H
    clear H
    have H := H1
    clear H1
    replace H := Option.bind_eq_some_iff.mp H
    obtain ⟨t1780, A40, H⟩ := H
    replace H : (if t1780 < 1 then (none) else (if t1780 > 39 then (none) else ((decimal_Digit.f a0_0 a0_1 (wrap64 (t1780 - 1))).bind fun t1781 => (if t1781 = 0 then (if (!(a0_0 == 0) || (!(a0_1 == 0))) = true then (none) else ((decimal_Digit.f a0_0 a0_1 t1780).bind fun t1782 => (if t1782 = 0 then ((decimal_Digit.f a0_0 a0_1 (-1)).bind fun t1783 => (paymasterlaw02_DecimalPlaces.j0 k t1780 (t1783 != 0) a0_0 a0_1 0 0)) else (none)))) else ((decimal_Digit.f a0_0 a0_1 t1780).bind fun t1784 => (if t1784 = 0 then ((decimal_Digit.f a0_0 a0_1 (-1)).bind fun t1785 => (paymasterlaw02_DecimalPlaces.j0 k t1780 (t1785 != 0) a0_0 a0_1 0 0)) else (none))))))) = some r := H
    have A4 := Aside0.mk A40
    clear A40
    have HC5 := Aside0.mk H
    clear H
    go_enter Try.func21, Try.ntmps21
    go_upto_region 5 with (first | ((with_reducible refine gate_dst (N := 1) rfl ?_); refine box_event ?hg (N := 1) ?hd (cs := #[.int .u64 a0_0, .int .u64 a0_1]) (t := 25) ?hr ?_; (case hd => rfl); (case hg => rfl); (case hr => first | (go_simp; done) | (go_simp; rfl)); intro gb1772 hg w6 hbox hb; have n0_ := Aside0.mk (below_step (by repeat (first | (with_reducible first | exact HB.out | apply below_alloc | apply pw_below_drewN | apply below_drew1) | exact HB.out)) hb); have n1_ := Aside0.mk (hbox); have n2_ := Aside0.mk ((by rw [hg]; exact (below_size (by repeat (first | (with_reducible first | exact HB.out | apply below_alloc | apply pw_below_drewN | apply below_drew1) | exact HB.out))) : w.heap.size ≤ gb1772)); have n3_ := Aside0.mk ((by rw [hg]; exact (below_size (by repeat (first | (with_reducible first | exact HB.out | apply below_alloc | apply pw_below_drewN | apply below_drew1) | exact HB.out))) : w.heap.size ≤ gb1772)); clear HB; have HB := n0_; have BK1772 := n1_; have GW1772 := n2_; have GE1772 := n3_; clear n0_ n1_ n2_ n3_; clear hb hbox hg) | ((with_reducible refine gate_callee (f := 81) rfl ?_); refine goesL_ (some 13) rfl rfl Try.func81 (by kernel_rfl) rfl #[] rfl (by (try simp only [List.map_toArray, List.map_cons, List.map_nil]); first | done | rfl | (simp only [List.length_drop, List.length_take]; rfl)) ?_; (with_reducible refine (paymasterlaw02_awake.calls k  true _ A2.out).mono ?_); rintro e w7 ⟨rfl, hb⟩; refine ⟨_, rfl, ?_⟩; have n0_ := Aside0.mk (blk_below (g := gb1772) (o := .cells #[.int .u64 a0_0, .int .u64 a0_1] 25 (0, 0)) (by (with_reducible repeat (first | refine blk_drewN ?_ _ | refine blk_drew ?_ | refine blk_alloc ?_ _)); exact BK1772.out) hb); have n1_ := Aside0.mk (below_step (by repeat (first | (with_reducible first | exact HB.out | apply below_alloc | apply pw_below_drewN | apply below_drew1 | refine below_set ?_ GE1772.out) | exact HB.out)) hb); clear BK1772; clear HB; have BK1772 := n0_; have HB := n1_; clear n0_ n1_; (try clear hb); (try clear hb2); (try clear hk); (try clear hi)) | ((with_reducible refine gate_dst (N := 3) rfl ?_); refine box_event ?hg (N := 3) ?hd (cs := #[.int .u64 0, .int .u64 0]) (t := 25) ?hr ?_; (case hd => rfl); (case hg => rfl); (case hr => first | (go_simp; done) | (go_simp; rfl)); intro gb1779 hg w8 hbox hb; have n0_ := Aside0.mk (blk_below (g := gb1772) (o := .cells #[.int .u64 a0_0, .int .u64 a0_1] 25 (0, 0)) (by (with_reducible repeat (first | refine blk_drewN ?_ _ | refine blk_drew ?_ | refine blk_alloc ?_ _)); exact BK1772.out) hb); have n1_ := Aside0.mk (below_step (by repeat (first | (with_reducible first | exact HB.out | apply below_alloc | apply pw_below_drewN | apply below_drew1 | refine below_set ?_ GE1772.out) | exact HB.out)) hb); have n2_ := Aside0.mk (hbox); have n3_ := Aside0.mk ((by rw [hg]; exact (below_size (by repeat (first | (with_reducible first | exact HB.out | apply below_alloc | apply pw_below_drewN | apply below_drew1 | refine below_set ?_ GE1772.out) | exact HB.out))) : w.heap.size ≤ gb1779)); have n4_ := Aside0.mk ((by rw [hg]; exact (below_size (by repeat (first | (with_reducible first | exact HB.out | apply below_alloc | apply pw_below_drewN | apply below_drew1 | refine below_set ?_ GE1772.out) | exact HB.out))) : w.heap.size ≤ gb1779)); have n5_ := Aside0.mk ((by rw [hg]; exact Nat.ne_of_lt (blk_lt (g := gb1772) (o := .cells #[.int .u64 a0_0, .int .u64 a0_1] 25 (0, 0)) (by (with_reducible repeat (first | refine blk_drewN ?_ _ | refine blk_drew ?_ | refine blk_alloc ?_ _)); exact BK1772.out)) : gb1772 ≠ gb1779)); have n6_ := Aside0.mk ((by rw [hg]; exact Nat.ne_of_gt (blk_lt (g := gb1772) (o := .cells #[.int .u64 a0_0, .int .u64 a0_1] 25 (0, 0)) (by (with_reducible repeat (first | refine blk_drewN ?_ _ | refine blk_drew ?_ | refine blk_alloc ?_ _)); exact BK1772.out)) : gb1779 ≠ gb1772)); clear BK1772; clear HB; have BK1772 := n0_; have HB := n1_; have BK1779 := n2_; have GW1779 := n3_; have GE1779 := n4_; have NB1772_1779 := n5_; have NB1779_1772 := n6_; clear n0_ n1_ n2_ n3_ n4_ n5_ n6_; clear hb hbox hg; have hnb9 := NB1772_1779.out; have hnc9 := NB1779_1772.out; have hcz10_0 : w8.cell? ⟨gb1772, 0, none⟩ = some (.int .u64 a0_0) := (blk_cell BK1772.out 0).trans rfl; have hcz10_1 : w8.cell? ⟨gb1772, 1, none⟩ = some (.int .u64 a0_1) := (blk_cell BK1772.out 1).trans rfl; have hfz10_0 := blk_frozen BK1772.out 0; have hfz10_1 := blk_frozen BK1772.out 1) | ((with_reducible refine gate_callee (f := 62) rfl ?_); refine goesL_ (some 16) rfl rfl Try.func62 (by kernel_rfl) rfl #[.agg #[.int .u64 a0_0, .int .u64 a0_1]] rfl (by (try simp only [List.map_toArray, List.map_cons, List.map_nil]); first | done | rfl | (simp only [List.length_drop, List.length_take]; rfl)) ?_; (with_reducible refine (decimal_Digits.calls a0_0 a0_1 t1780 _ A4.out).mono ?_); rintro e w11 ⟨rfl, hb⟩; refine ⟨_, rfl, ?_⟩; have n0_ := Aside0.mk (blk_below (g := gb1772) (o := .cells #[.int .u64 a0_0, .int .u64 a0_1] 25 (0, 0)) (by (with_reducible repeat (first | refine blk_drewN ?_ _ | refine blk_drew ?_ | refine blk_alloc ?_ _)); exact BK1772.out) hb); have n1_ := Aside0.mk (blk_below (g := gb1779) (o := .cells #[.int .u64 0, .int .u64 0] 25 (0, 0)) (by (with_reducible repeat (first | refine blk_drewN ?_ _ | refine blk_drew ?_ | refine blk_alloc ?_ _)); exact BK1779.out) hb); have n2_ := Aside0.mk (below_step (by repeat (first | (with_reducible first | exact HB.out | apply below_alloc | apply pw_below_drewN | apply below_drew1 | refine below_set ?_ GE1772.out | refine below_set ?_ GE1779.out) | exact HB.out)) hb); clear BK1772; clear BK1779; clear HB; have BK1772 := n0_; have BK1779 := n1_; have HB := n2_; clear n0_ n1_ n2_; (try clear hb); (try clear hb2); (try clear hk); (try clear hi)))
    (try simp only [Act.put, List.setIfInBounds_toArray, List.set_cons_zero, List.set_cons_succ])
    go_cut [45] (fun v45 wc => ∃ (kq : Nat) (x45_4 : Bool), v45 = .bool x45_4 ∧ Aside0 (paymasterlaw02_DecimalPlaces.j0 kq t1780 x45_4 a0_0 a0_1 0 0 = some r) ∧ Aside0 (kq ≤ k) ∧ Aside0 (wc.heap[gb1772]? = some (.cells #[.int .u64 a0_0, .int .u64 a0_1] 25 (0, 0))) ∧ Aside0 (wc.heap[gb1779]? = some (.cells #[.int .u64 0, .int .u64 0] 25 (0, 0))) ∧ Aside0 (Below w.heap.size w wc))
    case first =>
      have H := HC5.out
      clear HC5
      by_cases c12 : t1780 < 1
      · rw [if_pos c12] at H
        exact absurd H (by simp)
      · rw [if_neg c12] at H
        have c12b0 : decide (t1780 < 1) = false := decide_eq_false c12
        clear c12
        (first | rw [c12b0] | (simp only [i64_w, i32_w]; rw [c12b0]) | skip)
        by_cases c13 : t1780 > 39
        · rw [if_pos c13] at H
          exact absurd H (by simp)
        · rw [if_neg c13] at H
          have c13b0 : decide (39 < t1780) = false := decide_eq_false c13
          clear c13
          replace H := Option.bind_eq_some_iff.mp H
          obtain ⟨t1781, A140, H⟩ := H
          replace H : (if t1781 = 0 then (if (!(a0_0 == 0) || (!(a0_1 == 0))) = true then (none) else ((decimal_Digit.f a0_0 a0_1 t1780).bind fun t1782 => (if t1782 = 0 then ((decimal_Digit.f a0_0 a0_1 (-1)).bind fun t1783 => (paymasterlaw02_DecimalPlaces.j0 k t1780 (t1783 != 0) a0_0 a0_1 0 0)) else (none)))) else ((decimal_Digit.f a0_0 a0_1 t1780).bind fun t1784 => (if t1784 = 0 then ((decimal_Digit.f a0_0 a0_1 (-1)).bind fun t1785 => (paymasterlaw02_DecimalPlaces.j0 k t1780 (t1785 != 0) a0_0 a0_1 0 0)) else (none)))) = some r := H
          have A14 := Aside0.mk A140
          clear A140
          by_cases c15 : t1781 = 0
          · rw [if_pos c15] at H
            have c15b0 : (t1781 == 0) = true := beq_iff_eq.mpr c15
            have c15b1 : (t1781 != 0) = false := bne_eq_false_iff_eq.mpr c15
            clear c15
            by_cases c16 : (!(a0_0 == 0) || (!(a0_1 == 0))) = true
            · rw [if_pos c16] at H
              exact absurd H (by simp)
            · rw [if_neg c16] at H
              have c16b0 : (!(a0_0 == 0) || (!(a0_1 == 0))) = false := by simpa using c16
              clear c16
              replace H := Option.bind_eq_some_iff.mp H
              obtain ⟨t1782, A170, H⟩ := H
              replace H : (if t1782 = 0 then ((decimal_Digit.f a0_0 a0_1 (-1)).bind fun t1783 => (paymasterlaw02_DecimalPlaces.j0 k t1780 (t1783 != 0) a0_0 a0_1 0 0)) else (none)) = some r := H
              have A17 := Aside0.mk A170
              clear A170
              by_cases c18 : t1782 = 0
              · rw [if_pos c18] at H
                have c18b0 : (t1782 == 0) = true := beq_iff_eq.mpr c18
                have c18b1 : (t1782 != 0) = false := bne_eq_false_iff_eq.mpr c18
                clear c18
                replace H := Option.bind_eq_some_iff.mp H
                obtain ⟨t1783, A190, H⟩ := H
                replace H : (paymasterlaw02_DecimalPlaces.j0 k t1780 (t1783 != 0) a0_0 a0_1 0 0) = some r := H
                have A19 := Aside0.mk A190
                clear A190
                have H' := Aside0.mk H
                clear H
                have hnb20 := NB1772_1779.out
                have hnc20 := NB1779_1772.out
                have hcz21_0 : w11.cell? ⟨gb1772, 0, none⟩ = some (.int .u64 a0_0) := (blk_cell BK1772.out 0).trans rfl
                have hcz21_1 : w11.cell? ⟨gb1772, 1, none⟩ = some (.int .u64 a0_1) := (blk_cell BK1772.out 1).trans rfl
                have hfz21_0 := blk_frozen BK1772.out 0
                have hfz21_1 := blk_frozen BK1772.out 1
                go_wp2_with (first | (go_at_call 64; (with_reducible refine (decimal_Digit.calls a0_0 a0_1 (wrap64 (t1780 - 1)) t1781 _ A14.out).mono ?_); rintro e w22 ⟨rfl, hb⟩; have n0_ := Aside0.mk (blk_below (g := gb1772) (o := .cells #[.int .u64 a0_0, .int .u64 a0_1] 25 (0, 0)) (by (with_reducible repeat (first | refine blk_drewN ?_ _ | refine blk_drew ?_ | refine blk_alloc ?_ _)); exact BK1772.out) hb); have n1_ := Aside0.mk (blk_below (g := gb1779) (o := .cells #[.int .u64 0, .int .u64 0] 25 (0, 0)) (by (with_reducible repeat (first | refine blk_drewN ?_ _ | refine blk_drew ?_ | refine blk_alloc ?_ _)); exact BK1779.out) hb); have n2_ := Aside0.mk (below_step (by repeat (first | (with_reducible first | exact HB.out | apply below_alloc | apply pw_below_drewN | apply below_drew1 | refine below_set ?_ GE1772.out | refine below_set ?_ GE1779.out) | exact HB.out)) hb); clear BK1772; clear BK1779; clear HB; have BK1772 := n0_; have BK1779 := n1_; have HB := n2_; clear n0_ n1_ n2_; (try clear hb); (try clear hb2); (try clear hk); (try clear hi); have hcz23_0 : w22.cell? ⟨gb1772, 0, none⟩ = some (.int .u64 a0_0) := (blk_cell BK1772.out 0).trans rfl; have hcz23_1 : w22.cell? ⟨gb1772, 1, none⟩ = some (.int .u64 a0_1) := (blk_cell BK1772.out 1).trans rfl; have hfz23_0 := blk_frozen BK1772.out 0; have hfz23_1 := blk_frozen BK1772.out 1) | (go_at_call 64; (with_reducible refine (decimal_Digit.calls a0_0 a0_1 t1780 t1782 _ A17.out).mono ?_); rintro e w24 ⟨rfl, hb⟩; have n0_ := Aside0.mk (blk_below (g := gb1772) (o := .cells #[.int .u64 a0_0, .int .u64 a0_1] 25 (0, 0)) (by (with_reducible repeat (first | refine blk_drewN ?_ _ | refine blk_drew ?_ | refine blk_alloc ?_ _)); exact BK1772.out) hb); have n1_ := Aside0.mk (blk_below (g := gb1779) (o := .cells #[.int .u64 0, .int .u64 0] 25 (0, 0)) (by (with_reducible repeat (first | refine blk_drewN ?_ _ | refine blk_drew ?_ | refine blk_alloc ?_ _)); exact BK1779.out) hb); have n2_ := Aside0.mk (below_step (by repeat (first | (with_reducible first | exact HB.out | apply below_alloc | apply pw_below_drewN | apply below_drew1 | refine below_set ?_ GE1772.out | refine below_set ?_ GE1779.out) | exact HB.out)) hb); clear BK1772; clear BK1779; clear HB; have BK1772 := n0_; have BK1779 := n1_; have HB := n2_; clear n0_ n1_ n2_; (try clear hb); (try clear hb2); (try clear hk); (try clear hi); have hcz25_0 : w24.cell? ⟨gb1772, 0, none⟩ = some (.int .u64 a0_0) := (blk_cell BK1772.out 0).trans rfl; have hcz25_1 : w24.cell? ⟨gb1772, 1, none⟩ = some (.int .u64 a0_1) := (blk_cell BK1772.out 1).trans rfl; have hfz25_0 := blk_frozen BK1772.out 0; have hfz25_1 := blk_frozen BK1772.out 1) | (go_at_call 64; (with_reducible refine (decimal_Digit.calls a0_0 a0_1 (-1) t1783 _ A19.out).mono ?_); rintro e w26 ⟨rfl, hb⟩; have n0_ := Aside0.mk (blk_below (g := gb1772) (o := .cells #[.int .u64 a0_0, .int .u64 a0_1] 25 (0, 0)) (by (with_reducible repeat (first | refine blk_drewN ?_ _ | refine blk_drew ?_ | refine blk_alloc ?_ _)); exact BK1772.out) hb); have n1_ := Aside0.mk (blk_below (g := gb1779) (o := .cells #[.int .u64 0, .int .u64 0] 25 (0, 0)) (by (with_reducible repeat (first | refine blk_drewN ?_ _ | refine blk_drew ?_ | refine blk_alloc ?_ _)); exact BK1779.out) hb); have n2_ := Aside0.mk (below_step (by repeat (first | (with_reducible first | exact HB.out | apply below_alloc | apply pw_below_drewN | apply below_drew1 | refine below_set ?_ GE1772.out | refine below_set ?_ GE1779.out) | exact HB.out)) hb); clear BK1772; clear BK1779; clear HB; have BK1772 := n0_; have BK1779 := n1_; have HB := n2_; clear n0_ n1_ n2_; (try clear hb); (try clear hb2); (try clear hk); (try clear hi)))
                go_meet
                case rel => exact ⟨_, ((t1783 != 0)), (by first | rfl | (simp; done) | (simp [*]; done)), H', ⟨by first | omega | exact Nat.le_refl _⟩, ⟨by (with_reducible repeat (first | refine blk_drewN ?_ _ | refine blk_drew ?_ | refine blk_alloc ?_ _)); exact BK1772.out⟩, ⟨by (with_reducible repeat (first | refine blk_drewN ?_ _ | refine blk_drew ?_ | refine blk_alloc ?_ _)); exact BK1779.out⟩, ⟨by repeat (first | (with_reducible first | exact HB.out | apply below_alloc | apply pw_below_drewN | apply below_drew1 | refine below_set ?_ GE1772.out | refine below_set ?_ GE1779.out) | exact HB.out)⟩⟩
              · rw [if_neg c18] at H
                exact absurd H (by simp)
          · rw [if_neg c15] at H
            have c15b0 : (t1781 == 0) = false := beq_eq_false_iff_ne.mpr c15
            have c15b1 : (t1781 != 0) = true := bne_iff_ne.mpr c15
            replace H := Option.bind_eq_some_iff.mp H
            obtain ⟨t1784, A270, H⟩ := H
            replace H : (if t1784 = 0 then ((decimal_Digit.f a0_0 a0_1 (-1)).bind fun t1785 => (paymasterlaw02_DecimalPlaces.j0 k t1780 (t1785 != 0) a0_0 a0_1 0 0)) else (none)) = some r := H
            have A27 := Aside0.mk A270
            clear A270
            by_cases c28 : t1784 = 0
            · rw [if_pos c28] at H
              have c28b0 : (t1784 == 0) = true := beq_iff_eq.mpr c28
              have c28b1 : (t1784 != 0) = false := bne_eq_false_iff_eq.mpr c28
              clear c28
              replace H := Option.bind_eq_some_iff.mp H
              obtain ⟨t1785, A290, H⟩ := H
              replace H : (paymasterlaw02_DecimalPlaces.j0 k t1780 (t1785 != 0) a0_0 a0_1 0 0) = some r := H
              have A29 := Aside0.mk A290
              clear A290
              have H' := Aside0.mk H
              clear H
              have hnb30 := NB1772_1779.out
              have hnc30 := NB1779_1772.out
              have hcz31_0 : w11.cell? ⟨gb1772, 0, none⟩ = some (.int .u64 a0_0) := (blk_cell BK1772.out 0).trans rfl
              have hcz31_1 : w11.cell? ⟨gb1772, 1, none⟩ = some (.int .u64 a0_1) := (blk_cell BK1772.out 1).trans rfl
              have hfz31_0 := blk_frozen BK1772.out 0
              have hfz31_1 := blk_frozen BK1772.out 1
              go_wp2_with (first | (go_at_call 64; (with_reducible refine (decimal_Digit.calls a0_0 a0_1 (wrap64 (t1780 - 1)) t1781 _ A14.out).mono ?_); rintro e w32 ⟨rfl, hb⟩; have n0_ := Aside0.mk (blk_below (g := gb1772) (o := .cells #[.int .u64 a0_0, .int .u64 a0_1] 25 (0, 0)) (by (with_reducible repeat (first | refine blk_drewN ?_ _ | refine blk_drew ?_ | refine blk_alloc ?_ _)); exact BK1772.out) hb); have n1_ := Aside0.mk (blk_below (g := gb1779) (o := .cells #[.int .u64 0, .int .u64 0] 25 (0, 0)) (by (with_reducible repeat (first | refine blk_drewN ?_ _ | refine blk_drew ?_ | refine blk_alloc ?_ _)); exact BK1779.out) hb); have n2_ := Aside0.mk (below_step (by repeat (first | (with_reducible first | exact HB.out | apply below_alloc | apply pw_below_drewN | apply below_drew1 | refine below_set ?_ GE1772.out | refine below_set ?_ GE1779.out) | exact HB.out)) hb); clear BK1772; clear BK1779; clear HB; have BK1772 := n0_; have BK1779 := n1_; have HB := n2_; clear n0_ n1_ n2_; (try clear hb); (try clear hb2); (try clear hk); (try clear hi); have hcz33_0 : w32.cell? ⟨gb1772, 0, none⟩ = some (.int .u64 a0_0) := (blk_cell BK1772.out 0).trans rfl; have hcz33_1 : w32.cell? ⟨gb1772, 1, none⟩ = some (.int .u64 a0_1) := (blk_cell BK1772.out 1).trans rfl; have hfz33_0 := blk_frozen BK1772.out 0; have hfz33_1 := blk_frozen BK1772.out 1) | (go_at_call 64; (with_reducible refine (decimal_Digit.calls a0_0 a0_1 t1780 t1784 _ A27.out).mono ?_); rintro e w34 ⟨rfl, hb⟩; have n0_ := Aside0.mk (blk_below (g := gb1772) (o := .cells #[.int .u64 a0_0, .int .u64 a0_1] 25 (0, 0)) (by (with_reducible repeat (first | refine blk_drewN ?_ _ | refine blk_drew ?_ | refine blk_alloc ?_ _)); exact BK1772.out) hb); have n1_ := Aside0.mk (blk_below (g := gb1779) (o := .cells #[.int .u64 0, .int .u64 0] 25 (0, 0)) (by (with_reducible repeat (first | refine blk_drewN ?_ _ | refine blk_drew ?_ | refine blk_alloc ?_ _)); exact BK1779.out) hb); have n2_ := Aside0.mk (below_step (by repeat (first | (with_reducible first | exact HB.out | apply below_alloc | apply pw_below_drewN | apply below_drew1 | refine below_set ?_ GE1772.out | refine below_set ?_ GE1779.out) | exact HB.out)) hb); clear BK1772; clear BK1779; clear HB; have BK1772 := n0_; have BK1779 := n1_; have HB := n2_; clear n0_ n1_ n2_; (try clear hb); (try clear hb2); (try clear hk); (try clear hi); have hcz35_0 : w34.cell? ⟨gb1772, 0, none⟩ = some (.int .u64 a0_0) := (blk_cell BK1772.out 0).trans rfl; have hcz35_1 : w34.cell? ⟨gb1772, 1, none⟩ = some (.int .u64 a0_1) := (blk_cell BK1772.out 1).trans rfl; have hfz35_0 := blk_frozen BK1772.out 0; have hfz35_1 := blk_frozen BK1772.out 1) | (go_at_call 64; (with_reducible refine (decimal_Digit.calls a0_0 a0_1 (-1) t1785 _ A29.out).mono ?_); rintro e w36 ⟨rfl, hb⟩; have n0_ := Aside0.mk (blk_below (g := gb1772) (o := .cells #[.int .u64 a0_0, .int .u64 a0_1] 25 (0, 0)) (by (with_reducible repeat (first | refine blk_drewN ?_ _ | refine blk_drew ?_ | refine blk_alloc ?_ _)); exact BK1772.out) hb); have n1_ := Aside0.mk (blk_below (g := gb1779) (o := .cells #[.int .u64 0, .int .u64 0] 25 (0, 0)) (by (with_reducible repeat (first | refine blk_drewN ?_ _ | refine blk_drew ?_ | refine blk_alloc ?_ _)); exact BK1779.out) hb); have n2_ := Aside0.mk (below_step (by repeat (first | (with_reducible first | exact HB.out | apply below_alloc | apply pw_below_drewN | apply below_drew1 | refine below_set ?_ GE1772.out | refine below_set ?_ GE1779.out) | exact HB.out)) hb); clear BK1772; clear BK1779; clear HB; have BK1772 := n0_; have BK1779 := n1_; have HB := n2_; clear n0_ n1_ n2_; (try clear hb); (try clear hb2); (try clear hk); (try clear hi)))
              go_meet
              case rel => exact ⟨_, ((t1785 != 0)), (by first | rfl | (simp; done) | (simp [*]; done)), H', ⟨by first | omega | exact Nat.le_refl _⟩, ⟨by (with_reducible repeat (first | refine blk_drewN ?_ _ | refine blk_drew ?_ | refine blk_alloc ?_ _)); exact BK1772.out⟩, ⟨by (with_reducible repeat (first | refine blk_drewN ?_ _ | refine blk_drew ?_ | refine blk_alloc ?_ _)); exact BK1779.out⟩, ⟨by repeat (first | (with_reducible first | exact HB.out | apply below_alloc | apply pw_below_drewN | apply below_drew1 | refine below_set ?_ GE1772.out | refine below_set ?_ GE1779.out) | exact HB.out)⟩⟩
            · rw [if_neg c28] at H
              exact absurd H (by simp)
    case rest =>
      clear HC5
      try clear c1
      try clear c2
      try clear p2
      try clear c3
      try clear c6
      try clear p6
      try clear c8
      try clear c9
      try clear c12
      try clear c12b0
      try clear c13
      try clear c13b0
      try clear c15
      try clear c15b0
      try clear c15b1
      try clear c16
      try clear c16b0
      try clear c18
      try clear c18b0
      try clear c18b1
      try clear c20
      try clear c21
      try clear c28
      try clear c28b0
      try clear c28b1
      try clear c30
      try clear hcz10_0
      try clear hcz10_1
      try clear hcz21_0
      try clear hcz21_1
      try clear hcz23_0
      try clear hcz23_1
      try clear hcz25_0
      try clear hcz25_1
      try clear hcz31_0
      try clear hcz31_1
      try clear hcz33_0
      try clear hcz33_1
      try clear hcz35_0
      try clear hcz35_1
      try clear hfz10_0
      try clear hfz10_1
      try clear hfz21_0
      try clear hfz21_1
      try clear hfz23_0
      try clear hfz23_1
      try clear hfz25_0
      try clear hfz25_1
      try clear hfz31_0
      try clear hfz31_1
      try clear hfz33_0
      try clear hfz33_1
      try clear hfz35_0
      try clear hfz35_1
      obtain ⟨kq, x45_4, rfl, HA, HJ4, BK1772, BK1779, HB⟩ := hcut
      cases kq with
      | zero => exact absurd HA.out (by simp [paymasterlaw02_DecimalPlaces.j0])
      | succ kj4 =>
        have H := HA.out
        clear HA
        simp only [paymasterlaw02_DecimalPlaces.j0] at H
        by_cases c37 : x45_4 = true
        · subst c37
          have H1 : (none) = some r := by rw [if_pos rfl] at H; exact H
          clear H
          have H := H1
          clear H1
          exact absurd H (by simp)
        · replace c37 := Bool.eq_false_iff.mpr c37
          subst c37
          have H1 : (paymasterlaw02_DecimalPlaces.l0 kj4 t1780 0 a0_0 a0_1 0 0) = some r := by rw [if_neg (show ¬ (false = true) by decide)] at H; exact H
          clear H
          have H := H1
          clear H1
          have H' := Aside0.mk H
          clear H
          go_wp2
          go_loopg [5] kj4 (fun kq v5 w' => ∃ (x5_2 : Int) (x1780000_2 : Int) (x1780001_2 : Int), v5 = .int .i64 x5_2 ∧ Aside0 (paymasterlaw02_DecimalPlaces.l0 kq t1780 x5_2 a0_0 a0_1 x1780000_2 x1780001_2 = some r) ∧ Aside0 (kq ≤ kj4) ∧ Aside0 (w'.heap[gb1772]? = some (.cells #[.int .u64 a0_0, .int .u64 a0_1] 25 (0, 0))) ∧ Aside0 (w'.heap[gb1779]? = some (.cells #[.int .u64 x1780000_2, .int .u64 x1780001_2] 25 (0, 0))) ∧ Aside0 (Below w.heap.size w w'))
          case atStart => exact ⟨(0), (0), (0), (by first | rfl | (simp; done) | (simp [*]; done)), H', ⟨Nat.le_refl _⟩, ⟨by (with_reducible repeat (first | refine blk_drewN ?_ _ | refine blk_drew ?_ | refine blk_alloc ?_ _)); exact BK1772.out⟩, ⟨by (with_reducible repeat (first | refine blk_drewN ?_ _ | refine blk_drew ?_ | refine blk_alloc ?_ _)); exact BK1779.out⟩, ⟨by repeat (first | (with_reducible first | exact HB.out | apply below_alloc | apply pw_below_drewN | apply below_drew1 | refine below_set ?_ GE1772.out | refine below_set ?_ GE1779.out) | exact HB.out)⟩⟩
          case round =>
            clear H'
            try clear c1
            try clear c2
            try clear p2
            try clear c3
            try clear c6
            try clear p6
            try clear c8
            try clear c9
            try clear c12
            try clear c12b0
            try clear c13
            try clear c13b0
            try clear c15
            try clear c15b0
            try clear c15b1
            try clear c16
            try clear c16b0
            try clear c18
            try clear c18b0
            try clear c18b1
            try clear c20
            try clear c21
            try clear c28
            try clear c28b0
            try clear c28b1
            try clear c30
            try clear c37
            try clear hcz10_0
            try clear hcz10_1
            try clear hcz21_0
            try clear hcz21_1
            try clear hcz23_0
            try clear hcz23_1
            try clear hcz25_0
            try clear hcz25_1
            try clear hcz31_0
            try clear hcz31_1
            try clear hcz33_0
            try clear hcz33_1
            try clear hcz35_0
            try clear hcz35_1
            try clear hfz10_0
            try clear hfz10_1
            try clear hfz21_0
            try clear hfz21_1
            try clear hfz23_0
            try clear hfz23_1
            try clear hfz25_0
            try clear hfz25_1
            try clear hfz31_0
            try clear hfz31_1
            try clear hfz33_0
            try clear hfz33_1
            try clear hfz35_0
            try clear hfz35_1
            try clear p2
            try clear p6
            obtain ⟨x5_2, x1780000_2, x1780001_2, rfl, HA, HK2, BK1772, BK1779, HB⟩ := hrel
            cases gk with
            | zero => exact absurd HA.out (by simp [paymasterlaw02_DecimalPlaces.l0])
            | succ k2 =>
              have H := HA.out
              clear HA
              simp only [paymasterlaw02_DecimalPlaces.l0] at H
              by_cases c38 : x5_2 < t1780
              · rw [if_pos c38] at H
                have c38b0 : decide (x5_2 < t1780) = true := decide_eq_true c38
                clear c38
                replace H := Option.bind_eq_some_iff.mp H
                obtain ⟨t1799, A390, H⟩ := H
                replace H : ((decimal_Ten.f k2 x5_2).bind fun bt1800 => ((u128_Times.f bt1800.1 bt1800.2.1 (IntKind.u64.wrap (t1799))).bind fun bt1804 => ((u128_Add.f x1780000_2 x1780001_2 bt1804.1 bt1804.2.1).bind fun bt1808 => (if t1799 > 9 then (none) else (if bt1800.2.2 = 0 then (if bt1804.2.2 = 0 then (if bt1808.2.2 = 0 then (paymasterlaw02_DecimalPlaces.l0 k2 t1780 (wrap64 (x5_2 + 1)) a0_0 a0_1 bt1808.1 bt1808.2.1) else (none)) else (none)) else (none)))))) = some r := H
                have A39 := Aside0.mk A390
                clear A390
                replace H := Option.bind_eq_some_iff.mp H
                obtain ⟨⟨t1800, t1801, t1802⟩, A400, H⟩ := H
                replace H : ((u128_Times.f t1800 t1801 (IntKind.u64.wrap (t1799))).bind fun bt1804 => ((u128_Add.f x1780000_2 x1780001_2 bt1804.1 bt1804.2.1).bind fun bt1808 => (if t1799 > 9 then (none) else (if t1802 = 0 then (if bt1804.2.2 = 0 then (if bt1808.2.2 = 0 then (paymasterlaw02_DecimalPlaces.l0 k2 t1780 (wrap64 (x5_2 + 1)) a0_0 a0_1 bt1808.1 bt1808.2.1) else (none)) else (none)) else (none))))) = some r := H
                have A40 := Aside0.mk A400
                clear A400
                replace H := Option.bind_eq_some_iff.mp H
                obtain ⟨⟨t1804, t1805, t1806⟩, A410, H⟩ := H
                replace H : ((u128_Add.f x1780000_2 x1780001_2 t1804 t1805).bind fun bt1808 => (if t1799 > 9 then (none) else (if t1802 = 0 then (if t1806 = 0 then (if bt1808.2.2 = 0 then (paymasterlaw02_DecimalPlaces.l0 k2 t1780 (wrap64 (x5_2 + 1)) a0_0 a0_1 bt1808.1 bt1808.2.1) else (none)) else (none)) else (none)))) = some r := H
                have A41 := Aside0.mk A410
                clear A410
                replace H := Option.bind_eq_some_iff.mp H
                obtain ⟨⟨t1808, t1809, t1810⟩, A420, H⟩ := H
                replace H : (if t1799 > 9 then (none) else (if t1802 = 0 then (if t1806 = 0 then (if t1810 = 0 then (paymasterlaw02_DecimalPlaces.l0 k2 t1780 (wrap64 (x5_2 + 1)) a0_0 a0_1 t1808 t1809) else (none)) else (none)) else (none))) = some r := H
                have A42 := Aside0.mk A420
                clear A420
                by_cases c43 : t1799 > 9
                · rw [if_pos c43] at H
                  exact absurd H (by simp)
                · rw [if_neg c43] at H
                  have c43b0 : decide (9 < t1799) = false := decide_eq_false c43
                  clear c43
                  by_cases c44 : t1802 = 0
                  · rw [if_pos c44] at H
                    have c44b0 : (t1802 == 0) = true := beq_iff_eq.mpr c44
                    have c44b1 : (t1802 != 0) = false := bne_eq_false_iff_eq.mpr c44
                    clear c44
                    by_cases c45 : t1806 = 0
                    · rw [if_pos c45] at H
                      have c45b0 : (t1806 == 0) = true := beq_iff_eq.mpr c45
                      have c45b1 : (t1806 != 0) = false := bne_eq_false_iff_eq.mpr c45
                      clear c45
                      by_cases c46 : t1810 = 0
                      · rw [if_pos c46] at H
                        have c46b0 : (t1810 == 0) = true := beq_iff_eq.mpr c46
                        have c46b1 : (t1810 != 0) = false := bne_eq_false_iff_eq.mpr c46
                        clear c46
                        have H' := Aside0.mk H
                        clear H
                        have hnb47 := NB1772_1779.out
                        have hnc47 := NB1779_1772.out
                        have hcz48_0 : wr.cell? ⟨gb1772, 0, none⟩ = some (.int .u64 a0_0) := (blk_cell BK1772.out 0).trans rfl
                        have hcz48_1 : wr.cell? ⟨gb1772, 1, none⟩ = some (.int .u64 a0_1) := (blk_cell BK1772.out 1).trans rfl
                        have hfz48_0 := blk_frozen BK1772.out 0
                        have hfz48_1 := blk_frozen BK1772.out 1
                        go_wp2_with (first | ((with_reducible refine gate_callee (f := 64) rfl ?_); refine goesL_ (some 53) rfl rfl Try.func64 (by kernel_rfl) rfl #[.agg #[.int .u64 a0_0, .int .u64 a0_1], .int .i64 x5_2] rfl (by (try simp only [List.map_toArray, List.map_cons, List.map_nil]); first | done | rfl | (simp only [List.length_drop, List.length_take]; rfl)) ?_; (with_reducible refine (decimal_Digit.calls a0_0 a0_1 x5_2 t1799 _ A39.out).mono ?_); rintro e w49 ⟨rfl, hb⟩; refine ⟨_, rfl, ?_⟩; have n0_ := Aside0.mk (blk_below (g := gb1772) (o := .cells #[.int .u64 a0_0, .int .u64 a0_1] 25 (0, 0)) (by (with_reducible repeat (first | refine blk_drewN ?_ _ | refine blk_drew ?_ | refine blk_alloc ?_ _)); exact BK1772.out) hb); have n1_ := Aside0.mk (blk_below (g := gb1779) (o := .cells #[.int .u64 x1780000_2, .int .u64 x1780001_2] 25 (0, 0)) (by (with_reducible repeat (first | refine blk_drewN ?_ _ | refine blk_drew ?_ | refine blk_alloc ?_ _)); exact BK1779.out) hb); have n2_ := Aside0.mk (below_step (by repeat (first | (with_reducible first | exact HB.out | apply below_alloc | apply pw_below_drewN | apply below_drew1 | refine below_set ?_ GE1772.out | refine below_set ?_ GE1779.out) | exact HB.out)) hb); clear BK1772; clear BK1779; clear HB; have BK1772 := n0_; have BK1779 := n1_; have HB := n2_; clear n0_ n1_ n2_; (try clear hb); (try clear hb2); (try clear hk); (try clear hi)) | ((with_reducible refine gate_callee (f := 60) rfl ?_); refine goesL_ (some 56) rfl rfl Try.func60 (by kernel_rfl) rfl #[.int .i64 x5_2] rfl (by (try simp only [List.map_toArray, List.map_cons, List.map_nil]); first | done | rfl | (simp only [List.length_drop, List.length_take]; rfl)) ?_; (with_reducible refine (decimal_Ten.calls k2 x5_2 t1800 t1801 t1802 _ A40.out).mono ?_); rintro e w50 ⟨rfl, hb⟩; refine ⟨_, rfl, ?_⟩; have n0_ := Aside0.mk (blk_below (g := gb1772) (o := .cells #[.int .u64 a0_0, .int .u64 a0_1] 25 (0, 0)) (by (with_reducible repeat (first | refine blk_drewN ?_ _ | refine blk_drew ?_ | refine blk_alloc ?_ _)); exact BK1772.out) hb); have n1_ := Aside0.mk (blk_below (g := gb1779) (o := .cells #[.int .u64 x1780000_2, .int .u64 x1780001_2] 25 (0, 0)) (by (with_reducible repeat (first | refine blk_drewN ?_ _ | refine blk_drew ?_ | refine blk_alloc ?_ _)); exact BK1779.out) hb); have n2_ := Aside0.mk (below_step (by repeat (first | (with_reducible first | exact HB.out | apply below_alloc | apply pw_below_drewN | apply below_drew1 | refine below_set ?_ GE1772.out | refine below_set ?_ GE1779.out) | exact HB.out)) hb); clear BK1772; clear BK1779; clear HB; have BK1772 := n0_; have BK1779 := n1_; have HB := n2_; clear n0_ n1_ n2_; (try clear hb); (try clear hb2); (try clear hk); (try clear hi)) | ((with_reducible refine gate_dst (N := 7) rfl ?_); refine box_event ?hg (N := 7) ?hd (cs := #[.int .u64 0, .int .u64 0]) (t := 25) ?hr ?_; (case hd => rfl); (case hg => rfl); (case hr => first | (go_simp; done) | (go_simp; rfl)); intro gb1803 hg w51 hbox hb; have n0_ := Aside0.mk (blk_below (g := gb1772) (o := .cells #[.int .u64 a0_0, .int .u64 a0_1] 25 (0, 0)) (by (with_reducible repeat (first | refine blk_drewN ?_ _ | refine blk_drew ?_ | refine blk_alloc ?_ _)); exact BK1772.out) hb); have n1_ := Aside0.mk (blk_below (g := gb1779) (o := .cells #[.int .u64 x1780000_2, .int .u64 x1780001_2] 25 (0, 0)) (by (with_reducible repeat (first | refine blk_drewN ?_ _ | refine blk_drew ?_ | refine blk_alloc ?_ _)); exact BK1779.out) hb); have n2_ := Aside0.mk (below_step (by repeat (first | (with_reducible first | exact HB.out | apply below_alloc | apply pw_below_drewN | apply below_drew1 | refine below_set ?_ GE1772.out | refine below_set ?_ GE1779.out) | exact HB.out)) hb); have n3_ := Aside0.mk (hbox); have n4_ := Aside0.mk ((by rw [hg]; exact (below_size (by repeat (first | (with_reducible first | exact HB.out | apply below_alloc | apply pw_below_drewN | apply below_drew1 | refine below_set ?_ GE1772.out | refine below_set ?_ GE1779.out) | exact HB.out))) : w.heap.size ≤ gb1803)); have n5_ := Aside0.mk ((by rw [hg]; exact (below_size (by repeat (first | (with_reducible first | exact HB.out | apply below_alloc | apply pw_below_drewN | apply below_drew1 | refine below_set ?_ GE1772.out | refine below_set ?_ GE1779.out) | exact HB.out))) : w.heap.size ≤ gb1803)); have n6_ := Aside0.mk ((by rw [hg]; exact Nat.ne_of_lt (blk_lt (g := gb1772) (o := .cells #[.int .u64 a0_0, .int .u64 a0_1] 25 (0, 0)) (by (with_reducible repeat (first | refine blk_drewN ?_ _ | refine blk_drew ?_ | refine blk_alloc ?_ _)); exact BK1772.out)) : gb1772 ≠ gb1803)); have n7_ := Aside0.mk ((by rw [hg]; exact Nat.ne_of_gt (blk_lt (g := gb1772) (o := .cells #[.int .u64 a0_0, .int .u64 a0_1] 25 (0, 0)) (by (with_reducible repeat (first | refine blk_drewN ?_ _ | refine blk_drew ?_ | refine blk_alloc ?_ _)); exact BK1772.out)) : gb1803 ≠ gb1772)); have n8_ := Aside0.mk ((by rw [hg]; exact Nat.ne_of_lt (blk_lt (g := gb1779) (o := .cells #[.int .u64 x1780000_2, .int .u64 x1780001_2] 25 (0, 0)) (by (with_reducible repeat (first | refine blk_drewN ?_ _ | refine blk_drew ?_ | refine blk_alloc ?_ _)); exact BK1779.out)) : gb1779 ≠ gb1803)); have n9_ := Aside0.mk ((by rw [hg]; exact Nat.ne_of_gt (blk_lt (g := gb1779) (o := .cells #[.int .u64 x1780000_2, .int .u64 x1780001_2] 25 (0, 0)) (by (with_reducible repeat (first | refine blk_drewN ?_ _ | refine blk_drew ?_ | refine blk_alloc ?_ _)); exact BK1779.out)) : gb1803 ≠ gb1779)); clear BK1772; clear BK1779; clear HB; have BK1772 := n0_; have BK1779 := n1_; have HB := n2_; have BK1803 := n3_; have GW1803 := n4_; have GE1803 := n5_; have NB1772_1803 := n6_; have NB1803_1772 := n7_; have NB1779_1803 := n8_; have NB1803_1779 := n9_; clear n0_ n1_ n2_ n3_ n4_ n5_ n6_ n7_ n8_ n9_; clear hb hbox hg; have hnb52 := NB1803_1772.out; have hnc52 := NB1772_1803.out; have hnb53 := NB1803_1779.out; have hnc53 := NB1779_1803.out; have hcz54_0 : w51.cell? ⟨gb1803, 0, none⟩ = some (.int .u64 0) := (blk_cell BK1803.out 0).trans rfl; have hcz54_1 : w51.cell? ⟨gb1803, 1, none⟩ = some (.int .u64 0) := (blk_cell BK1803.out 1).trans rfl; have hfz54_0 := blk_frozen BK1803.out 0; have hfz54_1 := blk_frozen BK1803.out 1) | ((with_reducible refine gate_callee (f := 56) rfl ?_); refine goesL_ (some 63) rfl rfl Try.func56 (by kernel_rfl) rfl #[.agg #[.int .u64 t1800, .int .u64 t1801], .int .u64 (IntKind.u64.wrap (t1799))] rfl (by (try simp only [List.map_toArray, List.map_cons, List.map_nil]); first | done | rfl | (simp only [List.length_drop, List.length_take]; rfl)) ?_; (with_reducible refine (u128_Times.calls t1800 t1801 (IntKind.u64.wrap (t1799)) t1804 t1805 t1806 _ A41.out).mono ?_); rintro e w55 ⟨rfl, hb⟩; refine ⟨_, rfl, ?_⟩; have n0_ := Aside0.mk (blk_below (g := gb1772) (o := .cells #[.int .u64 a0_0, .int .u64 a0_1] 25 (0, 0)) (by (with_reducible repeat (first | refine blk_drewN ?_ _ | refine blk_drew ?_ | refine blk_alloc ?_ _)); refine blk_far ?_ NB1772_1803.out _; (with_reducible repeat (first | refine blk_drewN ?_ _ | refine blk_drew ?_ | refine blk_alloc ?_ _)); refine blk_far ?_ NB1772_1803.out _; (with_reducible repeat (first | refine blk_drewN ?_ _ | refine blk_drew ?_ | refine blk_alloc ?_ _)); exact BK1772.out) hb); have n1_ := Aside0.mk (blk_below (g := gb1779) (o := .cells #[.int .u64 x1780000_2, .int .u64 x1780001_2] 25 (0, 0)) (by (with_reducible repeat (first | refine blk_drewN ?_ _ | refine blk_drew ?_ | refine blk_alloc ?_ _)); refine blk_far ?_ NB1779_1803.out _; (with_reducible repeat (first | refine blk_drewN ?_ _ | refine blk_drew ?_ | refine blk_alloc ?_ _)); refine blk_far ?_ NB1779_1803.out _; (with_reducible repeat (first | refine blk_drewN ?_ _ | refine blk_drew ?_ | refine blk_alloc ?_ _)); exact BK1779.out) hb); have n2_ := Aside0.mk (blk_below (g := gb1803) (o := .cells #[.int .u64 t1800, .int .u64 t1801] 25 (0, 0)) (by (with_reducible repeat (first | refine blk_drewN ?_ _ | refine blk_drew ?_ | refine blk_alloc ?_ _)); refine blk_put (cs := #[.int .u64 t1800, .int .u64 0]) ?_ 1 _ rfl; (with_reducible repeat (first | refine blk_drewN ?_ _ | refine blk_drew ?_ | refine blk_alloc ?_ _)); refine blk_put (cs := #[.int .u64 0, .int .u64 0]) ?_ 0 _ rfl; (with_reducible repeat (first | refine blk_drewN ?_ _ | refine blk_drew ?_ | refine blk_alloc ?_ _)); exact BK1803.out) hb); have n3_ := Aside0.mk (below_step (by repeat (first | (with_reducible first | exact HB.out | apply below_alloc | apply pw_below_drewN | apply below_drew1 | refine below_set ?_ GE1772.out | refine below_set ?_ GE1779.out | refine below_set ?_ GE1803.out) | exact HB.out)) hb); clear BK1772; clear BK1779; clear BK1803; clear HB; have BK1772 := n0_; have BK1779 := n1_; have BK1803 := n2_; have HB := n3_; clear n0_ n1_ n2_ n3_; (try clear hb); (try clear hb2); (try clear hk); (try clear hi)) | ((with_reducible refine gate_dst (N := 9) rfl ?_); refine box_event ?hg (N := 9) ?hd (cs := #[.int .u64 0, .int .u64 0]) (t := 25) ?hr ?_; (case hd => rfl); (case hg => rfl); (case hr => first | (go_simp; done) | (go_simp; rfl)); intro gb1807 hg w56 hbox hb; have n0_ := Aside0.mk (blk_below (g := gb1772) (o := .cells #[.int .u64 a0_0, .int .u64 a0_1] 25 (0, 0)) (by (with_reducible repeat (first | refine blk_drewN ?_ _ | refine blk_drew ?_ | refine blk_alloc ?_ _)); exact BK1772.out) hb); have n1_ := Aside0.mk (blk_below (g := gb1779) (o := .cells #[.int .u64 x1780000_2, .int .u64 x1780001_2] 25 (0, 0)) (by (with_reducible repeat (first | refine blk_drewN ?_ _ | refine blk_drew ?_ | refine blk_alloc ?_ _)); exact BK1779.out) hb); have n2_ := Aside0.mk (blk_below (g := gb1803) (o := .cells #[.int .u64 t1800, .int .u64 t1801] 25 (0, 0)) (by (with_reducible repeat (first | refine blk_drewN ?_ _ | refine blk_drew ?_ | refine blk_alloc ?_ _)); exact BK1803.out) hb); have n3_ := Aside0.mk (below_step (by repeat (first | (with_reducible first | exact HB.out | apply below_alloc | apply pw_below_drewN | apply below_drew1 | refine below_set ?_ GE1772.out | refine below_set ?_ GE1779.out | refine below_set ?_ GE1803.out) | exact HB.out)) hb); have n4_ := Aside0.mk (hbox); have n5_ := Aside0.mk ((by rw [hg]; exact (below_size (by repeat (first | (with_reducible first | exact HB.out | apply below_alloc | apply pw_below_drewN | apply below_drew1 | refine below_set ?_ GE1772.out | refine below_set ?_ GE1779.out | refine below_set ?_ GE1803.out) | exact HB.out))) : w.heap.size ≤ gb1807)); have n6_ := Aside0.mk ((by rw [hg]; exact (below_size (by repeat (first | (with_reducible first | exact HB.out | apply below_alloc | apply pw_below_drewN | apply below_drew1 | refine below_set ?_ GE1772.out | refine below_set ?_ GE1779.out | refine below_set ?_ GE1803.out) | exact HB.out))) : w.heap.size ≤ gb1807)); have n7_ := Aside0.mk ((by rw [hg]; exact Nat.ne_of_lt (blk_lt (g := gb1772) (o := .cells #[.int .u64 a0_0, .int .u64 a0_1] 25 (0, 0)) (by (with_reducible repeat (first | refine blk_drewN ?_ _ | refine blk_drew ?_ | refine blk_alloc ?_ _)); exact BK1772.out)) : gb1772 ≠ gb1807)); have n8_ := Aside0.mk ((by rw [hg]; exact Nat.ne_of_gt (blk_lt (g := gb1772) (o := .cells #[.int .u64 a0_0, .int .u64 a0_1] 25 (0, 0)) (by (with_reducible repeat (first | refine blk_drewN ?_ _ | refine blk_drew ?_ | refine blk_alloc ?_ _)); exact BK1772.out)) : gb1807 ≠ gb1772)); have n9_ := Aside0.mk ((by rw [hg]; exact Nat.ne_of_lt (blk_lt (g := gb1779) (o := .cells #[.int .u64 x1780000_2, .int .u64 x1780001_2] 25 (0, 0)) (by (with_reducible repeat (first | refine blk_drewN ?_ _ | refine blk_drew ?_ | refine blk_alloc ?_ _)); exact BK1779.out)) : gb1779 ≠ gb1807)); have n10_ := Aside0.mk ((by rw [hg]; exact Nat.ne_of_gt (blk_lt (g := gb1779) (o := .cells #[.int .u64 x1780000_2, .int .u64 x1780001_2] 25 (0, 0)) (by (with_reducible repeat (first | refine blk_drewN ?_ _ | refine blk_drew ?_ | refine blk_alloc ?_ _)); exact BK1779.out)) : gb1807 ≠ gb1779)); have n11_ := Aside0.mk ((by rw [hg]; exact Nat.ne_of_lt (blk_lt (g := gb1803) (o := .cells #[.int .u64 t1800, .int .u64 t1801] 25 (0, 0)) (by (with_reducible repeat (first | refine blk_drewN ?_ _ | refine blk_drew ?_ | refine blk_alloc ?_ _)); exact BK1803.out)) : gb1803 ≠ gb1807)); have n12_ := Aside0.mk ((by rw [hg]; exact Nat.ne_of_gt (blk_lt (g := gb1803) (o := .cells #[.int .u64 t1800, .int .u64 t1801] 25 (0, 0)) (by (with_reducible repeat (first | refine blk_drewN ?_ _ | refine blk_drew ?_ | refine blk_alloc ?_ _)); exact BK1803.out)) : gb1807 ≠ gb1803)); clear BK1772; clear BK1779; clear BK1803; clear HB; have BK1772 := n0_; have BK1779 := n1_; have BK1803 := n2_; have HB := n3_; have BK1807 := n4_; have GW1807 := n5_; have GE1807 := n6_; have NB1772_1807 := n7_; have NB1807_1772 := n8_; have NB1779_1807 := n9_; have NB1807_1779 := n10_; have NB1803_1807 := n11_; have NB1807_1803 := n12_; clear n0_ n1_ n2_ n3_ n4_ n5_ n6_ n7_ n8_ n9_ n10_ n11_ n12_; clear hb hbox hg; have hnb57 := NB1807_1772.out; have hnc57 := NB1772_1807.out; have hnb58 := NB1807_1779.out; have hnc58 := NB1779_1807.out; have hnb59 := NB1807_1803.out; have hnc59 := NB1803_1807.out; have hcz60_0 : w56.cell? ⟨gb1807, 0, none⟩ = some (.int .u64 0) := (blk_cell BK1807.out 0).trans rfl; have hcz60_1 : w56.cell? ⟨gb1807, 1, none⟩ = some (.int .u64 0) := (blk_cell BK1807.out 1).trans rfl; have hfz60_0 := blk_frozen BK1807.out 0; have hfz60_1 := blk_frozen BK1807.out 1; have hcz61_0 : w56.cell? ⟨gb1779, 0, none⟩ = some (.int .u64 x1780000_2) := (blk_cell BK1779.out 0).trans rfl; have hcz61_1 : w56.cell? ⟨gb1779, 1, none⟩ = some (.int .u64 x1780001_2) := (blk_cell BK1779.out 1).trans rfl; have hfz61_0 := blk_frozen BK1779.out 0; have hfz61_1 := blk_frozen BK1779.out 1) | ((with_reducible refine gate_callee (f := 45) rfl ?_); refine goesL_ (some 69) rfl rfl Try.func45 (by kernel_rfl) rfl #[.agg #[.int .u64 x1780000_2, .int .u64 x1780001_2], .agg #[.int .u64 t1804, .int .u64 t1805]] rfl (by (try simp only [List.map_toArray, List.map_cons, List.map_nil]); first | done | rfl | (simp only [List.length_drop, List.length_take]; rfl)) ?_; (with_reducible refine (u128_Add.calls x1780000_2 x1780001_2 t1804 t1805 t1808 t1809 t1810 _ A42.out).mono ?_); rintro e w62 ⟨rfl, hb⟩; refine ⟨_, rfl, ?_⟩; have n0_ := Aside0.mk (blk_below (g := gb1772) (o := .cells #[.int .u64 a0_0, .int .u64 a0_1] 25 (0, 0)) (by (with_reducible repeat (first | refine blk_drewN ?_ _ | refine blk_drew ?_ | refine blk_alloc ?_ _)); refine blk_far ?_ NB1772_1807.out _; (with_reducible repeat (first | refine blk_drewN ?_ _ | refine blk_drew ?_ | refine blk_alloc ?_ _)); refine blk_far ?_ NB1772_1807.out _; (with_reducible repeat (first | refine blk_drewN ?_ _ | refine blk_drew ?_ | refine blk_alloc ?_ _)); exact BK1772.out) hb); have n1_ := Aside0.mk (blk_below (g := gb1779) (o := .cells #[.int .u64 x1780000_2, .int .u64 x1780001_2] 25 (0, 0)) (by (with_reducible repeat (first | refine blk_drewN ?_ _ | refine blk_drew ?_ | refine blk_alloc ?_ _)); refine blk_far ?_ NB1779_1807.out _; (with_reducible repeat (first | refine blk_drewN ?_ _ | refine blk_drew ?_ | refine blk_alloc ?_ _)); refine blk_far ?_ NB1779_1807.out _; (with_reducible repeat (first | refine blk_drewN ?_ _ | refine blk_drew ?_ | refine blk_alloc ?_ _)); exact BK1779.out) hb); have n2_ := Aside0.mk (blk_below (g := gb1803) (o := .cells #[.int .u64 t1800, .int .u64 t1801] 25 (0, 0)) (by (with_reducible repeat (first | refine blk_drewN ?_ _ | refine blk_drew ?_ | refine blk_alloc ?_ _)); refine blk_far ?_ NB1803_1807.out _; (with_reducible repeat (first | refine blk_drewN ?_ _ | refine blk_drew ?_ | refine blk_alloc ?_ _)); refine blk_far ?_ NB1803_1807.out _; (with_reducible repeat (first | refine blk_drewN ?_ _ | refine blk_drew ?_ | refine blk_alloc ?_ _)); exact BK1803.out) hb); have n3_ := Aside0.mk (blk_below (g := gb1807) (o := .cells #[.int .u64 t1804, .int .u64 t1805] 25 (0, 0)) (by (with_reducible repeat (first | refine blk_drewN ?_ _ | refine blk_drew ?_ | refine blk_alloc ?_ _)); refine blk_put (cs := #[.int .u64 t1804, .int .u64 0]) ?_ 1 _ rfl; (with_reducible repeat (first | refine blk_drewN ?_ _ | refine blk_drew ?_ | refine blk_alloc ?_ _)); refine blk_put (cs := #[.int .u64 0, .int .u64 0]) ?_ 0 _ rfl; (with_reducible repeat (first | refine blk_drewN ?_ _ | refine blk_drew ?_ | refine blk_alloc ?_ _)); exact BK1807.out) hb); have n4_ := Aside0.mk (below_step (by repeat (first | (with_reducible first | exact HB.out | apply below_alloc | apply pw_below_drewN | apply below_drew1 | refine below_set ?_ GE1772.out | refine below_set ?_ GE1779.out | refine below_set ?_ GE1803.out | refine below_set ?_ GE1807.out) | exact HB.out)) hb); clear BK1772; clear BK1779; clear BK1803; clear BK1807; clear HB; have BK1772 := n0_; have BK1779 := n1_; have BK1803 := n2_; have BK1807 := n3_; have HB := n4_; clear n0_ n1_ n2_ n3_ n4_; (try clear hb); (try clear hb2); (try clear hk); (try clear hi)) | ((with_reducible refine gate_dst (N := 11) rfl ?_); refine box_event ?hg (N := 11) ?hd (cs := #[.int .u64 0, .int .u64 0]) (t := 25) ?hr ?_; (case hd => rfl); (case hg => rfl); (case hr => first | (go_simp; done) | (go_simp; rfl)); intro gb1811 hg w63 hbox hb; have n0_ := Aside0.mk (blk_below (g := gb1772) (o := .cells #[.int .u64 a0_0, .int .u64 a0_1] 25 (0, 0)) (by (with_reducible repeat (first | refine blk_drewN ?_ _ | refine blk_drew ?_ | refine blk_alloc ?_ _)); exact BK1772.out) hb); have n1_ := Aside0.mk (blk_below (g := gb1779) (o := .cells #[.int .u64 x1780000_2, .int .u64 x1780001_2] 25 (0, 0)) (by (with_reducible repeat (first | refine blk_drewN ?_ _ | refine blk_drew ?_ | refine blk_alloc ?_ _)); exact BK1779.out) hb); have n2_ := Aside0.mk (blk_below (g := gb1803) (o := .cells #[.int .u64 t1800, .int .u64 t1801] 25 (0, 0)) (by (with_reducible repeat (first | refine blk_drewN ?_ _ | refine blk_drew ?_ | refine blk_alloc ?_ _)); exact BK1803.out) hb); have n3_ := Aside0.mk (blk_below (g := gb1807) (o := .cells #[.int .u64 t1804, .int .u64 t1805] 25 (0, 0)) (by (with_reducible repeat (first | refine blk_drewN ?_ _ | refine blk_drew ?_ | refine blk_alloc ?_ _)); exact BK1807.out) hb); have n4_ := Aside0.mk (below_step (by repeat (first | (with_reducible first | exact HB.out | apply below_alloc | apply pw_below_drewN | apply below_drew1 | refine below_set ?_ GE1772.out | refine below_set ?_ GE1779.out | refine below_set ?_ GE1803.out | refine below_set ?_ GE1807.out) | exact HB.out)) hb); have n5_ := Aside0.mk (hbox); have n6_ := Aside0.mk ((by rw [hg]; exact (below_size (by repeat (first | (with_reducible first | exact HB.out | apply below_alloc | apply pw_below_drewN | apply below_drew1 | refine below_set ?_ GE1772.out | refine below_set ?_ GE1779.out | refine below_set ?_ GE1803.out | refine below_set ?_ GE1807.out) | exact HB.out))) : w.heap.size ≤ gb1811)); have n7_ := Aside0.mk ((by rw [hg]; exact (below_size (by repeat (first | (with_reducible first | exact HB.out | apply below_alloc | apply pw_below_drewN | apply below_drew1 | refine below_set ?_ GE1772.out | refine below_set ?_ GE1779.out | refine below_set ?_ GE1803.out | refine below_set ?_ GE1807.out) | exact HB.out))) : w.heap.size ≤ gb1811)); have n8_ := Aside0.mk ((by rw [hg]; exact Nat.ne_of_lt (blk_lt (g := gb1772) (o := .cells #[.int .u64 a0_0, .int .u64 a0_1] 25 (0, 0)) (by (with_reducible repeat (first | refine blk_drewN ?_ _ | refine blk_drew ?_ | refine blk_alloc ?_ _)); exact BK1772.out)) : gb1772 ≠ gb1811)); have n9_ := Aside0.mk ((by rw [hg]; exact Nat.ne_of_gt (blk_lt (g := gb1772) (o := .cells #[.int .u64 a0_0, .int .u64 a0_1] 25 (0, 0)) (by (with_reducible repeat (first | refine blk_drewN ?_ _ | refine blk_drew ?_ | refine blk_alloc ?_ _)); exact BK1772.out)) : gb1811 ≠ gb1772)); have n10_ := Aside0.mk ((by rw [hg]; exact Nat.ne_of_lt (blk_lt (g := gb1779) (o := .cells #[.int .u64 x1780000_2, .int .u64 x1780001_2] 25 (0, 0)) (by (with_reducible repeat (first | refine blk_drewN ?_ _ | refine blk_drew ?_ | refine blk_alloc ?_ _)); exact BK1779.out)) : gb1779 ≠ gb1811)); have n11_ := Aside0.mk ((by rw [hg]; exact Nat.ne_of_gt (blk_lt (g := gb1779) (o := .cells #[.int .u64 x1780000_2, .int .u64 x1780001_2] 25 (0, 0)) (by (with_reducible repeat (first | refine blk_drewN ?_ _ | refine blk_drew ?_ | refine blk_alloc ?_ _)); exact BK1779.out)) : gb1811 ≠ gb1779)); have n12_ := Aside0.mk ((by rw [hg]; exact Nat.ne_of_lt (blk_lt (g := gb1803) (o := .cells #[.int .u64 t1800, .int .u64 t1801] 25 (0, 0)) (by (with_reducible repeat (first | refine blk_drewN ?_ _ | refine blk_drew ?_ | refine blk_alloc ?_ _)); exact BK1803.out)) : gb1803 ≠ gb1811)); have n13_ := Aside0.mk ((by rw [hg]; exact Nat.ne_of_gt (blk_lt (g := gb1803) (o := .cells #[.int .u64 t1800, .int .u64 t1801] 25 (0, 0)) (by (with_reducible repeat (first | refine blk_drewN ?_ _ | refine blk_drew ?_ | refine blk_alloc ?_ _)); exact BK1803.out)) : gb1811 ≠ gb1803)); have n14_ := Aside0.mk ((by rw [hg]; exact Nat.ne_of_lt (blk_lt (g := gb1807) (o := .cells #[.int .u64 t1804, .int .u64 t1805] 25 (0, 0)) (by (with_reducible repeat (first | refine blk_drewN ?_ _ | refine blk_drew ?_ | refine blk_alloc ?_ _)); exact BK1807.out)) : gb1807 ≠ gb1811)); have n15_ := Aside0.mk ((by rw [hg]; exact Nat.ne_of_gt (blk_lt (g := gb1807) (o := .cells #[.int .u64 t1804, .int .u64 t1805] 25 (0, 0)) (by (with_reducible repeat (first | refine blk_drewN ?_ _ | refine blk_drew ?_ | refine blk_alloc ?_ _)); exact BK1807.out)) : gb1811 ≠ gb1807)); clear BK1772; clear BK1779; clear BK1803; clear BK1807; clear HB; have BK1772 := n0_; have BK1779 := n1_; have BK1803 := n2_; have BK1807 := n3_; have HB := n4_; have BK1811 := n5_; have GW1811 := n6_; have GE1811 := n7_; have NB1772_1811 := n8_; have NB1811_1772 := n9_; have NB1779_1811 := n10_; have NB1811_1779 := n11_; have NB1803_1811 := n12_; have NB1811_1803 := n13_; have NB1807_1811 := n14_; have NB1811_1807 := n15_; clear n0_ n1_ n2_ n3_ n4_ n5_ n6_ n7_ n8_ n9_ n10_ n11_ n12_ n13_ n14_ n15_; clear hb hbox hg; have hnb64 := NB1811_1772.out; have hnc64 := NB1772_1811.out; have hnb65 := NB1811_1779.out; have hnc65 := NB1779_1811.out; have hnb66 := NB1811_1803.out; have hnc66 := NB1803_1811.out; have hnb67 := NB1811_1807.out; have hnc67 := NB1807_1811.out; have hcz68_0 : w63.cell? ⟨gb1811, 0, none⟩ = some (.int .u64 0) := (blk_cell BK1811.out 0).trans rfl; have hcz68_1 : w63.cell? ⟨gb1811, 1, none⟩ = some (.int .u64 0) := (blk_cell BK1811.out 1).trans rfl; have hfz68_0 := blk_frozen BK1811.out 0; have hfz68_1 := blk_frozen BK1811.out 1; have hcz69_0 : w63.cell? ⟨gb1779, 0, none⟩ = some (.int .u64 x1780000_2) := (blk_cell BK1779.out 0).trans rfl; have hcz69_1 : w63.cell? ⟨gb1779, 1, none⟩ = some (.int .u64 x1780001_2) := (blk_cell BK1779.out 1).trans rfl; have hfz69_0 := blk_frozen BK1779.out 0; have hfz69_1 := blk_frozen BK1779.out 1))
                        go_roundg k2
                        case measure => have := HJ4.out; have := HK2.out; omega
                        case rel => exact ⟨(wrap64 (x5_2 + 1)), (t1808), (t1809), (by first | rfl | (simp; done) | (simp [*]; done)), H', ⟨by have := HJ4.out; have := HK2.out; omega⟩, ⟨by (with_reducible repeat (first | refine blk_drewN ?_ _ | refine blk_drew ?_ | refine blk_alloc ?_ _)); refine blk_far ?_ NB1772_1779.out _; (with_reducible repeat (first | refine blk_drewN ?_ _ | refine blk_drew ?_ | refine blk_alloc ?_ _)); refine blk_far ?_ NB1772_1779.out _; (with_reducible repeat (first | refine blk_drewN ?_ _ | refine blk_drew ?_ | refine blk_alloc ?_ _)); refine blk_far ?_ NB1772_1811.out _; (with_reducible repeat (first | refine blk_drewN ?_ _ | refine blk_drew ?_ | refine blk_alloc ?_ _)); refine blk_far ?_ NB1772_1811.out _; (with_reducible repeat (first | refine blk_drewN ?_ _ | refine blk_drew ?_ | refine blk_alloc ?_ _)); exact BK1772.out⟩, ⟨by (with_reducible repeat (first | refine blk_drewN ?_ _ | refine blk_drew ?_ | refine blk_alloc ?_ _)); refine blk_put (cs := #[.int .u64 t1808, .int .u64 x1780001_2]) ?_ 1 _ rfl; (with_reducible repeat (first | refine blk_drewN ?_ _ | refine blk_drew ?_ | refine blk_alloc ?_ _)); refine blk_put (cs := #[.int .u64 x1780000_2, .int .u64 x1780001_2]) ?_ 0 _ rfl; (with_reducible repeat (first | refine blk_drewN ?_ _ | refine blk_drew ?_ | refine blk_alloc ?_ _)); refine blk_far ?_ NB1779_1811.out _; (with_reducible repeat (first | refine blk_drewN ?_ _ | refine blk_drew ?_ | refine blk_alloc ?_ _)); refine blk_far ?_ NB1779_1811.out _; (with_reducible repeat (first | refine blk_drewN ?_ _ | refine blk_drew ?_ | refine blk_alloc ?_ _)); exact BK1779.out⟩, ⟨by repeat (first | (with_reducible first | exact HB.out | apply below_alloc | apply pw_below_drewN | apply below_drew1 | refine below_set ?_ GE1772.out | refine below_set ?_ GE1779.out | refine below_set ?_ GE1803.out | refine below_set ?_ GE1807.out | refine below_set ?_ GE1811.out) | exact HB.out)⟩⟩
                      · rw [if_neg c46] at H
                        exact absurd H (by simp)
                    · rw [if_neg c45] at H
                      exact absurd H (by simp)
                  · rw [if_neg c44] at H
                    exact absurd H (by simp)
              · rw [if_neg c38] at H
                have c38b0 : decide (x5_2 < t1780) = false := decide_eq_false c38
                clear c38
                obtain rfl := Option.some.inj H
                have hnb70 := NB1779_1772.out
                have hnc70 := NB1772_1779.out
                have hcz71_0 : wr.cell? ⟨gb1779, 0, none⟩ = some (.int .u64 x1780000_2) := (blk_cell BK1779.out 0).trans rfl
                have hcz71_1 : wr.cell? ⟨gb1779, 1, none⟩ = some (.int .u64 x1780001_2) := (blk_cell BK1779.out 1).trans rfl
                have hfz71_0 := blk_frozen BK1779.out 0
                have hfz71_1 := blk_frozen BK1779.out 1
                have hcz72_0 : wr.cell? ⟨gb1772, 0, none⟩ = some (.int .u64 a0_0) := (blk_cell BK1772.out 0).trans rfl
                have hcz72_1 : wr.cell? ⟨gb1772, 1, none⟩ = some (.int .u64 a0_1) := (blk_cell BK1772.out 1).trans rfl
                have hfz72_0 := blk_frozen BK1772.out 0
                have hfz72_1 := blk_frozen BK1772.out 1
                go_wp2
                go_ret
                exact ⟨by first | rfl | (simp [errW_none, errW_some] <;> rfl) | (simp [*, errW_none, errW_some] <;> rfl), by repeat (first | (with_reducible first | exact HB.out | apply below_alloc | apply pw_below_drewN | apply below_drew1 | refine below_set ?_ GE1772.out | refine below_set ?_ GE1779.out) | exact HB.out)⟩
  · replace c3 := Bool.eq_false_iff.mpr c3
    subst c3
    have H1 : (none) = some r := by rw [if_neg (show ¬ (false = true) by decide)] at H; exact H
    clear H
    have H := H1
    clear H1
    exact absurd H (by simp)
end Go.Proofs.Ytpkjpiphjdpegaa.P
namespace Go.Proofs.Ytpkjpiphjdpegaa.P
open Go.RowKit Go.Proofs.YtpkjpiphjdpegaaW.PrintWords Go.Proofs.YtpkjpiphjdpegaaW.PrintLast Go.Proofs.YtpkjpiphjdpegaaW.PrintMore
set_option linter.unusedVariables false
set_option linter.unusedSimpArgs false
theorem awake2 : paymasterlaw02_awake.f 200 = some true := by decide +kernel
end Go.Proofs.Ytpkjpiphjdpegaa.P
namespace Go.Proofs.Ytpkjpiphjdpegaa.P
open Go.RowKit Go.Proofs.YtpkjpiphjdpegaaW.PrintWords Go.Proofs.YtpkjpiphjdpegaaW.PrintLast Go.Proofs.YtpkjpiphjdpegaaW.PrintMore
set_option linter.unusedVariables false
set_option linter.unusedSimpArgs false
theorem place_add (v p : Int) (v0 : 0 ≤ v) (p0 : 0 < p) : v % (p * 10) = v % p + p * (v / p % 10) := by
  have e := Int.ediv_mul_add_emod v p
  have m0 := Int.emod_nonneg v (by omega : p ≠ 0)
  have m1 := Int.emod_lt_of_pos v p0
  have f := Int.ediv_mul_add_emod (v / p) 10
  have b0 := Int.emod_nonneg (v / p) (by omega : (10 : Int) ≠ 0)
  have b1 := Int.emod_lt_of_pos (v / p) (by omega : (0 : Int) < 10)
  generalize v / p % 10 = b at *
  generalize v / p / 10 = d at *
  generalize v % p = m at *
  have t : v = m + p * b + d * (p * 10) := by
    rw [← e, ← f, Int.add_mul, Int.mul_assoc, Int.mul_comm 10 p, Int.mul_comm b p]
    omega
  have u0 : 0 ≤ p * b := Int.mul_nonneg (by omega) b0
  have u1 : p * b ≤ p * 9 := Int.mul_le_mul_of_nonneg_left (by omega) (by omega)
  rw [t, Int.add_mul_emod_self_right]
  exact Int.emod_eq_of_lt (by omega) (by omega)
theorem places_l0 (a b : Int) (ha : U64 a) (hb : U64 b) (n : Nat) (hn : n ≤ 39) (hv : val a b < 10 ^ n) (k : Nat) : ∀ (t i : Nat), i + t = n → paymasterlaw02_DecimalPlaces.l0 (k + 40 + t) (n : Int) (i : Int) a b (hiOf (val a b % 10 ^ i)) (loOf (val a b % 10 ^ i)) = some true
  | 0, i, h => by
    obtain rfl : i = n := by omega
    obtain ⟨v0, v1⟩ := val_range a b ha hb
    show paymasterlaw02_DecimalPlaces.l0 (k + 39 + 1) _ _ _ _ _ _ = _
    rw [paymasterlaw02_DecimalPlaces.l0, if_neg (by omega), Int.emod_eq_of_lt v0 hv, hiOf_val a b hb, loOf_val a b hb]
    simp
  | t + 1, i, h => by
    obtain ⟨v0, v1⟩ := val_range a b ha hb
    have ih := places_l0 a b ha hb n hn hv k t (i + 1) (by omega)
    have p := ten_pos i
    have pl := ten_lt i (by omega)
    obtain ⟨z1, z2⟩ := u_hiOf (10 ^ i) (by omega) pl
    show paymasterlaw02_DecimalPlaces.l0 (k + 40 + t + 1) _ _ _ _ _ _ = _
    rw [paymasterlaw02_DecimalPlaces.l0, if_pos (by omega), digit_num a b i ha hb (by omega), Option.bind_some, show k + 40 + t = (k + 1 + t) + 39 from by omega, ten_is (k + 1 + t) (i : Int) (by omega)]
    have T : tenOf (i : Int) = (hiOf (10 ^ i), loOf (10 ^ i), 0) := by
      unfold tenOf
      rw [if_neg (by omega), if_pos (by omega), Int.toNat_natCast]
    have A := place_add (val a b) (10 ^ i) v0 p
    have hs : (10 : Int) ^ i * 10 = 10 ^ (i + 1) := (Int.pow_succ 10 i).symm
    rw [hs] at A
    have d0 := Int.emod_nonneg (val a b / 10 ^ i) (by omega : (10 : Int) ≠ 0)
    have d1 := Int.emod_lt_of_pos (val a b / 10 ^ i) (by omega : (0 : Int) < 10)
    have m0 := Int.emod_nonneg (val a b) (by omega : (10 : Int) ^ i ≠ 0)
    have q1 : val a b % 10 ^ (i + 1) ≤ val a b := by
      have := Int.ediv_mul_add_emod (val a b) (10 ^ (i + 1))
      have := Int.mul_nonneg (Int.ediv_nonneg v0 (Int.le_of_lt (ten_pos (i + 1)))) (Int.le_of_lt (ten_pos (i + 1)))
      omega
    generalize hd : val a b / 10 ^ i % 10 = d at *
    have pd : 0 ≤ 10 ^ i * d := Int.mul_nonneg (by omega) d0
    have hu : U64 d := ⟨d0, by omega⟩
    obtain ⟨x1, x2⟩ := u_hiOf (10 ^ i * d) pd (by omega)
    obtain ⟨y1, y2⟩ := u_hiOf (val a b % 10 ^ i) m0 (by omega)
    rw [Option.bind_some, T, wu d d0 (by omega), times_num _ _ d z1 z2 hu, val_halves, if_pos (by omega), Option.bind_some, add_num _ _ _ _ y1 y2 x1 x2, val_halves, val_halves, ← A, if_pos (by omega), Option.bind_some, if_neg (by omega), if_pos rfl, if_pos rfl, if_pos rfl, wi _ (by omega) (by omega), show ((i : Int) + 1) = ((i + 1 : Nat) : Int) from by omega, show k + 1 + t + 39 = k + 40 + t from by omega]
    exact ih
theorem decimalPlaces_pure (a b : Int) (ha : U64 a) (hb : U64 b) : paymasterlaw02_DecimalPlaces.f 200 a b = some true := by
  obtain ⟨v0, v1⟩ := val_range a b ha hb
  obtain ⟨e, d, l0, l1⟩ := dec_facts (val a b) v0 v1
  have hm := m39
  have hi := dec_hi 38 (val a b) v0 (by omega)
  have lo := dec_lo 38 (val a b) (by omega)
  have z := place_zero (dec (val a b)) d (dec (val a b)).length (Nat.le_refl _)
  rw [e] at z
  unfold paymasterlaw02_DecimalPlaces.f
  rw [awake2, Option.bind_some, if_pos rfl, digits_num a b ha hb, Option.bind_some]
  have hx : decF 38 (val a b) = dec (val a b) := rfl
  rw [hx] at hi lo
  generalize dec (val a b) = L at *
  have P := places_l0 a b ha hb L.length l1 hi (159 - L.length - 1) L.length 0 (by omega)
  rw [Int.pow_zero, Int.emod_one, show 159 - L.length - 1 + 40 + L.length = 198 from by omega] at P
  have J : paymasterlaw02_DecimalPlaces.j0 200 (L.length : Int) ((0 : Int) != 0) a b 0 0 = some true := by
    show paymasterlaw02_DecimalPlaces.j0 (199 + 1) _ _ _ _ _ _ = _
    rw [paymasterlaw02_DecimalPlaces.j0, if_neg (by simp)]
    have := (paymasterlaw02_DecimalPlaces.mono_l 198).2 (L.length : Int) 0 a b 0 0 true
    exact this P
  rw [if_neg (by omega), if_neg (by omega), wi _ (by omega) (by omega), show (L.length : Int) - 1 = ((L.length - 1 : Nat) : Int) from by omega, digit_num a b (L.length - 1) ha hb (by omega), Option.bind_some, digit_num a b L.length ha hb (by omega), Option.bind_some, z, digit_neg a b (-1) ha hb (by omega) (by omega), Option.bind_some, if_pos rfl]
  by_cases h0 : val a b / 10 ^ (L.length - 1) % 10 = 0
  · have hz : val a b = 0 := by
      by_cases c : 1 < L.length
      · exfalso
        have h1 := lo c
        have p := ten_pos (L.length - 1)
        have h2 : val a b < 10 ^ (L.length - 1) * 10 := by
          have hs : (10 : Int) ^ (L.length - 1) * 10 = 10 ^ (L.length - 1 + 1) := (Int.pow_succ 10 (L.length - 1)).symm
          rw [hs, show L.length - 1 + 1 = L.length from by omega]
          exact hi
        have h3 : 1 ≤ val a b / 10 ^ (L.length - 1) := Int.le_ediv_of_mul_le p (by omega)
        have h4 : val a b / 10 ^ (L.length - 1) < 10 := Int.ediv_lt_of_lt_mul p (by omega)
        omega
      · have : L.length = 1 := by omega
        rw [this] at h0 hi
        rw [Int.pow_succ, Int.pow_zero] at hi
        rw [Int.pow_zero, Int.ediv_one] at h0
        omega
    obtain ⟨a0, a1⟩ := ha
    obtain ⟨b0, b1⟩ := hb
    have az : a = 0 := by unfold val at hz; omega
    have bz : b = 0 := by unfold val at hz; omega
    subst az bz
    rw [if_pos h0, if_neg (by simp)]
    exact J
  · rw [if_neg h0]
    exact J
theorem decimalPlaces_walk {w : World} (a b : Int) (ha : U64 a) (hb : U64 b) :
    Calls Try.prog 21 #[.agg #[.int .u64 a, .int .u64 b]] w fun e w' => e = .returned (.bool true) ∧ Below w.heap.size w w' :=
  paymasterlaw02_DecimalPlaces.calls 200 a b true w (decimalPlaces_pure a b ha hb)
end Go.Proofs.Ytpkjpiphjdpegaa.P
namespace Go.Proofs.Ytpkjpiphjdpegaa.decimalPlaces
open Go.ChangeShapes Go.WideShapes Go.ChangeAt Go.RowKit Go.Proofs.Ytpkjpiphjdpegaa.P
open Go.ChangeMaps (open_string shut_string)
set_option linter.unusedVariables false
theorem own : ownKnob Try.prog.godebug = none := by kernel_rfl
theorem laidOut : laidOutB Try.prog = true := by kernel_rfl
set_option maxRecDepth 100000 in
theorem lifted (os : Os) (started : os.Started) (H : Type) (enc : TypeId × Value → H) :
    ReturnsInHanded {} Try.checked os 21 .any (Rows.decimalPlacesSpec.pre6 enc Try.prog Try.f21 Rows.decimalPlacesRow.domain false) (Rows.decimalPlacesSpec.post enc Try.prog Try.f21 false true false false) := by
  refine returnsInHanded_of_change_sized (C := Try.checked) own started (by kernel_rfl) Try.func21
    (ChangeSpec.witness6 (enc := enc) (C := Try.checked) false ⟨#[], #[.agg #[.int .u64 0, .int .u64 0]], []⟩ 8 (by kernel_rfl) (by kernel_rfl) (by kernel_rfl) (by kernel_rfl)) ?_
  intro W base args ds gs before hval0 hW hcnd hsz0 _
  have hval : ∀ (j : Nat) t v, Try.f21.params[j]? = some t → args[j]? = some v → Value.okWide Try.prog W .any base t v := hval0
  have hW' := hW
  obtain ⟨p, q, hA0, hV, rfl, hfz, hnd⟩ := hW
  have hA : DataW.TrodAll enc Try.prog W 0 (fun _ => true) true Try.f21.params.toList args.toList ds p := hA0
  rw [Try.params21] at hA hval
  have hAll := hA
  obtain ⟨v0, vs0, d0, ds0, p0, q0, hargs, rfl, rfl, h0, r0⟩ := trodAll_cons hA
  obtain ⟨rfl, rfl, rfl⟩ := trodAll_nil r0
  obtain rfl : args = #[v0] := by cases args; simp_all
  obtain ⟨rfl, rfl⟩ := trodVars_none hV
  obtain ⟨a0_0, a0_1, rfl, g0_0, g0_1⟩ := arg_25 (hval 0 25 v0 rfl rfl) h0
  clear hA0 hval0 hsz0
  refine (decimalPlaces_walk (w := W) a0_0 a0_1 g0_0 g0_1).mono fun e W' ⟨he, bel⟩ => ?_
  subst he
  exact ⟨_, rfl, _, _, _, [], _, [], hW', trodAll_mk1 (shut_bool Try.underlying4 _), args_back laidOut bel (by kernel_rfl) hAll, rfl, bel.frame _, fun h => by cases h⟩
theorem both {a b : Bool} (h : a = true) (k : b = true) : (a && b) = true := by rw [h, k]; rfl
theorem c0 : (Rows.decimalPlacesRow.wf (OpenSpec.ofChange Rows.decimalPlacesSpec)) = true := by kernel_rfl
theorem c1 : (laidOutB Try.prog) = true := by kernel_rfl
theorem c2 : (mapsRowed Try.prog) = true := by kernel_rfl
theorem c3 : (Try.f21.params.all (Try.prog.readableRec ·)) = true := by kernel_rfl
theorem c4 : (namedTie Try.prog Rows.decimalPlacesRow.named Rows.decimalPlacesSpec.vars) = true := by kernel_rfl
theorem c5 : ((Rows.decimalPlacesRow.stops == [])) = true := by kernel_rfl
theorem c6 : ((Try.prog.stops == [])) = true := by kernel_rfl
theorem c7 : ((Rows.decimalPlacesRow.knobs == [])) = true := by kernel_rfl
theorem c8 : ((Try.prog.stopKnobs == [])) = true := by kernel_rfl
theorem c9 : ((Rows.decimalPlacesRow.inPlace == Try.prog.inPlace 21)) = true := by kernel_rfl
theorem c10 : ((Rows.decimalPlacesRow.unfollowed == Try.prog.unfollowed 21)) = true := by kernel_rfl
theorem c11 : ((Rows.decimalPlacesRow.recurses == Try.prog.recurses 21)) = true := by kernel_rfl
theorem c12 : ((Rows.decimalPlacesRow.named == Try.prog.varsNamed 21)) = true := by kernel_rfl
theorem c13 : ((Rows.decimalPlacesRow.maps == (Try.f21.params.toList ++ Rows.decimalPlacesSpec.plain.varTypes Try.prog).any (Try.prog.mapsRec ·))) = true := by kernel_rfl
theorem c14 : ((Rows.decimalPlacesRow.ifaces == (Try.f21.params.toList ++ Rows.decimalPlacesSpec.plain.varTypes Try.prog).any (Try.prog.ifacesRec ·))) = true := by kernel_rfl
theorem c15 : ((Rows.decimalPlacesRow.mapsOut == Try.prog.mapsAmong Try.f21.resultTypes.toList)) = true := by kernel_rfl
theorem c16 : ((Rows.decimalPlacesRow.loops == (Try.f21.params.toList ++ Rows.decimalPlacesSpec.plain.varTypes Try.prog).any (Try.prog.loopsFrom ·))) = true := by kernel_rfl
theorem c17 : ((Rows.decimalPlacesRow.wideKeys == (Try.f21.params.toList ++ Rows.decimalPlacesSpec.plain.varTypes Try.prog ++ Try.f21.resultTypes.toList).any (Try.prog.wideKeysFrom ·))) = true := by kernel_rfl
theorem c18 : (Rows.decimalPlacesSpec.vars.all (Try.prog.varReadable ·)) = true := by kernel_rfl
theorem c19 : (Try.f21.resultTypes.all (fun t => Try.prog.readableRec t && decide (t < Try.prog.types.size))) = true := by kernel_rfl
theorem c20 : ((Rows.decimalPlacesRow.ifacesOut == Try.f21.resultTypes.toList.any (Try.prog.ifacesRec ·))) = true := by kernel_rfl
theorem c21 : ((Rows.decimalPlacesRow.loopsOut == Try.f21.resultTypes.toList.any (Try.prog.loopsFrom ·))) = true := by kernel_rfl
theorem c22 : ((Rows.decimalPlacesRow.plainKeys == Try.prog.plainKeys)) = true := by kernel_rfl
theorem c23 : (Rows.decimalPlacesRow.shortTexts.isNone) = true := by kernel_rfl
theorem c24 : (Try.prog.stopsHeard) = true := by kernel_rfl
theorem c25 : (Try.prog.mayEnter) = true := Facts.mayEnter
theorem c26 : ((Rows.decimalPlacesRow.lifted == Try.prog.liftsFinal)) = true := by rw [Facts.liftsFinal]; kernel_rfl
theorem c27 : ((Try.prog.make == some Rows.decimalPlacesRow.make)) = true := by rw [Facts.make]; kernel_rfl
theorem c28 : ((Rows.decimalPlacesRow.kinds == (if Rows.decimalPlacesRow.domain.isEmpty then [] else Try.f21.params.toList.map fun t => match Try.prog.underlying t with | some (.int k) => some k | _ => none))) = true := by kernel_rfl
theorem c29 : ((Rows.decimalPlacesRow.pinned == Rows.decimalPlacesRow.pinnedBy)) = true := by kernel_rfl
theorem c30 : ((Rows.decimalPlacesRow.veiled == (Try.f21.params.toList ++ Rows.decimalPlacesSpec.plain.varTypes Try.prog ++ Try.f21.resultTypes.toList).any (Try.prog.veiledRec ·))) = true := by kernel_rfl
theorem c31 : (Rows.decimalPlacesRow.veiledFits Try.prog Try.f21.params.toList (Try.f21.params.toList ++ Rows.decimalPlacesSpec.plain.varTypes Try.prog ++ Try.f21.resultTypes.toList)) = true := by kernel_rfl
set_option maxRecDepth 100000 in
theorem closed : joinedFacts Try.prog 21 Try.f21 Rows.decimalPlacesSpec Rows.decimalPlacesRow = true := by
  unfold joinedFacts
  exact both (both (both (both (both (both (both (both (both (both (both (both (both (both (both (both (both (both (both (both (both (both (both (both (both (both (both (both (both (both (both (c0) c1) c2) c3) c4) c5) c6) c7) c8) c9) c10) c11) c12) c13) c14) c15) c16) c17) c18) c19) c20) c21) c22) c23) c24) c25) c26) c27) c28) c29) c30) c31
theorem over : Rows.decimalPlacesRow.holds Try.pinned (OpenSpec.ofChange Rows.decimalPlacesSpec) :=
  OpenClaim.holds_of_wide 21 Try.f21 rfl rfl rfl rfl rfl rfl rfl ⟨rfl, rfl, rfl, rfl, rfl⟩ rfl rfl rfl rfl rfl (by kernel_rfl) Try.func21 closed
    (of_decide_eq_true (by kernel_rfl)) (by unfold Func.isWrapper; first | (rw [if_pos (by decide +kernel)]; kernel_rfl) | (rw [if_neg (by decide +kernel)]; exact ⟨rfl, rfl⟩))
    (fun os started H enc _ => lifted os started H enc)
end Go.Proofs.Ytpkjpiphjdpegaa.decimalPlaces
namespace Go.Proofs.Ytpkjpiphjdpegaa
theorem decimalPlaces_holds : Rows.DecimalPlacesSaid := decimalPlaces.over
end Go.Proofs.Ytpkjpiphjdpegaa
