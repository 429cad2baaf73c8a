/- A program of this session wrote this text out of the session's own texts. (part 4 of 4) -/
import Derived.Test.YtpkjpiphjdpegaaCWideNarrow3
namespace Go.Proofs.Ytpkjpiphjdpegaa.P
open Go.RowKit Go.Proofs.YtpkjpiphjdpegaaW.PrintWords Go.Proofs.YtpkjpiphjdpegaaW.PrintLast Go.Proofs.YtpkjpiphjdpegaaW.PrintMore
attribute [local go_sem] max2_int min2_int max_two min_two max_three min_three max_four min_four
set_option linter.unusedVariables false
set_option linter.unusedSimpArgs false
attribute [local go_sem high] eqA25 eqA27
def paymasterlaw03_WideNarrow.l0 : Nat → List (S25) → Int → Int → Int → Int → Int → Int → Int → Option (Bool)
  | 0, _, _, _, _, _, _, _, _ => none
  | k + 1, x0, x9, x10, x946000, x946001, x946002, x957000, x957001 => if x10 < (x0.length : Int) then (if 0 ≤ x10 then ((u128_Add.f x957000 x957001 ((rd_T25 x0 x10).f0) ((rd_T25 x0 x10).f1)).bind fun bt978 => (if bt978.2.2 = 0 then (paymasterlaw03_WideNarrow.l0 k x0 x9 (wrap64 (x10 + 1)) x946000 x946001 x946002 bt978.1 bt978.2.1) else ((u128_Most.f).bind fun bt982 => ((u128_Sub.f bt982.1 bt982.2 ((rd_T25 x0 x10).f0) ((rd_T25 x0 x10).f1)).bind fun bt985 => ((u128_Sub.f x957000 x957001 bt985.1 bt985.2.1).bind fun bt989 => ((u128_Of.f 1).bind fun bt992 => ((u128_Sub.f bt989.1 bt989.2.1 bt992.1 bt992.2).bind fun bt994 => (paymasterlaw03_WideNarrow.l0 k x0 (IntKind.u64.wrap (x9 + 1)) (wrap64 (x10 + 1)) x946000 x946001 x946002 bt994.1 bt994.2.1)))))))) else (none)) else (some (x946000 == x9 && ((x946001 == x957000 && (x946002 == x957001)))))
def paymasterlaw03_WideNarrow.f (k : Nat) (l0 : List (S25)) : Option (Bool) := (paymasterlaw03_awake.f k).bind fun t915 => (if t915 = true then (if (l0.length : Int) > 200 then (some true) else ((wide_All.f k l0).bind fun bt942 => ((wide_Wide_Narrow.f bt942.1 bt942.2.1 bt942.2.2).bind fun bt946 => ((u128_Sum.f k l0).bind fun bt950 => (if bt946.2.2 = bt950.2.2 then (if (!(bt946.1 == bt950.1) || (!(bt946.2.1 == bt950.2.1))) = true then (none) else (if ((bt946.2.2 == 0) != (bt942.1 == 0)) = true then (none) else (paymasterlaw03_WideNarrow.l0 k l0 0 0 bt942.1 bt942.2.1 bt942.2.2 0 0))) else (none)))))) else (none))
def paymasterlaw03_WideNarrow.T15 : Bool × List (List Nat × List Nat) := (true, [([], []), ([], []), ([], []), ([1, 2], [1, 2]), ([3], [3]), ([0, 4], [0, 4]), ([5], [5]), ([6], [6]), ([6], [6]), ([], []), ([9, 7, 5, 0, 1, 2, 3, 4, 5, 6, 7, 9], [7, 9]), ([8, 10, 0, 1, 2, 3, 4, 5, 6, 7, 8, 9, 10], [8])])
def paymasterlaw03_WideNarrow.B15 : List Nat := [0, 0, 0, 6, 14, 31, 63, 127, 127, 0, 767, 2047]
theorem paymasterlaw03_WideNarrow.tab15 : rtab .any (opsOf Try.f11 15) = paymasterlaw03_WideNarrow.T15 := by kernel_rfl
theorem paymasterlaw03_WideNarrow.bits15 : waitsOk paymasterlaw03_WideNarrow.T15.2 paymasterlaw03_WideNarrow.B15 = true := by kernel_rfl
def paymasterlaw03_WideNarrow.T17 : Bool × List (List Nat × List Nat) := (true, [([], []), ([], []), ([], []), ([1, 2], [1, 2]), ([3], [3]), ([0, 4, 0], [0, 4]), ([5], [5]), ([6], [6]), ([6], [6]), ([], []), ([9, 7, 5, 0, 1, 2, 3, 4, 5, 6, 7, 9], [7, 9]), ([8, 10, 0, 1, 2, 3, 4, 5, 6, 7, 8, 9, 10], [8])])
def paymasterlaw03_WideNarrow.B17 : List Nat := [0, 0, 0, 6, 14, 31, 63, 127, 127, 0, 767, 2047]
theorem paymasterlaw03_WideNarrow.tab17 : rtab .any (opsOf Try.f11 17) = paymasterlaw03_WideNarrow.T17 := by kernel_rfl
theorem paymasterlaw03_WideNarrow.bits17 : waitsOk paymasterlaw03_WideNarrow.T17.2 paymasterlaw03_WideNarrow.B17 = true := by kernel_rfl
set_option maxHeartbeats 8000000 in
set_option maxRecDepth 100000 in
theorem paymasterlaw03_WideNarrow.calls (k : Nat) (A0 : Option Addr) (c0 : Nat) (l0 : List (S25)) (r : Bool) (w : World) (hr0 : Kd.C k25 w A0 l0.length l0) (hc0 : l0.length ≤ c0) (h : paymasterlaw03_WideNarrow.f k l0 = some r) :
    Calls Try.prog 11 #[.slice A0 l0.length c0] w fun e w' => e = .returned (.bool r) ∧ Below w.heap.size w w' := by
  have hu27 := Try.underlying27
  have hu25 := Try.underlying25
  have HR0 := Aside0.mk hr0
  have HC0 := Aside0.mk hc0
  clear hr0 hc0
  have HB := Aside0.mk (Below.refl w.heap.size w)
  have H : ((paymasterlaw03_awake.f k).bind fun t915 => (if t915 = true then (if (l0.length : Int) > 200 then (some true) else ((wide_All.f k l0).bind fun bt942 => ((wide_Wide_Narrow.f bt942.1 bt942.2.1 bt942.2.2).bind fun bt946 => ((u128_Sum.f k l0).bind fun bt950 => (if bt946.2.2 = bt950.2.2 then (if (!(bt946.1 == bt950.1) || (!(bt946.2.1 == bt950.2.1))) = true then (none) else (if ((bt946.2.2 == 0) != (bt942.1 == 0)) = true then (none) else (paymasterlaw03_WideNarrow.l0 k l0 0 0 bt942.1 bt942.2.1 bt942.2.2 0 0))) else (none)))))) else (none))) = some r := h
  clear h
  replace H := Option.bind_eq_some_iff.mp H
  obtain ⟨t915, A20, H⟩ := H
  replace H : (if t915 = true then (if (l0.length : Int) > 200 then (some true) else ((wide_All.f k l0).bind fun bt942 => ((wide_Wide_Narrow.f bt942.1 bt942.2.1 bt942.2.2).bind fun bt946 => ((u128_Sum.f k l0).bind fun bt950 => (if bt946.2.2 = bt950.2.2 then (if (!(bt946.1 == bt950.1) || (!(bt946.2.1 == bt950.2.1))) = true then (none) else (if ((bt946.2.2 == 0) != (bt942.1 == 0)) = true then (none) else (paymasterlaw03_WideNarrow.l0 k l0 0 0 bt942.1 bt942.2.1 bt942.2.2 0 0))) else (none)))))) else (none)) = some r := H
  have A2 := Aside0.mk A20
  clear A20
  by_cases c3 : t915 = true
  · subst c3
    have H1 : (if (l0.length : Int) > 200 then (some true) else ((wide_All.f k l0).bind fun bt942 => ((wide_Wide_Narrow.f bt942.1 bt942.2.1 bt942.2.2).bind fun bt946 => ((u128_Sum.f k l0).bind fun bt950 => (if bt946.2.2 = bt950.2.2 then (if (!(bt946.1 == bt950.1) || (!(bt946.2.1 == bt950.2.1))) = true then (none) else (if ((bt946.2.2 == 0) != (bt942.1 == 0)) = true then (none) else (paymasterlaw03_WideNarrow.l0 k l0 0 0 bt942.1 bt942.2.1 bt942.2.2 0 0))) else (none)))))) = some r := by rw [if_pos rfl] at H; exact H
    clear H
    have H := H1
    clear H1
    by_cases c4 : (l0.length : Int) > 200
    · rw [if_pos c4] at H
      have c4b0 : decide (200 < (l0.length : Int)) = true := decide_eq_true c4
      have c4b1 : decide (200 < l0.length) = true := decide_eq_true (by omega)
      clear c4
      obtain rfl := Option.some.inj H
      go_enter Try.func11, Try.ntmps11
      go_wp2_with (first | ((with_reducible refine gate_callee (f := 55) rfl ?_); refine goesL_ (some 15) rfl rfl Try.func55 (by kernel_rfl) rfl #[] rfl (by (try simp only [List.map_toArray, List.map_cons, List.map_nil]); first | done | rfl | (simp only [List.length_drop, List.length_take]; rfl)) ?_; (with_reducible refine (paymasterlaw03_awake.calls k  true _ A2.out).mono ?_); rintro e w5 ⟨rfl, hb⟩; refine ⟨_, rfl, ?_⟩; have n0_ := Aside0.mk (below_step (by repeat (first | (with_reducible first | exact HB.out | apply below_alloc | apply pw_below_drewN | apply below_drew1) | exact HB.out)) hb); clear HB; have HB := n0_; clear n0_; (try clear hb); (try clear hb2); (try clear hk); (try clear hi)))
      go_ret
      exact ⟨by first | rfl | (simp [errW_none, errW_some] <;> rfl) | (simp [*, errW_none, errW_some] <;> rfl), by repeat (first | (with_reducible first | exact HB.out | apply below_alloc | apply pw_below_drewN | apply below_drew1) | exact HB.out)⟩
    · rw [if_neg c4] at H
      have c4b0 : decide (200 < (l0.length : Int)) = false := decide_eq_false c4
      have c4b1 : decide (200 < l0.length) = false := decide_eq_false (by omega)
      clear c4
      replace H := Option.bind_eq_some_iff.mp H
      obtain ⟨⟨t942, t943, t944⟩, A60, H⟩ := H
      replace H : ((wide_Wide_Narrow.f t942 t943 t944).bind fun bt946 => ((u128_Sum.f k l0).bind fun bt950 => (if bt946.2.2 = bt950.2.2 then (if (!(bt946.1 == bt950.1) || (!(bt946.2.1 == bt950.2.1))) = true then (none) else (if ((bt946.2.2 == 0) != (t942 == 0)) = true then (none) else (paymasterlaw03_WideNarrow.l0 k l0 0 0 t942 t943 t944 0 0))) else (none)))) = some r := H
      have A6 := Aside0.mk A60
      clear A60
      replace H := Option.bind_eq_some_iff.mp H
      obtain ⟨⟨t946, t947, t948⟩, A70, H⟩ := H
      replace H : ((u128_Sum.f k l0).bind fun bt950 => (if t948 = bt950.2.2 then (if (!(t946 == bt950.1) || (!(t947 == bt950.2.1))) = true then (none) else (if ((t948 == 0) != (t942 == 0)) = true then (none) else (paymasterlaw03_WideNarrow.l0 k l0 0 0 t942 t943 t944 0 0))) else (none))) = some r := H
      have A7 := Aside0.mk A70
      clear A70
      replace H := Option.bind_eq_some_iff.mp H
      obtain ⟨⟨t950, t951, t952⟩, A80, H⟩ := H
      replace H : (if t948 = t952 then (if (!(t946 == t950) || (!(t947 == t951))) = true then (none) else (if ((t948 == 0) != (t942 == 0)) = true then (none) else (paymasterlaw03_WideNarrow.l0 k l0 0 0 t942 t943 t944 0 0))) else (none)) = some r := H
      have A8 := Aside0.mk A80
      clear A80
      by_cases c9 : t948 = t952
      · rw [if_pos c9] at H
        have c9b0 : (t948 == t952) = true := beq_iff_eq.mpr c9
        have c9b1 : (t948 != t952) = false := bne_eq_false_iff_eq.mpr c9
        clear c9
        by_cases c10 : (!(t946 == t950) || (!(t947 == t951))) = true
        · rw [if_pos c10] at H
          exact absurd H (by simp)
        · rw [if_neg c10] at H
          have c10b0 : (!(t946 == t950) || (!(t947 == t951))) = false := by simpa using c10
          clear c10
          by_cases c11 : ((t948 == 0) != (t942 == 0)) = true
          · rw [if_pos c11] at H
            exact absurd H (by simp)
          · rw [if_neg c11] at H
            have c11b0 : ((t948 == 0) != (t942 == 0)) = false := by simpa using c11
            (try (have c11b1 : decide ((t948 == 0) = (t942 == 0)) = true := by simpa using c11))
            (try (have c11b2 : ((t948 == 0) == (t942 == 0)) = true := by simpa using c11))
            clear c11
            have H' := Aside0.mk H
            clear H
            go_enter Try.func11, Try.ntmps11
            go_wp2_with (first | ((with_reducible refine gate_callee (f := 55) rfl ?_); refine goesL_ (some 15) rfl rfl Try.func55 (by kernel_rfl) rfl #[] rfl (by (try simp only [List.map_toArray, List.map_cons, List.map_nil]); first | done | rfl | (simp only [List.length_drop, List.length_take]; rfl)) ?_; (with_reducible refine (paymasterlaw03_awake.calls k  true _ A2.out).mono ?_); rintro e w12 ⟨rfl, hb⟩; refine ⟨_, rfl, ?_⟩; have n0_ := Aside0.mk (below_step (by repeat (first | (with_reducible first | exact HB.out | apply below_alloc | apply pw_below_drewN | apply below_drew1) | exact HB.out)) hb); clear HB; have HB := n0_; clear n0_; (try clear hb); (try clear hb2); (try clear hk); (try clear hi)) | ((with_reducible refine gate_callee (f := 24) rfl ?_); refine goesL_ (some 21) rfl rfl Try.func24 (by kernel_rfl) rfl #[.slice A0 l0.length c0] rfl (by (try simp only [List.map_toArray, List.map_cons, List.map_nil]); first | done | rfl | (simp only [List.length_drop, List.length_take]; rfl)) ?_; (with_reducible refine (wide_All.calls k _ _ l0 t942 t943 t944 _ ?side1 ?side2 A6.out).mono ?_); (case side1 => repeat (first | exact (Kd.C_below HR0.out HB.out) | (with_reducible refine Kd.C_alloc ?_ _) | (with_reducible refine Kd.C_drewN ?_ _) | (with_reducible refine Kd.C_drew ?_))); (case side2 => exact HC0.out); rintro e w13 ⟨rfl, hb⟩; refine ⟨_, rfl, ?_⟩; have n0_ := Aside0.mk (below_step (by repeat (first | (with_reducible first | exact HB.out | apply below_alloc | apply pw_below_drewN | apply below_drew1) | exact HB.out)) hb); clear HB; have HB := n0_; clear n0_; (try clear hb); (try clear hb2); (try clear hk); (try clear hi)) | ((with_reducible refine gate_dst (N := 3) rfl ?_); refine box_event ?hg (N := 3) ?hd (cs := #[.int .u64 0, .int .u64 0, .int .u64 0]) (t := 27) ?hr ?_; (case hd => rfl); (case hg => rfl); (case hr => first | (go_simp; done) | (go_simp; rfl)); intro gb945 hg w14 hbox hb; have n0_ := Aside0.mk (below_step (by repeat (first | (with_reducible first | exact HB.out | apply below_alloc | apply pw_below_drewN | apply below_drew1) | exact HB.out)) hb); have n1_ := Aside0.mk (hbox); have n2_ := Aside0.mk ((by rw [hg]; exact (below_size (by repeat (first | (with_reducible first | exact HB.out | apply below_alloc | apply pw_below_drewN | apply below_drew1) | exact HB.out))) : w.heap.size ≤ gb945)); have n3_ := Aside0.mk ((by rw [hg]; exact (below_size (by repeat (first | (with_reducible first | exact HB.out | apply below_alloc | apply pw_below_drewN | apply below_drew1) | exact HB.out))) : w.heap.size ≤ gb945)); clear HB; have HB := n0_; have BK945 := n1_; have GW945 := n2_; have GE945 := n3_; clear n0_ n1_ n2_ n3_; clear hb hbox hg; have hcz15_0 : w14.cell? ⟨gb945, 0, none⟩ = some (.int .u64 0) := (blk_cell BK945.out 0).trans rfl; have hcz15_1 : w14.cell? ⟨gb945, 1, none⟩ = some (.int .u64 0) := (blk_cell BK945.out 1).trans rfl; have hcz15_2 : w14.cell? ⟨gb945, 2, none⟩ = some (.int .u64 0) := (blk_cell BK945.out 2).trans rfl; have hfz15_0 := blk_frozen BK945.out 0; have hfz15_1 := blk_frozen BK945.out 1; have hfz15_2 := blk_frozen BK945.out 2) | ((with_reducible refine gate_callee (f := 33) rfl ?_); refine goesL_ (some 24) rfl rfl Try.func33 (by kernel_rfl) rfl #[.agg #[.int .u64 t942, .int .u64 t943, .int .u64 t944]] rfl (by (try simp only [List.map_toArray, List.map_cons, List.map_nil]); first | done | rfl | (simp only [List.length_drop, List.length_take]; rfl)) ?_; (with_reducible refine (wide_Wide_Narrow.calls t942 t943 t944 t946 t947 t948 _ A7.out).mono ?_); rintro e w16 ⟨rfl, hb⟩; refine ⟨_, rfl, ?_⟩; have n0_ := Aside0.mk (blk_below (g := gb945) (o := .cells #[.int .u64 t942, .int .u64 t943, .int .u64 t944] 27 (0, 0)) (by (with_reducible repeat (first | refine blk_drewN ?_ _ | refine blk_drew ?_ | refine blk_alloc ?_ _)); refine blk_put (cs := #[.int .u64 t942, .int .u64 t943, .int .u64 0]) ?_ 2 _ rfl; (with_reducible repeat (first | refine blk_drewN ?_ _ | refine blk_drew ?_ | refine blk_alloc ?_ _)); refine blk_put (cs := #[.int .u64 t942, .int .u64 0, .int .u64 0]) ?_ 1 _ rfl; (with_reducible repeat (first | refine blk_drewN ?_ _ | refine blk_drew ?_ | refine blk_alloc ?_ _)); refine blk_put (cs := #[.int .u64 0, .int .u64 0, .int .u64 0]) ?_ 0 _ rfl; (with_reducible repeat (first | refine blk_drewN ?_ _ | refine blk_drew ?_ | refine blk_alloc ?_ _)); exact BK945.out) hb); have n1_ := Aside0.mk (below_step (by repeat (first | (with_reducible first | exact HB.out | apply below_alloc | apply pw_below_drewN | apply below_drew1 | refine below_set ?_ GE945.out) | exact HB.out)) hb); clear BK945; clear HB; have BK945 := n0_; have HB := n1_; clear n0_ n1_; (try clear hb); (try clear hb2); (try clear hk); (try clear hi)) | ((with_reducible refine gate_dst (N := 4) rfl ?_); refine box_event ?hg (N := 4) ?hd (cs := #[.int .u64 0, .int .u64 0]) (t := 25) ?hr ?_; (case hd => rfl); (case hg => rfl); (case hr => first | (go_simp; done) | (go_simp; rfl)); intro gb949 hg w17 hbox hb; have n0_ := Aside0.mk (blk_below (g := gb945) (o := .cells #[.int .u64 t942, .int .u64 t943, .int .u64 t944] 27 (0, 0)) (by (with_reducible repeat (first | refine blk_drewN ?_ _ | refine blk_drew ?_ | refine blk_alloc ?_ _)); exact BK945.out) hb); have n1_ := Aside0.mk (below_step (by repeat (first | (with_reducible first | exact HB.out | apply below_alloc | apply pw_below_drewN | apply below_drew1 | refine below_set ?_ GE945.out) | exact HB.out)) hb); have n2_ := Aside0.mk (hbox); have n3_ := Aside0.mk ((by rw [hg]; exact (below_size (by repeat (first | (with_reducible first | exact HB.out | apply below_alloc | apply pw_below_drewN | apply below_drew1 | refine below_set ?_ GE945.out) | exact HB.out))) : w.heap.size ≤ gb949)); have n4_ := Aside0.mk ((by rw [hg]; exact (below_size (by repeat (first | (with_reducible first | exact HB.out | apply below_alloc | apply pw_below_drewN | apply below_drew1 | refine below_set ?_ GE945.out) | exact HB.out))) : w.heap.size ≤ gb949)); have n5_ := Aside0.mk ((by rw [hg]; exact Nat.ne_of_lt (blk_lt (g := gb945) (o := .cells #[.int .u64 t942, .int .u64 t943, .int .u64 t944] 27 (0, 0)) (by (with_reducible repeat (first | refine blk_drewN ?_ _ | refine blk_drew ?_ | refine blk_alloc ?_ _)); exact BK945.out)) : gb945 ≠ gb949)); have n6_ := Aside0.mk ((by rw [hg]; exact Nat.ne_of_gt (blk_lt (g := gb945) (o := .cells #[.int .u64 t942, .int .u64 t943, .int .u64 t944] 27 (0, 0)) (by (with_reducible repeat (first | refine blk_drewN ?_ _ | refine blk_drew ?_ | refine blk_alloc ?_ _)); exact BK945.out)) : gb949 ≠ gb945)); clear BK945; clear HB; have BK945 := n0_; have HB := n1_; have BK949 := n2_; have GW949 := n3_; have GE949 := n4_; have NB945_949 := n5_; have NB949_945 := n6_; clear n0_ n1_ n2_ n3_ n4_ n5_ n6_; clear hb hbox hg; have hnb18 := NB949_945.out; have hnc18 := NB945_949.out; have hcz19_0 : w17.cell? ⟨gb949, 0, none⟩ = some (.int .u64 0) := (blk_cell BK949.out 0).trans rfl; have hcz19_1 : w17.cell? ⟨gb949, 1, none⟩ = some (.int .u64 0) := (blk_cell BK949.out 1).trans rfl; have hfz19_0 := blk_frozen BK949.out 0; have hfz19_1 := blk_frozen BK949.out 1) | ((with_reducible refine gate_callee (f := 27) rfl ?_); refine goesL_ (some 29) rfl rfl Try.func27 (by kernel_rfl) rfl #[.slice A0 l0.length c0] rfl (by (try simp only [List.map_toArray, List.map_cons, List.map_nil]); first | done | rfl | (simp only [List.length_drop, List.length_take]; rfl)) ?_; (with_reducible refine (u128_Sum.calls k _ _ l0 t950 t951 t952 _ ?side1 ?side2 A8.out).mono ?_); (case side1 => exact Kd.C_below HR0.out (by repeat (first | (with_reducible first | exact HB.out | apply below_alloc | apply pw_below_drewN | apply below_drew1 | refine below_set ?_ GE945.out | refine below_set ?_ GE949.out) | exact HB.out))); (case side2 => exact HC0.out); rintro e w20 ⟨rfl, hb⟩; refine ⟨_, rfl, ?_⟩; have n0_ := Aside0.mk (blk_below (g := gb945) (o := .cells #[.int .u64 t942, .int .u64 t943, .int .u64 t944] 27 (0, 0)) (by (with_reducible repeat (first | refine blk_drewN ?_ _ | refine blk_drew ?_ | refine blk_alloc ?_ _)); refine blk_far ?_ NB945_949.out _; (with_reducible repeat (first | refine blk_drewN ?_ _ | refine blk_drew ?_ | refine blk_alloc ?_ _)); refine blk_far ?_ NB945_949.out _; (with_reducible repeat (first | refine blk_drewN ?_ _ | refine blk_drew ?_ | refine blk_alloc ?_ _)); exact BK945.out) hb); have n1_ := Aside0.mk (blk_below (g := gb949) (o := .cells #[.int .u64 t946, .int .u64 t947] 25 (0, 0)) (by (with_reducible repeat (first | refine blk_drewN ?_ _ | refine blk_drew ?_ | refine blk_alloc ?_ _)); refine blk_put (cs := #[.int .u64 t946, .int .u64 0]) ?_ 1 _ rfl; (with_reducible repeat (first | refine blk_drewN ?_ _ | refine blk_drew ?_ | refine blk_alloc ?_ _)); refine blk_put (cs := #[.int .u64 0, .int .u64 0]) ?_ 0 _ rfl; (with_reducible repeat (first | refine blk_drewN ?_ _ | refine blk_drew ?_ | refine blk_alloc ?_ _)); exact BK949.out) hb); have n2_ := Aside0.mk (below_step (by repeat (first | (with_reducible first | exact HB.out | apply below_alloc | apply pw_below_drewN | apply below_drew1 | refine below_set ?_ GE945.out | refine below_set ?_ GE949.out) | exact HB.out)) hb); clear BK945; clear BK949; clear HB; have BK945 := n0_; have BK949 := n1_; have HB := n2_; clear n0_ n1_ n2_; (try clear hb); (try clear hb2); (try clear hk); (try clear hi)) | ((with_reducible refine gate_dst (N := 6) rfl ?_); refine box_event ?hg (N := 6) ?hd (cs := #[.int .u64 0, .int .u64 0]) (t := 25) ?hr ?_; (case hd => rfl); (case hg => rfl); (case hr => first | (go_simp; done) | (go_simp; rfl)); intro gb953 hg w21 hbox hb; have n0_ := Aside0.mk (blk_below (g := gb945) (o := .cells #[.int .u64 t942, .int .u64 t943, .int .u64 t944] 27 (0, 0)) (by (with_reducible repeat (first | refine blk_drewN ?_ _ | refine blk_drew ?_ | refine blk_alloc ?_ _)); exact BK945.out) hb); have n1_ := Aside0.mk (blk_below (g := gb949) (o := .cells #[.int .u64 t946, .int .u64 t947] 25 (0, 0)) (by (with_reducible repeat (first | refine blk_drewN ?_ _ | refine blk_drew ?_ | refine blk_alloc ?_ _)); exact BK949.out) hb); have n2_ := Aside0.mk (below_step (by repeat (first | (with_reducible first | exact HB.out | apply below_alloc | apply pw_below_drewN | apply below_drew1 | refine below_set ?_ GE945.out | refine below_set ?_ GE949.out) | exact HB.out)) hb); have n3_ := Aside0.mk (hbox); have n4_ := Aside0.mk ((by rw [hg]; exact (below_size (by repeat (first | (with_reducible first | exact HB.out | apply below_alloc | apply pw_below_drewN | apply below_drew1 | refine below_set ?_ GE945.out | refine below_set ?_ GE949.out) | exact HB.out))) : w.heap.size ≤ gb953)); have n5_ := Aside0.mk ((by rw [hg]; exact (below_size (by repeat (first | (with_reducible first | exact HB.out | apply below_alloc | apply pw_below_drewN | apply below_drew1 | refine below_set ?_ GE945.out | refine below_set ?_ GE949.out) | exact HB.out))) : w.heap.size ≤ gb953)); have n6_ := Aside0.mk ((by rw [hg]; exact Nat.ne_of_lt (blk_lt (g := gb945) (o := .cells #[.int .u64 t942, .int .u64 t943, .int .u64 t944] 27 (0, 0)) (by (with_reducible repeat (first | refine blk_drewN ?_ _ | refine blk_drew ?_ | refine blk_alloc ?_ _)); exact BK945.out)) : gb945 ≠ gb953)); have n7_ := Aside0.mk ((by rw [hg]; exact Nat.ne_of_gt (blk_lt (g := gb945) (o := .cells #[.int .u64 t942, .int .u64 t943, .int .u64 t944] 27 (0, 0)) (by (with_reducible repeat (first | refine blk_drewN ?_ _ | refine blk_drew ?_ | refine blk_alloc ?_ _)); exact BK945.out)) : gb953 ≠ gb945)); have n8_ := Aside0.mk ((by rw [hg]; exact Nat.ne_of_lt (blk_lt (g := gb949) (o := .cells #[.int .u64 t946, .int .u64 t947] 25 (0, 0)) (by (with_reducible repeat (first | refine blk_drewN ?_ _ | refine blk_drew ?_ | refine blk_alloc ?_ _)); exact BK949.out)) : gb949 ≠ gb953)); have n9_ := Aside0.mk ((by rw [hg]; exact Nat.ne_of_gt (blk_lt (g := gb949) (o := .cells #[.int .u64 t946, .int .u64 t947] 25 (0, 0)) (by (with_reducible repeat (first | refine blk_drewN ?_ _ | refine blk_drew ?_ | refine blk_alloc ?_ _)); exact BK949.out)) : gb953 ≠ gb949)); clear BK945; clear BK949; clear HB; have BK945 := n0_; have BK949 := n1_; have HB := n2_; have BK953 := n3_; have GW953 := n4_; have GE953 := n5_; have NB945_953 := n6_; have NB953_945 := n7_; have NB949_953 := n8_; have NB953_949 := n9_; clear n0_ n1_ n2_ n3_ n4_ n5_ n6_ n7_ n8_ n9_; clear hb hbox hg; have hnb22 := NB953_945.out; have hnc22 := NB945_953.out; have hnb23 := NB953_949.out; have hnc23 := NB949_953.out; have hcz24_0 : w21.cell? ⟨gb953, 0, none⟩ = some (.int .u64 0) := (blk_cell BK953.out 0).trans rfl; have hcz24_1 : w21.cell? ⟨gb953, 1, none⟩ = some (.int .u64 0) := (blk_cell BK953.out 1).trans rfl; have hfz24_0 := blk_frozen BK953.out 0; have hfz24_1 := blk_frozen BK953.out 1; have hcz25_0 : w21.cell? ⟨gb949, 0, none⟩ = some (.int .u64 t946) := (blk_cell BK949.out 0).trans rfl; have hcz25_1 : w21.cell? ⟨gb949, 1, none⟩ = some (.int .u64 t947) := (blk_cell BK949.out 1).trans rfl; have hfz25_0 := blk_frozen BK949.out 0; have hfz25_1 := blk_frozen BK949.out 1; have hcz26_0 : w21.cell? ⟨gb945, 0, none⟩ = some (.int .u64 t942) := (blk_cell BK945.out 0).trans rfl; have hcz26_1 : w21.cell? ⟨gb945, 1, none⟩ = some (.int .u64 t943) := (blk_cell BK945.out 1).trans rfl; have hcz26_2 : w21.cell? ⟨gb945, 2, none⟩ = some (.int .u64 t944) := (blk_cell BK945.out 2).trans rfl; have hfz26_0 := blk_frozen BK945.out 0; have hfz26_1 := blk_frozen BK945.out 1; have hfz26_2 := blk_frozen BK945.out 2) | ((with_reducible refine gate_dst (N := 8) rfl ?_); refine box_event ?hg (N := 8) ?hd (cs := #[.int .u64 0, .int .u64 0]) (t := 25) ?hr ?_; (case hd => rfl); (case hg => rfl); (case hr => first | (go_simp; done) | (go_simp; rfl)); intro gb956 hg w27 hbox hb; have n0_ := Aside0.mk (blk_below (g := gb945) (o := .cells #[.int .u64 t942, .int .u64 t943, .int .u64 t944] 27 (0, 0)) (by (with_reducible repeat (first | refine blk_drewN ?_ _ | refine blk_drew ?_ | refine blk_alloc ?_ _)); refine blk_far ?_ NB945_953.out _; (with_reducible repeat (first | refine blk_drewN ?_ _ | refine blk_drew ?_ | refine blk_alloc ?_ _)); refine blk_far ?_ NB945_953.out _; (with_reducible repeat (first | refine blk_drewN ?_ _ | refine blk_drew ?_ | refine blk_alloc ?_ _)); exact BK945.out) hb); have n1_ := Aside0.mk (blk_below (g := gb949) (o := .cells #[.int .u64 t946, .int .u64 t947] 25 (0, 0)) (by (with_reducible repeat (first | refine blk_drewN ?_ _ | refine blk_drew ?_ | refine blk_alloc ?_ _)); refine blk_far ?_ NB949_953.out _; (with_reducible repeat (first | refine blk_drewN ?_ _ | refine blk_drew ?_ | refine blk_alloc ?_ _)); refine blk_far ?_ NB949_953.out _; (with_reducible repeat (first | refine blk_drewN ?_ _ | refine blk_drew ?_ | refine blk_alloc ?_ _)); exact BK949.out) hb); have n2_ := Aside0.mk (blk_below (g := gb953) (o := .cells #[.int .u64 t950, .int .u64 t951] 25 (0, 0)) (by (with_reducible repeat (first | refine blk_drewN ?_ _ | refine blk_drew ?_ | refine blk_alloc ?_ _)); refine blk_put (cs := #[.int .u64 t950, .int .u64 0]) ?_ 1 _ rfl; (with_reducible repeat (first | refine blk_drewN ?_ _ | refine blk_drew ?_ | refine blk_alloc ?_ _)); refine blk_put (cs := #[.int .u64 0, .int .u64 0]) ?_ 0 _ rfl; (with_reducible repeat (first | refine blk_drewN ?_ _ | refine blk_drew ?_ | refine blk_alloc ?_ _)); exact BK953.out) hb); have n3_ := Aside0.mk (below_step (by repeat (first | (with_reducible first | exact HB.out | apply below_alloc | apply pw_below_drewN | apply below_drew1 | refine below_set ?_ GE945.out | refine below_set ?_ GE949.out | refine below_set ?_ GE953.out) | exact HB.out)) hb); have n4_ := Aside0.mk (hbox); have n5_ := Aside0.mk ((by rw [hg]; exact (below_size (by repeat (first | (with_reducible first | exact HB.out | apply below_alloc | apply pw_below_drewN | apply below_drew1 | refine below_set ?_ GE945.out | refine below_set ?_ GE949.out | refine below_set ?_ GE953.out) | exact HB.out))) : w.heap.size ≤ gb956)); have n6_ := Aside0.mk ((by rw [hg]; exact (below_size (by repeat (first | (with_reducible first | exact HB.out | apply below_alloc | apply pw_below_drewN | apply below_drew1 | refine below_set ?_ GE945.out | refine below_set ?_ GE949.out | refine below_set ?_ GE953.out) | exact HB.out))) : w.heap.size ≤ gb956)); have n7_ := Aside0.mk ((by rw [hg]; exact Nat.ne_of_lt (blk_lt (g := gb945) (o := .cells #[.int .u64 t942, .int .u64 t943, .int .u64 t944] 27 (0, 0)) (by (with_reducible repeat (first | refine blk_drewN ?_ _ | refine blk_drew ?_ | refine blk_alloc ?_ _)); refine blk_far ?_ NB945_953.out _; (with_reducible repeat (first | refine blk_drewN ?_ _ | refine blk_drew ?_ | refine blk_alloc ?_ _)); refine blk_far ?_ NB945_953.out _; (with_reducible repeat (first | refine blk_drewN ?_ _ | refine blk_drew ?_ | refine blk_alloc ?_ _)); exact BK945.out)) : gb945 ≠ gb956)); have n8_ := Aside0.mk ((by rw [hg]; exact Nat.ne_of_gt (blk_lt (g := gb945) (o := .cells #[.int .u64 t942, .int .u64 t943, .int .u64 t944] 27 (0, 0)) (by (with_reducible repeat (first | refine blk_drewN ?_ _ | refine blk_drew ?_ | refine blk_alloc ?_ _)); refine blk_far ?_ NB945_953.out _; (with_reducible repeat (first | refine blk_drewN ?_ _ | refine blk_drew ?_ | refine blk_alloc ?_ _)); refine blk_far ?_ NB945_953.out _; (with_reducible repeat (first | refine blk_drewN ?_ _ | refine blk_drew ?_ | refine blk_alloc ?_ _)); exact BK945.out)) : gb956 ≠ gb945)); have n9_ := Aside0.mk ((by rw [hg]; exact Nat.ne_of_lt (blk_lt (g := gb949) (o := .cells #[.int .u64 t946, .int .u64 t947] 25 (0, 0)) (by (with_reducible repeat (first | refine blk_drewN ?_ _ | refine blk_drew ?_ | refine blk_alloc ?_ _)); refine blk_far ?_ NB949_953.out _; (with_reducible repeat (first | refine blk_drewN ?_ _ | refine blk_drew ?_ | refine blk_alloc ?_ _)); refine blk_far ?_ NB949_953.out _; (with_reducible repeat (first | refine blk_drewN ?_ _ | refine blk_drew ?_ | refine blk_alloc ?_ _)); exact BK949.out)) : gb949 ≠ gb956)); have n10_ := Aside0.mk ((by rw [hg]; exact Nat.ne_of_gt (blk_lt (g := gb949) (o := .cells #[.int .u64 t946, .int .u64 t947] 25 (0, 0)) (by (with_reducible repeat (first | refine blk_drewN ?_ _ | refine blk_drew ?_ | refine blk_alloc ?_ _)); refine blk_far ?_ NB949_953.out _; (with_reducible repeat (first | refine blk_drewN ?_ _ | refine blk_drew ?_ | refine blk_alloc ?_ _)); refine blk_far ?_ NB949_953.out _; (with_reducible repeat (first | refine blk_drewN ?_ _ | refine blk_drew ?_ | refine blk_alloc ?_ _)); exact BK949.out)) : gb956 ≠ gb949)); have n11_ := Aside0.mk ((by rw [hg]; exact Nat.ne_of_lt (blk_lt (g := gb953) (o := .cells #[.int .u64 t950, .int .u64 t951] 25 (0, 0)) (by (with_reducible repeat (first | refine blk_drewN ?_ _ | refine blk_drew ?_ | refine blk_alloc ?_ _)); refine blk_put (cs := #[.int .u64 t950, .int .u64 0]) ?_ 1 _ rfl; (with_reducible repeat (first | refine blk_drewN ?_ _ | refine blk_drew ?_ | refine blk_alloc ?_ _)); refine blk_put (cs := #[.int .u64 0, .int .u64 0]) ?_ 0 _ rfl; (with_reducible repeat (first | refine blk_drewN ?_ _ | refine blk_drew ?_ | refine blk_alloc ?_ _)); exact BK953.out)) : gb953 ≠ gb956)); have n12_ := Aside0.mk ((by rw [hg]; exact Nat.ne_of_gt (blk_lt (g := gb953) (o := .cells #[.int .u64 t950, .int .u64 t951] 25 (0, 0)) (by (with_reducible repeat (first | refine blk_drewN ?_ _ | refine blk_drew ?_ | refine blk_alloc ?_ _)); refine blk_put (cs := #[.int .u64 t950, .int .u64 0]) ?_ 1 _ rfl; (with_reducible repeat (first | refine blk_drewN ?_ _ | refine blk_drew ?_ | refine blk_alloc ?_ _)); refine blk_put (cs := #[.int .u64 0, .int .u64 0]) ?_ 0 _ rfl; (with_reducible repeat (first | refine blk_drewN ?_ _ | refine blk_drew ?_ | refine blk_alloc ?_ _)); exact BK953.out)) : gb956 ≠ gb953)); clear BK945; clear BK949; clear BK953; clear HB; have BK945 := n0_; have BK949 := n1_; have BK953 := n2_; have HB := n3_; have BK956 := n4_; have GW956 := n5_; have GE956 := n6_; have NB945_956 := n7_; have NB956_945 := n8_; have NB949_956 := n9_; have NB956_949 := n10_; have NB953_956 := n11_; have NB956_953 := n12_; clear n0_ n1_ n2_ n3_ n4_ n5_ n6_ n7_ n8_ n9_ n10_ n11_ n12_; clear hb hbox hg))
            go_loopg [9, 10] k (fun kq v9 v10 w' => ∃ (x9_1 : Int) (x10_1 : Int) (x957000_1 : Int) (x957001_1 : Int), v9 = .int .u64 x9_1 ∧ v10 = .int .i64 x10_1 ∧ Aside0 (paymasterlaw03_WideNarrow.l0 kq l0 x9_1 x10_1 t942 t943 t944 x957000_1 x957001_1 = some r) ∧ Aside0 (kq ≤ k) ∧ Aside0 (w'.heap[gb945]? = some (.cells #[.int .u64 t942, .int .u64 t943, .int .u64 t944] 27 (0, 0))) ∧ Aside0 (w'.heap[gb949]? = some (.cells #[.int .u64 t946, .int .u64 t947] 25 (0, 0))) ∧ Aside0 (w'.heap[gb953]? = some (.cells #[.int .u64 t950, .int .u64 t951] 25 (0, 0))) ∧ Aside0 (w'.heap[gb956]? = some (.cells #[.int .u64 x957000_1, .int .u64 x957001_1] 25 (0, 0))) ∧ Aside0 (Below w.heap.size w w'))
            case atStart => exact ⟨(0), (0), (0), (0), (by first | rfl | (simp; done) | (simp [*]; done)), (by first | rfl | (simp; done) | (simp [*]; done)), H', ⟨Nat.le_refl _⟩, ⟨by (with_reducible repeat (first | refine blk_drewN ?_ _ | refine blk_drew ?_ | refine blk_alloc ?_ _)); exact BK945.out⟩, ⟨by (with_reducible repeat (first | refine blk_drewN ?_ _ | refine blk_drew ?_ | refine blk_alloc ?_ _)); exact BK949.out⟩, ⟨by (with_reducible repeat (first | refine blk_drewN ?_ _ | refine blk_drew ?_ | refine blk_alloc ?_ _)); exact BK953.out⟩, ⟨by (with_reducible repeat (first | refine blk_drewN ?_ _ | refine blk_drew ?_ | refine blk_alloc ?_ _)); exact BK956.out⟩, ⟨by repeat (first | (with_reducible first | exact HB.out | apply below_alloc | apply pw_below_drewN | apply below_drew1 | refine below_set ?_ GE945.out | refine below_set ?_ GE949.out | refine below_set ?_ GE953.out | refine below_set ?_ GE956.out) | exact HB.out)⟩⟩
            case round =>
              clear H'
              try clear c1
              try clear c2
              try clear p2
              try clear c3
              try clear c4
              try clear c4b0
              try clear c4b1
              try clear c5
              try clear c9
              try clear c9b0
              try clear c9b1
              try clear c10
              try clear c10b0
              try clear c11
              try clear c11b0
              try clear c11b1
              try clear c11b2
              try clear c18
              try clear c22
              try clear c23
              try clear c24
              try clear c27
              try clear hcz15_0
              try clear hcz15_1
              try clear hcz15_2
              try clear hcz19_0
              try clear hcz19_1
              try clear hcz24_0
              try clear hcz24_1
              try clear hcz25_0
              try clear hcz25_1
              try clear hcz26_0
              try clear hcz26_1
              try clear hcz26_2
              try clear hfz15_0
              try clear hfz15_1
              try clear hfz15_2
              try clear hfz19_0
              try clear hfz19_1
              try clear hfz24_0
              try clear hfz24_1
              try clear hfz25_0
              try clear hfz25_1
              try clear hfz26_0
              try clear hfz26_1
              try clear hfz26_2
              obtain ⟨x9_1, x10_1, x957000_1, x957001_1, rfl, rfl, HA, HK1, BK945, BK949, BK953, BK956, HB⟩ := hrel
              cases gk with
              | zero => exact absurd HA.out (by simp [paymasterlaw03_WideNarrow.l0])
              | succ k1 =>
                have H := HA.out
                clear HA
                simp only [paymasterlaw03_WideNarrow.l0] at H
                by_cases c28 : x10_1 < (l0.length : Int)
                · rw [if_pos c28] at H
                  have c28b0 : decide (x10_1 < (l0.length : Int)) = true := decide_eq_true c28
                  clear c28
                  by_cases c29 : 0 ≤ x10_1
                  · rw [if_pos c29] at H
                    have c29b0 : decide (0 ≤ x10_1) = true := decide_eq_true c29
                    clear c29
                    replace H := Option.bind_eq_some_iff.mp H
                    obtain ⟨⟨t978, t979, t980⟩, A300, H⟩ := H
                    replace H : (if t980 = 0 then (paymasterlaw03_WideNarrow.l0 k1 l0 x9_1 (wrap64 (x10_1 + 1)) t942 t943 t944 t978 t979) else ((u128_Most.f).bind fun bt982 => ((u128_Sub.f bt982.1 bt982.2 ((rd_T25 l0 x10_1).f0) ((rd_T25 l0 x10_1).f1)).bind fun bt985 => ((u128_Sub.f x957000_1 x957001_1 bt985.1 bt985.2.1).bind fun bt989 => ((u128_Of.f 1).bind fun bt992 => ((u128_Sub.f bt989.1 bt989.2.1 bt992.1 bt992.2).bind fun bt994 => (paymasterlaw03_WideNarrow.l0 k1 l0 (IntKind.u64.wrap (x9_1 + 1)) (wrap64 (x10_1 + 1)) t942 t943 t944 bt994.1 bt994.2.1))))))) = some r := H
                    have A30 := Aside0.mk A300
                    clear A300
                    by_cases c31 : t980 = 0
                    · rw [if_pos c31] at H
                      have c31b0 : (t980 == 0) = true := beq_iff_eq.mpr c31
                      have c31b1 : (t980 != 0) = false := bne_eq_false_iff_eq.mpr c31
                      clear c31
                      have H' := Aside0.mk H
                      clear H
                      try go_wp2
                      have n0_ := Aside0.mk (blk_drew BK945.out)
                      have n1_ := Aside0.mk (blk_drew BK949.out)
                      have n2_ := Aside0.mk (blk_drew BK953.out)
                      have n3_ := Aside0.mk (blk_drew BK956.out)
                      have n4_ := Aside0.mk (below_drew1 HB.out)
                      clear BK945
                      clear BK949
                      clear BK953
                      clear BK956
                      clear HB
                      have BK945 := n0_
                      have BK949 := n1_
                      have BK953 := n2_
                      have BK956 := n3_
                      have HB := n4_
                      clear n0_ n1_ n2_ n3_ n4_
                      have p977 : 0 ≤ (x10_1 : Int) := of_decide_eq_true (by first | (with_reducible assumption) | assumption)
                      have q977 : x10_1 < (l0.length : Int) := of_decide_eq_true (by first | (with_reducible assumption) | assumption)
                      obtain ⟨ad977, e977, hx977_0, hx977_1⟩ := at_T25 HR0.out x10_1 p977 q977
                      have hw977_1 := hx977_1
                      have hw977_0 := hx977_0
                      cases e977
                      replace hx977_0 := (HB.out.cell (World.block_lt_of_cell? w _ hx977_0)).trans hx977_0
                      replace hx977_1 := (HB.out.cell (World.block_lt_of_cell? w _ hx977_1)).trans hx977_1
                      replace p977 := eq_true p977
                      replace q977 := eq_true q977
                      refine start_ (n := 12) (S := fun w' => w'.cell? ⟨gb956, 0, none⟩ = some (.int .u64 x957000_1) ∧ w'.cell? ⟨gb956, 1, none⟩ = some (.int .u64 x957001_1) ∧ w'.cell? (ad977.add ((x10_1).toNat * 2)) = some (.int .u64 ((rd_T25 l0 x10_1).f0)) ∧ w'.cell? ⟨(ad977.add ((x10_1).toNat * 2)).block, (ad977.add ((x10_1).toNat * 2)).off + 1, none⟩ = some (.int .u64 ((rd_T25 l0 x10_1).f1))) (ds := []) #[false, false, false, false, false, false, false, false, false, false, false, false] (by kernel_rfl) rfl rfl ⟨(blk_cell BK956.out 0).trans rfl, (blk_cell BK956.out 1).trans rfl, ((HB.out.cell (World.block_lt_of_cell? w _ hw977_0)).trans hw977_0), ((HB.out.cell (World.block_lt_of_cell? w _ hw977_1)).trans hw977_1)⟩ (fun hHeld => ?_); refine with_tabW paymasterlaw03_WideNarrow.tab15 paymasterlaw03_WideNarrow.bits15 (fun HT_ HW_ => ?_)
                      generalize wr.drew = w32 at BK945 BK949 BK953 BK956 HB hx977_0 hx977_1 hHeld ⊢
                      refine pure_ (i := 1) (N := some 56) (v := ?_) (a' := ?_) #[false, true, false, false, false, false, false, false, false, false, false, false] rfl rfl (any_of HT_.out (by kernel_rfl)) (fun _ _ _ h => h) (Or.inl ⟨by rfl, ?_⟩) ?_ ?_
                      rotate_left
                      · intro w'
                        go_simp
                        with_reducible rfl
                      rotate_left
                      · simp only [Act.put, List.setIfInBounds_toArray, List.set_cons_zero, List.set_cons_succ, i64_w, i32_w]
                        rfl
                      refine pure_ (i := 2) (N := some 57) (v := ?_) (a' := ?_) #[false, true, true, false, false, false, false, false, false, false, false, false] rfl rfl (any_of HT_.out (by kernel_rfl)) (fun _ _ _ h => h) (Or.inl ⟨by rfl, ?_⟩) ?_ ?_
                      rotate_left
                      · intro w'
                        go_simp
                        with_reducible rfl
                      rotate_left
                      · simp only [Act.put, List.setIfInBounds_toArray, List.set_cons_zero, List.set_cons_succ, i64_w, i32_w]
                        rfl
                      refine pure_ (i := 3) (N := some 58) (v := ?_) (a' := ?_) #[false, true, true, true, false, false, false, false, false, false, false, false] rfl rfl (any_of HT_.out (by kernel_rfl)) (fun _ _ _ h => h) (Or.inl ⟨by rfl, ?_⟩) ?_ ?_
                      rotate_left
                      · intro w'
                        go_simp
                        with_reducible rfl
                      rotate_left
                      · simp only [Act.put, List.setIfInBounds_toArray, List.set_cons_zero, List.set_cons_succ, i64_w, i32_w]
                        rfl
                      refine take_ (i := 0) (N := some 55) (v := ?_) (a' := ?_) #[true, true, true, true, false, false, false, false, false, false, false, false] rfl rfl (take_ofW HT_.out HW_.out (by kernel_rfl)) (fun _ _ _ h => h) (Or.inl ⟨by rfl, ?_⟩) hHeld ?_ ?_
                      rotate_left
                      · rintro w' ⟨s0, s1, s2, s3⟩
                        go_simp
                        with_reducible rfl
                      rotate_left
                      · simp only [Act.put, List.setIfInBounds_toArray, List.set_cons_zero, List.set_cons_succ, i64_w, i32_w]
                        rfl
                      refine take_ (i := 4) (N := some 59) (v := ?_) (a' := ?_) #[true, true, true, true, true, false, false, false, false, false, false, false] rfl rfl (take_ofW HT_.out HW_.out (by kernel_rfl)) (fun _ _ _ h => h) (Or.inl ⟨by rfl, ?_⟩) hHeld ?_ ?_
                      rotate_left
                      · rintro w' ⟨s0, s1, s2, s3⟩
                        go_simp
                        with_reducible rfl
                      rotate_left
                      · simp only [Act.put, List.setIfInBounds_toArray, List.set_cons_zero, List.set_cons_succ, i64_w, i32_w]
                        rfl
                      refine join_ (σ := Nat) 2 #[true, true, true, true, true, true, true, true, true, true, false, false] (fun s_ => [(60, .tuple #[.agg #[.int .u64 t978, .int .u64 t979], .int .i64 t980]), (11, .pointer (some ⟨s_, 0, none⟩)), (54, .tuple #[.agg #[.int .u64 t978, .int .u64 t979], .int .i64 t980]), (61, .agg #[.int .u64 t978, .int .u64 t979]), (62, .int .i64 t980)]) (fun s_ w' => (w'.cell? ⟨gb956, 0, none⟩ = some (.int .u64 x957000_1) ∧ w'.cell? ⟨gb956, 1, none⟩ = some (.int .u64 x957001_1) ∧ w'.cell? (ad977.add ((x10_1).toNat * 2)) = some (.int .u64 ((rd_T25 l0 x10_1).f0)) ∧ w'.cell? ⟨(ad977.add ((x10_1).toNat * 2)).block, (ad977.add ((x10_1).toNat * 2)).off + 1, none⟩ = some (.int .u64 ((rd_T25 l0 x10_1).f1))) ∧ (w'.heap[gb945]? = some (.cells #[.int .u64 t942, .int .u64 t943, .int .u64 t944] 27 (0, 0))) ∧ (w'.heap[gb949]? = some (.cells #[.int .u64 t946, .int .u64 t947] 25 (0, 0))) ∧ (w'.heap[gb953]? = some (.cells #[.int .u64 t950, .int .u64 t951] 25 (0, 0))) ∧ (w'.heap[gb956]? = some (.cells #[.int .u64 x957000_1, .int .u64 x957001_1] 25 (0, 0))) ∧ (w'.heap[s_]? = some (.cells #[.int .u64 0, .int .u64 0] 25 (0, 0))) ∧ (w.heap.size ≤ s_) ∧ (w.heap.size ≤ s_) ∧ (gb945 ≠ s_) ∧ (s_ ≠ gb945) ∧ (gb949 ≠ s_) ∧ (s_ ≠ gb949) ∧ (gb953 ≠ s_) ∧ (s_ ≠ gb953) ∧ (gb956 ≠ s_) ∧ (s_ ≠ gb956) ∧ (Below w.heap.size w w')) ?_ ?_
                      rotate_left
                      · intro hCont
                        refine two_ (i := 5) (j := 9) (Ni := some 60) (Nj := some 11) #[true, true, true, true, true, true, false, false, false, false, false, false] #[true, true, true, true, true, false, false, false, false, true, false, false] rfl rfl rfl rfl (two_of HT_.out (by kernel_rfl)) (by decide) (by decide) (fun K hK => ?_) (fun K hK => ?_)
                        · skip
                          refine goes_ Try.func45 (by kernel_rfl) rfl #[.agg #[.int .u64 x957000_1, .int .u64 x957001_1], .agg #[.int .u64 ((rd_T25 l0 x10_1).f0), .int .u64 ((rd_T25 l0 x10_1).f1)]] (by rfl) rfl rfl (by (try simp only [List.map_toArray, List.map_cons, List.map_nil]); first | done | rfl | (simp only [List.length_drop, List.length_take]; rfl)) ?_
                          with_reducible refine (u128_Add.calls x957000_1 x957001_1 ((rd_T25 l0 x10_1).f0) ((rd_T25 l0 x10_1).f1) t978 t979 t980 _ A30.out).mono ?_
                          rintro e w33 ⟨rfl, hb⟩
                          refine ⟨_, rfl, ?_⟩
                          have n0_ := Aside0.mk (blk_below (g := gb945) (o := .cells #[.int .u64 t942, .int .u64 t943, .int .u64 t944] 27 (0, 0)) (by (with_reducible repeat (first | refine blk_drewN ?_ _ | refine blk_drew ?_ | refine blk_alloc ?_ _)); exact BK945.out) hb)
                          have n1_ := Aside0.mk (blk_below (g := gb949) (o := .cells #[.int .u64 t946, .int .u64 t947] 25 (0, 0)) (by (with_reducible repeat (first | refine blk_drewN ?_ _ | refine blk_drew ?_ | refine blk_alloc ?_ _)); exact BK949.out) hb)
                          have n2_ := Aside0.mk (blk_below (g := gb953) (o := .cells #[.int .u64 t950, .int .u64 t951] 25 (0, 0)) (by (with_reducible repeat (first | refine blk_drewN ?_ _ | refine blk_drew ?_ | refine blk_alloc ?_ _)); exact BK953.out) hb)
                          have n3_ := Aside0.mk (blk_below (g := gb956) (o := .cells #[.int .u64 x957000_1, .int .u64 x957001_1] 25 (0, 0)) (by (with_reducible repeat (first | refine blk_drewN ?_ _ | refine blk_drew ?_ | refine blk_alloc ?_ _)); exact BK956.out) hb)
                          have n4_ := Aside0.mk (below_step (by repeat (first | (with_reducible first | exact HB.out | apply below_alloc | apply pw_below_drewN | apply below_drew1 | refine below_set ?_ GE945.out | refine below_set ?_ GE949.out | refine below_set ?_ GE953.out | refine below_set ?_ GE956.out) | exact HB.out)) hb)
                          clear BK945
                          clear BK949
                          clear BK953
                          clear BK956
                          clear HB
                          have BK945 := n0_
                          have BK949 := n1_
                          have BK953 := n2_
                          have BK956 := n3_
                          have HB := n4_
                          clear n0_ n1_ n2_ n3_ n4_
                          (try clear hb)
                          (try clear hb2)
                          (try clear hk)
                          (try clear hi)
                          refine hK.out _ _ ⟨(blk_cell BK956.out 0).trans rfl, (blk_cell BK956.out 1).trans rfl, ((HB.out.cell (World.block_lt_of_cell? w _ hw977_0)).trans hw977_0), ((HB.out.cell (World.block_lt_of_cell? w _ hw977_1)).trans hw977_1)⟩ (fun hHeld => ?_)
                          clear hK K
                          refine norm_ (a' := ?_) ?_ ?_
                          rotate_left
                          · show Act.put _ (some 60) _ = _
                            simp only [Act.put, List.setIfInBounds_toArray, List.set_cons_zero, List.set_cons_succ, i64_w, i32_w]
                            rfl
                          refine pure_ (i := 6) (N := some 54) (v := ?_) (a' := ?_) #[true, true, true, true, true, true, true, false, false, false, false, false] rfl rfl (any_of HT_.out (by kernel_rfl)) (fun _ _ _ h => h) (Or.inl ⟨by rfl, ?_⟩) ?_ ?_
                          rotate_left
                          · intro w'
                            go_simp
                            with_reducible rfl
                          rotate_left
                          · simp only [Act.put, List.setIfInBounds_toArray, List.set_cons_zero, List.set_cons_succ, i64_w, i32_w]
                            rfl
                          refine pure_ (i := 7) (N := some 61) (v := ?_) (a' := ?_) #[true, true, true, true, true, true, true, true, false, false, false, false] rfl rfl (any_of HT_.out (by kernel_rfl)) (fun _ _ _ h => h) (Or.inl ⟨by rfl, ?_⟩) ?_ ?_
                          rotate_left
                          · intro w'
                            go_simp
                            with_reducible rfl
                          rotate_left
                          · simp only [Act.put, List.setIfInBounds_toArray, List.set_cons_zero, List.set_cons_succ, i64_w, i32_w]
                            rfl
                          refine pure_ (i := 8) (N := some 62) (v := ?_) (a' := ?_) #[true, true, true, true, true, true, true, true, true, false, false, false] rfl rfl (any_of HT_.out (by kernel_rfl)) (fun _ _ _ h => h) (Or.inl ⟨by rfl, ?_⟩) ?_ ?_
                          rotate_left
                          · intro w'
                            go_simp
                            with_reducible rfl
                          rotate_left
                          · simp only [Act.put, List.setIfInBounds_toArray, List.set_cons_zero, List.set_cons_succ, i64_w, i32_w]
                            rfl
                          refine one_ (i := 9) (N := some 11) #[true, true, true, true, true, true, true, true, true, true, false, false] rfl rfl (one_of HT_.out (by kernel_rfl)) (by decide) (fun K hK => ?_)
                          refine box_step ?hg (N := 11) ?hd (cs := #[.int .u64 0, .int .u64 0]) (t := 25) ?hr ?_; (case hd => rfl); (case hg => rfl); (case hr => first | (go_simp; done) | (go_simp; rfl))
                          intro gb981 hg w34 hbox hb
                          have n0_ := Aside0.mk (blk_below (g := gb945) (o := .cells #[.int .u64 t942, .int .u64 t943, .int .u64 t944] 27 (0, 0)) (by (with_reducible repeat (first | refine blk_drewN ?_ _ | refine blk_drew ?_ | refine blk_alloc ?_ _)); exact BK945.out) hb)
                          have n1_ := Aside0.mk (blk_below (g := gb949) (o := .cells #[.int .u64 t946, .int .u64 t947] 25 (0, 0)) (by (with_reducible repeat (first | refine blk_drewN ?_ _ | refine blk_drew ?_ | refine blk_alloc ?_ _)); exact BK949.out) hb)
                          have n2_ := Aside0.mk (blk_below (g := gb953) (o := .cells #[.int .u64 t950, .int .u64 t951] 25 (0, 0)) (by (with_reducible repeat (first | refine blk_drewN ?_ _ | refine blk_drew ?_ | refine blk_alloc ?_ _)); exact BK953.out) hb)
                          have n3_ := Aside0.mk (blk_below (g := gb956) (o := .cells #[.int .u64 x957000_1, .int .u64 x957001_1] 25 (0, 0)) (by (with_reducible repeat (first | refine blk_drewN ?_ _ | refine blk_drew ?_ | refine blk_alloc ?_ _)); exact BK956.out) hb)
                          have n4_ := Aside0.mk (below_step (by repeat (first | (with_reducible first | exact HB.out | apply below_alloc | apply pw_below_drewN | apply below_drew1 | refine below_set ?_ GE945.out | refine below_set ?_ GE949.out | refine below_set ?_ GE953.out | refine below_set ?_ GE956.out) | exact HB.out)) hb)
                          have n5_ := Aside0.mk (hbox)
                          have n6_ := Aside0.mk ((by rw [hg]; exact (below_size (by repeat (first | (with_reducible first | exact HB.out | apply below_alloc | apply pw_below_drewN | apply below_drew1 | refine below_set ?_ GE945.out | refine below_set ?_ GE949.out | refine below_set ?_ GE953.out | refine below_set ?_ GE956.out) | exact HB.out))) : w.heap.size ≤ gb981))
                          have n7_ := Aside0.mk ((by rw [hg]; exact (below_size (by repeat (first | (with_reducible first | exact HB.out | apply below_alloc | apply pw_below_drewN | apply below_drew1 | refine below_set ?_ GE945.out | refine below_set ?_ GE949.out | refine below_set ?_ GE953.out | refine below_set ?_ GE956.out) | exact HB.out))) : w.heap.size ≤ gb981))
                          have n8_ := Aside0.mk ((by rw [hg]; exact Nat.ne_of_lt (blk_lt (g := gb945) (o := .cells #[.int .u64 t942, .int .u64 t943, .int .u64 t944] 27 (0, 0)) (by (with_reducible repeat (first | refine blk_drewN ?_ _ | refine blk_drew ?_ | refine blk_alloc ?_ _)); exact BK945.out)) : gb945 ≠ gb981))
                          have n9_ := Aside0.mk ((by rw [hg]; exact Nat.ne_of_gt (blk_lt (g := gb945) (o := .cells #[.int .u64 t942, .int .u64 t943, .int .u64 t944] 27 (0, 0)) (by (with_reducible repeat (first | refine blk_drewN ?_ _ | refine blk_drew ?_ | refine blk_alloc ?_ _)); exact BK945.out)) : gb981 ≠ gb945))
                          have n10_ := Aside0.mk ((by rw [hg]; exact Nat.ne_of_lt (blk_lt (g := gb949) (o := .cells #[.int .u64 t946, .int .u64 t947] 25 (0, 0)) (by (with_reducible repeat (first | refine blk_drewN ?_ _ | refine blk_drew ?_ | refine blk_alloc ?_ _)); exact BK949.out)) : gb949 ≠ gb981))
                          have n11_ := Aside0.mk ((by rw [hg]; exact Nat.ne_of_gt (blk_lt (g := gb949) (o := .cells #[.int .u64 t946, .int .u64 t947] 25 (0, 0)) (by (with_reducible repeat (first | refine blk_drewN ?_ _ | refine blk_drew ?_ | refine blk_alloc ?_ _)); exact BK949.out)) : gb981 ≠ gb949))
                          have n12_ := Aside0.mk ((by rw [hg]; exact Nat.ne_of_lt (blk_lt (g := gb953) (o := .cells #[.int .u64 t950, .int .u64 t951] 25 (0, 0)) (by (with_reducible repeat (first | refine blk_drewN ?_ _ | refine blk_drew ?_ | refine blk_alloc ?_ _)); exact BK953.out)) : gb953 ≠ gb981))
                          have n13_ := Aside0.mk ((by rw [hg]; exact Nat.ne_of_gt (blk_lt (g := gb953) (o := .cells #[.int .u64 t950, .int .u64 t951] 25 (0, 0)) (by (with_reducible repeat (first | refine blk_drewN ?_ _ | refine blk_drew ?_ | refine blk_alloc ?_ _)); exact BK953.out)) : gb981 ≠ gb953))
                          have n14_ := Aside0.mk ((by rw [hg]; exact Nat.ne_of_lt (blk_lt (g := gb956) (o := .cells #[.int .u64 x957000_1, .int .u64 x957001_1] 25 (0, 0)) (by (with_reducible repeat (first | refine blk_drewN ?_ _ | refine blk_drew ?_ | refine blk_alloc ?_ _)); exact BK956.out)) : gb956 ≠ gb981))
                          have n15_ := Aside0.mk ((by rw [hg]; exact Nat.ne_of_gt (blk_lt (g := gb956) (o := .cells #[.int .u64 x957000_1, .int .u64 x957001_1] 25 (0, 0)) (by (with_reducible repeat (first | refine blk_drewN ?_ _ | refine blk_drew ?_ | refine blk_alloc ?_ _)); exact BK956.out)) : gb981 ≠ gb956))
                          clear BK945
                          clear BK949
                          clear BK953
                          clear BK956
                          clear HB
                          have BK945 := n0_
                          have BK949 := n1_
                          have BK953 := n2_
                          have BK956 := n3_
                          have HB := n4_
                          have BK981 := n5_
                          have GW981 := n6_
                          have GE981 := n7_
                          have NB945_981 := n8_
                          have NB981_945 := n9_
                          have NB949_981 := n10_
                          have NB981_949 := n11_
                          have NB953_981 := n12_
                          have NB981_953 := n13_
                          have NB956_981 := n14_
                          have NB981_956 := n15_
                          clear n0_ n1_ n2_ n3_ n4_ n5_ n6_ n7_ n8_ n9_ n10_ n11_ n12_ n13_ n14_ n15_
                          clear hb hbox hg
                          refine hK.out _ _ ⟨(blk_cell BK956.out 0).trans rfl, (blk_cell BK956.out 1).trans rfl, ((HB.out.cell (World.block_lt_of_cell? w _ hw977_0)).trans hw977_0), ((HB.out.cell (World.block_lt_of_cell? w _ hw977_1)).trans hw977_1)⟩ (fun hHeld => ?_)
                          clear hK K
                          refine norm_ (a' := ?_) ?_ ?_
                          rotate_left
                          · show Act.put _ (some 11) _ = _
                            simp only [Act.put, List.setIfInBounds_toArray, List.set_cons_zero, List.set_cons_succ, i64_w, i32_w]
                            rfl
                          exact norm_ (by simp only [putAll, Act.put, List.setIfInBounds_toArray, List.set_cons_zero, List.set_cons_succ]) (hCont (gb981) _ ⟨hHeld, (by (with_reducible repeat (first | refine blk_drewN ?_ _ | refine blk_drew ?_ | refine blk_alloc ?_ _)); exact BK945.out), (by (with_reducible repeat (first | refine blk_drewN ?_ _ | refine blk_drew ?_ | refine blk_alloc ?_ _)); exact BK949.out), (by (with_reducible repeat (first | refine blk_drewN ?_ _ | refine blk_drew ?_ | refine blk_alloc ?_ _)); exact BK953.out), (by (with_reducible repeat (first | refine blk_drewN ?_ _ | refine blk_drew ?_ | refine blk_alloc ?_ _)); exact BK956.out), (by (with_reducible repeat (first | refine blk_drewN ?_ _ | refine blk_drew ?_ | refine blk_alloc ?_ _)); exact BK981.out), GW981.out, GE981.out, NB945_981.out, NB981_945.out, NB949_981.out, NB981_949.out, NB953_981.out, NB981_953.out, NB956_981.out, NB981_956.out, (by repeat (first | (with_reducible first | exact HB.out | apply below_alloc | apply pw_below_drewN | apply below_drew1 | refine below_set ?_ GE945.out | refine below_set ?_ GE949.out | refine below_set ?_ GE953.out | refine below_set ?_ GE956.out | refine below_set ?_ GE981.out) | exact HB.out))⟩)
                        · skip
                          refine box_step ?hg (N := 11) ?hd (cs := #[.int .u64 0, .int .u64 0]) (t := 25) ?hr ?_; (case hd => rfl); (case hg => rfl); (case hr => first | (go_simp; done) | (go_simp; rfl))
                          intro gb981 hg w33 hbox hb
                          have n0_ := Aside0.mk (blk_below (g := gb945) (o := .cells #[.int .u64 t942, .int .u64 t943, .int .u64 t944] 27 (0, 0)) (by (with_reducible repeat (first | refine blk_drewN ?_ _ | refine blk_drew ?_ | refine blk_alloc ?_ _)); exact BK945.out) hb)
                          have n1_ := Aside0.mk (blk_below (g := gb949) (o := .cells #[.int .u64 t946, .int .u64 t947] 25 (0, 0)) (by (with_reducible repeat (first | refine blk_drewN ?_ _ | refine blk_drew ?_ | refine blk_alloc ?_ _)); exact BK949.out) hb)
                          have n2_ := Aside0.mk (blk_below (g := gb953) (o := .cells #[.int .u64 t950, .int .u64 t951] 25 (0, 0)) (by (with_reducible repeat (first | refine blk_drewN ?_ _ | refine blk_drew ?_ | refine blk_alloc ?_ _)); exact BK953.out) hb)
                          have n3_ := Aside0.mk (blk_below (g := gb956) (o := .cells #[.int .u64 x957000_1, .int .u64 x957001_1] 25 (0, 0)) (by (with_reducible repeat (first | refine blk_drewN ?_ _ | refine blk_drew ?_ | refine blk_alloc ?_ _)); exact BK956.out) hb)
                          have n4_ := Aside0.mk (below_step (by repeat (first | (with_reducible first | exact HB.out | apply below_alloc | apply pw_below_drewN | apply below_drew1 | refine below_set ?_ GE945.out | refine below_set ?_ GE949.out | refine below_set ?_ GE953.out | refine below_set ?_ GE956.out) | exact HB.out)) hb)
                          have n5_ := Aside0.mk (hbox)
                          have n6_ := Aside0.mk ((by rw [hg]; exact (below_size (by repeat (first | (with_reducible first | exact HB.out | apply below_alloc | apply pw_below_drewN | apply below_drew1 | refine below_set ?_ GE945.out | refine below_set ?_ GE949.out | refine below_set ?_ GE953.out | refine below_set ?_ GE956.out) | exact HB.out))) : w.heap.size ≤ gb981))
                          have n7_ := Aside0.mk ((by rw [hg]; exact (below_size (by repeat (first | (with_reducible first | exact HB.out | apply below_alloc | apply pw_below_drewN | apply below_drew1 | refine below_set ?_ GE945.out | refine below_set ?_ GE949.out | refine below_set ?_ GE953.out | refine below_set ?_ GE956.out) | exact HB.out))) : w.heap.size ≤ gb981))
                          have n8_ := Aside0.mk ((by rw [hg]; exact Nat.ne_of_lt (blk_lt (g := gb945) (o := .cells #[.int .u64 t942, .int .u64 t943, .int .u64 t944] 27 (0, 0)) (by (with_reducible repeat (first | refine blk_drewN ?_ _ | refine blk_drew ?_ | refine blk_alloc ?_ _)); exact BK945.out)) : gb945 ≠ gb981))
                          have n9_ := Aside0.mk ((by rw [hg]; exact Nat.ne_of_gt (blk_lt (g := gb945) (o := .cells #[.int .u64 t942, .int .u64 t943, .int .u64 t944] 27 (0, 0)) (by (with_reducible repeat (first | refine blk_drewN ?_ _ | refine blk_drew ?_ | refine blk_alloc ?_ _)); exact BK945.out)) : gb981 ≠ gb945))
                          have n10_ := Aside0.mk ((by rw [hg]; exact Nat.ne_of_lt (blk_lt (g := gb949) (o := .cells #[.int .u64 t946, .int .u64 t947] 25 (0, 0)) (by (with_reducible repeat (first | refine blk_drewN ?_ _ | refine blk_drew ?_ | refine blk_alloc ?_ _)); exact BK949.out)) : gb949 ≠ gb981))
                          have n11_ := Aside0.mk ((by rw [hg]; exact Nat.ne_of_gt (blk_lt (g := gb949) (o := .cells #[.int .u64 t946, .int .u64 t947] 25 (0, 0)) (by (with_reducible repeat (first | refine blk_drewN ?_ _ | refine blk_drew ?_ | refine blk_alloc ?_ _)); exact BK949.out)) : gb981 ≠ gb949))
                          have n12_ := Aside0.mk ((by rw [hg]; exact Nat.ne_of_lt (blk_lt (g := gb953) (o := .cells #[.int .u64 t950, .int .u64 t951] 25 (0, 0)) (by (with_reducible repeat (first | refine blk_drewN ?_ _ | refine blk_drew ?_ | refine blk_alloc ?_ _)); exact BK953.out)) : gb953 ≠ gb981))
                          have n13_ := Aside0.mk ((by rw [hg]; exact Nat.ne_of_gt (blk_lt (g := gb953) (o := .cells #[.int .u64 t950, .int .u64 t951] 25 (0, 0)) (by (with_reducible repeat (first | refine blk_drewN ?_ _ | refine blk_drew ?_ | refine blk_alloc ?_ _)); exact BK953.out)) : gb981 ≠ gb953))
                          have n14_ := Aside0.mk ((by rw [hg]; exact Nat.ne_of_lt (blk_lt (g := gb956) (o := .cells #[.int .u64 x957000_1, .int .u64 x957001_1] 25 (0, 0)) (by (with_reducible repeat (first | refine blk_drewN ?_ _ | refine blk_drew ?_ | refine blk_alloc ?_ _)); exact BK956.out)) : gb956 ≠ gb981))
                          have n15_ := Aside0.mk ((by rw [hg]; exact Nat.ne_of_gt (blk_lt (g := gb956) (o := .cells #[.int .u64 x957000_1, .int .u64 x957001_1] 25 (0, 0)) (by (with_reducible repeat (first | refine blk_drewN ?_ _ | refine blk_drew ?_ | refine blk_alloc ?_ _)); exact BK956.out)) : gb981 ≠ gb956))
                          clear BK945
                          clear BK949
                          clear BK953
                          clear BK956
                          clear HB
                          have BK945 := n0_
                          have BK949 := n1_
                          have BK953 := n2_
                          have BK956 := n3_
                          have HB := n4_
                          have BK981 := n5_
                          have GW981 := n6_
                          have GE981 := n7_
                          have NB945_981 := n8_
                          have NB981_945 := n9_
                          have NB949_981 := n10_
                          have NB981_949 := n11_
                          have NB953_981 := n12_
                          have NB981_953 := n13_
                          have NB956_981 := n14_
                          have NB981_956 := n15_
                          clear n0_ n1_ n2_ n3_ n4_ n5_ n6_ n7_ n8_ n9_ n10_ n11_ n12_ n13_ n14_ n15_
                          clear hb hbox hg
                          refine hK.out _ _ ⟨(blk_cell BK956.out 0).trans rfl, (blk_cell BK956.out 1).trans rfl, ((HB.out.cell (World.block_lt_of_cell? w _ hw977_0)).trans hw977_0), ((HB.out.cell (World.block_lt_of_cell? w _ hw977_1)).trans hw977_1)⟩ (fun hHeld => ?_)
                          clear hK K
                          refine norm_ (a' := ?_) ?_ ?_
                          rotate_left
                          · show Act.put _ (some 11) _ = _
                            simp only [Act.put, List.setIfInBounds_toArray, List.set_cons_zero, List.set_cons_succ, i64_w, i32_w]
                            rfl
                          refine one_ (i := 5) (N := some 60) #[true, true, true, true, true, true, false, false, false, true, false, false] rfl rfl (one_of HT_.out (by kernel_rfl)) (by decide) (fun K hK => ?_)
                          refine goes_ Try.func45 (by kernel_rfl) rfl #[.agg #[.int .u64 x957000_1, .int .u64 x957001_1], .agg #[.int .u64 ((rd_T25 l0 x10_1).f0), .int .u64 ((rd_T25 l0 x10_1).f1)]] (by rfl) rfl rfl (by (try simp only [List.map_toArray, List.map_cons, List.map_nil]); first | done | rfl | (simp only [List.length_drop, List.length_take]; rfl)) ?_
                          with_reducible refine (u128_Add.calls x957000_1 x957001_1 ((rd_T25 l0 x10_1).f0) ((rd_T25 l0 x10_1).f1) t978 t979 t980 _ A30.out).mono ?_
                          rintro e w34 ⟨rfl, hb⟩
                          refine ⟨_, rfl, ?_⟩
                          have n0_ := Aside0.mk (blk_below (g := gb945) (o := .cells #[.int .u64 t942, .int .u64 t943, .int .u64 t944] 27 (0, 0)) (by (with_reducible repeat (first | refine blk_drewN ?_ _ | refine blk_drew ?_ | refine blk_alloc ?_ _)); exact BK945.out) hb)
                          have n1_ := Aside0.mk (blk_below (g := gb949) (o := .cells #[.int .u64 t946, .int .u64 t947] 25 (0, 0)) (by (with_reducible repeat (first | refine blk_drewN ?_ _ | refine blk_drew ?_ | refine blk_alloc ?_ _)); exact BK949.out) hb)
                          have n2_ := Aside0.mk (blk_below (g := gb953) (o := .cells #[.int .u64 t950, .int .u64 t951] 25 (0, 0)) (by (with_reducible repeat (first | refine blk_drewN ?_ _ | refine blk_drew ?_ | refine blk_alloc ?_ _)); exact BK953.out) hb)
                          have n3_ := Aside0.mk (blk_below (g := gb956) (o := .cells #[.int .u64 x957000_1, .int .u64 x957001_1] 25 (0, 0)) (by (with_reducible repeat (first | refine blk_drewN ?_ _ | refine blk_drew ?_ | refine blk_alloc ?_ _)); exact BK956.out) hb)
                          have n4_ := Aside0.mk (blk_below (g := gb981) (o := .cells #[.int .u64 0, .int .u64 0] 25 (0, 0)) (by (with_reducible repeat (first | refine blk_drewN ?_ _ | refine blk_drew ?_ | refine blk_alloc ?_ _)); exact BK981.out) hb)
                          have n5_ := Aside0.mk (below_step (by repeat (first | (with_reducible first | exact HB.out | apply below_alloc | apply pw_below_drewN | apply below_drew1 | refine below_set ?_ GE945.out | refine below_set ?_ GE949.out | refine below_set ?_ GE953.out | refine below_set ?_ GE956.out | refine below_set ?_ GE981.out) | exact HB.out)) hb)
                          clear BK945
                          clear BK949
                          clear BK953
                          clear BK956
                          clear BK981
                          clear HB
                          have BK945 := n0_
                          have BK949 := n1_
                          have BK953 := n2_
                          have BK956 := n3_
                          have BK981 := n4_
                          have HB := n5_
                          clear n0_ n1_ n2_ n3_ n4_ n5_
                          (try clear hb)
                          (try clear hb2)
                          (try clear hk)
                          (try clear hi)
                          refine hK.out _ _ ⟨(blk_cell BK956.out 0).trans rfl, (blk_cell BK956.out 1).trans rfl, ((HB.out.cell (World.block_lt_of_cell? w _ hw977_0)).trans hw977_0), ((HB.out.cell (World.block_lt_of_cell? w _ hw977_1)).trans hw977_1)⟩ (fun hHeld => ?_)
                          clear hK K
                          refine norm_ (a' := ?_) ?_ ?_
                          rotate_left
                          · show Act.put _ (some 60) _ = _
                            simp only [Act.put, List.setIfInBounds_toArray, List.set_cons_zero, List.set_cons_succ, i64_w, i32_w]
                            rfl
                          refine pure_ (i := 6) (N := some 54) (v := ?_) (a' := ?_) #[true, true, true, true, true, true, true, false, false, true, false, false] rfl rfl (any_of HT_.out (by kernel_rfl)) (fun _ _ _ h => h) (Or.inl ⟨by rfl, ?_⟩) ?_ ?_
                          rotate_left
                          · intro w'
                            go_simp
                            with_reducible rfl
                          rotate_left
                          · simp only [Act.put, List.setIfInBounds_toArray, List.set_cons_zero, List.set_cons_succ, i64_w, i32_w]
                            rfl
                          refine pure_ (i := 7) (N := some 61) (v := ?_) (a' := ?_) #[true, true, true, true, true, true, true, true, false, true, false, false] rfl rfl (any_of HT_.out (by kernel_rfl)) (fun _ _ _ h => h) (Or.inl ⟨by rfl, ?_⟩) ?_ ?_
                          rotate_left
                          · intro w'
                            go_simp
                            with_reducible rfl
                          rotate_left
                          · simp only [Act.put, List.setIfInBounds_toArray, List.set_cons_zero, List.set_cons_succ, i64_w, i32_w]
                            rfl
                          refine pure_ (i := 8) (N := some 62) (v := ?_) (a' := ?_) #[true, true, true, true, true, true, true, true, true, true, false, false] rfl rfl (any_of HT_.out (by kernel_rfl)) (fun _ _ _ h => h) (Or.inl ⟨by rfl, ?_⟩) ?_ ?_
                          rotate_left
                          · intro w'
                            go_simp
                            with_reducible rfl
                          rotate_left
                          · simp only [Act.put, List.setIfInBounds_toArray, List.set_cons_zero, List.set_cons_succ, i64_w, i32_w]
                            rfl
                          exact norm_ (by simp only [putAll, Act.put, List.setIfInBounds_toArray, List.set_cons_zero, List.set_cons_succ]) (hCont (gb981) _ ⟨hHeld, (by (with_reducible repeat (first | refine blk_drewN ?_ _ | refine blk_drew ?_ | refine blk_alloc ?_ _)); exact BK945.out), (by (with_reducible repeat (first | refine blk_drewN ?_ _ | refine blk_drew ?_ | refine blk_alloc ?_ _)); exact BK949.out), (by (with_reducible repeat (first | refine blk_drewN ?_ _ | refine blk_drew ?_ | refine blk_alloc ?_ _)); exact BK953.out), (by (with_reducible repeat (first | refine blk_drewN ?_ _ | refine blk_drew ?_ | refine blk_alloc ?_ _)); exact BK956.out), (by (with_reducible repeat (first | refine blk_drewN ?_ _ | refine blk_drew ?_ | refine blk_alloc ?_ _)); exact BK981.out), GW981.out, GE981.out, NB945_981.out, NB981_945.out, NB949_981.out, NB981_949.out, NB953_981.out, NB981_953.out, NB956_981.out, NB981_956.out, (by repeat (first | (with_reducible first | exact HB.out | apply below_alloc | apply pw_below_drewN | apply below_drew1 | refine below_set ?_ GE945.out | refine below_set ?_ GE949.out | refine below_set ?_ GE953.out | refine below_set ?_ GE956.out | refine below_set ?_ GE981.out) | exact HB.out))⟩)
                      rintro gb981 w35 ⟨hS_, h0_, h1_, h2_, h3_, h4_, h5_, h6_, h7_, h8_, h9_, h10_, h11_, h12_, h13_, h14_, h15_⟩
                      have n0_ : Aside0 (w35.heap[gb945]? = some (.cells #[.int .u64 t942, .int .u64 t943, .int .u64 t944] 27 (0, 0))) := ⟨h0_⟩
                      have n1_ : Aside0 (w35.heap[gb949]? = some (.cells #[.int .u64 t946, .int .u64 t947] 25 (0, 0))) := ⟨h1_⟩
                      have n2_ : Aside0 (w35.heap[gb953]? = some (.cells #[.int .u64 t950, .int .u64 t951] 25 (0, 0))) := ⟨h2_⟩
                      have n3_ : Aside0 (w35.heap[gb956]? = some (.cells #[.int .u64 x957000_1, .int .u64 x957001_1] 25 (0, 0))) := ⟨h3_⟩
                      have n4_ : Aside0 (w35.heap[gb981]? = some (.cells #[.int .u64 0, .int .u64 0] 25 (0, 0))) := ⟨h4_⟩
                      have n5_ : Aside0 (w.heap.size ≤ gb981) := ⟨h5_⟩
                      have n6_ : Aside0 (w.heap.size ≤ gb981) := ⟨h6_⟩
                      have n7_ : Aside0 (gb945 ≠ gb981) := ⟨h7_⟩
                      have n8_ : Aside0 (gb981 ≠ gb945) := ⟨h8_⟩
                      have n9_ : Aside0 (gb949 ≠ gb981) := ⟨h9_⟩
                      have n10_ : Aside0 (gb981 ≠ gb949) := ⟨h10_⟩
                      have n11_ : Aside0 (gb953 ≠ gb981) := ⟨h11_⟩
                      have n12_ : Aside0 (gb981 ≠ gb953) := ⟨h12_⟩
                      have n13_ : Aside0 (gb956 ≠ gb981) := ⟨h13_⟩
                      have n14_ : Aside0 (gb981 ≠ gb956) := ⟨h14_⟩
                      have n15_ : Aside0 (Below w.heap.size w w35) := ⟨h15_⟩
                      clear BK945
                      clear BK949
                      clear BK953
                      clear BK956
                      clear HB
                      clear h0_ h1_ h2_ h3_ h4_ h5_ h6_ h7_ h8_ h9_ h10_ h11_ h12_ h13_ h14_ h15_
                      have BK945 := n0_
                      have BK949 := n1_
                      have BK953 := n2_
                      have BK956 := n3_
                      have BK981 := n4_
                      have GW981 := n5_
                      have GE981 := n6_
                      have NB945_981 := n7_
                      have NB981_945 := n8_
                      have NB949_981 := n9_
                      have NB981_949 := n10_
                      have NB953_981 := n11_
                      have NB981_953 := n12_
                      have NB956_981 := n13_
                      have NB981_956 := n14_
                      have HB := n15_
                      clear n0_ n1_ n2_ n3_ n4_ n5_ n6_ n7_ n8_ n9_ n10_ n11_ n12_ n13_ n14_ n15_
                      have hHeld : w35.cell? ⟨gb956, 0, none⟩ = some (.int .u64 x957000_1) ∧ w35.cell? ⟨gb956, 1, none⟩ = some (.int .u64 x957001_1) ∧ w35.cell? (ad977.add ((x10_1).toNat * 2)) = some (.int .u64 ((rd_T25 l0 x10_1).f0)) ∧ w35.cell? ⟨(ad977.add ((x10_1).toNat * 2)).block, (ad977.add ((x10_1).toNat * 2)).off + 1, none⟩ = some (.int .u64 ((rd_T25 l0 x10_1).f1)) := hS_
                      refine norm_ (a' := ?_) ?_ ?_
                      rotate_left
                      · simp only [putAll, Act.put, List.setIfInBounds_toArray, List.set_cons_zero, List.set_cons_succ]
                        rfl
                      refine one_ (i := 10) (N := none) #[true, true, true, true, true, true, true, true, true, true, true, false] rfl rfl (one_of HT_.out (by kernel_rfl)) (by decide) (fun K hK => ?_)
                      have hs36 : w35.cell? ⟨gb981, 0, none⟩ = some (.int .u64 0) := (blk_cell BK981.out 0).trans rfl
                      have hfs36 := blk_frozen BK981.out 0
                      have hns36_0 := NB945_981.out
                      have hns36_1 := NB949_981.out
                      have hns36_2 := NB953_981.out
                      have hns36_3 := NB956_981.out
                      have hms36_0 := NB981_945.out
                      have hms36_1 := NB981_949.out
                      have hms36_2 := NB981_953.out
                      have hms36_3 := NB981_956.out
                      have hs37 : w35.cell? ⟨gb981, 1, none⟩ = some (.int .u64 0) := (blk_cell BK981.out 1).trans rfl
                      have hfs37 := blk_frozen BK981.out 1
                      have hns37_0 := NB945_981.out
                      have hns37_1 := NB949_981.out
                      have hns37_2 := NB953_981.out
                      have hns37_3 := NB956_981.out
                      have hms37_0 := NB981_945.out
                      have hms37_1 := NB981_949.out
                      have hms37_2 := NB981_953.out
                      have hms37_3 := NB981_956.out
                      refine skip_ (w1 := ?_) (by rfl) rfl ?_ ?_
                      rotate_left
                      · go_simp
                        rfl
                      refine hK.out _ _ ⟨((cell_far (p := ⟨gb981, _, none⟩) NB956_981.out _).trans (((cell_far (p := ⟨gb981, _, none⟩) NB956_981.out _).trans (hHeld.1)))), ((cell_far (p := ⟨gb981, _, none⟩) NB956_981.out _).trans (((cell_far (p := ⟨gb981, _, none⟩) NB956_981.out _).trans (hHeld.2.1)))), ((cell_far (p := ⟨gb981, _, none⟩) (by first | exact Nat.ne_of_lt (Nat.lt_of_lt_of_le (by have := World.block_lt_of_cell? _ _ hw977_0; first | rwa [add_block] at this | exact this) GW981.out) | (rw [add_block]; exact Nat.ne_of_lt (Nat.lt_of_lt_of_le (by have := World.block_lt_of_cell? _ _ hw977_0; first | rwa [add_block] at this | exact this) GW981.out)) | (show (Addr.add _ _).block ≠ _; rw [add_block]; exact Nat.ne_of_lt (Nat.lt_of_lt_of_le (by have := World.block_lt_of_cell? _ _ hw977_0; first | rwa [add_block] at this | exact this) GW981.out)) | (dsimp only; exact Nat.ne_of_lt (Nat.lt_of_lt_of_le (by have := World.block_lt_of_cell? _ _ hw977_0; first | rwa [add_block] at this | exact this) GW981.out))) _).trans (((cell_far (p := ⟨gb981, _, none⟩) (by first | exact Nat.ne_of_lt (Nat.lt_of_lt_of_le (by have := World.block_lt_of_cell? _ _ hw977_0; first | rwa [add_block] at this | exact this) GW981.out) | (rw [add_block]; exact Nat.ne_of_lt (Nat.lt_of_lt_of_le (by have := World.block_lt_of_cell? _ _ hw977_0; first | rwa [add_block] at this | exact this) GW981.out)) | (show (Addr.add _ _).block ≠ _; rw [add_block]; exact Nat.ne_of_lt (Nat.lt_of_lt_of_le (by have := World.block_lt_of_cell? _ _ hw977_0; first | rwa [add_block] at this | exact this) GW981.out)) | (dsimp only; exact Nat.ne_of_lt (Nat.lt_of_lt_of_le (by have := World.block_lt_of_cell? _ _ hw977_0; first | rwa [add_block] at this | exact this) GW981.out))) _).trans (hHeld.2.2.1)))), ((cell_far (p := ⟨gb981, _, none⟩) (by first | exact Nat.ne_of_lt (Nat.lt_of_lt_of_le (by have := World.block_lt_of_cell? _ _ hw977_1; first | rwa [add_block] at this | exact this) GW981.out) | (rw [add_block]; exact Nat.ne_of_lt (Nat.lt_of_lt_of_le (by have := World.block_lt_of_cell? _ _ hw977_1; first | rwa [add_block] at this | exact this) GW981.out)) | (show (Addr.add _ _).block ≠ _; rw [add_block]; exact Nat.ne_of_lt (Nat.lt_of_lt_of_le (by have := World.block_lt_of_cell? _ _ hw977_1; first | rwa [add_block] at this | exact this) GW981.out)) | (dsimp only; exact Nat.ne_of_lt (Nat.lt_of_lt_of_le (by have := World.block_lt_of_cell? _ _ hw977_1; first | rwa [add_block] at this | exact this) GW981.out))) _).trans (((cell_far (p := ⟨gb981, _, none⟩) (by first | exact Nat.ne_of_lt (Nat.lt_of_lt_of_le (by have := World.block_lt_of_cell? _ _ hw977_1; first | rwa [add_block] at this | exact this) GW981.out) | (rw [add_block]; exact Nat.ne_of_lt (Nat.lt_of_lt_of_le (by have := World.block_lt_of_cell? _ _ hw977_1; first | rwa [add_block] at this | exact this) GW981.out)) | (show (Addr.add _ _).block ≠ _; rw [add_block]; exact Nat.ne_of_lt (Nat.lt_of_lt_of_le (by have := World.block_lt_of_cell? _ _ hw977_1; first | rwa [add_block] at this | exact this) GW981.out)) | (dsimp only; exact Nat.ne_of_lt (Nat.lt_of_lt_of_le (by have := World.block_lt_of_cell? _ _ hw977_1; first | rwa [add_block] at this | exact this) GW981.out))) _).trans (hHeld.2.2.2))))⟩ (fun hHeld => ?_)
                      clear hK K
                      refine pure_ (i := 11) (N := some 12) (v := ?_) (a' := ?_) #[true, true, true, true, true, true, true, true, true, true, true, true] rfl rfl (any_of HT_.out (by kernel_rfl)) (fun _ _ _ h => h) (Or.inl ⟨by rfl, ?_⟩) ?_ ?_
                      rotate_left
                      · intro w'
                        go_simp
                        with_reducible rfl
                      rotate_left
                      · simp only [Act.put, List.setIfInBounds_toArray, List.set_cons_zero, List.set_cons_succ, i64_w, i32_w]
                        rfl
                      refine done_ (done_of HT_.out (by kernel_rfl)) ?_
                      have hnb38 := NB981_945.out
                      have hnc38 := NB945_981.out
                      have hnb39 := NB981_949.out
                      have hnc39 := NB949_981.out
                      have hnb40 := NB981_953.out
                      have hnc40 := NB953_981.out
                      have hnb41 := NB981_956.out
                      have hnc41 := NB956_981.out
                      have hcz42_0 : w35.cell? ⟨gb981, 0, none⟩ = some (.int .u64 0) := (blk_cell BK981.out 0).trans rfl
                      have hcz42_1 : w35.cell? ⟨gb981, 1, none⟩ = some (.int .u64 0) := (blk_cell BK981.out 1).trans rfl
                      have hfz42_0 := blk_frozen BK981.out 0
                      have hfz42_1 := blk_frozen BK981.out 1
                      have hnb43 := NB956_945.out
                      have hnc43 := NB945_956.out
                      have hnb44 := NB956_949.out
                      have hnc44 := NB949_956.out
                      have hnb45 := NB956_953.out
                      have hnc45 := NB953_956.out
                      have hcz46_0 : w35.cell? ⟨gb956, 0, none⟩ = some (.int .u64 x957000_1) := (blk_cell BK956.out 0).trans rfl
                      have hcz46_1 : w35.cell? ⟨gb956, 1, none⟩ = some (.int .u64 x957001_1) := (blk_cell BK956.out 1).trans rfl
                      have hfz46_0 := blk_frozen BK956.out 0
                      have hfz46_1 := blk_frozen BK956.out 1
                      try go_wp2
                      go_roundg k1
                      case measure => have := HK1.out; omega
                      case rel => exact ⟨(x9_1), (wrap64 (x10_1 + 1)), (t978), (t979), (by first | rfl | (simp; done) | (simp [*]; done)), (by first | rfl | (simp; done) | (simp [*]; done)), H', ⟨by have := HK1.out; omega⟩, ⟨by (with_reducible repeat (first | refine blk_drewN ?_ _ | refine blk_drew ?_ | refine blk_alloc ?_ _)); refine blk_far ?_ NB945_956.out _; (with_reducible repeat (first | refine blk_drewN ?_ _ | refine blk_drew ?_ | refine blk_alloc ?_ _)); refine blk_far ?_ NB945_956.out _; (with_reducible repeat (first | refine blk_drewN ?_ _ | refine blk_drew ?_ | refine blk_alloc ?_ _)); refine blk_far ?_ NB945_981.out _; (with_reducible repeat (first | refine blk_drewN ?_ _ | refine blk_drew ?_ | refine blk_alloc ?_ _)); refine blk_far ?_ NB945_981.out _; (with_reducible repeat (first | refine blk_drewN ?_ _ | refine blk_drew ?_ | refine blk_alloc ?_ _)); exact BK945.out⟩, ⟨by (with_reducible repeat (first | refine blk_drewN ?_ _ | refine blk_drew ?_ | refine blk_alloc ?_ _)); refine blk_far ?_ NB949_956.out _; (with_reducible repeat (first | refine blk_drewN ?_ _ | refine blk_drew ?_ | refine blk_alloc ?_ _)); refine blk_far ?_ NB949_956.out _; (with_reducible repeat (first | refine blk_drewN ?_ _ | refine blk_drew ?_ | refine blk_alloc ?_ _)); refine blk_far ?_ NB949_981.out _; (with_reducible repeat (first | refine blk_drewN ?_ _ | refine blk_drew ?_ | refine blk_alloc ?_ _)); refine blk_far ?_ NB949_981.out _; (with_reducible repeat (first | refine blk_drewN ?_ _ | refine blk_drew ?_ | refine blk_alloc ?_ _)); exact BK949.out⟩, ⟨by (with_reducible repeat (first | refine blk_drewN ?_ _ | refine blk_drew ?_ | refine blk_alloc ?_ _)); refine blk_far ?_ NB953_956.out _; (with_reducible repeat (first | refine blk_drewN ?_ _ | refine blk_drew ?_ | refine blk_alloc ?_ _)); refine blk_far ?_ NB953_956.out _; (with_reducible repeat (first | refine blk_drewN ?_ _ | refine blk_drew ?_ | refine blk_alloc ?_ _)); refine blk_far ?_ NB953_981.out _; (with_reducible repeat (first | refine blk_drewN ?_ _ | refine blk_drew ?_ | refine blk_alloc ?_ _)); refine blk_far ?_ NB953_981.out _; (with_reducible repeat (first | refine blk_drewN ?_ _ | refine blk_drew ?_ | refine blk_alloc ?_ _)); exact BK953.out⟩, ⟨by (with_reducible repeat (first | refine blk_drewN ?_ _ | refine blk_drew ?_ | refine blk_alloc ?_ _)); refine blk_put (cs := #[.int .u64 t978, .int .u64 x957001_1]) ?_ 1 _ rfl; (with_reducible repeat (first | refine blk_drewN ?_ _ | refine blk_drew ?_ | refine blk_alloc ?_ _)); refine blk_put (cs := #[.int .u64 x957000_1, .int .u64 x957001_1]) ?_ 0 _ rfl; (with_reducible repeat (first | refine blk_drewN ?_ _ | refine blk_drew ?_ | refine blk_alloc ?_ _)); refine blk_far ?_ NB956_981.out _; (with_reducible repeat (first | refine blk_drewN ?_ _ | refine blk_drew ?_ | refine blk_alloc ?_ _)); refine blk_far ?_ NB956_981.out _; (with_reducible repeat (first | refine blk_drewN ?_ _ | refine blk_drew ?_ | refine blk_alloc ?_ _)); exact BK956.out⟩, ⟨by repeat (first | (with_reducible first | exact HB.out | apply below_alloc | apply pw_below_drewN | apply below_drew1 | refine below_set ?_ GE945.out | refine below_set ?_ GE949.out | refine below_set ?_ GE953.out | refine below_set ?_ GE956.out | refine below_set ?_ GE981.out) | exact HB.out)⟩⟩
                    · rw [if_neg c31] at H
                      have c31b0 : (t980 == 0) = false := beq_eq_false_iff_ne.mpr c31
                      have c31b1 : (t980 != 0) = true := bne_iff_ne.mpr c31
                      replace H := Option.bind_eq_some_iff.mp H
                      obtain ⟨⟨t982, t983⟩, A470, H⟩ := H
                      replace H : ((u128_Sub.f t982 t983 ((rd_T25 l0 x10_1).f0) ((rd_T25 l0 x10_1).f1)).bind fun bt985 => ((u128_Sub.f x957000_1 x957001_1 bt985.1 bt985.2.1).bind fun bt989 => ((u128_Of.f 1).bind fun bt992 => ((u128_Sub.f bt989.1 bt989.2.1 bt992.1 bt992.2).bind fun bt994 => (paymasterlaw03_WideNarrow.l0 k1 l0 (IntKind.u64.wrap (x9_1 + 1)) (wrap64 (x10_1 + 1)) t942 t943 t944 bt994.1 bt994.2.1))))) = some r := H
                      have A47 := Aside0.mk A470
                      clear A470
                      replace H := Option.bind_eq_some_iff.mp H
                      obtain ⟨⟨t985, t986, t987⟩, A480, H⟩ := H
                      replace H : ((u128_Sub.f x957000_1 x957001_1 t985 t986).bind fun bt989 => ((u128_Of.f 1).bind fun bt992 => ((u128_Sub.f bt989.1 bt989.2.1 bt992.1 bt992.2).bind fun bt994 => (paymasterlaw03_WideNarrow.l0 k1 l0 (IntKind.u64.wrap (x9_1 + 1)) (wrap64 (x10_1 + 1)) t942 t943 t944 bt994.1 bt994.2.1)))) = some r := H
                      have A48 := Aside0.mk A480
                      clear A480
                      replace H := Option.bind_eq_some_iff.mp H
                      obtain ⟨⟨t989, t990, t991⟩, A490, H⟩ := H
                      replace H : ((u128_Of.f 1).bind fun bt992 => ((u128_Sub.f t989 t990 bt992.1 bt992.2).bind fun bt994 => (paymasterlaw03_WideNarrow.l0 k1 l0 (IntKind.u64.wrap (x9_1 + 1)) (wrap64 (x10_1 + 1)) t942 t943 t944 bt994.1 bt994.2.1))) = some r := H
                      have A49 := Aside0.mk A490
                      clear A490
                      replace H := Option.bind_eq_some_iff.mp H
                      obtain ⟨⟨t992, t993⟩, A500, H⟩ := H
                      replace H : ((u128_Sub.f t989 t990 t992 t993).bind fun bt994 => (paymasterlaw03_WideNarrow.l0 k1 l0 (IntKind.u64.wrap (x9_1 + 1)) (wrap64 (x10_1 + 1)) t942 t943 t944 bt994.1 bt994.2.1)) = some r := H
                      have A50 := Aside0.mk A500
                      clear A500
                      replace H := Option.bind_eq_some_iff.mp H
                      obtain ⟨⟨t994, t995, t996⟩, A510, H⟩ := H
                      replace H : (paymasterlaw03_WideNarrow.l0 k1 l0 (IntKind.u64.wrap (x9_1 + 1)) (wrap64 (x10_1 + 1)) t942 t943 t944 t994 t995) = some r := H
                      have A51 := Aside0.mk A510
                      clear A510
                      have H' := Aside0.mk H
                      clear H
                      try go_wp2
                      have n0_ := Aside0.mk (blk_drew BK945.out)
                      have n1_ := Aside0.mk (blk_drew BK949.out)
                      have n2_ := Aside0.mk (blk_drew BK953.out)
                      have n3_ := Aside0.mk (blk_drew BK956.out)
                      have n4_ := Aside0.mk (below_drew1 HB.out)
                      clear BK945
                      clear BK949
                      clear BK953
                      clear BK956
                      clear HB
                      have BK945 := n0_
                      have BK949 := n1_
                      have BK953 := n2_
                      have BK956 := n3_
                      have HB := n4_
                      clear n0_ n1_ n2_ n3_ n4_
                      have p977 : 0 ≤ (x10_1 : Int) := of_decide_eq_true (by first | (with_reducible assumption) | assumption)
                      have q977 : x10_1 < (l0.length : Int) := of_decide_eq_true (by first | (with_reducible assumption) | assumption)
                      obtain ⟨ad977, e977, hx977_0, hx977_1⟩ := at_T25 HR0.out x10_1 p977 q977
                      have hw977_1 := hx977_1
                      have hw977_0 := hx977_0
                      cases e977
                      replace hx977_0 := (HB.out.cell (World.block_lt_of_cell? w _ hx977_0)).trans hx977_0
                      replace hx977_1 := (HB.out.cell (World.block_lt_of_cell? w _ hx977_1)).trans hx977_1
                      replace p977 := eq_true p977
                      replace q977 := eq_true q977
                      refine start_ (n := 12) (S := fun w' => w'.cell? ⟨gb956, 0, none⟩ = some (.int .u64 x957000_1) ∧ w'.cell? ⟨gb956, 1, none⟩ = some (.int .u64 x957001_1) ∧ w'.cell? (ad977.add ((x10_1).toNat * 2)) = some (.int .u64 ((rd_T25 l0 x10_1).f0)) ∧ w'.cell? ⟨(ad977.add ((x10_1).toNat * 2)).block, (ad977.add ((x10_1).toNat * 2)).off + 1, none⟩ = some (.int .u64 ((rd_T25 l0 x10_1).f1))) (ds := []) #[false, false, false, false, false, false, false, false, false, false, false, false] (by kernel_rfl) rfl rfl ⟨(blk_cell BK956.out 0).trans rfl, (blk_cell BK956.out 1).trans rfl, ((HB.out.cell (World.block_lt_of_cell? w _ hw977_0)).trans hw977_0), ((HB.out.cell (World.block_lt_of_cell? w _ hw977_1)).trans hw977_1)⟩ (fun hHeld => ?_); refine with_tabW paymasterlaw03_WideNarrow.tab15 paymasterlaw03_WideNarrow.bits15 (fun HT_ HW_ => ?_)
                      generalize wr.drew = w52 at BK945 BK949 BK953 BK956 HB hx977_0 hx977_1 hHeld ⊢
                      refine pure_ (i := 1) (N := some 56) (v := ?_) (a' := ?_) #[false, true, false, false, false, false, false, false, false, false, false, false] rfl rfl (any_of HT_.out (by kernel_rfl)) (fun _ _ _ h => h) (Or.inl ⟨by rfl, ?_⟩) ?_ ?_
                      rotate_left
                      · intro w'
                        go_simp
                        with_reducible rfl
                      rotate_left
                      · simp only [Act.put, List.setIfInBounds_toArray, List.set_cons_zero, List.set_cons_succ, i64_w, i32_w]
                        rfl
                      refine pure_ (i := 2) (N := some 57) (v := ?_) (a' := ?_) #[false, true, true, false, false, false, false, false, false, false, false, false] rfl rfl (any_of HT_.out (by kernel_rfl)) (fun _ _ _ h => h) (Or.inl ⟨by rfl, ?_⟩) ?_ ?_
                      rotate_left
                      · intro w'
                        go_simp
                        with_reducible rfl
                      rotate_left
                      · simp only [Act.put, List.setIfInBounds_toArray, List.set_cons_zero, List.set_cons_succ, i64_w, i32_w]
                        rfl
                      refine pure_ (i := 3) (N := some 58) (v := ?_) (a' := ?_) #[false, true, true, true, false, false, false, false, false, false, false, false] rfl rfl (any_of HT_.out (by kernel_rfl)) (fun _ _ _ h => h) (Or.inl ⟨by rfl, ?_⟩) ?_ ?_
                      rotate_left
                      · intro w'
                        go_simp
                        with_reducible rfl
                      rotate_left
                      · simp only [Act.put, List.setIfInBounds_toArray, List.set_cons_zero, List.set_cons_succ, i64_w, i32_w]
                        rfl
                      refine take_ (i := 0) (N := some 55) (v := ?_) (a' := ?_) #[true, true, true, true, false, false, false, false, false, false, false, false] rfl rfl (take_ofW HT_.out HW_.out (by kernel_rfl)) (fun _ _ _ h => h) (Or.inl ⟨by rfl, ?_⟩) hHeld ?_ ?_
                      rotate_left
                      · rintro w' ⟨s0, s1, s2, s3⟩
                        go_simp
                        with_reducible rfl
                      rotate_left
                      · simp only [Act.put, List.setIfInBounds_toArray, List.set_cons_zero, List.set_cons_succ, i64_w, i32_w]
                        rfl
                      refine take_ (i := 4) (N := some 59) (v := ?_) (a' := ?_) #[true, true, true, true, true, false, false, false, false, false, false, false] rfl rfl (take_ofW HT_.out HW_.out (by kernel_rfl)) (fun _ _ _ h => h) (Or.inl ⟨by rfl, ?_⟩) hHeld ?_ ?_
                      rotate_left
                      · rintro w' ⟨s0, s1, s2, s3⟩
                        go_simp
                        with_reducible rfl
                      rotate_left
                      · simp only [Act.put, List.setIfInBounds_toArray, List.set_cons_zero, List.set_cons_succ, i64_w, i32_w]
                        rfl
                      refine join_ (σ := Nat) 2 #[true, true, true, true, true, true, true, true, true, true, false, false] (fun s_ => [(60, .tuple #[.agg #[.int .u64 t978, .int .u64 t979], .int .i64 t980]), (11, .pointer (some ⟨s_, 0, none⟩)), (54, .tuple #[.agg #[.int .u64 t978, .int .u64 t979], .int .i64 t980]), (61, .agg #[.int .u64 t978, .int .u64 t979]), (62, .int .i64 t980)]) (fun s_ w' => (w'.cell? ⟨gb956, 0, none⟩ = some (.int .u64 x957000_1) ∧ w'.cell? ⟨gb956, 1, none⟩ = some (.int .u64 x957001_1) ∧ w'.cell? (ad977.add ((x10_1).toNat * 2)) = some (.int .u64 ((rd_T25 l0 x10_1).f0)) ∧ w'.cell? ⟨(ad977.add ((x10_1).toNat * 2)).block, (ad977.add ((x10_1).toNat * 2)).off + 1, none⟩ = some (.int .u64 ((rd_T25 l0 x10_1).f1))) ∧ (w'.heap[gb945]? = some (.cells #[.int .u64 t942, .int .u64 t943, .int .u64 t944] 27 (0, 0))) ∧ (w'.heap[gb949]? = some (.cells #[.int .u64 t946, .int .u64 t947] 25 (0, 0))) ∧ (w'.heap[gb953]? = some (.cells #[.int .u64 t950, .int .u64 t951] 25 (0, 0))) ∧ (w'.heap[gb956]? = some (.cells #[.int .u64 x957000_1, .int .u64 x957001_1] 25 (0, 0))) ∧ (w'.heap[s_]? = some (.cells #[.int .u64 0, .int .u64 0] 25 (0, 0))) ∧ (w.heap.size ≤ s_) ∧ (w.heap.size ≤ s_) ∧ (gb945 ≠ s_) ∧ (s_ ≠ gb945) ∧ (gb949 ≠ s_) ∧ (s_ ≠ gb949) ∧ (gb953 ≠ s_) ∧ (s_ ≠ gb953) ∧ (gb956 ≠ s_) ∧ (s_ ≠ gb956) ∧ (Below w.heap.size w w')) ?_ ?_
                      rotate_left
                      · intro hCont
                        refine two_ (i := 5) (j := 9) (Ni := some 60) (Nj := some 11) #[true, true, true, true, true, true, false, false, false, false, false, false] #[true, true, true, true, true, false, false, false, false, true, false, false] rfl rfl rfl rfl (two_of HT_.out (by kernel_rfl)) (by decide) (by decide) (fun K hK => ?_) (fun K hK => ?_)
                        · skip
                          refine goes_ Try.func45 (by kernel_rfl) rfl #[.agg #[.int .u64 x957000_1, .int .u64 x957001_1], .agg #[.int .u64 ((rd_T25 l0 x10_1).f0), .int .u64 ((rd_T25 l0 x10_1).f1)]] (by rfl) rfl rfl (by (try simp only [List.map_toArray, List.map_cons, List.map_nil]); first | done | rfl | (simp only [List.length_drop, List.length_take]; rfl)) ?_
                          with_reducible refine (u128_Add.calls x957000_1 x957001_1 ((rd_T25 l0 x10_1).f0) ((rd_T25 l0 x10_1).f1) t978 t979 t980 _ A30.out).mono ?_
                          rintro e w53 ⟨rfl, hb⟩
                          refine ⟨_, rfl, ?_⟩
                          have n0_ := Aside0.mk (blk_below (g := gb945) (o := .cells #[.int .u64 t942, .int .u64 t943, .int .u64 t944] 27 (0, 0)) (by (with_reducible repeat (first | refine blk_drewN ?_ _ | refine blk_drew ?_ | refine blk_alloc ?_ _)); exact BK945.out) hb)
                          have n1_ := Aside0.mk (blk_below (g := gb949) (o := .cells #[.int .u64 t946, .int .u64 t947] 25 (0, 0)) (by (with_reducible repeat (first | refine blk_drewN ?_ _ | refine blk_drew ?_ | refine blk_alloc ?_ _)); exact BK949.out) hb)
                          have n2_ := Aside0.mk (blk_below (g := gb953) (o := .cells #[.int .u64 t950, .int .u64 t951] 25 (0, 0)) (by (with_reducible repeat (first | refine blk_drewN ?_ _ | refine blk_drew ?_ | refine blk_alloc ?_ _)); exact BK953.out) hb)
                          have n3_ := Aside0.mk (blk_below (g := gb956) (o := .cells #[.int .u64 x957000_1, .int .u64 x957001_1] 25 (0, 0)) (by (with_reducible repeat (first | refine blk_drewN ?_ _ | refine blk_drew ?_ | refine blk_alloc ?_ _)); exact BK956.out) hb)
                          have n4_ := Aside0.mk (below_step (by repeat (first | (with_reducible first | exact HB.out | apply below_alloc | apply pw_below_drewN | apply below_drew1 | refine below_set ?_ GE945.out | refine below_set ?_ GE949.out | refine below_set ?_ GE953.out | refine below_set ?_ GE956.out) | exact HB.out)) hb)
                          clear BK945
                          clear BK949
                          clear BK953
                          clear BK956
                          clear HB
                          have BK945 := n0_
                          have BK949 := n1_
                          have BK953 := n2_
                          have BK956 := n3_
                          have HB := n4_
                          clear n0_ n1_ n2_ n3_ n4_
                          (try clear hb)
                          (try clear hb2)
                          (try clear hk)
                          (try clear hi)
                          refine hK.out _ _ ⟨(blk_cell BK956.out 0).trans rfl, (blk_cell BK956.out 1).trans rfl, ((HB.out.cell (World.block_lt_of_cell? w _ hw977_0)).trans hw977_0), ((HB.out.cell (World.block_lt_of_cell? w _ hw977_1)).trans hw977_1)⟩ (fun hHeld => ?_)
                          clear hK K
                          refine norm_ (a' := ?_) ?_ ?_
                          rotate_left
                          · show Act.put _ (some 60) _ = _
                            simp only [Act.put, List.setIfInBounds_toArray, List.set_cons_zero, List.set_cons_succ, i64_w, i32_w]
                            rfl
                          refine pure_ (i := 6) (N := some 54) (v := ?_) (a' := ?_) #[true, true, true, true, true, true, true, false, false, false, false, false] rfl rfl (any_of HT_.out (by kernel_rfl)) (fun _ _ _ h => h) (Or.inl ⟨by rfl, ?_⟩) ?_ ?_
                          rotate_left
                          · intro w'
                            go_simp
                            with_reducible rfl
                          rotate_left
                          · simp only [Act.put, List.setIfInBounds_toArray, List.set_cons_zero, List.set_cons_succ, i64_w, i32_w]
                            rfl
                          refine pure_ (i := 7) (N := some 61) (v := ?_) (a' := ?_) #[true, true, true, true, true, true, true, true, false, false, false, false] rfl rfl (any_of HT_.out (by kernel_rfl)) (fun _ _ _ h => h) (Or.inl ⟨by rfl, ?_⟩) ?_ ?_
                          rotate_left
                          · intro w'
                            go_simp
                            with_reducible rfl
                          rotate_left
                          · simp only [Act.put, List.setIfInBounds_toArray, List.set_cons_zero, List.set_cons_succ, i64_w, i32_w]
                            rfl
                          refine pure_ (i := 8) (N := some 62) (v := ?_) (a' := ?_) #[true, true, true, true, true, true, true, true, true, false, false, false] rfl rfl (any_of HT_.out (by kernel_rfl)) (fun _ _ _ h => h) (Or.inl ⟨by rfl, ?_⟩) ?_ ?_
                          rotate_left
                          · intro w'
                            go_simp
                            with_reducible rfl
                          rotate_left
                          · simp only [Act.put, List.setIfInBounds_toArray, List.set_cons_zero, List.set_cons_succ, i64_w, i32_w]
                            rfl
                          refine one_ (i := 9) (N := some 11) #[true, true, true, true, true, true, true, true, true, true, false, false] rfl rfl (one_of HT_.out (by kernel_rfl)) (by decide) (fun K hK => ?_)
                          refine box_step ?hg (N := 11) ?hd (cs := #[.int .u64 0, .int .u64 0]) (t := 25) ?hr ?_; (case hd => rfl); (case hg => rfl); (case hr => first | (go_simp; done) | (go_simp; rfl))
                          intro gb981 hg w54 hbox hb
                          have n0_ := Aside0.mk (blk_below (g := gb945) (o := .cells #[.int .u64 t942, .int .u64 t943, .int .u64 t944] 27 (0, 0)) (by (with_reducible repeat (first | refine blk_drewN ?_ _ | refine blk_drew ?_ | refine blk_alloc ?_ _)); exact BK945.out) hb)
                          have n1_ := Aside0.mk (blk_below (g := gb949) (o := .cells #[.int .u64 t946, .int .u64 t947] 25 (0, 0)) (by (with_reducible repeat (first | refine blk_drewN ?_ _ | refine blk_drew ?_ | refine blk_alloc ?_ _)); exact BK949.out) hb)
                          have n2_ := Aside0.mk (blk_below (g := gb953) (o := .cells #[.int .u64 t950, .int .u64 t951] 25 (0, 0)) (by (with_reducible repeat (first | refine blk_drewN ?_ _ | refine blk_drew ?_ | refine blk_alloc ?_ _)); exact BK953.out) hb)
                          have n3_ := Aside0.mk (blk_below (g := gb956) (o := .cells #[.int .u64 x957000_1, .int .u64 x957001_1] 25 (0, 0)) (by (with_reducible repeat (first | refine blk_drewN ?_ _ | refine blk_drew ?_ | refine blk_alloc ?_ _)); exact BK956.out) hb)
                          have n4_ := Aside0.mk (below_step (by repeat (first | (with_reducible first | exact HB.out | apply below_alloc | apply pw_below_drewN | apply below_drew1 | refine below_set ?_ GE945.out | refine below_set ?_ GE949.out | refine below_set ?_ GE953.out | refine below_set ?_ GE956.out) | exact HB.out)) hb)
                          have n5_ := Aside0.mk (hbox)
                          have n6_ := Aside0.mk ((by rw [hg]; exact (below_size (by repeat (first | (with_reducible first | exact HB.out | apply below_alloc | apply pw_below_drewN | apply below_drew1 | refine below_set ?_ GE945.out | refine below_set ?_ GE949.out | refine below_set ?_ GE953.out | refine below_set ?_ GE956.out) | exact HB.out))) : w.heap.size ≤ gb981))
                          have n7_ := Aside0.mk ((by rw [hg]; exact (below_size (by repeat (first | (with_reducible first | exact HB.out | apply below_alloc | apply pw_below_drewN | apply below_drew1 | refine below_set ?_ GE945.out | refine below_set ?_ GE949.out | refine below_set ?_ GE953.out | refine below_set ?_ GE956.out) | exact HB.out))) : w.heap.size ≤ gb981))
                          have n8_ := Aside0.mk ((by rw [hg]; exact Nat.ne_of_lt (blk_lt (g := gb945) (o := .cells #[.int .u64 t942, .int .u64 t943, .int .u64 t944] 27 (0, 0)) (by (with_reducible repeat (first | refine blk_drewN ?_ _ | refine blk_drew ?_ | refine blk_alloc ?_ _)); exact BK945.out)) : gb945 ≠ gb981))
                          have n9_ := Aside0.mk ((by rw [hg]; exact Nat.ne_of_gt (blk_lt (g := gb945) (o := .cells #[.int .u64 t942, .int .u64 t943, .int .u64 t944] 27 (0, 0)) (by (with_reducible repeat (first | refine blk_drewN ?_ _ | refine blk_drew ?_ | refine blk_alloc ?_ _)); exact BK945.out)) : gb981 ≠ gb945))
                          have n10_ := Aside0.mk ((by rw [hg]; exact Nat.ne_of_lt (blk_lt (g := gb949) (o := .cells #[.int .u64 t946, .int .u64 t947] 25 (0, 0)) (by (with_reducible repeat (first | refine blk_drewN ?_ _ | refine blk_drew ?_ | refine blk_alloc ?_ _)); exact BK949.out)) : gb949 ≠ gb981))
                          have n11_ := Aside0.mk ((by rw [hg]; exact Nat.ne_of_gt (blk_lt (g := gb949) (o := .cells #[.int .u64 t946, .int .u64 t947] 25 (0, 0)) (by (with_reducible repeat (first | refine blk_drewN ?_ _ | refine blk_drew ?_ | refine blk_alloc ?_ _)); exact BK949.out)) : gb981 ≠ gb949))
                          have n12_ := Aside0.mk ((by rw [hg]; exact Nat.ne_of_lt (blk_lt (g := gb953) (o := .cells #[.int .u64 t950, .int .u64 t951] 25 (0, 0)) (by (with_reducible repeat (first | refine blk_drewN ?_ _ | refine blk_drew ?_ | refine blk_alloc ?_ _)); exact BK953.out)) : gb953 ≠ gb981))
                          have n13_ := Aside0.mk ((by rw [hg]; exact Nat.ne_of_gt (blk_lt (g := gb953) (o := .cells #[.int .u64 t950, .int .u64 t951] 25 (0, 0)) (by (with_reducible repeat (first | refine blk_drewN ?_ _ | refine blk_drew ?_ | refine blk_alloc ?_ _)); exact BK953.out)) : gb981 ≠ gb953))
                          have n14_ := Aside0.mk ((by rw [hg]; exact Nat.ne_of_lt (blk_lt (g := gb956) (o := .cells #[.int .u64 x957000_1, .int .u64 x957001_1] 25 (0, 0)) (by (with_reducible repeat (first | refine blk_drewN ?_ _ | refine blk_drew ?_ | refine blk_alloc ?_ _)); exact BK956.out)) : gb956 ≠ gb981))
                          have n15_ := Aside0.mk ((by rw [hg]; exact Nat.ne_of_gt (blk_lt (g := gb956) (o := .cells #[.int .u64 x957000_1, .int .u64 x957001_1] 25 (0, 0)) (by (with_reducible repeat (first | refine blk_drewN ?_ _ | refine blk_drew ?_ | refine blk_alloc ?_ _)); exact BK956.out)) : gb981 ≠ gb956))
                          clear BK945
                          clear BK949
                          clear BK953
                          clear BK956
                          clear HB
                          have BK945 := n0_
                          have BK949 := n1_
                          have BK953 := n2_
                          have BK956 := n3_
                          have HB := n4_
                          have BK981 := n5_
                          have GW981 := n6_
                          have GE981 := n7_
                          have NB945_981 := n8_
                          have NB981_945 := n9_
                          have NB949_981 := n10_
                          have NB981_949 := n11_
                          have NB953_981 := n12_
                          have NB981_953 := n13_
                          have NB956_981 := n14_
                          have NB981_956 := n15_
                          clear n0_ n1_ n2_ n3_ n4_ n5_ n6_ n7_ n8_ n9_ n10_ n11_ n12_ n13_ n14_ n15_
                          clear hb hbox hg
                          refine hK.out _ _ ⟨(blk_cell BK956.out 0).trans rfl, (blk_cell BK956.out 1).trans rfl, ((HB.out.cell (World.block_lt_of_cell? w _ hw977_0)).trans hw977_0), ((HB.out.cell (World.block_lt_of_cell? w _ hw977_1)).trans hw977_1)⟩ (fun hHeld => ?_)
                          clear hK K
                          refine norm_ (a' := ?_) ?_ ?_
                          rotate_left
                          · show Act.put _ (some 11) _ = _
                            simp only [Act.put, List.setIfInBounds_toArray, List.set_cons_zero, List.set_cons_succ, i64_w, i32_w]
                            rfl
                          exact norm_ (by simp only [putAll, Act.put, List.setIfInBounds_toArray, List.set_cons_zero, List.set_cons_succ]) (hCont (gb981) _ ⟨hHeld, (by (with_reducible repeat (first | refine blk_drewN ?_ _ | refine blk_drew ?_ | refine blk_alloc ?_ _)); exact BK945.out), (by (with_reducible repeat (first | refine blk_drewN ?_ _ | refine blk_drew ?_ | refine blk_alloc ?_ _)); exact BK949.out), (by (with_reducible repeat (first | refine blk_drewN ?_ _ | refine blk_drew ?_ | refine blk_alloc ?_ _)); exact BK953.out), (by (with_reducible repeat (first | refine blk_drewN ?_ _ | refine blk_drew ?_ | refine blk_alloc ?_ _)); exact BK956.out), (by (with_reducible repeat (first | refine blk_drewN ?_ _ | refine blk_drew ?_ | refine blk_alloc ?_ _)); exact BK981.out), GW981.out, GE981.out, NB945_981.out, NB981_945.out, NB949_981.out, NB981_949.out, NB953_981.out, NB981_953.out, NB956_981.out, NB981_956.out, (by repeat (first | (with_reducible first | exact HB.out | apply below_alloc | apply pw_below_drewN | apply below_drew1 | refine below_set ?_ GE945.out | refine below_set ?_ GE949.out | refine below_set ?_ GE953.out | refine below_set ?_ GE956.out | refine below_set ?_ GE981.out) | exact HB.out))⟩)
                        · skip
                          refine box_step ?hg (N := 11) ?hd (cs := #[.int .u64 0, .int .u64 0]) (t := 25) ?hr ?_; (case hd => rfl); (case hg => rfl); (case hr => first | (go_simp; done) | (go_simp; rfl))
                          intro gb981 hg w53 hbox hb
                          have n0_ := Aside0.mk (blk_below (g := gb945) (o := .cells #[.int .u64 t942, .int .u64 t943, .int .u64 t944] 27 (0, 0)) (by (with_reducible repeat (first | refine blk_drewN ?_ _ | refine blk_drew ?_ | refine blk_alloc ?_ _)); exact BK945.out) hb)
                          have n1_ := Aside0.mk (blk_below (g := gb949) (o := .cells #[.int .u64 t946, .int .u64 t947] 25 (0, 0)) (by (with_reducible repeat (first | refine blk_drewN ?_ _ | refine blk_drew ?_ | refine blk_alloc ?_ _)); exact BK949.out) hb)
                          have n2_ := Aside0.mk (blk_below (g := gb953) (o := .cells #[.int .u64 t950, .int .u64 t951] 25 (0, 0)) (by (with_reducible repeat (first | refine blk_drewN ?_ _ | refine blk_drew ?_ | refine blk_alloc ?_ _)); exact BK953.out) hb)
                          have n3_ := Aside0.mk (blk_below (g := gb956) (o := .cells #[.int .u64 x957000_1, .int .u64 x957001_1] 25 (0, 0)) (by (with_reducible repeat (first | refine blk_drewN ?_ _ | refine blk_drew ?_ | refine blk_alloc ?_ _)); exact BK956.out) hb)
                          have n4_ := Aside0.mk (below_step (by repeat (first | (with_reducible first | exact HB.out | apply below_alloc | apply pw_below_drewN | apply below_drew1 | refine below_set ?_ GE945.out | refine below_set ?_ GE949.out | refine below_set ?_ GE953.out | refine below_set ?_ GE956.out) | exact HB.out)) hb)
                          have n5_ := Aside0.mk (hbox)
                          have n6_ := Aside0.mk ((by rw [hg]; exact (below_size (by repeat (first | (with_reducible first | exact HB.out | apply below_alloc | apply pw_below_drewN | apply below_drew1 | refine below_set ?_ GE945.out | refine below_set ?_ GE949.out | refine below_set ?_ GE953.out | refine below_set ?_ GE956.out) | exact HB.out))) : w.heap.size ≤ gb981))
                          have n7_ := Aside0.mk ((by rw [hg]; exact (below_size (by repeat (first | (with_reducible first | exact HB.out | apply below_alloc | apply pw_below_drewN | apply below_drew1 | refine below_set ?_ GE945.out | refine below_set ?_ GE949.out | refine below_set ?_ GE953.out | refine below_set ?_ GE956.out) | exact HB.out))) : w.heap.size ≤ gb981))
                          have n8_ := Aside0.mk ((by rw [hg]; exact Nat.ne_of_lt (blk_lt (g := gb945) (o := .cells #[.int .u64 t942, .int .u64 t943, .int .u64 t944] 27 (0, 0)) (by (with_reducible repeat (first | refine blk_drewN ?_ _ | refine blk_drew ?_ | refine blk_alloc ?_ _)); exact BK945.out)) : gb945 ≠ gb981))
                          have n9_ := Aside0.mk ((by rw [hg]; exact Nat.ne_of_gt (blk_lt (g := gb945) (o := .cells #[.int .u64 t942, .int .u64 t943, .int .u64 t944] 27 (0, 0)) (by (with_reducible repeat (first | refine blk_drewN ?_ _ | refine blk_drew ?_ | refine blk_alloc ?_ _)); exact BK945.out)) : gb981 ≠ gb945))
                          have n10_ := Aside0.mk ((by rw [hg]; exact Nat.ne_of_lt (blk_lt (g := gb949) (o := .cells #[.int .u64 t946, .int .u64 t947] 25 (0, 0)) (by (with_reducible repeat (first | refine blk_drewN ?_ _ | refine blk_drew ?_ | refine blk_alloc ?_ _)); exact BK949.out)) : gb949 ≠ gb981))
                          have n11_ := Aside0.mk ((by rw [hg]; exact Nat.ne_of_gt (blk_lt (g := gb949) (o := .cells #[.int .u64 t946, .int .u64 t947] 25 (0, 0)) (by (with_reducible repeat (first | refine blk_drewN ?_ _ | refine blk_drew ?_ | refine blk_alloc ?_ _)); exact BK949.out)) : gb981 ≠ gb949))
                          have n12_ := Aside0.mk ((by rw [hg]; exact Nat.ne_of_lt (blk_lt (g := gb953) (o := .cells #[.int .u64 t950, .int .u64 t951] 25 (0, 0)) (by (with_reducible repeat (first | refine blk_drewN ?_ _ | refine blk_drew ?_ | refine blk_alloc ?_ _)); exact BK953.out)) : gb953 ≠ gb981))
                          have n13_ := Aside0.mk ((by rw [hg]; exact Nat.ne_of_gt (blk_lt (g := gb953) (o := .cells #[.int .u64 t950, .int .u64 t951] 25 (0, 0)) (by (with_reducible repeat (first | refine blk_drewN ?_ _ | refine blk_drew ?_ | refine blk_alloc ?_ _)); exact BK953.out)) : gb981 ≠ gb953))
                          have n14_ := Aside0.mk ((by rw [hg]; exact Nat.ne_of_lt (blk_lt (g := gb956) (o := .cells #[.int .u64 x957000_1, .int .u64 x957001_1] 25 (0, 0)) (by (with_reducible repeat (first | refine blk_drewN ?_ _ | refine blk_drew ?_ | refine blk_alloc ?_ _)); exact BK956.out)) : gb956 ≠ gb981))
                          have n15_ := Aside0.mk ((by rw [hg]; exact Nat.ne_of_gt (blk_lt (g := gb956) (o := .cells #[.int .u64 x957000_1, .int .u64 x957001_1] 25 (0, 0)) (by (with_reducible repeat (first | refine blk_drewN ?_ _ | refine blk_drew ?_ | refine blk_alloc ?_ _)); exact BK956.out)) : gb981 ≠ gb956))
                          clear BK945
                          clear BK949
                          clear BK953
                          clear BK956
                          clear HB
                          have BK945 := n0_
                          have BK949 := n1_
                          have BK953 := n2_
                          have BK956 := n3_
                          have HB := n4_
                          have BK981 := n5_
                          have GW981 := n6_
                          have GE981 := n7_
                          have NB945_981 := n8_
                          have NB981_945 := n9_
                          have NB949_981 := n10_
                          have NB981_949 := n11_
                          have NB953_981 := n12_
                          have NB981_953 := n13_
                          have NB956_981 := n14_
                          have NB981_956 := n15_
                          clear n0_ n1_ n2_ n3_ n4_ n5_ n6_ n7_ n8_ n9_ n10_ n11_ n12_ n13_ n14_ n15_
                          clear hb hbox hg
                          refine hK.out _ _ ⟨(blk_cell BK956.out 0).trans rfl, (blk_cell BK956.out 1).trans rfl, ((HB.out.cell (World.block_lt_of_cell? w _ hw977_0)).trans hw977_0), ((HB.out.cell (World.block_lt_of_cell? w _ hw977_1)).trans hw977_1)⟩ (fun hHeld => ?_)
                          clear hK K
                          refine norm_ (a' := ?_) ?_ ?_
                          rotate_left
                          · show Act.put _ (some 11) _ = _
                            simp only [Act.put, List.setIfInBounds_toArray, List.set_cons_zero, List.set_cons_succ, i64_w, i32_w]
                            rfl
                          refine one_ (i := 5) (N := some 60) #[true, true, true, true, true, true, false, false, false, true, false, false] rfl rfl (one_of HT_.out (by kernel_rfl)) (by decide) (fun K hK => ?_)
                          refine goes_ Try.func45 (by kernel_rfl) rfl #[.agg #[.int .u64 x957000_1, .int .u64 x957001_1], .agg #[.int .u64 ((rd_T25 l0 x10_1).f0), .int .u64 ((rd_T25 l0 x10_1).f1)]] (by rfl) rfl rfl (by (try simp only [List.map_toArray, List.map_cons, List.map_nil]); first | done | rfl | (simp only [List.length_drop, List.length_take]; rfl)) ?_
                          with_reducible refine (u128_Add.calls x957000_1 x957001_1 ((rd_T25 l0 x10_1).f0) ((rd_T25 l0 x10_1).f1) t978 t979 t980 _ A30.out).mono ?_
                          rintro e w54 ⟨rfl, hb⟩
                          refine ⟨_, rfl, ?_⟩
                          have n0_ := Aside0.mk (blk_below (g := gb945) (o := .cells #[.int .u64 t942, .int .u64 t943, .int .u64 t944] 27 (0, 0)) (by (with_reducible repeat (first | refine blk_drewN ?_ _ | refine blk_drew ?_ | refine blk_alloc ?_ _)); exact BK945.out) hb)
                          have n1_ := Aside0.mk (blk_below (g := gb949) (o := .cells #[.int .u64 t946, .int .u64 t947] 25 (0, 0)) (by (with_reducible repeat (first | refine blk_drewN ?_ _ | refine blk_drew ?_ | refine blk_alloc ?_ _)); exact BK949.out) hb)
                          have n2_ := Aside0.mk (blk_below (g := gb953) (o := .cells #[.int .u64 t950, .int .u64 t951] 25 (0, 0)) (by (with_reducible repeat (first | refine blk_drewN ?_ _ | refine blk_drew ?_ | refine blk_alloc ?_ _)); exact BK953.out) hb)
                          have n3_ := Aside0.mk (blk_below (g := gb956) (o := .cells #[.int .u64 x957000_1, .int .u64 x957001_1] 25 (0, 0)) (by (with_reducible repeat (first | refine blk_drewN ?_ _ | refine blk_drew ?_ | refine blk_alloc ?_ _)); exact BK956.out) hb)
                          have n4_ := Aside0.mk (blk_below (g := gb981) (o := .cells #[.int .u64 0, .int .u64 0] 25 (0, 0)) (by (with_reducible repeat (first | refine blk_drewN ?_ _ | refine blk_drew ?_ | refine blk_alloc ?_ _)); exact BK981.out) hb)
                          have n5_ := Aside0.mk (below_step (by repeat (first | (with_reducible first | exact HB.out | apply below_alloc | apply pw_below_drewN | apply below_drew1 | refine below_set ?_ GE945.out | refine below_set ?_ GE949.out | refine below_set ?_ GE953.out | refine below_set ?_ GE956.out | refine below_set ?_ GE981.out) | exact HB.out)) hb)
                          clear BK945
                          clear BK949
                          clear BK953
                          clear BK956
                          clear BK981
                          clear HB
                          have BK945 := n0_
                          have BK949 := n1_
                          have BK953 := n2_
                          have BK956 := n3_
                          have BK981 := n4_
                          have HB := n5_
                          clear n0_ n1_ n2_ n3_ n4_ n5_
                          (try clear hb)
                          (try clear hb2)
                          (try clear hk)
                          (try clear hi)
                          refine hK.out _ _ ⟨(blk_cell BK956.out 0).trans rfl, (blk_cell BK956.out 1).trans rfl, ((HB.out.cell (World.block_lt_of_cell? w _ hw977_0)).trans hw977_0), ((HB.out.cell (World.block_lt_of_cell? w _ hw977_1)).trans hw977_1)⟩ (fun hHeld => ?_)
                          clear hK K
                          refine norm_ (a' := ?_) ?_ ?_
                          rotate_left
                          · show Act.put _ (some 60) _ = _
                            simp only [Act.put, List.setIfInBounds_toArray, List.set_cons_zero, List.set_cons_succ, i64_w, i32_w]
                            rfl
                          refine pure_ (i := 6) (N := some 54) (v := ?_) (a' := ?_) #[true, true, true, true, true, true, true, false, false, true, false, false] rfl rfl (any_of HT_.out (by kernel_rfl)) (fun _ _ _ h => h) (Or.inl ⟨by rfl, ?_⟩) ?_ ?_
                          rotate_left
                          · intro w'
                            go_simp
                            with_reducible rfl
                          rotate_left
                          · simp only [Act.put, List.setIfInBounds_toArray, List.set_cons_zero, List.set_cons_succ, i64_w, i32_w]
                            rfl
                          refine pure_ (i := 7) (N := some 61) (v := ?_) (a' := ?_) #[true, true, true, true, true, true, true, true, false, true, false, false] rfl rfl (any_of HT_.out (by kernel_rfl)) (fun _ _ _ h => h) (Or.inl ⟨by rfl, ?_⟩) ?_ ?_
                          rotate_left
                          · intro w'
                            go_simp
                            with_reducible rfl
                          rotate_left
                          · simp only [Act.put, List.setIfInBounds_toArray, List.set_cons_zero, List.set_cons_succ, i64_w, i32_w]
                            rfl
                          refine pure_ (i := 8) (N := some 62) (v := ?_) (a' := ?_) #[true, true, true, true, true, true, true, true, true, true, false, false] rfl rfl (any_of HT_.out (by kernel_rfl)) (fun _ _ _ h => h) (Or.inl ⟨by rfl, ?_⟩) ?_ ?_
                          rotate_left
                          · intro w'
                            go_simp
                            with_reducible rfl
                          rotate_left
                          · simp only [Act.put, List.setIfInBounds_toArray, List.set_cons_zero, List.set_cons_succ, i64_w, i32_w]
                            rfl
                          exact norm_ (by simp only [putAll, Act.put, List.setIfInBounds_toArray, List.set_cons_zero, List.set_cons_succ]) (hCont (gb981) _ ⟨hHeld, (by (with_reducible repeat (first | refine blk_drewN ?_ _ | refine blk_drew ?_ | refine blk_alloc ?_ _)); exact BK945.out), (by (with_reducible repeat (first | refine blk_drewN ?_ _ | refine blk_drew ?_ | refine blk_alloc ?_ _)); exact BK949.out), (by (with_reducible repeat (first | refine blk_drewN ?_ _ | refine blk_drew ?_ | refine blk_alloc ?_ _)); exact BK953.out), (by (with_reducible repeat (first | refine blk_drewN ?_ _ | refine blk_drew ?_ | refine blk_alloc ?_ _)); exact BK956.out), (by (with_reducible repeat (first | refine blk_drewN ?_ _ | refine blk_drew ?_ | refine blk_alloc ?_ _)); exact BK981.out), GW981.out, GE981.out, NB945_981.out, NB981_945.out, NB949_981.out, NB981_949.out, NB953_981.out, NB981_953.out, NB956_981.out, NB981_956.out, (by repeat (first | (with_reducible first | exact HB.out | apply below_alloc | apply pw_below_drewN | apply below_drew1 | refine below_set ?_ GE945.out | refine below_set ?_ GE949.out | refine below_set ?_ GE953.out | refine below_set ?_ GE956.out | refine below_set ?_ GE981.out) | exact HB.out))⟩)
                      rintro gb981 w55 ⟨hS_, h0_, h1_, h2_, h3_, h4_, h5_, h6_, h7_, h8_, h9_, h10_, h11_, h12_, h13_, h14_, h15_⟩
                      have n0_ : Aside0 (w55.heap[gb945]? = some (.cells #[.int .u64 t942, .int .u64 t943, .int .u64 t944] 27 (0, 0))) := ⟨h0_⟩
                      have n1_ : Aside0 (w55.heap[gb949]? = some (.cells #[.int .u64 t946, .int .u64 t947] 25 (0, 0))) := ⟨h1_⟩
                      have n2_ : Aside0 (w55.heap[gb953]? = some (.cells #[.int .u64 t950, .int .u64 t951] 25 (0, 0))) := ⟨h2_⟩
                      have n3_ : Aside0 (w55.heap[gb956]? = some (.cells #[.int .u64 x957000_1, .int .u64 x957001_1] 25 (0, 0))) := ⟨h3_⟩
                      have n4_ : Aside0 (w55.heap[gb981]? = some (.cells #[.int .u64 0, .int .u64 0] 25 (0, 0))) := ⟨h4_⟩
                      have n5_ : Aside0 (w.heap.size ≤ gb981) := ⟨h5_⟩
                      have n6_ : Aside0 (w.heap.size ≤ gb981) := ⟨h6_⟩
                      have n7_ : Aside0 (gb945 ≠ gb981) := ⟨h7_⟩
                      have n8_ : Aside0 (gb981 ≠ gb945) := ⟨h8_⟩
                      have n9_ : Aside0 (gb949 ≠ gb981) := ⟨h9_⟩
                      have n10_ : Aside0 (gb981 ≠ gb949) := ⟨h10_⟩
                      have n11_ : Aside0 (gb953 ≠ gb981) := ⟨h11_⟩
                      have n12_ : Aside0 (gb981 ≠ gb953) := ⟨h12_⟩
                      have n13_ : Aside0 (gb956 ≠ gb981) := ⟨h13_⟩
                      have n14_ : Aside0 (gb981 ≠ gb956) := ⟨h14_⟩
                      have n15_ : Aside0 (Below w.heap.size w w55) := ⟨h15_⟩
                      clear BK945
                      clear BK949
                      clear BK953
                      clear BK956
                      clear HB
                      clear h0_ h1_ h2_ h3_ h4_ h5_ h6_ h7_ h8_ h9_ h10_ h11_ h12_ h13_ h14_ h15_
                      have BK945 := n0_
                      have BK949 := n1_
                      have BK953 := n2_
                      have BK956 := n3_
                      have BK981 := n4_
                      have GW981 := n5_
                      have GE981 := n6_
                      have NB945_981 := n7_
                      have NB981_945 := n8_
                      have NB949_981 := n9_
                      have NB981_949 := n10_
                      have NB953_981 := n11_
                      have NB981_953 := n12_
                      have NB956_981 := n13_
                      have NB981_956 := n14_
                      have HB := n15_
                      clear n0_ n1_ n2_ n3_ n4_ n5_ n6_ n7_ n8_ n9_ n10_ n11_ n12_ n13_ n14_ n15_
                      have hHeld : w55.cell? ⟨gb956, 0, none⟩ = some (.int .u64 x957000_1) ∧ w55.cell? ⟨gb956, 1, none⟩ = some (.int .u64 x957001_1) ∧ w55.cell? (ad977.add ((x10_1).toNat * 2)) = some (.int .u64 ((rd_T25 l0 x10_1).f0)) ∧ w55.cell? ⟨(ad977.add ((x10_1).toNat * 2)).block, (ad977.add ((x10_1).toNat * 2)).off + 1, none⟩ = some (.int .u64 ((rd_T25 l0 x10_1).f1)) := hS_
                      refine norm_ (a' := ?_) ?_ ?_
                      rotate_left
                      · simp only [putAll, Act.put, List.setIfInBounds_toArray, List.set_cons_zero, List.set_cons_succ]
                        rfl
                      refine one_ (i := 10) (N := none) #[true, true, true, true, true, true, true, true, true, true, true, false] rfl rfl (one_of HT_.out (by kernel_rfl)) (by decide) (fun K hK => ?_)
                      have hs56 : w55.cell? ⟨gb981, 0, none⟩ = some (.int .u64 0) := (blk_cell BK981.out 0).trans rfl
                      have hfs56 := blk_frozen BK981.out 0
                      have hns56_0 := NB945_981.out
                      have hns56_1 := NB949_981.out
                      have hns56_2 := NB953_981.out
                      have hns56_3 := NB956_981.out
                      have hms56_0 := NB981_945.out
                      have hms56_1 := NB981_949.out
                      have hms56_2 := NB981_953.out
                      have hms56_3 := NB981_956.out
                      have hs57 : w55.cell? ⟨gb981, 1, none⟩ = some (.int .u64 0) := (blk_cell BK981.out 1).trans rfl
                      have hfs57 := blk_frozen BK981.out 1
                      have hns57_0 := NB945_981.out
                      have hns57_1 := NB949_981.out
                      have hns57_2 := NB953_981.out
                      have hns57_3 := NB956_981.out
                      have hms57_0 := NB981_945.out
                      have hms57_1 := NB981_949.out
                      have hms57_2 := NB981_953.out
                      have hms57_3 := NB981_956.out
                      refine skip_ (w1 := ?_) (by rfl) rfl ?_ ?_
                      rotate_left
                      · go_simp
                        rfl
                      refine hK.out _ _ ⟨((cell_far (p := ⟨gb981, _, none⟩) NB956_981.out _).trans (((cell_far (p := ⟨gb981, _, none⟩) NB956_981.out _).trans (hHeld.1)))), ((cell_far (p := ⟨gb981, _, none⟩) NB956_981.out _).trans (((cell_far (p := ⟨gb981, _, none⟩) NB956_981.out _).trans (hHeld.2.1)))), ((cell_far (p := ⟨gb981, _, none⟩) (by first | exact Nat.ne_of_lt (Nat.lt_of_lt_of_le (by have := World.block_lt_of_cell? _ _ hw977_0; first | rwa [add_block] at this | exact this) GW981.out) | (rw [add_block]; exact Nat.ne_of_lt (Nat.lt_of_lt_of_le (by have := World.block_lt_of_cell? _ _ hw977_0; first | rwa [add_block] at this | exact this) GW981.out)) | (show (Addr.add _ _).block ≠ _; rw [add_block]; exact Nat.ne_of_lt (Nat.lt_of_lt_of_le (by have := World.block_lt_of_cell? _ _ hw977_0; first | rwa [add_block] at this | exact this) GW981.out)) | (dsimp only; exact Nat.ne_of_lt (Nat.lt_of_lt_of_le (by have := World.block_lt_of_cell? _ _ hw977_0; first | rwa [add_block] at this | exact this) GW981.out))) _).trans (((cell_far (p := ⟨gb981, _, none⟩) (by first | exact Nat.ne_of_lt (Nat.lt_of_lt_of_le (by have := World.block_lt_of_cell? _ _ hw977_0; first | rwa [add_block] at this | exact this) GW981.out) | (rw [add_block]; exact Nat.ne_of_lt (Nat.lt_of_lt_of_le (by have := World.block_lt_of_cell? _ _ hw977_0; first | rwa [add_block] at this | exact this) GW981.out)) | (show (Addr.add _ _).block ≠ _; rw [add_block]; exact Nat.ne_of_lt (Nat.lt_of_lt_of_le (by have := World.block_lt_of_cell? _ _ hw977_0; first | rwa [add_block] at this | exact this) GW981.out)) | (dsimp only; exact Nat.ne_of_lt (Nat.lt_of_lt_of_le (by have := World.block_lt_of_cell? _ _ hw977_0; first | rwa [add_block] at this | exact this) GW981.out))) _).trans (hHeld.2.2.1)))), ((cell_far (p := ⟨gb981, _, none⟩) (by first | exact Nat.ne_of_lt (Nat.lt_of_lt_of_le (by have := World.block_lt_of_cell? _ _ hw977_1; first | rwa [add_block] at this | exact this) GW981.out) | (rw [add_block]; exact Nat.ne_of_lt (Nat.lt_of_lt_of_le (by have := World.block_lt_of_cell? _ _ hw977_1; first | rwa [add_block] at this | exact this) GW981.out)) | (show (Addr.add _ _).block ≠ _; rw [add_block]; exact Nat.ne_of_lt (Nat.lt_of_lt_of_le (by have := World.block_lt_of_cell? _ _ hw977_1; first | rwa [add_block] at this | exact this) GW981.out)) | (dsimp only; exact Nat.ne_of_lt (Nat.lt_of_lt_of_le (by have := World.block_lt_of_cell? _ _ hw977_1; first | rwa [add_block] at this | exact this) GW981.out))) _).trans (((cell_far (p := ⟨gb981, _, none⟩) (by first | exact Nat.ne_of_lt (Nat.lt_of_lt_of_le (by have := World.block_lt_of_cell? _ _ hw977_1; first | rwa [add_block] at this | exact this) GW981.out) | (rw [add_block]; exact Nat.ne_of_lt (Nat.lt_of_lt_of_le (by have := World.block_lt_of_cell? _ _ hw977_1; first | rwa [add_block] at this | exact this) GW981.out)) | (show (Addr.add _ _).block ≠ _; rw [add_block]; exact Nat.ne_of_lt (Nat.lt_of_lt_of_le (by have := World.block_lt_of_cell? _ _ hw977_1; first | rwa [add_block] at this | exact this) GW981.out)) | (dsimp only; exact Nat.ne_of_lt (Nat.lt_of_lt_of_le (by have := World.block_lt_of_cell? _ _ hw977_1; first | rwa [add_block] at this | exact this) GW981.out))) _).trans (hHeld.2.2.2))))⟩ (fun hHeld => ?_)
                      clear hK K
                      refine pure_ (i := 11) (N := some 12) (v := ?_) (a' := ?_) #[true, true, true, true, true, true, true, true, true, true, true, true] rfl rfl (any_of HT_.out (by kernel_rfl)) (fun _ _ _ h => h) (Or.inl ⟨by rfl, ?_⟩) ?_ ?_
                      rotate_left
                      · intro w'
                        go_simp
                        with_reducible rfl
                      rotate_left
                      · simp only [Act.put, List.setIfInBounds_toArray, List.set_cons_zero, List.set_cons_succ, i64_w, i32_w]
                        rfl
                      refine done_ (done_of HT_.out (by kernel_rfl)) ?_
                      try go_wp2
                      have n0_ : Aside0 (((w55.setCell ⟨gb981, 0, none⟩ (.int .u64 t978)).setCell ⟨gb981, 1, none⟩ (.int .u64 t979)).heap[gb945]? = some (.cells #[.int .u64 t942, .int .u64 t943, .int .u64 t944] 27 (0, 0))) := ⟨by (with_reducible repeat (first | refine blk_drewN ?_ _ | refine blk_drew ?_ | refine blk_alloc ?_ _)); refine blk_far ?_ NB945_981.out _; (with_reducible repeat (first | refine blk_drewN ?_ _ | refine blk_drew ?_ | refine blk_alloc ?_ _)); refine blk_far ?_ NB945_981.out _; (with_reducible repeat (first | refine blk_drewN ?_ _ | refine blk_drew ?_ | refine blk_alloc ?_ _)); exact BK945.out⟩
                      have n1_ : Aside0 (((w55.setCell ⟨gb981, 0, none⟩ (.int .u64 t978)).setCell ⟨gb981, 1, none⟩ (.int .u64 t979)).heap[gb949]? = some (.cells #[.int .u64 t946, .int .u64 t947] 25 (0, 0))) := ⟨by (with_reducible repeat (first | refine blk_drewN ?_ _ | refine blk_drew ?_ | refine blk_alloc ?_ _)); refine blk_far ?_ NB949_981.out _; (with_reducible repeat (first | refine blk_drewN ?_ _ | refine blk_drew ?_ | refine blk_alloc ?_ _)); refine blk_far ?_ NB949_981.out _; (with_reducible repeat (first | refine blk_drewN ?_ _ | refine blk_drew ?_ | refine blk_alloc ?_ _)); exact BK949.out⟩
                      have n2_ : Aside0 (((w55.setCell ⟨gb981, 0, none⟩ (.int .u64 t978)).setCell ⟨gb981, 1, none⟩ (.int .u64 t979)).heap[gb953]? = some (.cells #[.int .u64 t950, .int .u64 t951] 25 (0, 0))) := ⟨by (with_reducible repeat (first | refine blk_drewN ?_ _ | refine blk_drew ?_ | refine blk_alloc ?_ _)); refine blk_far ?_ NB953_981.out _; (with_reducible repeat (first | refine blk_drewN ?_ _ | refine blk_drew ?_ | refine blk_alloc ?_ _)); refine blk_far ?_ NB953_981.out _; (with_reducible repeat (first | refine blk_drewN ?_ _ | refine blk_drew ?_ | refine blk_alloc ?_ _)); exact BK953.out⟩
                      have n3_ : Aside0 (((w55.setCell ⟨gb981, 0, none⟩ (.int .u64 t978)).setCell ⟨gb981, 1, none⟩ (.int .u64 t979)).heap[gb956]? = some (.cells #[.int .u64 x957000_1, .int .u64 x957001_1] 25 (0, 0))) := ⟨by (with_reducible repeat (first | refine blk_drewN ?_ _ | refine blk_drew ?_ | refine blk_alloc ?_ _)); refine blk_far ?_ NB956_981.out _; (with_reducible repeat (first | refine blk_drewN ?_ _ | refine blk_drew ?_ | refine blk_alloc ?_ _)); refine blk_far ?_ NB956_981.out _; (with_reducible repeat (first | refine blk_drewN ?_ _ | refine blk_drew ?_ | refine blk_alloc ?_ _)); exact BK956.out⟩
                      have n4_ : Aside0 (((w55.setCell ⟨gb981, 0, none⟩ (.int .u64 t978)).setCell ⟨gb981, 1, none⟩ (.int .u64 t979)).heap[gb981]? = some (.cells #[.int .u64 t978, .int .u64 t979] 25 (0, 0))) := ⟨by (with_reducible repeat (first | refine blk_drewN ?_ _ | refine blk_drew ?_ | refine blk_alloc ?_ _)); refine blk_put (cs := #[.int .u64 t978, .int .u64 0]) ?_ 1 _ rfl; (with_reducible repeat (first | refine blk_drewN ?_ _ | refine blk_drew ?_ | refine blk_alloc ?_ _)); refine blk_put (cs := #[.int .u64 0, .int .u64 0]) ?_ 0 _ rfl; (with_reducible repeat (first | refine blk_drewN ?_ _ | refine blk_drew ?_ | refine blk_alloc ?_ _)); exact BK981.out⟩
                      have n5_ : Aside0 (Below w.heap.size w ((w55.setCell ⟨gb981, 0, none⟩ (.int .u64 t978)).setCell ⟨gb981, 1, none⟩ (.int .u64 t979))) := ⟨by repeat (first | (with_reducible first | exact HB.out | apply below_alloc | apply pw_below_drewN | apply below_drew1 | refine below_set ?_ GE945.out | refine below_set ?_ GE949.out | refine below_set ?_ GE953.out | refine below_set ?_ GE956.out | refine below_set ?_ GE981.out) | exact HB.out)⟩
                      (try clear BK945)
                      (try clear BK949)
                      (try clear BK953)
                      (try clear BK956)
                      (try clear BK981)
                      (try clear HB)
                      generalize ((w55.setCell ⟨gb981, 0, none⟩ (.int .u64 t978)).setCell ⟨gb981, 1, none⟩ (.int .u64 t979)) = w58 at n0_ n1_ n2_ n3_ n4_ n5_ ⊢
                      have BK945 := n0_
                      have BK949 := n1_
                      have BK953 := n2_
                      have BK956 := n3_
                      have BK981 := n4_
                      have HB := n5_
                      clear n0_ n1_ n2_ n3_ n4_ n5_
                      have n0_ := Aside0.mk (blk_drew BK945.out)
                      have n1_ := Aside0.mk (blk_drew BK949.out)
                      have n2_ := Aside0.mk (blk_drew BK953.out)
                      have n3_ := Aside0.mk (blk_drew BK956.out)
                      have n4_ := Aside0.mk (blk_drew BK981.out)
                      have n5_ := Aside0.mk (below_drew1 HB.out)
                      clear BK945
                      clear BK949
                      clear BK953
                      clear BK956
                      clear BK981
                      clear HB
                      have BK945 := n0_
                      have BK949 := n1_
                      have BK953 := n2_
                      have BK956 := n3_
                      have BK981 := n4_
                      have HB := n5_
                      clear n0_ n1_ n2_ n3_ n4_ n5_
                      have p984 : 0 ≤ (x10_1 : Int) := of_decide_eq_true (by first | (with_reducible assumption) | assumption)
                      have q984 : x10_1 < (l0.length : Int) := of_decide_eq_true (by first | (with_reducible assumption) | assumption)
                      obtain ⟨ad984, e984, hx984_0, hx984_1⟩ := at_T25 HR0.out x10_1 p984 q984
                      have hw984_1 := hx984_1
                      have hw984_0 := hx984_0
                      obtain rfl : ad977 = ad984 := (by injection e984)
                      replace hx984_0 := (HB.out.cell (World.block_lt_of_cell? w _ hx984_0)).trans hx984_0
                      replace hx984_1 := (HB.out.cell (World.block_lt_of_cell? w _ hx984_1)).trans hx984_1
                      replace p984 := eq_true p984
                      replace q984 := eq_true q984
                      refine start_ (n := 12) (S := fun w' => w'.cell? (ad977.add ((x10_1).toNat * 2)) = some (.int .u64 ((rd_T25 l0 x10_1).f0)) ∧ w'.cell? ⟨(ad977.add ((x10_1).toNat * 2)).block, (ad977.add ((x10_1).toNat * 2)).off + 1, none⟩ = some (.int .u64 ((rd_T25 l0 x10_1).f1))) (ds := []) #[false, false, false, false, false, false, false, false, false, false, false, false] (by kernel_rfl) rfl rfl ⟨((HB.out.cell (World.block_lt_of_cell? w _ hw984_0)).trans hw984_0), ((HB.out.cell (World.block_lt_of_cell? w _ hw984_1)).trans hw984_1)⟩ (fun hHeld => ?_); refine with_tabW paymasterlaw03_WideNarrow.tab17 paymasterlaw03_WideNarrow.bits17 (fun HT_ HW_ => ?_)
                      generalize w58.drew = w59 at BK945 BK949 BK953 BK956 BK981 HB hx984_0 hx984_1 hHeld ⊢
                      refine pure_ (i := 1) (N := some 67) (v := ?_) (a' := ?_) #[false, true, false, false, false, false, false, false, false, false, false, false] rfl rfl (any_of HT_.out (by kernel_rfl)) (fun _ _ _ h => h) (Or.inl ⟨by rfl, ?_⟩) ?_ ?_
                      rotate_left
                      · intro w'
                        go_simp
                        with_reducible rfl
                      rotate_left
                      · simp only [Act.put, List.setIfInBounds_toArray, List.set_cons_zero, List.set_cons_succ, i64_w, i32_w]
                        rfl
                      refine pure_ (i := 2) (N := some 68) (v := ?_) (a' := ?_) #[false, true, true, false, false, false, false, false, false, false, false, false] rfl rfl (any_of HT_.out (by kernel_rfl)) (fun _ _ _ h => h) (Or.inl ⟨by rfl, ?_⟩) ?_ ?_
                      rotate_left
                      · intro w'
                        go_simp
                        with_reducible rfl
                      rotate_left
                      · simp only [Act.put, List.setIfInBounds_toArray, List.set_cons_zero, List.set_cons_succ, i64_w, i32_w]
                        rfl
                      refine pure_ (i := 3) (N := some 69) (v := ?_) (a' := ?_) #[false, true, true, true, false, false, false, false, false, false, false, false] rfl rfl (any_of HT_.out (by kernel_rfl)) (fun _ _ _ h => h) (Or.inl ⟨by rfl, ?_⟩) ?_ ?_
                      rotate_left
                      · intro w'
                        go_simp
                        with_reducible rfl
                      rotate_left
                      · simp only [Act.put, List.setIfInBounds_toArray, List.set_cons_zero, List.set_cons_succ, i64_w, i32_w]
                        rfl
                      refine take_ (i := 4) (N := some 70) (v := ?_) (a' := ?_) #[false, true, true, true, true, false, false, false, false, false, false, false] rfl rfl (take_ofW HT_.out HW_.out (by kernel_rfl)) (fun _ _ _ h => h) (Or.inl ⟨by rfl, ?_⟩) hHeld ?_ ?_
                      rotate_left
                      · rintro w' ⟨s0, s1⟩
                        go_simp
                        with_reducible rfl
                      rotate_left
                      · simp only [Act.put, List.setIfInBounds_toArray, List.set_cons_zero, List.set_cons_succ, i64_w, i32_w]
                        rfl
                      refine join_ (σ := Nat) 2 #[true, true, true, true, true, true, true, true, true, true, false, false] (fun s_ => [(66, .agg #[.int .u64 t982, .int .u64 t983]), (71, .tuple #[.agg #[.int .u64 t985, .int .u64 t986], .int .i64 t987]), (13, .pointer (some ⟨s_, 0, none⟩)), (65, .tuple #[.agg #[.int .u64 t985, .int .u64 t986], .int .i64 t987]), (72, .agg #[.int .u64 t985, .int .u64 t986]), (73, .int .i64 t987)]) (fun s_ w' => (w'.cell? (ad977.add ((x10_1).toNat * 2)) = some (.int .u64 ((rd_T25 l0 x10_1).f0)) ∧ w'.cell? ⟨(ad977.add ((x10_1).toNat * 2)).block, (ad977.add ((x10_1).toNat * 2)).off + 1, none⟩ = some (.int .u64 ((rd_T25 l0 x10_1).f1))) ∧ (w'.heap[gb945]? = some (.cells #[.int .u64 t942, .int .u64 t943, .int .u64 t944] 27 (0, 0))) ∧ (w'.heap[gb949]? = some (.cells #[.int .u64 t946, .int .u64 t947] 25 (0, 0))) ∧ (w'.heap[gb953]? = some (.cells #[.int .u64 t950, .int .u64 t951] 25 (0, 0))) ∧ (w'.heap[gb956]? = some (.cells #[.int .u64 x957000_1, .int .u64 x957001_1] 25 (0, 0))) ∧ (w'.heap[gb981]? = some (.cells #[.int .u64 t978, .int .u64 t979] 25 (0, 0))) ∧ (w'.heap[s_]? = some (.cells #[.int .u64 0, .int .u64 0] 25 (0, 0))) ∧ (w.heap.size ≤ s_) ∧ (w.heap.size ≤ s_) ∧ (gb945 ≠ s_) ∧ (s_ ≠ gb945) ∧ (gb949 ≠ s_) ∧ (s_ ≠ gb949) ∧ (gb953 ≠ s_) ∧ (s_ ≠ gb953) ∧ (gb956 ≠ s_) ∧ (s_ ≠ gb956) ∧ (gb981 ≠ s_) ∧ (s_ ≠ gb981) ∧ (Below w.heap.size w w')) ?_ ?_
                      rotate_left
                      · intro hCont
                        refine two_ (i := 0) (j := 9) (Ni := some 66) (Nj := some 13) #[true, true, true, true, true, false, false, false, false, false, false, false] #[false, true, true, true, true, false, false, false, false, true, false, false] rfl rfl rfl rfl (two_of HT_.out (by kernel_rfl)) (by decide) (by decide) (fun K hK => ?_) (fun K hK => ?_)
                        · skip
                          refine goes_ Try.func53 (by kernel_rfl) rfl #[] (by rfl) rfl rfl (by (try simp only [List.map_toArray, List.map_cons, List.map_nil]); first | done | rfl | (simp only [List.length_drop, List.length_take]; rfl)) ?_
                          with_reducible refine (u128_Most.calls  t982 t983 _ A47.out).mono ?_
                          rintro e w60 ⟨rfl, hb⟩
                          refine ⟨_, rfl, ?_⟩
                          have n0_ := Aside0.mk (blk_below (g := gb945) (o := .cells #[.int .u64 t942, .int .u64 t943, .int .u64 t944] 27 (0, 0)) (by (with_reducible repeat (first | refine blk_drewN ?_ _ | refine blk_drew ?_ | refine blk_alloc ?_ _)); exact BK945.out) hb)
                          have n1_ := Aside0.mk (blk_below (g := gb949) (o := .cells #[.int .u64 t946, .int .u64 t947] 25 (0, 0)) (by (with_reducible repeat (first | refine blk_drewN ?_ _ | refine blk_drew ?_ | refine blk_alloc ?_ _)); exact BK949.out) hb)
                          have n2_ := Aside0.mk (blk_below (g := gb953) (o := .cells #[.int .u64 t950, .int .u64 t951] 25 (0, 0)) (by (with_reducible repeat (first | refine blk_drewN ?_ _ | refine blk_drew ?_ | refine blk_alloc ?_ _)); exact BK953.out) hb)
                          have n3_ := Aside0.mk (blk_below (g := gb956) (o := .cells #[.int .u64 x957000_1, .int .u64 x957001_1] 25 (0, 0)) (by (with_reducible repeat (first | refine blk_drewN ?_ _ | refine blk_drew ?_ | refine blk_alloc ?_ _)); exact BK956.out) hb)
                          have n4_ := Aside0.mk (blk_below (g := gb981) (o := .cells #[.int .u64 t978, .int .u64 t979] 25 (0, 0)) (by (with_reducible repeat (first | refine blk_drewN ?_ _ | refine blk_drew ?_ | refine blk_alloc ?_ _)); exact BK981.out) hb)
                          have n5_ := Aside0.mk (below_step (by repeat (first | (with_reducible first | exact HB.out | apply below_alloc | apply pw_below_drewN | apply below_drew1 | refine below_set ?_ GE945.out | refine below_set ?_ GE949.out | refine below_set ?_ GE953.out | refine below_set ?_ GE956.out | refine below_set ?_ GE981.out) | exact HB.out)) hb)
                          clear BK945
                          clear BK949
                          clear BK953
                          clear BK956
                          clear BK981
                          clear HB
                          have BK945 := n0_
                          have BK949 := n1_
                          have BK953 := n2_
                          have BK956 := n3_
                          have BK981 := n4_
                          have HB := n5_
                          clear n0_ n1_ n2_ n3_ n4_ n5_
                          (try clear hb)
                          (try clear hb2)
                          (try clear hk)
                          (try clear hi)
                          refine hK.out _ _ ⟨((HB.out.cell (World.block_lt_of_cell? w _ hw984_0)).trans hw984_0), ((HB.out.cell (World.block_lt_of_cell? w _ hw984_1)).trans hw984_1)⟩ (fun hHeld => ?_)
                          clear hK K
                          refine norm_ (a' := ?_) ?_ ?_
                          rotate_left
                          · show Act.put _ (some 66) _ = _
                            simp only [Act.put, List.setIfInBounds_toArray, List.set_cons_zero, List.set_cons_succ, i64_w, i32_w]
                            rfl
                          refine two_ (i := 5) (j := 9) (Ni := some 71) (Nj := some 13) #[true, true, true, true, true, true, false, false, false, false, false, false] #[true, true, true, true, true, false, false, false, false, true, false, false] rfl rfl rfl rfl (two_of HT_.out (by kernel_rfl)) (by decide) (by decide) (fun K hK => ?_) (fun K hK => ?_)
                          · skip
                            refine goes_ Try.func47 (by kernel_rfl) rfl #[.agg #[.int .u64 t982, .int .u64 t983], .agg #[.int .u64 ((rd_T25 l0 x10_1).f0), .int .u64 ((rd_T25 l0 x10_1).f1)]] (by rfl) rfl rfl (by (try simp only [List.map_toArray, List.map_cons, List.map_nil]); first | done | rfl | (simp only [List.length_drop, List.length_take]; rfl)) ?_
                            with_reducible refine (u128_Sub.calls t982 t983 ((rd_T25 l0 x10_1).f0) ((rd_T25 l0 x10_1).f1) t985 t986 t987 _ A48.out).mono ?_
                            rintro e w61 ⟨rfl, hb⟩
                            refine ⟨_, rfl, ?_⟩
                            have n0_ := Aside0.mk (blk_below (g := gb945) (o := .cells #[.int .u64 t942, .int .u64 t943, .int .u64 t944] 27 (0, 0)) (by (with_reducible repeat (first | refine blk_drewN ?_ _ | refine blk_drew ?_ | refine blk_alloc ?_ _)); exact BK945.out) hb)
                            have n1_ := Aside0.mk (blk_below (g := gb949) (o := .cells #[.int .u64 t946, .int .u64 t947] 25 (0, 0)) (by (with_reducible repeat (first | refine blk_drewN ?_ _ | refine blk_drew ?_ | refine blk_alloc ?_ _)); exact BK949.out) hb)
                            have n2_ := Aside0.mk (blk_below (g := gb953) (o := .cells #[.int .u64 t950, .int .u64 t951] 25 (0, 0)) (by (with_reducible repeat (first | refine blk_drewN ?_ _ | refine blk_drew ?_ | refine blk_alloc ?_ _)); exact BK953.out) hb)
                            have n3_ := Aside0.mk (blk_below (g := gb956) (o := .cells #[.int .u64 x957000_1, .int .u64 x957001_1] 25 (0, 0)) (by (with_reducible repeat (first | refine blk_drewN ?_ _ | refine blk_drew ?_ | refine blk_alloc ?_ _)); exact BK956.out) hb)
                            have n4_ := Aside0.mk (blk_below (g := gb981) (o := .cells #[.int .u64 t978, .int .u64 t979] 25 (0, 0)) (by (with_reducible repeat (first | refine blk_drewN ?_ _ | refine blk_drew ?_ | refine blk_alloc ?_ _)); exact BK981.out) hb)
                            have n5_ := Aside0.mk (below_step (by repeat (first | (with_reducible first | exact HB.out | apply below_alloc | apply pw_below_drewN | apply below_drew1 | refine below_set ?_ GE945.out | refine below_set ?_ GE949.out | refine below_set ?_ GE953.out | refine below_set ?_ GE956.out | refine below_set ?_ GE981.out) | exact HB.out)) hb)
                            clear BK945
                            clear BK949
                            clear BK953
                            clear BK956
                            clear BK981
                            clear HB
                            have BK945 := n0_
                            have BK949 := n1_
                            have BK953 := n2_
                            have BK956 := n3_
                            have BK981 := n4_
                            have HB := n5_
                            clear n0_ n1_ n2_ n3_ n4_ n5_
                            (try clear hb)
                            (try clear hb2)
                            (try clear hk)
                            (try clear hi)
                            refine hK.out _ _ ⟨((HB.out.cell (World.block_lt_of_cell? w _ hw984_0)).trans hw984_0), ((HB.out.cell (World.block_lt_of_cell? w _ hw984_1)).trans hw984_1)⟩ (fun hHeld => ?_)
                            clear hK K
                            refine norm_ (a' := ?_) ?_ ?_
                            rotate_left
                            · show Act.put _ (some 71) _ = _
                              simp only [Act.put, List.setIfInBounds_toArray, List.set_cons_zero, List.set_cons_succ, i64_w, i32_w]
                              rfl
                            refine pure_ (i := 6) (N := some 65) (v := ?_) (a' := ?_) #[true, true, true, true, true, true, true, false, false, false, false, false] rfl rfl (any_of HT_.out (by kernel_rfl)) (fun _ _ _ h => h) (Or.inl ⟨by rfl, ?_⟩) ?_ ?_
                            rotate_left
                            · intro w'
                              go_simp
                              with_reducible rfl
                            rotate_left
                            · simp only [Act.put, List.setIfInBounds_toArray, List.set_cons_zero, List.set_cons_succ, i64_w, i32_w]
                              rfl
                            refine pure_ (i := 7) (N := some 72) (v := ?_) (a' := ?_) #[true, true, true, true, true, true, true, true, false, false, false, false] rfl rfl (any_of HT_.out (by kernel_rfl)) (fun _ _ _ h => h) (Or.inl ⟨by rfl, ?_⟩) ?_ ?_
                            rotate_left
                            · intro w'
                              go_simp
                              with_reducible rfl
                            rotate_left
                            · simp only [Act.put, List.setIfInBounds_toArray, List.set_cons_zero, List.set_cons_succ, i64_w, i32_w]
                              rfl
                            refine pure_ (i := 8) (N := some 73) (v := ?_) (a' := ?_) #[true, true, true, true, true, true, true, true, true, false, false, false] rfl rfl (any_of HT_.out (by kernel_rfl)) (fun _ _ _ h => h) (Or.inl ⟨by rfl, ?_⟩) ?_ ?_
                            rotate_left
                            · intro w'
                              go_simp
                              with_reducible rfl
                            rotate_left
                            · simp only [Act.put, List.setIfInBounds_toArray, List.set_cons_zero, List.set_cons_succ, i64_w, i32_w]
                              rfl
                            refine one_ (i := 9) (N := some 13) #[true, true, true, true, true, true, true, true, true, true, false, false] rfl rfl (one_of HT_.out (by kernel_rfl)) (by decide) (fun K hK => ?_)
                            refine box_step ?hg (N := 13) ?hd (cs := #[.int .u64 0, .int .u64 0]) (t := 25) ?hr ?_; (case hd => rfl); (case hg => rfl); (case hr => first | (go_simp; done) | (go_simp; rfl))
                            intro gb988 hg w62 hbox hb
                            have n0_ := Aside0.mk (blk_below (g := gb945) (o := .cells #[.int .u64 t942, .int .u64 t943, .int .u64 t944] 27 (0, 0)) (by (with_reducible repeat (first | refine blk_drewN ?_ _ | refine blk_drew ?_ | refine blk_alloc ?_ _)); exact BK945.out) hb)
                            have n1_ := Aside0.mk (blk_below (g := gb949) (o := .cells #[.int .u64 t946, .int .u64 t947] 25 (0, 0)) (by (with_reducible repeat (first | refine blk_drewN ?_ _ | refine blk_drew ?_ | refine blk_alloc ?_ _)); exact BK949.out) hb)
                            have n2_ := Aside0.mk (blk_below (g := gb953) (o := .cells #[.int .u64 t950, .int .u64 t951] 25 (0, 0)) (by (with_reducible repeat (first | refine blk_drewN ?_ _ | refine blk_drew ?_ | refine blk_alloc ?_ _)); exact BK953.out) hb)
                            have n3_ := Aside0.mk (blk_below (g := gb956) (o := .cells #[.int .u64 x957000_1, .int .u64 x957001_1] 25 (0, 0)) (by (with_reducible repeat (first | refine blk_drewN ?_ _ | refine blk_drew ?_ | refine blk_alloc ?_ _)); exact BK956.out) hb)
                            have n4_ := Aside0.mk (blk_below (g := gb981) (o := .cells #[.int .u64 t978, .int .u64 t979] 25 (0, 0)) (by (with_reducible repeat (first | refine blk_drewN ?_ _ | refine blk_drew ?_ | refine blk_alloc ?_ _)); exact BK981.out) hb)
                            have n5_ := Aside0.mk (below_step (by repeat (first | (with_reducible first | exact HB.out | apply below_alloc | apply pw_below_drewN | apply below_drew1 | refine below_set ?_ GE945.out | refine below_set ?_ GE949.out | refine below_set ?_ GE953.out | refine below_set ?_ GE956.out | refine below_set ?_ GE981.out) | exact HB.out)) hb)
                            have n6_ := Aside0.mk (hbox)
                            have n7_ := Aside0.mk ((by rw [hg]; exact (below_size (by repeat (first | (with_reducible first | exact HB.out | apply below_alloc | apply pw_below_drewN | apply below_drew1 | refine below_set ?_ GE945.out | refine below_set ?_ GE949.out | refine below_set ?_ GE953.out | refine below_set ?_ GE956.out | refine below_set ?_ GE981.out) | exact HB.out))) : w.heap.size ≤ gb988))
                            have n8_ := Aside0.mk ((by rw [hg]; exact (below_size (by repeat (first | (with_reducible first | exact HB.out | apply below_alloc | apply pw_below_drewN | apply below_drew1 | refine below_set ?_ GE945.out | refine below_set ?_ GE949.out | refine below_set ?_ GE953.out | refine below_set ?_ GE956.out | refine below_set ?_ GE981.out) | exact HB.out))) : w.heap.size ≤ gb988))
                            have n9_ := Aside0.mk ((by rw [hg]; exact Nat.ne_of_lt (blk_lt (g := gb945) (o := .cells #[.int .u64 t942, .int .u64 t943, .int .u64 t944] 27 (0, 0)) (by (with_reducible repeat (first | refine blk_drewN ?_ _ | refine blk_drew ?_ | refine blk_alloc ?_ _)); exact BK945.out)) : gb945 ≠ gb988))
                            have n10_ := Aside0.mk ((by rw [hg]; exact Nat.ne_of_gt (blk_lt (g := gb945) (o := .cells #[.int .u64 t942, .int .u64 t943, .int .u64 t944] 27 (0, 0)) (by (with_reducible repeat (first | refine blk_drewN ?_ _ | refine blk_drew ?_ | refine blk_alloc ?_ _)); exact BK945.out)) : gb988 ≠ gb945))
                            have n11_ := Aside0.mk ((by rw [hg]; exact Nat.ne_of_lt (blk_lt (g := gb949) (o := .cells #[.int .u64 t946, .int .u64 t947] 25 (0, 0)) (by (with_reducible repeat (first | refine blk_drewN ?_ _ | refine blk_drew ?_ | refine blk_alloc ?_ _)); exact BK949.out)) : gb949 ≠ gb988))
                            have n12_ := Aside0.mk ((by rw [hg]; exact Nat.ne_of_gt (blk_lt (g := gb949) (o := .cells #[.int .u64 t946, .int .u64 t947] 25 (0, 0)) (by (with_reducible repeat (first | refine blk_drewN ?_ _ | refine blk_drew ?_ | refine blk_alloc ?_ _)); exact BK949.out)) : gb988 ≠ gb949))
                            have n13_ := Aside0.mk ((by rw [hg]; exact Nat.ne_of_lt (blk_lt (g := gb953) (o := .cells #[.int .u64 t950, .int .u64 t951] 25 (0, 0)) (by (with_reducible repeat (first | refine blk_drewN ?_ _ | refine blk_drew ?_ | refine blk_alloc ?_ _)); exact BK953.out)) : gb953 ≠ gb988))
                            have n14_ := Aside0.mk ((by rw [hg]; exact Nat.ne_of_gt (blk_lt (g := gb953) (o := .cells #[.int .u64 t950, .int .u64 t951] 25 (0, 0)) (by (with_reducible repeat (first | refine blk_drewN ?_ _ | refine blk_drew ?_ | refine blk_alloc ?_ _)); exact BK953.out)) : gb988 ≠ gb953))
                            have n15_ := Aside0.mk ((by rw [hg]; exact Nat.ne_of_lt (blk_lt (g := gb956) (o := .cells #[.int .u64 x957000_1, .int .u64 x957001_1] 25 (0, 0)) (by (with_reducible repeat (first | refine blk_drewN ?_ _ | refine blk_drew ?_ | refine blk_alloc ?_ _)); exact BK956.out)) : gb956 ≠ gb988))
                            have n16_ := Aside0.mk ((by rw [hg]; exact Nat.ne_of_gt (blk_lt (g := gb956) (o := .cells #[.int .u64 x957000_1, .int .u64 x957001_1] 25 (0, 0)) (by (with_reducible repeat (first | refine blk_drewN ?_ _ | refine blk_drew ?_ | refine blk_alloc ?_ _)); exact BK956.out)) : gb988 ≠ gb956))
                            have n17_ := Aside0.mk ((by rw [hg]; exact Nat.ne_of_lt (blk_lt (g := gb981) (o := .cells #[.int .u64 t978, .int .u64 t979] 25 (0, 0)) (by (with_reducible repeat (first | refine blk_drewN ?_ _ | refine blk_drew ?_ | refine blk_alloc ?_ _)); exact BK981.out)) : gb981 ≠ gb988))
                            have n18_ := Aside0.mk ((by rw [hg]; exact Nat.ne_of_gt (blk_lt (g := gb981) (o := .cells #[.int .u64 t978, .int .u64 t979] 25 (0, 0)) (by (with_reducible repeat (first | refine blk_drewN ?_ _ | refine blk_drew ?_ | refine blk_alloc ?_ _)); exact BK981.out)) : gb988 ≠ gb981))
                            clear BK945
                            clear BK949
                            clear BK953
                            clear BK956
                            clear BK981
                            clear HB
                            have BK945 := n0_
                            have BK949 := n1_
                            have BK953 := n2_
                            have BK956 := n3_
                            have BK981 := n4_
                            have HB := n5_
                            have BK988 := n6_
                            have GW988 := n7_
                            have GE988 := n8_
                            have NB945_988 := n9_
                            have NB988_945 := n10_
                            have NB949_988 := n11_
                            have NB988_949 := n12_
                            have NB953_988 := n13_
                            have NB988_953 := n14_
                            have NB956_988 := n15_
                            have NB988_956 := n16_
                            have NB981_988 := n17_
                            have NB988_981 := n18_
                            clear n0_ n1_ n2_ n3_ n4_ n5_ n6_ n7_ n8_ n9_ n10_ n11_ n12_ n13_ n14_ n15_ n16_ n17_ n18_
                            clear hb hbox hg
                            refine hK.out _ _ ⟨((HB.out.cell (World.block_lt_of_cell? w _ hw984_0)).trans hw984_0), ((HB.out.cell (World.block_lt_of_cell? w _ hw984_1)).trans hw984_1)⟩ (fun hHeld => ?_)
                            clear hK K
                            refine norm_ (a' := ?_) ?_ ?_
                            rotate_left
                            · show Act.put _ (some 13) _ = _
                              simp only [Act.put, List.setIfInBounds_toArray, List.set_cons_zero, List.set_cons_succ, i64_w, i32_w]
                              rfl
                            exact norm_ (by simp only [putAll, Act.put, List.setIfInBounds_toArray, List.set_cons_zero, List.set_cons_succ]) (hCont (gb988) _ ⟨hHeld, (by (with_reducible repeat (first | refine blk_drewN ?_ _ | refine blk_drew ?_ | refine blk_alloc ?_ _)); exact BK945.out), (by (with_reducible repeat (first | refine blk_drewN ?_ _ | refine blk_drew ?_ | refine blk_alloc ?_ _)); exact BK949.out), (by (with_reducible repeat (first | refine blk_drewN ?_ _ | refine blk_drew ?_ | refine blk_alloc ?_ _)); exact BK953.out), (by (with_reducible repeat (first | refine blk_drewN ?_ _ | refine blk_drew ?_ | refine blk_alloc ?_ _)); exact BK956.out), (by (with_reducible repeat (first | refine blk_drewN ?_ _ | refine blk_drew ?_ | refine blk_alloc ?_ _)); exact BK981.out), (by (with_reducible repeat (first | refine blk_drewN ?_ _ | refine blk_drew ?_ | refine blk_alloc ?_ _)); exact BK988.out), GW988.out, GE988.out, NB945_988.out, NB988_945.out, NB949_988.out, NB988_949.out, NB953_988.out, NB988_953.out, NB956_988.out, NB988_956.out, NB981_988.out, NB988_981.out, (by repeat (first | (with_reducible first | exact HB.out | apply below_alloc | apply pw_below_drewN | apply below_drew1 | refine below_set ?_ GE945.out | refine below_set ?_ GE949.out | refine below_set ?_ GE953.out | refine below_set ?_ GE956.out | refine below_set ?_ GE981.out | refine below_set ?_ GE988.out) | exact HB.out))⟩)
                          · skip
                            refine box_step ?hg (N := 13) ?hd (cs := #[.int .u64 0, .int .u64 0]) (t := 25) ?hr ?_; (case hd => rfl); (case hg => rfl); (case hr => first | (go_simp; done) | (go_simp; rfl))
                            intro gb988 hg w61 hbox hb
                            have n0_ := Aside0.mk (blk_below (g := gb945) (o := .cells #[.int .u64 t942, .int .u64 t943, .int .u64 t944] 27 (0, 0)) (by (with_reducible repeat (first | refine blk_drewN ?_ _ | refine blk_drew ?_ | refine blk_alloc ?_ _)); exact BK945.out) hb)
                            have n1_ := Aside0.mk (blk_below (g := gb949) (o := .cells #[.int .u64 t946, .int .u64 t947] 25 (0, 0)) (by (with_reducible repeat (first | refine blk_drewN ?_ _ | refine blk_drew ?_ | refine blk_alloc ?_ _)); exact BK949.out) hb)
                            have n2_ := Aside0.mk (blk_below (g := gb953) (o := .cells #[.int .u64 t950, .int .u64 t951] 25 (0, 0)) (by (with_reducible repeat (first | refine blk_drewN ?_ _ | refine blk_drew ?_ | refine blk_alloc ?_ _)); exact BK953.out) hb)
                            have n3_ := Aside0.mk (blk_below (g := gb956) (o := .cells #[.int .u64 x957000_1, .int .u64 x957001_1] 25 (0, 0)) (by (with_reducible repeat (first | refine blk_drewN ?_ _ | refine blk_drew ?_ | refine blk_alloc ?_ _)); exact BK956.out) hb)
                            have n4_ := Aside0.mk (blk_below (g := gb981) (o := .cells #[.int .u64 t978, .int .u64 t979] 25 (0, 0)) (by (with_reducible repeat (first | refine blk_drewN ?_ _ | refine blk_drew ?_ | refine blk_alloc ?_ _)); exact BK981.out) hb)
                            have n5_ := Aside0.mk (below_step (by repeat (first | (with_reducible first | exact HB.out | apply below_alloc | apply pw_below_drewN | apply below_drew1 | refine below_set ?_ GE945.out | refine below_set ?_ GE949.out | refine below_set ?_ GE953.out | refine below_set ?_ GE956.out | refine below_set ?_ GE981.out) | exact HB.out)) hb)
                            have n6_ := Aside0.mk (hbox)
                            have n7_ := Aside0.mk ((by rw [hg]; exact (below_size (by repeat (first | (with_reducible first | exact HB.out | apply below_alloc | apply pw_below_drewN | apply below_drew1 | refine below_set ?_ GE945.out | refine below_set ?_ GE949.out | refine below_set ?_ GE953.out | refine below_set ?_ GE956.out | refine below_set ?_ GE981.out) | exact HB.out))) : w.heap.size ≤ gb988))
                            have n8_ := Aside0.mk ((by rw [hg]; exact (below_size (by repeat (first | (with_reducible first | exact HB.out | apply below_alloc | apply pw_below_drewN | apply below_drew1 | refine below_set ?_ GE945.out | refine below_set ?_ GE949.out | refine below_set ?_ GE953.out | refine below_set ?_ GE956.out | refine below_set ?_ GE981.out) | exact HB.out))) : w.heap.size ≤ gb988))
                            have n9_ := Aside0.mk ((by rw [hg]; exact Nat.ne_of_lt (blk_lt (g := gb945) (o := .cells #[.int .u64 t942, .int .u64 t943, .int .u64 t944] 27 (0, 0)) (by (with_reducible repeat (first | refine blk_drewN ?_ _ | refine blk_drew ?_ | refine blk_alloc ?_ _)); exact BK945.out)) : gb945 ≠ gb988))
                            have n10_ := Aside0.mk ((by rw [hg]; exact Nat.ne_of_gt (blk_lt (g := gb945) (o := .cells #[.int .u64 t942, .int .u64 t943, .int .u64 t944] 27 (0, 0)) (by (with_reducible repeat (first | refine blk_drewN ?_ _ | refine blk_drew ?_ | refine blk_alloc ?_ _)); exact BK945.out)) : gb988 ≠ gb945))
                            have n11_ := Aside0.mk ((by rw [hg]; exact Nat.ne_of_lt (blk_lt (g := gb949) (o := .cells #[.int .u64 t946, .int .u64 t947] 25 (0, 0)) (by (with_reducible repeat (first | refine blk_drewN ?_ _ | refine blk_drew ?_ | refine blk_alloc ?_ _)); exact BK949.out)) : gb949 ≠ gb988))
                            have n12_ := Aside0.mk ((by rw [hg]; exact Nat.ne_of_gt (blk_lt (g := gb949) (o := .cells #[.int .u64 t946, .int .u64 t947] 25 (0, 0)) (by (with_reducible repeat (first | refine blk_drewN ?_ _ | refine blk_drew ?_ | refine blk_alloc ?_ _)); exact BK949.out)) : gb988 ≠ gb949))
                            have n13_ := Aside0.mk ((by rw [hg]; exact Nat.ne_of_lt (blk_lt (g := gb953) (o := .cells #[.int .u64 t950, .int .u64 t951] 25 (0, 0)) (by (with_reducible repeat (first | refine blk_drewN ?_ _ | refine blk_drew ?_ | refine blk_alloc ?_ _)); exact BK953.out)) : gb953 ≠ gb988))
                            have n14_ := Aside0.mk ((by rw [hg]; exact Nat.ne_of_gt (blk_lt (g := gb953) (o := .cells #[.int .u64 t950, .int .u64 t951] 25 (0, 0)) (by (with_reducible repeat (first | refine blk_drewN ?_ _ | refine blk_drew ?_ | refine blk_alloc ?_ _)); exact BK953.out)) : gb988 ≠ gb953))
                            have n15_ := Aside0.mk ((by rw [hg]; exact Nat.ne_of_lt (blk_lt (g := gb956) (o := .cells #[.int .u64 x957000_1, .int .u64 x957001_1] 25 (0, 0)) (by (with_reducible repeat (first | refine blk_drewN ?_ _ | refine blk_drew ?_ | refine blk_alloc ?_ _)); exact BK956.out)) : gb956 ≠ gb988))
                            have n16_ := Aside0.mk ((by rw [hg]; exact Nat.ne_of_gt (blk_lt (g := gb956) (o := .cells #[.int .u64 x957000_1, .int .u64 x957001_1] 25 (0, 0)) (by (with_reducible repeat (first | refine blk_drewN ?_ _ | refine blk_drew ?_ | refine blk_alloc ?_ _)); exact BK956.out)) : gb988 ≠ gb956))
                            have n17_ := Aside0.mk ((by rw [hg]; exact Nat.ne_of_lt (blk_lt (g := gb981) (o := .cells #[.int .u64 t978, .int .u64 t979] 25 (0, 0)) (by (with_reducible repeat (first | refine blk_drewN ?_ _ | refine blk_drew ?_ | refine blk_alloc ?_ _)); exact BK981.out)) : gb981 ≠ gb988))
                            have n18_ := Aside0.mk ((by rw [hg]; exact Nat.ne_of_gt (blk_lt (g := gb981) (o := .cells #[.int .u64 t978, .int .u64 t979] 25 (0, 0)) (by (with_reducible repeat (first | refine blk_drewN ?_ _ | refine blk_drew ?_ | refine blk_alloc ?_ _)); exact BK981.out)) : gb988 ≠ gb981))
                            clear BK945
                            clear BK949
                            clear BK953
                            clear BK956
                            clear BK981
                            clear HB
                            have BK945 := n0_
                            have BK949 := n1_
                            have BK953 := n2_
                            have BK956 := n3_
                            have BK981 := n4_
                            have HB := n5_
                            have BK988 := n6_
                            have GW988 := n7_
                            have GE988 := n8_
                            have NB945_988 := n9_
                            have NB988_945 := n10_
                            have NB949_988 := n11_
                            have NB988_949 := n12_
                            have NB953_988 := n13_
                            have NB988_953 := n14_
                            have NB956_988 := n15_
                            have NB988_956 := n16_
                            have NB981_988 := n17_
                            have NB988_981 := n18_
                            clear n0_ n1_ n2_ n3_ n4_ n5_ n6_ n7_ n8_ n9_ n10_ n11_ n12_ n13_ n14_ n15_ n16_ n17_ n18_
                            clear hb hbox hg
                            refine hK.out _ _ ⟨((HB.out.cell (World.block_lt_of_cell? w _ hw984_0)).trans hw984_0), ((HB.out.cell (World.block_lt_of_cell? w _ hw984_1)).trans hw984_1)⟩ (fun hHeld => ?_)
                            clear hK K
                            refine norm_ (a' := ?_) ?_ ?_
                            rotate_left
                            · show Act.put _ (some 13) _ = _
                              simp only [Act.put, List.setIfInBounds_toArray, List.set_cons_zero, List.set_cons_succ, i64_w, i32_w]
                              rfl
                            refine one_ (i := 5) (N := some 71) #[true, true, true, true, true, true, false, false, false, true, false, false] rfl rfl (one_of HT_.out (by kernel_rfl)) (by decide) (fun K hK => ?_)
                            refine goes_ Try.func47 (by kernel_rfl) rfl #[.agg #[.int .u64 t982, .int .u64 t983], .agg #[.int .u64 ((rd_T25 l0 x10_1).f0), .int .u64 ((rd_T25 l0 x10_1).f1)]] (by rfl) rfl rfl (by (try simp only [List.map_toArray, List.map_cons, List.map_nil]); first | done | rfl | (simp only [List.length_drop, List.length_take]; rfl)) ?_
                            with_reducible refine (u128_Sub.calls t982 t983 ((rd_T25 l0 x10_1).f0) ((rd_T25 l0 x10_1).f1) t985 t986 t987 _ A48.out).mono ?_
                            rintro e w62 ⟨rfl, hb⟩
                            refine ⟨_, rfl, ?_⟩
                            have n0_ := Aside0.mk (blk_below (g := gb945) (o := .cells #[.int .u64 t942, .int .u64 t943, .int .u64 t944] 27 (0, 0)) (by (with_reducible repeat (first | refine blk_drewN ?_ _ | refine blk_drew ?_ | refine blk_alloc ?_ _)); exact BK945.out) hb)
                            have n1_ := Aside0.mk (blk_below (g := gb949) (o := .cells #[.int .u64 t946, .int .u64 t947] 25 (0, 0)) (by (with_reducible repeat (first | refine blk_drewN ?_ _ | refine blk_drew ?_ | refine blk_alloc ?_ _)); exact BK949.out) hb)
                            have n2_ := Aside0.mk (blk_below (g := gb953) (o := .cells #[.int .u64 t950, .int .u64 t951] 25 (0, 0)) (by (with_reducible repeat (first | refine blk_drewN ?_ _ | refine blk_drew ?_ | refine blk_alloc ?_ _)); exact BK953.out) hb)
                            have n3_ := Aside0.mk (blk_below (g := gb956) (o := .cells #[.int .u64 x957000_1, .int .u64 x957001_1] 25 (0, 0)) (by (with_reducible repeat (first | refine blk_drewN ?_ _ | refine blk_drew ?_ | refine blk_alloc ?_ _)); exact BK956.out) hb)
                            have n4_ := Aside0.mk (blk_below (g := gb981) (o := .cells #[.int .u64 t978, .int .u64 t979] 25 (0, 0)) (by (with_reducible repeat (first | refine blk_drewN ?_ _ | refine blk_drew ?_ | refine blk_alloc ?_ _)); exact BK981.out) hb)
                            have n5_ := Aside0.mk (blk_below (g := gb988) (o := .cells #[.int .u64 0, .int .u64 0] 25 (0, 0)) (by (with_reducible repeat (first | refine blk_drewN ?_ _ | refine blk_drew ?_ | refine blk_alloc ?_ _)); exact BK988.out) hb)
                            have n6_ := Aside0.mk (below_step (by repeat (first | (with_reducible first | exact HB.out | apply below_alloc | apply pw_below_drewN | apply below_drew1 | refine below_set ?_ GE945.out | refine below_set ?_ GE949.out | refine below_set ?_ GE953.out | refine below_set ?_ GE956.out | refine below_set ?_ GE981.out | refine below_set ?_ GE988.out) | exact HB.out)) hb)
                            clear BK945
                            clear BK949
                            clear BK953
                            clear BK956
                            clear BK981
                            clear BK988
                            clear HB
                            have BK945 := n0_
                            have BK949 := n1_
                            have BK953 := n2_
                            have BK956 := n3_
                            have BK981 := n4_
                            have BK988 := n5_
                            have HB := n6_
                            clear n0_ n1_ n2_ n3_ n4_ n5_ n6_
                            (try clear hb)
                            (try clear hb2)
                            (try clear hk)
                            (try clear hi)
                            refine hK.out _ _ ⟨((HB.out.cell (World.block_lt_of_cell? w _ hw984_0)).trans hw984_0), ((HB.out.cell (World.block_lt_of_cell? w _ hw984_1)).trans hw984_1)⟩ (fun hHeld => ?_)
                            clear hK K
                            refine norm_ (a' := ?_) ?_ ?_
                            rotate_left
                            · show Act.put _ (some 71) _ = _
                              simp only [Act.put, List.setIfInBounds_toArray, List.set_cons_zero, List.set_cons_succ, i64_w, i32_w]
                              rfl
                            refine pure_ (i := 6) (N := some 65) (v := ?_) (a' := ?_) #[true, true, true, true, true, true, true, false, false, true, false, false] rfl rfl (any_of HT_.out (by kernel_rfl)) (fun _ _ _ h => h) (Or.inl ⟨by rfl, ?_⟩) ?_ ?_
                            rotate_left
                            · intro w'
                              go_simp
                              with_reducible rfl
                            rotate_left
                            · simp only [Act.put, List.setIfInBounds_toArray, List.set_cons_zero, List.set_cons_succ, i64_w, i32_w]
                              rfl
                            refine pure_ (i := 7) (N := some 72) (v := ?_) (a' := ?_) #[true, true, true, true, true, true, true, true, false, true, false, false] rfl rfl (any_of HT_.out (by kernel_rfl)) (fun _ _ _ h => h) (Or.inl ⟨by rfl, ?_⟩) ?_ ?_
                            rotate_left
                            · intro w'
                              go_simp
                              with_reducible rfl
                            rotate_left
                            · simp only [Act.put, List.setIfInBounds_toArray, List.set_cons_zero, List.set_cons_succ, i64_w, i32_w]
                              rfl
                            refine pure_ (i := 8) (N := some 73) (v := ?_) (a' := ?_) #[true, true, true, true, true, true, true, true, true, true, false, false] rfl rfl (any_of HT_.out (by kernel_rfl)) (fun _ _ _ h => h) (Or.inl ⟨by rfl, ?_⟩) ?_ ?_
                            rotate_left
                            · intro w'
                              go_simp
                              with_reducible rfl
                            rotate_left
                            · simp only [Act.put, List.setIfInBounds_toArray, List.set_cons_zero, List.set_cons_succ, i64_w, i32_w]
                              rfl
                            exact norm_ (by simp only [putAll, Act.put, List.setIfInBounds_toArray, List.set_cons_zero, List.set_cons_succ]) (hCont (gb988) _ ⟨hHeld, (by (with_reducible repeat (first | refine blk_drewN ?_ _ | refine blk_drew ?_ | refine blk_alloc ?_ _)); exact BK945.out), (by (with_reducible repeat (first | refine blk_drewN ?_ _ | refine blk_drew ?_ | refine blk_alloc ?_ _)); exact BK949.out), (by (with_reducible repeat (first | refine blk_drewN ?_ _ | refine blk_drew ?_ | refine blk_alloc ?_ _)); exact BK953.out), (by (with_reducible repeat (first | refine blk_drewN ?_ _ | refine blk_drew ?_ | refine blk_alloc ?_ _)); exact BK956.out), (by (with_reducible repeat (first | refine blk_drewN ?_ _ | refine blk_drew ?_ | refine blk_alloc ?_ _)); exact BK981.out), (by (with_reducible repeat (first | refine blk_drewN ?_ _ | refine blk_drew ?_ | refine blk_alloc ?_ _)); exact BK988.out), GW988.out, GE988.out, NB945_988.out, NB988_945.out, NB949_988.out, NB988_949.out, NB953_988.out, NB988_953.out, NB956_988.out, NB988_956.out, NB981_988.out, NB988_981.out, (by repeat (first | (with_reducible first | exact HB.out | apply below_alloc | apply pw_below_drewN | apply below_drew1 | refine below_set ?_ GE945.out | refine below_set ?_ GE949.out | refine below_set ?_ GE953.out | refine below_set ?_ GE956.out | refine below_set ?_ GE981.out | refine below_set ?_ GE988.out) | exact HB.out))⟩)
                        · skip
                          refine box_step ?hg (N := 13) ?hd (cs := #[.int .u64 0, .int .u64 0]) (t := 25) ?hr ?_; (case hd => rfl); (case hg => rfl); (case hr => first | (go_simp; done) | (go_simp; rfl))
                          intro gb988 hg w60 hbox hb
                          have n0_ := Aside0.mk (blk_below (g := gb945) (o := .cells #[.int .u64 t942, .int .u64 t943, .int .u64 t944] 27 (0, 0)) (by (with_reducible repeat (first | refine blk_drewN ?_ _ | refine blk_drew ?_ | refine blk_alloc ?_ _)); exact BK945.out) hb)
                          have n1_ := Aside0.mk (blk_below (g := gb949) (o := .cells #[.int .u64 t946, .int .u64 t947] 25 (0, 0)) (by (with_reducible repeat (first | refine blk_drewN ?_ _ | refine blk_drew ?_ | refine blk_alloc ?_ _)); exact BK949.out) hb)
                          have n2_ := Aside0.mk (blk_below (g := gb953) (o := .cells #[.int .u64 t950, .int .u64 t951] 25 (0, 0)) (by (with_reducible repeat (first | refine blk_drewN ?_ _ | refine blk_drew ?_ | refine blk_alloc ?_ _)); exact BK953.out) hb)
                          have n3_ := Aside0.mk (blk_below (g := gb956) (o := .cells #[.int .u64 x957000_1, .int .u64 x957001_1] 25 (0, 0)) (by (with_reducible repeat (first | refine blk_drewN ?_ _ | refine blk_drew ?_ | refine blk_alloc ?_ _)); exact BK956.out) hb)
                          have n4_ := Aside0.mk (blk_below (g := gb981) (o := .cells #[.int .u64 t978, .int .u64 t979] 25 (0, 0)) (by (with_reducible repeat (first | refine blk_drewN ?_ _ | refine blk_drew ?_ | refine blk_alloc ?_ _)); exact BK981.out) hb)
                          have n5_ := Aside0.mk (below_step (by repeat (first | (with_reducible first | exact HB.out | apply below_alloc | apply pw_below_drewN | apply below_drew1 | refine below_set ?_ GE945.out | refine below_set ?_ GE949.out | refine below_set ?_ GE953.out | refine below_set ?_ GE956.out | refine below_set ?_ GE981.out) | exact HB.out)) hb)
                          have n6_ := Aside0.mk (hbox)
                          have n7_ := Aside0.mk ((by rw [hg]; exact (below_size (by repeat (first | (with_reducible first | exact HB.out | apply below_alloc | apply pw_below_drewN | apply below_drew1 | refine below_set ?_ GE945.out | refine below_set ?_ GE949.out | refine below_set ?_ GE953.out | refine below_set ?_ GE956.out | refine below_set ?_ GE981.out) | exact HB.out))) : w.heap.size ≤ gb988))
                          have n8_ := Aside0.mk ((by rw [hg]; exact (below_size (by repeat (first | (with_reducible first | exact HB.out | apply below_alloc | apply pw_below_drewN | apply below_drew1 | refine below_set ?_ GE945.out | refine below_set ?_ GE949.out | refine below_set ?_ GE953.out | refine below_set ?_ GE956.out | refine below_set ?_ GE981.out) | exact HB.out))) : w.heap.size ≤ gb988))
                          have n9_ := Aside0.mk ((by rw [hg]; exact Nat.ne_of_lt (blk_lt (g := gb945) (o := .cells #[.int .u64 t942, .int .u64 t943, .int .u64 t944] 27 (0, 0)) (by (with_reducible repeat (first | refine blk_drewN ?_ _ | refine blk_drew ?_ | refine blk_alloc ?_ _)); exact BK945.out)) : gb945 ≠ gb988))
                          have n10_ := Aside0.mk ((by rw [hg]; exact Nat.ne_of_gt (blk_lt (g := gb945) (o := .cells #[.int .u64 t942, .int .u64 t943, .int .u64 t944] 27 (0, 0)) (by (with_reducible repeat (first | refine blk_drewN ?_ _ | refine blk_drew ?_ | refine blk_alloc ?_ _)); exact BK945.out)) : gb988 ≠ gb945))
                          have n11_ := Aside0.mk ((by rw [hg]; exact Nat.ne_of_lt (blk_lt (g := gb949) (o := .cells #[.int .u64 t946, .int .u64 t947] 25 (0, 0)) (by (with_reducible repeat (first | refine blk_drewN ?_ _ | refine blk_drew ?_ | refine blk_alloc ?_ _)); exact BK949.out)) : gb949 ≠ gb988))
                          have n12_ := Aside0.mk ((by rw [hg]; exact Nat.ne_of_gt (blk_lt (g := gb949) (o := .cells #[.int .u64 t946, .int .u64 t947] 25 (0, 0)) (by (with_reducible repeat (first | refine blk_drewN ?_ _ | refine blk_drew ?_ | refine blk_alloc ?_ _)); exact BK949.out)) : gb988 ≠ gb949))
                          have n13_ := Aside0.mk ((by rw [hg]; exact Nat.ne_of_lt (blk_lt (g := gb953) (o := .cells #[.int .u64 t950, .int .u64 t951] 25 (0, 0)) (by (with_reducible repeat (first | refine blk_drewN ?_ _ | refine blk_drew ?_ | refine blk_alloc ?_ _)); exact BK953.out)) : gb953 ≠ gb988))
                          have n14_ := Aside0.mk ((by rw [hg]; exact Nat.ne_of_gt (blk_lt (g := gb953) (o := .cells #[.int .u64 t950, .int .u64 t951] 25 (0, 0)) (by (with_reducible repeat (first | refine blk_drewN ?_ _ | refine blk_drew ?_ | refine blk_alloc ?_ _)); exact BK953.out)) : gb988 ≠ gb953))
                          have n15_ := Aside0.mk ((by rw [hg]; exact Nat.ne_of_lt (blk_lt (g := gb956) (o := .cells #[.int .u64 x957000_1, .int .u64 x957001_1] 25 (0, 0)) (by (with_reducible repeat (first | refine blk_drewN ?_ _ | refine blk_drew ?_ | refine blk_alloc ?_ _)); exact BK956.out)) : gb956 ≠ gb988))
                          have n16_ := Aside0.mk ((by rw [hg]; exact Nat.ne_of_gt (blk_lt (g := gb956) (o := .cells #[.int .u64 x957000_1, .int .u64 x957001_1] 25 (0, 0)) (by (with_reducible repeat (first | refine blk_drewN ?_ _ | refine blk_drew ?_ | refine blk_alloc ?_ _)); exact BK956.out)) : gb988 ≠ gb956))
                          have n17_ := Aside0.mk ((by rw [hg]; exact Nat.ne_of_lt (blk_lt (g := gb981) (o := .cells #[.int .u64 t978, .int .u64 t979] 25 (0, 0)) (by (with_reducible repeat (first | refine blk_drewN ?_ _ | refine blk_drew ?_ | refine blk_alloc ?_ _)); exact BK981.out)) : gb981 ≠ gb988))
                          have n18_ := Aside0.mk ((by rw [hg]; exact Nat.ne_of_gt (blk_lt (g := gb981) (o := .cells #[.int .u64 t978, .int .u64 t979] 25 (0, 0)) (by (with_reducible repeat (first | refine blk_drewN ?_ _ | refine blk_drew ?_ | refine blk_alloc ?_ _)); exact BK981.out)) : gb988 ≠ gb981))
                          clear BK945
                          clear BK949
                          clear BK953
                          clear BK956
                          clear BK981
                          clear HB
                          have BK945 := n0_
                          have BK949 := n1_
                          have BK953 := n2_
                          have BK956 := n3_
                          have BK981 := n4_
                          have HB := n5_
                          have BK988 := n6_
                          have GW988 := n7_
                          have GE988 := n8_
                          have NB945_988 := n9_
                          have NB988_945 := n10_
                          have NB949_988 := n11_
                          have NB988_949 := n12_
                          have NB953_988 := n13_
                          have NB988_953 := n14_
                          have NB956_988 := n15_
                          have NB988_956 := n16_
                          have NB981_988 := n17_
                          have NB988_981 := n18_
                          clear n0_ n1_ n2_ n3_ n4_ n5_ n6_ n7_ n8_ n9_ n10_ n11_ n12_ n13_ n14_ n15_ n16_ n17_ n18_
                          clear hb hbox hg
                          refine hK.out _ _ ⟨((HB.out.cell (World.block_lt_of_cell? w _ hw984_0)).trans hw984_0), ((HB.out.cell (World.block_lt_of_cell? w _ hw984_1)).trans hw984_1)⟩ (fun hHeld => ?_)
                          clear hK K
                          refine norm_ (a' := ?_) ?_ ?_
                          rotate_left
                          · show Act.put _ (some 13) _ = _
                            simp only [Act.put, List.setIfInBounds_toArray, List.set_cons_zero, List.set_cons_succ, i64_w, i32_w]
                            rfl
                          refine one_ (i := 0) (N := some 66) #[true, true, true, true, true, false, false, false, false, true, false, false] rfl rfl (one_of HT_.out (by kernel_rfl)) (by decide) (fun K hK => ?_)
                          refine goes_ Try.func53 (by kernel_rfl) rfl #[] (by rfl) rfl rfl (by (try simp only [List.map_toArray, List.map_cons, List.map_nil]); first | done | rfl | (simp only [List.length_drop, List.length_take]; rfl)) ?_
                          with_reducible refine (u128_Most.calls  t982 t983 _ A47.out).mono ?_
                          rintro e w61 ⟨rfl, hb⟩
                          refine ⟨_, rfl, ?_⟩
                          have n0_ := Aside0.mk (blk_below (g := gb945) (o := .cells #[.int .u64 t942, .int .u64 t943, .int .u64 t944] 27 (0, 0)) (by (with_reducible repeat (first | refine blk_drewN ?_ _ | refine blk_drew ?_ | refine blk_alloc ?_ _)); exact BK945.out) hb)
                          have n1_ := Aside0.mk (blk_below (g := gb949) (o := .cells #[.int .u64 t946, .int .u64 t947] 25 (0, 0)) (by (with_reducible repeat (first | refine blk_drewN ?_ _ | refine blk_drew ?_ | refine blk_alloc ?_ _)); exact BK949.out) hb)
                          have n2_ := Aside0.mk (blk_below (g := gb953) (o := .cells #[.int .u64 t950, .int .u64 t951] 25 (0, 0)) (by (with_reducible repeat (first | refine blk_drewN ?_ _ | refine blk_drew ?_ | refine blk_alloc ?_ _)); exact BK953.out) hb)
                          have n3_ := Aside0.mk (blk_below (g := gb956) (o := .cells #[.int .u64 x957000_1, .int .u64 x957001_1] 25 (0, 0)) (by (with_reducible repeat (first | refine blk_drewN ?_ _ | refine blk_drew ?_ | refine blk_alloc ?_ _)); exact BK956.out) hb)
                          have n4_ := Aside0.mk (blk_below (g := gb981) (o := .cells #[.int .u64 t978, .int .u64 t979] 25 (0, 0)) (by (with_reducible repeat (first | refine blk_drewN ?_ _ | refine blk_drew ?_ | refine blk_alloc ?_ _)); exact BK981.out) hb)
                          have n5_ := Aside0.mk (blk_below (g := gb988) (o := .cells #[.int .u64 0, .int .u64 0] 25 (0, 0)) (by (with_reducible repeat (first | refine blk_drewN ?_ _ | refine blk_drew ?_ | refine blk_alloc ?_ _)); exact BK988.out) hb)
                          have n6_ := Aside0.mk (below_step (by repeat (first | (with_reducible first | exact HB.out | apply below_alloc | apply pw_below_drewN | apply below_drew1 | refine below_set ?_ GE945.out | refine below_set ?_ GE949.out | refine below_set ?_ GE953.out | refine below_set ?_ GE956.out | refine below_set ?_ GE981.out | refine below_set ?_ GE988.out) | exact HB.out)) hb)
                          clear BK945
                          clear BK949
                          clear BK953
                          clear BK956
                          clear BK981
                          clear BK988
                          clear HB
                          have BK945 := n0_
                          have BK949 := n1_
                          have BK953 := n2_
                          have BK956 := n3_
                          have BK981 := n4_
                          have BK988 := n5_
                          have HB := n6_
                          clear n0_ n1_ n2_ n3_ n4_ n5_ n6_
                          (try clear hb)
                          (try clear hb2)
                          (try clear hk)
                          (try clear hi)
                          refine hK.out _ _ ⟨((HB.out.cell (World.block_lt_of_cell? w _ hw984_0)).trans hw984_0), ((HB.out.cell (World.block_lt_of_cell? w _ hw984_1)).trans hw984_1)⟩ (fun hHeld => ?_)
                          clear hK K
                          refine norm_ (a' := ?_) ?_ ?_
                          rotate_left
                          · show Act.put _ (some 66) _ = _
                            simp only [Act.put, List.setIfInBounds_toArray, List.set_cons_zero, List.set_cons_succ, i64_w, i32_w]
                            rfl
                          refine one_ (i := 5) (N := some 71) #[true, true, true, true, true, true, false, false, false, true, false, false] rfl rfl (one_of HT_.out (by kernel_rfl)) (by decide) (fun K hK => ?_)
                          refine goes_ Try.func47 (by kernel_rfl) rfl #[.agg #[.int .u64 t982, .int .u64 t983], .agg #[.int .u64 ((rd_T25 l0 x10_1).f0), .int .u64 ((rd_T25 l0 x10_1).f1)]] (by rfl) rfl rfl (by (try simp only [List.map_toArray, List.map_cons, List.map_nil]); first | done | rfl | (simp only [List.length_drop, List.length_take]; rfl)) ?_
                          with_reducible refine (u128_Sub.calls t982 t983 ((rd_T25 l0 x10_1).f0) ((rd_T25 l0 x10_1).f1) t985 t986 t987 _ A48.out).mono ?_
                          rintro e w62 ⟨rfl, hb⟩
                          refine ⟨_, rfl, ?_⟩
                          have n0_ := Aside0.mk (blk_below (g := gb945) (o := .cells #[.int .u64 t942, .int .u64 t943, .int .u64 t944] 27 (0, 0)) (by (with_reducible repeat (first | refine blk_drewN ?_ _ | refine blk_drew ?_ | refine blk_alloc ?_ _)); exact BK945.out) hb)
                          have n1_ := Aside0.mk (blk_below (g := gb949) (o := .cells #[.int .u64 t946, .int .u64 t947] 25 (0, 0)) (by (with_reducible repeat (first | refine blk_drewN ?_ _ | refine blk_drew ?_ | refine blk_alloc ?_ _)); exact BK949.out) hb)
                          have n2_ := Aside0.mk (blk_below (g := gb953) (o := .cells #[.int .u64 t950, .int .u64 t951] 25 (0, 0)) (by (with_reducible repeat (first | refine blk_drewN ?_ _ | refine blk_drew ?_ | refine blk_alloc ?_ _)); exact BK953.out) hb)
                          have n3_ := Aside0.mk (blk_below (g := gb956) (o := .cells #[.int .u64 x957000_1, .int .u64 x957001_1] 25 (0, 0)) (by (with_reducible repeat (first | refine blk_drewN ?_ _ | refine blk_drew ?_ | refine blk_alloc ?_ _)); exact BK956.out) hb)
                          have n4_ := Aside0.mk (blk_below (g := gb981) (o := .cells #[.int .u64 t978, .int .u64 t979] 25 (0, 0)) (by (with_reducible repeat (first | refine blk_drewN ?_ _ | refine blk_drew ?_ | refine blk_alloc ?_ _)); exact BK981.out) hb)
                          have n5_ := Aside0.mk (blk_below (g := gb988) (o := .cells #[.int .u64 0, .int .u64 0] 25 (0, 0)) (by (with_reducible repeat (first | refine blk_drewN ?_ _ | refine blk_drew ?_ | refine blk_alloc ?_ _)); exact BK988.out) hb)
                          have n6_ := Aside0.mk (below_step (by repeat (first | (with_reducible first | exact HB.out | apply below_alloc | apply pw_below_drewN | apply below_drew1 | refine below_set ?_ GE945.out | refine below_set ?_ GE949.out | refine below_set ?_ GE953.out | refine below_set ?_ GE956.out | refine below_set ?_ GE981.out | refine below_set ?_ GE988.out) | exact HB.out)) hb)
                          clear BK945
                          clear BK949
                          clear BK953
                          clear BK956
                          clear BK981
                          clear BK988
                          clear HB
                          have BK945 := n0_
                          have BK949 := n1_
                          have BK953 := n2_
                          have BK956 := n3_
                          have BK981 := n4_
                          have BK988 := n5_
                          have HB := n6_
                          clear n0_ n1_ n2_ n3_ n4_ n5_ n6_
                          (try clear hb)
                          (try clear hb2)
                          (try clear hk)
                          (try clear hi)
                          refine hK.out _ _ ⟨((HB.out.cell (World.block_lt_of_cell? w _ hw984_0)).trans hw984_0), ((HB.out.cell (World.block_lt_of_cell? w _ hw984_1)).trans hw984_1)⟩ (fun hHeld => ?_)
                          clear hK K
                          refine norm_ (a' := ?_) ?_ ?_
                          rotate_left
                          · show Act.put _ (some 71) _ = _
                            simp only [Act.put, List.setIfInBounds_toArray, List.set_cons_zero, List.set_cons_succ, i64_w, i32_w]
                            rfl
                          refine pure_ (i := 6) (N := some 65) (v := ?_) (a' := ?_) #[true, true, true, true, true, true, true, false, false, true, false, false] rfl rfl (any_of HT_.out (by kernel_rfl)) (fun _ _ _ h => h) (Or.inl ⟨by rfl, ?_⟩) ?_ ?_
                          rotate_left
                          · intro w'
                            go_simp
                            with_reducible rfl
                          rotate_left
                          · simp only [Act.put, List.setIfInBounds_toArray, List.set_cons_zero, List.set_cons_succ, i64_w, i32_w]
                            rfl
                          refine pure_ (i := 7) (N := some 72) (v := ?_) (a' := ?_) #[true, true, true, true, true, true, true, true, false, true, false, false] rfl rfl (any_of HT_.out (by kernel_rfl)) (fun _ _ _ h => h) (Or.inl ⟨by rfl, ?_⟩) ?_ ?_
                          rotate_left
                          · intro w'
                            go_simp
                            with_reducible rfl
                          rotate_left
                          · simp only [Act.put, List.setIfInBounds_toArray, List.set_cons_zero, List.set_cons_succ, i64_w, i32_w]
                            rfl
                          refine pure_ (i := 8) (N := some 73) (v := ?_) (a' := ?_) #[true, true, true, true, true, true, true, true, true, true, false, false] rfl rfl (any_of HT_.out (by kernel_rfl)) (fun _ _ _ h => h) (Or.inl ⟨by rfl, ?_⟩) ?_ ?_
                          rotate_left
                          · intro w'
                            go_simp
                            with_reducible rfl
                          rotate_left
                          · simp only [Act.put, List.setIfInBounds_toArray, List.set_cons_zero, List.set_cons_succ, i64_w, i32_w]
                            rfl
                          exact norm_ (by simp only [putAll, Act.put, List.setIfInBounds_toArray, List.set_cons_zero, List.set_cons_succ]) (hCont (gb988) _ ⟨hHeld, (by (with_reducible repeat (first | refine blk_drewN ?_ _ | refine blk_drew ?_ | refine blk_alloc ?_ _)); exact BK945.out), (by (with_reducible repeat (first | refine blk_drewN ?_ _ | refine blk_drew ?_ | refine blk_alloc ?_ _)); exact BK949.out), (by (with_reducible repeat (first | refine blk_drewN ?_ _ | refine blk_drew ?_ | refine blk_alloc ?_ _)); exact BK953.out), (by (with_reducible repeat (first | refine blk_drewN ?_ _ | refine blk_drew ?_ | refine blk_alloc ?_ _)); exact BK956.out), (by (with_reducible repeat (first | refine blk_drewN ?_ _ | refine blk_drew ?_ | refine blk_alloc ?_ _)); exact BK981.out), (by (with_reducible repeat (first | refine blk_drewN ?_ _ | refine blk_drew ?_ | refine blk_alloc ?_ _)); exact BK988.out), GW988.out, GE988.out, NB945_988.out, NB988_945.out, NB949_988.out, NB988_949.out, NB953_988.out, NB988_953.out, NB956_988.out, NB988_956.out, NB981_988.out, NB988_981.out, (by repeat (first | (with_reducible first | exact HB.out | apply below_alloc | apply pw_below_drewN | apply below_drew1 | refine below_set ?_ GE945.out | refine below_set ?_ GE949.out | refine below_set ?_ GE953.out | refine below_set ?_ GE956.out | refine below_set ?_ GE981.out | refine below_set ?_ GE988.out) | exact HB.out))⟩)
                      rintro gb988 w63 ⟨hS_, h0_, h1_, h2_, h3_, h4_, h5_, h6_, h7_, h8_, h9_, h10_, h11_, h12_, h13_, h14_, h15_, h16_, h17_, h18_⟩
                      have n0_ : Aside0 (w63.heap[gb945]? = some (.cells #[.int .u64 t942, .int .u64 t943, .int .u64 t944] 27 (0, 0))) := ⟨h0_⟩
                      have n1_ : Aside0 (w63.heap[gb949]? = some (.cells #[.int .u64 t946, .int .u64 t947] 25 (0, 0))) := ⟨h1_⟩
                      have n2_ : Aside0 (w63.heap[gb953]? = some (.cells #[.int .u64 t950, .int .u64 t951] 25 (0, 0))) := ⟨h2_⟩
                      have n3_ : Aside0 (w63.heap[gb956]? = some (.cells #[.int .u64 x957000_1, .int .u64 x957001_1] 25 (0, 0))) := ⟨h3_⟩
                      have n4_ : Aside0 (w63.heap[gb981]? = some (.cells #[.int .u64 t978, .int .u64 t979] 25 (0, 0))) := ⟨h4_⟩
                      have n5_ : Aside0 (w63.heap[gb988]? = some (.cells #[.int .u64 0, .int .u64 0] 25 (0, 0))) := ⟨h5_⟩
                      have n6_ : Aside0 (w.heap.size ≤ gb988) := ⟨h6_⟩
                      have n7_ : Aside0 (w.heap.size ≤ gb988) := ⟨h7_⟩
                      have n8_ : Aside0 (gb945 ≠ gb988) := ⟨h8_⟩
                      have n9_ : Aside0 (gb988 ≠ gb945) := ⟨h9_⟩
                      have n10_ : Aside0 (gb949 ≠ gb988) := ⟨h10_⟩
                      have n11_ : Aside0 (gb988 ≠ gb949) := ⟨h11_⟩
                      have n12_ : Aside0 (gb953 ≠ gb988) := ⟨h12_⟩
                      have n13_ : Aside0 (gb988 ≠ gb953) := ⟨h13_⟩
                      have n14_ : Aside0 (gb956 ≠ gb988) := ⟨h14_⟩
                      have n15_ : Aside0 (gb988 ≠ gb956) := ⟨h15_⟩
                      have n16_ : Aside0 (gb981 ≠ gb988) := ⟨h16_⟩
                      have n17_ : Aside0 (gb988 ≠ gb981) := ⟨h17_⟩
                      have n18_ : Aside0 (Below w.heap.size w w63) := ⟨h18_⟩
                      clear BK945
                      clear BK949
                      clear BK953
                      clear BK956
                      clear BK981
                      clear HB
                      clear h0_ h1_ h2_ h3_ h4_ h5_ h6_ h7_ h8_ h9_ h10_ h11_ h12_ h13_ h14_ h15_ h16_ h17_ h18_
                      have BK945 := n0_
                      have BK949 := n1_
                      have BK953 := n2_
                      have BK956 := n3_
                      have BK981 := n4_
                      have BK988 := n5_
                      have GW988 := n6_
                      have GE988 := n7_
                      have NB945_988 := n8_
                      have NB988_945 := n9_
                      have NB949_988 := n10_
                      have NB988_949 := n11_
                      have NB953_988 := n12_
                      have NB988_953 := n13_
                      have NB956_988 := n14_
                      have NB988_956 := n15_
                      have NB981_988 := n16_
                      have NB988_981 := n17_
                      have HB := n18_
                      clear n0_ n1_ n2_ n3_ n4_ n5_ n6_ n7_ n8_ n9_ n10_ n11_ n12_ n13_ n14_ n15_ n16_ n17_ n18_
                      have hHeld : w63.cell? (ad977.add ((x10_1).toNat * 2)) = some (.int .u64 ((rd_T25 l0 x10_1).f0)) ∧ w63.cell? ⟨(ad977.add ((x10_1).toNat * 2)).block, (ad977.add ((x10_1).toNat * 2)).off + 1, none⟩ = some (.int .u64 ((rd_T25 l0 x10_1).f1)) := hS_
                      refine norm_ (a' := ?_) ?_ ?_
                      rotate_left
                      · simp only [putAll, Act.put, List.setIfInBounds_toArray, List.set_cons_zero, List.set_cons_succ]
                        rfl
                      refine one_ (i := 10) (N := none) #[true, true, true, true, true, true, true, true, true, true, true, false] rfl rfl (one_of HT_.out (by kernel_rfl)) (by decide) (fun K hK => ?_)
                      have hs64 : w63.cell? ⟨gb988, 0, none⟩ = some (.int .u64 0) := (blk_cell BK988.out 0).trans rfl
                      have hfs64 := blk_frozen BK988.out 0
                      have hns64_0 := NB945_988.out
                      have hns64_1 := NB949_988.out
                      have hns64_2 := NB953_988.out
                      have hns64_3 := NB956_988.out
                      have hns64_4 := NB981_988.out
                      have hms64_0 := NB988_945.out
                      have hms64_1 := NB988_949.out
                      have hms64_2 := NB988_953.out
                      have hms64_3 := NB988_956.out
                      have hms64_4 := NB988_981.out
                      have hs65 : w63.cell? ⟨gb988, 1, none⟩ = some (.int .u64 0) := (blk_cell BK988.out 1).trans rfl
                      have hfs65 := blk_frozen BK988.out 1
                      have hns65_0 := NB945_988.out
                      have hns65_1 := NB949_988.out
                      have hns65_2 := NB953_988.out
                      have hns65_3 := NB956_988.out
                      have hns65_4 := NB981_988.out
                      have hms65_0 := NB988_945.out
                      have hms65_1 := NB988_949.out
                      have hms65_2 := NB988_953.out
                      have hms65_3 := NB988_956.out
                      have hms65_4 := NB988_981.out
                      refine skip_ (w1 := ?_) (by rfl) rfl ?_ ?_
                      rotate_left
                      · go_simp
                        rfl
                      refine hK.out _ _ ⟨((cell_far (p := ⟨gb988, _, none⟩) (by first | exact Nat.ne_of_lt (Nat.lt_of_lt_of_le (by have := World.block_lt_of_cell? _ _ hw984_0; first | rwa [add_block] at this | exact this) GW988.out) | (rw [add_block]; exact Nat.ne_of_lt (Nat.lt_of_lt_of_le (by have := World.block_lt_of_cell? _ _ hw984_0; first | rwa [add_block] at this | exact this) GW988.out)) | (show (Addr.add _ _).block ≠ _; rw [add_block]; exact Nat.ne_of_lt (Nat.lt_of_lt_of_le (by have := World.block_lt_of_cell? _ _ hw984_0; first | rwa [add_block] at this | exact this) GW988.out)) | (dsimp only; exact Nat.ne_of_lt (Nat.lt_of_lt_of_le (by have := World.block_lt_of_cell? _ _ hw984_0; first | rwa [add_block] at this | exact this) GW988.out))) _).trans (((cell_far (p := ⟨gb988, _, none⟩) (by first | exact Nat.ne_of_lt (Nat.lt_of_lt_of_le (by have := World.block_lt_of_cell? _ _ hw984_0; first | rwa [add_block] at this | exact this) GW988.out) | (rw [add_block]; exact Nat.ne_of_lt (Nat.lt_of_lt_of_le (by have := World.block_lt_of_cell? _ _ hw984_0; first | rwa [add_block] at this | exact this) GW988.out)) | (show (Addr.add _ _).block ≠ _; rw [add_block]; exact Nat.ne_of_lt (Nat.lt_of_lt_of_le (by have := World.block_lt_of_cell? _ _ hw984_0; first | rwa [add_block] at this | exact this) GW988.out)) | (dsimp only; exact Nat.ne_of_lt (Nat.lt_of_lt_of_le (by have := World.block_lt_of_cell? _ _ hw984_0; first | rwa [add_block] at this | exact this) GW988.out))) _).trans (hHeld.1)))), ((cell_far (p := ⟨gb988, _, none⟩) (by first | exact Nat.ne_of_lt (Nat.lt_of_lt_of_le (by have := World.block_lt_of_cell? _ _ hw984_1; first | rwa [add_block] at this | exact this) GW988.out) | (rw [add_block]; exact Nat.ne_of_lt (Nat.lt_of_lt_of_le (by have := World.block_lt_of_cell? _ _ hw984_1; first | rwa [add_block] at this | exact this) GW988.out)) | (show (Addr.add _ _).block ≠ _; rw [add_block]; exact Nat.ne_of_lt (Nat.lt_of_lt_of_le (by have := World.block_lt_of_cell? _ _ hw984_1; first | rwa [add_block] at this | exact this) GW988.out)) | (dsimp only; exact Nat.ne_of_lt (Nat.lt_of_lt_of_le (by have := World.block_lt_of_cell? _ _ hw984_1; first | rwa [add_block] at this | exact this) GW988.out))) _).trans (((cell_far (p := ⟨gb988, _, none⟩) (by first | exact Nat.ne_of_lt (Nat.lt_of_lt_of_le (by have := World.block_lt_of_cell? _ _ hw984_1; first | rwa [add_block] at this | exact this) GW988.out) | (rw [add_block]; exact Nat.ne_of_lt (Nat.lt_of_lt_of_le (by have := World.block_lt_of_cell? _ _ hw984_1; first | rwa [add_block] at this | exact this) GW988.out)) | (show (Addr.add _ _).block ≠ _; rw [add_block]; exact Nat.ne_of_lt (Nat.lt_of_lt_of_le (by have := World.block_lt_of_cell? _ _ hw984_1; first | rwa [add_block] at this | exact this) GW988.out)) | (dsimp only; exact Nat.ne_of_lt (Nat.lt_of_lt_of_le (by have := World.block_lt_of_cell? _ _ hw984_1; first | rwa [add_block] at this | exact this) GW988.out))) _).trans (hHeld.2))))⟩ (fun hHeld => ?_)
                      clear hK K
                      refine pure_ (i := 11) (N := some 14) (v := ?_) (a' := ?_) #[true, true, true, true, true, true, true, true, true, true, true, true] rfl rfl (any_of HT_.out (by kernel_rfl)) (fun _ _ _ h => h) (Or.inl ⟨by rfl, ?_⟩) ?_ ?_
                      rotate_left
                      · intro w'
                        go_simp
                        with_reducible rfl
                      rotate_left
                      · simp only [Act.put, List.setIfInBounds_toArray, List.set_cons_zero, List.set_cons_succ, i64_w, i32_w]
                        rfl
                      refine done_ (done_of HT_.out (by kernel_rfl)) ?_
                      have hnb66 := NB956_945.out
                      have hnc66 := NB945_956.out
                      have hnb67 := NB956_949.out
                      have hnc67 := NB949_956.out
                      have hnb68 := NB956_953.out
                      have hnc68 := NB953_956.out
                      have hnb69 := NB956_981.out
                      have hnc69 := NB981_956.out
                      have hnb70 := NB956_988.out
                      have hnc70 := NB988_956.out
                      have hcz71_0 : w63.cell? ⟨gb956, 0, none⟩ = some (.int .u64 x957000_1) := (blk_cell BK956.out 0).trans rfl
                      have hcz71_1 : w63.cell? ⟨gb956, 1, none⟩ = some (.int .u64 x957001_1) := (blk_cell BK956.out 1).trans rfl
                      have hfz71_0 := blk_frozen BK956.out 0
                      have hfz71_1 := blk_frozen BK956.out 1
                      have hnb72 := NB988_945.out
                      have hnc72 := NB945_988.out
                      have hnb73 := NB988_949.out
                      have hnc73 := NB949_988.out
                      have hnb74 := NB988_953.out
                      have hnc74 := NB953_988.out
                      have hnb75 := NB988_981.out
                      have hnc75 := NB981_988.out
                      have hcz76_0 : w63.cell? ⟨gb988, 0, none⟩ = some (.int .u64 0) := (blk_cell BK988.out 0).trans rfl
                      have hcz76_1 : w63.cell? ⟨gb988, 1, none⟩ = some (.int .u64 0) := (blk_cell BK988.out 1).trans rfl
                      have hfz76_0 := blk_frozen BK988.out 0
                      have hfz76_1 := blk_frozen BK988.out 1
                      try go_wp2_with (first | ((with_reducible refine gate_callee (f := 47) rfl ?_); refine goesL_ (some 77) rfl rfl Try.func47 (by kernel_rfl) rfl #[.agg #[.int .u64 x957000_1, .int .u64 x957001_1], .agg #[.int .u64 t985, .int .u64 t986]] rfl (by (try simp only [List.map_toArray, List.map_cons, List.map_nil]); first | done | rfl | (simp only [List.length_drop, List.length_take]; rfl)) ?_; (with_reducible refine (u128_Sub.calls x957000_1 x957001_1 t985 t986 t989 t990 t991 _ A49.out).mono ?_); rintro e w77 ⟨rfl, hb⟩; refine ⟨_, rfl, ?_⟩; have n0_ := Aside0.mk (blk_below (g := gb945) (o := .cells #[.int .u64 t942, .int .u64 t943, .int .u64 t944] 27 (0, 0)) (by (with_reducible repeat (first | refine blk_drewN ?_ _ | refine blk_drew ?_ | refine blk_alloc ?_ _)); refine blk_far ?_ NB945_988.out _; (with_reducible repeat (first | refine blk_drewN ?_ _ | refine blk_drew ?_ | refine blk_alloc ?_ _)); refine blk_far ?_ NB945_988.out _; (with_reducible repeat (first | refine blk_drewN ?_ _ | refine blk_drew ?_ | refine blk_alloc ?_ _)); exact BK945.out) hb); have n1_ := Aside0.mk (blk_below (g := gb949) (o := .cells #[.int .u64 t946, .int .u64 t947] 25 (0, 0)) (by (with_reducible repeat (first | refine blk_drewN ?_ _ | refine blk_drew ?_ | refine blk_alloc ?_ _)); refine blk_far ?_ NB949_988.out _; (with_reducible repeat (first | refine blk_drewN ?_ _ | refine blk_drew ?_ | refine blk_alloc ?_ _)); refine blk_far ?_ NB949_988.out _; (with_reducible repeat (first | refine blk_drewN ?_ _ | refine blk_drew ?_ | refine blk_alloc ?_ _)); exact BK949.out) hb); have n2_ := Aside0.mk (blk_below (g := gb953) (o := .cells #[.int .u64 t950, .int .u64 t951] 25 (0, 0)) (by (with_reducible repeat (first | refine blk_drewN ?_ _ | refine blk_drew ?_ | refine blk_alloc ?_ _)); refine blk_far ?_ NB953_988.out _; (with_reducible repeat (first | refine blk_drewN ?_ _ | refine blk_drew ?_ | refine blk_alloc ?_ _)); refine blk_far ?_ NB953_988.out _; (with_reducible repeat (first | refine blk_drewN ?_ _ | refine blk_drew ?_ | refine blk_alloc ?_ _)); exact BK953.out) hb); have n3_ := Aside0.mk (blk_below (g := gb956) (o := .cells #[.int .u64 x957000_1, .int .u64 x957001_1] 25 (0, 0)) (by (with_reducible repeat (first | refine blk_drewN ?_ _ | refine blk_drew ?_ | refine blk_alloc ?_ _)); refine blk_far ?_ NB956_988.out _; (with_reducible repeat (first | refine blk_drewN ?_ _ | refine blk_drew ?_ | refine blk_alloc ?_ _)); refine blk_far ?_ NB956_988.out _; (with_reducible repeat (first | refine blk_drewN ?_ _ | refine blk_drew ?_ | refine blk_alloc ?_ _)); exact BK956.out) hb); have n4_ := Aside0.mk (blk_below (g := gb981) (o := .cells #[.int .u64 t978, .int .u64 t979] 25 (0, 0)) (by (with_reducible repeat (first | refine blk_drewN ?_ _ | refine blk_drew ?_ | refine blk_alloc ?_ _)); refine blk_far ?_ NB981_988.out _; (with_reducible repeat (first | refine blk_drewN ?_ _ | refine blk_drew ?_ | refine blk_alloc ?_ _)); refine blk_far ?_ NB981_988.out _; (with_reducible repeat (first | refine blk_drewN ?_ _ | refine blk_drew ?_ | refine blk_alloc ?_ _)); exact BK981.out) hb); have n5_ := Aside0.mk (blk_below (g := gb988) (o := .cells #[.int .u64 t985, .int .u64 t986] 25 (0, 0)) (by (with_reducible repeat (first | refine blk_drewN ?_ _ | refine blk_drew ?_ | refine blk_alloc ?_ _)); refine blk_put (cs := #[.int .u64 t985, .int .u64 0]) ?_ 1 _ rfl; (with_reducible repeat (first | refine blk_drewN ?_ _ | refine blk_drew ?_ | refine blk_alloc ?_ _)); refine blk_put (cs := #[.int .u64 0, .int .u64 0]) ?_ 0 _ rfl; (with_reducible repeat (first | refine blk_drewN ?_ _ | refine blk_drew ?_ | refine blk_alloc ?_ _)); exact BK988.out) hb); have n6_ := Aside0.mk (below_step (by repeat (first | (with_reducible first | exact HB.out | apply below_alloc | apply pw_below_drewN | apply below_drew1 | refine below_set ?_ GE945.out | refine below_set ?_ GE949.out | refine below_set ?_ GE953.out | refine below_set ?_ GE956.out | refine below_set ?_ GE981.out | refine below_set ?_ GE988.out) | exact HB.out)) hb); clear BK945; clear BK949; clear BK953; clear BK956; clear BK981; clear BK988; clear HB; have BK945 := n0_; have BK949 := n1_; have BK953 := n2_; have BK956 := n3_; have BK981 := n4_; have BK988 := n5_; have HB := n6_; clear n0_ n1_ n2_ n3_ n4_ n5_ n6_; (try clear hb); (try clear hb2); (try clear hk); (try clear hi); have hnb78 := NB981_945.out; have hnc78 := NB945_981.out; have hnb79 := NB981_949.out; have hnc79 := NB949_981.out; have hnb80 := NB981_953.out; have hnc80 := NB953_981.out; have hcz81_0 : w77.cell? ⟨gb981, 0, none⟩ = some (.int .u64 t978) := (blk_cell BK981.out 0).trans rfl; have hcz81_1 : w77.cell? ⟨gb981, 1, none⟩ = some (.int .u64 t979) := (blk_cell BK981.out 1).trans rfl; have hfz81_0 := blk_frozen BK981.out 0; have hfz81_1 := blk_frozen BK981.out 1))
                      have n0_ : Aside0 (((w77.setCell ⟨gb981, 0, none⟩ (.int .u64 t989)).setCell ⟨gb981, 1, none⟩ (.int .u64 t990)).heap[gb945]? = some (.cells #[.int .u64 t942, .int .u64 t943, .int .u64 t944] 27 (0, 0))) := ⟨by (with_reducible repeat (first | refine blk_drewN ?_ _ | refine blk_drew ?_ | refine blk_alloc ?_ _)); refine blk_far ?_ NB945_981.out _; (with_reducible repeat (first | refine blk_drewN ?_ _ | refine blk_drew ?_ | refine blk_alloc ?_ _)); refine blk_far ?_ NB945_981.out _; (with_reducible repeat (first | refine blk_drewN ?_ _ | refine blk_drew ?_ | refine blk_alloc ?_ _)); exact BK945.out⟩
                      have n1_ : Aside0 (((w77.setCell ⟨gb981, 0, none⟩ (.int .u64 t989)).setCell ⟨gb981, 1, none⟩ (.int .u64 t990)).heap[gb949]? = some (.cells #[.int .u64 t946, .int .u64 t947] 25 (0, 0))) := ⟨by (with_reducible repeat (first | refine blk_drewN ?_ _ | refine blk_drew ?_ | refine blk_alloc ?_ _)); refine blk_far ?_ NB949_981.out _; (with_reducible repeat (first | refine blk_drewN ?_ _ | refine blk_drew ?_ | refine blk_alloc ?_ _)); refine blk_far ?_ NB949_981.out _; (with_reducible repeat (first | refine blk_drewN ?_ _ | refine blk_drew ?_ | refine blk_alloc ?_ _)); exact BK949.out⟩
                      have n2_ : Aside0 (((w77.setCell ⟨gb981, 0, none⟩ (.int .u64 t989)).setCell ⟨gb981, 1, none⟩ (.int .u64 t990)).heap[gb953]? = some (.cells #[.int .u64 t950, .int .u64 t951] 25 (0, 0))) := ⟨by (with_reducible repeat (first | refine blk_drewN ?_ _ | refine blk_drew ?_ | refine blk_alloc ?_ _)); refine blk_far ?_ NB953_981.out _; (with_reducible repeat (first | refine blk_drewN ?_ _ | refine blk_drew ?_ | refine blk_alloc ?_ _)); refine blk_far ?_ NB953_981.out _; (with_reducible repeat (first | refine blk_drewN ?_ _ | refine blk_drew ?_ | refine blk_alloc ?_ _)); exact BK953.out⟩
                      have n3_ : Aside0 (((w77.setCell ⟨gb981, 0, none⟩ (.int .u64 t989)).setCell ⟨gb981, 1, none⟩ (.int .u64 t990)).heap[gb956]? = some (.cells #[.int .u64 x957000_1, .int .u64 x957001_1] 25 (0, 0))) := ⟨by (with_reducible repeat (first | refine blk_drewN ?_ _ | refine blk_drew ?_ | refine blk_alloc ?_ _)); refine blk_far ?_ NB956_981.out _; (with_reducible repeat (first | refine blk_drewN ?_ _ | refine blk_drew ?_ | refine blk_alloc ?_ _)); refine blk_far ?_ NB956_981.out _; (with_reducible repeat (first | refine blk_drewN ?_ _ | refine blk_drew ?_ | refine blk_alloc ?_ _)); exact BK956.out⟩
                      have n4_ : Aside0 (((w77.setCell ⟨gb981, 0, none⟩ (.int .u64 t989)).setCell ⟨gb981, 1, none⟩ (.int .u64 t990)).heap[gb981]? = some (.cells #[.int .u64 t989, .int .u64 t990] 25 (0, 0))) := ⟨by (with_reducible repeat (first | refine blk_drewN ?_ _ | refine blk_drew ?_ | refine blk_alloc ?_ _)); refine blk_put (cs := #[.int .u64 t989, .int .u64 t979]) ?_ 1 _ rfl; (with_reducible repeat (first | refine blk_drewN ?_ _ | refine blk_drew ?_ | refine blk_alloc ?_ _)); refine blk_put (cs := #[.int .u64 t978, .int .u64 t979]) ?_ 0 _ rfl; (with_reducible repeat (first | refine blk_drewN ?_ _ | refine blk_drew ?_ | refine blk_alloc ?_ _)); exact BK981.out⟩
                      have n5_ : Aside0 (((w77.setCell ⟨gb981, 0, none⟩ (.int .u64 t989)).setCell ⟨gb981, 1, none⟩ (.int .u64 t990)).heap[gb988]? = some (.cells #[.int .u64 t985, .int .u64 t986] 25 (0, 0))) := ⟨by (with_reducible repeat (first | refine blk_drewN ?_ _ | refine blk_drew ?_ | refine blk_alloc ?_ _)); refine blk_far ?_ NB988_981.out _; (with_reducible repeat (first | refine blk_drewN ?_ _ | refine blk_drew ?_ | refine blk_alloc ?_ _)); refine blk_far ?_ NB988_981.out _; (with_reducible repeat (first | refine blk_drewN ?_ _ | refine blk_drew ?_ | refine blk_alloc ?_ _)); exact BK988.out⟩
                      have n6_ : Aside0 (Below w.heap.size w ((w77.setCell ⟨gb981, 0, none⟩ (.int .u64 t989)).setCell ⟨gb981, 1, none⟩ (.int .u64 t990))) := ⟨by repeat (first | (with_reducible first | exact HB.out | apply below_alloc | apply pw_below_drewN | apply below_drew1 | refine below_set ?_ GE945.out | refine below_set ?_ GE949.out | refine below_set ?_ GE953.out | refine below_set ?_ GE956.out | refine below_set ?_ GE981.out | refine below_set ?_ GE988.out) | exact HB.out)⟩
                      (try clear BK945)
                      (try clear BK949)
                      (try clear BK953)
                      (try clear BK956)
                      (try clear BK981)
                      (try clear BK988)
                      (try clear HB)
                      generalize ((w77.setCell ⟨gb981, 0, none⟩ (.int .u64 t989)).setCell ⟨gb981, 1, none⟩ (.int .u64 t990)) = w82 at n0_ n1_ n2_ n3_ n4_ n5_ n6_ ⊢
                      have BK945 := n0_
                      have BK949 := n1_
                      have BK953 := n2_
                      have BK956 := n3_
                      have BK981 := n4_
                      have BK988 := n5_
                      have HB := n6_
                      clear n0_ n1_ n2_ n3_ n4_ n5_ n6_
                      have n0_ := Aside0.mk (blk_drew BK945.out)
                      have n1_ := Aside0.mk (blk_drew BK949.out)
                      have n2_ := Aside0.mk (blk_drew BK953.out)
                      have n3_ := Aside0.mk (blk_drew BK956.out)
                      have n4_ := Aside0.mk (blk_drew BK981.out)
                      have n5_ := Aside0.mk (blk_drew BK988.out)
                      have n6_ := Aside0.mk (below_drew1 HB.out)
                      clear BK945
                      clear BK949
                      clear BK953
                      clear BK956
                      clear BK981
                      clear BK988
                      clear HB
                      have BK945 := n0_
                      have BK949 := n1_
                      have BK953 := n2_
                      have BK956 := n3_
                      have BK981 := n4_
                      have BK988 := n5_
                      have HB := n6_
                      clear n0_ n1_ n2_ n3_ n4_ n5_ n6_
                      refine start_ (n := 7) (S := fun w' => w'.cell? ⟨gb981, 0, none⟩ = some (.int .u64 t989) ∧ w'.cell? ⟨gb981, 1, none⟩ = some (.int .u64 t990)) (ds := [6]) #[false, false, false, false, false, false, false] (by kernel_rfl) rfl rfl ⟨(blk_cell BK981.out 0).trans rfl, (blk_cell BK981.out 1).trans rfl⟩ (fun hHeld => ?_)
                      generalize w82.drew = w83 at BK945 BK949 BK953 BK956 BK981 BK988 HB hHeld ⊢
                      refine take_ (i := 0) (N := some 81) (v := ?_) (a' := ?_) #[true, false, false, false, false, false, false] rfl rfl (by kernel_rfl) (fun _ _ _ h => h) (Or.inl ⟨by rfl, ?_⟩) hHeld ?_ ?_
                      rotate_left
                      · rintro w' ⟨s0, s1⟩
                        go_simp
                        with_reducible rfl
                      rotate_left
                      · simp only [Act.put, List.setIfInBounds_toArray, List.set_cons_zero, List.set_cons_succ, i64_w, i32_w]
                        rfl
                      refine one_ (i := 1) (N := some 82) #[true, true, false, false, false, false, false] rfl rfl (by kernel_rfl) (by decide) (fun K hK => ?_)
                      refine goes_ Try.func51 (by kernel_rfl) rfl #[.int .u64 1] (by rfl) rfl rfl (by (try simp only [List.map_toArray, List.map_cons, List.map_nil]); first | done | rfl | (simp only [List.length_drop, List.length_take]; rfl)) ?_
                      with_reducible refine (u128_Of.calls 1 t992 t993 _ A50.out).mono ?_
                      rintro e w84 ⟨rfl, hb⟩
                      refine ⟨_, rfl, ?_⟩
                      have n0_ := Aside0.mk (blk_below (g := gb945) (o := .cells #[.int .u64 t942, .int .u64 t943, .int .u64 t944] 27 (0, 0)) (by (with_reducible repeat (first | refine blk_drewN ?_ _ | refine blk_drew ?_ | refine blk_alloc ?_ _)); exact BK945.out) hb)
                      have n1_ := Aside0.mk (blk_below (g := gb949) (o := .cells #[.int .u64 t946, .int .u64 t947] 25 (0, 0)) (by (with_reducible repeat (first | refine blk_drewN ?_ _ | refine blk_drew ?_ | refine blk_alloc ?_ _)); exact BK949.out) hb)
                      have n2_ := Aside0.mk (blk_below (g := gb953) (o := .cells #[.int .u64 t950, .int .u64 t951] 25 (0, 0)) (by (with_reducible repeat (first | refine blk_drewN ?_ _ | refine blk_drew ?_ | refine blk_alloc ?_ _)); exact BK953.out) hb)
                      have n3_ := Aside0.mk (blk_below (g := gb956) (o := .cells #[.int .u64 x957000_1, .int .u64 x957001_1] 25 (0, 0)) (by (with_reducible repeat (first | refine blk_drewN ?_ _ | refine blk_drew ?_ | refine blk_alloc ?_ _)); exact BK956.out) hb)
                      have n4_ := Aside0.mk (blk_below (g := gb981) (o := .cells #[.int .u64 t989, .int .u64 t990] 25 (0, 0)) (by (with_reducible repeat (first | refine blk_drewN ?_ _ | refine blk_drew ?_ | refine blk_alloc ?_ _)); exact BK981.out) hb)
                      have n5_ := Aside0.mk (blk_below (g := gb988) (o := .cells #[.int .u64 t985, .int .u64 t986] 25 (0, 0)) (by (with_reducible repeat (first | refine blk_drewN ?_ _ | refine blk_drew ?_ | refine blk_alloc ?_ _)); exact BK988.out) hb)
                      have n6_ := Aside0.mk (below_step (by repeat (first | (with_reducible first | exact HB.out | apply below_alloc | apply pw_below_drewN | apply below_drew1 | refine below_set ?_ GE945.out | refine below_set ?_ GE949.out | refine below_set ?_ GE953.out | refine below_set ?_ GE956.out | refine below_set ?_ GE981.out | refine below_set ?_ GE988.out) | exact HB.out)) hb)
                      clear BK945
                      clear BK949
                      clear BK953
                      clear BK956
                      clear BK981
                      clear BK988
                      clear HB
                      have BK945 := n0_
                      have BK949 := n1_
                      have BK953 := n2_
                      have BK956 := n3_
                      have BK981 := n4_
                      have BK988 := n5_
                      have HB := n6_
                      clear n0_ n1_ n2_ n3_ n4_ n5_ n6_
                      (try clear hb)
                      (try clear hb2)
                      (try clear hk)
                      (try clear hi)
                      refine hK.out _ _ ⟨(blk_cell BK981.out 0).trans rfl, (blk_cell BK981.out 1).trans rfl⟩ (fun hHeld => ?_)
                      clear hK K
                      refine norm_ (a' := ?_) ?_ ?_
                      rotate_left
                      · show Act.put _ (some 82) _ = _
                        simp only [Act.put, List.setIfInBounds_toArray, List.set_cons_zero, List.set_cons_succ, i64_w, i32_w]
                        rfl
                      refine one_ (i := 2) (N := some 83) #[true, true, true, false, false, false, false] rfl rfl (by kernel_rfl) (by decide) (fun K hK => ?_)
                      refine goes_ Try.func47 (by kernel_rfl) rfl #[.agg #[.int .u64 t989, .int .u64 t990], .agg #[.int .u64 t992, .int .u64 t993]] (by rfl) rfl rfl (by (try simp only [List.map_toArray, List.map_cons, List.map_nil]); first | done | rfl | (simp only [List.length_drop, List.length_take]; rfl)) ?_
                      with_reducible refine (u128_Sub.calls t989 t990 t992 t993 t994 t995 t996 _ A51.out).mono ?_
                      rintro e w85 ⟨rfl, hb⟩
                      refine ⟨_, rfl, ?_⟩
                      have n0_ := Aside0.mk (blk_below (g := gb945) (o := .cells #[.int .u64 t942, .int .u64 t943, .int .u64 t944] 27 (0, 0)) (by (with_reducible repeat (first | refine blk_drewN ?_ _ | refine blk_drew ?_ | refine blk_alloc ?_ _)); exact BK945.out) hb)
                      have n1_ := Aside0.mk (blk_below (g := gb949) (o := .cells #[.int .u64 t946, .int .u64 t947] 25 (0, 0)) (by (with_reducible repeat (first | refine blk_drewN ?_ _ | refine blk_drew ?_ | refine blk_alloc ?_ _)); exact BK949.out) hb)
                      have n2_ := Aside0.mk (blk_below (g := gb953) (o := .cells #[.int .u64 t950, .int .u64 t951] 25 (0, 0)) (by (with_reducible repeat (first | refine blk_drewN ?_ _ | refine blk_drew ?_ | refine blk_alloc ?_ _)); exact BK953.out) hb)
                      have n3_ := Aside0.mk (blk_below (g := gb956) (o := .cells #[.int .u64 x957000_1, .int .u64 x957001_1] 25 (0, 0)) (by (with_reducible repeat (first | refine blk_drewN ?_ _ | refine blk_drew ?_ | refine blk_alloc ?_ _)); exact BK956.out) hb)
                      have n4_ := Aside0.mk (blk_below (g := gb981) (o := .cells #[.int .u64 t989, .int .u64 t990] 25 (0, 0)) (by (with_reducible repeat (first | refine blk_drewN ?_ _ | refine blk_drew ?_ | refine blk_alloc ?_ _)); exact BK981.out) hb)
                      have n5_ := Aside0.mk (blk_below (g := gb988) (o := .cells #[.int .u64 t985, .int .u64 t986] 25 (0, 0)) (by (with_reducible repeat (first | refine blk_drewN ?_ _ | refine blk_drew ?_ | refine blk_alloc ?_ _)); exact BK988.out) hb)
                      have n6_ := Aside0.mk (below_step (by repeat (first | (with_reducible first | exact HB.out | apply below_alloc | apply pw_below_drewN | apply below_drew1 | refine below_set ?_ GE945.out | refine below_set ?_ GE949.out | refine below_set ?_ GE953.out | refine below_set ?_ GE956.out | refine below_set ?_ GE981.out | refine below_set ?_ GE988.out) | exact HB.out)) hb)
                      clear BK945
                      clear BK949
                      clear BK953
                      clear BK956
                      clear BK981
                      clear BK988
                      clear HB
                      have BK945 := n0_
                      have BK949 := n1_
                      have BK953 := n2_
                      have BK956 := n3_
                      have BK981 := n4_
                      have BK988 := n5_
                      have HB := n6_
                      clear n0_ n1_ n2_ n3_ n4_ n5_ n6_
                      (try clear hb)
                      (try clear hb2)
                      (try clear hk)
                      (try clear hi)
                      refine hK.out _ _ ⟨(blk_cell BK981.out 0).trans rfl, (blk_cell BK981.out 1).trans rfl⟩ (fun hHeld => ?_)
                      clear hK K
                      refine norm_ (a' := ?_) ?_ ?_
                      rotate_left
                      · show Act.put _ (some 83) _ = _
                        simp only [Act.put, List.setIfInBounds_toArray, List.set_cons_zero, List.set_cons_succ, i64_w, i32_w]
                        rfl
                      refine pure_ (i := 3) (N := some 80) (v := ?_) (a' := ?_) #[true, true, true, true, false, false, false] rfl rfl (by kernel_rfl) (fun _ _ _ h => h) (Or.inl ⟨by rfl, ?_⟩) ?_ ?_
                      rotate_left
                      · intro w'
                        go_simp
                        with_reducible rfl
                      rotate_left
                      · simp only [Act.put, List.setIfInBounds_toArray, List.set_cons_zero, List.set_cons_succ, i64_w, i32_w]
                        rfl
                      refine pure_ (i := 4) (N := some 84) (v := ?_) (a' := ?_) #[true, true, true, true, true, false, false] rfl rfl (by kernel_rfl) (fun _ _ _ h => h) (Or.inl ⟨by rfl, ?_⟩) ?_ ?_
                      rotate_left
                      · intro w'
                        go_simp
                        with_reducible rfl
                      rotate_left
                      · simp only [Act.put, List.setIfInBounds_toArray, List.set_cons_zero, List.set_cons_succ, i64_w, i32_w]
                        rfl
                      refine pure_ (i := 5) (N := some 85) (v := ?_) (a' := ?_) #[true, true, true, true, true, true, false] rfl rfl (by kernel_rfl) (fun _ _ _ h => h) (Or.inl ⟨by rfl, ?_⟩) ?_ ?_
                      rotate_left
                      · intro w'
                        go_simp
                        with_reducible rfl
                      rotate_left
                      · simp only [Act.put, List.setIfInBounds_toArray, List.set_cons_zero, List.set_cons_succ, i64_w, i32_w]
                        rfl
                      refine last_ (i := 6) (N := none) #[true, true, true, true, true, true, true] rfl rfl (by kernel_rfl) (by decide) (fun K hK => ?_)
                      have hs86 : w85.cell? ⟨gb981, 0, none⟩ = some (.int .u64 t989) := (blk_cell BK981.out 0).trans rfl
                      have hfs86 := blk_frozen BK981.out 0
                      have hns86_0 := NB945_981.out
                      have hns86_1 := NB949_981.out
                      have hns86_2 := NB953_981.out
                      have hns86_3 := NB956_981.out
                      have hns86_5 := NB988_981.out
                      have hms86_0 := NB981_945.out
                      have hms86_1 := NB981_949.out
                      have hms86_2 := NB981_953.out
                      have hms86_3 := NB981_956.out
                      have hms86_5 := NB981_988.out
                      have hs87 : w85.cell? ⟨gb981, 1, none⟩ = some (.int .u64 t990) := (blk_cell BK981.out 1).trans rfl
                      have hfs87 := blk_frozen BK981.out 1
                      have hns87_0 := NB945_981.out
                      have hns87_1 := NB949_981.out
                      have hns87_2 := NB953_981.out
                      have hns87_3 := NB956_981.out
                      have hns87_5 := NB988_981.out
                      have hms87_0 := NB981_945.out
                      have hms87_1 := NB981_949.out
                      have hms87_2 := NB981_953.out
                      have hms87_3 := NB981_956.out
                      have hms87_5 := NB981_988.out
                      refine skip_ (w1 := ?_) (by rfl) rfl ?_ ?_
                      rotate_left
                      · go_simp
                        rfl
                      refine hK.out _ _ ?_
                      clear hK K
                      refine done_ (by kernel_rfl) ?_
                      have hcz88_0 : w85.cell? ⟨gb981, 0, none⟩ = some (.int .u64 t989) := (blk_cell BK981.out 0).trans rfl
                      have hcz88_1 : w85.cell? ⟨gb981, 1, none⟩ = some (.int .u64 t990) := (blk_cell BK981.out 1).trans rfl
                      have hfz88_0 := blk_frozen BK981.out 0
                      have hfz88_1 := blk_frozen BK981.out 1
                      have hcz89_0 : w85.cell? ⟨gb956, 0, none⟩ = some (.int .u64 x957000_1) := (blk_cell BK956.out 0).trans rfl
                      have hcz89_1 : w85.cell? ⟨gb956, 1, none⟩ = some (.int .u64 x957001_1) := (blk_cell BK956.out 1).trans rfl
                      have hfz89_0 := blk_frozen BK956.out 0
                      have hfz89_1 := blk_frozen BK956.out 1
                      try go_wp2
                      go_roundg k1
                      case measure => have := HK1.out; omega
                      case rel => exact ⟨(IntKind.u64.wrap (x9_1 + 1)), (wrap64 (x10_1 + 1)), (t994), (t995), (by first | rfl | (simp; done) | (simp [*]; done)), (by first | rfl | (simp; done) | (simp [*]; done)), H', ⟨by have := HK1.out; omega⟩, ⟨by (with_reducible repeat (first | refine blk_drewN ?_ _ | refine blk_drew ?_ | refine blk_alloc ?_ _)); refine blk_far ?_ NB945_956.out _; (with_reducible repeat (first | refine blk_drewN ?_ _ | refine blk_drew ?_ | refine blk_alloc ?_ _)); refine blk_far ?_ NB945_956.out _; (with_reducible repeat (first | refine blk_drewN ?_ _ | refine blk_drew ?_ | refine blk_alloc ?_ _)); refine blk_far ?_ NB945_981.out _; (with_reducible repeat (first | refine blk_drewN ?_ _ | refine blk_drew ?_ | refine blk_alloc ?_ _)); refine blk_far ?_ NB945_981.out _; (with_reducible repeat (first | refine blk_drewN ?_ _ | refine blk_drew ?_ | refine blk_alloc ?_ _)); exact BK945.out⟩, ⟨by (with_reducible repeat (first | refine blk_drewN ?_ _ | refine blk_drew ?_ | refine blk_alloc ?_ _)); refine blk_far ?_ NB949_956.out _; (with_reducible repeat (first | refine blk_drewN ?_ _ | refine blk_drew ?_ | refine blk_alloc ?_ _)); refine blk_far ?_ NB949_956.out _; (with_reducible repeat (first | refine blk_drewN ?_ _ | refine blk_drew ?_ | refine blk_alloc ?_ _)); refine blk_far ?_ NB949_981.out _; (with_reducible repeat (first | refine blk_drewN ?_ _ | refine blk_drew ?_ | refine blk_alloc ?_ _)); refine blk_far ?_ NB949_981.out _; (with_reducible repeat (first | refine blk_drewN ?_ _ | refine blk_drew ?_ | refine blk_alloc ?_ _)); exact BK949.out⟩, ⟨by (with_reducible repeat (first | refine blk_drewN ?_ _ | refine blk_drew ?_ | refine blk_alloc ?_ _)); refine blk_far ?_ NB953_956.out _; (with_reducible repeat (first | refine blk_drewN ?_ _ | refine blk_drew ?_ | refine blk_alloc ?_ _)); refine blk_far ?_ NB953_956.out _; (with_reducible repeat (first | refine blk_drewN ?_ _ | refine blk_drew ?_ | refine blk_alloc ?_ _)); refine blk_far ?_ NB953_981.out _; (with_reducible repeat (first | refine blk_drewN ?_ _ | refine blk_drew ?_ | refine blk_alloc ?_ _)); refine blk_far ?_ NB953_981.out _; (with_reducible repeat (first | refine blk_drewN ?_ _ | refine blk_drew ?_ | refine blk_alloc ?_ _)); exact BK953.out⟩, ⟨by (with_reducible repeat (first | refine blk_drewN ?_ _ | refine blk_drew ?_ | refine blk_alloc ?_ _)); refine blk_put (cs := #[.int .u64 t994, .int .u64 x957001_1]) ?_ 1 _ rfl; (with_reducible repeat (first | refine blk_drewN ?_ _ | refine blk_drew ?_ | refine blk_alloc ?_ _)); refine blk_put (cs := #[.int .u64 x957000_1, .int .u64 x957001_1]) ?_ 0 _ rfl; (with_reducible repeat (first | refine blk_drewN ?_ _ | refine blk_drew ?_ | refine blk_alloc ?_ _)); refine blk_far ?_ NB956_981.out _; (with_reducible repeat (first | refine blk_drewN ?_ _ | refine blk_drew ?_ | refine blk_alloc ?_ _)); refine blk_far ?_ NB956_981.out _; (with_reducible repeat (first | refine blk_drewN ?_ _ | refine blk_drew ?_ | refine blk_alloc ?_ _)); exact BK956.out⟩, ⟨by repeat (first | (with_reducible first | exact HB.out | apply below_alloc | apply pw_below_drewN | apply below_drew1 | refine below_set ?_ GE945.out | refine below_set ?_ GE949.out | refine below_set ?_ GE953.out | refine below_set ?_ GE956.out | refine below_set ?_ GE981.out | refine below_set ?_ GE988.out) | exact HB.out)⟩⟩
                  · rw [if_neg c29] at H
                    exact absurd H (by simp)
                · rw [if_neg c28] at H
                  have c28b0 : decide (x10_1 < (l0.length : Int)) = false := decide_eq_false c28
                  clear c28
                  obtain rfl := Option.some.inj H
                  have hnb90 := NB945_949.out
                  have hnc90 := NB949_945.out
                  have hnb91 := NB945_953.out
                  have hnc91 := NB953_945.out
                  have hnb92 := NB945_956.out
                  have hnc92 := NB956_945.out
                  have hcz93_0 : wr.cell? ⟨gb945, 0, none⟩ = some (.int .u64 t942) := (blk_cell BK945.out 0).trans rfl
                  have hcz93_1 : wr.cell? ⟨gb945, 1, none⟩ = some (.int .u64 t943) := (blk_cell BK945.out 1).trans rfl
                  have hcz93_2 : wr.cell? ⟨gb945, 2, none⟩ = some (.int .u64 t944) := (blk_cell BK945.out 2).trans rfl
                  have hfz93_0 := blk_frozen BK945.out 0
                  have hfz93_1 := blk_frozen BK945.out 1
                  have hfz93_2 := blk_frozen BK945.out 2
                  have hnb94 := NB956_949.out
                  have hnc94 := NB949_956.out
                  have hnb95 := NB956_953.out
                  have hnc95 := NB953_956.out
                  have hcz96_0 : wr.cell? ⟨gb956, 0, none⟩ = some (.int .u64 x957000_1) := (blk_cell BK956.out 0).trans rfl
                  have hcz96_1 : wr.cell? ⟨gb956, 1, none⟩ = some (.int .u64 x957001_1) := (blk_cell BK956.out 1).trans rfl
                  have hfz96_0 := blk_frozen BK956.out 0
                  have hfz96_1 := blk_frozen BK956.out 1
                  go_wp2
                  go_ret
                  exact ⟨by first | rfl | (simp [errW_none, errW_some] <;> rfl) | (simp [*, errW_none, errW_some] <;> rfl), by repeat (first | (with_reducible first | exact HB.out | apply below_alloc | apply pw_below_drewN | apply below_drew1 | refine below_set ?_ GE945.out | refine below_set ?_ GE949.out | refine below_set ?_ GE953.out | refine below_set ?_ GE956.out) | exact HB.out)⟩
      · rw [if_neg c9] at H
        exact absurd H (by simp)
  · replace c3 := Bool.eq_false_iff.mpr c3
    subst c3
    have H1 : (none) = some r := by rw [if_neg (show ¬ (false = true) by decide)] at H; exact H
    clear H
    have H := H1
    clear H1
    exact absurd H (by simp)
end Go.Proofs.Ytpkjpiphjdpegaa.P
namespace Go.Proofs.Ytpkjpiphjdpegaa.P
open Go.RowKit Go.Proofs.YtpkjpiphjdpegaaW.PrintWords Go.Proofs.YtpkjpiphjdpegaaW.PrintLast Go.Proofs.YtpkjpiphjdpegaaW.PrintMore
set_option linter.unusedVariables false
set_option linter.unusedSimpArgs false
theorem wideNarrow_run (l : List S25) (hl : l.length ≤ 200) (hg : ∀ y ∈ l, U64 y.f0 ∧ U64 y.f1) : ∀ (d i k : Nat), i + d = l.length → d + 10 < k →
    paymasterlaw03_WideNarrow.l0 k l (tot (l.take i) / m128) (i : Int) (encW (tot l)).1 (encW (tot l)).2.1 (encW (tot l)).2.2 (hiOf (tot (l.take i) % m128)) (loOf (tot (l.take i) % m128)) = some true
  | 0, i, k, hi, hk => by
    obtain ⟨k, rfl⟩ : ∃ m, k = m + 1 := ⟨k - 1, by omega⟩
    rw [paymasterlaw03_WideNarrow.l0, if_neg (by omega), List.take_of_length_le (by omega)]
    simp [encW]
  | d + 1, i, k, hi, hk => by
    obtain ⟨k, rfl⟩ : ∃ m, k = m + 1 := ⟨k - 1, by omega⟩
    have hy := hg l[i] (List.getElem_mem _)
    have v := val_range _ _ hy.1 hy.2
    have t0 := tot_le hg i
    have r0 := tot_range _ (good_take hg i)
    have r1 := tot_range _ (good_take hg (i + 1))
    rw [List.length_take, Nat.min_eq_left (by omega)] at r0 r1
    have ts := tot_succ l i (by omega)
    have hm : (0 : Int) < m128 := by unfold m128; omega
    have q1 := Int.emod_nonneg (tot (l.take i)) (show m128 ≠ 0 by omega)
    have q2 := Int.emod_lt_of_pos (tot (l.take i)) hm
    obtain ⟨u1, u2⟩ := u_hiOf _ q1 q2
    have ih := wideNarrow_run l hl hg d (i + 1) k (by omega) (by omega)
    rw [paymasterlaw03_WideNarrow.l0, if_pos (by omega), if_pos (by omega), rd25 l i (by omega), add_num _ _ _ _ u1 u2 hy.1 hy.2, val_halves, wi ((i : Int) + 1) (by omega) (by omega)]
    rw [ts, show ((i + 1 : Nat) : Int) = (i : Int) + 1 by omega] at ih
    generalize hT : tot (l.take i) = T at *
    generalize hV : val l[i].f0 l[i].f1 = V at *
    by_cases h : T % m128 + V < m128
    · have p1 : (T + V) / m128 = T / m128 := by unfold m128 at *; omega
      have p2 : (T + V) % m128 = T % m128 + V := by unfold m128 at *; omega
      rw [p1, p2] at ih
      rw [if_pos h]
      simp only [Option.bind_some]
      rw [if_pos trivial]
      exact ih
    · have p1 : (T + V) / m128 = T / m128 + 1 := by unfold m128 at *; omega
      have p2 : (T + V) % m128 = T % m128 + V - m128 := by unfold m128 at *; omega
      rw [p1, p2] at ih
      have hM : U64 18446744073709551615 := ⟨by omega, by omega⟩
      have h0 : U64 0 := ⟨by omega, by omega⟩
      have h1 : U64 1 := ⟨by omega, by omega⟩
      have vM : val 18446744073709551615 18446744073709551615 = m128 - 1 := by unfold val m128; omega
      have v1 : val 0 1 = 1 := by unfold val; omega
      rw [if_neg h]
      simp only [Option.bind_some, u128_Most.f, u128_Of.f]
      rw [if_neg (by omega), sub_num _ _ _ _ hM hM hy.1 hy.2, hV, vM, if_pos (by omega)]
      simp only [Option.bind_some]
      obtain ⟨w1, w2⟩ := u_hiOf (m128 - 1 - V) (by omega) (by omega)
      rw [sub_num _ _ _ _ u1 u2 w1 w2, val_halves, val_halves, if_pos (by omega)]
      simp only [Option.bind_some]
      obtain ⟨x1, x2⟩ := u_hiOf (T % m128 - (m128 - 1 - V)) (by omega) (by omega)
      rw [sub_num _ _ _ _ x1 x2 h0 h1, val_halves, v1, if_pos (by omega)]
      simp only [Option.bind_some]
      rw [show T % m128 - (m128 - 1 - V) - 1 = T % m128 + V - m128 by omega]
      have hw : IntKind.u64.wrap (T / m128 + 1) = T / m128 + 1 := by
        rw [IntKind.wrap_u64]
        unfold m128 at *
        omega
      rw [hw]
      exact ih
theorem wideNarrow_pure (l : List S25) (hg : ∀ y ∈ l, U64 y.f0 ∧ U64 y.f1) : ∃ k, paymasterlaw03_WideNarrow.f k l = some true := by
  refine ⟨505, ?_⟩
  unfold paymasterlaw03_WideNarrow.f
  rw [awake3 495]
  simp only [Option.bind_some]
  rw [if_pos trivial]
  by_cases h0 : (l.length : Int) > 200
  · rw [if_pos h0]
  have hz : U64 0 := ⟨by omega, by omega⟩
  have t := tot_small l hg (by omega)
  have hm : (0 : Int) < m128 := by unfold m128; omega
  have run := wideNarrow_run l (by omega) hg l.length 0 505 (by omega) (by omega)
  rw [List.take_zero, tot_nil, show (0 : Int) / m128 = 0 by unfold m128; omega, show (0 : Int) % m128 = 0 by unfold m128; omega] at run
  have run' : paymasterlaw03_WideNarrow.l0 505 l 0 0 (encW (tot l)).1 (encW (tot l)).2.1 (encW (tot l)).2.2 0 0 = some true := run
  have v0 : val 0 0 + tot l = tot l := by unfold val; omega
  have s : u128_Sum.f 505 l = if tot l < m128 then some (hiOf (tot l), loOf (tot l), 0) else some (0, 0, 10) := by
    rw [sum_is l (by omega) 505 (by omega), sfold_is l hg 0 0 hz hz, v0]
  rw [if_neg h0, all_is l hg (by omega) 505 (by omega)]
  simp only [Option.bind_some]
  unfold wide_Wide_Narrow.f
  rw [s]
  by_cases h : tot l < m128
  · have e0 : (encW (tot l)).1 = 0 := by unfold encW m128 at *; simp only; omega
    have e1 : (encW (tot l)).2.1 = hiOf (tot l) := by unfold encW m128 at *; simp only; rw [Int.emod_eq_of_lt t.1 h]
    have e2 : (encW (tot l)).2.2 = loOf (tot l) := by unfold encW m128 at *; simp only; rw [Int.emod_eq_of_lt t.1 h]
    rw [if_pos e0, if_pos h]
    simp only [Option.bind_some]
    rw [if_pos trivial, if_neg (by simp [e1, e2]), if_neg (by simp [e0])]
    exact run'
  · have e0 : (encW (tot l)).1 ≠ 0 := by unfold encW m128 at *; simp only; omega
    rw [if_neg e0, if_neg h]
    simp only [Option.bind_some]
    rw [if_pos trivial, if_neg (by simp), if_neg (by simp [e0])]
    exact run'
theorem wideNarrow_walk {w : World} (A0 : Option Addr) (c0 : Nat) (l0 : List S25) (hr0 : k25.C w A0 l0.length l0) (hc0 : l0.length ≤ c0) (g0 : ∀ y ∈ l0, U64 y.f0 ∧ U64 y.f1) :
    Calls Try.prog 11 #[.slice A0 l0.length c0] w fun e w' => e = .returned (.bool true) ∧ Below w.heap.size w w' := by
  obtain ⟨k, h⟩ := wideNarrow_pure l0 g0
  exact paymasterlaw03_WideNarrow.calls k A0 c0 l0 true w hr0 hc0 h
end Go.Proofs.Ytpkjpiphjdpegaa.P
namespace Go.Proofs.Ytpkjpiphjdpegaa.wideNarrow
open Go.ChangeShapes Go.WideShapes Go.ChangeAt Go.RowKit Go.Proofs.Ytpkjpiphjdpegaa.P
open Go.ChangeMaps (open_string shut_string)
set_option linter.unusedVariables false
theorem own : ownKnob Try.prog.godebug = none := by kernel_rfl
theorem laidOut : laidOutB Try.prog = true := by kernel_rfl
set_option maxRecDepth 100000 in
theorem lifted (os : Os) (started : os.Started) (H : Type) (enc : TypeId × Value → H) :
    ReturnsInHanded {} Try.checked os 11 .any (Rows.wideNarrowSpec.pre6 enc Try.prog Try.f11 Rows.wideNarrowRow.domain false) (Rows.wideNarrowSpec.post enc Try.prog Try.f11 false true false false) := by
  refine returnsInHanded_of_change_sized (C := Try.checked) own started (by kernel_rfl) Try.func11
    (ChangeSpec.witness6 (enc := enc) (C := Try.checked) false ⟨#[], #[.slice none 0 0], []⟩ 8 (by kernel_rfl) (by kernel_rfl) (by kernel_rfl) (by kernel_rfl)) ?_
  intro W base args ds gs before hval0 hW hcnd hsz0 _
  have hval : ∀ (j : Nat) t v, Try.f11.params[j]? = some t → args[j]? = some v → Value.okWide Try.prog W .any base t v := hval0
  have hW' := hW
  obtain ⟨p, q, hA0, hV, rfl, hfz, hnd⟩ := hW
  have hA : DataW.TrodAll enc Try.prog W 0 (fun _ => true) true Try.f11.params.toList args.toList ds p := hA0
  rw [Try.params11] at hA hval
  have hAll := hA
  obtain ⟨v0, vs0, d0, ds0, p0, q0, hargs, rfl, rfl, h0, r0⟩ := trodAll_cons hA
  obtain ⟨rfl, rfl, rfl⟩ := trodAll_nil r0
  obtain rfl : args = #[v0] := by cases args; simp_all
  obtain ⟨rfl, rfl⟩ := trodVars_none hV
  obtain ⟨A0, c0, l0, rfl, hc0, hr0, g0⟩ := arg_row25 (hval 0 22 v0 rfl rfl) h0
  clear hA0 hval0 hsz0
  refine (wideNarrow_walk (w := W) A0 c0 l0 hr0 hc0 g0).mono fun e W' ⟨he, bel⟩ => ?_
  subst he
  exact ⟨_, rfl, _, _, _, [], _, [], hW', trodAll_mk1 (shut_bool Try.underlying4 _), args_back laidOut bel (by kernel_rfl) hAll, rfl, bel.frame _, fun h => by cases h⟩
theorem both {a b : Bool} (h : a = true) (k : b = true) : (a && b) = true := by rw [h, k]; rfl
theorem c0 : (Rows.wideNarrowRow.wf (OpenSpec.ofChange Rows.wideNarrowSpec)) = true := by kernel_rfl
theorem c1 : (laidOutB Try.prog) = true := by kernel_rfl
theorem c2 : (mapsRowed Try.prog) = true := by kernel_rfl
theorem c3 : (Try.f11.params.all (Try.prog.readableRec ·)) = true := by kernel_rfl
theorem c4 : (namedTie Try.prog Rows.wideNarrowRow.named Rows.wideNarrowSpec.vars) = true := by kernel_rfl
theorem c5 : ((Rows.wideNarrowRow.stops == [])) = true := by kernel_rfl
theorem c6 : ((Try.prog.stops == [])) = true := by kernel_rfl
theorem c7 : ((Rows.wideNarrowRow.knobs == [])) = true := by kernel_rfl
theorem c8 : ((Try.prog.stopKnobs == [])) = true := by kernel_rfl
theorem c9 : ((Rows.wideNarrowRow.inPlace == Try.prog.inPlace 11)) = true := by kernel_rfl
theorem c10 : ((Rows.wideNarrowRow.unfollowed == Try.prog.unfollowed 11)) = true := by kernel_rfl
theorem c11 : ((Rows.wideNarrowRow.recurses == Try.prog.recurses 11)) = true := by kernel_rfl
theorem c12 : ((Rows.wideNarrowRow.named == Try.prog.varsNamed 11)) = true := by kernel_rfl
theorem c13 : ((Rows.wideNarrowRow.maps == (Try.f11.params.toList ++ Rows.wideNarrowSpec.plain.varTypes Try.prog).any (Try.prog.mapsRec ·))) = true := by kernel_rfl
theorem c14 : ((Rows.wideNarrowRow.ifaces == (Try.f11.params.toList ++ Rows.wideNarrowSpec.plain.varTypes Try.prog).any (Try.prog.ifacesRec ·))) = true := by kernel_rfl
theorem c15 : ((Rows.wideNarrowRow.mapsOut == Try.prog.mapsAmong Try.f11.resultTypes.toList)) = true := by kernel_rfl
theorem c16 : ((Rows.wideNarrowRow.loops == (Try.f11.params.toList ++ Rows.wideNarrowSpec.plain.varTypes Try.prog).any (Try.prog.loopsFrom ·))) = true := by kernel_rfl
theorem c17 : ((Rows.wideNarrowRow.wideKeys == (Try.f11.params.toList ++ Rows.wideNarrowSpec.plain.varTypes Try.prog ++ Try.f11.resultTypes.toList).any (Try.prog.wideKeysFrom ·))) = true := by kernel_rfl
theorem c18 : (Rows.wideNarrowSpec.vars.all (Try.prog.varReadable ·)) = true := by kernel_rfl
theorem c19 : (Try.f11.resultTypes.all (fun t => Try.prog.readableRec t && decide (t < Try.prog.types.size))) = true := by kernel_rfl
theorem c20 : ((Rows.wideNarrowRow.ifacesOut == Try.f11.resultTypes.toList.any (Try.prog.ifacesRec ·))) = true := by kernel_rfl
theorem c21 : ((Rows.wideNarrowRow.loopsOut == Try.f11.resultTypes.toList.any (Try.prog.loopsFrom ·))) = true := by kernel_rfl
theorem c22 : ((Rows.wideNarrowRow.plainKeys == Try.prog.plainKeys)) = true := by kernel_rfl
theorem c23 : (Rows.wideNarrowRow.shortTexts.isNone) = true := by kernel_rfl
theorem c24 : (Try.prog.stopsHeard) = true := by kernel_rfl
theorem c25 : (Try.prog.mayEnter) = true := Facts.mayEnter
theorem c26 : ((Rows.wideNarrowRow.lifted == Try.prog.liftsFinal)) = true := by rw [Facts.liftsFinal]; kernel_rfl
theorem c27 : ((Try.prog.make == some Rows.wideNarrowRow.make)) = true := by rw [Facts.make]; kernel_rfl
theorem c28 : ((Rows.wideNarrowRow.kinds == (if Rows.wideNarrowRow.domain.isEmpty then [] else Try.f11.params.toList.map fun t => match Try.prog.underlying t with | some (.int k) => some k | _ => none))) = true := by kernel_rfl
theorem c29 : ((Rows.wideNarrowRow.pinned == Rows.wideNarrowRow.pinnedBy)) = true := by kernel_rfl
theorem c30 : ((Rows.wideNarrowRow.veiled == (Try.f11.params.toList ++ Rows.wideNarrowSpec.plain.varTypes Try.prog ++ Try.f11.resultTypes.toList).any (Try.prog.veiledRec ·))) = true := by kernel_rfl
theorem c31 : (Rows.wideNarrowRow.veiledFits Try.prog Try.f11.params.toList (Try.f11.params.toList ++ Rows.wideNarrowSpec.plain.varTypes Try.prog ++ Try.f11.resultTypes.toList)) = true := by kernel_rfl
set_option maxRecDepth 100000 in
theorem closed : joinedFacts Try.prog 11 Try.f11 Rows.wideNarrowSpec Rows.wideNarrowRow = true := by
  unfold joinedFacts
  exact both (both (both (both (both (both (both (both (both (both (both (both (both (both (both (both (both (both (both (both (both (both (both (both (both (both (both (both (both (both (both (c0) c1) c2) c3) c4) c5) c6) c7) c8) c9) c10) c11) c12) c13) c14) c15) c16) c17) c18) c19) c20) c21) c22) c23) c24) c25) c26) c27) c28) c29) c30) c31
theorem over : Rows.wideNarrowRow.holds Try.pinned (OpenSpec.ofChange Rows.wideNarrowSpec) :=
  OpenClaim.holds_of_wide 11 Try.f11 rfl rfl rfl rfl rfl rfl rfl ⟨rfl, rfl, rfl, rfl, rfl⟩ rfl rfl rfl rfl rfl (by kernel_rfl) Try.func11 closed
    (of_decide_eq_true (by kernel_rfl)) (by unfold Func.isWrapper; first | (rw [if_pos (by decide +kernel)]; kernel_rfl) | (rw [if_neg (by decide +kernel)]; exact ⟨rfl, rfl⟩))
    (fun os started H enc _ => lifted os started H enc)
end Go.Proofs.Ytpkjpiphjdpegaa.wideNarrow
namespace Go.Proofs.Ytpkjpiphjdpegaa
theorem wideNarrow_holds : Rows.WideNarrowSaid := wideNarrow.over
end Go.Proofs.Ytpkjpiphjdpegaa
