/- A program of this session wrote this text out of the session's own texts. (part 4 of 4) -/
import Derived.Test.YtpkjpiphjdpegaaCWideOrders3
namespace Go.Proofs.Ytpkjpiphjdpegaa.P
open Go.RowKit Go.Proofs.YtpkjpiphjdpegaaW.PrintWords Go.Proofs.YtpkjpiphjdpegaaW.PrintLast Go.Proofs.YtpkjpiphjdpegaaW.PrintMore
attribute [local go_sem] max2_int min2_int max_two min_two max_three min_three max_four min_four
set_option linter.unusedVariables false
set_option linter.unusedSimpArgs false
attribute [local go_sem high] eqA25 eqA27
mutual
def paymasterlaw03_WideOrders.l0 : Nat → List (S25) → Int → List (S25) → Int → Option (Bool)
  | 0, _, _, _, _ => none
  | k + 1, x0, x1, x5, x6 => if x6 ≥ 0 then (if 0 ≤ x6 then (if x6 < (x0.length : Int) then (if x5.length < 8796093022208 then (paymasterlaw03_WideOrders.l0 k x0 x1 (x5 ++ [(⟨(rd_T25 x0 x6).f0, (rd_T25 x0 x6).f1⟩ : S25)]) (wrap64 (x6 - 1))) else (none)) else (none)) else (none)) else (if (IntKind.u64.wrap (wrap64 ((x0.length : Int) + 1))) = 0 then (none) else ((wide_All.f k x0).bind fun bt614 => ((wide_All.f k x5).bind fun bt618 => (if (!(bt618.1 == bt614.1) || ((!(bt618.2.1 == bt614.2.1) || (!(bt618.2.2 == bt614.2.2))))) = true then (none) else (if 0 ≤ (wrap64 (Int.tmod (IntKind.u64.wrap (x1)) (IntKind.u64.wrap (wrap64 ((x0.length : Int) + 1))))) then (if (wrap64 (Int.tmod (IntKind.u64.wrap (x1)) (IntKind.u64.wrap (wrap64 ((x0.length : Int) + 1))))) ≤ (x0.length : Int) then ((wide_All.f k (x0.take ((wrap64 (Int.tmod (IntKind.u64.wrap (x1)) (IntKind.u64.wrap (wrap64 ((x0.length : Int) + 1))))) : Int).toNat)).bind fun bt625 => ((wide_All.f k (x0.drop ((wrap64 (Int.tmod (IntKind.u64.wrap (x1)) (IntKind.u64.wrap (wrap64 ((x0.length : Int) + 1))))) : Int).toNat)).bind fun bt632 => ((wide_Wide_And.f bt625.1 bt625.2.1 bt625.2.2 bt632.1 bt632.2.1 bt632.2.2).bind fun bt635 => (if (!(bt635.1 == bt614.1) || ((!(bt635.2.1 == bt614.2.1) || (!(bt635.2.2 == bt614.2.2))))) = true then (none) else ((wide_All.f k (x0.drop ((wrap64 (Int.tmod (IntKind.u64.wrap (x1)) (IntKind.u64.wrap (wrap64 ((x0.length : Int) + 1))))) : Int).toNat)).bind fun bt642 => ((wide_All.f k (x0.take ((wrap64 (Int.tmod (IntKind.u64.wrap (x1)) (IntKind.u64.wrap (wrap64 ((x0.length : Int) + 1))))) : Int).toNat)).bind fun bt649 => ((wide_Wide_And.f bt642.1 bt642.2.1 bt642.2.2 bt649.1 bt649.2.1 bt649.2.2).bind fun bt652 => (if (!(bt652.1 == bt614.1) || ((!(bt652.2.1 == bt614.2.1) || (!(bt652.2.2 == bt614.2.2))))) = true then (none) else ((wide_Balanced.f k x0 x5).bind fun t655 => (if t655 = true then (paymasterlaw03_WideOrders.l1 k x0 0 bt614.1 bt614.2.1 bt614.2.2 0 0 0) else (none))))))))))) else (none)) else (none))))))
def paymasterlaw03_WideOrders.l1 : Nat → List (S25) → Int → Int → Int → Int → Int → Int → Int → Option (Bool)
  | 0, _, _, _, _, _, _, _, _ => none
  | k + 1, x0, x10, x618000, x618001, x618002, x659000, x659001, x659002 => if x10 < (x0.length : Int) then (if 0 ≤ x10 then ((wide_Wide_Plus.f x659000 x659001 x659002 ((rd_T25 x0 x10).f0) ((rd_T25 x0 x10).f1)).bind fun bt668 => ((wide_Less.f k x659000 x659001 x659002 bt668.1 bt668.2.1 bt668.2.2).bind fun t672 => (if (t672 != (!(((rd_T25 x0 x10).f0) == 0) || (!(((rd_T25 x0 x10).f1) == 0)))) = true then (none) else ((wide_Less.f k bt668.1 bt668.2.1 bt668.2.2 x659000 x659001 x659002).bind fun t674 => (if t674 = true then (none) else (paymasterlaw03_WideOrders.l1 k x0 (wrap64 (x10 + 1)) x618000 x618001 x618002 bt668.1 bt668.2.1 bt668.2.2)))))) else (none)) else (some (x659000 == x618000 && ((x659001 == x618001 && (x659002 == x618002)))))
end
def paymasterlaw03_WideOrders.f (k : Nat) (l0 : List (S25)) (a1 : Int) : Option (Bool) := (paymasterlaw03_awake.f k).bind fun t568 => (if t568 = true then (if (l0.length : Int) > 200 then (some true) else (paymasterlaw03_WideOrders.l0 k l0 a1 ([] : List (S25)) (wrap64 ((l0.length : Int) - 1)))) else (none))
def paymasterlaw03_WideOrders.T12 : Bool × List (List Nat × List Nat) := (true, [([], []), ([0], [0]), ([], []), ([1, 2], [1, 2]), ([3, 1], [3]), ([4], [4]), ([4], [4]), ([5, 6, 4], [4, 5, 6]), ([7, 4, 4], [4, 7]), ([4], [4]), ([4], [4]), ([9, 10, 4], [4, 9, 10]), ([11, 8, 4], [4, 11]), ([8, 12, 12, 4], [4, 8, 12]), ([4], [4]), ([13, 14, 4], [4, 13, 14]), ([4, 15], [4, 15]), ([16, 13], [16]), ([17], [17]), ([17], [17]), ([18, 19, 17], [17, 18, 19]), ([20, 17, 17], [17, 20]), ([17], [17]), ([17], [17]), ([22, 23, 17], [17, 22, 23]), ([24, 21, 17], [17, 24]), ([21, 25, 25, 17], [17, 21, 25]), ([17], [17]), ([26, 27, 17], [17, 26, 27]), ([17, 28], [17, 28]), ([29, 26], [29]), ([30], [30]), ([30], [30]), ([31, 32, 30, 30], [30, 31, 32]), ([33, 30], [30, 33]), ([30, 34], [30, 34])])
def paymasterlaw03_WideOrders.B12 : List Nat := [0, 1, 0, 7, 15, 31, 31, 127, 255, 31, 31, 1567, 4095, 8191, 31, 32767, 65535, 131071, 262143, 262143, 1048575, 2097151, 262143, 262143, 12845055, 33554431, 67108863, 262143, 268435455, 536870911, 1073741823, 2147483647, 2147483647, 8589934591, 17179869183, 34359738367]
theorem paymasterlaw03_WideOrders.tab12 : rtab .any (opsOf Try.f7 12) = paymasterlaw03_WideOrders.T12 := by kernel_rfl
theorem paymasterlaw03_WideOrders.bits12 : waitsOk paymasterlaw03_WideOrders.T12.2 paymasterlaw03_WideOrders.B12 = true := by kernel_rfl
def paymasterlaw03_WideOrders.T18 : Bool × List (List Nat × List Nat) := (true, [([], []), ([], []), ([], []), ([1, 2], [1, 2]), ([3], [3]), ([0, 4], [0, 4]), ([], []), ([6, 5, 5, 0, 1, 2, 3, 4, 5, 6], [5, 6])])
def paymasterlaw03_WideOrders.B18 : List Nat := [0, 0, 0, 6, 14, 31, 0, 127]
theorem paymasterlaw03_WideOrders.tab18 : rtab .any (opsOf Try.f7 18) = paymasterlaw03_WideOrders.T18 := by kernel_rfl
theorem paymasterlaw03_WideOrders.bits18 : waitsOk paymasterlaw03_WideOrders.T18.2 paymasterlaw03_WideOrders.B18 = true := by kernel_rfl
def paymasterlaw03_WideOrders.T19 : Bool × List (List Nat × List Nat) := (true, [([], []), ([], []), ([0, 1], [0, 1]), ([], []), ([], []), ([3, 4], [3, 4]), ([5], [5]), ([], []), ([6, 7], [6, 7]), ([2, 8], [2, 8]), ([9, 2], [9]), ([10], [10]), ([10], [10]), ([11, 12, 10, 10], [10, 11, 12]), ([10, 13], [10, 13])])
def paymasterlaw03_WideOrders.B19 : List Nat := [0, 0, 3, 0, 0, 24, 56, 0, 248, 511, 1023, 2047, 2047, 8191, 16383]
theorem paymasterlaw03_WideOrders.tab19 : rtab .any (opsOf Try.f7 19) = paymasterlaw03_WideOrders.T19 := by kernel_rfl
theorem paymasterlaw03_WideOrders.bits19 : waitsOk paymasterlaw03_WideOrders.T19.2 paymasterlaw03_WideOrders.B19 = true := by kernel_rfl
set_option maxHeartbeats 8000000 in
set_option maxRecDepth 100000 in
theorem paymasterlaw03_WideOrders.calls (k : Nat) (A0 : Option Addr) (c0 : Nat) (l0 : List (S25)) (a1 : Int) (r : Bool) (w : World) (hr0 : Kd.C k25 w A0 l0.length l0) (hc0 : l0.length ≤ c0) (h : paymasterlaw03_WideOrders.f k l0 a1 = some r) :
    Calls Try.prog 7 #[.slice A0 l0.length c0, .int .i64 a1] w fun e w' => e = .returned (.bool r) ∧ Below w.heap.size w w' := by
  have hu25 := Try.underlying25
  have hu27 := Try.underlying27
  have HR0 := Aside0.mk hr0
  have HC0 := Aside0.mk hc0
  have KC0 := Aside0.mk hc0
  clear hr0 hc0
  have HB := Aside0.mk (Below.refl w.heap.size w)
  have H : ((paymasterlaw03_awake.f k).bind fun t568 => (if t568 = true then (if (l0.length : Int) > 200 then (some true) else (paymasterlaw03_WideOrders.l0 k l0 a1 ([] : List (S25)) (wrap64 ((l0.length : Int) - 1)))) else (none))) = some r := h
  clear h
  replace H := Option.bind_eq_some_iff.mp H
  obtain ⟨t568, A30, H⟩ := H
  replace H : (if t568 = true then (if (l0.length : Int) > 200 then (some true) else (paymasterlaw03_WideOrders.l0 k l0 a1 ([] : List (S25)) (wrap64 ((l0.length : Int) - 1)))) else (none)) = some r := H
  have A3 := Aside0.mk A30
  clear A30
  by_cases c4 : t568 = true
  · subst c4
    have H1 : (if (l0.length : Int) > 200 then (some true) else (paymasterlaw03_WideOrders.l0 k l0 a1 ([] : List (S25)) (wrap64 ((l0.length : Int) - 1)))) = some r := by rw [if_pos rfl] at H; exact H
    clear H
    have H := H1
    clear H1
    by_cases c5 : (l0.length : Int) > 200
    · rw [if_pos c5] at H
      have c5b0 : decide (200 < (l0.length : Int)) = true := decide_eq_true c5
      have c5b1 : decide (200 < l0.length) = true := decide_eq_true (by omega)
      clear c5
      obtain rfl := Option.some.inj H
      go_enter Try.func7, Try.ntmps7
      go_wp2_with (first | ((with_reducible refine gate_callee (f := 55) rfl ?_); refine goesL_ (some 12) rfl rfl Try.func55 (by kernel_rfl) rfl #[] rfl (by (try simp only [List.map_toArray, List.map_cons, List.map_nil]); first | done | rfl | (simp only [List.length_drop, List.length_take]; rfl)) ?_; (with_reducible refine (paymasterlaw03_awake.calls k  true _ A3.out).mono ?_); rintro e w6 ⟨rfl, hb⟩; refine ⟨_, rfl, ?_⟩; have n0_ := Aside0.mk (below_step (by repeat (first | (with_reducible first | exact HB.out | apply below_alloc | apply pw_below_drewN | apply below_drew1) | exact HB.out)) hb); clear HB; have HB := n0_; clear n0_; (try clear hb); (try clear hb2); (try clear hk); (try clear hi)))
      go_ret
      exact ⟨by first | rfl | (simp [errW_none, errW_some] <;> rfl) | (simp [*, errW_none, errW_some] <;> rfl), by repeat (first | (with_reducible first | exact HB.out | apply below_alloc | apply pw_below_drewN | apply below_drew1) | exact HB.out)⟩
    · rw [if_neg c5] at H
      have c5b0 : decide (200 < (l0.length : Int)) = false := decide_eq_false c5
      have c5b1 : decide (200 < l0.length) = false := decide_eq_false (by omega)
      clear c5
      have H' := Aside0.mk H
      clear H
      go_enter Try.func7, Try.ntmps7
      go_wp2_with (first | ((with_reducible refine gate_callee (f := 55) rfl ?_); refine goesL_ (some 12) rfl rfl Try.func55 (by kernel_rfl) rfl #[] rfl (by (try simp only [List.map_toArray, List.map_cons, List.map_nil]); first | done | rfl | (simp only [List.length_drop, List.length_take]; rfl)) ?_; (with_reducible refine (paymasterlaw03_awake.calls k  true _ A3.out).mono ?_); rintro e w7 ⟨rfl, hb⟩; refine ⟨_, rfl, ?_⟩; have n0_ := Aside0.mk (below_step (by repeat (first | (with_reducible first | exact HB.out | apply below_alloc | apply pw_below_drewN | apply below_drew1) | exact HB.out)) hb); clear HB; have HB := n0_; clear n0_; (try clear hb); (try clear hb2); (try clear hk); (try clear hi)))
      go_loopg [5, 6] k (fun kq v5 v6 w' => ∃ (x5_1 : List (S25)) (x6_1 : Int), v6 = .int .i64 x6_1 ∧ Aside0 (paymasterlaw03_WideOrders.l0 kq l0 a1 x5_1 x6_1 = some r) ∧ Aside0 (kq ≤ k) ∧ Aside0 (Kd.R k25 25 w' w.heap.size (fun _ => True) v5 x5_1) ∧ Aside0 (Below w.heap.size w w'))
      case atStart => exact ⟨(([] : List (S25))), (wrap64 ((l0.length : Int) - 1)), (by first | rfl | (simp; done) | (simp [*]; done)), H', ⟨Nat.le_refl _⟩, ⟨by first | exact Kd.R_nil _ _ _ _ _ | exact Kd.N_nil _ _ _ _ _ | exact Kd.V_nil _ _ _ _ _ | exact Kd.Q_nil _ _ _ _ _ | exact Kd.S_nil _ _ _ _ _⟩, ⟨by repeat (first | (with_reducible first | exact HB.out | apply below_alloc | apply pw_below_drewN | apply below_drew1) | exact HB.out)⟩⟩
      case round =>
        clear H'
        try clear p2
        try clear c4
        try clear c5
        try clear c5b0
        try clear c5b1
        try clear p6
        try clear c7
        obtain ⟨x5_1, x6_1, rfl, HA, HK1, HO_5, HB⟩ := hrel
        cases gk with
        | zero => exact absurd HA.out (by simp [paymasterlaw03_WideOrders.l0])
        | succ k1 =>
          have H := HA.out
          clear HA
          simp only [paymasterlaw03_WideOrders.l0] at H
          by_cases c8 : x6_1 ≥ 0
          · rw [if_pos c8] at H
            have c8b0 : decide (0 ≤ x6_1) = true := decide_eq_true c8
            clear c8
            by_cases c9 : 0 ≤ x6_1
            · rw [if_pos c9] at H
              have c9b0 : decide (0 ≤ x6_1) = true := decide_eq_true c9
              clear c9
              by_cases c10 : x6_1 < (l0.length : Int)
              · rw [if_pos c10] at H
                have c10b0 : decide (x6_1 < (l0.length : Int)) = true := decide_eq_true c10
                clear c10
                by_cases c11 : x5_1.length < 8796093022208
                · rw [if_pos c11] at H
                  have LMc11 := Aside0.mk c11
                  clear c11
                  obtain ⟨y570, hy570⟩ : ∃ y_ : List (S25), y_ = (x5_1 ++ [(⟨(rd_T25 l0 x6_1).f0, (rd_T25 l0 x6_1).f1⟩ : S25)]) := ⟨_, rfl⟩
                  replace H : (paymasterlaw03_WideOrders.l0 k1 l0 a1 y570 (wrap64 (x6_1 - 1))) = some r := by first | (rw [hy570]; with_reducible exact H) | (have H2_ := (Option.bind_some _ _).symm.trans H; rw [hy570]; with_reducible exact H2_) | (have H2_ := (Option.bind_some _ _).symm.trans H; with_reducible exact H2_) | with_reducible exact H | (rw [hy570]; exact H) | exact H
                  have Ny570 := Aside0.mk hy570
                  clear hy570
                  have H' := Aside0.mk H
                  clear H
                  have p569 : 0 ≤ (x6_1 : Int) := of_decide_eq_true (by first | (with_reducible assumption) | assumption)
                  have q569 : x6_1 < (l0.length : Int) := of_decide_eq_true (by first | (with_reducible assumption) | assumption)
                  obtain ⟨ad569, e569, hx569_0, hx569_1⟩ := at_T25 HR0.out x6_1 p569 q569
                  cases e569
                  replace hx569_0 := (HB.out.cell (World.block_lt_of_cell? w _ hx569_0)).trans hx569_0
                  replace hx569_1 := (HB.out.cell (World.block_lt_of_cell? w _ hx569_1)).trans hx569_1
                  replace p569 := eq_true p569
                  replace q569 := eq_true q569
                  go_wp2_with (first | ((with_reducible refine gate_builtin (b := .append) (xs := #[.tmp 24, .tmp 29]) rfl ?_); at_builtin; refine Kd.R_append k25 (w0 := w) w.heap.size rfl (.tmp 24) (.tmp 29) 22 25 (.agg #[(.int .u64 0), (.int .u64 0)]) 16 rfl Try.underlying22 info25 rfl (by decide) (by omega) u5 x5_1 (⟨(rd_T25 l0 x6_1).f0, (rd_T25 l0 x6_1).f1⟩ : S25) [.int .u64 ((rd_T25 l0 x6_1).f0), .int .u64 ((rd_T25 l0 x6_1).f1)] (fun _ => True) (fun _ => False) rfl rfl ?aP (fun _ hk => hk.elim) ?aF ?aO ?aB ?aS ?aL ?_; (case aP => exact k25_mkM _ _ _ (⟨(rd_T25 l0 x6_1).f0, (rd_T25 l0 x6_1).f1⟩ : S25)); (case aB => exact (by repeat (first | (with_reducible first | exact HB.out | apply below_alloc | apply pw_below_drewN | apply below_drew1) | exact HB.out))); (case aF => exact (fun _ _ => trivial)); (case aO => exact (by (with_reducible repeat (first | apply Kd.R_alloc | apply Kd.R_drewN | apply Kd.R_drew)); exact HO_5.out)); (case aS => exact (below_size (by repeat (first | (with_reducible first | exact HB.out | apply below_alloc | apply pw_below_drewN | apply below_drew1) | exact HB.out)))); (case aL => have := LMc11.out; omega); intro v571 w12 ho hb hg hat; rw [← Ny570.out] at ho; have n0_ := Aside0.mk (hb); have n1_ := Aside0.mk (ho); clear HB; clear HO_5; have HB := n0_; have HO572 := n1_; clear n0_ n1_; clear ho hb hg hat))
                  go_roundg k1
                  case measure => have := HK1.out; omega
                  case rel => exact ⟨(y570), (wrap64 (x6_1 - 1)), (by first | rfl | (simp; done) | (simp [*]; done)), H', ⟨by have := HK1.out; omega⟩, ⟨by (with_reducible repeat (first | apply Kd.R_alloc | apply Kd.R_drewN | apply Kd.R_drew)); exact HO572.out⟩, ⟨by repeat (first | (with_reducible first | exact HB.out | apply below_alloc | apply pw_below_drewN | apply below_drew1) | exact HB.out)⟩⟩
                · rw [if_neg c11] at H
                  exact absurd H (by simp)
              · rw [if_neg c10] at H
                exact absurd H (by simp)
            · rw [if_neg c9] at H
              exact absurd H (by simp)
          · rw [if_neg c8] at H
            have c8b0 : decide (0 ≤ x6_1) = false := decide_eq_false c8
            clear c8
            by_cases c13 : (IntKind.u64.wrap (wrap64 ((l0.length : Int) + 1))) = 0
            · rw [if_pos c13] at H
              exact absurd H (by simp)
            · rw [if_neg c13] at H
              have c13b0 : ((IntKind.u64.wrap (wrap64 ((l0.length : Int) + 1))) == 0) = false := beq_eq_false_iff_ne.mpr c13
              have c13b1 : ((IntKind.u64.wrap (wrap64 ((l0.length : Int) + 1))) != 0) = true := bne_iff_ne.mpr c13
              replace H := Option.bind_eq_some_iff.mp H
              obtain ⟨⟨t614, t615, t616⟩, A140, H⟩ := H
              replace H : ((wide_All.f k1 x5_1).bind fun bt618 => (if (!(bt618.1 == t614) || ((!(bt618.2.1 == t615) || (!(bt618.2.2 == t616))))) = true then (none) else (if 0 ≤ (wrap64 (Int.tmod (IntKind.u64.wrap (a1)) (IntKind.u64.wrap (wrap64 ((l0.length : Int) + 1))))) then (if (wrap64 (Int.tmod (IntKind.u64.wrap (a1)) (IntKind.u64.wrap (wrap64 ((l0.length : Int) + 1))))) ≤ (l0.length : Int) then ((wide_All.f k1 (l0.take ((wrap64 (Int.tmod (IntKind.u64.wrap (a1)) (IntKind.u64.wrap (wrap64 ((l0.length : Int) + 1))))) : Int).toNat)).bind fun bt625 => ((wide_All.f k1 (l0.drop ((wrap64 (Int.tmod (IntKind.u64.wrap (a1)) (IntKind.u64.wrap (wrap64 ((l0.length : Int) + 1))))) : Int).toNat)).bind fun bt632 => ((wide_Wide_And.f bt625.1 bt625.2.1 bt625.2.2 bt632.1 bt632.2.1 bt632.2.2).bind fun bt635 => (if (!(bt635.1 == t614) || ((!(bt635.2.1 == t615) || (!(bt635.2.2 == t616))))) = true then (none) else ((wide_All.f k1 (l0.drop ((wrap64 (Int.tmod (IntKind.u64.wrap (a1)) (IntKind.u64.wrap (wrap64 ((l0.length : Int) + 1))))) : Int).toNat)).bind fun bt642 => ((wide_All.f k1 (l0.take ((wrap64 (Int.tmod (IntKind.u64.wrap (a1)) (IntKind.u64.wrap (wrap64 ((l0.length : Int) + 1))))) : Int).toNat)).bind fun bt649 => ((wide_Wide_And.f bt642.1 bt642.2.1 bt642.2.2 bt649.1 bt649.2.1 bt649.2.2).bind fun bt652 => (if (!(bt652.1 == t614) || ((!(bt652.2.1 == t615) || (!(bt652.2.2 == t616))))) = true then (none) else ((wide_Balanced.f k1 l0 x5_1).bind fun t655 => (if t655 = true then (paymasterlaw03_WideOrders.l1 k1 l0 0 t614 t615 t616 0 0 0) else (none))))))))))) else (none)) else (none)))) = some r := H
              have A14 := Aside0.mk A140
              clear A140
              replace H := Option.bind_eq_some_iff.mp H
              obtain ⟨⟨t618, t619, t620⟩, A150, H⟩ := H
              replace H : (if (!(t618 == t614) || ((!(t619 == t615) || (!(t620 == t616))))) = true then (none) else (if 0 ≤ (wrap64 (Int.tmod (IntKind.u64.wrap (a1)) (IntKind.u64.wrap (wrap64 ((l0.length : Int) + 1))))) then (if (wrap64 (Int.tmod (IntKind.u64.wrap (a1)) (IntKind.u64.wrap (wrap64 ((l0.length : Int) + 1))))) ≤ (l0.length : Int) then ((wide_All.f k1 (l0.take ((wrap64 (Int.tmod (IntKind.u64.wrap (a1)) (IntKind.u64.wrap (wrap64 ((l0.length : Int) + 1))))) : Int).toNat)).bind fun bt625 => ((wide_All.f k1 (l0.drop ((wrap64 (Int.tmod (IntKind.u64.wrap (a1)) (IntKind.u64.wrap (wrap64 ((l0.length : Int) + 1))))) : Int).toNat)).bind fun bt632 => ((wide_Wide_And.f bt625.1 bt625.2.1 bt625.2.2 bt632.1 bt632.2.1 bt632.2.2).bind fun bt635 => (if (!(bt635.1 == t614) || ((!(bt635.2.1 == t615) || (!(bt635.2.2 == t616))))) = true then (none) else ((wide_All.f k1 (l0.drop ((wrap64 (Int.tmod (IntKind.u64.wrap (a1)) (IntKind.u64.wrap (wrap64 ((l0.length : Int) + 1))))) : Int).toNat)).bind fun bt642 => ((wide_All.f k1 (l0.take ((wrap64 (Int.tmod (IntKind.u64.wrap (a1)) (IntKind.u64.wrap (wrap64 ((l0.length : Int) + 1))))) : Int).toNat)).bind fun bt649 => ((wide_Wide_And.f bt642.1 bt642.2.1 bt642.2.2 bt649.1 bt649.2.1 bt649.2.2).bind fun bt652 => (if (!(bt652.1 == t614) || ((!(bt652.2.1 == t615) || (!(bt652.2.2 == t616))))) = true then (none) else ((wide_Balanced.f k1 l0 x5_1).bind fun t655 => (if t655 = true then (paymasterlaw03_WideOrders.l1 k1 l0 0 t614 t615 t616 0 0 0) else (none))))))))))) else (none)) else (none))) = some r := H
              have A15 := Aside0.mk A150
              clear A150
              by_cases c16 : (!(t618 == t614) || ((!(t619 == t615) || (!(t620 == t616))))) = true
              · rw [if_pos c16] at H
                have c16b0 : (!(t618 == t614) || ((!(t619 == t615) || (!(t620 == t616))))) = true := c16
                clear c16
                exact absurd H (by simp)
              · rw [if_neg c16] at H
                have c16b0 : (!(t618 == t614) || ((!(t619 == t615) || (!(t620 == t616))))) = false := by simpa using c16
                clear c16
                obtain ⟨ji17, hji17⟩ : ∃ j_ : Int, (wrap64 (Int.tmod (IntKind.u64.wrap (a1)) (IntKind.u64.wrap (wrap64 ((l0.length : Int) + 1))))) = j_ := ⟨_, rfl⟩
                replace H : (if 0 ≤ (ji17) then (if (ji17) ≤ (l0.length : Int) then ((wide_All.f k1 (l0.take ((ji17) : Int).toNat)).bind fun bt625 => ((wide_All.f k1 (l0.drop ((ji17) : Int).toNat)).bind fun bt632 => ((wide_Wide_And.f bt625.1 bt625.2.1 bt625.2.2 bt632.1 bt632.2.1 bt632.2.2).bind fun bt635 => (if (!(bt635.1 == t614) || ((!(bt635.2.1 == t615) || (!(bt635.2.2 == t616))))) = true then (none) else ((wide_All.f k1 (l0.drop ((ji17) : Int).toNat)).bind fun bt642 => ((wide_All.f k1 (l0.take ((ji17) : Int).toNat)).bind fun bt649 => ((wide_Wide_And.f bt642.1 bt642.2.1 bt642.2.2 bt649.1 bt649.2.1 bt649.2.2).bind fun bt652 => (if (!(bt652.1 == t614) || ((!(bt652.2.1 == t615) || (!(bt652.2.2 == t616))))) = true then (none) else ((wide_Balanced.f k1 l0 x5_1).bind fun t655 => (if t655 = true then (paymasterlaw03_WideOrders.l1 k1 l0 0 t614 t615 t616 0 0 0) else (none))))))))))) else (none)) else (none)) = some r := by first | (rw [hji17] at H; exact H) | (simp only [hji17] at H ⊢; exact H)
                (try rw [hji17] at A14)
                (try rw [hji17] at A15)
                have hji17w : (IntKind.i64.wrap (Int.tmod (IntKind.u64.wrap (a1)) (IntKind.u64.wrap (wrap64 ((l0.length : Int) + 1))))) = ji17 := (i64_w _).trans hji17
                by_cases c18 : 0 ≤ (ji17)
                · rw [if_pos c18] at H
                  have c18b0 := eq_true c18
                  have c18b1 : decide (0 ≤ (ji17)) = true := decide_eq_true c18
                  clear c18
                  by_cases c19 : (ji17) ≤ (l0.length : Int)
                  · rw [if_pos c19] at H
                    have c19b0 := eq_true c19
                    have c19b1 : decide ((ji17) ≤ (l0.length : Int)) = true := decide_eq_true c19
                    clear c19
                    obtain ⟨y621, hy621⟩ : ∃ y_ : List (S25), y_ = (l0.take ((ji17) : Int).toNat) := ⟨_, rfl⟩
                    replace H : ((wide_All.f k1 y621).bind fun bt625 => ((wide_All.f k1 (l0.drop ((ji17) : Int).toNat)).bind fun bt632 => ((wide_Wide_And.f bt625.1 bt625.2.1 bt625.2.2 bt632.1 bt632.2.1 bt632.2.2).bind fun bt635 => (if (!(bt635.1 == t614) || ((!(bt635.2.1 == t615) || (!(bt635.2.2 == t616))))) = true then (none) else ((wide_All.f k1 (l0.drop ((ji17) : Int).toNat)).bind fun bt642 => ((wide_All.f k1 (l0.take ((ji17) : Int).toNat)).bind fun bt649 => ((wide_Wide_And.f bt642.1 bt642.2.1 bt642.2.2 bt649.1 bt649.2.1 bt649.2.2).bind fun bt652 => (if (!(bt652.1 == t614) || ((!(bt652.2.1 == t615) || (!(bt652.2.2 == t616))))) = true then (none) else ((wide_Balanced.f k1 l0 x5_1).bind fun t655 => (if t655 = true then (paymasterlaw03_WideOrders.l1 k1 l0 0 t614 t615 t616 0 0 0) else (none))))))))))) = some r := by first | (rw [hy621]; with_reducible exact H) | (have H2_ := (Option.bind_some _ _).symm.trans H; rw [hy621]; with_reducible exact H2_) | (have H2_ := (Option.bind_some _ _).symm.trans H; with_reducible exact H2_) | with_reducible exact H | (rw [hy621]; exact H) | exact H
                    have Ny621 := Aside0.mk hy621
                    clear hy621
                    replace H := Option.bind_eq_some_iff.mp H
                    obtain ⟨⟨t625, t626, t627⟩, A200, H⟩ := H
                    replace H : ((wide_All.f k1 (l0.drop ((ji17) : Int).toNat)).bind fun bt632 => ((wide_Wide_And.f t625 t626 t627 bt632.1 bt632.2.1 bt632.2.2).bind fun bt635 => (if (!(bt635.1 == t614) || ((!(bt635.2.1 == t615) || (!(bt635.2.2 == t616))))) = true then (none) else ((wide_All.f k1 (l0.drop ((ji17) : Int).toNat)).bind fun bt642 => ((wide_All.f k1 (l0.take ((ji17) : Int).toNat)).bind fun bt649 => ((wide_Wide_And.f bt642.1 bt642.2.1 bt642.2.2 bt649.1 bt649.2.1 bt649.2.2).bind fun bt652 => (if (!(bt652.1 == t614) || ((!(bt652.2.1 == t615) || (!(bt652.2.2 == t616))))) = true then (none) else ((wide_Balanced.f k1 l0 x5_1).bind fun t655 => (if t655 = true then (paymasterlaw03_WideOrders.l1 k1 l0 0 t614 t615 t616 0 0 0) else (none)))))))))) = some r := H
                    have A20 := Aside0.mk A200
                    clear A200
                    have c21b0 := eq_true (of_decide_eq_true (by first | (with_reducible assumption) | assumption) : 0 ≤ (ji17))
                    have c22b0 := eq_true (of_decide_eq_true (by first | (with_reducible assumption) | assumption) : (ji17) ≤ (l0.length : Int))
                    obtain ⟨y628, hy628⟩ : ∃ y_ : List (S25), y_ = (l0.drop ((ji17) : Int).toNat) := ⟨_, rfl⟩
                    replace H : ((wide_All.f k1 y628).bind fun bt632 => ((wide_Wide_And.f t625 t626 t627 bt632.1 bt632.2.1 bt632.2.2).bind fun bt635 => (if (!(bt635.1 == t614) || ((!(bt635.2.1 == t615) || (!(bt635.2.2 == t616))))) = true then (none) else ((wide_All.f k1 (l0.drop ((ji17) : Int).toNat)).bind fun bt642 => ((wide_All.f k1 (l0.take ((ji17) : Int).toNat)).bind fun bt649 => ((wide_Wide_And.f bt642.1 bt642.2.1 bt642.2.2 bt649.1 bt649.2.1 bt649.2.2).bind fun bt652 => (if (!(bt652.1 == t614) || ((!(bt652.2.1 == t615) || (!(bt652.2.2 == t616))))) = true then (none) else ((wide_Balanced.f k1 l0 x5_1).bind fun t655 => (if t655 = true then (paymasterlaw03_WideOrders.l1 k1 l0 0 t614 t615 t616 0 0 0) else (none)))))))))) = some r := by first | (rw [hy628]; with_reducible exact H) | (have H2_ := (Option.bind_some _ _).symm.trans H; rw [hy628]; with_reducible exact H2_) | (have H2_ := (Option.bind_some _ _).symm.trans H; with_reducible exact H2_) | with_reducible exact H | (rw [hy628]; exact H) | exact H
                    have Ny628 := Aside0.mk hy628
                    clear hy628
                    replace H := Option.bind_eq_some_iff.mp H
                    obtain ⟨⟨t632, t633, t634⟩, A230, H⟩ := H
                    replace H : ((wide_Wide_And.f t625 t626 t627 t632 t633 t634).bind fun bt635 => (if (!(bt635.1 == t614) || ((!(bt635.2.1 == t615) || (!(bt635.2.2 == t616))))) = true then (none) else ((wide_All.f k1 (l0.drop ((ji17) : Int).toNat)).bind fun bt642 => ((wide_All.f k1 (l0.take ((ji17) : Int).toNat)).bind fun bt649 => ((wide_Wide_And.f bt642.1 bt642.2.1 bt642.2.2 bt649.1 bt649.2.1 bt649.2.2).bind fun bt652 => (if (!(bt652.1 == t614) || ((!(bt652.2.1 == t615) || (!(bt652.2.2 == t616))))) = true then (none) else ((wide_Balanced.f k1 l0 x5_1).bind fun t655 => (if t655 = true then (paymasterlaw03_WideOrders.l1 k1 l0 0 t614 t615 t616 0 0 0) else (none))))))))) = some r := H
                    have A23 := Aside0.mk A230
                    clear A230
                    replace H := Option.bind_eq_some_iff.mp H
                    obtain ⟨⟨t635, t636, t637⟩, A240, H⟩ := H
                    replace H : (if (!(t635 == t614) || ((!(t636 == t615) || (!(t637 == t616))))) = true then (none) else ((wide_All.f k1 (l0.drop ((ji17) : Int).toNat)).bind fun bt642 => ((wide_All.f k1 (l0.take ((ji17) : Int).toNat)).bind fun bt649 => ((wide_Wide_And.f bt642.1 bt642.2.1 bt642.2.2 bt649.1 bt649.2.1 bt649.2.2).bind fun bt652 => (if (!(bt652.1 == t614) || ((!(bt652.2.1 == t615) || (!(bt652.2.2 == t616))))) = true then (none) else ((wide_Balanced.f k1 l0 x5_1).bind fun t655 => (if t655 = true then (paymasterlaw03_WideOrders.l1 k1 l0 0 t614 t615 t616 0 0 0) else (none)))))))) = some r := H
                    have A24 := Aside0.mk A240
                    clear A240
                    by_cases c25 : (!(t635 == t614) || ((!(t636 == t615) || (!(t637 == t616))))) = true
                    · rw [if_pos c25] at H
                      have c25b0 : (!(t635 == t614) || ((!(t636 == t615) || (!(t637 == t616))))) = true := c25
                      clear c25
                      exact absurd H (by simp)
                    · rw [if_neg c25] at H
                      have c25b0 : (!(t635 == t614) || ((!(t636 == t615) || (!(t637 == t616))))) = false := by simpa using c25
                      clear c25
                      have c26b0 := eq_true (of_decide_eq_true (by first | (with_reducible assumption) | assumption) : 0 ≤ (ji17))
                      have c27b0 := eq_true (of_decide_eq_true (by first | (with_reducible assumption) | assumption) : (ji17) ≤ (l0.length : Int))
                      obtain ⟨y638, hy638⟩ : ∃ y_ : List (S25), y_ = (l0.drop ((ji17) : Int).toNat) := ⟨_, rfl⟩
                      replace H : ((wide_All.f k1 y638).bind fun bt642 => ((wide_All.f k1 (l0.take ((ji17) : Int).toNat)).bind fun bt649 => ((wide_Wide_And.f bt642.1 bt642.2.1 bt642.2.2 bt649.1 bt649.2.1 bt649.2.2).bind fun bt652 => (if (!(bt652.1 == t614) || ((!(bt652.2.1 == t615) || (!(bt652.2.2 == t616))))) = true then (none) else ((wide_Balanced.f k1 l0 x5_1).bind fun t655 => (if t655 = true then (paymasterlaw03_WideOrders.l1 k1 l0 0 t614 t615 t616 0 0 0) else (none))))))) = some r := by first | (rw [hy638]; with_reducible exact H) | (have H2_ := (Option.bind_some _ _).symm.trans H; rw [hy638]; with_reducible exact H2_) | (have H2_ := (Option.bind_some _ _).symm.trans H; with_reducible exact H2_) | with_reducible exact H | (rw [hy638]; exact H) | exact H
                      have Ny638 := Aside0.mk hy638
                      clear hy638
                      replace H := Option.bind_eq_some_iff.mp H
                      obtain ⟨⟨t642, t643, t644⟩, A280, H⟩ := H
                      replace H : ((wide_All.f k1 (l0.take ((ji17) : Int).toNat)).bind fun bt649 => ((wide_Wide_And.f t642 t643 t644 bt649.1 bt649.2.1 bt649.2.2).bind fun bt652 => (if (!(bt652.1 == t614) || ((!(bt652.2.1 == t615) || (!(bt652.2.2 == t616))))) = true then (none) else ((wide_Balanced.f k1 l0 x5_1).bind fun t655 => (if t655 = true then (paymasterlaw03_WideOrders.l1 k1 l0 0 t614 t615 t616 0 0 0) else (none)))))) = some r := H
                      have A28 := Aside0.mk A280
                      clear A280
                      have c29b0 := eq_true (of_decide_eq_true (by first | (with_reducible assumption) | assumption) : 0 ≤ (ji17))
                      have c30b0 := eq_true (of_decide_eq_true (by first | (with_reducible assumption) | assumption) : (ji17) ≤ (l0.length : Int))
                      obtain ⟨y645, hy645⟩ : ∃ y_ : List (S25), y_ = (l0.take ((ji17) : Int).toNat) := ⟨_, rfl⟩
                      replace H : ((wide_All.f k1 y645).bind fun bt649 => ((wide_Wide_And.f t642 t643 t644 bt649.1 bt649.2.1 bt649.2.2).bind fun bt652 => (if (!(bt652.1 == t614) || ((!(bt652.2.1 == t615) || (!(bt652.2.2 == t616))))) = true then (none) else ((wide_Balanced.f k1 l0 x5_1).bind fun t655 => (if t655 = true then (paymasterlaw03_WideOrders.l1 k1 l0 0 t614 t615 t616 0 0 0) else (none)))))) = some r := by first | (rw [hy645]; with_reducible exact H) | (have H2_ := (Option.bind_some _ _).symm.trans H; rw [hy645]; with_reducible exact H2_) | (have H2_ := (Option.bind_some _ _).symm.trans H; with_reducible exact H2_) | with_reducible exact H | (rw [hy645]; exact H) | exact H
                      have Ny645 := Aside0.mk hy645
                      clear hy645
                      replace H := Option.bind_eq_some_iff.mp H
                      obtain ⟨⟨t649, t650, t651⟩, A310, H⟩ := H
                      replace H : ((wide_Wide_And.f t642 t643 t644 t649 t650 t651).bind fun bt652 => (if (!(bt652.1 == t614) || ((!(bt652.2.1 == t615) || (!(bt652.2.2 == t616))))) = true then (none) else ((wide_Balanced.f k1 l0 x5_1).bind fun t655 => (if t655 = true then (paymasterlaw03_WideOrders.l1 k1 l0 0 t614 t615 t616 0 0 0) else (none))))) = some r := H
                      have A31 := Aside0.mk A310
                      clear A310
                      replace H := Option.bind_eq_some_iff.mp H
                      obtain ⟨⟨t652, t653, t654⟩, A320, H⟩ := H
                      replace H : (if (!(t652 == t614) || ((!(t653 == t615) || (!(t654 == t616))))) = true then (none) else ((wide_Balanced.f k1 l0 x5_1).bind fun t655 => (if t655 = true then (paymasterlaw03_WideOrders.l1 k1 l0 0 t614 t615 t616 0 0 0) else (none)))) = some r := H
                      have A32 := Aside0.mk A320
                      clear A320
                      by_cases c33 : (!(t652 == t614) || ((!(t653 == t615) || (!(t654 == t616))))) = true
                      · rw [if_pos c33] at H
                        have c33b0 : (!(t652 == t614) || ((!(t653 == t615) || (!(t654 == t616))))) = true := c33
                        clear c33
                        exact absurd H (by simp)
                      · rw [if_neg c33] at H
                        have c33b0 : (!(t652 == t614) || ((!(t653 == t615) || (!(t654 == t616))))) = false := by simpa using c33
                        clear c33
                        replace H := Option.bind_eq_some_iff.mp H
                        obtain ⟨t655, A340, H⟩ := H
                        replace H : (if t655 = true then (paymasterlaw03_WideOrders.l1 k1 l0 0 t614 t615 t616 0 0 0) else (none)) = some r := H
                        have A34 := Aside0.mk A340
                        clear A340
                        by_cases c35 : t655 = true
                        · subst c35
                          have H1 : (paymasterlaw03_WideOrders.l1 k1 l0 0 t614 t615 t616 0 0 0) = some r := by rw [if_pos rfl] at H; exact H
                          clear H
                          have H := H1
                          clear H1
                          have H' := Aside0.mk H
                          clear H
                          try go_wp2_with (first | ((with_reducible refine gate_callee (f := 24) rfl ?_); refine goesL_ (some 40) rfl rfl Try.func24 (by kernel_rfl) rfl #[.slice A0 l0.length c0] rfl (by (try simp only [List.map_toArray, List.map_cons, List.map_nil]); first | done | rfl | (simp only [List.length_drop, List.length_take]; rfl)) ?_; (with_reducible refine (wide_All.calls k1 _ _ l0 t614 t615 t616 _ ?side1 ?side2 A14.out).mono ?_); (case side1 => repeat (first | exact (Kd.C_below HR0.out HB.out) | (with_reducible refine Kd.C_alloc ?_ _) | (with_reducible refine Kd.C_drewN ?_ _) | (with_reducible refine Kd.C_drew ?_))); (case side2 => exact HC0.out); rintro e w36 ⟨rfl, hb⟩; refine ⟨_, rfl, ?_⟩; have n0_ := Aside0.mk (Kd.R_below (by (with_reducible repeat (first | apply Kd.R_alloc | apply Kd.R_drewN | apply Kd.R_drew)); exact HO_5.out) hb); have n1_ := Aside0.mk (below_step (by repeat (first | (with_reducible first | exact HB.out | apply below_alloc | apply pw_below_drewN | apply below_drew1) | exact HB.out)) hb); clear HO_5; clear HB; have HO_5 := n0_; have HB := n1_; clear n0_ n1_; (try clear hb); (try clear hb2); (try clear hk); (try clear hi)) | ((with_reducible refine gate_dst (N := 8) rfl ?_); refine box_event ?hg (N := 8) ?hd (cs := #[.int .u64 0, .int .u64 0, .int .u64 0]) (t := 27) ?hr ?_; (case hd => rfl); (case hg => rfl); (case hr => first | (go_simp; done) | (go_simp; rfl)); intro gb617 hg w37 hbox hb; have n0_ := Aside0.mk (Kd.R_below (by (with_reducible repeat (first | apply Kd.R_alloc | apply Kd.R_drewN | apply Kd.R_drew)); exact HO_5.out) hb); have n1_ := Aside0.mk (below_step (by repeat (first | (with_reducible first | exact HB.out | apply below_alloc | apply pw_below_drewN | apply below_drew1) | exact HB.out)) hb); have n2_ := Aside0.mk (hbox); have n3_ := Aside0.mk ((by rw [hg]; exact (below_size (by repeat (first | (with_reducible first | exact HB.out | apply below_alloc | apply pw_below_drewN | apply below_drew1) | exact HB.out))) : w.heap.size ≤ gb617)); have n4_ := Aside0.mk ((by rw [hg]; exact (below_size (by repeat (first | (with_reducible first | exact HB.out | apply below_alloc | apply pw_below_drewN | apply below_drew1) | exact HB.out))) : w.heap.size ≤ gb617)); clear HO_5; clear HB; have HO_5 := n0_; have HB := n1_; have BK617 := n2_; have GW617 := n3_; have GE617 := n4_; clear n0_ n1_ n2_ n3_ n4_; clear hb hbox hg; have hcz38_0 : w37.cell? ⟨gb617, 0, none⟩ = some (.int .u64 0) := (blk_cell BK617.out 0).trans rfl; have hcz38_1 : w37.cell? ⟨gb617, 1, none⟩ = some (.int .u64 0) := (blk_cell BK617.out 1).trans rfl; have hcz38_2 : w37.cell? ⟨gb617, 2, none⟩ = some (.int .u64 0) := (blk_cell BK617.out 2).trans rfl; have hfz38_0 := blk_frozen BK617.out 0; have hfz38_1 := blk_frozen BK617.out 1; have hfz38_2 := blk_frozen BK617.out 2))
                          have n0_ : Aside0 (Kd.R k25 25 (((w37.setCell ⟨gb617, 0, none⟩ (.int .u64 t614)).setCell ⟨gb617, 1, none⟩ (.int .u64 t615)).setCell ⟨gb617, 2, none⟩ (.int .u64 t616)) w.heap.size (fun _ => True) u5 x5_1) := ⟨by (with_reducible repeat (first | apply Kd.R_alloc | apply Kd.R_drewN | apply Kd.R_drew)); exact Kd.R_mono (Kd.R_far (p := ⟨gb617, 2, none⟩) (Kd.R_far (p := ⟨gb617, 1, none⟩) (Kd.R_far (p := ⟨gb617, 0, none⟩) (Kd.R_types HO_5.out BK617.out (by decide)) (fun _ hk => hk.2) (.int .u64 t614)) (fun _ hk => hk.2) (.int .u64 t615)) (fun _ hk => hk.2) (.int .u64 t616)) (fun _ hk => trivial)⟩
                          have n1_ : Aside0 ((((w37.setCell ⟨gb617, 0, none⟩ (.int .u64 t614)).setCell ⟨gb617, 1, none⟩ (.int .u64 t615)).setCell ⟨gb617, 2, none⟩ (.int .u64 t616)).heap[gb617]? = some (.cells #[.int .u64 t614, .int .u64 t615, .int .u64 t616] 27 (0, 0))) := ⟨by (with_reducible repeat (first | refine blk_drewN ?_ _ | refine blk_drew ?_ | refine blk_alloc ?_ _)); refine blk_put (cs := #[.int .u64 t614, .int .u64 t615, .int .u64 0]) ?_ 2 _ rfl; (with_reducible repeat (first | refine blk_drewN ?_ _ | refine blk_drew ?_ | refine blk_alloc ?_ _)); refine blk_put (cs := #[.int .u64 t614, .int .u64 0, .int .u64 0]) ?_ 1 _ rfl; (with_reducible repeat (first | refine blk_drewN ?_ _ | refine blk_drew ?_ | refine blk_alloc ?_ _)); refine blk_put (cs := #[.int .u64 0, .int .u64 0, .int .u64 0]) ?_ 0 _ rfl; (with_reducible repeat (first | refine blk_drewN ?_ _ | refine blk_drew ?_ | refine blk_alloc ?_ _)); exact BK617.out⟩
                          have n2_ : Aside0 (Below w.heap.size w (((w37.setCell ⟨gb617, 0, none⟩ (.int .u64 t614)).setCell ⟨gb617, 1, none⟩ (.int .u64 t615)).setCell ⟨gb617, 2, none⟩ (.int .u64 t616))) := ⟨by repeat (first | (with_reducible first | exact HB.out | apply below_alloc | apply pw_below_drewN | apply below_drew1 | refine below_set ?_ GE617.out) | exact HB.out)⟩
                          (try clear HO_5)
                          (try clear BK617)
                          (try clear HB)
                          generalize (((w37.setCell ⟨gb617, 0, none⟩ (.int .u64 t614)).setCell ⟨gb617, 1, none⟩ (.int .u64 t615)).setCell ⟨gb617, 2, none⟩ (.int .u64 t616)) = w39 at n0_ n1_ n2_ ⊢
                          have HO_5 := n0_
                          have BK617 := n1_
                          have HB := n2_
                          clear n0_ n1_ n2_
                          have n0_ := Aside0.mk (Kd.R_drew HO_5.out)
                          have n1_ := Aside0.mk (blk_drew BK617.out)
                          have n2_ := Aside0.mk (below_drew1 HB.out)
                          clear HO_5
                          clear BK617
                          clear HB
                          have HO_5 := n0_
                          have BK617 := n1_
                          have HB := n2_
                          clear n0_ n1_ n2_
                          obtain ⟨Ao41, co41, eo41⟩ := Kd.R_slice HO_5.out
                          (first | subst eo41 | (injection eo41 with f1_ f2_ f3_; have f4_ := f1_.symm; have f5_ := f3_.symm; clear f1_ f2_ f3_; subst f4_; subst f5_))
                          refine start_ (n := 36) (S := fun w' => w'.cell? ⟨gb617, 0, none⟩ = some (.int .u64 t614) ∧ w'.cell? ⟨gb617, 1, none⟩ = some (.int .u64 t615) ∧ w'.cell? ⟨gb617, 2, none⟩ = some (.int .u64 t616)) (ds := []) #[false, false, false, false, false, false, false, false, false, false, false, false, false, false, false, false, false, false, false, false, false, false, false, false, false, false, false, false, false, false, false, false, false, false, false, false] (by kernel_rfl) rfl rfl ⟨(blk_cell BK617.out 0).trans rfl, (blk_cell BK617.out 1).trans rfl, (blk_cell BK617.out 2).trans rfl⟩ (fun hHeld => ?_); refine with_tabW paymasterlaw03_WideOrders.tab12 paymasterlaw03_WideOrders.bits12 (fun HT_ HW_ => ?_)
                          generalize w39.drew = w40 at HO_5 BK617 HB hHeld ⊢
                          refine pure_ (i := 0) (N := some 41) (v := ?_) (a' := ?_) #[true, false, false, false, false, false, false, false, false, false, false, false, false, false, false, false, false, false, false, false, false, false, false, false, false, false, false, false, false, false, false, false, false, false, false, false] rfl rfl (any_of HT_.out (by kernel_rfl)) (fun _ _ _ h => h) (Or.inl ⟨by rfl, ?_⟩) ?_ ?_
                          rotate_left
                          · intro w'
                            go_simp
                            with_reducible rfl
                          rotate_left
                          · simp only [Act.put, List.setIfInBounds_toArray, List.set_cons_zero, List.set_cons_succ, i64_w, i32_w]
                            rfl
                          refine take_ (i := 2) (N := some 43) (v := ?_) (a' := ?_) #[true, false, true, false, false, false, false, false, false, false, false, false, false, false, false, false, false, false, false, false, false, false, false, false, false, false, false, false, false, false, false, false, false, false, false, false] rfl rfl (take_ofW HT_.out HW_.out (by kernel_rfl)) (fun _ _ _ h => h) (Or.inl ⟨by rfl, ?_⟩) hHeld ?_ ?_
                          rotate_left
                          · rintro w' ⟨s0, s1, s2⟩
                            go_simp
                            with_reducible rfl
                          rotate_left
                          · simp only [Act.put, List.setIfInBounds_toArray, List.set_cons_zero, List.set_cons_succ, i64_w, i32_w]
                            rfl
                          refine one_ (i := 1) (N := some 42) #[true, true, true, false, false, false, false, false, false, false, false, false, false, false, false, false, false, false, false, false, false, false, false, false, false, false, false, false, false, false, false, false, false, false, false, false] rfl rfl (one_of HT_.out (by kernel_rfl)) (by decide) (fun K hK => ?_)
                          refine goes_ Try.func24 (by kernel_rfl) rfl #[.slice Ao41 x5_1.length co41] (by rfl) rfl rfl (by (try simp only [List.map_toArray, List.map_cons, List.map_nil]); first | done | rfl | (simp only [List.length_drop, List.length_take]; rfl) | (simp [Act.eval, KC0.out]; done)) ?_
                          with_reducible refine (wide_All.calls k1 _ _ x5_1 t618 t619 t620 _ ?side1 ?side2 A15.out).mono ?_
                          (case side1 => repeat (first | exact (Kd.R_reads' HO_5.out).2.2 | (with_reducible refine Kd.C_alloc ?_ _) | (with_reducible refine Kd.C_drewN ?_ _) | (with_reducible refine Kd.C_drew ?_)))
                          (case side2 => exact (Kd.R_reads' HO_5.out).2.1)
                          rintro e w42 ⟨rfl, hb⟩
                          refine ⟨_, rfl, ?_⟩
                          have n0_ := Aside0.mk (Kd.R_below (by (with_reducible repeat (first | apply Kd.R_alloc | apply Kd.R_drewN | apply Kd.R_drew)); exact HO_5.out) hb)
                          have n1_ := Aside0.mk (blk_below (g := gb617) (o := .cells #[.int .u64 t614, .int .u64 t615, .int .u64 t616] 27 (0, 0)) (by (with_reducible repeat (first | refine blk_drewN ?_ _ | refine blk_drew ?_ | refine blk_alloc ?_ _)); exact BK617.out) hb)
                          have n2_ := Aside0.mk (below_step (by repeat (first | (with_reducible first | exact HB.out | apply below_alloc | apply pw_below_drewN | apply below_drew1 | refine below_set ?_ GE617.out) | exact HB.out)) hb)
                          clear HO_5
                          clear BK617
                          clear HB
                          have HO_5 := n0_
                          have BK617 := n1_
                          have HB := n2_
                          clear n0_ n1_ n2_
                          (try clear hb)
                          (try clear hb2)
                          (try clear hk)
                          (try clear hi)
                          have q43 : ((ji17) : Int) ≤ ((l0.length : Int) : Int) := of_decide_eq_true (by first | (with_reducible assumption) | assumption)
                          obtain ⟨i043, hi043, _, hsz43, _⟩ := info_parts info25
                          have hroom43 : l0.length ≤ c0 := HC0.out
                          have hC43 : Kd.C k25 _ A0 l0.length l0 := HR0.out
                          have hcut43 := cut_to (P := Try.prog) 22 25 .i64 Try.underlying22 hi043 A0 l0.length c0 (ji17) (of_decide_eq_true (by first | (with_reducible assumption) | assumption)) q43 hroom43
                          have hr43 := Kd.C_take (m := ((ji17) : Int).toNat) hC43 (by omega)
                          have hy43 : y621.length = ((ji17) : Int).toNat := (by rw [Ny621.out, List.length_take]; omega)
                          rw [← Ny621.out] at hr43
                          rw [← hy43] at hcut43
                          have HR624 := Aside0.mk hr43
                          have HC624 := Aside0.mk (show y621.length ≤ c0 from by omega)
                          clear hr43 hC43 hroom43 hi043 hsz43
                          have KY43 := Aside0.mk hy43
                          clear hy43
                          replace q43 := eq_true q43
                          refine hK.out _ _ ⟨(blk_cell BK617.out 0).trans rfl, (blk_cell BK617.out 1).trans rfl, (blk_cell BK617.out 2).trans rfl⟩ (fun hHeld => ?_)
                          clear hK K
                          refine norm_ (a' := ?_) ?_ ?_
                          rotate_left
                          · show Act.put _ (some 42) _ = _
                            simp only [Act.put, List.setIfInBounds_toArray, List.set_cons_zero, List.set_cons_succ, i64_w, i32_w]
                            rfl
                          refine pure_ (i := 3) (N := some 44) (v := ?_) (a' := ?_) #[true, true, true, true, false, false, false, false, false, false, false, false, false, false, false, false, false, false, false, false, false, false, false, false, false, false, false, false, false, false, false, false, false, false, false, false] rfl rfl (any_of HT_.out (by kernel_rfl)) (fun _ _ _ h => h) (Or.inl ⟨by rfl, ?_⟩) ?_ ?_
                          rotate_left
                          · intro w'
                            go_simp
                            with_reducible rfl
                          rotate_left
                          · simp only [Act.put, List.setIfInBounds_toArray, List.set_cons_zero, List.set_cons_succ, i64_w, i32_w]
                            rfl
                          refine pure_ (i := 4) (N := some 45) (v := ?_) (a' := ?_) #[true, true, true, true, true, false, false, false, false, false, false, false, false, false, false, false, false, false, false, false, false, false, false, false, false, false, false, false, false, false, false, false, false, false, false, false] rfl rfl (any_of HT_.out (by kernel_rfl)) (fun _ _ _ h => h) (Or.inl ⟨by rfl, ?_⟩) ?_ ?_
                          rotate_left
                          · intro w'
                            go_simp
                            with_reducible rfl
                          rotate_left
                          · simp only [Act.put, List.setIfInBounds_toArray, List.set_cons_zero, List.set_cons_succ, i64_w, i32_w]
                            rfl
                          refine pure_ (i := 5) (N := some 46) (v := ?_) (a' := ?_) #[true, true, true, true, true, true, false, false, false, false, false, false, false, false, false, false, false, false, false, false, false, false, false, false, false, false, false, false, false, false, false, false, false, false, false, false] rfl rfl (any_of HT_.out (by kernel_rfl)) (fun _ _ _ h => h) (Or.inl ⟨by rfl, ?_⟩) ?_ ?_
                          rotate_left
                          · intro w'
                            go_simp
                            with_reducible rfl
                          rotate_left
                          · simp only [Act.put, List.setIfInBounds_toArray, List.set_cons_zero, List.set_cons_succ, i64_w, i32_w]
                            rfl
                          refine pure_ (i := 6) (N := some 47) (v := ?_) (a' := ?_) #[true, true, true, true, true, true, true, false, false, false, false, false, false, false, false, false, false, false, false, false, false, false, false, false, false, false, false, false, false, false, false, false, false, false, false, false] rfl rfl (any_of HT_.out (by kernel_rfl)) (fun _ _ _ h => h) (Or.inl ⟨by rfl, ?_⟩) ?_ ?_
                          rotate_left
                          · intro w'
                            go_simp
                            with_reducible rfl
                          rotate_left
                          · simp only [Act.put, List.setIfInBounds_toArray, List.set_cons_zero, List.set_cons_succ, i64_w, i32_w]
                            rfl
                          refine pure_ (i := 7) (N := some 48) (v := ?_) (a' := ?_) #[true, true, true, true, true, true, true, true, false, false, false, false, false, false, false, false, false, false, false, false, false, false, false, false, false, false, false, false, false, false, false, false, false, false, false, false] rfl rfl (any_of HT_.out (by kernel_rfl)) (fun _ _ _ h => h) (Or.inl ⟨by rfl, ?_⟩) ?_ ?_
                          rotate_left
                          · intro w'
                            go_simp
                            with_reducible rfl
                          rotate_left
                          · simp only [Act.put, List.setIfInBounds_toArray, List.set_cons_zero, List.set_cons_succ, i64_w, i32_w]
                            rfl
                          refine pure_ (i := 9) (N := some 50) (v := ?_) (a' := ?_) #[true, true, true, true, true, true, true, true, false, true, false, false, false, false, false, false, false, false, false, false, false, false, false, false, false, false, false, false, false, false, false, false, false, false, false, false] rfl rfl (any_of HT_.out (by kernel_rfl)) (fun _ _ _ h => h) (Or.inl ⟨by rfl, ?_⟩) ?_ ?_
                          rotate_left
                          · intro w'
                            go_simp
                            with_reducible rfl
                          rotate_left
                          · simp only [Act.put, List.setIfInBounds_toArray, List.set_cons_zero, List.set_cons_succ, i64_w, i32_w]
                            rfl
                          refine pure_ (i := 10) (N := some 51) (v := ?_) (a' := ?_) #[true, true, true, true, true, true, true, true, false, true, true, false, false, false, false, false, false, false, false, false, false, false, false, false, false, false, false, false, false, false, false, false, false, false, false, false] rfl rfl (any_of HT_.out (by kernel_rfl)) (fun _ _ _ h => h) (Or.inl ⟨by rfl, ?_⟩) ?_ ?_
                          rotate_left
                          · intro w'
                            go_simp
                            with_reducible rfl
                          rotate_left
                          · simp only [Act.put, List.setIfInBounds_toArray, List.set_cons_zero, List.set_cons_succ, i64_w, i32_w]
                            rfl
                          refine pure_ (i := 11) (N := some 52) (v := ?_) (a' := ?_) #[true, true, true, true, true, true, true, true, false, true, true, true, false, false, false, false, false, false, false, false, false, false, false, false, false, false, false, false, false, false, false, false, false, false, false, false] rfl rfl (any_of HT_.out (by kernel_rfl)) (fun _ _ _ h => h) (Or.inl ⟨by rfl, ?_⟩) ?_ ?_
                          rotate_left
                          · intro w'
                            go_simp
                            with_reducible rfl
                          rotate_left
                          · simp only [Act.put, List.setIfInBounds_toArray, List.set_cons_zero, List.set_cons_succ, i64_w, i32_w]
                            rfl
                          refine take_ (i := 14) (N := some 55) (v := ?_) (a' := ?_) #[true, true, true, true, true, true, true, true, false, true, true, true, false, false, true, false, false, false, false, false, false, false, false, false, false, false, false, false, false, false, false, false, false, false, false, false] rfl rfl (take_ofW HT_.out HW_.out (by kernel_rfl)) (fun _ _ _ h => h) (Or.inl ⟨by rfl, ?_⟩) hHeld ?_ ?_
                          rotate_left
                          · rintro w' ⟨s0, s1, s2⟩
                            go_simp
                            with_reducible rfl
                          rotate_left
                          · simp only [Act.put, List.setIfInBounds_toArray, List.set_cons_zero, List.set_cons_succ, i64_w, i32_w]
                            rfl
                          refine one_ (i := 8) (N := some 49) #[true, true, true, true, true, true, true, true, true, true, true, true, false, false, true, false, false, false, false, false, false, false, false, false, false, false, false, false, false, false, false, false, false, false, false, false] rfl rfl (one_of HT_.out (by kernel_rfl)) (by decide) (fun K hK => ?_)
                          refine goes_ Try.func24 (by kernel_rfl) rfl #[.slice A0 y621.length c0] (by rfl) rfl rfl (by (try simp only [List.map_toArray, List.map_cons, List.map_nil]); first | done | rfl | (simp only [List.length_drop, List.length_take]; rfl) | (simp [Act.eval, KC0.out, KY43.out]; done)) ?_
                          with_reducible refine (wide_All.calls k1 _ _ y621 t625 t626 t627 _ ?side1 ?side2 A20.out).mono ?_
                          (case side1 => repeat (first | exact (Kd.C_below HR624.out HB.out) | (with_reducible refine Kd.C_alloc ?_ _) | (with_reducible refine Kd.C_drewN ?_ _) | (with_reducible refine Kd.C_drew ?_)))
                          (case side2 => exact HC624.out)
                          rintro e w44 ⟨rfl, hb⟩
                          refine ⟨_, rfl, ?_⟩
                          have n0_ := Aside0.mk (Kd.R_below (by (with_reducible repeat (first | apply Kd.R_alloc | apply Kd.R_drewN | apply Kd.R_drew)); exact HO_5.out) hb)
                          have n1_ := Aside0.mk (blk_below (g := gb617) (o := .cells #[.int .u64 t614, .int .u64 t615, .int .u64 t616] 27 (0, 0)) (by (with_reducible repeat (first | refine blk_drewN ?_ _ | refine blk_drew ?_ | refine blk_alloc ?_ _)); exact BK617.out) hb)
                          have n2_ := Aside0.mk (below_step (by repeat (first | (with_reducible first | exact HB.out | apply below_alloc | apply pw_below_drewN | apply below_drew1 | refine below_set ?_ GE617.out) | exact HB.out)) hb)
                          clear HO_5
                          clear BK617
                          clear HB
                          have HO_5 := n0_
                          have BK617 := n1_
                          have HB := n2_
                          clear n0_ n1_ n2_
                          (try clear hb)
                          (try clear hb2)
                          (try clear hk)
                          (try clear hi)
                          have q45 : ((ji17) : Int) ≤ ((l0.length : Int) : Int) := of_decide_eq_true (by first | (with_reducible assumption) | assumption)
                          obtain ⟨i045, hi045, _, hsz45, _⟩ := info_parts info25
                          have hroom45 : l0.length ≤ c0 := HC0.out
                          have hC45 : Kd.C k25 _ A0 l0.length l0 := HR0.out
                          have q045 : (0 : Int) ≤ ((ji17) : Int) := of_decide_eq_true (by first | (with_reducible assumption) | assumption)
                          have hcut45 := cut_from (P := Try.prog) 22 25 .i64 Try.underlying22 hi045 2 hsz45 A0 l0.length c0 (ji17) q045 q45
                          have hr45 := Kd.C_drop (m := ((ji17) : Int).toNat) (c := c0) hC45 (by omega) hroom45
                          obtain ⟨A45, hA45⟩ : ∃ A1, A1 = (if c0 = ((ji17) : Int).toNat then A0 else (A0 : Option Addr).map (·.add (((ji17) : Int).toNat * 2))) := ⟨_, rfl⟩
                          obtain ⟨c45, hc45⟩ : ∃ c1, c1 = c0 - ((ji17) : Int).toNat := ⟨_, rfl⟩
                          have hy45 : y628.length = l0.length - ((ji17) : Int).toNat := (by rw [Ny628.out, List.length_drop] <;> omega)
                          rw [show (l0).drop ((ji17) : Int).toNat = y628 from Ny628.out.symm] at hr45
                          replace hr45 : Kd.C k25 _ A45 y628.length y628 := (by rw [hA45]; exact hr45)
                          rw [← hy45, ← hA45, ← hc45] at hcut45
                          have HR631 := Aside0.mk hr45
                          have HC631 := Aside0.mk (show y628.length ≤ c45 from by rw [hy45, hc45]; exact Nat.sub_le_sub_right hroom45 _)
                          have KC45 := Aside0.mk hc45
                          clear hr45 hC45 hroom45 hi045 hsz45 hc45
                          have KY45 := Aside0.mk hy45
                          have KA45 := Aside0.mk hA45
                          clear hy45 hA45
                          replace q45 := eq_true q45
                          refine hK.out _ _ ⟨(blk_cell BK617.out 0).trans rfl, (blk_cell BK617.out 1).trans rfl, (blk_cell BK617.out 2).trans rfl⟩ (fun hHeld => ?_)
                          clear hK K
                          refine norm_ (a' := ?_) ?_ ?_
                          rotate_left
                          · show Act.put _ (some 49) _ = _
                            simp only [Act.put, List.setIfInBounds_toArray, List.set_cons_zero, List.set_cons_succ, i64_w, i32_w]
                            rfl
                          refine one_ (i := 12) (N := some 53) #[true, true, true, true, true, true, true, true, true, true, true, true, true, false, true, false, false, false, false, false, false, false, false, false, false, false, false, false, false, false, false, false, false, false, false, false] rfl rfl (one_of HT_.out (by kernel_rfl)) (by decide) (fun K hK => ?_)
                          refine goes_ Try.func24 (by kernel_rfl) rfl #[.slice A45 y628.length c45] (by rfl) rfl rfl (by (try simp only [List.map_toArray, List.map_cons, List.map_nil]); first | done | rfl | (simp only [List.length_drop, List.length_take]; rfl) | (simp [Act.eval, KC0.out, KY43.out, KC45.out, KY45.out, KA45.out]; done)) ?_
                          with_reducible refine (wide_All.calls k1 _ _ y628 t632 t633 t634 _ ?side1 ?side2 A23.out).mono ?_
                          (case side1 => repeat (first | exact (Kd.C_below HR631.out HB.out) | (with_reducible refine Kd.C_alloc ?_ _) | (with_reducible refine Kd.C_drewN ?_ _) | (with_reducible refine Kd.C_drew ?_)))
                          (case side2 => exact HC631.out)
                          rintro e w46 ⟨rfl, hb⟩
                          refine ⟨_, rfl, ?_⟩
                          have n0_ := Aside0.mk (Kd.R_below (by (with_reducible repeat (first | apply Kd.R_alloc | apply Kd.R_drewN | apply Kd.R_drew)); exact HO_5.out) hb)
                          have n1_ := Aside0.mk (blk_below (g := gb617) (o := .cells #[.int .u64 t614, .int .u64 t615, .int .u64 t616] 27 (0, 0)) (by (with_reducible repeat (first | refine blk_drewN ?_ _ | refine blk_drew ?_ | refine blk_alloc ?_ _)); exact BK617.out) hb)
                          have n2_ := Aside0.mk (below_step (by repeat (first | (with_reducible first | exact HB.out | apply below_alloc | apply pw_below_drewN | apply below_drew1 | refine below_set ?_ GE617.out) | exact HB.out)) hb)
                          clear HO_5
                          clear BK617
                          clear HB
                          have HO_5 := n0_
                          have BK617 := n1_
                          have HB := n2_
                          clear n0_ n1_ n2_
                          (try clear hb)
                          (try clear hb2)
                          (try clear hk)
                          (try clear hi)
                          refine hK.out _ _ ⟨(blk_cell BK617.out 0).trans rfl, (blk_cell BK617.out 1).trans rfl, (blk_cell BK617.out 2).trans rfl⟩ (fun hHeld => ?_)
                          clear hK K
                          refine norm_ (a' := ?_) ?_ ?_
                          rotate_left
                          · show Act.put _ (some 53) _ = _
                            simp only [Act.put, List.setIfInBounds_toArray, List.set_cons_zero, List.set_cons_succ, i64_w, i32_w]
                            rfl
                          refine one_ (i := 13) (N := some 54) #[true, true, true, true, true, true, true, true, true, true, true, true, true, true, true, false, false, false, false, false, false, false, false, false, false, false, false, false, false, false, false, false, false, false, false, false] rfl rfl (one_of HT_.out (by kernel_rfl)) (by decide) (fun K hK => ?_)
                          refine goes_ Try.func39 (by kernel_rfl) rfl #[.agg #[.int .u64 t625, .int .u64 t626, .int .u64 t627], .agg #[.int .u64 t632, .int .u64 t633, .int .u64 t634]] (by rfl) rfl rfl (by (try simp only [List.map_toArray, List.map_cons, List.map_nil]); first | done | rfl | (simp only [List.length_drop, List.length_take]; rfl) | (simp [Act.eval, KC0.out, KY43.out, KC45.out, KY45.out, KA45.out]; done)) ?_
                          with_reducible refine (wide_Wide_And.calls t625 t626 t627 t632 t633 t634 t635 t636 t637 _ A24.out).mono ?_
                          rintro e w47 ⟨rfl, hb⟩
                          refine ⟨_, rfl, ?_⟩
                          have n0_ := Aside0.mk (Kd.R_below (by (with_reducible repeat (first | apply Kd.R_alloc | apply Kd.R_drewN | apply Kd.R_drew)); exact HO_5.out) hb)
                          have n1_ := Aside0.mk (blk_below (g := gb617) (o := .cells #[.int .u64 t614, .int .u64 t615, .int .u64 t616] 27 (0, 0)) (by (with_reducible repeat (first | refine blk_drewN ?_ _ | refine blk_drew ?_ | refine blk_alloc ?_ _)); exact BK617.out) hb)
                          have n2_ := Aside0.mk (below_step (by repeat (first | (with_reducible first | exact HB.out | apply below_alloc | apply pw_below_drewN | apply below_drew1 | refine below_set ?_ GE617.out) | exact HB.out)) hb)
                          clear HO_5
                          clear BK617
                          clear HB
                          have HO_5 := n0_
                          have BK617 := n1_
                          have HB := n2_
                          clear n0_ n1_ n2_
                          (try clear hb)
                          (try clear hb2)
                          (try clear hk)
                          (try clear hi)
                          have q48 : ((ji17) : Int) ≤ ((l0.length : Int) : Int) := of_decide_eq_true (by first | (with_reducible assumption) | assumption)
                          obtain ⟨i048, hi048, _, hsz48, _⟩ := info_parts info25
                          have hroom48 : l0.length ≤ c0 := HC0.out
                          have hC48 : Kd.C k25 _ A0 l0.length l0 := HR0.out
                          have q048 : (0 : Int) ≤ ((ji17) : Int) := of_decide_eq_true (by first | (with_reducible assumption) | assumption)
                          have hcut48 := cut_from (P := Try.prog) 22 25 .i64 Try.underlying22 hi048 2 hsz48 A0 l0.length c0 (ji17) q048 q48
                          have hr48 := Kd.C_drop (m := ((ji17) : Int).toNat) (c := c0) hC48 (by omega) hroom48
                          obtain ⟨A48, hA48⟩ : ∃ A1, A1 = (if c0 = ((ji17) : Int).toNat then A0 else (A0 : Option Addr).map (·.add (((ji17) : Int).toNat * 2))) := ⟨_, rfl⟩
                          obtain ⟨c48, hc48⟩ : ∃ c1, c1 = c0 - ((ji17) : Int).toNat := ⟨_, rfl⟩
                          have hy48 : y638.length = l0.length - ((ji17) : Int).toNat := (by rw [Ny638.out, List.length_drop] <;> omega)
                          rw [show (l0).drop ((ji17) : Int).toNat = y638 from Ny638.out.symm] at hr48
                          replace hr48 : Kd.C k25 _ A48 y638.length y638 := (by rw [hA48]; exact hr48)
                          rw [← hy48, ← hA48, ← hc48] at hcut48
                          have HR641 := Aside0.mk hr48
                          have HC641 := Aside0.mk (show y638.length ≤ c48 from by rw [hy48, hc48]; exact Nat.sub_le_sub_right hroom48 _)
                          have KC48 := Aside0.mk hc48
                          clear hr48 hC48 hroom48 hi048 hsz48 hc48
                          have KY48 := Aside0.mk hy48
                          have KA48 := Aside0.mk hA48
                          clear hy48 hA48
                          replace q48 := eq_true q48
                          refine hK.out _ _ ⟨(blk_cell BK617.out 0).trans rfl, (blk_cell BK617.out 1).trans rfl, (blk_cell BK617.out 2).trans rfl⟩ (fun hHeld => ?_)
                          clear hK K
                          refine norm_ (a' := ?_) ?_ ?_
                          rotate_left
                          · show Act.put _ (some 54) _ = _
                            simp only [Act.put, List.setIfInBounds_toArray, List.set_cons_zero, List.set_cons_succ, i64_w, i32_w]
                            rfl
                          refine pure_ (i := 15) (N := some 56) (v := ?_) (a' := ?_) #[true, true, true, true, true, true, true, true, true, true, true, true, true, true, true, true, false, false, false, false, false, false, false, false, false, false, false, false, false, false, false, false, false, false, false, false] rfl rfl (any_of HT_.out (by kernel_rfl)) (fun _ _ _ h => h) (Or.inl ⟨by rfl, ?_⟩) ?_ ?_
                          rotate_left
                          · intro w'
                            go_simp
                            with_reducible rfl
                          rotate_left
                          · simp only [Act.put, List.setIfInBounds_toArray, List.set_cons_zero, List.set_cons_succ, i64_w, i32_w]
                            rfl
                          refine pure_ (i := 16) (N := some 57) (v := ?_) (a' := ?_) #[true, true, true, true, true, true, true, true, true, true, true, true, true, true, true, true, true, false, false, false, false, false, false, false, false, false, false, false, false, false, false, false, false, false, false, false] rfl rfl (any_of HT_.out (by kernel_rfl)) (fun _ _ _ h => h) (Or.inl ⟨by rfl, ?_⟩) ?_ ?_
                          rotate_left
                          · intro w'
                            go_simp
                            with_reducible rfl
                          rotate_left
                          · simp only [Act.put, List.setIfInBounds_toArray, List.set_cons_zero, List.set_cons_succ, i64_w, i32_w]
                            rfl
                          refine pure_ (i := 17) (N := some 58) (v := ?_) (a' := ?_) #[true, true, true, true, true, true, true, true, true, true, true, true, true, true, true, true, true, true, false, false, false, false, false, false, false, false, false, false, false, false, false, false, false, false, false, false] rfl rfl (any_of HT_.out (by kernel_rfl)) (fun _ _ _ h => h) (Or.inl ⟨by rfl, ?_⟩) ?_ ?_
                          rotate_left
                          · intro w'
                            go_simp
                            with_reducible rfl
                          rotate_left
                          · simp only [Act.put, List.setIfInBounds_toArray, List.set_cons_zero, List.set_cons_succ, i64_w, i32_w]
                            rfl
                          refine pure_ (i := 18) (N := some 59) (v := ?_) (a' := ?_) #[true, true, true, true, true, true, true, true, true, true, true, true, true, true, true, true, true, true, true, false, false, false, false, false, false, false, false, false, false, false, false, false, false, false, false, false] rfl rfl (any_of HT_.out (by kernel_rfl)) (fun _ _ _ h => h) (Or.inl ⟨by rfl, ?_⟩) ?_ ?_
                          rotate_left
                          · intro w'
                            go_simp
                            with_reducible rfl
                          rotate_left
                          · simp only [Act.put, List.setIfInBounds_toArray, List.set_cons_zero, List.set_cons_succ, i64_w, i32_w]
                            rfl
                          refine pure_ (i := 19) (N := some 60) (v := ?_) (a' := ?_) #[true, true, true, true, true, true, true, true, true, true, true, true, true, true, true, true, true, true, true, true, false, false, false, false, false, false, false, false, false, false, false, false, false, false, false, false] rfl rfl (any_of HT_.out (by kernel_rfl)) (fun _ _ _ h => h) (Or.inl ⟨by rfl, ?_⟩) ?_ ?_
                          rotate_left
                          · intro w'
                            go_simp
                            with_reducible rfl
                          rotate_left
                          · simp only [Act.put, List.setIfInBounds_toArray, List.set_cons_zero, List.set_cons_succ, i64_w, i32_w]
                            rfl
                          refine pure_ (i := 20) (N := some 61) (v := ?_) (a' := ?_) #[true, true, true, true, true, true, true, true, true, true, true, true, true, true, true, true, true, true, true, true, true, false, false, false, false, false, false, false, false, false, false, false, false, false, false, false] rfl rfl (any_of HT_.out (by kernel_rfl)) (fun _ _ _ h => h) (Or.inl ⟨by rfl, ?_⟩) ?_ ?_
                          rotate_left
                          · intro w'
                            go_simp
                            with_reducible rfl
                          rotate_left
                          · simp only [Act.put, List.setIfInBounds_toArray, List.set_cons_zero, List.set_cons_succ, i64_w, i32_w]
                            rfl
                          refine pure_ (i := 22) (N := some 63) (v := ?_) (a' := ?_) #[true, true, true, true, true, true, true, true, true, true, true, true, true, true, true, true, true, true, true, true, true, false, true, false, false, false, false, false, false, false, false, false, false, false, false, false] rfl rfl (any_of HT_.out (by kernel_rfl)) (fun _ _ _ h => h) (Or.inl ⟨by rfl, ?_⟩) ?_ ?_
                          rotate_left
                          · intro w'
                            go_simp
                            with_reducible rfl
                          rotate_left
                          · simp only [Act.put, List.setIfInBounds_toArray, List.set_cons_zero, List.set_cons_succ, i64_w, i32_w]
                            rfl
                          refine pure_ (i := 23) (N := some 64) (v := ?_) (a' := ?_) #[true, true, true, true, true, true, true, true, true, true, true, true, true, true, true, true, true, true, true, true, true, false, true, true, false, false, false, false, false, false, false, false, false, false, false, false] rfl rfl (any_of HT_.out (by kernel_rfl)) (fun _ _ _ h => h) (Or.inl ⟨by rfl, ?_⟩) ?_ ?_
                          rotate_left
                          · intro w'
                            go_simp
                            with_reducible rfl
                          rotate_left
                          · simp only [Act.put, List.setIfInBounds_toArray, List.set_cons_zero, List.set_cons_succ, i64_w, i32_w]
                            rfl
                          refine pure_ (i := 24) (N := some 65) (v := ?_) (a' := ?_) #[true, true, true, true, true, true, true, true, true, true, true, true, true, true, true, true, true, true, true, true, true, false, true, true, true, false, false, false, false, false, false, false, false, false, false, false] rfl rfl (any_of HT_.out (by kernel_rfl)) (fun _ _ _ h => h) (Or.inl ⟨by rfl, ?_⟩) ?_ ?_
                          rotate_left
                          · intro w'
                            go_simp
                            with_reducible rfl
                          rotate_left
                          · simp only [Act.put, List.setIfInBounds_toArray, List.set_cons_zero, List.set_cons_succ, i64_w, i32_w]
                            rfl
                          refine take_ (i := 27) (N := some 68) (v := ?_) (a' := ?_) #[true, true, true, true, true, true, true, true, true, true, true, true, true, true, true, true, true, true, true, true, true, false, true, true, true, false, false, true, false, false, false, false, false, false, false, false] rfl rfl (take_ofW HT_.out HW_.out (by kernel_rfl)) (fun _ _ _ h => h) (Or.inl ⟨by rfl, ?_⟩) hHeld ?_ ?_
                          rotate_left
                          · rintro w' ⟨s0, s1, s2⟩
                            go_simp
                            with_reducible rfl
                          rotate_left
                          · simp only [Act.put, List.setIfInBounds_toArray, List.set_cons_zero, List.set_cons_succ, i64_w, i32_w]
                            rfl
                          refine one_ (i := 21) (N := some 62) #[true, true, true, true, true, true, true, true, true, true, true, true, true, true, true, true, true, true, true, true, true, true, true, true, true, false, false, true, false, false, false, false, false, false, false, false] rfl rfl (one_of HT_.out (by kernel_rfl)) (by decide) (fun K hK => ?_)
                          refine goes_ Try.func24 (by kernel_rfl) rfl #[.slice A48 y638.length c48] (by rfl) rfl rfl (by (try simp only [List.map_toArray, List.map_cons, List.map_nil]); first | done | rfl | (simp only [List.length_drop, List.length_take]; rfl) | (simp [Act.eval, KC0.out, KY43.out, KC45.out, KY45.out, KA45.out, KC48.out, KY48.out, KA48.out]; done)) ?_
                          with_reducible refine (wide_All.calls k1 _ _ y638 t642 t643 t644 _ ?side1 ?side2 A28.out).mono ?_
                          (case side1 => repeat (first | exact (Kd.C_below HR641.out HB.out) | (with_reducible refine Kd.C_alloc ?_ _) | (with_reducible refine Kd.C_drewN ?_ _) | (with_reducible refine Kd.C_drew ?_)))
                          (case side2 => exact HC641.out)
                          rintro e w49 ⟨rfl, hb⟩
                          refine ⟨_, rfl, ?_⟩
                          have n0_ := Aside0.mk (Kd.R_below (by (with_reducible repeat (first | apply Kd.R_alloc | apply Kd.R_drewN | apply Kd.R_drew)); exact HO_5.out) hb)
                          have n1_ := Aside0.mk (blk_below (g := gb617) (o := .cells #[.int .u64 t614, .int .u64 t615, .int .u64 t616] 27 (0, 0)) (by (with_reducible repeat (first | refine blk_drewN ?_ _ | refine blk_drew ?_ | refine blk_alloc ?_ _)); exact BK617.out) hb)
                          have n2_ := Aside0.mk (below_step (by repeat (first | (with_reducible first | exact HB.out | apply below_alloc | apply pw_below_drewN | apply below_drew1 | refine below_set ?_ GE617.out) | exact HB.out)) hb)
                          clear HO_5
                          clear BK617
                          clear HB
                          have HO_5 := n0_
                          have BK617 := n1_
                          have HB := n2_
                          clear n0_ n1_ n2_
                          (try clear hb)
                          (try clear hb2)
                          (try clear hk)
                          (try clear hi)
                          have q50 : ((ji17) : Int) ≤ ((l0.length : Int) : Int) := of_decide_eq_true (by first | (with_reducible assumption) | assumption)
                          obtain ⟨i050, hi050, _, hsz50, _⟩ := info_parts info25
                          have hroom50 : l0.length ≤ c0 := HC0.out
                          have hC50 : Kd.C k25 _ A0 l0.length l0 := HR0.out
                          have hcut50 := cut_to (P := Try.prog) 22 25 .i64 Try.underlying22 hi050 A0 l0.length c0 (ji17) (of_decide_eq_true (by first | (with_reducible assumption) | assumption)) q50 hroom50
                          have hr50 := Kd.C_take (m := ((ji17) : Int).toNat) hC50 (by omega)
                          have hy50 : y645.length = ((ji17) : Int).toNat := (by rw [Ny645.out, List.length_take]; omega)
                          rw [← Ny645.out] at hr50
                          rw [← hy50] at hcut50
                          have HR648 := Aside0.mk hr50
                          have HC648 := Aside0.mk (show y645.length ≤ c0 from by omega)
                          clear hr50 hC50 hroom50 hi050 hsz50
                          have KY50 := Aside0.mk hy50
                          clear hy50
                          replace q50 := eq_true q50
                          refine hK.out _ _ ⟨(blk_cell BK617.out 0).trans rfl, (blk_cell BK617.out 1).trans rfl, (blk_cell BK617.out 2).trans rfl⟩ (fun hHeld => ?_)
                          clear hK K
                          refine norm_ (a' := ?_) ?_ ?_
                          rotate_left
                          · show Act.put _ (some 62) _ = _
                            simp only [Act.put, List.setIfInBounds_toArray, List.set_cons_zero, List.set_cons_succ, i64_w, i32_w]
                            rfl
                          refine one_ (i := 25) (N := some 66) #[true, true, true, true, true, true, true, true, true, true, true, true, true, true, true, true, true, true, true, true, true, true, true, true, true, true, false, true, false, false, false, false, false, false, false, false] rfl rfl (one_of HT_.out (by kernel_rfl)) (by decide) (fun K hK => ?_)
                          refine goes_ Try.func24 (by kernel_rfl) rfl #[.slice A0 y645.length c0] (by rfl) rfl rfl (by (try simp only [List.map_toArray, List.map_cons, List.map_nil]); first | done | rfl | (simp only [List.length_drop, List.length_take]; rfl) | (simp [Act.eval, KC0.out, KY43.out, KC45.out, KY45.out, KA45.out, KC48.out, KY48.out, KA48.out, KY50.out]; done)) ?_
                          with_reducible refine (wide_All.calls k1 _ _ y645 t649 t650 t651 _ ?side1 ?side2 A31.out).mono ?_
                          (case side1 => repeat (first | exact (Kd.C_below HR648.out HB.out) | (with_reducible refine Kd.C_alloc ?_ _) | (with_reducible refine Kd.C_drewN ?_ _) | (with_reducible refine Kd.C_drew ?_)))
                          (case side2 => exact HC648.out)
                          rintro e w51 ⟨rfl, hb⟩
                          refine ⟨_, rfl, ?_⟩
                          have n0_ := Aside0.mk (Kd.R_below (by (with_reducible repeat (first | apply Kd.R_alloc | apply Kd.R_drewN | apply Kd.R_drew)); exact HO_5.out) hb)
                          have n1_ := Aside0.mk (blk_below (g := gb617) (o := .cells #[.int .u64 t614, .int .u64 t615, .int .u64 t616] 27 (0, 0)) (by (with_reducible repeat (first | refine blk_drewN ?_ _ | refine blk_drew ?_ | refine blk_alloc ?_ _)); exact BK617.out) hb)
                          have n2_ := Aside0.mk (below_step (by repeat (first | (with_reducible first | exact HB.out | apply below_alloc | apply pw_below_drewN | apply below_drew1 | refine below_set ?_ GE617.out) | exact HB.out)) hb)
                          clear HO_5
                          clear BK617
                          clear HB
                          have HO_5 := n0_
                          have BK617 := n1_
                          have HB := n2_
                          clear n0_ n1_ n2_
                          (try clear hb)
                          (try clear hb2)
                          (try clear hk)
                          (try clear hi)
                          refine hK.out _ _ ⟨(blk_cell BK617.out 0).trans rfl, (blk_cell BK617.out 1).trans rfl, (blk_cell BK617.out 2).trans rfl⟩ (fun hHeld => ?_)
                          clear hK K
                          refine norm_ (a' := ?_) ?_ ?_
                          rotate_left
                          · show Act.put _ (some 66) _ = _
                            simp only [Act.put, List.setIfInBounds_toArray, List.set_cons_zero, List.set_cons_succ, i64_w, i32_w]
                            rfl
                          refine one_ (i := 26) (N := some 67) #[true, true, true, true, true, true, true, true, true, true, true, true, true, true, true, true, true, true, true, true, true, true, true, true, true, true, true, true, false, false, false, false, false, false, false, false] rfl rfl (one_of HT_.out (by kernel_rfl)) (by decide) (fun K hK => ?_)
                          refine goes_ Try.func39 (by kernel_rfl) rfl #[.agg #[.int .u64 t642, .int .u64 t643, .int .u64 t644], .agg #[.int .u64 t649, .int .u64 t650, .int .u64 t651]] (by rfl) rfl rfl (by (try simp only [List.map_toArray, List.map_cons, List.map_nil]); first | done | rfl | (simp only [List.length_drop, List.length_take]; rfl) | (simp [Act.eval, KC0.out, KY43.out, KC45.out, KY45.out, KA45.out, KC48.out, KY48.out, KA48.out, KY50.out]; done)) ?_
                          with_reducible refine (wide_Wide_And.calls t642 t643 t644 t649 t650 t651 t652 t653 t654 _ A32.out).mono ?_
                          rintro e w52 ⟨rfl, hb⟩
                          refine ⟨_, rfl, ?_⟩
                          have n0_ := Aside0.mk (Kd.R_below (by (with_reducible repeat (first | apply Kd.R_alloc | apply Kd.R_drewN | apply Kd.R_drew)); exact HO_5.out) hb)
                          have n1_ := Aside0.mk (blk_below (g := gb617) (o := .cells #[.int .u64 t614, .int .u64 t615, .int .u64 t616] 27 (0, 0)) (by (with_reducible repeat (first | refine blk_drewN ?_ _ | refine blk_drew ?_ | refine blk_alloc ?_ _)); exact BK617.out) hb)
                          have n2_ := Aside0.mk (below_step (by repeat (first | (with_reducible first | exact HB.out | apply below_alloc | apply pw_below_drewN | apply below_drew1 | refine below_set ?_ GE617.out) | exact HB.out)) hb)
                          clear HO_5
                          clear BK617
                          clear HB
                          have HO_5 := n0_
                          have BK617 := n1_
                          have HB := n2_
                          clear n0_ n1_ n2_
                          (try clear hb)
                          (try clear hb2)
                          (try clear hk)
                          (try clear hi)
                          refine hK.out _ _ ⟨(blk_cell BK617.out 0).trans rfl, (blk_cell BK617.out 1).trans rfl, (blk_cell BK617.out 2).trans rfl⟩ (fun hHeld => ?_)
                          clear hK K
                          refine norm_ (a' := ?_) ?_ ?_
                          rotate_left
                          · show Act.put _ (some 67) _ = _
                            simp only [Act.put, List.setIfInBounds_toArray, List.set_cons_zero, List.set_cons_succ, i64_w, i32_w]
                            rfl
                          refine pure_ (i := 28) (N := some 69) (v := ?_) (a' := ?_) #[true, true, true, true, true, true, true, true, true, true, true, true, true, true, true, true, true, true, true, true, true, true, true, true, true, true, true, true, true, false, false, false, false, false, false, false] rfl rfl (any_of HT_.out (by kernel_rfl)) (fun _ _ _ h => h) (Or.inl ⟨by rfl, ?_⟩) ?_ ?_
                          rotate_left
                          · intro w'
                            go_simp
                            with_reducible rfl
                          rotate_left
                          · simp only [Act.put, List.setIfInBounds_toArray, List.set_cons_zero, List.set_cons_succ, i64_w, i32_w]
                            rfl
                          refine pure_ (i := 29) (N := some 70) (v := ?_) (a' := ?_) #[true, true, true, true, true, true, true, true, true, true, true, true, true, true, true, true, true, true, true, true, true, true, true, true, true, true, true, true, true, true, false, false, false, false, false, false] rfl rfl (any_of HT_.out (by kernel_rfl)) (fun _ _ _ h => h) (Or.inl ⟨by rfl, ?_⟩) ?_ ?_
                          rotate_left
                          · intro w'
                            go_simp
                            with_reducible rfl
                          rotate_left
                          · simp only [Act.put, List.setIfInBounds_toArray, List.set_cons_zero, List.set_cons_succ, i64_w, i32_w]
                            rfl
                          refine pure_ (i := 30) (N := some 71) (v := ?_) (a' := ?_) #[true, true, true, true, true, true, true, true, true, true, true, true, true, true, true, true, true, true, true, true, true, true, true, true, true, true, true, true, true, true, true, false, false, false, false, false] rfl rfl (any_of HT_.out (by kernel_rfl)) (fun _ _ _ h => h) (Or.inl ⟨by rfl, ?_⟩) ?_ ?_
                          rotate_left
                          · intro w'
                            go_simp
                            with_reducible rfl
                          rotate_left
                          · simp only [Act.put, List.setIfInBounds_toArray, List.set_cons_zero, List.set_cons_succ, i64_w, i32_w]
                            rfl
                          refine pure_ (i := 31) (N := some 72) (v := ?_) (a' := ?_) #[true, true, true, true, true, true, true, true, true, true, true, true, true, true, true, true, true, true, true, true, true, true, true, true, true, true, true, true, true, true, true, true, false, false, false, false] rfl rfl (any_of HT_.out (by kernel_rfl)) (fun _ _ _ h => h) (Or.inl ⟨by rfl, ?_⟩) ?_ ?_
                          rotate_left
                          · intro w'
                            go_simp
                            with_reducible rfl
                          rotate_left
                          · simp only [Act.put, List.setIfInBounds_toArray, List.set_cons_zero, List.set_cons_succ, i64_w, i32_w]
                            rfl
                          refine pure_ (i := 32) (N := some 73) (v := ?_) (a' := ?_) #[true, true, true, true, true, true, true, true, true, true, true, true, true, true, true, true, true, true, true, true, true, true, true, true, true, true, true, true, true, true, true, true, true, false, false, false] rfl rfl (any_of HT_.out (by kernel_rfl)) (fun _ _ _ h => h) (Or.inl ⟨by rfl, ?_⟩) ?_ ?_
                          rotate_left
                          · intro w'
                            go_simp
                            with_reducible rfl
                          rotate_left
                          · simp only [Act.put, List.setIfInBounds_toArray, List.set_cons_zero, List.set_cons_succ, i64_w, i32_w]
                            rfl
                          refine one_ (i := 33) (N := some 74) #[true, true, true, true, true, true, true, true, true, true, true, true, true, true, true, true, true, true, true, true, true, true, true, true, true, true, true, true, true, true, true, true, true, true, false, false] rfl rfl (one_of HT_.out (by kernel_rfl)) (by decide) (fun K hK => ?_)
                          refine goes_ Try.func26 (by kernel_rfl) rfl #[.slice A0 l0.length c0, .slice Ao41 x5_1.length co41] (by rfl) rfl rfl (by (try simp only [List.map_toArray, List.map_cons, List.map_nil]); first | done | rfl | (simp only [List.length_drop, List.length_take]; rfl) | (simp [Act.eval, KC0.out, KY43.out, KC45.out, KY45.out, KA45.out, KC48.out, KY48.out, KA48.out, KY50.out]; done)) ?_
                          with_reducible refine (wide_Balanced.calls k1 _ _ l0 _ _ x5_1 true _ ?side1 ?side2 ?side3 ?side4 A34.out).mono ?_
                          (case side1 => repeat (first | exact (Kd.C_below HR0.out HB.out) | (with_reducible refine Kd.C_alloc ?_ _) | (with_reducible refine Kd.C_drewN ?_ _) | (with_reducible refine Kd.C_drew ?_)))
                          (case side2 => exact HC0.out)
                          (case side3 => repeat (first | exact (Kd.R_reads' HO_5.out).2.2 | (with_reducible refine Kd.C_alloc ?_ _) | (with_reducible refine Kd.C_drewN ?_ _) | (with_reducible refine Kd.C_drew ?_)))
                          (case side4 => exact (Kd.R_reads' HO_5.out).2.1)
                          rintro e w53 ⟨rfl, hb⟩
                          refine ⟨_, rfl, ?_⟩
                          have n0_ := Aside0.mk (Kd.R_below (by (with_reducible repeat (first | apply Kd.R_alloc | apply Kd.R_drewN | apply Kd.R_drew)); exact HO_5.out) hb)
                          have n1_ := Aside0.mk (blk_below (g := gb617) (o := .cells #[.int .u64 t614, .int .u64 t615, .int .u64 t616] 27 (0, 0)) (by (with_reducible repeat (first | refine blk_drewN ?_ _ | refine blk_drew ?_ | refine blk_alloc ?_ _)); exact BK617.out) hb)
                          have n2_ := Aside0.mk (below_step (by repeat (first | (with_reducible first | exact HB.out | apply below_alloc | apply pw_below_drewN | apply below_drew1 | refine below_set ?_ GE617.out) | exact HB.out)) hb)
                          clear HO_5
                          clear BK617
                          clear HB
                          have HO_5 := n0_
                          have BK617 := n1_
                          have HB := n2_
                          clear n0_ n1_ n2_
                          (try clear hb)
                          (try clear hb2)
                          (try clear hk)
                          (try clear hi)
                          refine hK.out _ _ ⟨(blk_cell BK617.out 0).trans rfl, (blk_cell BK617.out 1).trans rfl, (blk_cell BK617.out 2).trans rfl⟩ (fun hHeld => ?_)
                          clear hK K
                          refine norm_ (a' := ?_) ?_ ?_
                          rotate_left
                          · show Act.put _ (some 74) _ = _
                            simp only [Act.put, List.setIfInBounds_toArray, List.set_cons_zero, List.set_cons_succ, i64_w, i32_w]
                            rfl
                          refine pure_ (i := 34) (N := some 75) (v := ?_) (a' := ?_) #[true, true, true, true, true, true, true, true, true, true, true, true, true, true, true, true, true, true, true, true, true, true, true, true, true, true, true, true, true, true, true, true, true, true, true, false] rfl rfl (any_of HT_.out (by kernel_rfl)) (fun _ _ _ h => h) (Or.inl ⟨by rfl, ?_⟩) ?_ ?_
                          rotate_left
                          · intro w'
                            go_simp
                            with_reducible rfl
                          rotate_left
                          · simp only [Act.put, List.setIfInBounds_toArray, List.set_cons_zero, List.set_cons_succ, i64_w, i32_w]
                            rfl
                          refine pure_ (i := 35) (N := some 76) (v := ?_) (a' := ?_) #[true, true, true, true, true, true, true, true, true, true, true, true, true, true, true, true, true, true, true, true, true, true, true, true, true, true, true, true, true, true, true, true, true, true, true, true] rfl rfl (any_of HT_.out (by kernel_rfl)) (fun _ _ _ h => h) (Or.inl ⟨by rfl, ?_⟩) ?_ ?_
                          rotate_left
                          · intro w'
                            go_simp
                            with_reducible rfl
                          rotate_left
                          · simp only [Act.put, List.setIfInBounds_toArray, List.set_cons_zero, List.set_cons_succ, i64_w, i32_w]
                            rfl
                          refine done_ (done_of HT_.out (by kernel_rfl)) ?_
                          (try rw [← KA45.out])
                          (try rw [← KA48.out])
                          try go_wp2_with (first | ((with_reducible refine gate_dst (N := 9) rfl ?_); refine box_event ?hg (N := 9) ?hd (cs := #[.int .u64 0, .int .u64 0, .int .u64 0]) (t := 27) ?hr ?_; (case hd => rfl); (case hg => rfl); (case hr => first | (go_simp; done) | (go_simp; rfl)); intro gb658 hg w54 hbox hb; have n0_ := Aside0.mk (Kd.R_below (by (with_reducible repeat (first | apply Kd.R_alloc | apply Kd.R_drewN | apply Kd.R_drew)); exact HO_5.out) hb); have n1_ := Aside0.mk (blk_below (g := gb617) (o := .cells #[.int .u64 t614, .int .u64 t615, .int .u64 t616] 27 (0, 0)) (by (with_reducible repeat (first | refine blk_drewN ?_ _ | refine blk_drew ?_ | refine blk_alloc ?_ _)); exact BK617.out) hb); have n2_ := Aside0.mk (below_step (by repeat (first | (with_reducible first | exact HB.out | apply below_alloc | apply pw_below_drewN | apply below_drew1 | refine below_set ?_ GE617.out) | exact HB.out)) hb); have n3_ := Aside0.mk (hbox); have n4_ := Aside0.mk ((by rw [hg]; exact (below_size (by repeat (first | (with_reducible first | exact HB.out | apply below_alloc | apply pw_below_drewN | apply below_drew1 | refine below_set ?_ GE617.out) | exact HB.out))) : w.heap.size ≤ gb658)); have n5_ := Aside0.mk ((by rw [hg]; exact (below_size (by repeat (first | (with_reducible first | exact HB.out | apply below_alloc | apply pw_below_drewN | apply below_drew1 | refine below_set ?_ GE617.out) | exact HB.out))) : w.heap.size ≤ gb658)); have n6_ := Aside0.mk ((by rw [hg]; exact Nat.ne_of_lt (blk_lt (g := gb617) (o := .cells #[.int .u64 t614, .int .u64 t615, .int .u64 t616] 27 (0, 0)) (by (with_reducible repeat (first | refine blk_drewN ?_ _ | refine blk_drew ?_ | refine blk_alloc ?_ _)); exact BK617.out)) : gb617 ≠ gb658)); have n7_ := Aside0.mk ((by rw [hg]; exact Nat.ne_of_gt (blk_lt (g := gb617) (o := .cells #[.int .u64 t614, .int .u64 t615, .int .u64 t616] 27 (0, 0)) (by (with_reducible repeat (first | refine blk_drewN ?_ _ | refine blk_drew ?_ | refine blk_alloc ?_ _)); exact BK617.out)) : gb658 ≠ gb617)); clear HO_5; clear BK617; clear HB; have HO_5 := n0_; have BK617 := n1_; have HB := n2_; have BK658 := n3_; have GW658 := n4_; have GE658 := n5_; have NB617_658 := n6_; have NB658_617 := n7_; clear n0_ n1_ n2_ n3_ n4_ n5_ n6_ n7_; clear hb hbox hg))
                          go_loopg [10] k1 (fun kq v10 w' => ∃ (x10_2 : Int) (x659000_2 : Int) (x659001_2 : Int) (x659002_2 : Int), v10 = .int .i64 x10_2 ∧ Aside0 (paymasterlaw03_WideOrders.l1 kq l0 x10_2 t614 t615 t616 x659000_2 x659001_2 x659002_2 = some r) ∧ Aside0 (kq ≤ k1) ∧ Aside0 (w'.heap[gb617]? = some (.cells #[.int .u64 t614, .int .u64 t615, .int .u64 t616] 27 (0, 0))) ∧ Aside0 (w'.heap[gb658]? = some (.cells #[.int .u64 x659000_2, .int .u64 x659001_2, .int .u64 x659002_2] 27 (0, 0))) ∧ Aside0 (Below w.heap.size w w'))
                          case atStart => exact ⟨(0), (0), (0), (0), (by first | rfl | (simp; done) | (simp [*]; done)), H', ⟨Nat.le_refl _⟩, ⟨by (with_reducible repeat (first | refine blk_drewN ?_ _ | refine blk_drew ?_ | refine blk_alloc ?_ _)); exact BK617.out⟩, ⟨by (with_reducible repeat (first | refine blk_drewN ?_ _ | refine blk_drew ?_ | refine blk_alloc ?_ _)); exact BK658.out⟩, ⟨by repeat (first | (with_reducible first | exact HB.out | apply below_alloc | apply pw_below_drewN | apply below_drew1 | refine below_set ?_ GE617.out | refine below_set ?_ GE658.out) | exact HB.out)⟩⟩
                          case round =>
                            clear H'
                            try clear c1
                            try clear c2
                            try clear p2
                            try clear c3
                            try clear c4
                            try clear q4
                            try clear q5
                            try clear c24
                            try clear c25
                            try clear c25b0
                            try clear c26
                            try clear c26b0
                            try clear c27
                            try clear c27b0
                            try clear c29
                            try clear c29b0
                            try clear c30
                            try clear c30b0
                            try clear c33
                            try clear c33b0
                            try clear c35
                            try clear c39
                            try clear q43
                            try clear c45
                            try clear q45
                            try clear c48
                            try clear q48
                            try clear q50
                            try clear hcz38_0
                            try clear hcz38_1
                            try clear hcz38_2
                            try clear hfz38_0
                            try clear hfz38_1
                            try clear hfz38_2
                            try clear q045
                            try clear q048
                            try clear q43
                            try clear q45
                            try clear q48
                            try clear q50
                            obtain ⟨x10_2, x659000_2, x659001_2, x659002_2, rfl, HA, HK2, BK617, BK658, HB⟩ := hrel
                            cases gk with
                            | zero => exact absurd HA.out (by simp [paymasterlaw03_WideOrders.l1])
                            | succ k2 =>
                              have H := HA.out
                              clear HA
                              simp only [paymasterlaw03_WideOrders.l1] at H
                              by_cases c55 : x10_2 < (l0.length : Int)
                              · rw [if_pos c55] at H
                                have c55b0 : decide (x10_2 < (l0.length : Int)) = true := decide_eq_true c55
                                clear c55
                                by_cases c56 : 0 ≤ x10_2
                                · rw [if_pos c56] at H
                                  have c56b0 : decide (0 ≤ x10_2) = true := decide_eq_true c56
                                  clear c56
                                  replace H := Option.bind_eq_some_iff.mp H
                                  obtain ⟨⟨t668, t669, t670⟩, A570, H⟩ := H
                                  replace H : ((wide_Less.f k2 x659000_2 x659001_2 x659002_2 t668 t669 t670).bind fun t672 => (if (t672 != (!(((rd_T25 l0 x10_2).f0) == 0) || (!(((rd_T25 l0 x10_2).f1) == 0)))) = true then (none) else ((wide_Less.f k2 t668 t669 t670 x659000_2 x659001_2 x659002_2).bind fun t674 => (if t674 = true then (none) else (paymasterlaw03_WideOrders.l1 k2 l0 (wrap64 (x10_2 + 1)) t614 t615 t616 t668 t669 t670))))) = some r := H
                                  have A57 := Aside0.mk A570
                                  clear A570
                                  replace H := Option.bind_eq_some_iff.mp H
                                  obtain ⟨t672, A580, H⟩ := H
                                  replace H : (if (t672 != (!(((rd_T25 l0 x10_2).f0) == 0) || (!(((rd_T25 l0 x10_2).f1) == 0)))) = true then (none) else ((wide_Less.f k2 t668 t669 t670 x659000_2 x659001_2 x659002_2).bind fun t674 => (if t674 = true then (none) else (paymasterlaw03_WideOrders.l1 k2 l0 (wrap64 (x10_2 + 1)) t614 t615 t616 t668 t669 t670)))) = some r := H
                                  have A58 := Aside0.mk A580
                                  clear A580
                                  by_cases c59 : (t672 != (!(((rd_T25 l0 x10_2).f0) == 0) || (!(((rd_T25 l0 x10_2).f1) == 0)))) = true
                                  · rw [if_pos c59] at H
                                    have c59b0 : (t672 != (!(((rd_T25 l0 x10_2).f0) == 0) || (!(((rd_T25 l0 x10_2).f1) == 0)))) = true := c59
                                    (try (have c59b1 : decide (t672 = (!(((rd_T25 l0 x10_2).f0) == 0) || (!(((rd_T25 l0 x10_2).f1) == 0)))) = false := by simpa using c59))
                                    (try (have c59b2 : (t672 == (!(((rd_T25 l0 x10_2).f0) == 0) || (!(((rd_T25 l0 x10_2).f1) == 0)))) = false := by simpa using c59))
                                    (try (have c59b3 : ¬ (t672 = (!(((rd_T25 l0 x10_2).f0) == 0) || (!(((rd_T25 l0 x10_2).f1) == 0)))) := by simpa using c59))
                                    clear c59
                                    exact absurd H (by simp)
                                  · rw [if_neg c59] at H
                                    have c59b0 : (t672 != (!(((rd_T25 l0 x10_2).f0) == 0) || (!(((rd_T25 l0 x10_2).f1) == 0)))) = false := by simpa using c59
                                    (try (have c59b1 : decide (t672 = (!(((rd_T25 l0 x10_2).f0) == 0) || (!(((rd_T25 l0 x10_2).f1) == 0)))) = true := by simpa using c59))
                                    (try (have c59b2 : (t672 == (!(((rd_T25 l0 x10_2).f0) == 0) || (!(((rd_T25 l0 x10_2).f1) == 0)))) = true := by simpa using c59))
                                    clear c59
                                    replace H := Option.bind_eq_some_iff.mp H
                                    obtain ⟨t674, A600, H⟩ := H
                                    replace H : (if t674 = true then (none) else (paymasterlaw03_WideOrders.l1 k2 l0 (wrap64 (x10_2 + 1)) t614 t615 t616 t668 t669 t670)) = some r := H
                                    have A60 := Aside0.mk A600
                                    clear A600
                                    by_cases c61 : t674 = true
                                    · subst c61
                                      have H1 : (none) = some r := by rw [if_pos rfl] at H; exact H
                                      clear H
                                      have H := H1
                                      clear H1
                                      exact absurd H (by simp)
                                    · replace c61 := Bool.eq_false_iff.mpr c61
                                      subst c61
                                      have H1 : (paymasterlaw03_WideOrders.l1 k2 l0 (wrap64 (x10_2 + 1)) t614 t615 t616 t668 t669 t670) = some r := by rw [if_neg (show ¬ (false = true) by decide)] at H; exact H
                                      clear H
                                      have H := H1
                                      clear H1
                                      have H' := Aside0.mk H
                                      clear H
                                      try go_wp2
                                      have n0_ := Aside0.mk (blk_drew BK617.out)
                                      have n1_ := Aside0.mk (blk_drew BK658.out)
                                      have n2_ := Aside0.mk (below_drew1 HB.out)
                                      clear BK617
                                      clear BK658
                                      clear HB
                                      have BK617 := n0_
                                      have BK658 := n1_
                                      have HB := n2_
                                      clear n0_ n1_ n2_
                                      have p667 : 0 ≤ (x10_2 : Int) := of_decide_eq_true (by first | (with_reducible assumption) | assumption)
                                      have q667 : x10_2 < (l0.length : Int) := of_decide_eq_true (by first | (with_reducible assumption) | assumption)
                                      obtain ⟨ad667, e667, hx667_0, hx667_1⟩ := at_T25 HR0.out x10_2 p667 q667
                                      have hw667_1 := hx667_1
                                      have hw667_0 := hx667_0
                                      cases e667
                                      replace hx667_0 := (HB.out.cell (World.block_lt_of_cell? w _ hx667_0)).trans hx667_0
                                      replace hx667_1 := (HB.out.cell (World.block_lt_of_cell? w _ hx667_1)).trans hx667_1
                                      replace p667 := eq_true p667
                                      replace q667 := eq_true q667
                                      refine start_ (n := 8) (S := fun w' => w'.cell? ⟨gb658, 0, none⟩ = some (.int .u64 x659000_2) ∧ w'.cell? ⟨gb658, 1, none⟩ = some (.int .u64 x659001_2) ∧ w'.cell? ⟨gb658, 2, none⟩ = some (.int .u64 x659002_2) ∧ w'.cell? (ad667.add ((x10_2).toNat * 2)) = some (.int .u64 ((rd_T25 l0 x10_2).f0)) ∧ w'.cell? ⟨(ad667.add ((x10_2).toNat * 2)).block, (ad667.add ((x10_2).toNat * 2)).off + 1, none⟩ = some (.int .u64 ((rd_T25 l0 x10_2).f1))) (ds := []) #[false, false, false, false, false, false, false, false] (by kernel_rfl) rfl rfl ⟨(blk_cell BK658.out 0).trans rfl, (blk_cell BK658.out 1).trans rfl, (blk_cell BK658.out 2).trans rfl, ((HB.out.cell (World.block_lt_of_cell? w _ hw667_0)).trans hw667_0), ((HB.out.cell (World.block_lt_of_cell? w _ hw667_1)).trans hw667_1)⟩ (fun hHeld => ?_); refine with_tabW paymasterlaw03_WideOrders.tab18 paymasterlaw03_WideOrders.bits18 (fun HT_ HW_ => ?_)
                                      generalize wr.drew = w62 at BK617 BK658 HB hx667_0 hx667_1 hHeld ⊢
                                      refine pure_ (i := 1) (N := some 84) (v := ?_) (a' := ?_) #[false, true, false, false, false, false, false, false] rfl rfl (any_of HT_.out (by kernel_rfl)) (fun _ _ _ h => h) (Or.inl ⟨by rfl, ?_⟩) ?_ ?_
                                      rotate_left
                                      · intro w'
                                        go_simp
                                        with_reducible rfl
                                      rotate_left
                                      · simp only [Act.put, List.setIfInBounds_toArray, List.set_cons_zero, List.set_cons_succ, i64_w, i32_w]
                                        rfl
                                      refine pure_ (i := 2) (N := some 85) (v := ?_) (a' := ?_) #[false, true, true, false, false, false, false, false] rfl rfl (any_of HT_.out (by kernel_rfl)) (fun _ _ _ h => h) (Or.inl ⟨by rfl, ?_⟩) ?_ ?_
                                      rotate_left
                                      · intro w'
                                        go_simp
                                        with_reducible rfl
                                      rotate_left
                                      · simp only [Act.put, List.setIfInBounds_toArray, List.set_cons_zero, List.set_cons_succ, i64_w, i32_w]
                                        rfl
                                      refine pure_ (i := 3) (N := some 86) (v := ?_) (a' := ?_) #[false, true, true, true, false, false, false, false] rfl rfl (any_of HT_.out (by kernel_rfl)) (fun _ _ _ h => h) (Or.inl ⟨by rfl, ?_⟩) ?_ ?_
                                      rotate_left
                                      · intro w'
                                        go_simp
                                        with_reducible rfl
                                      rotate_left
                                      · simp only [Act.put, List.setIfInBounds_toArray, List.set_cons_zero, List.set_cons_succ, i64_w, i32_w]
                                        rfl
                                      refine take_ (i := 0) (N := some 83) (v := ?_) (a' := ?_) #[true, true, true, true, false, false, false, false] rfl rfl (take_ofW HT_.out HW_.out (by kernel_rfl)) (fun _ _ _ h => h) (Or.inl ⟨by rfl, ?_⟩) hHeld ?_ ?_
                                      rotate_left
                                      · rintro w' ⟨s0, s1, s2, s3, s4⟩
                                        go_simp
                                        with_reducible rfl
                                      rotate_left
                                      · simp only [Act.put, List.setIfInBounds_toArray, List.set_cons_zero, List.set_cons_succ, i64_w, i32_w]
                                        rfl
                                      refine take_ (i := 4) (N := some 87) (v := ?_) (a' := ?_) #[true, true, true, true, true, false, false, false] rfl rfl (take_ofW HT_.out HW_.out (by kernel_rfl)) (fun _ _ _ h => h) (Or.inl ⟨by rfl, ?_⟩) hHeld ?_ ?_
                                      rotate_left
                                      · rintro w' ⟨s0, s1, s2, s3, s4⟩
                                        go_simp
                                        with_reducible rfl
                                      rotate_left
                                      · simp only [Act.put, List.setIfInBounds_toArray, List.set_cons_zero, List.set_cons_succ, i64_w, i32_w]
                                        rfl
                                      refine join_ (σ := Nat) 1 #[true, true, true, true, true, true, true, false] (fun s_ => [(88, .agg #[.int .u64 t668, .int .u64 t669, .int .u64 t670]), (11, .pointer (some ⟨s_, 0, none⟩))]) (fun s_ w' => (w'.cell? ⟨gb658, 0, none⟩ = some (.int .u64 x659000_2) ∧ w'.cell? ⟨gb658, 1, none⟩ = some (.int .u64 x659001_2) ∧ w'.cell? ⟨gb658, 2, none⟩ = some (.int .u64 x659002_2) ∧ w'.cell? (ad667.add ((x10_2).toNat * 2)) = some (.int .u64 ((rd_T25 l0 x10_2).f0)) ∧ w'.cell? ⟨(ad667.add ((x10_2).toNat * 2)).block, (ad667.add ((x10_2).toNat * 2)).off + 1, none⟩ = some (.int .u64 ((rd_T25 l0 x10_2).f1))) ∧ (w'.heap[gb617]? = some (.cells #[.int .u64 t614, .int .u64 t615, .int .u64 t616] 27 (0, 0))) ∧ (w'.heap[gb658]? = some (.cells #[.int .u64 x659000_2, .int .u64 x659001_2, .int .u64 x659002_2] 27 (0, 0))) ∧ (w'.heap[s_]? = some (.cells #[.int .u64 0, .int .u64 0, .int .u64 0] 27 (0, 0))) ∧ (w.heap.size ≤ s_) ∧ (w.heap.size ≤ s_) ∧ (gb617 ≠ s_) ∧ (s_ ≠ gb617) ∧ (gb658 ≠ s_) ∧ (s_ ≠ gb658) ∧ (Below w.heap.size w w')) ?_ ?_
                                      rotate_left
                                      · intro hCont
                                        refine two_ (i := 5) (j := 6) (Ni := some 88) (Nj := some 11) #[true, true, true, true, true, true, false, false] #[true, true, true, true, true, false, true, false] rfl rfl rfl rfl (two_of HT_.out (by kernel_rfl)) (by decide) (by decide) (fun K hK => ?_) (fun K hK => ?_)
                                        · skip
                                          refine goes_ Try.func37 (by kernel_rfl) rfl #[.agg #[.int .u64 x659000_2, .int .u64 x659001_2, .int .u64 x659002_2], .agg #[.int .u64 ((rd_T25 l0 x10_2).f0), .int .u64 ((rd_T25 l0 x10_2).f1)]] (by rfl) rfl rfl (by (try simp only [List.map_toArray, List.map_cons, List.map_nil]); first | done | rfl | (simp only [List.length_drop, List.length_take]; rfl) | (simp [Act.eval, KC0.out, KY43.out, KC45.out, KY45.out, KA45.out, KC48.out, KY48.out, KA48.out, KY50.out]; done)) ?_
                                          with_reducible refine (wide_Wide_Plus.calls x659000_2 x659001_2 x659002_2 ((rd_T25 l0 x10_2).f0) ((rd_T25 l0 x10_2).f1) t668 t669 t670 _ A57.out).mono ?_
                                          rintro e w63 ⟨rfl, hb⟩
                                          refine ⟨_, rfl, ?_⟩
                                          have n0_ := Aside0.mk (blk_below (g := gb617) (o := .cells #[.int .u64 t614, .int .u64 t615, .int .u64 t616] 27 (0, 0)) (by (with_reducible repeat (first | refine blk_drewN ?_ _ | refine blk_drew ?_ | refine blk_alloc ?_ _)); exact BK617.out) hb)
                                          have n1_ := Aside0.mk (blk_below (g := gb658) (o := .cells #[.int .u64 x659000_2, .int .u64 x659001_2, .int .u64 x659002_2] 27 (0, 0)) (by (with_reducible repeat (first | refine blk_drewN ?_ _ | refine blk_drew ?_ | refine blk_alloc ?_ _)); exact BK658.out) hb)
                                          have n2_ := Aside0.mk (below_step (by repeat (first | (with_reducible first | exact HB.out | apply below_alloc | apply pw_below_drewN | apply below_drew1 | refine below_set ?_ GE617.out | refine below_set ?_ GE658.out) | exact HB.out)) hb)
                                          clear BK617
                                          clear BK658
                                          clear HB
                                          have BK617 := n0_
                                          have BK658 := n1_
                                          have HB := n2_
                                          clear n0_ n1_ n2_
                                          (try clear hb)
                                          (try clear hb2)
                                          (try clear hk)
                                          (try clear hi)
                                          refine hK.out _ _ ⟨(blk_cell BK658.out 0).trans rfl, (blk_cell BK658.out 1).trans rfl, (blk_cell BK658.out 2).trans rfl, ((HB.out.cell (World.block_lt_of_cell? w _ hw667_0)).trans hw667_0), ((HB.out.cell (World.block_lt_of_cell? w _ hw667_1)).trans hw667_1)⟩ (fun hHeld => ?_)
                                          clear hK K
                                          refine norm_ (a' := ?_) ?_ ?_
                                          rotate_left
                                          · show Act.put _ (some 88) _ = _
                                            simp only [Act.put, List.setIfInBounds_toArray, List.set_cons_zero, List.set_cons_succ, i64_w, i32_w]
                                            rfl
                                          refine one_ (i := 6) (N := some 11) #[true, true, true, true, true, true, true, false] rfl rfl (one_of HT_.out (by kernel_rfl)) (by decide) (fun K hK => ?_)
                                          refine box_step ?hg (N := 11) ?hd (cs := #[.int .u64 0, .int .u64 0, .int .u64 0]) (t := 27) ?hr ?_; (case hd => rfl); (case hg => rfl); (case hr => first | (go_simp; done) | (go_simp; rfl))
                                          intro gb671 hg w64 hbox hb
                                          have n0_ := Aside0.mk (blk_below (g := gb617) (o := .cells #[.int .u64 t614, .int .u64 t615, .int .u64 t616] 27 (0, 0)) (by (with_reducible repeat (first | refine blk_drewN ?_ _ | refine blk_drew ?_ | refine blk_alloc ?_ _)); exact BK617.out) hb)
                                          have n1_ := Aside0.mk (blk_below (g := gb658) (o := .cells #[.int .u64 x659000_2, .int .u64 x659001_2, .int .u64 x659002_2] 27 (0, 0)) (by (with_reducible repeat (first | refine blk_drewN ?_ _ | refine blk_drew ?_ | refine blk_alloc ?_ _)); exact BK658.out) hb)
                                          have n2_ := Aside0.mk (below_step (by repeat (first | (with_reducible first | exact HB.out | apply below_alloc | apply pw_below_drewN | apply below_drew1 | refine below_set ?_ GE617.out | refine below_set ?_ GE658.out) | exact HB.out)) hb)
                                          have n3_ := Aside0.mk (hbox)
                                          have n4_ := Aside0.mk ((by rw [hg]; exact (below_size (by repeat (first | (with_reducible first | exact HB.out | apply below_alloc | apply pw_below_drewN | apply below_drew1 | refine below_set ?_ GE617.out | refine below_set ?_ GE658.out) | exact HB.out))) : w.heap.size ≤ gb671))
                                          have n5_ := Aside0.mk ((by rw [hg]; exact (below_size (by repeat (first | (with_reducible first | exact HB.out | apply below_alloc | apply pw_below_drewN | apply below_drew1 | refine below_set ?_ GE617.out | refine below_set ?_ GE658.out) | exact HB.out))) : w.heap.size ≤ gb671))
                                          have n6_ := Aside0.mk ((by rw [hg]; exact Nat.ne_of_lt (blk_lt (g := gb617) (o := .cells #[.int .u64 t614, .int .u64 t615, .int .u64 t616] 27 (0, 0)) (by (with_reducible repeat (first | refine blk_drewN ?_ _ | refine blk_drew ?_ | refine blk_alloc ?_ _)); exact BK617.out)) : gb617 ≠ gb671))
                                          have n7_ := Aside0.mk ((by rw [hg]; exact Nat.ne_of_gt (blk_lt (g := gb617) (o := .cells #[.int .u64 t614, .int .u64 t615, .int .u64 t616] 27 (0, 0)) (by (with_reducible repeat (first | refine blk_drewN ?_ _ | refine blk_drew ?_ | refine blk_alloc ?_ _)); exact BK617.out)) : gb671 ≠ gb617))
                                          have n8_ := Aside0.mk ((by rw [hg]; exact Nat.ne_of_lt (blk_lt (g := gb658) (o := .cells #[.int .u64 x659000_2, .int .u64 x659001_2, .int .u64 x659002_2] 27 (0, 0)) (by (with_reducible repeat (first | refine blk_drewN ?_ _ | refine blk_drew ?_ | refine blk_alloc ?_ _)); exact BK658.out)) : gb658 ≠ gb671))
                                          have n9_ := Aside0.mk ((by rw [hg]; exact Nat.ne_of_gt (blk_lt (g := gb658) (o := .cells #[.int .u64 x659000_2, .int .u64 x659001_2, .int .u64 x659002_2] 27 (0, 0)) (by (with_reducible repeat (first | refine blk_drewN ?_ _ | refine blk_drew ?_ | refine blk_alloc ?_ _)); exact BK658.out)) : gb671 ≠ gb658))
                                          clear BK617
                                          clear BK658
                                          clear HB
                                          have BK617 := n0_
                                          have BK658 := n1_
                                          have HB := n2_
                                          have BK671 := n3_
                                          have GW671 := n4_
                                          have GE671 := n5_
                                          have NB617_671 := n6_
                                          have NB671_617 := n7_
                                          have NB658_671 := n8_
                                          have NB671_658 := n9_
                                          clear n0_ n1_ n2_ n3_ n4_ n5_ n6_ n7_ n8_ n9_
                                          clear hb hbox hg
                                          refine hK.out _ _ ⟨(blk_cell BK658.out 0).trans rfl, (blk_cell BK658.out 1).trans rfl, (blk_cell BK658.out 2).trans rfl, ((HB.out.cell (World.block_lt_of_cell? w _ hw667_0)).trans hw667_0), ((HB.out.cell (World.block_lt_of_cell? w _ hw667_1)).trans hw667_1)⟩ (fun hHeld => ?_)
                                          clear hK K
                                          refine norm_ (a' := ?_) ?_ ?_
                                          rotate_left
                                          · show Act.put _ (some 11) _ = _
                                            simp only [Act.put, List.setIfInBounds_toArray, List.set_cons_zero, List.set_cons_succ, i64_w, i32_w]
                                            rfl
                                          exact norm_ (by simp only [putAll, Act.put, List.setIfInBounds_toArray, List.set_cons_zero, List.set_cons_succ]) (hCont (gb671) _ ⟨hHeld, (by (with_reducible repeat (first | refine blk_drewN ?_ _ | refine blk_drew ?_ | refine blk_alloc ?_ _)); exact BK617.out), (by (with_reducible repeat (first | refine blk_drewN ?_ _ | refine blk_drew ?_ | refine blk_alloc ?_ _)); exact BK658.out), (by (with_reducible repeat (first | refine blk_drewN ?_ _ | refine blk_drew ?_ | refine blk_alloc ?_ _)); exact BK671.out), GW671.out, GE671.out, NB617_671.out, NB671_617.out, NB658_671.out, NB671_658.out, (by repeat (first | (with_reducible first | exact HB.out | apply below_alloc | apply pw_below_drewN | apply below_drew1 | refine below_set ?_ GE617.out | refine below_set ?_ GE658.out | refine below_set ?_ GE671.out) | exact HB.out))⟩)
                                        · skip
                                          refine box_step ?hg (N := 11) ?hd (cs := #[.int .u64 0, .int .u64 0, .int .u64 0]) (t := 27) ?hr ?_; (case hd => rfl); (case hg => rfl); (case hr => first | (go_simp; done) | (go_simp; rfl))
                                          intro gb671 hg w63 hbox hb
                                          have n0_ := Aside0.mk (blk_below (g := gb617) (o := .cells #[.int .u64 t614, .int .u64 t615, .int .u64 t616] 27 (0, 0)) (by (with_reducible repeat (first | refine blk_drewN ?_ _ | refine blk_drew ?_ | refine blk_alloc ?_ _)); exact BK617.out) hb)
                                          have n1_ := Aside0.mk (blk_below (g := gb658) (o := .cells #[.int .u64 x659000_2, .int .u64 x659001_2, .int .u64 x659002_2] 27 (0, 0)) (by (with_reducible repeat (first | refine blk_drewN ?_ _ | refine blk_drew ?_ | refine blk_alloc ?_ _)); exact BK658.out) hb)
                                          have n2_ := Aside0.mk (below_step (by repeat (first | (with_reducible first | exact HB.out | apply below_alloc | apply pw_below_drewN | apply below_drew1 | refine below_set ?_ GE617.out | refine below_set ?_ GE658.out) | exact HB.out)) hb)
                                          have n3_ := Aside0.mk (hbox)
                                          have n4_ := Aside0.mk ((by rw [hg]; exact (below_size (by repeat (first | (with_reducible first | exact HB.out | apply below_alloc | apply pw_below_drewN | apply below_drew1 | refine below_set ?_ GE617.out | refine below_set ?_ GE658.out) | exact HB.out))) : w.heap.size ≤ gb671))
                                          have n5_ := Aside0.mk ((by rw [hg]; exact (below_size (by repeat (first | (with_reducible first | exact HB.out | apply below_alloc | apply pw_below_drewN | apply below_drew1 | refine below_set ?_ GE617.out | refine below_set ?_ GE658.out) | exact HB.out))) : w.heap.size ≤ gb671))
                                          have n6_ := Aside0.mk ((by rw [hg]; exact Nat.ne_of_lt (blk_lt (g := gb617) (o := .cells #[.int .u64 t614, .int .u64 t615, .int .u64 t616] 27 (0, 0)) (by (with_reducible repeat (first | refine blk_drewN ?_ _ | refine blk_drew ?_ | refine blk_alloc ?_ _)); exact BK617.out)) : gb617 ≠ gb671))
                                          have n7_ := Aside0.mk ((by rw [hg]; exact Nat.ne_of_gt (blk_lt (g := gb617) (o := .cells #[.int .u64 t614, .int .u64 t615, .int .u64 t616] 27 (0, 0)) (by (with_reducible repeat (first | refine blk_drewN ?_ _ | refine blk_drew ?_ | refine blk_alloc ?_ _)); exact BK617.out)) : gb671 ≠ gb617))
                                          have n8_ := Aside0.mk ((by rw [hg]; exact Nat.ne_of_lt (blk_lt (g := gb658) (o := .cells #[.int .u64 x659000_2, .int .u64 x659001_2, .int .u64 x659002_2] 27 (0, 0)) (by (with_reducible repeat (first | refine blk_drewN ?_ _ | refine blk_drew ?_ | refine blk_alloc ?_ _)); exact BK658.out)) : gb658 ≠ gb671))
                                          have n9_ := Aside0.mk ((by rw [hg]; exact Nat.ne_of_gt (blk_lt (g := gb658) (o := .cells #[.int .u64 x659000_2, .int .u64 x659001_2, .int .u64 x659002_2] 27 (0, 0)) (by (with_reducible repeat (first | refine blk_drewN ?_ _ | refine blk_drew ?_ | refine blk_alloc ?_ _)); exact BK658.out)) : gb671 ≠ gb658))
                                          clear BK617
                                          clear BK658
                                          clear HB
                                          have BK617 := n0_
                                          have BK658 := n1_
                                          have HB := n2_
                                          have BK671 := n3_
                                          have GW671 := n4_
                                          have GE671 := n5_
                                          have NB617_671 := n6_
                                          have NB671_617 := n7_
                                          have NB658_671 := n8_
                                          have NB671_658 := n9_
                                          clear n0_ n1_ n2_ n3_ n4_ n5_ n6_ n7_ n8_ n9_
                                          clear hb hbox hg
                                          refine hK.out _ _ ⟨(blk_cell BK658.out 0).trans rfl, (blk_cell BK658.out 1).trans rfl, (blk_cell BK658.out 2).trans rfl, ((HB.out.cell (World.block_lt_of_cell? w _ hw667_0)).trans hw667_0), ((HB.out.cell (World.block_lt_of_cell? w _ hw667_1)).trans hw667_1)⟩ (fun hHeld => ?_)
                                          clear hK K
                                          refine norm_ (a' := ?_) ?_ ?_
                                          rotate_left
                                          · show Act.put _ (some 11) _ = _
                                            simp only [Act.put, List.setIfInBounds_toArray, List.set_cons_zero, List.set_cons_succ, i64_w, i32_w]
                                            rfl
                                          refine one_ (i := 5) (N := some 88) #[true, true, true, true, true, true, true, false] rfl rfl (one_of HT_.out (by kernel_rfl)) (by decide) (fun K hK => ?_)
                                          refine goes_ Try.func37 (by kernel_rfl) rfl #[.agg #[.int .u64 x659000_2, .int .u64 x659001_2, .int .u64 x659002_2], .agg #[.int .u64 ((rd_T25 l0 x10_2).f0), .int .u64 ((rd_T25 l0 x10_2).f1)]] (by rfl) rfl rfl (by (try simp only [List.map_toArray, List.map_cons, List.map_nil]); first | done | rfl | (simp only [List.length_drop, List.length_take]; rfl) | (simp [Act.eval, KC0.out, KY43.out, KC45.out, KY45.out, KA45.out, KC48.out, KY48.out, KA48.out, KY50.out]; done)) ?_
                                          with_reducible refine (wide_Wide_Plus.calls x659000_2 x659001_2 x659002_2 ((rd_T25 l0 x10_2).f0) ((rd_T25 l0 x10_2).f1) t668 t669 t670 _ A57.out).mono ?_
                                          rintro e w64 ⟨rfl, hb⟩
                                          refine ⟨_, rfl, ?_⟩
                                          have n0_ := Aside0.mk (blk_below (g := gb617) (o := .cells #[.int .u64 t614, .int .u64 t615, .int .u64 t616] 27 (0, 0)) (by (with_reducible repeat (first | refine blk_drewN ?_ _ | refine blk_drew ?_ | refine blk_alloc ?_ _)); exact BK617.out) hb)
                                          have n1_ := Aside0.mk (blk_below (g := gb658) (o := .cells #[.int .u64 x659000_2, .int .u64 x659001_2, .int .u64 x659002_2] 27 (0, 0)) (by (with_reducible repeat (first | refine blk_drewN ?_ _ | refine blk_drew ?_ | refine blk_alloc ?_ _)); exact BK658.out) hb)
                                          have n2_ := Aside0.mk (blk_below (g := gb671) (o := .cells #[.int .u64 0, .int .u64 0, .int .u64 0] 27 (0, 0)) (by (with_reducible repeat (first | refine blk_drewN ?_ _ | refine blk_drew ?_ | refine blk_alloc ?_ _)); exact BK671.out) hb)
                                          have n3_ := Aside0.mk (below_step (by repeat (first | (with_reducible first | exact HB.out | apply below_alloc | apply pw_below_drewN | apply below_drew1 | refine below_set ?_ GE617.out | refine below_set ?_ GE658.out | refine below_set ?_ GE671.out) | exact HB.out)) hb)
                                          clear BK617
                                          clear BK658
                                          clear BK671
                                          clear HB
                                          have BK617 := n0_
                                          have BK658 := n1_
                                          have BK671 := n2_
                                          have HB := n3_
                                          clear n0_ n1_ n2_ n3_
                                          (try clear hb)
                                          (try clear hb2)
                                          (try clear hk)
                                          (try clear hi)
                                          refine hK.out _ _ ⟨(blk_cell BK658.out 0).trans rfl, (blk_cell BK658.out 1).trans rfl, (blk_cell BK658.out 2).trans rfl, ((HB.out.cell (World.block_lt_of_cell? w _ hw667_0)).trans hw667_0), ((HB.out.cell (World.block_lt_of_cell? w _ hw667_1)).trans hw667_1)⟩ (fun hHeld => ?_)
                                          clear hK K
                                          refine norm_ (a' := ?_) ?_ ?_
                                          rotate_left
                                          · show Act.put _ (some 88) _ = _
                                            simp only [Act.put, List.setIfInBounds_toArray, List.set_cons_zero, List.set_cons_succ, i64_w, i32_w]
                                            rfl
                                          exact norm_ (by simp only [putAll, Act.put, List.setIfInBounds_toArray, List.set_cons_zero, List.set_cons_succ]) (hCont (gb671) _ ⟨hHeld, (by (with_reducible repeat (first | refine blk_drewN ?_ _ | refine blk_drew ?_ | refine blk_alloc ?_ _)); exact BK617.out), (by (with_reducible repeat (first | refine blk_drewN ?_ _ | refine blk_drew ?_ | refine blk_alloc ?_ _)); exact BK658.out), (by (with_reducible repeat (first | refine blk_drewN ?_ _ | refine blk_drew ?_ | refine blk_alloc ?_ _)); exact BK671.out), GW671.out, GE671.out, NB617_671.out, NB671_617.out, NB658_671.out, NB671_658.out, (by repeat (first | (with_reducible first | exact HB.out | apply below_alloc | apply pw_below_drewN | apply below_drew1 | refine below_set ?_ GE617.out | refine below_set ?_ GE658.out | refine below_set ?_ GE671.out) | exact HB.out))⟩)
                                      rintro gb671 w65 ⟨hS_, h0_, h1_, h2_, h3_, h4_, h5_, h6_, h7_, h8_, h9_⟩
                                      have n0_ : Aside0 (w65.heap[gb617]? = some (.cells #[.int .u64 t614, .int .u64 t615, .int .u64 t616] 27 (0, 0))) := ⟨h0_⟩
                                      have n1_ : Aside0 (w65.heap[gb658]? = some (.cells #[.int .u64 x659000_2, .int .u64 x659001_2, .int .u64 x659002_2] 27 (0, 0))) := ⟨h1_⟩
                                      have n2_ : Aside0 (w65.heap[gb671]? = some (.cells #[.int .u64 0, .int .u64 0, .int .u64 0] 27 (0, 0))) := ⟨h2_⟩
                                      have n3_ : Aside0 (w.heap.size ≤ gb671) := ⟨h3_⟩
                                      have n4_ : Aside0 (w.heap.size ≤ gb671) := ⟨h4_⟩
                                      have n5_ : Aside0 (gb617 ≠ gb671) := ⟨h5_⟩
                                      have n6_ : Aside0 (gb671 ≠ gb617) := ⟨h6_⟩
                                      have n7_ : Aside0 (gb658 ≠ gb671) := ⟨h7_⟩
                                      have n8_ : Aside0 (gb671 ≠ gb658) := ⟨h8_⟩
                                      have n9_ : Aside0 (Below w.heap.size w w65) := ⟨h9_⟩
                                      clear BK617
                                      clear BK658
                                      clear HB
                                      clear h0_ h1_ h2_ h3_ h4_ h5_ h6_ h7_ h8_ h9_
                                      have BK617 := n0_
                                      have BK658 := n1_
                                      have BK671 := n2_
                                      have GW671 := n3_
                                      have GE671 := n4_
                                      have NB617_671 := n5_
                                      have NB671_617 := n6_
                                      have NB658_671 := n7_
                                      have NB671_658 := n8_
                                      have HB := n9_
                                      clear n0_ n1_ n2_ n3_ n4_ n5_ n6_ n7_ n8_ n9_
                                      have hHeld : w65.cell? ⟨gb658, 0, none⟩ = some (.int .u64 x659000_2) ∧ w65.cell? ⟨gb658, 1, none⟩ = some (.int .u64 x659001_2) ∧ w65.cell? ⟨gb658, 2, none⟩ = some (.int .u64 x659002_2) ∧ w65.cell? (ad667.add ((x10_2).toNat * 2)) = some (.int .u64 ((rd_T25 l0 x10_2).f0)) ∧ w65.cell? ⟨(ad667.add ((x10_2).toNat * 2)).block, (ad667.add ((x10_2).toNat * 2)).off + 1, none⟩ = some (.int .u64 ((rd_T25 l0 x10_2).f1)) := hS_
                                      refine norm_ (a' := ?_) ?_ ?_
                                      rotate_left
                                      · simp only [putAll, Act.put, List.setIfInBounds_toArray, List.set_cons_zero, List.set_cons_succ]
                                        rfl
                                      refine one_ (i := 7) (N := none) #[true, true, true, true, true, true, true, true] rfl rfl (one_of HT_.out (by kernel_rfl)) (by decide) (fun K hK => ?_)
                                      have hs66 : w65.cell? ⟨gb671, 0, none⟩ = some (.int .u64 0) := (blk_cell BK671.out 0).trans rfl
                                      have hfs66 := blk_frozen BK671.out 0
                                      have hns66_0 := NB617_671.out
                                      have hns66_1 := NB658_671.out
                                      have hms66_0 := NB671_617.out
                                      have hms66_1 := NB671_658.out
                                      have hs67 : w65.cell? ⟨gb671, 1, none⟩ = some (.int .u64 0) := (blk_cell BK671.out 1).trans rfl
                                      have hfs67 := blk_frozen BK671.out 1
                                      have hns67_0 := NB617_671.out
                                      have hns67_1 := NB658_671.out
                                      have hms67_0 := NB671_617.out
                                      have hms67_1 := NB671_658.out
                                      have hs68 : w65.cell? ⟨gb671, 2, none⟩ = some (.int .u64 0) := (blk_cell BK671.out 2).trans rfl
                                      have hfs68 := blk_frozen BK671.out 2
                                      have hns68_0 := NB617_671.out
                                      have hns68_1 := NB658_671.out
                                      have hms68_0 := NB671_617.out
                                      have hms68_1 := NB671_658.out
                                      refine skip_ (w1 := ?_) (by rfl) rfl ?_ ?_
                                      rotate_left
                                      · go_simp
                                        rfl
                                      refine hK.out _ _ ⟨((cell_far (p := ⟨gb671, _, none⟩) NB658_671.out _).trans (((cell_far (p := ⟨gb671, _, none⟩) NB658_671.out _).trans (((cell_far (p := ⟨gb671, _, none⟩) NB658_671.out _).trans (hHeld.1)))))), ((cell_far (p := ⟨gb671, _, none⟩) NB658_671.out _).trans (((cell_far (p := ⟨gb671, _, none⟩) NB658_671.out _).trans (((cell_far (p := ⟨gb671, _, none⟩) NB658_671.out _).trans (hHeld.2.1)))))), ((cell_far (p := ⟨gb671, _, none⟩) NB658_671.out _).trans (((cell_far (p := ⟨gb671, _, none⟩) NB658_671.out _).trans (((cell_far (p := ⟨gb671, _, none⟩) NB658_671.out _).trans (hHeld.2.2.1)))))), ((cell_far (p := ⟨gb671, _, none⟩) (by first | exact Nat.ne_of_lt (Nat.lt_of_lt_of_le (by have := World.block_lt_of_cell? _ _ hw667_0; first | rwa [add_block] at this | exact this) GW671.out) | (rw [add_block]; exact Nat.ne_of_lt (Nat.lt_of_lt_of_le (by have := World.block_lt_of_cell? _ _ hw667_0; first | rwa [add_block] at this | exact this) GW671.out)) | (show (Addr.add _ _).block ≠ _; rw [add_block]; exact Nat.ne_of_lt (Nat.lt_of_lt_of_le (by have := World.block_lt_of_cell? _ _ hw667_0; first | rwa [add_block] at this | exact this) GW671.out)) | (dsimp only; exact Nat.ne_of_lt (Nat.lt_of_lt_of_le (by have := World.block_lt_of_cell? _ _ hw667_0; first | rwa [add_block] at this | exact this) GW671.out))) _).trans (((cell_far (p := ⟨gb671, _, none⟩) (by first | exact Nat.ne_of_lt (Nat.lt_of_lt_of_le (by have := World.block_lt_of_cell? _ _ hw667_0; first | rwa [add_block] at this | exact this) GW671.out) | (rw [add_block]; exact Nat.ne_of_lt (Nat.lt_of_lt_of_le (by have := World.block_lt_of_cell? _ _ hw667_0; first | rwa [add_block] at this | exact this) GW671.out)) | (show (Addr.add _ _).block ≠ _; rw [add_block]; exact Nat.ne_of_lt (Nat.lt_of_lt_of_le (by have := World.block_lt_of_cell? _ _ hw667_0; first | rwa [add_block] at this | exact this) GW671.out)) | (dsimp only; exact Nat.ne_of_lt (Nat.lt_of_lt_of_le (by have := World.block_lt_of_cell? _ _ hw667_0; first | rwa [add_block] at this | exact this) GW671.out))) _).trans (((cell_far (p := ⟨gb671, _, none⟩) (by first | exact Nat.ne_of_lt (Nat.lt_of_lt_of_le (by have := World.block_lt_of_cell? _ _ hw667_0; first | rwa [add_block] at this | exact this) GW671.out) | (rw [add_block]; exact Nat.ne_of_lt (Nat.lt_of_lt_of_le (by have := World.block_lt_of_cell? _ _ hw667_0; first | rwa [add_block] at this | exact this) GW671.out)) | (show (Addr.add _ _).block ≠ _; rw [add_block]; exact Nat.ne_of_lt (Nat.lt_of_lt_of_le (by have := World.block_lt_of_cell? _ _ hw667_0; first | rwa [add_block] at this | exact this) GW671.out)) | (dsimp only; exact Nat.ne_of_lt (Nat.lt_of_lt_of_le (by have := World.block_lt_of_cell? _ _ hw667_0; first | rwa [add_block] at this | exact this) GW671.out))) _).trans (hHeld.2.2.2.1)))))), ((cell_far (p := ⟨gb671, _, none⟩) (by first | exact Nat.ne_of_lt (Nat.lt_of_lt_of_le (by have := World.block_lt_of_cell? _ _ hw667_1; first | rwa [add_block] at this | exact this) GW671.out) | (rw [add_block]; exact Nat.ne_of_lt (Nat.lt_of_lt_of_le (by have := World.block_lt_of_cell? _ _ hw667_1; first | rwa [add_block] at this | exact this) GW671.out)) | (show (Addr.add _ _).block ≠ _; rw [add_block]; exact Nat.ne_of_lt (Nat.lt_of_lt_of_le (by have := World.block_lt_of_cell? _ _ hw667_1; first | rwa [add_block] at this | exact this) GW671.out)) | (dsimp only; exact Nat.ne_of_lt (Nat.lt_of_lt_of_le (by have := World.block_lt_of_cell? _ _ hw667_1; first | rwa [add_block] at this | exact this) GW671.out))) _).trans (((cell_far (p := ⟨gb671, _, none⟩) (by first | exact Nat.ne_of_lt (Nat.lt_of_lt_of_le (by have := World.block_lt_of_cell? _ _ hw667_1; first | rwa [add_block] at this | exact this) GW671.out) | (rw [add_block]; exact Nat.ne_of_lt (Nat.lt_of_lt_of_le (by have := World.block_lt_of_cell? _ _ hw667_1; first | rwa [add_block] at this | exact this) GW671.out)) | (show (Addr.add _ _).block ≠ _; rw [add_block]; exact Nat.ne_of_lt (Nat.lt_of_lt_of_le (by have := World.block_lt_of_cell? _ _ hw667_1; first | rwa [add_block] at this | exact this) GW671.out)) | (dsimp only; exact Nat.ne_of_lt (Nat.lt_of_lt_of_le (by have := World.block_lt_of_cell? _ _ hw667_1; first | rwa [add_block] at this | exact this) GW671.out))) _).trans (((cell_far (p := ⟨gb671, _, none⟩) (by first | exact Nat.ne_of_lt (Nat.lt_of_lt_of_le (by have := World.block_lt_of_cell? _ _ hw667_1; first | rwa [add_block] at this | exact this) GW671.out) | (rw [add_block]; exact Nat.ne_of_lt (Nat.lt_of_lt_of_le (by have := World.block_lt_of_cell? _ _ hw667_1; first | rwa [add_block] at this | exact this) GW671.out)) | (show (Addr.add _ _).block ≠ _; rw [add_block]; exact Nat.ne_of_lt (Nat.lt_of_lt_of_le (by have := World.block_lt_of_cell? _ _ hw667_1; first | rwa [add_block] at this | exact this) GW671.out)) | (dsimp only; exact Nat.ne_of_lt (Nat.lt_of_lt_of_le (by have := World.block_lt_of_cell? _ _ hw667_1; first | rwa [add_block] at this | exact this) GW671.out))) _).trans (hHeld.2.2.2.2))))))⟩ (fun hHeld => ?_)
                                      clear hK K
                                      refine done_ (done_of HT_.out (by kernel_rfl)) ?_
                                      (try rw [← KA45.out])
                                      (try rw [← KA48.out])
                                      try go_wp2
                                      have n0_ : Aside0 ((((w65.setCell ⟨gb671, 0, none⟩ (.int .u64 t668)).setCell ⟨gb671, 1, none⟩ (.int .u64 t669)).setCell ⟨gb671, 2, none⟩ (.int .u64 t670)).heap[gb617]? = some (.cells #[.int .u64 t614, .int .u64 t615, .int .u64 t616] 27 (0, 0))) := ⟨by (with_reducible repeat (first | refine blk_drewN ?_ _ | refine blk_drew ?_ | refine blk_alloc ?_ _)); refine blk_far ?_ NB617_671.out _; (with_reducible repeat (first | refine blk_drewN ?_ _ | refine blk_drew ?_ | refine blk_alloc ?_ _)); refine blk_far ?_ NB617_671.out _; (with_reducible repeat (first | refine blk_drewN ?_ _ | refine blk_drew ?_ | refine blk_alloc ?_ _)); refine blk_far ?_ NB617_671.out _; (with_reducible repeat (first | refine blk_drewN ?_ _ | refine blk_drew ?_ | refine blk_alloc ?_ _)); exact BK617.out⟩
                                      have n1_ : Aside0 ((((w65.setCell ⟨gb671, 0, none⟩ (.int .u64 t668)).setCell ⟨gb671, 1, none⟩ (.int .u64 t669)).setCell ⟨gb671, 2, none⟩ (.int .u64 t670)).heap[gb658]? = some (.cells #[.int .u64 x659000_2, .int .u64 x659001_2, .int .u64 x659002_2] 27 (0, 0))) := ⟨by (with_reducible repeat (first | refine blk_drewN ?_ _ | refine blk_drew ?_ | refine blk_alloc ?_ _)); refine blk_far ?_ NB658_671.out _; (with_reducible repeat (first | refine blk_drewN ?_ _ | refine blk_drew ?_ | refine blk_alloc ?_ _)); refine blk_far ?_ NB658_671.out _; (with_reducible repeat (first | refine blk_drewN ?_ _ | refine blk_drew ?_ | refine blk_alloc ?_ _)); refine blk_far ?_ NB658_671.out _; (with_reducible repeat (first | refine blk_drewN ?_ _ | refine blk_drew ?_ | refine blk_alloc ?_ _)); exact BK658.out⟩
                                      have n2_ : Aside0 ((((w65.setCell ⟨gb671, 0, none⟩ (.int .u64 t668)).setCell ⟨gb671, 1, none⟩ (.int .u64 t669)).setCell ⟨gb671, 2, none⟩ (.int .u64 t670)).heap[gb671]? = some (.cells #[.int .u64 t668, .int .u64 t669, .int .u64 t670] 27 (0, 0))) := ⟨by (with_reducible repeat (first | refine blk_drewN ?_ _ | refine blk_drew ?_ | refine blk_alloc ?_ _)); refine blk_put (cs := #[.int .u64 t668, .int .u64 t669, .int .u64 0]) ?_ 2 _ rfl; (with_reducible repeat (first | refine blk_drewN ?_ _ | refine blk_drew ?_ | refine blk_alloc ?_ _)); refine blk_put (cs := #[.int .u64 t668, .int .u64 0, .int .u64 0]) ?_ 1 _ rfl; (with_reducible repeat (first | refine blk_drewN ?_ _ | refine blk_drew ?_ | refine blk_alloc ?_ _)); refine blk_put (cs := #[.int .u64 0, .int .u64 0, .int .u64 0]) ?_ 0 _ rfl; (with_reducible repeat (first | refine blk_drewN ?_ _ | refine blk_drew ?_ | refine blk_alloc ?_ _)); exact BK671.out⟩
                                      have n3_ : Aside0 (Below w.heap.size w (((w65.setCell ⟨gb671, 0, none⟩ (.int .u64 t668)).setCell ⟨gb671, 1, none⟩ (.int .u64 t669)).setCell ⟨gb671, 2, none⟩ (.int .u64 t670))) := ⟨by repeat (first | (with_reducible first | exact HB.out | apply below_alloc | apply pw_below_drewN | apply below_drew1 | refine below_set ?_ GE617.out | refine below_set ?_ GE658.out | refine below_set ?_ GE671.out) | exact HB.out)⟩
                                      (try clear BK617)
                                      (try clear BK658)
                                      (try clear BK671)
                                      (try clear HB)
                                      generalize (((w65.setCell ⟨gb671, 0, none⟩ (.int .u64 t668)).setCell ⟨gb671, 1, none⟩ (.int .u64 t669)).setCell ⟨gb671, 2, none⟩ (.int .u64 t670)) = w69 at n0_ n1_ n2_ n3_ ⊢
                                      have BK617 := n0_
                                      have BK658 := n1_
                                      have BK671 := n2_
                                      have HB := n3_
                                      clear n0_ n1_ n2_ n3_
                                      have n0_ := Aside0.mk (blk_drew BK617.out)
                                      have n1_ := Aside0.mk (blk_drew BK658.out)
                                      have n2_ := Aside0.mk (blk_drew BK671.out)
                                      have n3_ := Aside0.mk (below_drew1 HB.out)
                                      clear BK617
                                      clear BK658
                                      clear BK671
                                      clear HB
                                      have BK617 := n0_
                                      have BK658 := n1_
                                      have BK671 := n2_
                                      have HB := n3_
                                      clear n0_ n1_ n2_ n3_
                                      have p673 : 0 ≤ (x10_2 : Int) := of_decide_eq_true (by first | (with_reducible assumption) | assumption)
                                      have q673 : x10_2 < (l0.length : Int) := of_decide_eq_true (by first | (with_reducible assumption) | assumption)
                                      obtain ⟨ad673, e673, hx673_0, hx673_1⟩ := at_T25 HR0.out x10_2 p673 q673
                                      have hw673_1 := hx673_1
                                      have hw673_0 := hx673_0
                                      obtain rfl : ad667 = ad673 := (by injection e673)
                                      replace hx673_0 := (HB.out.cell (World.block_lt_of_cell? w _ hx673_0)).trans hx673_0
                                      replace hx673_1 := (HB.out.cell (World.block_lt_of_cell? w _ hx673_1)).trans hx673_1
                                      replace p673 := eq_true p673
                                      replace q673 := eq_true q673
                                      refine start_ (n := 15) (S := fun w' => w'.cell? ⟨gb658, 0, none⟩ = some (.int .u64 x659000_2) ∧ w'.cell? ⟨gb658, 1, none⟩ = some (.int .u64 x659001_2) ∧ w'.cell? ⟨gb658, 2, none⟩ = some (.int .u64 x659002_2) ∧ w'.cell? ⟨gb671, 0, none⟩ = some (.int .u64 t668) ∧ w'.cell? ⟨gb671, 1, none⟩ = some (.int .u64 t669) ∧ w'.cell? ⟨gb671, 2, none⟩ = some (.int .u64 t670) ∧ w'.cell? (ad667.add ((x10_2).toNat * 2)) = some (.int .u64 ((rd_T25 l0 x10_2).f0)) ∧ w'.cell? ⟨(ad667.add ((x10_2).toNat * 2)).block, (ad667.add ((x10_2).toNat * 2)).off + 1, none⟩ = some (.int .u64 ((rd_T25 l0 x10_2).f1))) (ds := []) #[false, false, false, false, false, false, false, false, false, false, false, false, false, false, false] (by kernel_rfl) rfl rfl ⟨(blk_cell BK658.out 0).trans rfl, (blk_cell BK658.out 1).trans rfl, (blk_cell BK658.out 2).trans rfl, (blk_cell BK671.out 0).trans rfl, (blk_cell BK671.out 1).trans rfl, (blk_cell BK671.out 2).trans rfl, ((HB.out.cell (World.block_lt_of_cell? w _ hw673_0)).trans hw673_0), ((HB.out.cell (World.block_lt_of_cell? w _ hw673_1)).trans hw673_1)⟩ (fun hHeld => ?_); refine with_tabW paymasterlaw03_WideOrders.tab19 paymasterlaw03_WideOrders.bits19 (fun HT_ HW_ => ?_)
                                      generalize w69.drew = w70 at BK617 BK658 BK671 HB hx673_0 hx673_1 hHeld ⊢
                                      refine pure_ (i := 3) (N := some 92) (v := ?_) (a' := ?_) #[false, false, false, true, false, false, false, false, false, false, false, false, false, false, false] rfl rfl (any_of HT_.out (by kernel_rfl)) (fun _ _ _ h => h) (Or.inl ⟨by rfl, ?_⟩) ?_ ?_
                                      rotate_left
                                      · intro w'
                                        go_simp
                                        with_reducible rfl
                                      rotate_left
                                      · simp only [Act.put, List.setIfInBounds_toArray, List.set_cons_zero, List.set_cons_succ, i64_w, i32_w]
                                        rfl
                                      refine pure_ (i := 4) (N := some 93) (v := ?_) (a' := ?_) #[false, false, false, true, true, false, false, false, false, false, false, false, false, false, false] rfl rfl (any_of HT_.out (by kernel_rfl)) (fun _ _ _ h => h) (Or.inl ⟨by rfl, ?_⟩) ?_ ?_
                                      rotate_left
                                      · intro w'
                                        go_simp
                                        with_reducible rfl
                                      rotate_left
                                      · simp only [Act.put, List.setIfInBounds_toArray, List.set_cons_zero, List.set_cons_succ, i64_w, i32_w]
                                        rfl
                                      refine pure_ (i := 5) (N := some 94) (v := ?_) (a' := ?_) #[false, false, false, true, true, true, false, false, false, false, false, false, false, false, false] rfl rfl (any_of HT_.out (by kernel_rfl)) (fun _ _ _ h => h) (Or.inl ⟨by rfl, ?_⟩) ?_ ?_
                                      rotate_left
                                      · intro w'
                                        go_simp
                                        with_reducible rfl
                                      rotate_left
                                      · simp only [Act.put, List.setIfInBounds_toArray, List.set_cons_zero, List.set_cons_succ, i64_w, i32_w]
                                        rfl
                                      refine pure_ (i := 7) (N := some 96) (v := ?_) (a' := ?_) #[false, false, false, true, true, true, false, true, false, false, false, false, false, false, false] rfl rfl (any_of HT_.out (by kernel_rfl)) (fun _ _ _ h => h) (Or.inl ⟨by rfl, ?_⟩) ?_ ?_
                                      rotate_left
                                      · intro w'
                                        go_simp
                                        with_reducible rfl
                                      rotate_left
                                      · simp only [Act.put, List.setIfInBounds_toArray, List.set_cons_zero, List.set_cons_succ, i64_w, i32_w]
                                        rfl
                                      refine take_ (i := 0) (N := some 89) (v := ?_) (a' := ?_) #[true, false, false, true, true, true, false, true, false, false, false, false, false, false, false] rfl rfl (take_ofW HT_.out HW_.out (by kernel_rfl)) (fun _ _ _ h => h) (Or.inl ⟨by rfl, ?_⟩) hHeld ?_ ?_
                                      rotate_left
                                      · rintro w' ⟨s0, s1, s2, s3, s4, s5, s6, s7⟩
                                        go_simp
                                        with_reducible rfl
                                      rotate_left
                                      · simp only [Act.put, List.setIfInBounds_toArray, List.set_cons_zero, List.set_cons_succ, i64_w, i32_w]
                                        rfl
                                      refine take_ (i := 1) (N := some 90) (v := ?_) (a' := ?_) #[true, true, false, true, true, true, false, true, false, false, false, false, false, false, false] rfl rfl (take_ofW HT_.out HW_.out (by kernel_rfl)) (fun _ _ _ h => h) (Or.inl ⟨by rfl, ?_⟩) hHeld ?_ ?_
                                      rotate_left
                                      · rintro w' ⟨s0, s1, s2, s3, s4, s5, s6, s7⟩
                                        go_simp
                                        with_reducible rfl
                                      rotate_left
                                      · simp only [Act.put, List.setIfInBounds_toArray, List.set_cons_zero, List.set_cons_succ, i64_w, i32_w]
                                        rfl
                                      refine take_ (i := 6) (N := some 95) (v := ?_) (a' := ?_) #[true, true, false, true, true, true, true, true, false, false, false, false, false, false, false] rfl rfl (take_ofW HT_.out HW_.out (by kernel_rfl)) (fun _ _ _ h => h) (Or.inl ⟨by rfl, ?_⟩) hHeld ?_ ?_
                                      rotate_left
                                      · rintro w' ⟨s0, s1, s2, s3, s4, s5, s6, s7⟩
                                        go_simp
                                        with_reducible rfl
                                      rotate_left
                                      · simp only [Act.put, List.setIfInBounds_toArray, List.set_cons_zero, List.set_cons_succ, i64_w, i32_w]
                                        rfl
                                      refine pure_ (i := 8) (N := some 97) (v := ?_) (a' := ?_) #[true, true, false, true, true, true, true, true, true, false, false, false, false, false, false] rfl rfl (any_of HT_.out (by kernel_rfl)) (fun _ _ _ h => h) (Or.inl ⟨by rfl, ?_⟩) ?_ ?_
                                      rotate_left
                                      · intro w'
                                        go_simp
                                        with_reducible rfl
                                      rotate_left
                                      · simp only [Act.put, List.setIfInBounds_toArray, List.set_cons_zero, List.set_cons_succ, i64_w, i32_w]
                                        rfl
                                      refine one_ (i := 2) (N := some 91) #[true, true, true, true, true, true, true, true, true, false, false, false, false, false, false] rfl rfl (one_of HT_.out (by kernel_rfl)) (by decide) (fun K hK => ?_)
                                      refine goes_ Try.func43 (by kernel_rfl) rfl #[.agg #[.int .u64 x659000_2, .int .u64 x659001_2, .int .u64 x659002_2], .agg #[.int .u64 t668, .int .u64 t669, .int .u64 t670]] (by rfl) rfl rfl (by (try simp only [List.map_toArray, List.map_cons, List.map_nil]); first | done | rfl | (simp only [List.length_drop, List.length_take]; rfl) | (simp [Act.eval, KC0.out, KY43.out, KC45.out, KY45.out, KA45.out, KC48.out, KY48.out, KA48.out, KY50.out]; done)) ?_
                                      with_reducible refine (wide_Less.calls k2 x659000_2 x659001_2 x659002_2 t668 t669 t670 t672 _ A58.out).mono ?_
                                      rintro e w71 ⟨rfl, hb⟩
                                      refine ⟨_, rfl, ?_⟩
                                      have n0_ := Aside0.mk (blk_below (g := gb617) (o := .cells #[.int .u64 t614, .int .u64 t615, .int .u64 t616] 27 (0, 0)) (by (with_reducible repeat (first | refine blk_drewN ?_ _ | refine blk_drew ?_ | refine blk_alloc ?_ _)); exact BK617.out) hb)
                                      have n1_ := Aside0.mk (blk_below (g := gb658) (o := .cells #[.int .u64 x659000_2, .int .u64 x659001_2, .int .u64 x659002_2] 27 (0, 0)) (by (with_reducible repeat (first | refine blk_drewN ?_ _ | refine blk_drew ?_ | refine blk_alloc ?_ _)); exact BK658.out) hb)
                                      have n2_ := Aside0.mk (blk_below (g := gb671) (o := .cells #[.int .u64 t668, .int .u64 t669, .int .u64 t670] 27 (0, 0)) (by (with_reducible repeat (first | refine blk_drewN ?_ _ | refine blk_drew ?_ | refine blk_alloc ?_ _)); exact BK671.out) hb)
                                      have n3_ := Aside0.mk (below_step (by repeat (first | (with_reducible first | exact HB.out | apply below_alloc | apply pw_below_drewN | apply below_drew1 | refine below_set ?_ GE617.out | refine below_set ?_ GE658.out | refine below_set ?_ GE671.out) | exact HB.out)) hb)
                                      clear BK617
                                      clear BK658
                                      clear BK671
                                      clear HB
                                      have BK617 := n0_
                                      have BK658 := n1_
                                      have BK671 := n2_
                                      have HB := n3_
                                      clear n0_ n1_ n2_ n3_
                                      (try clear hb)
                                      (try clear hb2)
                                      (try clear hk)
                                      (try clear hi)
                                      refine hK.out _ _ ⟨(blk_cell BK658.out 0).trans rfl, (blk_cell BK658.out 1).trans rfl, (blk_cell BK658.out 2).trans rfl, (blk_cell BK671.out 0).trans rfl, (blk_cell BK671.out 1).trans rfl, (blk_cell BK671.out 2).trans rfl, ((HB.out.cell (World.block_lt_of_cell? w _ hw673_0)).trans hw673_0), ((HB.out.cell (World.block_lt_of_cell? w _ hw673_1)).trans hw673_1)⟩ (fun hHeld => ?_)
                                      clear hK K
                                      refine norm_ (a' := ?_) ?_ ?_
                                      rotate_left
                                      · show Act.put _ (some 91) _ = _
                                        simp only [Act.put, List.setIfInBounds_toArray, List.set_cons_zero, List.set_cons_succ, i64_w, i32_w]
                                        rfl
                                      refine pure_ (i := 9) (N := some 98) (v := ?_) (a' := ?_) #[true, true, true, true, true, true, true, true, true, true, false, false, false, false, false] rfl rfl (any_of HT_.out (by kernel_rfl)) (fun _ _ _ h => h) (Or.inl ⟨by rfl, ?_⟩) ?_ ?_
                                      rotate_left
                                      · intro w'
                                        go_simp
                                        with_reducible rfl
                                      rotate_left
                                      · simp only [Act.put, List.setIfInBounds_toArray, List.set_cons_zero, List.set_cons_succ, i64_w, i32_w]
                                        rfl
                                      refine pure_ (i := 10) (N := some 99) (v := ?_) (a' := ?_) #[true, true, true, true, true, true, true, true, true, true, true, false, false, false, false] rfl rfl (any_of HT_.out (by kernel_rfl)) (fun _ _ _ h => h) (Or.inl ⟨by rfl, ?_⟩) ?_ ?_
                                      rotate_left
                                      · intro w'
                                        go_simp
                                        with_reducible rfl
                                      rotate_left
                                      · simp only [Act.put, List.setIfInBounds_toArray, List.set_cons_zero, List.set_cons_succ, i64_w, i32_w]
                                        rfl
                                      refine take_ (i := 11) (N := some 100) (v := ?_) (a' := ?_) #[true, true, true, true, true, true, true, true, true, true, true, true, false, false, false] rfl rfl (take_ofW HT_.out HW_.out (by kernel_rfl)) (fun _ _ _ h => h) (Or.inl ⟨by rfl, ?_⟩) hHeld ?_ ?_
                                      rotate_left
                                      · rintro w' ⟨s0, s1, s2, s3, s4, s5, s6, s7⟩
                                        go_simp
                                        with_reducible rfl
                                      rotate_left
                                      · simp only [Act.put, List.setIfInBounds_toArray, List.set_cons_zero, List.set_cons_succ, i64_w, i32_w]
                                        rfl
                                      refine take_ (i := 12) (N := some 101) (v := ?_) (a' := ?_) #[true, true, true, true, true, true, true, true, true, true, true, true, true, false, false] rfl rfl (take_ofW HT_.out HW_.out (by kernel_rfl)) (fun _ _ _ h => h) (Or.inl ⟨by rfl, ?_⟩) hHeld ?_ ?_
                                      rotate_left
                                      · rintro w' ⟨s0, s1, s2, s3, s4, s5, s6, s7⟩
                                        go_simp
                                        with_reducible rfl
                                      rotate_left
                                      · simp only [Act.put, List.setIfInBounds_toArray, List.set_cons_zero, List.set_cons_succ, i64_w, i32_w]
                                        rfl
                                      refine one_ (i := 13) (N := some 102) #[true, true, true, true, true, true, true, true, true, true, true, true, true, true, false] rfl rfl (one_of HT_.out (by kernel_rfl)) (by decide) (fun K hK => ?_)
                                      refine goes_ Try.func43 (by kernel_rfl) rfl #[.agg #[.int .u64 t668, .int .u64 t669, .int .u64 t670], .agg #[.int .u64 x659000_2, .int .u64 x659001_2, .int .u64 x659002_2]] (by rfl) rfl rfl (by (try simp only [List.map_toArray, List.map_cons, List.map_nil]); first | done | rfl | (simp only [List.length_drop, List.length_take]; rfl) | (simp [Act.eval, KC0.out, KY43.out, KC45.out, KY45.out, KA45.out, KC48.out, KY48.out, KA48.out, KY50.out]; done)) ?_
                                      with_reducible refine (wide_Less.calls k2 t668 t669 t670 x659000_2 x659001_2 x659002_2 false _ A60.out).mono ?_
                                      rintro e w72 ⟨rfl, hb⟩
                                      refine ⟨_, rfl, ?_⟩
                                      have n0_ := Aside0.mk (blk_below (g := gb617) (o := .cells #[.int .u64 t614, .int .u64 t615, .int .u64 t616] 27 (0, 0)) (by (with_reducible repeat (first | refine blk_drewN ?_ _ | refine blk_drew ?_ | refine blk_alloc ?_ _)); exact BK617.out) hb)
                                      have n1_ := Aside0.mk (blk_below (g := gb658) (o := .cells #[.int .u64 x659000_2, .int .u64 x659001_2, .int .u64 x659002_2] 27 (0, 0)) (by (with_reducible repeat (first | refine blk_drewN ?_ _ | refine blk_drew ?_ | refine blk_alloc ?_ _)); exact BK658.out) hb)
                                      have n2_ := Aside0.mk (blk_below (g := gb671) (o := .cells #[.int .u64 t668, .int .u64 t669, .int .u64 t670] 27 (0, 0)) (by (with_reducible repeat (first | refine blk_drewN ?_ _ | refine blk_drew ?_ | refine blk_alloc ?_ _)); exact BK671.out) hb)
                                      have n3_ := Aside0.mk (below_step (by repeat (first | (with_reducible first | exact HB.out | apply below_alloc | apply pw_below_drewN | apply below_drew1 | refine below_set ?_ GE617.out | refine below_set ?_ GE658.out | refine below_set ?_ GE671.out) | exact HB.out)) hb)
                                      clear BK617
                                      clear BK658
                                      clear BK671
                                      clear HB
                                      have BK617 := n0_
                                      have BK658 := n1_
                                      have BK671 := n2_
                                      have HB := n3_
                                      clear n0_ n1_ n2_ n3_
                                      (try clear hb)
                                      (try clear hb2)
                                      (try clear hk)
                                      (try clear hi)
                                      refine hK.out _ _ ⟨(blk_cell BK658.out 0).trans rfl, (blk_cell BK658.out 1).trans rfl, (blk_cell BK658.out 2).trans rfl, (blk_cell BK671.out 0).trans rfl, (blk_cell BK671.out 1).trans rfl, (blk_cell BK671.out 2).trans rfl, ((HB.out.cell (World.block_lt_of_cell? w _ hw673_0)).trans hw673_0), ((HB.out.cell (World.block_lt_of_cell? w _ hw673_1)).trans hw673_1)⟩ (fun hHeld => ?_)
                                      clear hK K
                                      refine norm_ (a' := ?_) ?_ ?_
                                      rotate_left
                                      · show Act.put _ (some 102) _ = _
                                        simp only [Act.put, List.setIfInBounds_toArray, List.set_cons_zero, List.set_cons_succ, i64_w, i32_w]
                                        rfl
                                      refine pure_ (i := 14) (N := some 103) (v := ?_) (a' := ?_) #[true, true, true, true, true, true, true, true, true, true, true, true, true, true, true] rfl rfl (any_of HT_.out (by kernel_rfl)) (fun _ _ _ h => h) (Or.inl ⟨by rfl, ?_⟩) ?_ ?_
                                      rotate_left
                                      · intro w'
                                        go_simp
                                        with_reducible rfl
                                      rotate_left
                                      · simp only [Act.put, List.setIfInBounds_toArray, List.set_cons_zero, List.set_cons_succ, i64_w, i32_w]
                                        rfl
                                      refine done_ (done_of HT_.out (by kernel_rfl)) ?_
                                      (try rw [← KA45.out])
                                      (try rw [← KA48.out])
                                      have hnb73 := NB671_617.out
                                      have hnc73 := NB617_671.out
                                      have hnb74 := NB671_658.out
                                      have hnc74 := NB658_671.out
                                      have hcz75_0 : w72.cell? ⟨gb671, 0, none⟩ = some (.int .u64 t668) := (blk_cell BK671.out 0).trans rfl
                                      have hcz75_1 : w72.cell? ⟨gb671, 1, none⟩ = some (.int .u64 t669) := (blk_cell BK671.out 1).trans rfl
                                      have hcz75_2 : w72.cell? ⟨gb671, 2, none⟩ = some (.int .u64 t670) := (blk_cell BK671.out 2).trans rfl
                                      have hfz75_0 := blk_frozen BK671.out 0
                                      have hfz75_1 := blk_frozen BK671.out 1
                                      have hfz75_2 := blk_frozen BK671.out 2
                                      have hnb76 := NB658_617.out
                                      have hnc76 := NB617_658.out
                                      have hcz77_0 : w72.cell? ⟨gb658, 0, none⟩ = some (.int .u64 x659000_2) := (blk_cell BK658.out 0).trans rfl
                                      have hcz77_1 : w72.cell? ⟨gb658, 1, none⟩ = some (.int .u64 x659001_2) := (blk_cell BK658.out 1).trans rfl
                                      have hcz77_2 : w72.cell? ⟨gb658, 2, none⟩ = some (.int .u64 x659002_2) := (blk_cell BK658.out 2).trans rfl
                                      have hfz77_0 := blk_frozen BK658.out 0
                                      have hfz77_1 := blk_frozen BK658.out 1
                                      have hfz77_2 := blk_frozen BK658.out 2
                                      try go_wp2
                                      go_roundg k2
                                      case measure => have := HK1.out; have := HK2.out; omega
                                      case rel => exact ⟨(wrap64 (x10_2 + 1)), (t668), (t669), (t670), (by first | rfl | (simp; done) | (simp [*]; done)), H', ⟨by have := HK1.out; have := HK2.out; omega⟩, ⟨by (with_reducible repeat (first | refine blk_drewN ?_ _ | refine blk_drew ?_ | refine blk_alloc ?_ _)); refine blk_far ?_ NB617_658.out _; (with_reducible repeat (first | refine blk_drewN ?_ _ | refine blk_drew ?_ | refine blk_alloc ?_ _)); refine blk_far ?_ NB617_658.out _; (with_reducible repeat (first | refine blk_drewN ?_ _ | refine blk_drew ?_ | refine blk_alloc ?_ _)); refine blk_far ?_ NB617_658.out _; (with_reducible repeat (first | refine blk_drewN ?_ _ | refine blk_drew ?_ | refine blk_alloc ?_ _)); exact BK617.out⟩, ⟨by (with_reducible repeat (first | refine blk_drewN ?_ _ | refine blk_drew ?_ | refine blk_alloc ?_ _)); refine blk_put (cs := #[.int .u64 t668, .int .u64 t669, .int .u64 x659002_2]) ?_ 2 _ rfl; (with_reducible repeat (first | refine blk_drewN ?_ _ | refine blk_drew ?_ | refine blk_alloc ?_ _)); refine blk_put (cs := #[.int .u64 t668, .int .u64 x659001_2, .int .u64 x659002_2]) ?_ 1 _ rfl; (with_reducible repeat (first | refine blk_drewN ?_ _ | refine blk_drew ?_ | refine blk_alloc ?_ _)); refine blk_put (cs := #[.int .u64 x659000_2, .int .u64 x659001_2, .int .u64 x659002_2]) ?_ 0 _ rfl; (with_reducible repeat (first | refine blk_drewN ?_ _ | refine blk_drew ?_ | refine blk_alloc ?_ _)); exact BK658.out⟩, ⟨by repeat (first | (with_reducible first | exact HB.out | apply below_alloc | apply pw_below_drewN | apply below_drew1 | refine below_set ?_ GE617.out | refine below_set ?_ GE658.out | refine below_set ?_ GE671.out) | exact HB.out)⟩⟩
                                · rw [if_neg c56] at H
                                  exact absurd H (by simp)
                              · rw [if_neg c55] at H
                                have c55b0 : decide (x10_2 < (l0.length : Int)) = false := decide_eq_false c55
                                clear c55
                                obtain rfl := Option.some.inj H
                                have hnb78 := NB658_617.out
                                have hnc78 := NB617_658.out
                                have hcz79_0 : wr.cell? ⟨gb658, 0, none⟩ = some (.int .u64 x659000_2) := (blk_cell BK658.out 0).trans rfl
                                have hcz79_1 : wr.cell? ⟨gb658, 1, none⟩ = some (.int .u64 x659001_2) := (blk_cell BK658.out 1).trans rfl
                                have hcz79_2 : wr.cell? ⟨gb658, 2, none⟩ = some (.int .u64 x659002_2) := (blk_cell BK658.out 2).trans rfl
                                have hfz79_0 := blk_frozen BK658.out 0
                                have hfz79_1 := blk_frozen BK658.out 1
                                have hfz79_2 := blk_frozen BK658.out 2
                                have hcz80_0 : wr.cell? ⟨gb617, 0, none⟩ = some (.int .u64 t614) := (blk_cell BK617.out 0).trans rfl
                                have hcz80_1 : wr.cell? ⟨gb617, 1, none⟩ = some (.int .u64 t615) := (blk_cell BK617.out 1).trans rfl
                                have hcz80_2 : wr.cell? ⟨gb617, 2, none⟩ = some (.int .u64 t616) := (blk_cell BK617.out 2).trans rfl
                                have hfz80_0 := blk_frozen BK617.out 0
                                have hfz80_1 := blk_frozen BK617.out 1
                                have hfz80_2 := blk_frozen BK617.out 2
                                go_wp2
                                go_ret
                                exact ⟨by first | rfl | (simp [errW_none, errW_some] <;> rfl) | (simp only [← hji17]; first | rfl | (simp [errW_none, errW_some] <;> rfl)) | (simp [*, errW_none, errW_some] <;> rfl), by repeat (first | (with_reducible first | exact HB.out | apply below_alloc | apply pw_below_drewN | apply below_drew1 | refine below_set ?_ GE617.out | refine below_set ?_ GE658.out) | exact HB.out)⟩
                        · replace c35 := Bool.eq_false_iff.mpr c35
                          subst c35
                          have H1 : (none) = some r := by rw [if_neg (show ¬ (false = true) by decide)] at H; exact H
                          clear H
                          have H := H1
                          clear H1
                          exact absurd H (by simp)
                  · rw [if_neg c19] at H
                    exact absurd H (by simp)
                · rw [if_neg c18] at H
                  exact absurd H (by simp)
  · replace c4 := Bool.eq_false_iff.mpr c4
    subst c4
    have H1 : (none) = some r := by rw [if_neg (show ¬ (false = true) by decide)] at H; exact H
    clear H
    have H := H1
    clear H1
    exact absurd H (by simp)
end Go.Proofs.Ytpkjpiphjdpegaa.P
namespace Go.Proofs.Ytpkjpiphjdpegaa.P
open Go.RowKit Go.Proofs.YtpkjpiphjdpegaaW.PrintWords Go.Proofs.YtpkjpiphjdpegaaW.PrintLast Go.Proofs.YtpkjpiphjdpegaaW.PrintMore
set_option linter.unusedVariables false
set_option linter.unusedSimpArgs false
theorem wideOrders_run (l : List S25) (hl : l.length ≤ 200) (hg : ∀ y ∈ l, U64 y.f0 ∧ U64 y.f1) : ∀ (d i k : Nat), i + d = l.length → d + 10 < k →
    paymasterlaw03_WideOrders.l1 k l (i : Int) (encW (tot l)).1 (encW (tot l)).2.1 (encW (tot l)).2.2 (encW (tot (l.take i))).1 (encW (tot (l.take i))).2.1 (encW (tot (l.take i))).2.2 = some true
  | 0, i, k, hi, hk => by
    obtain ⟨k, rfl⟩ : ∃ m, k = m + 1 := ⟨k - 1, by omega⟩
    rw [paymasterlaw03_WideOrders.l1, if_neg (by omega), List.take_of_length_le (by omega)]
    simp
  | d + 1, i, k, hi, hk => by
    obtain ⟨k, rfl⟩ : ∃ m, k = m + 4 := ⟨k - 4, by omega⟩
    have hy := hg l[i] (List.getElem_mem _)
    have v := val_range _ _ hy.1 hy.2
    have t := tot_small l hg (by omega)
    have t0 := tot_le hg i
    have t1 := tot_le hg (i + 1)
    have ts := tot_succ l i (by omega)
    obtain ⟨u1, u2, u3, u4⟩ := encW_ok (tot (l.take i)) t0.1 (by omega)
    obtain ⟨w1, w2, w3, w4⟩ := encW_ok (tot (l.take (i + 1))) t1.1 (by omega)
    have e1 := plus_enc _ _ _ _ _ u1 u2 u3 hy.1 hy.2 (by rw [u4, ← ts]; omega)
    rw [u4, ← ts] at e1
    have e2 := less_is k _ _ _ _ _ _ u1 u2 u3 w1 w2 w3
    have e3 := less_is k _ _ _ _ _ _ w1 w2 w3 u1 u2 u3
    rw [u4, w4] at e2 e3
    rw [paymasterlaw03_WideOrders.l1, if_pos (by omega), if_pos (by omega), rd25 l i (by omega), e1]
    simp only [Option.bind_some]
    rw [e2, e3]
    simp only [Option.bind_some]
    rw [if_neg, if_neg, wi _ (by omega) (by omega), show (i : Int) + 1 = ((i + 1 : Nat) : Int) by omega]
    · exact wideOrders_run l hl hg d (i + 1) (k + 3) (by omega) (by omega)
    · simp; omega
    · have z := val_zero _ _ hy.1 hy.2
      have : decide (tot (l.take i) < tot (l.take (i + 1))) = (!(l[i].f0 == 0) || !(l[i].f1 == 0)) := by
        rw [Bool.eq_iff_iff]
        simp only [decide_eq_true_eq, Bool.or_eq_true, Bool.not_eq_true', beq_eq_false_iff_ne]
        rw [← z]
        omega
      rw [this]
      simp
theorem wideOrders_cut (l : List S25) (hl : l.length ≤ 200) (at_ : Int) : ∃ n : Nat, n ≤ l.length ∧ wrap64 (Int.tmod (IntKind.u64.wrap at_) (IntKind.u64.wrap (wrap64 ((l.length : Int) + 1)))) = (n : Int) := by
  have e : IntKind.u64.wrap (wrap64 ((l.length : Int) + 1)) = (l.length : Int) + 1 := by
    rw [wi _ (by omega) (by omega), IntKind.wrap_u64]
    omega
  have h0 : 0 ≤ IntKind.u64.wrap at_ := by rw [IntKind.wrap_u64]; omega
  rw [e, Int.tmod_eq_emod_of_nonneg h0]
  have h1 := Int.emod_nonneg (IntKind.u64.wrap at_) (show (l.length : Int) + 1 ≠ 0 by omega)
  have h2 := Int.emod_lt_of_pos (IntKind.u64.wrap at_) (show (0 : Int) < (l.length : Int) + 1 by omega)
  refine ⟨(IntKind.u64.wrap at_ % ((l.length : Int) + 1)).toNat, by omega, ?_⟩
  rw [wi _ (by omega) (by omega)]
  omega
theorem wideOrders_back (l : List S25) (hl : l.length ≤ 200) (hg : ∀ y ∈ l, U64 y.f0 ∧ U64 y.f1) (at_ : Int) : ∀ (i k : Nat), i ≤ l.length → i + l.length + 30 < k →
    paymasterlaw03_WideOrders.l0 k l at_ (l.drop i).reverse ((i : Int) - 1) = some true
  | 0, k, hi, hk => by
    obtain ⟨k, rfl⟩ : ∃ m, k = m + 1 := ⟨k - 1, by omega⟩
    obtain ⟨n, hn, en⟩ := wideOrders_cut l hl at_
    have t := tot_small l hg (by omega)
    have e0 := all_is l hg (by omega) k (by omega)
    have e1 := all_is l.reverse (good_reverse hg) (by simp; omega) k (by simp; omega)
    have e2 := all_is (l.take n) (good_take hg n) (by simp; omega) k (by simp; omega)
    have e3 := all_is (l.drop n) (good_drop hg n) (by simp; omega) k (by simp; omega)
    have tp := tot_parts l n
    have r2 := tot_small _ (good_take hg n) (by simp; omega)
    have r3 := tot_small _ (good_drop hg n) (by simp; omega)
    obtain ⟨u1, u2, u3, u4⟩ := encW_ok _ r2.1 r2.2
    obtain ⟨w1, w2, w3, w4⟩ := encW_ok _ r3.1 r3.2
    have e4 := and_enc _ _ _ _ _ _ u1 u2 u3 w1 w2 w3 (by rw [u4, w4]; omega)
    have e5 := and_enc _ _ _ _ _ _ w1 w2 w3 u1 u2 u3 (by rw [u4, w4]; omega)
    rw [u4, w4, tp] at e4
    rw [u4, w4, show tot (l.drop n) + tot (l.take n) = tot l by omega] at e5
    rw [tot_reverse] at e1
    have e6 := balanced_is l l.reverse hg (by omega) (good_reverse hg) (by simp; omega) k (by omega) (by simp; omega)
    rw [tot_reverse, decide_eq_true rfl] at e6
    have e7 := wideOrders_run l hl hg l.length 0 k (by omega) (by omega)
    rw [List.take_zero, tot_nil] at e7
    rw [paymasterlaw03_WideOrders.l0, if_neg (by omega), if_neg (by rw [wi _ (by omega) (by omega), IntKind.wrap_u64]; omega), List.drop_zero, en, Int.toNat_natCast]
    have s : ∀ u v w : Int, ¬ ((!(u == u) || (!(v == v) || !(w == w))) = true) := by intro u v w; simp
    rw [e0, e1]
    simp only [Option.bind_some]
    rw [if_neg (s _ _ _), if_pos (by omega), if_pos (by omega), e2, e3]
    simp only [Option.bind_some]
    rw [e4]
    simp only [Option.bind_some]
    rw [if_neg (s _ _ _), e5]
    simp only [Option.bind_some]
    rw [if_neg (s _ _ _), e6]
    simp only [Option.bind_some]
    rw [if_pos trivial]
    exact e7
  | i + 1, k, hi, hk => by
    obtain ⟨k, rfl⟩ : ∃ m, k = m + 1 := ⟨k - 1, by omega⟩
    rw [paymasterlaw03_WideOrders.l0, show ((i + 1 : Nat) : Int) - 1 = (i : Int) by omega, if_pos (by omega), if_pos (by omega), if_pos (by omega), if_pos (by simp; omega), rd25 l i (by omega), wi _ (by omega) (by omega)]
    have e : (l.drop (i + 1)).reverse ++ [(⟨l[i].f0, l[i].f1⟩ : S25)] = (l.drop i).reverse := by
      rw [List.drop_eq_getElem_cons (show i < l.length by omega), List.reverse_cons]
    rw [e]
    exact wideOrders_back l hl hg at_ i k (by omega) (by omega)
theorem wideOrders_pure (l : List S25) (hg : ∀ y ∈ l, U64 y.f0 ∧ U64 y.f1) (at_ : Int) : ∃ k, paymasterlaw03_WideOrders.f k l at_ = some true := by
  refine ⟨500, ?_⟩
  unfold paymasterlaw03_WideOrders.f
  rw [awake3 490]
  simp only [Option.bind_some]
  rw [if_pos trivial]
  by_cases h0 : (l.length : Int) > 200
  · rw [if_pos h0]
  rw [if_neg h0, wi _ (by omega) (by omega)]
  have := wideOrders_back l (by omega) hg at_ l.length 500 (by omega) (by omega)
  rw [List.drop_length] at this
  exact this
theorem wideOrders_walk {w : World} (A0 : Option Addr) (c0 : Nat) (l0 : List S25) (hr0 : k25.C w A0 l0.length l0) (hc0 : l0.length ≤ c0) (g0 : ∀ y ∈ l0, U64 y.f0 ∧ U64 y.f1) (n : Int) (hn : (Lit.int .i64 n).wf = true) :
    Calls Try.prog 7 #[.slice A0 l0.length c0, .int .i64 n] w fun e w' => e = .returned (.bool true) ∧ Below w.heap.size w w' := by
  obtain ⟨k, h⟩ := wideOrders_pure l0 g0 n
  exact paymasterlaw03_WideOrders.calls k A0 c0 l0 n true w hr0 hc0 h
end Go.Proofs.Ytpkjpiphjdpegaa.P
namespace Go.Proofs.Ytpkjpiphjdpegaa.wideOrders
open Go.ChangeShapes Go.WideShapes Go.ChangeAt Go.RowKit Go.Proofs.Ytpkjpiphjdpegaa.P
open Go.ChangeMaps (open_string shut_string)
set_option linter.unusedVariables false
theorem own : ownKnob Try.prog.godebug = none := by kernel_rfl
theorem laidOut : laidOutB Try.prog = true := by kernel_rfl
set_option maxRecDepth 100000 in
theorem lifted (os : Os) (started : os.Started) (H : Type) (enc : TypeId × Value → H) :
    ReturnsInHanded {} Try.checked os 7 .any (Rows.wideOrdersSpec.pre6 enc Try.prog Try.f7 Rows.wideOrdersRow.domain false) (Rows.wideOrdersSpec.post enc Try.prog Try.f7 false true false false) := by
  refine returnsInHanded_of_change_sized (C := Try.checked) own started (by kernel_rfl) Try.func7
    (ChangeSpec.witness6 (enc := enc) (C := Try.checked) false ⟨#[], #[.slice none 0 0, .int .i64 0], []⟩ 8 (by kernel_rfl) (by kernel_rfl) (by kernel_rfl) (by kernel_rfl)) ?_
  intro W base args ds gs before hval0 hW hcnd hsz0 _
  have hval : ∀ (j : Nat) t v, Try.f7.params[j]? = some t → args[j]? = some v → Value.okWide Try.prog W .any base t v := hval0
  have hW' := hW
  obtain ⟨p, q, hA0, hV, rfl, hfz, hnd⟩ := hW
  have hA : DataW.TrodAll enc Try.prog W 0 (fun _ => true) true Try.f7.params.toList args.toList ds p := hA0
  rw [Try.params7] at hA hval
  have hAll := hA
  obtain ⟨v0, vs0, d0, ds0, p0, q0, hargs, rfl, rfl, h0, r0⟩ := trodAll_cons hA
  obtain ⟨v1, vs1, d1, ds1, p1, q1, rfl, rfl, rfl, h1, r1⟩ := trodAll_cons r0
  obtain ⟨rfl, rfl, rfl⟩ := trodAll_nil r1
  obtain rfl : args = #[v0, v1] := by cases args; simp_all
  obtain ⟨rfl, rfl⟩ := trodVars_none hV
  obtain ⟨A0, c0, l0, rfl, hc0, hr0, g0⟩ := arg_row25 (hval 0 22 v0 rfl rfl) h0
  obtain ⟨a1, rfl, g1⟩ := arg_int Try.underlying3 (hval 1 3 v1 rfl rfl) h1
  clear hA0 hval0 hsz0
  refine (wideOrders_walk (w := W) A0 c0 l0 hr0 hc0 g0 a1 g1).mono fun e W' ⟨he, bel⟩ => ?_
  subst he
  exact ⟨_, rfl, _, _, _, [], _, [], hW', trodAll_mk1 (shut_bool Try.underlying4 _), args_back laidOut bel (by kernel_rfl) hAll, rfl, bel.frame _, fun h => by cases h⟩
theorem both {a b : Bool} (h : a = true) (k : b = true) : (a && b) = true := by rw [h, k]; rfl
theorem c0 : (Rows.wideOrdersRow.wf (OpenSpec.ofChange Rows.wideOrdersSpec)) = true := by kernel_rfl
theorem c1 : (laidOutB Try.prog) = true := by kernel_rfl
theorem c2 : (mapsRowed Try.prog) = true := by kernel_rfl
theorem c3 : (Try.f7.params.all (Try.prog.readableRec ·)) = true := by kernel_rfl
theorem c4 : (namedTie Try.prog Rows.wideOrdersRow.named Rows.wideOrdersSpec.vars) = true := by kernel_rfl
theorem c5 : ((Rows.wideOrdersRow.stops == [])) = true := by kernel_rfl
theorem c6 : ((Try.prog.stops == [])) = true := by kernel_rfl
theorem c7 : ((Rows.wideOrdersRow.knobs == [])) = true := by kernel_rfl
theorem c8 : ((Try.prog.stopKnobs == [])) = true := by kernel_rfl
theorem c9 : ((Rows.wideOrdersRow.inPlace == Try.prog.inPlace 7)) = true := by kernel_rfl
theorem c10 : ((Rows.wideOrdersRow.unfollowed == Try.prog.unfollowed 7)) = true := by kernel_rfl
theorem c11 : ((Rows.wideOrdersRow.recurses == Try.prog.recurses 7)) = true := by kernel_rfl
theorem c12 : ((Rows.wideOrdersRow.named == Try.prog.varsNamed 7)) = true := by kernel_rfl
theorem c13 : ((Rows.wideOrdersRow.maps == (Try.f7.params.toList ++ Rows.wideOrdersSpec.plain.varTypes Try.prog).any (Try.prog.mapsRec ·))) = true := by kernel_rfl
theorem c14 : ((Rows.wideOrdersRow.ifaces == (Try.f7.params.toList ++ Rows.wideOrdersSpec.plain.varTypes Try.prog).any (Try.prog.ifacesRec ·))) = true := by kernel_rfl
theorem c15 : ((Rows.wideOrdersRow.mapsOut == Try.prog.mapsAmong Try.f7.resultTypes.toList)) = true := by kernel_rfl
theorem c16 : ((Rows.wideOrdersRow.loops == (Try.f7.params.toList ++ Rows.wideOrdersSpec.plain.varTypes Try.prog).any (Try.prog.loopsFrom ·))) = true := by kernel_rfl
theorem c17 : ((Rows.wideOrdersRow.wideKeys == (Try.f7.params.toList ++ Rows.wideOrdersSpec.plain.varTypes Try.prog ++ Try.f7.resultTypes.toList).any (Try.prog.wideKeysFrom ·))) = true := by kernel_rfl
theorem c18 : (Rows.wideOrdersSpec.vars.all (Try.prog.varReadable ·)) = true := by kernel_rfl
theorem c19 : (Try.f7.resultTypes.all (fun t => Try.prog.readableRec t && decide (t < Try.prog.types.size))) = true := by kernel_rfl
theorem c20 : ((Rows.wideOrdersRow.ifacesOut == Try.f7.resultTypes.toList.any (Try.prog.ifacesRec ·))) = true := by kernel_rfl
theorem c21 : ((Rows.wideOrdersRow.loopsOut == Try.f7.resultTypes.toList.any (Try.prog.loopsFrom ·))) = true := by kernel_rfl
theorem c22 : ((Rows.wideOrdersRow.plainKeys == Try.prog.plainKeys)) = true := by kernel_rfl
theorem c23 : (Rows.wideOrdersRow.shortTexts.isNone) = true := by kernel_rfl
theorem c24 : (Try.prog.stopsHeard) = true := by kernel_rfl
theorem c25 : (Try.prog.mayEnter) = true := Facts.mayEnter
theorem c26 : ((Rows.wideOrdersRow.lifted == Try.prog.liftsFinal)) = true := by rw [Facts.liftsFinal]; kernel_rfl
theorem c27 : ((Try.prog.make == some Rows.wideOrdersRow.make)) = true := by rw [Facts.make]; kernel_rfl
theorem c28 : ((Rows.wideOrdersRow.kinds == (if Rows.wideOrdersRow.domain.isEmpty then [] else Try.f7.params.toList.map fun t => match Try.prog.underlying t with | some (.int k) => some k | _ => none))) = true := by kernel_rfl
theorem c29 : ((Rows.wideOrdersRow.pinned == Rows.wideOrdersRow.pinnedBy)) = true := by kernel_rfl
theorem c30 : ((Rows.wideOrdersRow.veiled == (Try.f7.params.toList ++ Rows.wideOrdersSpec.plain.varTypes Try.prog ++ Try.f7.resultTypes.toList).any (Try.prog.veiledRec ·))) = true := by kernel_rfl
theorem c31 : (Rows.wideOrdersRow.veiledFits Try.prog Try.f7.params.toList (Try.f7.params.toList ++ Rows.wideOrdersSpec.plain.varTypes Try.prog ++ Try.f7.resultTypes.toList)) = true := by kernel_rfl
set_option maxRecDepth 100000 in
theorem closed : joinedFacts Try.prog 7 Try.f7 Rows.wideOrdersSpec Rows.wideOrdersRow = true := by
  unfold joinedFacts
  exact both (both (both (both (both (both (both (both (both (both (both (both (both (both (both (both (both (both (both (both (both (both (both (both (both (both (both (both (both (both (both (c0) c1) c2) c3) c4) c5) c6) c7) c8) c9) c10) c11) c12) c13) c14) c15) c16) c17) c18) c19) c20) c21) c22) c23) c24) c25) c26) c27) c28) c29) c30) c31
theorem over : Rows.wideOrdersRow.holds Try.pinned (OpenSpec.ofChange Rows.wideOrdersSpec) :=
  OpenClaim.holds_of_wide 7 Try.f7 rfl rfl rfl rfl rfl rfl rfl ⟨rfl, rfl, rfl, rfl, rfl⟩ rfl rfl rfl rfl rfl (by kernel_rfl) Try.func7 closed
    (of_decide_eq_true (by kernel_rfl)) (by unfold Func.isWrapper; first | (rw [if_pos (by decide +kernel)]; kernel_rfl) | (rw [if_neg (by decide +kernel)]; exact ⟨rfl, rfl⟩))
    (fun os started H enc _ => lifted os started H enc)
end Go.Proofs.Ytpkjpiphjdpegaa.wideOrders
namespace Go.Proofs.Ytpkjpiphjdpegaa
theorem wideOrders_holds : Rows.WideOrdersSaid := wideOrders.over
end Go.Proofs.Ytpkjpiphjdpegaa
