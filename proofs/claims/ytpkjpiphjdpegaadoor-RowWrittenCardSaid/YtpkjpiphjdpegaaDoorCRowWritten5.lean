/- A program of this session wrote this text out of the session's own texts. (part 5 of 5) -/
import Derived.Test.YtpkjpiphjdpegaaDoorCRowWritten4
namespace Go.Proofs.YtpkjpiphjdpegaaDoor.P
open Go.RowKit Go.Proofs.YtpkjpiphjdpegaaDoorW.PrintWords Go.Proofs.YtpkjpiphjdpegaaDoorW.PrintLast Go.Proofs.YtpkjpiphjdpegaaDoorW.PrintMore
attribute [local go_sem] max2_int min2_int max_two min_two max_three min_three max_four min_four
set_option linter.unusedVariables false
set_option linter.unusedSimpArgs false
mutual
def paymasterlaw10_RowWritten.j0 : Nat → List (S44) → ByteArray → Bool → Option (Bool)
  | 0, _, _, _ => none
  | k + 1, x0, x1, x22 => if x22 = true then (some true) else ((row_Write.f k x0 x1).bind fun bt838 => (if bt838.2 = 0 then ((row_All.f bt838.1).bind fun bt852 => (if bt852.2.2 = 0 then (if bt852.2.1 = 0 then ((paymasterref10_Same.f k bt852.1 x0).bind fun t857 => (if t857 = true then ((lines_All.f bt838.1).bind fun t863 => (if x1.toList = ([] : List UInt8) then (if (t863.length : Int) = (wrap64 ((x0.length : Int) + 1)) then (if 0 ≤ (wrap64 ((wrap64 ((x0.length : Int) + 1)) - 1)) then (if (wrap64 ((wrap64 ((x0.length : Int) + 1)) - 1)) < (t863.length : Int) then (if ((rd_T56 t863 (wrap64 ((wrap64 ((x0.length : Int) + 1)) - 1))).f1).toList = ([] : List UInt8) then (some true) else (none)) else (none)) else (none)) else (none)) else (if (t863.length : Int) = (wrap64 ((wrap64 ((x0.length : Int) + 1)) + 1)) then (if 0 ≤ (wrap64 ((wrap64 ((wrap64 ((x0.length : Int) + 1)) + 1)) - 1)) then (if (wrap64 ((wrap64 ((wrap64 ((x0.length : Int) + 1)) + 1)) - 1)) < (t863.length : Int) then (if ((rd_T56 t863 (wrap64 ((wrap64 ((wrap64 ((x0.length : Int) + 1)) + 1)) - 1))).f1).toList = ([] : List UInt8) then (if 0 < (t863.length : Int) then (if 2 + x1.size ≤ 9223372036854775807 then (some (((rd_T56 t863 0).f1).toList == ((⟨#[35, 32]⟩ : ByteArray) ++ x1).toList)) else (none)) else (none)) else (none)) else (none)) else (none)) else (none)))) else (none))) else (none)) else (none))) else (paymasterlaw10_RowWritten.l0 k x0 bt838.1 bt838.2 false 0)))
def paymasterlaw10_RowWritten.l0 : Nat → List (S44) → ByteArray → Int → Bool → Int → Option (Bool)
  | 0, _, _, _, _, _ => none
  | k + 1, x0, x5, x6, x7, x8 => if x8 < (x0.length : Int) then (if x7 = true then (paymasterlaw10_RowWritten.l0 k x0 x5 x6 true (wrap64 (x8 + 1))) else (if 0 ≤ x8 then ((tag_MayId.f ((rd_T44 x0 x8).f0)).bind fun t851 => (paymasterlaw10_RowWritten.l0 k x0 x5 x6 (!t851) (wrap64 (x8 + 1)))) else (none))) else (if x5.toList = ([] : List UInt8) then (if x6 = 101 then (if x7 = true then (some true) else (if x6 = 91 then (some (!x7)) else (none))) else (if x6 = 91 then (some (!x7)) else (none))) else (none))
end
def paymasterlaw10_RowWritten.f (k : Nat) (l0 : List (S44)) (a1 : ByteArray) : Option (Bool) := (paymasterlaw10_awake.f k).bind fun t829 => (if t829 = true then ((paymasterlaw10_Long.f k l0).bind fun t833 => (if t833 = true then (paymasterlaw10_RowWritten.j0 k l0 a1 true) else (paymasterlaw10_RowWritten.j0 k l0 a1 (decide ((a1.size : Int) > 500))))) else (none))
set_option maxHeartbeats 8000000 in
set_option maxRecDepth 100000 in
theorem paymasterlaw10_RowWritten.calls (k : Nat) (A0 : Option Addr) (c0 : Nat) (l0 : List (S44)) (a1 : ByteArray) (r : Bool) (w : World) (hr0 : Kd.C k44 w A0 l0.length l0) (hc0 : l0.length ≤ c0) (hG : GT w) (h : paymasterlaw10_RowWritten.f k l0 a1 = some r) :
    Calls Tryd.prog 14 #[.slice A0 l0.length c0, .string a1] w fun e w' => e = .returned (.bool r) ∧ Below w.heap.size w w' := by
  have HR0 := Aside0.mk hr0
  have HC0 := Aside0.mk hc0
  clear hr0 hc0
  have HB := Aside0.mk (Below.refl w.heap.size w)
  have H : ((paymasterlaw10_awake.f k).bind fun t829 => (if t829 = true then ((paymasterlaw10_Long.f k l0).bind fun t833 => (if t833 = true then (paymasterlaw10_RowWritten.j0 k l0 a1 true) else (paymasterlaw10_RowWritten.j0 k l0 a1 (decide ((a1.size : Int) > 500))))) else (none))) = some r := h
  clear h
  replace H := Option.bind_eq_some_iff.mp H
  obtain ⟨t829, A30, H⟩ := H
  replace H : (if t829 = true then ((paymasterlaw10_Long.f k l0).bind fun t833 => (if t833 = true then (paymasterlaw10_RowWritten.j0 k l0 a1 true) else (paymasterlaw10_RowWritten.j0 k l0 a1 (decide ((a1.size : Int) > 500))))) else (none)) = some r := H
  have A3 := Aside0.mk A30
  clear A30
  by_cases c4 : t829 = true
  · subst c4
    have H1 : ((paymasterlaw10_Long.f k l0).bind fun t833 => (if t833 = true then (paymasterlaw10_RowWritten.j0 k l0 a1 true) else (paymasterlaw10_RowWritten.j0 k l0 a1 (decide ((a1.size : Int) > 500))))) = some r := by rw [if_pos rfl] at H; exact H
    clear H
    have H := H1
    clear H1
    have HC5 := Aside0.mk H
    clear H
    go_enter Tryd.func14, Tryd.ntmps14
    go_upto_region 3 with (first | ((with_reducible refine gate_callee (f := 25) rfl ?_); refine goesL_ (some 14) rfl rfl Tryd.func25 (by kernel_rfl) rfl #[] rfl (by (try simp only [List.map_toArray, List.map_cons, List.map_nil]); first | done | rfl | (simp only [List.length_drop, List.length_take]; rfl)) ?_; (with_reducible refine (paymasterlaw10_awake.calls k  true _ ?side1 A3.out).mono ?_); (case side1 => exact gt_below hG (by repeat (first | (with_reducible first | exact HB.out | apply below_alloc | apply pw_below_drewN | apply below_drew1) | exact HB.out))); rintro e w6 ⟨rfl, hb⟩; refine ⟨_, rfl, ?_⟩; have n0_ := Aside0.mk (below_step (by repeat (first | (with_reducible first | exact HB.out | apply below_alloc | apply pw_below_drewN | apply below_drew1) | exact HB.out)) hb); clear HB; have HB := n0_; clear n0_; (try clear hb); (try clear hb2); (try clear hk); (try clear hi)))
    (try simp only [Act.put, List.setIfInBounds_toArray, List.set_cons_zero, List.set_cons_succ])
    go_cut [22] (fun v22 wc => ∃ (kq : Nat) (x22_4 : Bool), v22 = .bool x22_4 ∧ Aside0 (paymasterlaw10_RowWritten.j0 kq l0 a1 x22_4 = some r) ∧ Aside0 (kq ≤ k) ∧ Aside0 (Below w.heap.size w wc))
    case first =>
      have H := HC5.out
      clear HC5
      replace H := Option.bind_eq_some_iff.mp H
      obtain ⟨t833, A70, H⟩ := H
      replace H : (if t833 = true then (paymasterlaw10_RowWritten.j0 k l0 a1 true) else (paymasterlaw10_RowWritten.j0 k l0 a1 (decide ((a1.size : Int) > 500)))) = some r := H
      have A7 := Aside0.mk A70
      clear A70
      by_cases c8 : t833 = true
      · subst c8
        have H1 : (paymasterlaw10_RowWritten.j0 k l0 a1 true) = some r := by rw [if_pos rfl] at H; exact H
        clear H
        have H := H1
        clear H1
        have H' := Aside0.mk H
        clear H
        go_wp2_with (first | ((with_reducible refine gate_callee (f := 26) rfl ?_); refine goesL_ (some 17) rfl rfl Tryd.func26 (by kernel_rfl) rfl #[.slice A0 l0.length c0] rfl (by (try simp only [List.map_toArray, List.map_cons, List.map_nil]); first | done | rfl | (simp only [List.length_drop, List.length_take]; rfl)) ?_; (with_reducible refine (paymasterlaw10_Long.calls k _ _ l0 true _ ?side1 ?side2 A7.out).mono ?_); (case side1 => repeat (first | exact (Kd.C_below HR0.out HB.out) | (with_reducible refine Kd.C_alloc ?_ _) | (with_reducible refine Kd.C_drewN ?_ _) | (with_reducible refine Kd.C_drew ?_))); (case side2 => exact HC0.out); rintro e w' ⟨rfl, ⟨nd, rfl⟩⟩; refine ⟨_, rfl, ?_⟩))
        go_meet
        case rel => exact ⟨_, (true), (by first | rfl | (simp; done) | (simp [*]; done)), H', ⟨by first | omega | exact Nat.le_refl _⟩, ⟨by repeat (first | (with_reducible first | exact HB.out | apply below_alloc | apply pw_below_drewN | apply below_drew1) | exact HB.out)⟩⟩
      · replace c8 := Bool.eq_false_iff.mpr c8
        subst c8
        have H1 : (paymasterlaw10_RowWritten.j0 k l0 a1 (decide ((a1.size : Int) > 500))) = some r := by rw [if_neg (show ¬ (false = true) by decide)] at H; exact H
        clear H
        have H := H1
        clear H1
        have H' := Aside0.mk H
        clear H
        go_wp2_with (first | ((with_reducible refine gate_callee (f := 26) rfl ?_); refine goesL_ (some 17) rfl rfl Tryd.func26 (by kernel_rfl) rfl #[.slice A0 l0.length c0] rfl (by (try simp only [List.map_toArray, List.map_cons, List.map_nil]); first | done | rfl | (simp only [List.length_drop, List.length_take]; rfl)) ?_; (with_reducible refine (paymasterlaw10_Long.calls k _ _ l0 false _ ?side1 ?side2 A7.out).mono ?_); (case side1 => repeat (first | exact (Kd.C_below HR0.out HB.out) | (with_reducible refine Kd.C_alloc ?_ _) | (with_reducible refine Kd.C_drewN ?_ _) | (with_reducible refine Kd.C_drew ?_))); (case side2 => exact HC0.out); rintro e w' ⟨rfl, ⟨nd, rfl⟩⟩; refine ⟨_, rfl, ?_⟩))
        go_meet
        case rel => exact ⟨_, (decide ((a1.size : Int) > 500)), (by first | rfl | (simp; done) | (simp [*]; done)), H', ⟨by first | omega | exact Nat.le_refl _⟩, ⟨by repeat (first | (with_reducible first | exact HB.out | apply below_alloc | apply pw_below_drewN | apply below_drew1) | exact HB.out)⟩⟩
    case rest =>
      clear HC5
      try clear c1
      try clear c2
      try clear p2
      try clear c4
      try clear c8
      obtain ⟨kq, x22_4, rfl, HA, HJ4, HB⟩ := hcut
      cases kq with
      | zero => exact absurd HA.out (by simp [paymasterlaw10_RowWritten.j0])
      | succ kj4 =>
        have H := HA.out
        clear HA
        simp only [paymasterlaw10_RowWritten.j0] at H
        by_cases c9 : x22_4 = true
        · subst c9
          have H1 : (some true) = some r := by rw [if_pos rfl] at H; exact H
          clear H
          have H := H1
          clear H1
          obtain rfl := Option.some.inj H
          go_wp2
          go_ret
          exact ⟨by first | rfl | (simp [errW_none, errW_some] <;> rfl) | (simp [*, errW_none, errW_some] <;> rfl), by repeat (first | (with_reducible first | exact HB.out | apply below_alloc | apply pw_below_drewN | apply below_drew1) | exact HB.out)⟩
        · replace c9 := Bool.eq_false_iff.mpr c9
          subst c9
          have H1 : ((row_Write.f kj4 l0 a1).bind fun bt838 => (if bt838.2 = 0 then ((row_All.f bt838.1).bind fun bt852 => (if bt852.2.2 = 0 then (if bt852.2.1 = 0 then ((paymasterref10_Same.f kj4 bt852.1 l0).bind fun t857 => (if t857 = true then ((lines_All.f bt838.1).bind fun t863 => (if a1.toList = ([] : List UInt8) then (if (t863.length : Int) = (wrap64 ((l0.length : Int) + 1)) then (if 0 ≤ (wrap64 ((wrap64 ((l0.length : Int) + 1)) - 1)) then (if (wrap64 ((wrap64 ((l0.length : Int) + 1)) - 1)) < (t863.length : Int) then (if ((rd_T56 t863 (wrap64 ((wrap64 ((l0.length : Int) + 1)) - 1))).f1).toList = ([] : List UInt8) then (some true) else (none)) else (none)) else (none)) else (none)) else (if (t863.length : Int) = (wrap64 ((wrap64 ((l0.length : Int) + 1)) + 1)) then (if 0 ≤ (wrap64 ((wrap64 ((wrap64 ((l0.length : Int) + 1)) + 1)) - 1)) then (if (wrap64 ((wrap64 ((wrap64 ((l0.length : Int) + 1)) + 1)) - 1)) < (t863.length : Int) then (if ((rd_T56 t863 (wrap64 ((wrap64 ((wrap64 ((l0.length : Int) + 1)) + 1)) - 1))).f1).toList = ([] : List UInt8) then (if 0 < (t863.length : Int) then (if 2 + a1.size ≤ 9223372036854775807 then (some (((rd_T56 t863 0).f1).toList == ((⟨#[35, 32]⟩ : ByteArray) ++ a1).toList)) else (none)) else (none)) else (none)) else (none)) else (none)) else (none)))) else (none))) else (none)) else (none))) else (paymasterlaw10_RowWritten.l0 kj4 l0 bt838.1 bt838.2 false 0))) = some r := by rw [if_neg (show ¬ (false = true) by decide)] at H; exact H
          clear H
          have H := H1
          clear H1
          replace H := Option.bind_eq_some_iff.mp H
          obtain ⟨⟨t838, t839⟩, A100, H⟩ := H
          replace H : (if t839 = 0 then ((row_All.f t838).bind fun bt852 => (if bt852.2.2 = 0 then (if bt852.2.1 = 0 then ((paymasterref10_Same.f kj4 bt852.1 l0).bind fun t857 => (if t857 = true then ((lines_All.f t838).bind fun t863 => (if a1.toList = ([] : List UInt8) then (if (t863.length : Int) = (wrap64 ((l0.length : Int) + 1)) then (if 0 ≤ (wrap64 ((wrap64 ((l0.length : Int) + 1)) - 1)) then (if (wrap64 ((wrap64 ((l0.length : Int) + 1)) - 1)) < (t863.length : Int) then (if ((rd_T56 t863 (wrap64 ((wrap64 ((l0.length : Int) + 1)) - 1))).f1).toList = ([] : List UInt8) then (some true) else (none)) else (none)) else (none)) else (none)) else (if (t863.length : Int) = (wrap64 ((wrap64 ((l0.length : Int) + 1)) + 1)) then (if 0 ≤ (wrap64 ((wrap64 ((wrap64 ((l0.length : Int) + 1)) + 1)) - 1)) then (if (wrap64 ((wrap64 ((wrap64 ((l0.length : Int) + 1)) + 1)) - 1)) < (t863.length : Int) then (if ((rd_T56 t863 (wrap64 ((wrap64 ((wrap64 ((l0.length : Int) + 1)) + 1)) - 1))).f1).toList = ([] : List UInt8) then (if 0 < (t863.length : Int) then (if 2 + a1.size ≤ 9223372036854775807 then (some (((rd_T56 t863 0).f1).toList == ((⟨#[35, 32]⟩ : ByteArray) ++ a1).toList)) else (none)) else (none)) else (none)) else (none)) else (none)) else (none)))) else (none))) else (none)) else (none))) else (paymasterlaw10_RowWritten.l0 kj4 l0 t838 t839 false 0)) = some r := H
          have A10 := Aside0.mk A100
          clear A100
          by_cases c11 : t839 = 0
          · rw [if_pos c11] at H
            have c11b0 : (t839 == 0) = true := beq_iff_eq.mpr c11
            have c11b1 : (t839 != 0) = false := bne_eq_false_iff_eq.mpr c11
            clear c11
            replace H := Option.bind_eq_some_iff.mp H
            obtain ⟨⟨t852, t853, t854⟩, A120, H⟩ := H
            replace H : (if t854 = 0 then (if t853 = 0 then ((paymasterref10_Same.f kj4 t852 l0).bind fun t857 => (if t857 = true then ((lines_All.f t838).bind fun t863 => (if a1.toList = ([] : List UInt8) then (if (t863.length : Int) = (wrap64 ((l0.length : Int) + 1)) then (if 0 ≤ (wrap64 ((wrap64 ((l0.length : Int) + 1)) - 1)) then (if (wrap64 ((wrap64 ((l0.length : Int) + 1)) - 1)) < (t863.length : Int) then (if ((rd_T56 t863 (wrap64 ((wrap64 ((l0.length : Int) + 1)) - 1))).f1).toList = ([] : List UInt8) then (some true) else (none)) else (none)) else (none)) else (none)) else (if (t863.length : Int) = (wrap64 ((wrap64 ((l0.length : Int) + 1)) + 1)) then (if 0 ≤ (wrap64 ((wrap64 ((wrap64 ((l0.length : Int) + 1)) + 1)) - 1)) then (if (wrap64 ((wrap64 ((wrap64 ((l0.length : Int) + 1)) + 1)) - 1)) < (t863.length : Int) then (if ((rd_T56 t863 (wrap64 ((wrap64 ((wrap64 ((l0.length : Int) + 1)) + 1)) - 1))).f1).toList = ([] : List UInt8) then (if 0 < (t863.length : Int) then (if 2 + a1.size ≤ 9223372036854775807 then (some (((rd_T56 t863 0).f1).toList == ((⟨#[35, 32]⟩ : ByteArray) ++ a1).toList)) else (none)) else (none)) else (none)) else (none)) else (none)) else (none)))) else (none))) else (none)) else (none)) = some r := H
            have A12 := Aside0.mk A120
            clear A120
            by_cases c13 : t854 = 0
            · rw [if_pos c13] at H
              have c13b0 : (t854 == 0) = true := beq_iff_eq.mpr c13
              have c13b1 : (t854 != 0) = false := bne_eq_false_iff_eq.mpr c13
              clear c13
              by_cases c14 : t853 = 0
              · rw [if_pos c14] at H
                have c14b0 : (t853 == 0) = true := beq_iff_eq.mpr c14
                have c14b1 : (t853 != 0) = false := bne_eq_false_iff_eq.mpr c14
                clear c14
                replace H := Option.bind_eq_some_iff.mp H
                obtain ⟨t857, A150, H⟩ := H
                replace H : (if t857 = true then ((lines_All.f t838).bind fun t863 => (if a1.toList = ([] : List UInt8) then (if (t863.length : Int) = (wrap64 ((l0.length : Int) + 1)) then (if 0 ≤ (wrap64 ((wrap64 ((l0.length : Int) + 1)) - 1)) then (if (wrap64 ((wrap64 ((l0.length : Int) + 1)) - 1)) < (t863.length : Int) then (if ((rd_T56 t863 (wrap64 ((wrap64 ((l0.length : Int) + 1)) - 1))).f1).toList = ([] : List UInt8) then (some true) else (none)) else (none)) else (none)) else (none)) else (if (t863.length : Int) = (wrap64 ((wrap64 ((l0.length : Int) + 1)) + 1)) then (if 0 ≤ (wrap64 ((wrap64 ((wrap64 ((l0.length : Int) + 1)) + 1)) - 1)) then (if (wrap64 ((wrap64 ((wrap64 ((l0.length : Int) + 1)) + 1)) - 1)) < (t863.length : Int) then (if ((rd_T56 t863 (wrap64 ((wrap64 ((wrap64 ((l0.length : Int) + 1)) + 1)) - 1))).f1).toList = ([] : List UInt8) then (if 0 < (t863.length : Int) then (if 2 + a1.size ≤ 9223372036854775807 then (some (((rd_T56 t863 0).f1).toList == ((⟨#[35, 32]⟩ : ByteArray) ++ a1).toList)) else (none)) else (none)) else (none)) else (none)) else (none)) else (none)))) else (none)) = some r := H
                have A15 := Aside0.mk A150
                clear A150
                by_cases c16 : t857 = true
                · subst c16
                  have H1 : ((lines_All.f t838).bind fun t863 => (if a1.toList = ([] : List UInt8) then (if (t863.length : Int) = (wrap64 ((l0.length : Int) + 1)) then (if 0 ≤ (wrap64 ((wrap64 ((l0.length : Int) + 1)) - 1)) then (if (wrap64 ((wrap64 ((l0.length : Int) + 1)) - 1)) < (t863.length : Int) then (if ((rd_T56 t863 (wrap64 ((wrap64 ((l0.length : Int) + 1)) - 1))).f1).toList = ([] : List UInt8) then (some true) else (none)) else (none)) else (none)) else (none)) else (if (t863.length : Int) = (wrap64 ((wrap64 ((l0.length : Int) + 1)) + 1)) then (if 0 ≤ (wrap64 ((wrap64 ((wrap64 ((l0.length : Int) + 1)) + 1)) - 1)) then (if (wrap64 ((wrap64 ((wrap64 ((l0.length : Int) + 1)) + 1)) - 1)) < (t863.length : Int) then (if ((rd_T56 t863 (wrap64 ((wrap64 ((wrap64 ((l0.length : Int) + 1)) + 1)) - 1))).f1).toList = ([] : List UInt8) then (if 0 < (t863.length : Int) then (if 2 + a1.size ≤ 9223372036854775807 then (some (((rd_T56 t863 0).f1).toList == ((⟨#[35, 32]⟩ : ByteArray) ++ a1).toList)) else (none)) else (none)) else (none)) else (none)) else (none)) else (none)))) = some r := by rw [if_pos rfl] at H; exact H
                  clear H
                  have H := H1
                  clear H1
                  replace H := Option.bind_eq_some_iff.mp H
                  obtain ⟨t863, A170, H⟩ := H
                  replace H : (if a1.toList = ([] : List UInt8) then (if (t863.length : Int) = (wrap64 ((l0.length : Int) + 1)) then (if 0 ≤ (wrap64 ((wrap64 ((l0.length : Int) + 1)) - 1)) then (if (wrap64 ((wrap64 ((l0.length : Int) + 1)) - 1)) < (t863.length : Int) then (if ((rd_T56 t863 (wrap64 ((wrap64 ((l0.length : Int) + 1)) - 1))).f1).toList = ([] : List UInt8) then (some true) else (none)) else (none)) else (none)) else (none)) else (if (t863.length : Int) = (wrap64 ((wrap64 ((l0.length : Int) + 1)) + 1)) then (if 0 ≤ (wrap64 ((wrap64 ((wrap64 ((l0.length : Int) + 1)) + 1)) - 1)) then (if (wrap64 ((wrap64 ((wrap64 ((l0.length : Int) + 1)) + 1)) - 1)) < (t863.length : Int) then (if ((rd_T56 t863 (wrap64 ((wrap64 ((wrap64 ((l0.length : Int) + 1)) + 1)) - 1))).f1).toList = ([] : List UInt8) then (if 0 < (t863.length : Int) then (if 2 + a1.size ≤ 9223372036854775807 then (some (((rd_T56 t863 0).f1).toList == ((⟨#[35, 32]⟩ : ByteArray) ++ a1).toList)) else (none)) else (none)) else (none)) else (none)) else (none)) else (none))) = some r := H
                  have A17 := Aside0.mk A170
                  clear A170
                  by_cases c18 : a1.toList = ([] : List UInt8)
                  · rw [if_pos c18] at H
                    have c18b0 : (a1.toList == ([] : List UInt8)) = true := beq_iff_eq.mpr c18
                    try have c18b9 : (a1.toList.isEmpty) = true := by have e_ := c18b0; simp only [show ∀ l_ : List UInt8, (l_ == []) = l_.isEmpty from fun l_ => by cases l_ <;> rfl] at e_; exact e_
                    have c18b1 : (a1.toList != ([] : List UInt8)) = false := bne_eq_false_iff_eq.mpr c18
                    clear c18
                    by_cases c19 : (t863.length : Int) = (wrap64 ((l0.length : Int) + 1))
                    · rw [if_pos c19] at H
                      have c19b0 : ((t863.length : Int) == (wrap64 ((l0.length : Int) + 1))) = true := beq_iff_eq.mpr c19
                      have c19b1 : ((t863.length : Int) != (wrap64 ((l0.length : Int) + 1))) = false := bne_eq_false_iff_eq.mpr c19
                      clear c19
                      obtain ⟨ji20, hji20⟩ : ∃ j_ : Int, (wrap64 ((wrap64 ((l0.length : Int) + 1)) - 1)) = j_ := ⟨_, rfl⟩
                      replace H : (if 0 ≤ (ji20) then (if (ji20) < (t863.length : Int) then (if ((rd_T56 t863 (ji20)).f1).toList = ([] : List UInt8) then (some true) else (none)) else (none)) else (none)) = some r := by first | (rw [hji20] at H; exact H) | (simp only [hji20] at H ⊢; exact H)
                      (try rw [hji20] at A10)
                      (try rw [hji20] at A12)
                      (try rw [hji20] at A15)
                      (try rw [hji20] at A17)
                      have hji20w : (IntKind.i64.wrap ((wrap64 ((l0.length : Int) + 1)) - 1)) = ji20 := (i64_w _).trans hji20
                      by_cases c21 : 0 ≤ (ji20)
                      · rw [if_pos c21] at H
                        have c21b0 : decide (0 ≤ (ji20)) = true := decide_eq_true c21
                        clear c21
                        by_cases c22 : (ji20) < (t863.length : Int)
                        · rw [if_pos c22] at H
                          have c22b0 : decide ((ji20) < (t863.length : Int)) = true := decide_eq_true c22
                          clear c22
                          by_cases c23 : ((rd_T56 t863 (ji20)).f1).toList = ([] : List UInt8)
                          · rw [if_pos c23] at H
                            have c23b0 : (((rd_T56 t863 (ji20)).f1).toList == ([] : List UInt8)) = true := beq_iff_eq.mpr c23
                            try have c23b9 : (((rd_T56 t863 (ji20)).f1).toList.isEmpty) = true := by have e_ := c23b0; simp only [show ∀ l_ : List UInt8, (l_ == []) = l_.isEmpty from fun l_ => by cases l_ <;> rfl] at e_; exact e_
                            have c23b1 : (((rd_T56 t863 (ji20)).f1).toList != ([] : List UInt8)) = false := bne_eq_false_iff_eq.mpr c23
                            clear c23
                            obtain rfl := Option.some.inj H
                            go_wp2_with (first | ((with_reducible refine gate_callee (f := 52) rfl ?_); refine goesL_ (some 26) rfl rfl Tryd.func52 (by kernel_rfl) rfl #[.slice A0 l0.length c0, .string a1] rfl (by (try simp only [List.map_toArray, List.map_cons, List.map_nil]); first | done | rfl | (simp only [List.length_drop, List.length_take]; rfl)) ?_; (with_reducible refine (row_Write.calls kj4 _ _ l0 a1 t838 t839 _ ?side1 ?side2 ?side3 A10.out).mono ?_); (case side1 => repeat (first | exact (Kd.C_below HR0.out HB.out) | (with_reducible refine Kd.C_alloc ?_ _) | (with_reducible refine Kd.C_drewN ?_ _) | (with_reducible refine Kd.C_drew ?_))); (case side2 => exact HC0.out); (case side3 => exact gt_below hG (by repeat (first | (with_reducible first | exact HB.out | apply below_alloc | apply pw_below_drewN | apply below_drew1) | exact HB.out))); rintro e w24 ⟨rfl, hb⟩; refine ⟨_, rfl, ?_⟩; have n0_ := Aside0.mk (below_step (by repeat (first | (with_reducible first | exact HB.out | apply below_alloc | apply pw_below_drewN | apply below_drew1) | exact HB.out)) hb); clear HB; have HB := n0_; clear n0_; (try clear hb); (try clear hb2); (try clear hk); (try clear hi)) | ((with_reducible refine gate_callee (f := 45) rfl ?_); refine goesL_ (some 66) rfl rfl Tryd.func45 (by kernel_rfl) rfl #[.string t838] rfl (by (try simp only [List.map_toArray, List.map_cons, List.map_nil]); first | done | rfl | (simp only [List.length_drop, List.length_take]; rfl)) ?_; (with_reducible refine (row_All.calls t838 t852 t853 t854 _ ?side1 A12.out).mono ?_); (case side1 => exact gt_below hG (by repeat (first | (with_reducible first | exact HB.out | apply below_alloc | apply pw_below_drewN | apply below_drew1) | exact HB.out))); rintro e w25 ⟨v855, rfl, ho0, hb⟩; refine ⟨_, rfl, ?_⟩; have n0_ := Aside0.mk (Kd.R_lower ho0 (below_size (by repeat (first | (with_reducible first | exact HB.out | apply below_alloc | apply pw_below_drewN | apply below_drew1) | exact HB.out)))); have n1_ := Aside0.mk (below_step (by repeat (first | (with_reducible first | exact HB.out | apply below_alloc | apply pw_below_drewN | apply below_drew1) | exact HB.out)) hb); clear HB; have HO856 := n0_; have HB := n1_; clear n0_ n1_; (try clear hb); (try clear hb2); (try clear hk); (try clear hi); (try clear ho0); obtain ⟨Ao26, co26, eo26⟩ := Kd.R_slice HO856.out; subst eo26) | (go_at_call 28; (with_reducible refine (paymasterref10_Same.calls kj4 _ _ t852 _ _ l0 true _ ?side1 ?side2 ?side3 ?side4 A15.out).mono ?_); (case side1 => repeat (first | exact (Kd.R_reads' HO856.out).2.2 | (with_reducible refine Kd.C_alloc ?_ _) | (with_reducible refine Kd.C_drewN ?_ _) | (with_reducible refine Kd.C_drew ?_))); (case side2 => exact (Kd.R_reads' HO856.out).2.1); (case side3 => repeat (first | exact (Kd.C_below HR0.out HB.out) | (with_reducible refine Kd.C_alloc ?_ _) | (with_reducible refine Kd.C_drewN ?_ _) | (with_reducible refine Kd.C_drew ?_))); (case side4 => exact HC0.out); rintro e w' ⟨rfl, ⟨nd, rfl⟩⟩) | ((with_reducible refine gate_callee (f := 34) rfl ?_); refine goesL_ (some 83) rfl rfl Tryd.func34 (by kernel_rfl) rfl #[.string t838] rfl (by (try simp only [List.map_toArray, List.map_cons, List.map_nil]); first | done | rfl | (simp only [List.length_drop, List.length_take]; rfl)) ?_; (with_reducible refine (lines_All.calls t838 t863 _ ?side1 A17.out).mono ?_); (case side1 => exact gt_below hG (by repeat (first | (with_reducible first | exact HB.out | apply below_alloc | apply pw_below_drewN | apply below_drew1) | exact HB.out))); rintro e w27 ⟨v864, rfl, ho0, hb⟩; refine ⟨_, rfl, ?_⟩; have n0_ := Aside0.mk (Kd.R_below (by (with_reducible repeat (first | apply Kd.R_alloc | apply Kd.R_drewN | apply Kd.R_drew)); exact HO856.out) hb); have n1_ := Aside0.mk (Kd.R_lower ho0 (below_size (by repeat (first | (with_reducible first | exact HB.out | apply below_alloc | apply pw_below_drewN | apply below_drew1) | exact HB.out)))); have n2_ := Aside0.mk (below_step (by repeat (first | (with_reducible first | exact HB.out | apply below_alloc | apply pw_below_drewN | apply below_drew1) | exact HB.out)) hb); clear HO856; clear HB; have HO856 := n0_; have HO865 := n1_; have HB := n2_; clear n0_ n1_ n2_; (try clear hb); (try clear hb2); (try clear hk); (try clear hi); (try clear ho0); obtain ⟨Ao28, co28, eo28⟩ := Kd.R_slice HO865.out; subst eo28; have p866 : 0 ≤ ((ji20) : Int) := of_decide_eq_true (by first | (with_reducible assumption) | assumption); have q866 : (ji20) < (t863.length : Int) := of_decide_eq_true (by first | (with_reducible assumption) | assumption); obtain ⟨ad866, e866, hx866_0, hx866_1, hx866_2, hx866_3⟩ := at_T56 (Kd.R_reads' HO865.out).2.2 (ji20) p866 q866; cases e866; replace p866 := eq_true p866; replace q866 := eq_true q866))
                            go_ret
                            exact ⟨by first | rfl | (simp [errW_none, errW_some] <;> rfl) | (simp only [← hji20]; first | rfl | (simp [errW_none, errW_some] <;> rfl)) | (simp [*, errW_none, errW_some] <;> rfl), by repeat (first | (with_reducible first | exact HB.out | apply below_alloc | apply pw_below_drewN | apply below_drew1) | exact HB.out)⟩
                          · rw [if_neg c23] at H
                            exact absurd H (by simp)
                        · rw [if_neg c22] at H
                          exact absurd H (by simp)
                      · rw [if_neg c21] at H
                        exact absurd H (by simp)
                    · rw [if_neg c19] at H
                      exact absurd H (by simp)
                  · rw [if_neg c18] at H
                    have c18b0 : (a1.toList == ([] : List UInt8)) = false := beq_eq_false_iff_ne.mpr c18
                    try have c18b9 : (a1.toList.isEmpty) = false := by have e_ := c18b0; simp only [show ∀ l_ : List UInt8, (l_ == []) = l_.isEmpty from fun l_ => by cases l_ <;> rfl] at e_; exact e_
                    have c18b1 : (a1.toList != ([] : List UInt8)) = true := bne_iff_ne.mpr c18
                    by_cases c29 : (t863.length : Int) = (wrap64 ((wrap64 ((l0.length : Int) + 1)) + 1))
                    · rw [if_pos c29] at H
                      have c29b0 : ((t863.length : Int) == (wrap64 ((wrap64 ((l0.length : Int) + 1)) + 1))) = true := beq_iff_eq.mpr c29
                      have c29b1 : ((t863.length : Int) != (wrap64 ((wrap64 ((l0.length : Int) + 1)) + 1))) = false := bne_eq_false_iff_eq.mpr c29
                      clear c29
                      obtain ⟨ji30, hji30⟩ : ∃ j_ : Int, (wrap64 ((wrap64 ((wrap64 ((l0.length : Int) + 1)) + 1)) - 1)) = j_ := ⟨_, rfl⟩
                      replace H : (if 0 ≤ (ji30) then (if (ji30) < (t863.length : Int) then (if ((rd_T56 t863 (ji30)).f1).toList = ([] : List UInt8) then (if 0 < (t863.length : Int) then (if 2 + a1.size ≤ 9223372036854775807 then (some (((rd_T56 t863 0).f1).toList == ((⟨#[35, 32]⟩ : ByteArray) ++ a1).toList)) else (none)) else (none)) else (none)) else (none)) else (none)) = some r := by first | (rw [hji30] at H; exact H) | (simp only [hji30] at H ⊢; exact H)
                      (try rw [hji30] at A10)
                      (try rw [hji30] at A12)
                      (try rw [hji30] at A15)
                      (try rw [hji30] at A17)
                      have hji30w : (IntKind.i64.wrap ((wrap64 ((wrap64 ((l0.length : Int) + 1)) + 1)) - 1)) = ji30 := (i64_w _).trans hji30
                      by_cases c31 : 0 ≤ (ji30)
                      · rw [if_pos c31] at H
                        have c31b0 : decide (0 ≤ (ji30)) = true := decide_eq_true c31
                        clear c31
                        by_cases c32 : (ji30) < (t863.length : Int)
                        · rw [if_pos c32] at H
                          have c32b0 : decide ((ji30) < (t863.length : Int)) = true := decide_eq_true c32
                          clear c32
                          by_cases c33 : ((rd_T56 t863 (ji30)).f1).toList = ([] : List UInt8)
                          · rw [if_pos c33] at H
                            have c33b0 : (((rd_T56 t863 (ji30)).f1).toList == ([] : List UInt8)) = true := beq_iff_eq.mpr c33
                            try have c33b9 : (((rd_T56 t863 (ji30)).f1).toList.isEmpty) = true := by have e_ := c33b0; simp only [show ∀ l_ : List UInt8, (l_ == []) = l_.isEmpty from fun l_ => by cases l_ <;> rfl] at e_; exact e_
                            have c33b1 : (((rd_T56 t863 (ji30)).f1).toList != ([] : List UInt8)) = false := bne_eq_false_iff_eq.mpr c33
                            clear c33
                            by_cases c34 : 0 < (t863.length : Int)
                            · rw [if_pos c34] at H
                              have c34b0 : decide (0 < (t863.length : Int)) = true := decide_eq_true c34
                              have c34b1 : decide (0 < t863.length) = true := decide_eq_true (by omega)
                              clear c34
                              by_cases c35 : 2 + a1.size ≤ 9223372036854775807
                              · rw [if_pos c35] at H
                                have c35b0 := eq_true c35
                                have c35b1 : decide (2 + a1.size ≤ 9223372036854775807) = true := decide_eq_true c35
                                try have c35b2 : (9223372036854775807 < 2 + a1.size) = False := eq_false (Nat.not_lt.2 c35)
                                obtain rfl := Option.some.inj H
                                go_wp2_with (first | ((with_reducible refine gate_callee (f := 52) rfl ?_); refine goesL_ (some 26) rfl rfl Tryd.func52 (by kernel_rfl) rfl #[.slice A0 l0.length c0, .string a1] rfl (by (try simp only [List.map_toArray, List.map_cons, List.map_nil]); first | done | rfl | (simp only [List.length_drop, List.length_take]; rfl)) ?_; (with_reducible refine (row_Write.calls kj4 _ _ l0 a1 t838 t839 _ ?side1 ?side2 ?side3 A10.out).mono ?_); (case side1 => repeat (first | exact (Kd.C_below HR0.out HB.out) | (with_reducible refine Kd.C_alloc ?_ _) | (with_reducible refine Kd.C_drewN ?_ _) | (with_reducible refine Kd.C_drew ?_))); (case side2 => exact HC0.out); (case side3 => exact gt_below hG (by repeat (first | (with_reducible first | exact HB.out | apply below_alloc | apply pw_below_drewN | apply below_drew1) | exact HB.out))); rintro e w36 ⟨rfl, hb⟩; refine ⟨_, rfl, ?_⟩; have n0_ := Aside0.mk (below_step (by repeat (first | (with_reducible first | exact HB.out | apply below_alloc | apply pw_below_drewN | apply below_drew1) | exact HB.out)) hb); clear HB; have HB := n0_; clear n0_; (try clear hb); (try clear hb2); (try clear hk); (try clear hi)) | ((with_reducible refine gate_callee (f := 45) rfl ?_); refine goesL_ (some 66) rfl rfl Tryd.func45 (by kernel_rfl) rfl #[.string t838] rfl (by (try simp only [List.map_toArray, List.map_cons, List.map_nil]); first | done | rfl | (simp only [List.length_drop, List.length_take]; rfl)) ?_; (with_reducible refine (row_All.calls t838 t852 t853 t854 _ ?side1 A12.out).mono ?_); (case side1 => exact gt_below hG (by repeat (first | (with_reducible first | exact HB.out | apply below_alloc | apply pw_below_drewN | apply below_drew1) | exact HB.out))); rintro e w37 ⟨v855, rfl, ho0, hb⟩; refine ⟨_, rfl, ?_⟩; have n0_ := Aside0.mk (Kd.R_lower ho0 (below_size (by repeat (first | (with_reducible first | exact HB.out | apply below_alloc | apply pw_below_drewN | apply below_drew1) | exact HB.out)))); have n1_ := Aside0.mk (below_step (by repeat (first | (with_reducible first | exact HB.out | apply below_alloc | apply pw_below_drewN | apply below_drew1) | exact HB.out)) hb); clear HB; have HO856 := n0_; have HB := n1_; clear n0_ n1_; (try clear hb); (try clear hb2); (try clear hk); (try clear hi); (try clear ho0); obtain ⟨Ao38, co38, eo38⟩ := Kd.R_slice HO856.out; subst eo38) | (go_at_call 28; (with_reducible refine (paymasterref10_Same.calls kj4 _ _ t852 _ _ l0 true _ ?side1 ?side2 ?side3 ?side4 A15.out).mono ?_); (case side1 => repeat (first | exact (Kd.R_reads' HO856.out).2.2 | (with_reducible refine Kd.C_alloc ?_ _) | (with_reducible refine Kd.C_drewN ?_ _) | (with_reducible refine Kd.C_drew ?_))); (case side2 => exact (Kd.R_reads' HO856.out).2.1); (case side3 => repeat (first | exact (Kd.C_below HR0.out HB.out) | (with_reducible refine Kd.C_alloc ?_ _) | (with_reducible refine Kd.C_drewN ?_ _) | (with_reducible refine Kd.C_drew ?_))); (case side4 => exact HC0.out); rintro e w' ⟨rfl, ⟨nd, rfl⟩⟩) | ((with_reducible refine gate_callee (f := 34) rfl ?_); refine goesL_ (some 83) rfl rfl Tryd.func34 (by kernel_rfl) rfl #[.string t838] rfl (by (try simp only [List.map_toArray, List.map_cons, List.map_nil]); first | done | rfl | (simp only [List.length_drop, List.length_take]; rfl)) ?_; (with_reducible refine (lines_All.calls t838 t863 _ ?side1 A17.out).mono ?_); (case side1 => exact gt_below hG (by repeat (first | (with_reducible first | exact HB.out | apply below_alloc | apply pw_below_drewN | apply below_drew1) | exact HB.out))); rintro e w39 ⟨v864, rfl, ho0, hb⟩; refine ⟨_, rfl, ?_⟩; have n0_ := Aside0.mk (Kd.R_below (by (with_reducible repeat (first | apply Kd.R_alloc | apply Kd.R_drewN | apply Kd.R_drew)); exact HO856.out) hb); have n1_ := Aside0.mk (Kd.R_lower ho0 (below_size (by repeat (first | (with_reducible first | exact HB.out | apply below_alloc | apply pw_below_drewN | apply below_drew1) | exact HB.out)))); have n2_ := Aside0.mk (below_step (by repeat (first | (with_reducible first | exact HB.out | apply below_alloc | apply pw_below_drewN | apply below_drew1) | exact HB.out)) hb); clear HO856; clear HB; have HO856 := n0_; have HO865 := n1_; have HB := n2_; clear n0_ n1_ n2_; (try clear hb); (try clear hb2); (try clear hk); (try clear hi); (try clear ho0); obtain ⟨Ao40, co40, eo40⟩ := Kd.R_slice HO865.out; subst eo40; have p867 : 0 ≤ ((ji30) : Int) := of_decide_eq_true (by first | (with_reducible assumption) | assumption); have q867 : (ji30) < (t863.length : Int) := of_decide_eq_true (by first | (with_reducible assumption) | assumption); obtain ⟨ad867, e867, hx867_0, hx867_1, hx867_2, hx867_3⟩ := at_T56 (Kd.R_reads' HO865.out).2.2 (ji30) p867 q867; cases e867; replace p867 := eq_true p867; replace q867 := eq_true q867; have p868 : 0 ≤ (0 : Int) := (by omega); have q868 : 0 < (t863.length : Int) := of_decide_eq_true (by first | (with_reducible assumption) | assumption); obtain ⟨ad868, e868, hx868_0, hx868_1, hx868_2, hx868_3⟩ := at_T56 (Kd.R_reads' HO865.out).2.2 0 p868 q868; obtain rfl : ad867 = ad868 := (by injection e868); have qi868 : (0 < t863.length) = True := eq_true (by omega); (try rw [show ((0 : Int)).toNat = 0 from rfl] at hx868_0); (try rw [show 0 * 4 = 0 from rfl] at hx868_0); (try rw [Addr.add_zero'] at hx868_0); (try rw [show ((0 : Int)).toNat = 0 from rfl] at hx868_1); (try rw [show 0 * 4 = 0 from rfl] at hx868_1); (try rw [Addr.add_zero'] at hx868_1); (try rw [show ((0 : Int)).toNat = 0 from rfl] at hx868_2); (try rw [show 0 * 4 = 0 from rfl] at hx868_2); (try rw [Addr.add_zero'] at hx868_2); (try rw [show ((0 : Int)).toNat = 0 from rfl] at hx868_3); (try rw [show 0 * 4 = 0 from rfl] at hx868_3); (try rw [Addr.add_zero'] at hx868_3); replace p868 := eq_true p868; replace q868 := eq_true q868))
                                go_ret
                                exact ⟨by first | rfl | (simp [errW_none, errW_some] <;> rfl) | (simp only [← hji30]; first | rfl | (simp [errW_none, errW_some] <;> rfl)) | (simp [*, errW_none, errW_some] <;> rfl), by repeat (first | (with_reducible first | exact HB.out | apply below_alloc | apply pw_below_drewN | apply below_drew1) | exact HB.out)⟩
                              · rw [if_neg c35] at H
                                exact absurd H (by simp)
                            · rw [if_neg c34] at H
                              exact absurd H (by simp)
                          · rw [if_neg c33] at H
                            exact absurd H (by simp)
                        · rw [if_neg c32] at H
                          exact absurd H (by simp)
                      · rw [if_neg c31] at H
                        exact absurd H (by simp)
                    · rw [if_neg c29] at H
                      exact absurd H (by simp)
                · replace c16 := Bool.eq_false_iff.mpr c16
                  subst c16
                  have H1 : (none) = some r := by rw [if_neg (show ¬ (false = true) by decide)] at H; exact H
                  clear H
                  have H := H1
                  clear H1
                  exact absurd H (by simp)
              · rw [if_neg c14] at H
                exact absurd H (by simp)
            · rw [if_neg c13] at H
              exact absurd H (by simp)
          · rw [if_neg c11] at H
            have c11b0 : (t839 == 0) = false := beq_eq_false_iff_ne.mpr c11
            have c11b1 : (t839 != 0) = true := bne_iff_ne.mpr c11
            have H' := Aside0.mk H
            clear H
            go_wp2_with (first | ((with_reducible refine gate_callee (f := 52) rfl ?_); refine goesL_ (some 26) rfl rfl Tryd.func52 (by kernel_rfl) rfl #[.slice A0 l0.length c0, .string a1] rfl (by (try simp only [List.map_toArray, List.map_cons, List.map_nil]); first | done | rfl | (simp only [List.length_drop, List.length_take]; rfl)) ?_; (with_reducible refine (row_Write.calls kj4 _ _ l0 a1 t838 t839 _ ?side1 ?side2 ?side3 A10.out).mono ?_); (case side1 => repeat (first | exact (Kd.C_below HR0.out HB.out) | (with_reducible refine Kd.C_alloc ?_ _) | (with_reducible refine Kd.C_drewN ?_ _) | (with_reducible refine Kd.C_drew ?_))); (case side2 => exact HC0.out); (case side3 => exact gt_below hG (by repeat (first | (with_reducible first | exact HB.out | apply below_alloc | apply pw_below_drewN | apply below_drew1) | exact HB.out))); rintro e w41 ⟨rfl, hb⟩; refine ⟨_, rfl, ?_⟩; have n0_ := Aside0.mk (below_step (by repeat (first | (with_reducible first | exact HB.out | apply below_alloc | apply pw_below_drewN | apply below_drew1) | exact HB.out)) hb); clear HB; have HB := n0_; clear n0_; (try clear hb); (try clear hb2); (try clear hk); (try clear hi)))
            go_loopg [7, 8] kj4 (fun kq v7 v8 w' => ∃ (x7_2 : Bool) (x8_2 : Int), v7 = .bool x7_2 ∧ v8 = .int .i64 x8_2 ∧ Aside0 (paymasterlaw10_RowWritten.l0 kq l0 t838 t839 x7_2 x8_2 = some r) ∧ Aside0 (kq ≤ kj4) ∧ Aside0 (Below w.heap.size w w'))
            case atStart => exact ⟨(false), (0), (by first | rfl | (simp; done) | (simp [*]; done)), (by first | rfl | (simp; done) | (simp [*]; done)), H', ⟨Nat.le_refl _⟩, ⟨by repeat (first | (with_reducible first | exact HB.out | apply below_alloc | apply pw_below_drewN | apply below_drew1) | exact HB.out)⟩⟩
            case round =>
              clear H'
              try clear c1
              try clear c2
              try clear p2
              try clear c3
              try clear c4
              try clear c5
              try clear p6
              try clear c8
              try clear p8
              try clear q8
              try clear hx8
              try clear qi8
              try clear c9
              try clear c11
              try clear c11b0
              try clear c11b1
              try clear c13
              try clear c13b0
              try clear c13b1
              try clear c14
              try clear c14b0
              try clear c14b1
              try clear c16
              try clear c18
              try clear c18b0
              try clear c18b1
              try clear c19
              try clear c19b0
              try clear c19b1
              try clear c21
              try clear c21b0
              try clear c22
              try clear c22b0
              try clear c23
              try clear c23b0
              try clear c23b1
              try clear c25
              try clear c26
              try clear c29
              try clear c29b0
              try clear c29b1
              try clear c31
              try clear c31b0
              try clear c32
              try clear c32b0
              try clear c33
              try clear c33b0
              try clear c33b1
              try clear c34
              try clear c34b0
              try clear c34b1
              try clear c35
              try clear c35b0
              try clear c35b1
              try clear c35b2
              try clear hx866_0
              try clear hx866_1
              try clear hx866_2
              try clear hx866_3
              try clear hx867_0
              try clear hx867_1
              try clear hx867_2
              try clear hx867_3
              try clear hx868_0
              try clear hx868_1
              try clear hx868_2
              try clear hx868_3
              try clear p2
              try clear p866
              try clear p867
              try clear p868
              try clear q866
              try clear q867
              try clear q868
              obtain ⟨x7_2, x8_2, rfl, rfl, HA, HK2, HB⟩ := hrel
              cases gk with
              | zero => exact absurd HA.out (by simp [paymasterlaw10_RowWritten.l0])
              | succ k2 =>
                have H := HA.out
                clear HA
                simp only [paymasterlaw10_RowWritten.l0] at H
                by_cases c42 : x8_2 < (l0.length : Int)
                · rw [if_pos c42] at H
                  have c42b0 : decide (x8_2 < (l0.length : Int)) = true := decide_eq_true c42
                  clear c42
                  by_cases c43 : x7_2 = true
                  · subst c43
                    have H1 : (paymasterlaw10_RowWritten.l0 k2 l0 t838 t839 true (wrap64 (x8_2 + 1))) = some r := by rw [if_pos rfl] at H; exact H
                    clear H
                    have H := H1
                    clear H1
                    have H' := Aside0.mk H
                    clear H
                    go_wp2
                    go_roundg k2
                    case measure => have := HJ4.out; have := HK2.out; omega
                    case rel => exact ⟨(true), (wrap64 (x8_2 + 1)), (by first | rfl | (simp; done) | (simp [*]; done)), (by first | rfl | (simp; done) | (simp [*]; done)), H', ⟨by have := HJ4.out; have := HK2.out; omega⟩, ⟨by repeat (first | (with_reducible first | exact HB.out | apply below_alloc | apply pw_below_drewN | apply below_drew1) | exact HB.out)⟩⟩
                  · replace c43 := Bool.eq_false_iff.mpr c43
                    subst c43
                    have H1 : (if 0 ≤ x8_2 then ((tag_MayId.f ((rd_T44 l0 x8_2).f0)).bind fun t851 => (paymasterlaw10_RowWritten.l0 k2 l0 t838 t839 (!t851) (wrap64 (x8_2 + 1)))) else (none)) = some r := by rw [if_neg (show ¬ (false = true) by decide)] at H; exact H
                    clear H
                    have H := H1
                    clear H1
                    by_cases c44 : 0 ≤ x8_2
                    · rw [if_pos c44] at H
                      have c44b0 : decide (0 ≤ x8_2) = true := decide_eq_true c44
                      clear c44
                      replace H := Option.bind_eq_some_iff.mp H
                      obtain ⟨t851, A450, H⟩ := H
                      replace H : (paymasterlaw10_RowWritten.l0 k2 l0 t838 t839 (!t851) (wrap64 (x8_2 + 1))) = some r := H
                      have A45 := Aside0.mk A450
                      clear A450
                      have H' := Aside0.mk H
                      clear H
                      have p850 : 0 ≤ (x8_2 : Int) := of_decide_eq_true (by first | (with_reducible assumption) | assumption)
                      have q850 : x8_2 < (l0.length : Int) := of_decide_eq_true (by first | (with_reducible assumption) | assumption)
                      obtain ⟨ad850, e850, hx850_0, hx850_1, hx850_2⟩ := at_T44 HR0.out x8_2 p850 q850
                      cases e850
                      replace hx850_0 := (HB.out.cell (World.block_lt_of_cell? w _ hx850_0)).trans hx850_0
                      replace hx850_1 := (HB.out.cell (World.block_lt_of_cell? w _ hx850_1)).trans hx850_1
                      replace hx850_2 := (HB.out.cell (World.block_lt_of_cell? w _ hx850_2)).trans hx850_2
                      replace p850 := eq_true p850
                      replace q850 := eq_true q850
                      go_wp2_with (first | (go_at_call 51; (with_reducible refine (tag_MayId.calls ((rd_T44 l0 x8_2).f0) t851 _ ?side1 A45.out).mono ?_); (case side1 => exact gt_below hG (by repeat (first | (with_reducible first | exact HB.out | apply below_alloc | apply pw_below_drewN | apply below_drew1) | exact HB.out))); rintro e w46 ⟨rfl, hb⟩; have n0_ := Aside0.mk (below_step (by repeat (first | (with_reducible first | exact HB.out | apply below_alloc | apply pw_below_drewN | apply below_drew1) | exact HB.out)) hb); clear HB; have HB := n0_; clear n0_; (try clear hb); (try clear hb2); (try clear hk); (try clear hi)))
                      go_roundg k2
                      case measure => have := HJ4.out; have := HK2.out; omega
                      case rel => exact ⟨(!t851), (wrap64 (x8_2 + 1)), (by first | rfl | (simp; done) | (simp [*]; done)), (by first | rfl | (simp; done) | (simp [*]; done)), H', ⟨by have := HJ4.out; have := HK2.out; omega⟩, ⟨by repeat (first | (with_reducible first | exact HB.out | apply below_alloc | apply pw_below_drewN | apply below_drew1) | exact HB.out)⟩⟩
                    · rw [if_neg c44] at H
                      exact absurd H (by simp)
                · rw [if_neg c42] at H
                  have c42b0 : decide (x8_2 < (l0.length : Int)) = false := decide_eq_false c42
                  clear c42
                  by_cases c47 : t838.toList = ([] : List UInt8)
                  · rw [if_pos c47] at H
                    have c47b0 : (t838.toList == ([] : List UInt8)) = true := beq_iff_eq.mpr c47
                    try have c47b9 : (t838.toList.isEmpty) = true := by have e_ := c47b0; simp only [show ∀ l_ : List UInt8, (l_ == []) = l_.isEmpty from fun l_ => by cases l_ <;> rfl] at e_; exact e_
                    have c47b1 : (t838.toList != ([] : List UInt8)) = false := bne_eq_false_iff_eq.mpr c47
                    clear c47
                    by_cases c48 : t839 = 101
                    · rw [if_pos c48] at H
                      have c48b0 : (t839 == 101) = true := beq_iff_eq.mpr c48
                      have c48b1 : (t839 != 101) = false := bne_eq_false_iff_eq.mpr c48
                      clear c48
                      by_cases c49 : x7_2 = true
                      · subst c49
                        have H1 : (some true) = some r := by rw [if_pos rfl] at H; exact H
                        clear H
                        have H := H1
                        clear H1
                        obtain rfl := Option.some.inj H
                        go_wp2
                        go_ret
                        exact ⟨by first | rfl | (simp [errW_none, errW_some] <;> rfl) | (simp [*, errW_none, errW_some] <;> rfl), by repeat (first | (with_reducible first | exact HB.out | apply below_alloc | apply pw_below_drewN | apply below_drew1) | exact HB.out)⟩
                      · replace c49 := Bool.eq_false_iff.mpr c49
                        subst c49
                        have H1 : (if t839 = 91 then (some (!false)) else (none)) = some r := by rw [if_neg (show ¬ (false = true) by decide)] at H; exact H
                        clear H
                        have H := H1
                        clear H1
                        by_cases c50 : t839 = 91
                        · rw [if_pos c50] at H
                          have c50b0 : (t839 == 91) = true := beq_iff_eq.mpr c50
                          have c50b1 : (t839 != 91) = false := bne_eq_false_iff_eq.mpr c50
                          clear c50
                          obtain rfl := Option.some.inj H
                          go_wp2
                          go_ret
                          exact ⟨by first | rfl | (simp [errW_none, errW_some] <;> rfl) | (simp [*, errW_none, errW_some] <;> rfl), by repeat (first | (with_reducible first | exact HB.out | apply below_alloc | apply pw_below_drewN | apply below_drew1) | exact HB.out)⟩
                        · rw [if_neg c50] at H
                          exact absurd H (by simp)
                    · rw [if_neg c48] at H
                      have c48b0 : (t839 == 101) = false := beq_eq_false_iff_ne.mpr c48
                      have c48b1 : (t839 != 101) = true := bne_iff_ne.mpr c48
                      by_cases c51 : t839 = 91
                      · rw [if_pos c51] at H
                        have c51b0 : (t839 == 91) = true := beq_iff_eq.mpr c51
                        have c51b1 : (t839 != 91) = false := bne_eq_false_iff_eq.mpr c51
                        clear c51
                        obtain rfl := Option.some.inj H
                        go_wp2
                        go_ret
                        exact ⟨by first | rfl | (simp [errW_none, errW_some] <;> rfl) | (simp [*, errW_none, errW_some] <;> rfl), by repeat (first | (with_reducible first | exact HB.out | apply below_alloc | apply pw_below_drewN | apply below_drew1) | exact HB.out)⟩
                      · rw [if_neg c51] at H
                        exact absurd H (by simp)
                  · rw [if_neg c47] at H
                    exact absurd H (by simp)
  · replace c4 := Bool.eq_false_iff.mpr c4
    subst c4
    have H1 : (none) = some r := by rw [if_neg (show ¬ (false = true) by decide)] at H; exact H
    clear H
    have H := H1
    clear H1
    exact absurd H (by simp)
end Go.Proofs.YtpkjpiphjdpegaaDoor.P
namespace Go.Proofs.YtpkjpiphjdpegaaDoor.P
open Go.RowKit Go.Proofs.YtpkjpiphjdpegaaDoorW.PrintWords Go.Proofs.YtpkjpiphjdpegaaDoorW.PrintLast Go.Proofs.YtpkjpiphjdpegaaDoorW.PrintMore
set_option linter.unusedVariables false
set_option linter.unusedSimpArgs false
theorem long_l0 (l : List S44) (hl : l.length ≤ 200) (k : Nat) : ∀ (t i : Nat), i + t = l.length → ∃ b, paymasterlaw10_Long.l0 (k + 1 + t) l (i : Int) = some b ∧ (b = false → ∀ y ∈ l.drop i, y.f0.size ≤ 200)
  | 0, i, h => by
    refine ⟨false, ?_, fun _ => ?_⟩
    · show paymasterlaw10_Long.l0 (k + 1) _ _ = _
      rw [paymasterlaw10_Long.l0, if_neg (by omega)]
    · obtain rfl : i = l.length := by omega
      rw [List.drop_length]; simp
  | t + 1, i, h => by
    have hi : i < l.length := by omega
    have nx : l.drop i = l[i] :: l.drop (i + 1) := List.drop_eq_getElem_cons hi
    have w1 : wrap64 ((i : Int) + 1) = ((i + 1 : Nat) : Int) := by rw [wrapI _ (by omega) (by omega)]; push_cast; rfl
    rw [show k + 1 + (t + 1) = (k + 1 + t) + 1 by omega, paymasterlaw10_Long.l0, if_pos (show (i : Int) < (l.length : Int) by omega), if_pos (show (0 : Int) ≤ (i : Int) by omega), rd44 l i hi]
    by_cases c : (l[i].f0.size : Int) > 200
    · rw [if_pos c]
      exact ⟨true, rfl, fun e => by cases e⟩
    · rw [if_neg c, w1]
      obtain ⟨b, h1, h2⟩ := long_l0 l hl k t (i + 1) (by omega)
      refine ⟨b, h1, fun e y hy => ?_⟩
      rw [nx] at hy
      rcases List.mem_cons.1 hy with rfl | hy
      · omega
      · exact h2 e y hy
theorem long_is (l : List S44) (k : Nat) (hk : 300 ≤ k) : ∃ b, paymasterlaw10_Long.f k l = some b ∧ (b = false → l.length ≤ 200 ∧ ∀ y ∈ l, y.f0.size ≤ 200) := by
  unfold paymasterlaw10_Long.f
  by_cases c : (l.length : Int) > 200
  · rw [if_pos c]
    exact ⟨true, rfl, fun e => by cases e⟩
  · rw [if_neg c]
    obtain ⟨b, h1, h2⟩ := long_l0 l (by omega) (k - 1 - l.length) l.length 0 (by omega)
    rw [show k - 1 - l.length + 1 + l.length = k by omega] at h1
    exact ⟨b, h1, fun e => ⟨by omega, h2 e⟩⟩
theorem written_l0 (l : List S44) (hl : l.length ≤ 200) (hg : ∀ y ∈ l, rowOk y) (x5 : ByteArray) (x6 : Int) (k : Nat) : ∀ (t i : Nat) (b : Bool), i + t = l.length →
    paymasterlaw10_RowWritten.l0 (k + 1 + t) l x5 x6 b (i : Int) = paymasterlaw10_RowWritten.l0 (k + 1) l x5 x6 (b || (l.drop i).any noId) (l.length : Int)
  | 0, i, b, h => by
    obtain rfl : i = l.length := by omega
    rw [List.drop_length, List.any_nil, Bool.or_false]
  | t + 1, i, b, h => by
    have hi : i < l.length := by omega
    have nx : l.drop i = l[i] :: l.drop (i + 1) := List.drop_eq_getElem_cons hi
    have hm : l[i] ∈ l := List.getElem_mem hi
    obtain ⟨g1, g2, g3⟩ := hg _ hm
    have w1 : wrap64 ((i : Int) + 1) = ((i + 1 : Nat) : Int) := by rw [wrapI _ (by omega) (by omega)]; push_cast; rfl
    conv => lhs; rw [show k + 1 + (t + 1) = (k + 1 + t) + 1 by omega, paymasterlaw10_RowWritten.l0, if_pos (show (i : Int) < (l.length : Int) by omega), if_pos (show (0 : Int) ≤ (i : Int) by omega), rd44 l i hi, mayId_f _ (by omega), Option.bind_some, w1]
    rw [nx, List.any_cons, written_l0 l hl hg x5 x6 k t (i + 1) _ (by omega), written_l0 l hl hg x5 x6 k t (i + 1) _ (by omega)]
    cases b with
    | true => rw [if_pos rfl, Bool.true_or, Bool.true_or]
    | false =>
      rw [if_neg (by decide), Bool.false_or]
      rfl
theorem rowWritten_j0 (l : List S44) (hl : l.length ≤ 200) (hg : ∀ y ∈ l, rowOk y) (s : ByteArray) (hs : s.size ≤ 500) (k : Nat) (hk : 2000 ≤ k) : paymasterlaw10_RowWritten.j0 (k + 1) l s false = some true := by
  rw [paymasterlaw10_RowWritten.j0, if_neg (by decide), write_is l (by omega) hg s (by omega) k (by omega), Option.bind_some]
  have LP : ∀ x : Int, paymasterlaw10_RowWritten.l0 k l (⟨#[]⟩ : ByteArray) x false 0 = paymasterlaw10_RowWritten.l0 (k - 1 - l.length + 1) l (⟨#[]⟩ : ByteArray) x (l.any noId) (l.length : Int) := by
    intro x
    have := written_l0 l hl hg (⟨#[]⟩ : ByteArray) x (k - 1 - l.length) l.length 0 false (by omega)
    rw [show k - 1 - l.length + 1 + l.length = k by omega, Bool.false_or, List.drop_zero] at this
    exact this
  unfold writeOf
  by_cases c : l.any noId = true
  · rw [if_pos c]
    dsimp only
    rw [if_neg (by decide), LP, c, paymasterlaw10_RowWritten.l0, if_neg (by omega), if_pos (by rw [toList_eq]), if_pos rfl, if_pos rfl]
  · rw [if_neg c]
    by_cases ok : remOk s
    · have hm := row_ids l c
      have W := write_rows l (by omega) hg hm s (by omega) ok
      have S := write_split l (by omega) hg hm s (by omega) ok
      have Z := write_size l (by omega) hg hm s (by omega)
      rw [if_pos ok]
      dsimp only
      generalize joinL ((preL s ++ l.map lineR) ++ [mk []]) = T at W S Z ⊢
      have rf : row_All.f T = some (l, 0, 0) := by
        unfold row_All.f
        rw [if_pos (by omega), W]
      rw [if_pos rfl, rf, Option.bind_some]
      dsimp only
      rw [if_pos rfl, if_pos rfl, same44_is l (by omega) k (by omega), Option.bind_some, if_pos rfl, all_f T (by omega), Option.bind_some]
      unfold allL
      rw [S, linesL_len]
      have w1 : wrap64 ((l.length : Int) + 1) = ((l.length + 1 : Nat) : Int) := by rw [wrapI _ (by omega) (by omega)]; push_cast; rfl
      have w2 : wrap64 (((l.length + 1 : Nat) : Int) - 1) = (l.length : Int) := by rw [wrapI _ (by omega) (by omega)]; push_cast; omega
      have w3 : wrap64 (((l.length + 1 : Nat) : Int) + 1) = ((l.length + 2 : Nat) : Int) := by rw [wrapI _ (by omega) (by omega)]; push_cast; omega
      have w4 : wrap64 (((l.length + 2 : Nat) : Int) - 1) = ((l.length + 1 : Nat) : Int) := by rw [wrapI _ (by omega) (by omega)]; push_cast; omega
      have gl : ∀ X : List (List UInt8), (X ++ [[]]).getD X.length [] = [] := by
        intro X
        rw [List.getD_eq_getElem?_getD, List.getElem?_append_right (Nat.le_refl _), Nat.sub_self]
        rfl
      by_cases z : s.data.toList = []
      · have pe : preL s = [] := by unfold preL; rw [if_pos z]
        have r := rd_line (l.map (fun y => (lineR y).data.toList) ++ [[]]) l.length (by rw [List.length_append, List.length_map, List.length_singleton]; omega)
        have g := gl (l.map (fun y => (lineR y).data.toList))
        rw [List.length_map] at g
        rw [pe, List.map_nil, List.nil_append, List.length_append, List.length_map, List.length_singleton, if_pos (by rw [toList_eq]; exact z), w1, w2, if_pos rfl, if_pos (by omega), if_pos (by omega), r, g, if_pos (by show (mk []).toList = []; rw [toList_eq, mk_list])]
      · have pe : preL s = [mk (remL s)] := by unfold preL; rw [if_neg z]
        have r := rd_line (remL s :: (l.map (fun y => (lineR y).data.toList) ++ [[]])) (l.length + 1) (by rw [List.length_cons, List.length_append, List.length_map, List.length_singleton]; omega)
        have r0 := rd_line (remL s :: (l.map (fun y => (lineR y).data.toList) ++ [[]])) 0 (by simp)
        rw [show ((0 : Nat) : Int) = 0 from rfl] at r0
        have g := gl (l.map (fun y => (lineR y).data.toList))
        rw [List.length_map] at g
        rw [List.getD_cons_succ, g] at r
        rw [List.getD_cons_zero] at r0
        rw [pe, List.map_cons, List.map_nil, mk_list, List.cons_append, List.nil_append, List.length_cons, List.length_append, List.length_map, List.length_singleton, if_neg (by rw [toList_eq]; exact z), w1, w3, w4, if_pos rfl, if_pos (by omega), if_pos (by omega), r, if_pos (by show (mk []).toList = []; rw [toList_eq, mk_list]), if_pos (by omega), if_pos (by omega), r0, rem_is]
        show some ((mk (remL s)).toList == (mk (remL s)).toList) = some true
        simp
    · rw [if_neg ok]
      have cf : l.any noId = false := by simpa using c
      dsimp only
      rw [if_neg (by decide), LP, cf, paymasterlaw10_RowWritten.l0, if_neg (by omega), if_pos (by rw [toList_eq]), if_neg (by decide), if_pos rfl]
      rfl
theorem rowWritten_pure (l : List S44) (s : ByteArray) (hg : ∀ y ∈ l, U64 y.f1.f0 ∧ U64 y.f1.f1) : ∃ k, paymasterlaw10_RowWritten.f k l s = some true := by
  refine ⟨3001, ?_⟩
  unfold paymasterlaw10_RowWritten.f
  rw [awake10_up _ (by omega), Option.bind_some, if_pos rfl]
  obtain ⟨b, h1, h2⟩ := long_is l 3001 (by omega)
  rw [h1, Option.bind_some]
  cases b with
  | true => rw [if_pos rfl, paymasterlaw10_RowWritten.j0, if_pos rfl]
  | false =>
    obtain ⟨h3, h4⟩ := h2 rfl
    rw [if_neg (by decide)]
    by_cases c : (s.size : Int) > 500
    · rw [decide_eq_true c, paymasterlaw10_RowWritten.j0, if_pos rfl]
    · rw [decide_eq_false c]
      exact rowWritten_j0 l h3 (fun y hy => ⟨by have := h4 y hy; omega, hg y hy⟩) s (by omega) 3000 (by omega)
theorem rowWritten_walk {w : World} (A0 : Option Addr) (c0 : Nat) (l0 : List S44) (hr0 : k44.C w A0 l0.length l0) (hc0 : l0.length ≤ c0) (g0 : ∀ y ∈ l0, y.f0.size ≤ 9223372036854775807 ∧ U64 y.f1.f0 ∧ U64 y.f1.f1) (a1 : ByteArray) (g1 : a1.size ≤ 9223372036854775807) (hG : GT w) :
    Calls Tryd.prog 14 #[.slice A0 l0.length c0, .string a1] w fun e w' => e = .returned (.bool true) ∧ Below w.heap.size w w' := by
  obtain ⟨k, hk⟩ := rowWritten_pure l0 a1 fun y hy => (g0 y hy).2
  exact paymasterlaw10_RowWritten.calls k A0 c0 l0 a1 true w hr0 hc0 hG hk
end Go.Proofs.YtpkjpiphjdpegaaDoor.P
namespace Go.Proofs.YtpkjpiphjdpegaaDoor.rowWritten
open Go.ChangeShapes Go.WideShapes Go.ChangeAt Go.RowKit Go.Proofs.YtpkjpiphjdpegaaDoor.P
open Go.ChangeMaps (open_string shut_string)
set_option linter.unusedVariables false
set_option maxRecDepth 100000 in
theorem lifted (os : Os) (started : os.Started) (H : Type) (enc : TypeId × Value → H) :
    ReturnsInHanded {} Tryd.checked os 14 .any (fun w args => (Rows.rowWrittenSpec.pre enc Tryd.prog Tryd.f14 Rows.rowWrittenRow.domain false w args ∧ laidMetH Tryd.prog laid w) ∧ sizedMet enc Tryd.prog Tryd.f14 (OpenSpec.ofChange Rows.rowWrittenSpec) false w args) (Rows.rowWrittenSpec.post enc Tryd.prog Tryd.f14 false true false false) := by
  refine returnsInHanded_of_change_and (C := Tryd.checked) (X := fun w _ => laidMetH Tryd.prog laid w) (fun _ _ _ hh h => h.of_heap hh) own started (by kernel_rfl) Tryd.func14
    (ChangeSpec.witness_shaped (enc := enc) (C := Tryd.checked) (os := os) (X := fun w _ => laidMetH Tryd.prog laid w) false (World.laidAll Tryd.prog os laid) #[.slice none 0 0, .string ByteArray.empty] 8 (World.laidAll_os _ _ _) (World.shaped_of_ZipB (by kernel_rfl) (by kernel_rfl)) (by kernel_rfl) (by kernel_rfl) (by kernel_rfl) (laid_met os _)) ?_
  intro W base args ds gs before hval0 hW _ _ hL _
  have hval : ∀ (j : Nat) t v, Tryd.f14.params[j]? = some t → args[j]? = some v → Value.okWide Tryd.prog W .any base t v := hval0
  have hW' := hW
  obtain ⟨p, q, hA0, hV, rfl, hfz, hnd⟩ := hW
  have hA : DataW.TrodAll enc Tryd.prog W 0 (fun _ => true) true Tryd.f14.params.toList args.toList ds p := hA0
  rw [Tryd.params14] at hA hval
  have hAll := hA
  obtain ⟨v0, vs0, d0, ds0, p0, q0, hargs, rfl, rfl, h0, r0⟩ := trodAll_cons hA
  obtain ⟨v1, vs1, d1, ds1, p1, q1, rfl, rfl, rfl, h1, r1⟩ := trodAll_cons r0
  obtain ⟨rfl, rfl, rfl⟩ := trodAll_nil r1
  obtain rfl : args = #[v0, v1] := by cases args; simp_all
  obtain ⟨rfl, rfl⟩ := trodVars_none hV
  obtain ⟨A0, c0, l0, rfl, hc0, hr0, g0⟩ := arg_row44 (hval 0 34 v0 rfl rfl) h0
  obtain ⟨a1, rfl, g1⟩ := arg_string (hval 1 9 v1 rfl rfl) h1
  clear hA0 hval0
  refine (rowWritten_walk (w := W) A0 c0 l0 hr0 hc0 g0 a1 g1 (gt_of hL)).mono fun e W' ⟨he, bel⟩ => ?_
  subst he
  exact ⟨_, rfl, _, _, _, [], _, [], hW', trodAll_mk1 (shut_bool Tryd.underlying4 _), args_back laidOut bel (by kernel_rfl) hAll, rfl, bel.frame _, fun h => by cases h⟩
theorem both {a b : Bool} (h : a = true) (k : b = true) : (a && b) = true := by rw [h, k]; rfl
theorem c0 : (Rows.rowWrittenRow.wf (OpenSpec.ofChange Rows.rowWrittenSpec)) = true := by kernel_rfl
theorem c1 : (laidOutB Tryd.prog) = true := by kernel_rfl
theorem c2 : (mapsRowed Tryd.prog) = true := by kernel_rfl
theorem c3 : (Tryd.f14.params.all (Tryd.prog.readableRec ·)) = true := by kernel_rfl
theorem c4 : (namedTie Tryd.prog Rows.rowWrittenRow.named Rows.rowWrittenSpec.vars) = true := by kernel_rfl
theorem c5 : ((Rows.rowWrittenRow.stops == [])) = true := by kernel_rfl
theorem c6 : ((Tryd.prog.stops == [])) = true := by kernel_rfl
theorem c7 : ((Rows.rowWrittenRow.knobs == [])) = true := by kernel_rfl
theorem c8 : ((Tryd.prog.stopKnobs == [])) = true := by kernel_rfl
theorem c9 : ((Rows.rowWrittenRow.inPlace == Tryd.prog.inPlace 14)) = true := by kernel_rfl
theorem c10 : ((Rows.rowWrittenRow.unfollowed == Tryd.prog.unfollowed 14)) = true := by kernel_rfl
theorem c11 : ((Rows.rowWrittenRow.recurses == Tryd.prog.recurses 14)) = true := by kernel_rfl
theorem c12 : ((Rows.rowWrittenRow.named == Tryd.prog.varsNamed 14)) = true := by kernel_rfl
theorem c13 : ((Rows.rowWrittenRow.maps == (Tryd.f14.params.toList ++ Rows.rowWrittenSpec.plain.varTypes Tryd.prog).any (Tryd.prog.mapsRec ·))) = true := by kernel_rfl
theorem c14 : ((Rows.rowWrittenRow.ifaces == (Tryd.f14.params.toList ++ Rows.rowWrittenSpec.plain.varTypes Tryd.prog).any (Tryd.prog.ifacesRec ·))) = true := by kernel_rfl
theorem c15 : ((Rows.rowWrittenRow.mapsOut == Tryd.prog.mapsAmong Tryd.f14.resultTypes.toList)) = true := by kernel_rfl
theorem c16 : ((Rows.rowWrittenRow.loops == (Tryd.f14.params.toList ++ Rows.rowWrittenSpec.plain.varTypes Tryd.prog).any (Tryd.prog.loopsFrom ·))) = true := by kernel_rfl
theorem c17 : ((Rows.rowWrittenRow.wideKeys == (Tryd.f14.params.toList ++ Rows.rowWrittenSpec.plain.varTypes Tryd.prog ++ Tryd.f14.resultTypes.toList).any (Tryd.prog.wideKeysFrom ·))) = true := by kernel_rfl
theorem c18 : (Rows.rowWrittenSpec.vars.all (Tryd.prog.varReadable ·)) = true := by kernel_rfl
theorem c19 : (Tryd.f14.resultTypes.all (fun t => Tryd.prog.readableRec t && decide (t < Tryd.prog.types.size))) = true := by kernel_rfl
theorem c20 : ((Rows.rowWrittenRow.ifacesOut == Tryd.f14.resultTypes.toList.any (Tryd.prog.ifacesRec ·))) = true := by kernel_rfl
theorem c21 : ((Rows.rowWrittenRow.loopsOut == Tryd.f14.resultTypes.toList.any (Tryd.prog.loopsFrom ·))) = true := by kernel_rfl
theorem c22 : ((Rows.rowWrittenRow.plainKeys == Tryd.prog.plainKeys)) = true := by kernel_rfl
theorem c23 : (Rows.rowWrittenRow.shortTexts.isNone) = true := by kernel_rfl
theorem c24 : (Tryd.prog.stopsHeard) = true := by kernel_rfl
theorem c25 : (Tryd.prog.mayEnter) = true := Facts.mayEnter
theorem c26 : ((Rows.rowWrittenRow.lifted == Tryd.prog.liftsFinal)) = true := by rw [Facts.liftsFinal]; kernel_rfl
theorem c27 : ((Tryd.prog.make == some Rows.rowWrittenRow.make)) = true := by rw [Facts.make]; kernel_rfl
theorem c28 : ((Rows.rowWrittenRow.kinds == (if Rows.rowWrittenRow.domain.isEmpty then [] else Tryd.f14.params.toList.map fun t => match Tryd.prog.underlying t with | some (.int k) => some k | _ => none))) = true := by kernel_rfl
theorem c29 : ((Rows.rowWrittenRow.pinned == Rows.rowWrittenRow.pinnedBy)) = true := by kernel_rfl
theorem c30 : ((Rows.rowWrittenRow.veiled == (Tryd.f14.params.toList ++ Rows.rowWrittenSpec.plain.varTypes Tryd.prog ++ Tryd.f14.resultTypes.toList).any (Tryd.prog.veiledRec ·))) = true := by kernel_rfl
theorem c31 : (Rows.rowWrittenRow.veiledFits Tryd.prog Tryd.f14.params.toList (Tryd.f14.params.toList ++ Rows.rowWrittenSpec.plain.varTypes Tryd.prog ++ Tryd.f14.resultTypes.toList)) = true := by kernel_rfl
set_option maxRecDepth 100000 in
theorem closed : joinedFacts Tryd.prog 14 Tryd.f14 Rows.rowWrittenSpec Rows.rowWrittenRow = true := by
  unfold joinedFacts
  exact both (both (both (both (both (both (both (both (both (both (both (both (both (both (both (both (both (both (both (both (both (both (both (both (both (both (both (both (both (both (both (c0) c1) c2) c3) c4) c5) c6) c7) c8) c9) c10) c11) c12) c13) c14) c15) c16) c17) c18) c19) c20) c21) c22) c23) c24) c25) c26) c27) c28) c29) c30) c31
theorem over : Rows.rowWrittenRow.holds Tryd.pinned (OpenSpec.ofChange Rows.rowWrittenSpec) :=
  OpenClaim.holds_of_wide 14 Tryd.f14 rfl rfl rfl rfl rfl rfl rfl ⟨rfl, rfl, rfl, rfl, rfl⟩ rfl rfl rfl rfl rfl (by kernel_rfl) Tryd.func14 closed
    (of_decide_eq_true (by kernel_rfl)) (by unfold Func.isWrapper; first | (rw [if_pos (by decide +kernel)]; kernel_rfl) | (rw [if_neg (by decide +kernel)]; exact ⟨rfl, rfl⟩))
    (fun os started H enc _ => lifted os started H enc)
end Go.Proofs.YtpkjpiphjdpegaaDoor.rowWritten
namespace Go.Proofs.YtpkjpiphjdpegaaDoor
theorem rowWritten_row_holds : Rows.RowWrittenSaid := rowWritten.over
theorem rowWritten_holds : Rows.RowWrittenCardSaid :=
  Claim7.holds_tied_plain_at .later [] [.data, .pinned] true (true, "8ed4f517d9b640979c9642b29f1471ad540af19eb7dd2a85df80f51153cdfa49") false
    rowWritten_row_holds (fun _ h => by cases h) (by kernel_rfl) (fun _ h => by cases h) rowWritten_row_tie rfl ⟨rfl, rfl⟩ Facts.mainIs rfl
    (fun f fn hf hfn => by
      obtain rfl : f = 14 := Option.some.inj ((show Tryd.prog.funcNamed "paymaster/paymasterlaw10.RowWritten" = some 14 by kernel_rfl).symm.trans hf) |>.symm
      obtain rfl : fn = Tryd.f14 := (Option.some.inj (Tryd.func14.symm.trans hfn)).symm
      exact ⟨by kernel_rfl, fun j t ht => by
        rw [Tryd.params14] at ht
        have hm : t ∈ [34, 9] := by simpa using Array.mem_of_getElem? ht
        have hall : ([34, 9].all fun u => !Tryd.prog.wantsStandIn u) = true := by kernel_rfl
        exact (show Tryd.prog.wantsStandIn t = false by simpa using List.all_eq_true.1 hall t hm)⟩)
    (by kernel_rfl)
end Go.Proofs.YtpkjpiphjdpegaaDoor
