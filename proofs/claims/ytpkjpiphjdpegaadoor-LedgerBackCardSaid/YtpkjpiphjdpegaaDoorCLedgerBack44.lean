/- A program of this session wrote this text out of the session's own texts. (part 44 of 46) -/
import Derived.Test.YtpkjpiphjdpegaaDoorCLedgerBack4
import Derived.Test.YtpkjpiphjdpegaaDoorCLedgerBack15
import Derived.Test.YtpkjpiphjdpegaaDoorCLedgerBack26
import Derived.Test.YtpkjpiphjdpegaaDoorCLedgerBack27
import Derived.Test.YtpkjpiphjdpegaaDoorCLedgerBack34
import Derived.Test.YtpkjpiphjdpegaaDoorCLedgerBack40
import Derived.Test.YtpkjpiphjdpegaaDoorCLedgerBack41
import Derived.Test.YtpkjpiphjdpegaaDoorCLedgerBack42
namespace Go.Proofs.YtpkjpiphjdpegaaDoor.P
open Go.RowKit Go.Proofs.YtpkjpiphjdpegaaDoorW.PrintWords Go.Proofs.YtpkjpiphjdpegaaDoorW.PrintLast Go.Proofs.YtpkjpiphjdpegaaDoorW.PrintMore
attribute [local go_sem] max2_int min2_int max_two min_two max_three min_three max_four min_four
set_option linter.unusedVariables false
set_option linter.unusedSimpArgs false
def paymasterlaw11_LedgerBack.f (k : Nat) (l0 : List (S44)) (a1 : Int) : Option (Bool) := (paymasterlaw11_awake.f k).bind fun t1237 => (if t1237 = true then ((paymasterlaw10_Long.f k l0).bind fun t1254 => (if t1254 = true then (some true) else ((ledger_Check.f l0 a1).bind fun bt1270 => ((ledger_Export.f k l0).bind fun bt1272 => (if bt1270.2 = 0 then ((ledger_Import.f bt1272.1 a1).bind fun bt1285 => (if bt1272.2 = 0 then (if bt1285.2.2 = 0 then (if bt1285.2.1 = 0 then ((row_Sort.f l0).bind fun t1290 => ((paymasterref10_Same.f k bt1285.1 t1290).bind fun t1293 => (if t1293 = true then ((ledger_Export.f k bt1285.1).bind fun bt1294 => (if bt1294.2 = 0 then (some (bt1294.1.toList == bt1272.1.toList)) else (none))) else (none)))) else (none)) else (none)) else (none))) else (if ((bt1270.1 == 0) == (bt1270.2 == 120)) = true then (some (decide (bt1270.1 ≤ (l0.length : Int)))) else (none))))))) else (none))
set_option maxHeartbeats 8000000 in
set_option maxRecDepth 100000 in
theorem paymasterlaw11_LedgerBack.calls (k : Nat) (A0 : Option Addr) (c0 : Nat) (l0 : List (S44)) (a1 : Int) (r : Bool) (w : World) (hr0 : Kd.C k44 w A0 l0.length l0) (hc0 : l0.length ≤ c0) (hG : GT w) (h : paymasterlaw11_LedgerBack.f k l0 a1 = some r) :
    Calls Tryd.prog 5 #[.slice A0 l0.length c0, .int .i64 a1] w fun e w' => e = .returned (.bool r) ∧ Below w.heap.size w w' := by
  have HR0 := Aside0.mk hr0
  have HC0 := Aside0.mk hc0
  clear hr0 hc0
  have HB := Aside0.mk (Below.refl w.heap.size w)
  have H : ((paymasterlaw11_awake.f k).bind fun t1237 => (if t1237 = true then ((paymasterlaw10_Long.f k l0).bind fun t1254 => (if t1254 = true then (some true) else ((ledger_Check.f l0 a1).bind fun bt1270 => ((ledger_Export.f k l0).bind fun bt1272 => (if bt1270.2 = 0 then ((ledger_Import.f bt1272.1 a1).bind fun bt1285 => (if bt1272.2 = 0 then (if bt1285.2.2 = 0 then (if bt1285.2.1 = 0 then ((row_Sort.f l0).bind fun t1290 => ((paymasterref10_Same.f k bt1285.1 t1290).bind fun t1293 => (if t1293 = true then ((ledger_Export.f k bt1285.1).bind fun bt1294 => (if bt1294.2 = 0 then (some (bt1294.1.toList == bt1272.1.toList)) else (none))) else (none)))) else (none)) else (none)) else (none))) else (if ((bt1270.1 == 0) == (bt1270.2 == 120)) = true then (some (decide (bt1270.1 ≤ (l0.length : Int)))) else (none))))))) else (none))) = some r := h
  clear h
  replace H := Option.bind_eq_some_iff.mp H
  obtain ⟨t1237, A30, H⟩ := H
  replace H : (if t1237 = true then ((paymasterlaw10_Long.f k l0).bind fun t1254 => (if t1254 = true then (some true) else ((ledger_Check.f l0 a1).bind fun bt1270 => ((ledger_Export.f k l0).bind fun bt1272 => (if bt1270.2 = 0 then ((ledger_Import.f bt1272.1 a1).bind fun bt1285 => (if bt1272.2 = 0 then (if bt1285.2.2 = 0 then (if bt1285.2.1 = 0 then ((row_Sort.f l0).bind fun t1290 => ((paymasterref10_Same.f k bt1285.1 t1290).bind fun t1293 => (if t1293 = true then ((ledger_Export.f k bt1285.1).bind fun bt1294 => (if bt1294.2 = 0 then (some (bt1294.1.toList == bt1272.1.toList)) else (none))) else (none)))) else (none)) else (none)) else (none))) else (if ((bt1270.1 == 0) == (bt1270.2 == 120)) = true then (some (decide (bt1270.1 ≤ (l0.length : Int)))) else (none))))))) else (none)) = some r := H
  have A3 := Aside0.mk A30
  clear A30
  by_cases c4 : t1237 = true
  · subst c4
    have H1 : ((paymasterlaw10_Long.f k l0).bind fun t1254 => (if t1254 = true then (some true) else ((ledger_Check.f l0 a1).bind fun bt1270 => ((ledger_Export.f k l0).bind fun bt1272 => (if bt1270.2 = 0 then ((ledger_Import.f bt1272.1 a1).bind fun bt1285 => (if bt1272.2 = 0 then (if bt1285.2.2 = 0 then (if bt1285.2.1 = 0 then ((row_Sort.f l0).bind fun t1290 => ((paymasterref10_Same.f k bt1285.1 t1290).bind fun t1293 => (if t1293 = true then ((ledger_Export.f k bt1285.1).bind fun bt1294 => (if bt1294.2 = 0 then (some (bt1294.1.toList == bt1272.1.toList)) else (none))) else (none)))) else (none)) else (none)) else (none))) else (if ((bt1270.1 == 0) == (bt1270.2 == 120)) = true then (some (decide (bt1270.1 ≤ (l0.length : Int)))) else (none))))))) = some r := by rw [if_pos rfl] at H; exact H
    clear H
    have H := H1
    clear H1
    replace H := Option.bind_eq_some_iff.mp H
    obtain ⟨t1254, A50, H⟩ := H
    replace H : (if t1254 = true then (some true) else ((ledger_Check.f l0 a1).bind fun bt1270 => ((ledger_Export.f k l0).bind fun bt1272 => (if bt1270.2 = 0 then ((ledger_Import.f bt1272.1 a1).bind fun bt1285 => (if bt1272.2 = 0 then (if bt1285.2.2 = 0 then (if bt1285.2.1 = 0 then ((row_Sort.f l0).bind fun t1290 => ((paymasterref10_Same.f k bt1285.1 t1290).bind fun t1293 => (if t1293 = true then ((ledger_Export.f k bt1285.1).bind fun bt1294 => (if bt1294.2 = 0 then (some (bt1294.1.toList == bt1272.1.toList)) else (none))) else (none)))) else (none)) else (none)) else (none))) else (if ((bt1270.1 == 0) == (bt1270.2 == 120)) = true then (some (decide (bt1270.1 ≤ (l0.length : Int)))) else (none)))))) = some r := H
    have A5 := Aside0.mk A50
    clear A50
    by_cases c6 : t1254 = true
    · subst c6
      have H1 : (some true) = some r := by rw [if_pos rfl] at H; exact H
      clear H
      have H := H1
      clear H1
      obtain rfl := Option.some.inj H
      go_enter Tryd.func5, Tryd.ntmps5
      go_wp2_with (first | ((with_reducible refine gate_callee (f := 29) rfl ?_); refine goesL_ (some 14) rfl rfl Tryd.func29 (by kernel_rfl) rfl #[] rfl (by (try simp only [List.map_toArray, List.map_cons, List.map_nil]); first | done | rfl | (simp only [List.length_drop, List.length_take]; rfl)) ?_; (with_reducible refine (paymasterlaw11_awake.calls k  true _ ?side1 A3.out).mono ?_); (case side1 => exact gt_below hG (by repeat (first | (with_reducible first | exact HB.out | apply below_alloc | apply pw_below_drewN | apply below_drew1) | exact HB.out))); rintro e w7 ⟨rfl, hb⟩; refine ⟨_, rfl, ?_⟩; have n0_ := Aside0.mk (below_step (by repeat (first | (with_reducible first | exact HB.out | apply below_alloc | apply pw_below_drewN | apply below_drew1) | exact HB.out)) hb); clear HB; have HB := n0_; clear n0_; (try clear hb); (try clear hb2); (try clear hk); (try clear hi)) | ((with_reducible refine gate_callee (f := 26) rfl ?_); refine goesL_ (some 17) rfl rfl Tryd.func26 (by kernel_rfl) rfl #[.slice A0 l0.length c0] rfl (by (try simp only [List.map_toArray, List.map_cons, List.map_nil]); first | done | rfl | (simp only [List.length_drop, List.length_take]; rfl)) ?_; (with_reducible refine (paymasterlaw10_Long.calls k _ _ l0 true _ ?side1 ?side2 A5.out).mono ?_); (case side1 => repeat (first | exact (Kd.C_below HR0.out HB.out) | (with_reducible refine Kd.C_alloc ?_ _) | (with_reducible refine Kd.C_drewN ?_ _) | (with_reducible refine Kd.C_drew ?_))); (case side2 => exact HC0.out); rintro e w' ⟨rfl, ⟨nd, rfl⟩⟩; refine ⟨_, rfl, ?_⟩))
      go_ret
      exact ⟨by first | rfl | (simp [errW_none, errW_some] <;> rfl) | (simp [*, errW_none, errW_some] <;> rfl), by repeat (first | (with_reducible first | exact HB.out | apply below_alloc | apply pw_below_drewN | apply below_drew1) | exact HB.out)⟩
    · replace c6 := Bool.eq_false_iff.mpr c6
      subst c6
      have H1 : ((ledger_Check.f l0 a1).bind fun bt1270 => ((ledger_Export.f k l0).bind fun bt1272 => (if bt1270.2 = 0 then ((ledger_Import.f bt1272.1 a1).bind fun bt1285 => (if bt1272.2 = 0 then (if bt1285.2.2 = 0 then (if bt1285.2.1 = 0 then ((row_Sort.f l0).bind fun t1290 => ((paymasterref10_Same.f k bt1285.1 t1290).bind fun t1293 => (if t1293 = true then ((ledger_Export.f k bt1285.1).bind fun bt1294 => (if bt1294.2 = 0 then (some (bt1294.1.toList == bt1272.1.toList)) else (none))) else (none)))) else (none)) else (none)) else (none))) else (if ((bt1270.1 == 0) == (bt1270.2 == 120)) = true then (some (decide (bt1270.1 ≤ (l0.length : Int)))) else (none))))) = some r := by rw [if_neg (show ¬ (false = true) by decide)] at H; exact H
      clear H
      have H := H1
      clear H1
      replace H := Option.bind_eq_some_iff.mp H
      obtain ⟨⟨t1270, t1271⟩, A80, H⟩ := H
      replace H : ((ledger_Export.f k l0).bind fun bt1272 => (if t1271 = 0 then ((ledger_Import.f bt1272.1 a1).bind fun bt1285 => (if bt1272.2 = 0 then (if bt1285.2.2 = 0 then (if bt1285.2.1 = 0 then ((row_Sort.f l0).bind fun t1290 => ((paymasterref10_Same.f k bt1285.1 t1290).bind fun t1293 => (if t1293 = true then ((ledger_Export.f k bt1285.1).bind fun bt1294 => (if bt1294.2 = 0 then (some (bt1294.1.toList == bt1272.1.toList)) else (none))) else (none)))) else (none)) else (none)) else (none))) else (if ((t1270 == 0) == (t1271 == 120)) = true then (some (decide (t1270 ≤ (l0.length : Int)))) else (none)))) = some r := H
      have A8 := Aside0.mk A80
      clear A80
      replace H := Option.bind_eq_some_iff.mp H
      obtain ⟨⟨t1272, t1273⟩, A90, H⟩ := H
      replace H : (if t1271 = 0 then ((ledger_Import.f t1272 a1).bind fun bt1285 => (if t1273 = 0 then (if bt1285.2.2 = 0 then (if bt1285.2.1 = 0 then ((row_Sort.f l0).bind fun t1290 => ((paymasterref10_Same.f k bt1285.1 t1290).bind fun t1293 => (if t1293 = true then ((ledger_Export.f k bt1285.1).bind fun bt1294 => (if bt1294.2 = 0 then (some (bt1294.1.toList == t1272.toList)) else (none))) else (none)))) else (none)) else (none)) else (none))) else (if ((t1270 == 0) == (t1271 == 120)) = true then (some (decide (t1270 ≤ (l0.length : Int)))) else (none))) = some r := H
      have A9 := Aside0.mk A90
      clear A90
      by_cases c10 : t1271 = 0
      · rw [if_pos c10] at H
        have c10b0 : (t1271 == 0) = true := beq_iff_eq.mpr c10
        have c10b1 : (t1271 != 0) = false := bne_eq_false_iff_eq.mpr c10
        clear c10
        replace H := Option.bind_eq_some_iff.mp H
        obtain ⟨⟨t1285, t1286, t1287⟩, A110, H⟩ := H
        replace H : (if t1273 = 0 then (if t1287 = 0 then (if t1286 = 0 then ((row_Sort.f l0).bind fun t1290 => ((paymasterref10_Same.f k t1285 t1290).bind fun t1293 => (if t1293 = true then ((ledger_Export.f k t1285).bind fun bt1294 => (if bt1294.2 = 0 then (some (bt1294.1.toList == t1272.toList)) else (none))) else (none)))) else (none)) else (none)) else (none)) = some r := H
        have A11 := Aside0.mk A110
        clear A110
        by_cases c12 : t1273 = 0
        · rw [if_pos c12] at H
          have c12b0 : (t1273 == 0) = true := beq_iff_eq.mpr c12
          have c12b1 : (t1273 != 0) = false := bne_eq_false_iff_eq.mpr c12
          clear c12
          by_cases c13 : t1287 = 0
          · rw [if_pos c13] at H
            have c13b0 : (t1287 == 0) = true := beq_iff_eq.mpr c13
            have c13b1 : (t1287 != 0) = false := bne_eq_false_iff_eq.mpr c13
            clear c13
            by_cases c14 : t1286 = 0
            · rw [if_pos c14] at H
              have c14b0 : (t1286 == 0) = true := beq_iff_eq.mpr c14
              have c14b1 : (t1286 != 0) = false := bne_eq_false_iff_eq.mpr c14
              clear c14
              replace H := Option.bind_eq_some_iff.mp H
              obtain ⟨t1290, A150, H⟩ := H
              replace H : ((paymasterref10_Same.f k t1285 t1290).bind fun t1293 => (if t1293 = true then ((ledger_Export.f k t1285).bind fun bt1294 => (if bt1294.2 = 0 then (some (bt1294.1.toList == t1272.toList)) else (none))) else (none))) = some r := H
              have A15 := Aside0.mk A150
              clear A150
              replace H := Option.bind_eq_some_iff.mp H
              obtain ⟨t1293, A160, H⟩ := H
              replace H : (if t1293 = true then ((ledger_Export.f k t1285).bind fun bt1294 => (if bt1294.2 = 0 then (some (bt1294.1.toList == t1272.toList)) else (none))) else (none)) = some r := H
              have A16 := Aside0.mk A160
              clear A160
              by_cases c17 : t1293 = true
              · subst c17
                have H1 : ((ledger_Export.f k t1285).bind fun bt1294 => (if bt1294.2 = 0 then (some (bt1294.1.toList == t1272.toList)) else (none))) = some r := by rw [if_pos rfl] at H; exact H
                clear H
                have H := H1
                clear H1
                replace H := Option.bind_eq_some_iff.mp H
                obtain ⟨⟨t1294, t1295⟩, A180, H⟩ := H
                replace H : (if t1295 = 0 then (some (t1294.toList == t1272.toList)) else (none)) = some r := H
                have A18 := Aside0.mk A180
                clear A180
                by_cases c19 : t1295 = 0
                · rw [if_pos c19] at H
                  have c19b0 : (t1295 == 0) = true := beq_iff_eq.mpr c19
                  have c19b1 : (t1295 != 0) = false := bne_eq_false_iff_eq.mpr c19
                  clear c19
                  obtain rfl := Option.some.inj H
                  go_enter Tryd.func5, Tryd.ntmps5
                  go_wp2_with (first | ((with_reducible refine gate_callee (f := 29) rfl ?_); refine goesL_ (some 14) rfl rfl Tryd.func29 (by kernel_rfl) rfl #[] rfl (by (try simp only [List.map_toArray, List.map_cons, List.map_nil]); first | done | rfl | (simp only [List.length_drop, List.length_take]; rfl)) ?_; (with_reducible refine (paymasterlaw11_awake.calls k  true _ ?side1 A3.out).mono ?_); (case side1 => exact gt_below hG (by repeat (first | (with_reducible first | exact HB.out | apply below_alloc | apply pw_below_drewN | apply below_drew1) | exact HB.out))); rintro e w20 ⟨rfl, hb⟩; refine ⟨_, rfl, ?_⟩; have n0_ := Aside0.mk (below_step (by repeat (first | (with_reducible first | exact HB.out | apply below_alloc | apply pw_below_drewN | apply below_drew1) | exact HB.out)) hb); clear HB; have HB := n0_; clear n0_; (try clear hb); (try clear hb2); (try clear hk); (try clear hi)) | ((with_reducible refine gate_callee (f := 26) rfl ?_); refine goesL_ (some 17) rfl rfl Tryd.func26 (by kernel_rfl) rfl #[.slice A0 l0.length c0] rfl (by (try simp only [List.map_toArray, List.map_cons, List.map_nil]); first | done | rfl | (simp only [List.length_drop, List.length_take]; rfl)) ?_; (with_reducible refine (paymasterlaw10_Long.calls k _ _ l0 false _ ?side1 ?side2 A5.out).mono ?_); (case side1 => repeat (first | exact (Kd.C_below HR0.out HB.out) | (with_reducible refine Kd.C_alloc ?_ _) | (with_reducible refine Kd.C_drewN ?_ _) | (with_reducible refine Kd.C_drew ?_))); (case side2 => exact HC0.out); rintro e w' ⟨rfl, ⟨nd, rfl⟩⟩; refine ⟨_, rfl, ?_⟩) | ((with_reducible refine gate_callee (f := 30) rfl ?_); refine goesL_ (some 21) rfl rfl Tryd.func30 (by kernel_rfl) rfl #[.slice A0 l0.length c0, .int .i64 a1] rfl (by (try simp only [List.map_toArray, List.map_cons, List.map_nil]); first | done | rfl | (simp only [List.length_drop, List.length_take]; rfl)) ?_; (with_reducible refine (ledger_Check.calls _ _ l0 a1 t1270 t1271 _ ?side1 ?side2 ?side3 A8.out).mono ?_); (case side1 => repeat (first | exact (Kd.C_below HR0.out (by repeat (first | (with_reducible first | exact HB.out | apply below_alloc | apply pw_below_drewN | apply below_drew1) | exact HB.out))) | (with_reducible refine Kd.C_alloc ?_ _) | (with_reducible refine Kd.C_drewN ?_ _) | (with_reducible refine Kd.C_drew ?_))); (case side2 => exact HC0.out); (case side3 => exact gt_below hG (by repeat (first | (with_reducible first | exact HB.out | apply below_alloc | apply pw_below_drewN | apply below_drew1) | exact HB.out))); rintro e w21 ⟨rfl, hb⟩; refine ⟨_, rfl, ?_⟩; have n0_ := Aside0.mk (below_step (by repeat (first | (with_reducible first | exact HB.out | apply below_alloc | apply pw_below_drewN | apply below_drew1) | exact HB.out)) hb); clear HB; have HB := n0_; clear n0_; (try clear hb); (try clear hb2); (try clear hk); (try clear hi)) | ((with_reducible refine gate_callee (f := 31) rfl ?_); refine goesL_ (some 26) rfl rfl Tryd.func31 (by kernel_rfl) rfl #[.slice A0 l0.length c0] rfl (by (try simp only [List.map_toArray, List.map_cons, List.map_nil]); first | done | rfl | (simp only [List.length_drop, List.length_take]; rfl)) ?_; (with_reducible refine (ledger_Export.calls k _ _ l0 t1272 t1273 _ ?side1 ?side2 ?side3 A9.out).mono ?_); (case side1 => repeat (first | exact (Kd.C_below HR0.out HB.out) | (with_reducible refine Kd.C_alloc ?_ _) | (with_reducible refine Kd.C_drewN ?_ _) | (with_reducible refine Kd.C_drew ?_))); (case side2 => exact HC0.out); (case side3 => exact gt_below hG (by repeat (first | (with_reducible first | exact HB.out | apply below_alloc | apply pw_below_drewN | apply below_drew1) | exact HB.out))); rintro e w22 ⟨rfl, hb⟩; refine ⟨_, rfl, ?_⟩; have n0_ := Aside0.mk (below_step (by repeat (first | (with_reducible first | exact HB.out | apply below_alloc | apply pw_below_drewN | apply below_drew1) | exact HB.out)) hb); clear HB; have HB := n0_; clear n0_; (try clear hb); (try clear hb2); (try clear hk); (try clear hi)) | ((with_reducible refine gate_callee (f := 32) rfl ?_); refine goesL_ (some 45) rfl rfl Tryd.func32 (by kernel_rfl) rfl #[.string t1272, .int .i64 a1] rfl (by (try simp only [List.map_toArray, List.map_cons, List.map_nil]); first | done | rfl | (simp only [List.length_drop, List.length_take]; rfl)) ?_; (with_reducible refine (ledger_Import.calls t1272 a1 t1285 t1286 t1287 _ ?side1 A11.out).mono ?_); (case side1 => exact gt_below hG (by repeat (first | (with_reducible first | exact HB.out | apply below_alloc | apply pw_below_drewN | apply below_drew1) | exact HB.out))); rintro e w23 ⟨v1288, rfl, ho0, hb⟩; refine ⟨_, rfl, ?_⟩; have n0_ := Aside0.mk (Kd.R_lower ho0 (below_size (by repeat (first | (with_reducible first | exact HB.out | apply below_alloc | apply pw_below_drewN | apply below_drew1) | exact HB.out)))); have n1_ := Aside0.mk (below_step (by repeat (first | (with_reducible first | exact HB.out | apply below_alloc | apply pw_below_drewN | apply below_drew1) | exact HB.out)) hb); clear HB; have HO1289 := n0_; have HB := n1_; clear n0_ n1_; (try clear hb); (try clear hb2); (try clear hk); (try clear hi); (try clear ho0)) | (go_at_call 27; (with_reducible refine (row_Sort.calls _ _ l0 t1290 _ ?side1 ?side2 A15.out).mono ?_); (case side1 => repeat (first | exact (Kd.C_below HR0.out HB.out) | (with_reducible refine Kd.C_alloc ?_ _) | (with_reducible refine Kd.C_drewN ?_ _) | (with_reducible refine Kd.C_drew ?_))); (case side2 => exact HC0.out); rintro e w24 ⟨v1291, rfl, ho0, hb⟩; have n0_ := Aside0.mk (Kd.R_elder' (by (with_reducible repeat (first | apply Kd.R_alloc | apply Kd.R_drewN | apply Kd.R_drew)); exact HO1289.out) (Kd.R_base ho0) hb); have n1_ := Aside0.mk (Kd.R_lower (Kd.R_new' ho0 (Kd.R_lt (by (with_reducible repeat (first | apply Kd.R_alloc | apply Kd.R_drewN | apply Kd.R_drew)); exact HO1289.out))) (below_size (by repeat (first | (with_reducible first | exact HB.out | apply below_alloc | apply pw_below_drewN | apply below_drew1) | exact HB.out)))); have n2_ := Aside0.mk (below_step (by repeat (first | (with_reducible first | exact HB.out | apply below_alloc | apply pw_below_drewN | apply below_drew1) | exact HB.out)) hb); clear HO1289; clear HB; have HO1289 := n0_; have HO1292 := n1_; have HB := n2_; clear n0_ n1_ n2_; (try clear hb); (try clear hb2); (try clear hk); (try clear hi); (try clear ho0); obtain ⟨Ao25, co25, eo25⟩ := Kd.R_slice HO1289.out; subst eo25; obtain ⟨Ao26, co26, eo26⟩ := Kd.R_slice HO1292.out; subst eo26) | (go_at_call 28; (with_reducible refine (paymasterref10_Same.calls k _ _ t1285 _ _ t1290 true _ ?side1 ?side2 ?side3 ?side4 A16.out).mono ?_); (case side1 => repeat (first | exact (Kd.R_reads' HO1289.out).2.2 | (with_reducible refine Kd.C_alloc ?_ _) | (with_reducible refine Kd.C_drewN ?_ _) | (with_reducible refine Kd.C_drew ?_))); (case side2 => exact (Kd.R_reads' HO1289.out).2.1); (case side3 => repeat (first | exact (Kd.R_reads' HO1292.out).2.2 | (with_reducible refine Kd.C_alloc ?_ _) | (with_reducible refine Kd.C_drewN ?_ _) | (with_reducible refine Kd.C_drew ?_))); (case side4 => exact (Kd.R_reads' HO1292.out).2.1); rintro e w' ⟨rfl, ⟨nd, rfl⟩⟩) | ((with_reducible refine gate_callee (f := 31) rfl ?_); refine goesL_ (some 68) rfl rfl Tryd.func31 (by kernel_rfl) rfl #[.slice Ao25 t1285.length co25] rfl (by (try simp only [List.map_toArray, List.map_cons, List.map_nil]); first | done | rfl | (simp only [List.length_drop, List.length_take]; rfl)) ?_; (with_reducible refine (ledger_Export.calls k _ _ t1285 t1294 t1295 _ ?side1 ?side2 ?side3 A18.out).mono ?_); (case side1 => repeat (first | exact (Kd.R_reads' HO1289.out).2.2 | (with_reducible refine Kd.C_alloc ?_ _) | (with_reducible refine Kd.C_drewN ?_ _) | (with_reducible refine Kd.C_drew ?_))); (case side2 => exact (Kd.R_reads' HO1289.out).2.1); (case side3 => exact gt_below hG (by repeat (first | (with_reducible first | exact HB.out | apply below_alloc | apply pw_below_drewN | apply below_drew1) | exact HB.out))); rintro e w27 ⟨rfl, hb⟩; refine ⟨_, rfl, ?_⟩; have n0_ := Aside0.mk (Kd.R_below (by (with_reducible repeat (first | apply Kd.R_alloc | apply Kd.R_drewN | apply Kd.R_drew)); exact HO1289.out) hb); have n1_ := Aside0.mk (Kd.R_below (by (with_reducible repeat (first | apply Kd.R_alloc | apply Kd.R_drewN | apply Kd.R_drew)); exact HO1292.out) hb); have n2_ := Aside0.mk (below_step (by repeat (first | (with_reducible first | exact HB.out | apply below_alloc | apply pw_below_drewN | apply below_drew1) | exact HB.out)) hb); clear HO1289; clear HO1292; clear HB; have HO1289 := n0_; have HO1292 := n1_; have HB := n2_; clear n0_ n1_ n2_; (try clear hb); (try clear hb2); (try clear hk); (try clear hi)))
                  go_ret
                  exact ⟨by first | rfl | (simp [errW_none, errW_some] <;> rfl) | (simp [*, errW_none, errW_some] <;> rfl), by repeat (first | (with_reducible first | exact HB.out | apply below_alloc | apply pw_below_drewN | apply below_drew1) | exact HB.out)⟩
                · rw [if_neg c19] at H
                  exact absurd H (by simp)
              · replace c17 := Bool.eq_false_iff.mpr c17
                subst c17
                have H1 : (none) = some r := by rw [if_neg (show ¬ (false = true) by decide)] at H; exact H
                clear H
                have H := H1
                clear H1
                exact absurd H (by simp)
            · rw [if_neg c14] at H
              exact absurd H (by simp)
          · rw [if_neg c13] at H
            exact absurd H (by simp)
        · rw [if_neg c12] at H
          exact absurd H (by simp)
      · rw [if_neg c10] at H
        have c10b0 : (t1271 == 0) = false := beq_eq_false_iff_ne.mpr c10
        have c10b1 : (t1271 != 0) = true := bne_iff_ne.mpr c10
        by_cases c28 : ((t1270 == 0) == (t1271 == 120)) = true
        · rw [if_pos c28] at H
          have c28b0 : ((t1270 == 0) == (t1271 == 120)) = true := c28
          (try (have c28b1 : decide ((t1270 == 0) = (t1271 == 120)) = true := by simpa using c28))
          (try (have c28b2 : ((t1270 == 0) == (t1271 == 120)) = true := by simpa using c28))
          clear c28
          obtain rfl := Option.some.inj H
          go_enter Tryd.func5, Tryd.ntmps5
          go_wp2_with (first | ((with_reducible refine gate_callee (f := 29) rfl ?_); refine goesL_ (some 14) rfl rfl Tryd.func29 (by kernel_rfl) rfl #[] rfl (by (try simp only [List.map_toArray, List.map_cons, List.map_nil]); first | done | rfl | (simp only [List.length_drop, List.length_take]; rfl)) ?_; (with_reducible refine (paymasterlaw11_awake.calls k  true _ ?side1 A3.out).mono ?_); (case side1 => exact gt_below hG (by repeat (first | (with_reducible first | exact HB.out | apply below_alloc | apply pw_below_drewN | apply below_drew1) | exact HB.out))); rintro e w29 ⟨rfl, hb⟩; refine ⟨_, rfl, ?_⟩; have n0_ := Aside0.mk (below_step (by repeat (first | (with_reducible first | exact HB.out | apply below_alloc | apply pw_below_drewN | apply below_drew1) | exact HB.out)) hb); clear HB; have HB := n0_; clear n0_; (try clear hb); (try clear hb2); (try clear hk); (try clear hi)) | ((with_reducible refine gate_callee (f := 26) rfl ?_); refine goesL_ (some 17) rfl rfl Tryd.func26 (by kernel_rfl) rfl #[.slice A0 l0.length c0] rfl (by (try simp only [List.map_toArray, List.map_cons, List.map_nil]); first | done | rfl | (simp only [List.length_drop, List.length_take]; rfl)) ?_; (with_reducible refine (paymasterlaw10_Long.calls k _ _ l0 false _ ?side1 ?side2 A5.out).mono ?_); (case side1 => repeat (first | exact (Kd.C_below HR0.out HB.out) | (with_reducible refine Kd.C_alloc ?_ _) | (with_reducible refine Kd.C_drewN ?_ _) | (with_reducible refine Kd.C_drew ?_))); (case side2 => exact HC0.out); rintro e w' ⟨rfl, ⟨nd, rfl⟩⟩; refine ⟨_, rfl, ?_⟩) | ((with_reducible refine gate_callee (f := 30) rfl ?_); refine goesL_ (some 21) rfl rfl Tryd.func30 (by kernel_rfl) rfl #[.slice A0 l0.length c0, .int .i64 a1] rfl (by (try simp only [List.map_toArray, List.map_cons, List.map_nil]); first | done | rfl | (simp only [List.length_drop, List.length_take]; rfl)) ?_; (with_reducible refine (ledger_Check.calls _ _ l0 a1 t1270 t1271 _ ?side1 ?side2 ?side3 A8.out).mono ?_); (case side1 => repeat (first | exact (Kd.C_below HR0.out (by repeat (first | (with_reducible first | exact HB.out | apply below_alloc | apply pw_below_drewN | apply below_drew1) | exact HB.out))) | (with_reducible refine Kd.C_alloc ?_ _) | (with_reducible refine Kd.C_drewN ?_ _) | (with_reducible refine Kd.C_drew ?_))); (case side2 => exact HC0.out); (case side3 => exact gt_below hG (by repeat (first | (with_reducible first | exact HB.out | apply below_alloc | apply pw_below_drewN | apply below_drew1) | exact HB.out))); rintro e w30 ⟨rfl, hb⟩; refine ⟨_, rfl, ?_⟩; have n0_ := Aside0.mk (below_step (by repeat (first | (with_reducible first | exact HB.out | apply below_alloc | apply pw_below_drewN | apply below_drew1) | exact HB.out)) hb); clear HB; have HB := n0_; clear n0_; (try clear hb); (try clear hb2); (try clear hk); (try clear hi)) | ((with_reducible refine gate_callee (f := 31) rfl ?_); refine goesL_ (some 26) rfl rfl Tryd.func31 (by kernel_rfl) rfl #[.slice A0 l0.length c0] rfl (by (try simp only [List.map_toArray, List.map_cons, List.map_nil]); first | done | rfl | (simp only [List.length_drop, List.length_take]; rfl)) ?_; (with_reducible refine (ledger_Export.calls k _ _ l0 t1272 t1273 _ ?side1 ?side2 ?side3 A9.out).mono ?_); (case side1 => repeat (first | exact (Kd.C_below HR0.out HB.out) | (with_reducible refine Kd.C_alloc ?_ _) | (with_reducible refine Kd.C_drewN ?_ _) | (with_reducible refine Kd.C_drew ?_))); (case side2 => exact HC0.out); (case side3 => exact gt_below hG (by repeat (first | (with_reducible first | exact HB.out | apply below_alloc | apply pw_below_drewN | apply below_drew1) | exact HB.out))); rintro e w31 ⟨rfl, hb⟩; refine ⟨_, rfl, ?_⟩; have n0_ := Aside0.mk (below_step (by repeat (first | (with_reducible first | exact HB.out | apply below_alloc | apply pw_below_drewN | apply below_drew1) | exact HB.out)) hb); clear HB; have HB := n0_; clear n0_; (try clear hb); (try clear hb2); (try clear hk); (try clear hi)))
          go_ret
          exact ⟨by first | rfl | (simp [errW_none, errW_some] <;> rfl) | (simp [*, errW_none, errW_some] <;> rfl), by repeat (first | (with_reducible first | exact HB.out | apply below_alloc | apply pw_below_drewN | apply below_drew1) | exact HB.out)⟩
        · rw [if_neg c28] at H
          exact absurd H (by simp)
  · replace c4 := Bool.eq_false_iff.mpr c4
    subst c4
    have H1 : (none) = some r := by rw [if_neg (show ¬ (false = true) by decide)] at H; exact H
    clear H
    have H := H1
    clear H1
    exact absurd H (by simp)
end Go.Proofs.YtpkjpiphjdpegaaDoor.P
