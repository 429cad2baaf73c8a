/- A program of this session wrote this text out of the session's own texts. (part 42 of 44) -/
import Derived.Test.YtpkjpiphjdpegaaDoorCLedgerTurned4
import Derived.Test.YtpkjpiphjdpegaaDoorCLedgerTurned23
import Derived.Test.YtpkjpiphjdpegaaDoorCLedgerTurned26
import Derived.Test.YtpkjpiphjdpegaaDoorCLedgerTurned39
import Derived.Test.YtpkjpiphjdpegaaDoorCLedgerTurned40
namespace Go.Proofs.YtpkjpiphjdpegaaDoor.P
open Go.RowKit Go.Proofs.YtpkjpiphjdpegaaDoorW.PrintWords Go.Proofs.YtpkjpiphjdpegaaDoorW.PrintLast Go.Proofs.YtpkjpiphjdpegaaDoorW.PrintMore
attribute [local go_sem] max2_int min2_int max_two min_two max_three min_three max_four min_four
set_option linter.unusedVariables false
set_option linter.unusedSimpArgs false
mutual
def paymasterlaw11_LedgerTurned.j0 : Nat → List ByteArray → Int → Int → Int → Bool → Option (Bool)
  | 0, _, _, _, _, _ => none
  | k + 1, x0, x1, x2, x3, x48 => if x48 = true then (some true) else (paymasterlaw11_LedgerTurned.l0 k x0 x1 x2 x3 (IntKind.u64.wrap ((x0.length : Int))) ([] : List ByteArray) (wrap64 ((x0.length : Int) - 1)))
def paymasterlaw11_LedgerTurned.l0 : Nat → List ByteArray → Int → Int → Int → Int → List ByteArray → Int → Option (Bool)
  | 0, _, _, _, _, _, _, _ => none
  | k + 1, x0, x1, x2, x3, x9, x10, x12 => if x12 ≥ 0 then (if 0 ≤ x12 then (if x12 < (x0.length : Int) then (if ((rdOf ByteArray.empty x0 x12).size : Int) > 200 then (some true) else (if x10.length < 8796093022208 then (paymasterlaw11_LedgerTurned.l0 k x0 x1 x2 x3 x9 (x10 ++ [rdOf ByteArray.empty x0 x12]) (wrap64 (x12 - 1))) else (none))) else (none)) else (none)) else ((some (([] : List ByteArray) : List ByteArray)).bind fun y1677 => (if y1677.length + x0.length < 8796093022208 then ((some (y1677 ++ x0 : List ByteArray)).bind fun y1680 => (if x9 = 0 then (none) else (if 0 ≤ (wrap64 (Int.tmod (IntKind.u64.wrap (x3)) x9)) then (if (wrap64 (Int.tmod (IntKind.u64.wrap (x3)) x9)) < (x0.length : Int) then (if 0 ≤ (wrap64 (Int.tmod (IntKind.u64.wrap (x2)) x9)) then (if (wrap64 (Int.tmod (IntKind.u64.wrap (x2)) x9)) < (x0.length : Int) then (if (wrap64 (Int.tmod (IntKind.u64.wrap (x2)) x9)) < (y1680.length : Int) then (if (wrap64 (Int.tmod (IntKind.u64.wrap (x3)) x9)) < (y1680.length : Int) then (paymasterlaw11_LedgerTurned.l1 k x0 x1 x10 ([] : List ByteArray) ((y1680.set ((wrap64 (Int.tmod (IntKind.u64.wrap (x2)) x9)) : Int).toNat (rdOf ByteArray.empty x0 (wrap64 (Int.tmod (IntKind.u64.wrap (x3)) x9)))).set ((wrap64 (Int.tmod (IntKind.u64.wrap (x3)) x9)) : Int).toNat (rdOf ByteArray.empty x0 (wrap64 (Int.tmod (IntKind.u64.wrap (x2)) x9)))) (wrap64 (Int.tmod (IntKind.u64.wrap (x2)) x9)) 0) else (none)) else (none)) else (none)) else (none)) else (none)) else (none)))) else (none)))
def paymasterlaw11_LedgerTurned.l1 : Nat → List ByteArray → Int → List ByteArray → List ByteArray → List ByteArray → Int → Int → Option (Bool)
  | 0, _, _, _, _, _, _, _ => none
  | k + 1, x0, x1, x10, x11, x13, x14, x16 => if x16 < (x0.length : Int) then (if 0 ≤ x14 then (if x14 < (x0.length : Int) then (if 2 + (rdOf ByteArray.empty x0 x14).size ≤ 9223372036854775807 then (if 0 ≤ x16 then ((some (([(⟨#[]⟩ : ByteArray), (⟨#[35, 32]⟩ : ByteArray) ++ (rdOf ByteArray.empty x0 x14), rdOf ByteArray.empty x0 x16] : List ByteArray) : List ByteArray)).bind fun y1689 => (if x11.length + y1689.length < 8796093022208 then (paymasterlaw11_LedgerTurned.l1 k x0 x1 x10 (x11 ++ y1689) x13 x14 (wrap64 (x16 + 1))) else (none))) else (none)) else (none)) else (none)) else (none)) else ((lines_Join.f x0).bind fun bt1708 => ((lines_Join.f x10).bind fun bt1710 => ((lines_Join.f x13).bind fun bt1712 => ((lines_Join.f x11).bind fun bt1714 => (if bt1708.2 = 0 then (if bt1710.2 = 0 then (if bt1712.2 = 0 then (paymasterlaw11_LedgerTurned.j3 k x0 x1 x14 bt1708.1 bt1708.2 bt1710.1 bt1710.2 bt1712.1 bt1712.2 bt1714.1 bt1714.2 (bt1714.2 != 0)) else (paymasterlaw11_LedgerTurned.j3 k x0 x1 x14 bt1708.1 bt1708.2 bt1710.1 bt1710.2 bt1712.1 bt1712.2 bt1714.1 bt1714.2 true)) else (paymasterlaw11_LedgerTurned.j3 k x0 x1 x14 bt1708.1 bt1708.2 bt1710.1 bt1710.2 bt1712.1 bt1712.2 bt1714.1 bt1714.2 true)) else (paymasterlaw11_LedgerTurned.j3 k x0 x1 x14 bt1708.1 bt1708.2 bt1710.1 bt1710.2 bt1712.1 bt1712.2 bt1714.1 bt1714.2 true))))))
def paymasterlaw11_LedgerTurned.j3 : Nat → List ByteArray → Int → Int → ByteArray → Int → ByteArray → Int → ByteArray → Int → ByteArray → Int → Bool → Option (Bool)
  | 0, _, _, _, _, _, _, _, _, _, _, _, _ => none
  | k + 1, x0, x1, x14, x17, x18, x19, x20, x21, x22, x23, x24, x150 => if x150 = true then (if x18 = x20 then (if x18 = x22 then (some (x18 == x24)) else (none)) else (none)) else ((ledger_Import.f x17 x1).bind fun bt1758 => ((ledger_Import.f x19 x1).bind fun bt1763 => ((ledger_Import.f x21 x1).bind fun bt1768 => ((ledger_Import.f x23 x1).bind fun bt1773 => (if ((bt1758.2.2 == 0) != (bt1763.2.2 == 0)) = true then (none) else (if ((bt1758.2.2 == 0) != (bt1768.2.2 == 0)) = true then (none) else ((paymasterref10_Same.f k bt1758.1 bt1763.1).bind fun t1778 => (if t1778 = true then ((paymasterref10_Same.f k bt1758.1 bt1768.1).bind fun t1779 => (if t1779 = true then (if 0 ≤ x14 then (if x14 < (x0.length : Int) then (if 2 + (rdOf ByteArray.empty x0 x14).size ≤ 9223372036854775807 then ((lines_Check.f ((⟨#[35, 32]⟩ : ByteArray) ++ (rdOf ByteArray.empty x0 x14))).bind fun bt1789 => (if bt1789.2 = 0 then (if bt1773.2.2 = bt1758.2.2 then ((paymasterref10_Same.f k bt1758.1 bt1773.1).bind fun t1791 => (if t1791 = true then (some (bt1773.2.1 == (wrap64 (3 * bt1758.2.1)))) else (none))) else (none)) else (if bt1789.1 = 1 then (some (bt1773.2.2 != 0)) else (none)))) else (none)) else (none)) else (none)) else (none))) else (none)))))))))
end
def paymasterlaw11_LedgerTurned.f (k : Nat) (l0 : List ByteArray) (a1 : Int) (a2 : Int) (a3 : Int) : Option (Bool) := (paymasterlaw11_awake.f k).bind fun t1661 => (if t1661 = true then (if (l0.length : Int) = 0 then (paymasterlaw11_LedgerTurned.j0 k l0 a1 a2 a3 true) else (paymasterlaw11_LedgerTurned.j0 k l0 a1 a2 a3 (decide ((l0.length : Int) > 60)))) else (none))
def paymasterlaw11_LedgerTurned.T14 : Bool × List (List Nat × List Nat) := (true, [([], []), ([0], [0]), ([], []), ([1, 2], [1, 2]), ([3], [3]), ([], []), ([5], [5]), ([], []), ([6, 7], [6, 7]), ([8], [8]), ([4, 0, 1, 2, 3, 4], [4]), ([9, 10, 0, 1, 2, 3, 4, 5, 6, 7, 8, 9, 10], [9])])
def paymasterlaw11_LedgerTurned.B14 : List Nat := [0, 1, 0, 7, 15, 0, 32, 0, 224, 480, 31, 2047]
theorem paymasterlaw11_LedgerTurned.tab14 : rtab .any (opsOf Tryd.f19 14) = paymasterlaw11_LedgerTurned.T14 := by kernel_rfl
theorem paymasterlaw11_LedgerTurned.bits14 : waitsOk paymasterlaw11_LedgerTurned.T14.2 paymasterlaw11_LedgerTurned.B14 = true := by kernel_rfl
def paymasterlaw11_LedgerTurned.T15 : Bool × List (List Nat × List Nat) := (true, [([], []), ([], []), ([], []), ([], []), ([], []), ([], []), ([4, 5], [4, 5]), ([6], [6]), ([], []), ([], []), ([8, 9], [8, 9]), ([10], [10]), ([0, 1, 0, 1, 4, 5, 6, 7, 11], [0, 1]), ([12, 7, 0, 1, 4, 5, 6, 7, 11], [7, 12]), ([2, 3, 0, 1, 2, 3, 4, 5, 6, 7, 8, 9, 10, 11, 12, 13], [2, 3]), ([14, 11, 13, 0, 1, 2, 3, 4, 5, 6, 7, 8, 9, 10, 11, 12, 13], [11, 14])])
def paymasterlaw11_LedgerTurned.B15 : List Nat := [0, 0, 0, 0, 0, 0, 48, 112, 0, 0, 768, 1792, 4083, 8179, 16383, 32767]
theorem paymasterlaw11_LedgerTurned.tab15 : rtab .any (opsOf Tryd.f19 15) = paymasterlaw11_LedgerTurned.T15 := by kernel_rfl
theorem paymasterlaw11_LedgerTurned.bits15 : waitsOk paymasterlaw11_LedgerTurned.T15.2 paymasterlaw11_LedgerTurned.B15 = true := by kernel_rfl
def paymasterlaw11_LedgerTurned.T19 : Bool × List (List Nat × List Nat) := (true, [([], []), ([], []), ([], []), ([1, 2], [1, 2]), ([3], [3]), ([4], [4]), ([], []), ([], []), ([6, 7], [6, 7]), ([8], [8]), ([5, 9], [5, 9]), ([0, 10], [0, 10]), ([11, 11, 0, 1, 2, 3, 4, 5, 6, 7, 8, 9, 10, 11], [0, 11])])
def paymasterlaw11_LedgerTurned.B19 : List Nat := [0, 0, 0, 6, 14, 30, 0, 0, 192, 448, 1022, 2047, 4095]
theorem paymasterlaw11_LedgerTurned.tab19 : rtab .any (opsOf Tryd.f19 19) = paymasterlaw11_LedgerTurned.T19 := by kernel_rfl
theorem paymasterlaw11_LedgerTurned.bits19 : waitsOk paymasterlaw11_LedgerTurned.T19.2 paymasterlaw11_LedgerTurned.B19 = true := by kernel_rfl
set_option maxHeartbeats 8000000 in
set_option maxRecDepth 100000 in
theorem paymasterlaw11_LedgerTurned.calls (k : Nat) (A0 : Option Addr) (c0 : Nat) (l0 : List ByteArray) (a1 : Int) (a2 : Int) (a3 : Int) (r : Bool) (w : World) (hr0 : Kd.C Kd.string w A0 l0.length l0) (hc0 : l0.length ≤ c0) (hG : GT w) (h : paymasterlaw11_LedgerTurned.f k l0 a1 a2 a3 = some r) :
    Calls Tryd.prog 19 #[.slice A0 l0.length c0, .int .i64 a1, .int .i64 a2, .int .i64 a3] w fun e w' => e = .returned (.bool r) ∧ Below w.heap.size w w' := by
  have HR0 := Aside0.mk hr0
  have HC0 := Aside0.mk hc0
  clear hr0 hc0
  have HB := Aside0.mk (Below.refl w.heap.size w)
  have H : ((paymasterlaw11_awake.f k).bind fun t1661 => (if t1661 = true then (if (l0.length : Int) = 0 then (paymasterlaw11_LedgerTurned.j0 k l0 a1 a2 a3 true) else (paymasterlaw11_LedgerTurned.j0 k l0 a1 a2 a3 (decide ((l0.length : Int) > 60)))) else (none))) = some r := h
  clear h
  replace H := Option.bind_eq_some_iff.mp H
  obtain ⟨t1661, A50, H⟩ := H
  replace H : (if t1661 = true then (if (l0.length : Int) = 0 then (paymasterlaw11_LedgerTurned.j0 k l0 a1 a2 a3 true) else (paymasterlaw11_LedgerTurned.j0 k l0 a1 a2 a3 (decide ((l0.length : Int) > 60)))) else (none)) = some r := H
  have A5 := Aside0.mk A50
  clear A50
  by_cases c6 : t1661 = true
  · subst c6
    have H1 : (if (l0.length : Int) = 0 then (paymasterlaw11_LedgerTurned.j0 k l0 a1 a2 a3 true) else (paymasterlaw11_LedgerTurned.j0 k l0 a1 a2 a3 (decide ((l0.length : Int) > 60)))) = some r := by rw [if_pos rfl] at H; exact H
    clear H
    have H := H1
    clear H1
    have HC7 := Aside0.mk H
    clear H
    go_enter Tryd.func19, Tryd.ntmps19
    go_upto_region 3 with (first | ((with_reducible refine gate_callee (f := 29) rfl ?_); refine goesL_ (some 39) rfl rfl Tryd.func29 (by kernel_rfl) rfl #[] rfl (by (try simp only [List.map_toArray, List.map_cons, List.map_nil]); first | done | rfl | (simp only [List.length_drop, List.length_take]; rfl)) ?_; (with_reducible refine (paymasterlaw11_awake.calls k  true _ ?side1 A5.out).mono ?_); (case side1 => exact gt_below hG (by repeat (first | (with_reducible first | exact HB.out | apply below_alloc | apply pw_below_drewN | apply below_drew1) | exact HB.out))); rintro e w8 ⟨rfl, hb⟩; refine ⟨_, rfl, ?_⟩; have n0_ := Aside0.mk (below_step (by repeat (first | (with_reducible first | exact HB.out | apply below_alloc | apply pw_below_drewN | apply below_drew1) | exact HB.out)) hb); clear HB; have HB := n0_; clear n0_; (try clear hb); (try clear hb2); (try clear hk); (try clear hi)))
    (try simp only [Act.put, List.setIfInBounds_toArray, List.set_cons_zero, List.set_cons_succ])
    go_cut [48] (fun v48 wc => ∃ (kq : Nat) (x48_6 : Bool), v48 = .bool x48_6 ∧ Aside0 (paymasterlaw11_LedgerTurned.j0 kq l0 a1 a2 a3 x48_6 = some r) ∧ Aside0 (kq ≤ k) ∧ Aside0 (Below w.heap.size w wc))
    case first =>
      have H := HC7.out
      clear HC7
      by_cases c9 : (l0.length : Int) = 0
      · rw [if_pos c9] at H
        have c9b0 : ((l0.length : Int) == 0) = true := beq_iff_eq.mpr c9
        have c9b1 : ((l0.length : Int) != 0) = false := bne_eq_false_iff_eq.mpr c9
        clear c9
        (first | rw [c9b0] | (simp only [i64_w, i32_w]; rw [c9b0]) | skip)
        have H' := Aside0.mk H
        clear H
        go_wp2
        go_meet
        case rel => exact ⟨_, (true), (by first | rfl | (simp; done) | (simp [*]; done)), H', ⟨by first | omega | exact Nat.le_refl _⟩, ⟨by repeat (first | (with_reducible first | exact HB.out | apply below_alloc | apply pw_below_drewN | apply below_drew1) | exact HB.out)⟩⟩
      · rw [if_neg c9] at H
        have c9b0 : ((l0.length : Int) == 0) = false := beq_eq_false_iff_ne.mpr c9
        have c9b1 : ((l0.length : Int) != 0) = true := bne_iff_ne.mpr c9
        have c9b2 : ¬ (l0 = []) := fun h_ => c9 (by rw [h_]; rfl)
        (first | rw [c9b0] | (simp only [i64_w, i32_w]; rw [c9b0]) | skip)
        have H' := Aside0.mk H
        clear H
        go_wp2
        go_meet
        case rel => exact ⟨_, (decide ((l0.length : Int) > 60)), (by first | rfl | (simp; done) | (simp [*]; done)), H', ⟨by first | omega | exact Nat.le_refl _⟩, ⟨by repeat (first | (with_reducible first | exact HB.out | apply below_alloc | apply pw_below_drewN | apply below_drew1) | exact HB.out)⟩⟩
    case rest =>
      clear HC7
      try clear c1
      try clear c2
      try clear p2
      try clear c6
      try clear c9
      try clear c9b0
      try clear c9b1
      try clear c9b2
      obtain ⟨kq, x48_6, rfl, HA, HJ6, HB⟩ := hcut
      cases kq with
      | zero => exact absurd HA.out (by simp [paymasterlaw11_LedgerTurned.j0])
      | succ kj6 =>
        have H := HA.out
        clear HA
        simp only [paymasterlaw11_LedgerTurned.j0] at H
        by_cases c10 : x48_6 = true
        · subst c10
          have H1 : (some true) = some r := by rw [if_pos rfl] at H; exact H
          clear H
          have H := H1
          clear H1
          obtain rfl := Option.some.inj H
          go_wp2
          go_ret
          exact ⟨by first | rfl | (simp [errW_none, errW_some] <;> rfl) | (simp [*, errW_none, errW_some] <;> rfl), by repeat (first | (with_reducible first | exact HB.out | apply below_alloc | apply pw_below_drewN | apply below_drew1) | exact HB.out)⟩
        · replace c10 := Bool.eq_false_iff.mpr c10
          subst c10
          have H1 : (paymasterlaw11_LedgerTurned.l0 kj6 l0 a1 a2 a3 (IntKind.u64.wrap ((l0.length : Int))) ([] : List ByteArray) (wrap64 ((l0.length : Int) - 1))) = some r := by rw [if_neg (show ¬ (false = true) by decide)] at H; exact H
          clear H
          have H := H1
          clear H1
          have H' := Aside0.mk H
          clear H
          go_wp2
          go_loopg [10, 12] kj6 (fun kq v10 v12 w' => ∃ (x10_2 : List ByteArray) (x12_2 : Int), v12 = .int .i64 x12_2 ∧ Aside0 (paymasterlaw11_LedgerTurned.l0 kq l0 a1 a2 a3 (IntKind.u64.wrap ((l0.length : Int))) x10_2 x12_2 = some r) ∧ Aside0 (kq ≤ kj6) ∧ Aside0 (Kd.R Kd.string 9 w' w.heap.size (fun _ => True) v10 x10_2) ∧ Aside0 (Below w.heap.size w w'))
          case atStart => exact ⟨(([] : List ByteArray)), (wrap64 ((l0.length : Int) - 1)), (by first | rfl | (simp; done) | (simp [*]; done)), H', ⟨Nat.le_refl _⟩, ⟨by first | exact Kd.R_nil _ _ _ _ _ | exact Kd.N_nil _ _ _ _ _ | exact Kd.V_nil _ _ _ _ _ | exact Kd.Q_nil _ _ _ _ _ | exact Kd.S_nil _ _ _ _ _⟩, ⟨by repeat (first | (with_reducible first | exact HB.out | apply below_alloc | apply pw_below_drewN | apply below_drew1) | exact HB.out)⟩⟩
          case round =>
            clear H'
            try clear c1
            try clear c2
            try clear p2
            try clear c6
            try clear p6
            try clear c9
            try clear c9b0
            try clear c9b1
            try clear c9b2
            try clear c10
            try clear p2
            obtain ⟨x10_2, x12_2, rfl, HA, HK2, HO_10, HB⟩ := hrel
            cases gk with
            | zero => exact absurd HA.out (by simp [paymasterlaw11_LedgerTurned.l0])
            | succ k2 =>
              have H := HA.out
              clear HA
              simp only [paymasterlaw11_LedgerTurned.l0] at H
              by_cases c11 : x12_2 ≥ 0
              · rw [if_pos c11] at H
                have c11b0 : decide (0 ≤ x12_2) = true := decide_eq_true c11
                clear c11
                by_cases c12 : 0 ≤ x12_2
                · rw [if_pos c12] at H
                  have c12b0 : decide (0 ≤ x12_2) = true := decide_eq_true c12
                  clear c12
                  by_cases c13 : x12_2 < (l0.length : Int)
                  · rw [if_pos c13] at H
                    have c13b0 : decide (x12_2 < (l0.length : Int)) = true := decide_eq_true c13
                    clear c13
                    by_cases c14 : ((rdOf ByteArray.empty l0 x12_2).size : Int) > 200
                    · rw [if_pos c14] at H
                      have c14b0 : decide (200 < ((rdOf ByteArray.empty l0 x12_2).size : Int)) = true := decide_eq_true c14
                      have c14b1 : decide (200 < (rdOf ByteArray.empty l0 x12_2).size) = true := decide_eq_true (by omega)
                      clear c14
                      obtain rfl := Option.some.inj H
                      have p1662 : 0 ≤ (x12_2 : Int) := of_decide_eq_true (by first | (with_reducible assumption) | assumption)
                      have q1662 : x12_2 < (l0.length : Int) := of_decide_eq_true (by first | (with_reducible assumption) | assumption)
                      obtain ⟨ad1662, e1662, hx1662_0⟩ := Kd.at_string HR0.out x12_2 p1662 q1662
                      cases e1662
                      replace hx1662_0 := (HB.out.cell (World.block_lt_of_cell? w _ hx1662_0)).trans hx1662_0
                      replace p1662 := eq_true p1662
                      replace q1662 := eq_true q1662
                      go_wp2
                      go_ret
                      exact ⟨by first | rfl | (simp [errW_none, errW_some] <;> rfl) | (simp [*, errW_none, errW_some] <;> rfl), by repeat (first | (with_reducible first | exact HB.out | apply below_alloc | apply pw_below_drewN | apply below_drew1) | exact HB.out)⟩
                    · rw [if_neg c14] at H
                      have c14b0 : decide (200 < ((rdOf ByteArray.empty l0 x12_2).size : Int)) = false := decide_eq_false c14
                      have c14b1 : decide (200 < (rdOf ByteArray.empty l0 x12_2).size) = false := decide_eq_false (by omega)
                      clear c14
                      by_cases c15 : x10_2.length < 8796093022208
                      · rw [if_pos c15] at H
                        have LMc15 := Aside0.mk c15
                        clear c15
                        obtain ⟨y1664, hy1664⟩ : ∃ y_ : List ByteArray, y_ = (x10_2 ++ [rdOf ByteArray.empty l0 x12_2]) := ⟨_, rfl⟩
                        replace H : (paymasterlaw11_LedgerTurned.l0 k2 l0 a1 a2 a3 (IntKind.u64.wrap ((l0.length : Int))) y1664 (wrap64 (x12_2 - 1))) = some r := by first | (rw [hy1664]; with_reducible exact H) | (have H2_ := (Option.bind_some _ _).symm.trans H; rw [hy1664]; with_reducible exact H2_) | (have H2_ := (Option.bind_some _ _).symm.trans H; with_reducible exact H2_) | with_reducible exact H | (rw [hy1664]; exact H) | exact H
                        have Ny1664 := Aside0.mk hy1664
                        clear hy1664
                        have H' := Aside0.mk H
                        clear H
                        have p1662 : 0 ≤ (x12_2 : Int) := of_decide_eq_true (by first | (with_reducible assumption) | assumption)
                        have q1662 : x12_2 < (l0.length : Int) := of_decide_eq_true (by first | (with_reducible assumption) | assumption)
                        obtain ⟨ad1662, e1662, hx1662_0⟩ := Kd.at_string HR0.out x12_2 p1662 q1662
                        cases e1662
                        replace hx1662_0 := (HB.out.cell (World.block_lt_of_cell? w _ hx1662_0)).trans hx1662_0
                        replace p1662 := eq_true p1662
                        replace q1662 := eq_true q1662
                        have p1663 : 0 ≤ (x12_2 : Int) := of_decide_eq_true (by first | (with_reducible assumption) | assumption)
                        have q1663 : x12_2 < (l0.length : Int) := of_decide_eq_true (by first | (with_reducible assumption) | assumption)
                        obtain ⟨ad1663, e1663, hx1663_0⟩ := Kd.at_string HR0.out x12_2 p1663 q1663
                        obtain rfl : ad1662 = ad1663 := (by injection e1663)
                        replace hx1663_0 := (HB.out.cell (World.block_lt_of_cell? w _ hx1663_0)).trans hx1663_0
                        replace p1663 := eq_true p1663
                        replace q1663 := eq_true q1663
                        go_wp2_with (first | ((with_reducible refine gate_builtin (b := .append) (xs := #[.tmp 65, .tmp 70]) rfl ?_); (try (refine gate_guard (by rfl) ?_; dsimp only)); at_builtin; refine Kd.R_append Kd.string (w0 := w) w.heap.size rfl (.tmp 65) (.tmp 70) 51 9 (.string ⟨#[]⟩) 16 rfl Tryd.underlying51 info9 rfl (by decide) (by omega) u10 x10_2 (rdOf ByteArray.empty l0 x12_2) [.string (rdOf ByteArray.empty l0 x12_2)] (fun _ => True) (fun _ => False) rfl rfl ?aP (fun _ hk => hk.elim) ?aF ?aO ?aB ?aS ?aL ?_; (case aP => exact rfl); (case aB => exact (by repeat (first | (with_reducible first | exact HB.out | apply below_alloc | apply pw_below_drewN | apply below_drew1) | exact HB.out))); (case aF => exact (fun _ _ => trivial)); (case aO => exact (by (with_reducible repeat (first | apply Kd.R_alloc | apply Kd.R_drewN | apply Kd.R_drew)); exact HO_10.out)); (case aS => exact (below_size (by repeat (first | (with_reducible first | exact HB.out | apply below_alloc | apply pw_below_drewN | apply below_drew1) | exact HB.out)))); (case aL => have := LMc15.out; omega); intro v1665 w16 ho hb hg hat; rw [← Ny1664.out] at ho; have n0_ := Aside0.mk (hb); have n1_ := Aside0.mk (ho); clear HB; clear HO_10; have HB := n0_; have HO1666 := n1_; clear n0_ n1_; clear ho hb hg hat))
                        go_roundg k2
                        case measure => have := HJ6.out; have := HK2.out; omega
                        case rel => exact ⟨(y1664), (wrap64 (x12_2 - 1)), (by first | rfl | (simp; done) | (simp [*]; done)), H', ⟨by have := HJ6.out; have := HK2.out; omega⟩, ⟨by (with_reducible repeat (first | apply Kd.R_alloc | apply Kd.R_drewN | apply Kd.R_drew)); exact HO1666.out⟩, ⟨by repeat (first | (with_reducible first | exact HB.out | apply below_alloc | apply pw_below_drewN | apply below_drew1) | exact HB.out)⟩⟩
                      · rw [if_neg c15] at H
                        exact absurd H (by simp)
                  · rw [if_neg c13] at H
                    exact absurd H (by simp)
                · rw [if_neg c12] at H
                  exact absurd H (by simp)
              · rw [if_neg c11] at H
                have c11b0 : decide (0 ≤ x12_2) = false := decide_eq_false c11
                clear c11
                obtain ⟨y1677, hy1677⟩ : ∃ y_ : List ByteArray, y_ = (([] : List ByteArray)) := ⟨_, rfl⟩
                replace H : (if y1677.length + l0.length < 8796093022208 then ((some (y1677 ++ l0 : List ByteArray)).bind fun y1680 => (if (IntKind.u64.wrap ((l0.length : Int))) = 0 then (none) else (if 0 ≤ (wrap64 (Int.tmod (IntKind.u64.wrap (a3)) (IntKind.u64.wrap ((l0.length : Int))))) then (if (wrap64 (Int.tmod (IntKind.u64.wrap (a3)) (IntKind.u64.wrap ((l0.length : Int))))) < (l0.length : Int) then (if 0 ≤ (wrap64 (Int.tmod (IntKind.u64.wrap (a2)) (IntKind.u64.wrap ((l0.length : Int))))) then (if (wrap64 (Int.tmod (IntKind.u64.wrap (a2)) (IntKind.u64.wrap ((l0.length : Int))))) < (l0.length : Int) then (if (wrap64 (Int.tmod (IntKind.u64.wrap (a2)) (IntKind.u64.wrap ((l0.length : Int))))) < (y1680.length : Int) then (if (wrap64 (Int.tmod (IntKind.u64.wrap (a3)) (IntKind.u64.wrap ((l0.length : Int))))) < (y1680.length : Int) then (paymasterlaw11_LedgerTurned.l1 k2 l0 a1 x10_2 ([] : List ByteArray) ((y1680.set ((wrap64 (Int.tmod (IntKind.u64.wrap (a2)) (IntKind.u64.wrap ((l0.length : Int))))) : Int).toNat (rdOf ByteArray.empty l0 (wrap64 (Int.tmod (IntKind.u64.wrap (a3)) (IntKind.u64.wrap ((l0.length : Int))))))).set ((wrap64 (Int.tmod (IntKind.u64.wrap (a3)) (IntKind.u64.wrap ((l0.length : Int))))) : Int).toNat (rdOf ByteArray.empty l0 (wrap64 (Int.tmod (IntKind.u64.wrap (a2)) (IntKind.u64.wrap ((l0.length : Int))))))) (wrap64 (Int.tmod (IntKind.u64.wrap (a2)) (IntKind.u64.wrap ((l0.length : Int))))) 0) else (none)) else (none)) else (none)) else (none)) else (none)) else (none)))) else (none)) = some r := by first | (rw [hy1677]; with_reducible exact H) | (have H2_ := (Option.bind_some _ _).symm.trans H; rw [hy1677]; with_reducible exact H2_) | (have H2_ := (Option.bind_some _ _).symm.trans H; with_reducible exact H2_) | with_reducible exact H | (rw [hy1677]; exact H) | exact H
                have Ny1677 := Aside0.mk hy1677
                clear hy1677
                by_cases c17 : y1677.length + l0.length < 8796093022208
                · rw [if_pos c17] at H
                  have LMc17 := Aside0.mk c17
                  clear c17
                  obtain ⟨y1680, hy1680⟩ : ∃ y_ : List ByteArray, y_ = (y1677 ++ l0) := ⟨_, rfl⟩
                  replace H : (if (IntKind.u64.wrap ((l0.length : Int))) = 0 then (none) else (if 0 ≤ (wrap64 (Int.tmod (IntKind.u64.wrap (a3)) (IntKind.u64.wrap ((l0.length : Int))))) then (if (wrap64 (Int.tmod (IntKind.u64.wrap (a3)) (IntKind.u64.wrap ((l0.length : Int))))) < (l0.length : Int) then (if 0 ≤ (wrap64 (Int.tmod (IntKind.u64.wrap (a2)) (IntKind.u64.wrap ((l0.length : Int))))) then (if (wrap64 (Int.tmod (IntKind.u64.wrap (a2)) (IntKind.u64.wrap ((l0.length : Int))))) < (l0.length : Int) then (if (wrap64 (Int.tmod (IntKind.u64.wrap (a2)) (IntKind.u64.wrap ((l0.length : Int))))) < (y1680.length : Int) then (if (wrap64 (Int.tmod (IntKind.u64.wrap (a3)) (IntKind.u64.wrap ((l0.length : Int))))) < (y1680.length : Int) then (paymasterlaw11_LedgerTurned.l1 k2 l0 a1 x10_2 ([] : List ByteArray) ((y1680.set ((wrap64 (Int.tmod (IntKind.u64.wrap (a2)) (IntKind.u64.wrap ((l0.length : Int))))) : Int).toNat (rdOf ByteArray.empty l0 (wrap64 (Int.tmod (IntKind.u64.wrap (a3)) (IntKind.u64.wrap ((l0.length : Int))))))).set ((wrap64 (Int.tmod (IntKind.u64.wrap (a3)) (IntKind.u64.wrap ((l0.length : Int))))) : Int).toNat (rdOf ByteArray.empty l0 (wrap64 (Int.tmod (IntKind.u64.wrap (a2)) (IntKind.u64.wrap ((l0.length : Int))))))) (wrap64 (Int.tmod (IntKind.u64.wrap (a2)) (IntKind.u64.wrap ((l0.length : Int))))) 0) else (none)) else (none)) else (none)) else (none)) else (none)) else (none))) = some r := by first | (rw [hy1680]; with_reducible exact H) | (have H2_ := (Option.bind_some _ _).symm.trans H; rw [hy1680]; with_reducible exact H2_) | (have H2_ := (Option.bind_some _ _).symm.trans H; with_reducible exact H2_) | with_reducible exact H | (rw [hy1680]; exact H) | exact H
                  have Ny1680 := Aside0.mk hy1680
                  clear hy1680
                  by_cases c18 : (IntKind.u64.wrap ((l0.length : Int))) = 0
                  · rw [if_pos c18] at H
                    exact absurd H (by simp)
                  · rw [if_neg c18] at H
                    have c18b0 : ((IntKind.u64.wrap ((l0.length : Int))) == 0) = false := beq_eq_false_iff_ne.mpr c18
                    have c18b1 : ((IntKind.u64.wrap ((l0.length : Int))) != 0) = true := bne_iff_ne.mpr c18
                    obtain ⟨ji19, hji19⟩ : ∃ j_ : Int, (wrap64 (Int.tmod (IntKind.u64.wrap (a3)) (IntKind.u64.wrap ((l0.length : Int))))) = j_ := ⟨_, rfl⟩
                    replace H : (if 0 ≤ (ji19) then (if (ji19) < (l0.length : Int) then (if 0 ≤ (wrap64 (Int.tmod (IntKind.u64.wrap (a2)) (IntKind.u64.wrap ((l0.length : Int))))) then (if (wrap64 (Int.tmod (IntKind.u64.wrap (a2)) (IntKind.u64.wrap ((l0.length : Int))))) < (l0.length : Int) then (if (wrap64 (Int.tmod (IntKind.u64.wrap (a2)) (IntKind.u64.wrap ((l0.length : Int))))) < (y1680.length : Int) then (if (ji19) < (y1680.length : Int) then (paymasterlaw11_LedgerTurned.l1 k2 l0 a1 x10_2 ([] : List ByteArray) ((y1680.set ((wrap64 (Int.tmod (IntKind.u64.wrap (a2)) (IntKind.u64.wrap ((l0.length : Int))))) : Int).toNat (rdOf ByteArray.empty l0 (ji19))).set ((ji19) : Int).toNat (rdOf ByteArray.empty l0 (wrap64 (Int.tmod (IntKind.u64.wrap (a2)) (IntKind.u64.wrap ((l0.length : Int))))))) (wrap64 (Int.tmod (IntKind.u64.wrap (a2)) (IntKind.u64.wrap ((l0.length : Int))))) 0) else (none)) else (none)) else (none)) else (none)) else (none)) else (none)) = some r := by first | (rw [hji19] at H; exact H) | (simp only [hji19] at H ⊢; exact H)
                    have hji19w : (IntKind.i64.wrap (Int.tmod (IntKind.u64.wrap (a3)) (IntKind.u64.wrap ((l0.length : Int))))) = ji19 := (i64_w _).trans hji19
                    by_cases c20 : 0 ≤ (ji19)
                    · rw [if_pos c20] at H
                      have c20b0 : decide (0 ≤ (ji19)) = true := decide_eq_true c20
                      clear c20
                      by_cases c21 : (ji19) < (l0.length : Int)
                      · rw [if_pos c21] at H
                        have c21b0 : decide ((ji19) < (l0.length : Int)) = true := decide_eq_true c21
                        clear c21
                        obtain ⟨ji22, hji22⟩ : ∃ j_ : Int, (wrap64 (Int.tmod (IntKind.u64.wrap (a2)) (IntKind.u64.wrap ((l0.length : Int))))) = j_ := ⟨_, rfl⟩
                        replace H : (if 0 ≤ (ji22) then (if (ji22) < (l0.length : Int) then (if (ji22) < (y1680.length : Int) then (if (ji19) < (y1680.length : Int) then (paymasterlaw11_LedgerTurned.l1 k2 l0 a1 x10_2 ([] : List ByteArray) ((y1680.set ((ji22) : Int).toNat (rdOf ByteArray.empty l0 (ji19))).set ((ji19) : Int).toNat (rdOf ByteArray.empty l0 (ji22))) ji22 0) else (none)) else (none)) else (none)) else (none)) = some r := by first | (rw [hji22] at H; exact H) | (simp only [hji22] at H ⊢; exact H)
                        have hji22w : (IntKind.i64.wrap (Int.tmod (IntKind.u64.wrap (a2)) (IntKind.u64.wrap ((l0.length : Int))))) = ji22 := (i64_w _).trans hji22
                        by_cases c23 : 0 ≤ (ji22)
                        · rw [if_pos c23] at H
                          have c23b0 : decide (0 ≤ (ji22)) = true := decide_eq_true c23
                          clear c23
                          by_cases c24 : (ji22) < (l0.length : Int)
                          · rw [if_pos c24] at H
                            have c24b0 : decide ((ji22) < (l0.length : Int)) = true := decide_eq_true c24
                            clear c24
                            by_cases c25 : (ji22) < (y1680.length : Int)
                            · rw [if_pos c25] at H
                              have c25b0 : decide ((ji22) < (y1680.length : Int)) = true := decide_eq_true c25
                              clear c25
                              obtain ⟨y1685, hy1685⟩ : ∃ y_ : List ByteArray, y_ = (y1680.set ((ji22) : Int).toNat (rdOf ByteArray.empty l0 (ji19))) := ⟨_, rfl⟩
                              replace H : (if (ji19) < (y1680.length : Int) then (paymasterlaw11_LedgerTurned.l1 k2 l0 a1 x10_2 ([] : List ByteArray) (y1685.set ((ji19) : Int).toNat (rdOf ByteArray.empty l0 (ji22))) ji22 0) else (none)) = some r := by first | (rw [hy1685]; with_reducible exact H) | (have H2_ := (Option.bind_some _ _).symm.trans H; rw [hy1685]; with_reducible exact H2_) | (have H2_ := (Option.bind_some _ _).symm.trans H; with_reducible exact H2_) | with_reducible exact H | (rw [hy1685]; exact H) | exact H
                              have Ny1685 := Aside0.mk hy1685
                              clear hy1685
                              by_cases c27 : (ji19) < (y1680.length : Int)
                              · rw [if_pos c27] at H
                                have c27b0 : decide ((ji19) < (y1680.length : Int)) = true := decide_eq_true c27
                                clear c27
                                obtain ⟨y1686, hy1686⟩ : ∃ y_ : List ByteArray, y_ = (y1685.set ((ji19) : Int).toNat (rdOf ByteArray.empty l0 (ji22))) := ⟨_, rfl⟩
                                replace H : (paymasterlaw11_LedgerTurned.l1 k2 l0 a1 x10_2 ([] : List ByteArray) y1686 ji22 0) = some r := by first | (rw [hy1686]; with_reducible exact H) | (have H2_ := (Option.bind_some _ _).symm.trans H; rw [hy1686]; with_reducible exact H2_) | (have H2_ := (Option.bind_some _ _).symm.trans H; with_reducible exact H2_) | with_reducible exact H | (rw [hy1686]; exact H) | exact H
                                have Ny1686 := Aside0.mk hy1686
                                clear hy1686
                                have H' := Aside0.mk H
                                clear H
                                try go_wp2_with (first | ((with_reducible refine gate_dst (N := 72) rfl ?_); (try (refine gate_guard (by rfl) ?_; dsimp only)); refine Kd.R_lit Kd.string _ 9 ?hg (N := 72) ?hd (xs := ([] : List ByteArray)) (inner := []) (ok := fun _ => True) (okp := fun _ => True) ?hr ?hp (fun _ hk => hk) trivial (Below.refl _ _) (Nat.le_refl _) (by simp) ?_; (case hd => rfl); (case hg => rfl); (case hr => first | (go_simp; done) | (go_simp; rfl)); (case hp => exact (Reps.none _ _)); intro v1678 w29 ho30 hb hg_ hnew_; clear hg_ hnew_; (first | rw [← Ny1677.out] at ho30 | (simp only [Int.reduceToNat] at ho30; rw [← Ny1677.out] at ho30)); have n0_ := Aside0.mk (Kd.R_elder' (by (with_reducible repeat (first | apply Kd.R_alloc | apply Kd.R_drewN | apply Kd.R_drew)); exact HO_10.out) (Kd.R_base ho30) hb); have n1_ := Aside0.mk (Kd.R_lower (Kd.R_new' ho30 (Kd.R_lt (by (with_reducible repeat (first | apply Kd.R_alloc | apply Kd.R_drewN | apply Kd.R_drew)); exact HO_10.out))) (below_size (by repeat (first | (with_reducible first | exact HB.out | apply below_alloc | apply pw_below_drewN | apply below_drew1) | exact HB.out)))); have n2_ := Aside0.mk (below_step (by repeat (first | (with_reducible first | exact HB.out | apply below_alloc | apply pw_below_drewN | apply below_drew1) | exact HB.out)) hb); clear HO_10; clear HB; have HO_10 := n0_; have HO1679 := n1_; have HB := n2_; clear n0_ n1_ n2_; clear hb ho30) | ((with_reducible refine gate_builtin (b := .append) (xs := #[.tmp 72, .tmp 73]) rfl ?_); (try (refine gate_guard (by rfl) ?_; dsimp only)); at_builtin; refine Kd.R_append_rows Kd.string (w0 := w) w.heap.size rfl (.tmp 72) (.tmp 73) 51 9 (.string ⟨#[]⟩) 16 rfl Tryd.underlying51 info9 rfl (by decide) (by omega) v1678 y1677 l0 _ _ _ (fun k_ => some k_ ≠ (u10 : Value).ownBlock) (fun _ => False) rfl rfl ?aO ?aR (fun _ _ h => h) (fun _ h => h.elim) ?aF ?aB ?aS ?aL ?_; (case aR => repeat (first | exact (Kd.C_below HR0.out HB.out) | (with_reducible refine Kd.C_alloc ?_ _) | (with_reducible refine Kd.C_drewN ?_ _) | (with_reducible refine Kd.C_drew ?_))); (case aB => exact (by repeat (first | (with_reducible first | exact HB.out | apply below_alloc | apply pw_below_drewN | apply below_drew1) | exact HB.out))); (case aF => exact (fun k_ hk => Kd.fresh' (Kd.R_lt (by (with_reducible repeat (first | apply Kd.R_alloc | apply Kd.R_drewN | apply Kd.R_drew)); exact HO_10.out)) k_ hk)); (case aO => exact (by (with_reducible repeat (first | apply Kd.R_alloc | apply Kd.R_drewN | apply Kd.R_drew)); exact Kd.R_mono HO1679.out (fun _ hk => hk.2))); (case aS => exact (below_size (by repeat (first | (with_reducible first | exact HB.out | apply below_alloc | apply pw_below_drewN | apply below_drew1) | exact HB.out)))); (case aL => have := LMc17.out; omega); intro v1681 w31 ho hb hg hat; rw [← Ny1680.out] at ho; have n0_ := Aside0.mk (Kd.R_after (ok := (fun _ => True)) (by (with_reducible repeat (first | apply Kd.R_alloc | apply Kd.R_drewN | apply Kd.R_drew)); exact HO_10.out) hg hat); have n1_ := Aside0.mk (hb); have n2_ := Aside0.mk (ho); clear HO_10; clear HB; clear HO1679; have HO_10 := n0_; have HB := n1_; have HO1682 := n2_; clear n0_ n1_ n2_; clear ho hb hg hat))
                                have n0_ := Aside0.mk (Kd.R_drew HO_10.out)
                                have n1_ := Aside0.mk (Kd.R_drew HO1682.out)
                                have n2_ := Aside0.mk (below_drew1 HB.out)
                                clear HO_10
                                clear HO1682
                                clear HB
                                have HO_10 := n0_
                                have HO1682 := n1_
                                have HB := n2_
                                clear n0_ n1_ n2_
                                refine start_ (n := 12) (S := fun w' => True) (ds := []) #[false, false, false, false, false, false, false, false, false, false, false, false] (by kernel_rfl) rfl rfl trivial (fun hHeld => ?_); refine with_tabW paymasterlaw11_LedgerTurned.tab14 paymasterlaw11_LedgerTurned.bits14 (fun HT_ HW_ => ?_)
                                generalize w31.drew = w32 at HO_10 HO1682 HB hHeld ⊢
                                refine pure_ (i := 0) (N := some 75) (v := ?_) (a' := ?_) #[true, false, false, false, false, false, false, false, false, false, false, false] rfl rfl (any_of HT_.out (by kernel_rfl)) (fun _ _ _ h => h) (Or.inl ⟨by rfl, ?_⟩) ?_ ?_
                                rotate_left
                                · intro w'
                                  go_simp
                                  with_reducible rfl
                                rotate_left
                                · simp only [Act.put, List.setIfInBounds_toArray, List.set_cons_zero, List.set_cons_succ, i64_w, i32_w]
                                  rfl
                                refine pure_ (i := 1) (N := some 76) (v := ?_) (a' := ?_) #[true, true, false, false, false, false, false, false, false, false, false, false] rfl rfl (any_of HT_.out (by kernel_rfl)) (fun _ _ _ h => h) (Or.inl ⟨by rfl, ?_⟩) ?_ ?_
                                rotate_left
                                · intro w'
                                  go_simp
                                  with_reducible rfl
                                rotate_left
                                · simp only [Act.put, List.setIfInBounds_toArray, List.set_cons_zero, List.set_cons_succ, i64_w, i32_w]
                                  rfl
                                refine pure_ (i := 2) (N := some 77) (v := ?_) (a' := ?_) #[true, true, true, false, false, false, false, false, false, false, false, false] rfl rfl (any_of HT_.out (by kernel_rfl)) (fun _ _ _ h => h) (Or.inl ⟨by rfl, ?_⟩) ?_ ?_
                                rotate_left
                                · intro w'
                                  go_simp
                                  with_reducible rfl
                                rotate_left
                                · simp only [Act.put, List.setIfInBounds_toArray, List.set_cons_zero, List.set_cons_succ, i64_w, i32_w]
                                  rfl
                                refine pure_ (i := 3) (N := some 78) (v := ?_) (a' := ?_) #[true, true, true, true, false, false, false, false, false, false, false, false] rfl rfl (any_of HT_.out (by kernel_rfl)) (fun _ _ _ h => h) (Or.inl ⟨by rfl, ?_⟩) ?_ ?_
                                rotate_left
                                · intro w'
                                  go_simp
                                  with_reducible rfl
                                rotate_left
                                · simp only [Act.put, List.setIfInBounds_toArray, List.set_cons_zero, List.set_cons_succ, i64_w, i32_w]
                                  rfl
                                refine pure_ (i := 4) (N := some 79) (v := ?_) (a' := ?_) #[true, true, true, true, true, false, false, false, false, false, false, false] rfl rfl (any_of HT_.out (by kernel_rfl)) (fun _ _ _ h => h) (Or.inl ⟨by rfl, ?_⟩) ?_ ?_
                                rotate_left
                                · intro w'
                                  go_simp
                                  with_reducible rfl
                                rotate_left
                                · simp only [Act.put, List.setIfInBounds_toArray, List.set_cons_zero, List.set_cons_succ, i64_w, i32_w]
                                  rfl
                                refine pure_ (i := 5) (N := some 80) (v := ?_) (a' := ?_) #[true, true, true, true, true, true, false, false, false, false, false, false] rfl rfl (any_of HT_.out (by kernel_rfl)) (fun _ _ _ h => h) (Or.inl ⟨by rfl, ?_⟩) ?_ ?_
                                rotate_left
                                · intro w'
                                  go_simp
                                  with_reducible rfl
                                rotate_left
                                · simp only [Act.put, List.setIfInBounds_toArray, List.set_cons_zero, List.set_cons_succ, i64_w, i32_w]
                                  rfl
                                refine pure_ (i := 6) (N := some 81) (v := ?_) (a' := ?_) #[true, true, true, true, true, true, true, false, false, false, false, false] rfl rfl (any_of HT_.out (by kernel_rfl)) (fun _ _ _ h => h) (Or.inl ⟨by rfl, ?_⟩) ?_ ?_
                                rotate_left
                                · intro w'
                                  go_simp
                                  with_reducible rfl
                                rotate_left
                                · simp only [Act.put, List.setIfInBounds_toArray, List.set_cons_zero, List.set_cons_succ, i64_w, i32_w]
                                  rfl
                                refine pure_ (i := 7) (N := some 82) (v := ?_) (a' := ?_) #[true, true, true, true, true, true, true, true, false, false, false, false] rfl rfl (any_of HT_.out (by kernel_rfl)) (fun _ _ _ h => h) (Or.inl ⟨by rfl, ?_⟩) ?_ ?_
                                rotate_left
                                · intro w'
                                  go_simp
                                  with_reducible rfl
                                rotate_left
                                · simp only [Act.put, List.setIfInBounds_toArray, List.set_cons_zero, List.set_cons_succ, i64_w, i32_w]
                                  rfl
                                refine pure_ (i := 8) (N := some 83) (v := ?_) (a' := ?_) #[true, true, true, true, true, true, true, true, true, false, false, false] rfl rfl (any_of HT_.out (by kernel_rfl)) (fun _ _ _ h => h) (Or.inl ⟨by rfl, ?_⟩) ?_ ?_
                                rotate_left
                                · intro w'
                                  go_simp
                                  with_reducible rfl
                                rotate_left
                                · simp only [Act.put, List.setIfInBounds_toArray, List.set_cons_zero, List.set_cons_succ, i64_w, i32_w]
                                  rfl
                                refine pure_ (i := 9) (N := some 84) (v := ?_) (a' := ?_) #[true, true, true, true, true, true, true, true, true, true, false, false] rfl rfl (any_of HT_.out (by kernel_rfl)) (fun _ _ _ h => h) (Or.inl ⟨by rfl, ?_⟩) ?_ ?_
                                rotate_left
                                · intro w'
                                  go_simp
                                  with_reducible rfl
                                rotate_left
                                · simp only [Act.put, List.setIfInBounds_toArray, List.set_cons_zero, List.set_cons_succ, i64_w, i32_w]
                                  rfl
                                refine pure_ (i := 10) (N := some 14) (v := ?_) (a' := ?_) #[true, true, true, true, true, true, true, true, true, true, true, false] rfl rfl (any_of HT_.out (by kernel_rfl)) (fun _ _ _ h => h) (Or.inl ⟨by rfl, ?_⟩) ?_ ?_
                                rotate_left
                                · intro w'
                                  go_simp
                                  with_reducible rfl
                                rotate_left
                                · simp only [Act.put, List.setIfInBounds_toArray, List.set_cons_zero, List.set_cons_succ, i64_w, i32_w]
                                  rfl
                                refine pure_ (i := 11) (N := some 15) (v := ?_) (a' := ?_) #[true, true, true, true, true, true, true, true, true, true, true, true] rfl rfl (any_of HT_.out (by kernel_rfl)) (fun _ _ _ h => h) (Or.inl ⟨by rfl, ?_⟩) ?_ ?_
                                rotate_left
                                · intro w'
                                  go_simp
                                  with_reducible rfl
                                rotate_left
                                · simp only [Act.put, List.setIfInBounds_toArray, List.set_cons_zero, List.set_cons_succ, i64_w, i32_w]
                                  rfl
                                refine done_ (done_of HT_.out (by kernel_rfl)) ?_
                                try go_wp2
                                have n0_ := Aside0.mk (Kd.R_drew HO_10.out)
                                have n1_ := Aside0.mk (Kd.R_drew HO1682.out)
                                have n2_ := Aside0.mk (below_drew1 HB.out)
                                clear HO_10
                                clear HO1682
                                clear HB
                                have HO_10 := n0_
                                have HO1682 := n1_
                                have HB := n2_
                                clear n0_ n1_ n2_
                                have p1683 : 0 ≤ ((ji19) : Int) := of_decide_eq_true (by first | (with_reducible assumption) | assumption)
                                have q1683 : (ji19) < (l0.length : Int) := of_decide_eq_true (by first | (with_reducible assumption) | assumption)
                                obtain ⟨ad1683, e1683, hx1683_0⟩ := Kd.at_string HR0.out (ji19) p1683 q1683
                                have hw1683_0 := hx1683_0
                                cases e1683
                                replace hx1683_0 := (HB.out.cell (World.block_lt_of_cell? w _ hx1683_0)).trans hx1683_0
                                replace p1683 := eq_true p1683
                                replace q1683 := eq_true q1683
                                have p1684 : 0 ≤ ((ji22) : Int) := of_decide_eq_true (by first | (with_reducible assumption) | assumption)
                                have q1684 : (ji22) < (l0.length : Int) := of_decide_eq_true (by first | (with_reducible assumption) | assumption)
                                obtain ⟨ad1684, e1684, hx1684_0⟩ := Kd.at_string HR0.out (ji22) p1684 q1684
                                have hw1684_0 := hx1684_0
                                obtain rfl : ad1683 = ad1684 := (by injection e1684)
                                replace hx1684_0 := (HB.out.cell (World.block_lt_of_cell? w _ hx1684_0)).trans hx1684_0
                                replace p1684 := eq_true p1684
                                replace q1684 := eq_true q1684
                                have p26 : 0 ≤ ((ji22) : Int) := of_decide_eq_true (by first | (with_reducible assumption) | assumption)
                                have q26 : ((ji22) : Int) < ((y1680.length : Int) : Int) := of_decide_eq_true (by first | (with_reducible assumption) | assumption)
                                obtain ⟨go26, co26, eo26, gb26, gl26, cl26, HG26⟩ := Kd.R_form HO1682.out (by omega)
                                (first | cases eo26 | (injection eo26 with ea_ en_ ec_; (first | subst ea_ | (injection ea_ with ea_; subst ea_)); subst ec_; clear en_))
                                have GB26 := Aside0.mk gb26
                                have GG26 := Aside0.mk HG26
                                clear gb26 gl26 HG26
                                obtain ⟨hx26_0, hf26_0⟩ := Kd.R_celln (⟨#[]⟩ : ByteArray) HO1682.out ((ji22) : Int) p26 q26
                                replace p26 := eq_true p26
                                replace q26 := eq_true q26
                                have HP34 := Kd.R_putn HO1682.out ((ji22) : Int) (rdOf ByteArray.empty l0 (ji19))
                                rw [← Ny1685.out] at HP34
                                have HQ34 := Aside0.mk HP34
                                clear HP34
                                have p28 : 0 ≤ ((ji19) : Int) := of_decide_eq_true (by first | (with_reducible assumption) | assumption)
                                have q28 : ((ji19) : Int) < ((y1680.length : Int) : Int) := of_decide_eq_true (by first | (with_reducible assumption) | assumption)
                                obtain ⟨hx28_0, hf28_0⟩ := Kd.R_celln (⟨#[]⟩ : ByteArray) HQ34.out ((ji19) : Int) p28 q28
                                replace p28 := eq_true p28
                                replace q28 := eq_true q28
                                have HP35 := Kd.R_putn HQ34.out ((ji19) : Int) (rdOf ByteArray.empty l0 (ji22))
                                rw [← Ny1686.out] at HP35
                                have HQ35 := Aside0.mk HP35
                                clear HP35
                                refine start_ (n := 16) (S := fun w' => w'.cell? (ad1683.add ((ji19)).toNat) = some (.string (rdOf ByteArray.empty l0 (ji19))) ∧ w'.cell? (ad1683.add ((ji22)).toNat) = some (.string (rdOf ByteArray.empty l0 (ji22)))) (ds := [13, 15]) #[false, false, false, false, false, false, false, false, false, false, false, false, false, false, false, false] (by kernel_rfl) rfl rfl ⟨((HB.out.cell (World.block_lt_of_cell? w _ hw1683_0)).trans hw1683_0), ((HB.out.cell (World.block_lt_of_cell? w _ hw1684_0)).trans hw1684_0)⟩ (fun hHeld => ?_); refine with_tabW paymasterlaw11_LedgerTurned.tab15 paymasterlaw11_LedgerTurned.bits15 (fun HT_ HW_ => ?_)
                                generalize w32.drew = w33 at HO_10 HO1682 HB GG26 HQ34 HQ35 hf26_0 hf28_0 hx1683_0 hx1684_0 hx26_0 hx28_0 hHeld ⊢
                                refine pure_ (i := 0) (N := some 85) (v := ?_) (a' := ?_) #[true, false, false, false, false, false, false, false, false, false, false, false, false, false, false, false] rfl rfl (any_of HT_.out (by kernel_rfl)) (fun _ _ _ h => h) (Or.inl ⟨by rfl, ?_⟩) ?_ ?_
                                rotate_left
                                · intro w'
                                  go_simp
                                  with_reducible rfl
                                rotate_left
                                · simp only [Act.put, List.setIfInBounds_toArray, List.set_cons_zero, List.set_cons_succ, i64_w, i32_w]
                                  rfl
                                refine pure_ (i := 1) (N := some 86) (v := ?_) (a' := ?_) #[true, true, false, false, false, false, false, false, false, false, false, false, false, false, false, false] rfl rfl (any_of HT_.out (by kernel_rfl)) (fun _ _ _ h => h) (Or.inl ⟨by rfl, ?_⟩) ?_ ?_
                                rotate_left
                                · intro w'
                                  go_simp
                                  with_reducible rfl
                                rotate_left
                                · simp only [Act.put, List.setIfInBounds_toArray, List.set_cons_zero, List.set_cons_succ, i64_w, i32_w]
                                  rfl
                                refine pure_ (i := 2) (N := some 87) (v := ?_) (a' := ?_) #[true, true, true, false, false, false, false, false, false, false, false, false, false, false, false, false] rfl rfl (any_of HT_.out (by kernel_rfl)) (fun _ _ _ h => h) (Or.inl ⟨by rfl, ?_⟩) ?_ ?_
                                rotate_left
                                · intro w'
                                  go_simp
                                  with_reducible rfl
                                rotate_left
                                · simp only [Act.put, List.setIfInBounds_toArray, List.set_cons_zero, List.set_cons_succ, i64_w, i32_w]
                                  rfl
                                refine pure_ (i := 3) (N := some 88) (v := ?_) (a' := ?_) #[true, true, true, true, false, false, false, false, false, false, false, false, false, false, false, false] rfl rfl (any_of HT_.out (by kernel_rfl)) (fun _ _ _ h => h) (Or.inl ⟨by rfl, ?_⟩) ?_ ?_
                                rotate_left
                                · intro w'
                                  go_simp
                                  with_reducible rfl
                                rotate_left
                                · simp only [Act.put, List.setIfInBounds_toArray, List.set_cons_zero, List.set_cons_succ, i64_w, i32_w]
                                  rfl
                                refine pure_ (i := 4) (N := some 89) (v := ?_) (a' := ?_) #[true, true, true, true, true, false, false, false, false, false, false, false, false, false, false, false] rfl rfl (any_of HT_.out (by kernel_rfl)) (fun _ _ _ h => h) (Or.inl ⟨by rfl, ?_⟩) ?_ ?_
                                rotate_left
                                · intro w'
                                  go_simp
                                  with_reducible rfl
                                rotate_left
                                · simp only [Act.put, List.setIfInBounds_toArray, List.set_cons_zero, List.set_cons_succ, i64_w, i32_w]
                                  rfl
                                refine pure_ (i := 5) (N := some 90) (v := ?_) (a' := ?_) #[true, true, true, true, true, true, false, false, false, false, false, false, false, false, false, false] rfl rfl (any_of HT_.out (by kernel_rfl)) (fun _ _ _ h => h) (Or.inl ⟨by rfl, ?_⟩) ?_ ?_
                                rotate_left
                                · intro w'
                                  go_simp
                                  with_reducible rfl
                                rotate_left
                                · simp only [Act.put, List.setIfInBounds_toArray, List.set_cons_zero, List.set_cons_succ, i64_w, i32_w]
                                  rfl
                                refine pure_ (i := 6) (N := some 91) (v := ?_) (a' := ?_) #[true, true, true, true, true, true, true, false, false, false, false, false, false, false, false, false] rfl rfl (any_of HT_.out (by kernel_rfl)) (fun _ _ _ h => h) (Or.inl ⟨by rfl, ?_⟩) ?_ ?_
                                rotate_left
                                · intro w'
                                  go_simp
                                  with_reducible rfl
                                rotate_left
                                · simp only [Act.put, List.setIfInBounds_toArray, List.set_cons_zero, List.set_cons_succ, i64_w, i32_w]
                                  rfl
                                refine pure_ (i := 8) (N := some 93) (v := ?_) (a' := ?_) #[true, true, true, true, true, true, true, false, true, false, false, false, false, false, false, false] rfl rfl (any_of HT_.out (by kernel_rfl)) (fun _ _ _ h => h) (Or.inl ⟨by rfl, ?_⟩) ?_ ?_
                                rotate_left
                                · intro w'
                                  go_simp
                                  with_reducible rfl
                                rotate_left
                                · simp only [Act.put, List.setIfInBounds_toArray, List.set_cons_zero, List.set_cons_succ, i64_w, i32_w]
                                  rfl
                                refine pure_ (i := 9) (N := some 94) (v := ?_) (a' := ?_) #[true, true, true, true, true, true, true, false, true, true, false, false, false, false, false, false] rfl rfl (any_of HT_.out (by kernel_rfl)) (fun _ _ _ h => h) (Or.inl ⟨by rfl, ?_⟩) ?_ ?_
                                rotate_left
                                · intro w'
                                  go_simp
                                  with_reducible rfl
                                rotate_left
                                · simp only [Act.put, List.setIfInBounds_toArray, List.set_cons_zero, List.set_cons_succ, i64_w, i32_w]
                                  rfl
                                refine pure_ (i := 10) (N := some 95) (v := ?_) (a' := ?_) #[true, true, true, true, true, true, true, false, true, true, true, false, false, false, false, false] rfl rfl (any_of HT_.out (by kernel_rfl)) (fun _ _ _ h => h) (Or.inl ⟨by rfl, ?_⟩) ?_ ?_
                                rotate_left
                                · intro w'
                                  go_simp
                                  with_reducible rfl
                                rotate_left
                                · simp only [Act.put, List.setIfInBounds_toArray, List.set_cons_zero, List.set_cons_succ, i64_w, i32_w]
                                  rfl
                                refine take_ (i := 7) (N := some 92) (v := ?_) (a' := ?_) #[true, true, true, true, true, true, true, true, true, true, true, false, false, false, false, false] rfl rfl (take_ofW HT_.out HW_.out (by kernel_rfl)) (fun _ _ _ h => h) (Or.inl ⟨by rfl, ?_⟩) hHeld ?_ ?_
                                rotate_left
                                · rintro w' ⟨s0, s1⟩
                                  go_simp
                                  with_reducible rfl
                                rotate_left
                                · simp only [Act.put, List.setIfInBounds_toArray, List.set_cons_zero, List.set_cons_succ, i64_w, i32_w]
                                  rfl
                                refine take_ (i := 11) (N := some 96) (v := ?_) (a' := ?_) #[true, true, true, true, true, true, true, true, true, true, true, true, false, false, false, false] rfl rfl (take_ofW HT_.out HW_.out (by kernel_rfl)) (fun _ _ _ h => h) (Or.inl ⟨by rfl, ?_⟩) hHeld ?_ ?_
                                rotate_left
                                · rintro w' ⟨s0, s1⟩
                                  go_simp
                                  with_reducible rfl
                                rotate_left
                                · simp only [Act.put, List.setIfInBounds_toArray, List.set_cons_zero, List.set_cons_succ, i64_w, i32_w]
                                  rfl
                                refine pure_ (i := 12) (N := some 97) (v := ?_) (a' := ?_) #[true, true, true, true, true, true, true, true, true, true, true, true, true, false, false, false] rfl rfl (any_of HT_.out (by kernel_rfl)) (fun _ _ _ h => h) (Or.inl ⟨by rfl, ?_⟩) ?_ ?_
                                rotate_left
                                · intro w'
                                  go_simp
                                  with_reducible rfl
                                rotate_left
                                · simp only [Act.put, List.setIfInBounds_toArray, List.set_cons_zero, List.set_cons_succ, i64_w, i32_w]
                                  rfl
                                refine last_ (i := 13) (N := none) #[true, true, true, true, true, true, true, true, true, true, true, true, true, true, false, false] rfl rfl (one_of HT_.out (by kernel_rfl)) (by decide) (fun K hK => ?_)
                                refine skip_ (w1 := ?_) (by rfl) rfl ?_ ?_
                                rotate_left
                                · go_simp
                                  rfl
                                refine hK.out _ _ ?_
                                clear hK K
                                refine pure_ (i := 14) (N := some 98) (v := ?_) (a' := ?_) #[true, true, true, true, true, true, true, true, true, true, true, true, true, true, true, false] rfl rfl (any_of HT_.out (by kernel_rfl)) (fun _ _ _ h => h) (Or.inl ⟨by rfl, ?_⟩) ?_ ?_
                                rotate_left
                                · intro w'
                                  go_simp
                                  with_reducible rfl
                                rotate_left
                                · simp only [Act.put, List.setIfInBounds_toArray, List.set_cons_zero, List.set_cons_succ, i64_w, i32_w]
                                  rfl
                                refine last_ (i := 15) (N := none) #[true, true, true, true, true, true, true, true, true, true, true, true, true, true, true, true] rfl rfl (one_of HT_.out (by kernel_rfl)) (by decide) (fun K hK => ?_)
                                refine skip_ (w1 := ?_) (by rfl) rfl ?_ ?_
                                rotate_left
                                · go_simp
                                  rfl
                                refine hK.out _ _ ?_
                                clear hK K
                                refine done_ (done_of HT_.out (by kernel_rfl)) ?_
                                try go_wp2
                                go_loopg [11, 16] k2 (fun kq v11 v16 w' => ∃ (x11_3 : List ByteArray) (x16_3 : Int), v16 = .int .i64 x16_3 ∧ Aside0 (paymasterlaw11_LedgerTurned.l1 kq l0 a1 x10_2 x11_3 y1686 ji22 x16_3 = some r) ∧ Aside0 (kq ≤ k2) ∧ Aside0 (Kd.R Kd.string 9 w' w.heap.size (fun k_ => some k_ ≠ (v11 : Value).ownBlock ∧ some k_ ≠ ((.slice (some ⟨go26, 0, none⟩) y1680.length co26) : Value).ownBlock) u10 x10_2) ∧ Aside0 (Kd.R Kd.string 9 w' w.heap.size (fun k_ => some k_ ≠ (u10 : Value).ownBlock ∧ some k_ ≠ ((.slice (some ⟨go26, 0, none⟩) y1680.length co26) : Value).ownBlock) v11 x11_3) ∧ Aside0 (Kd.R Kd.string 9 w' w.heap.size (fun k_ => some k_ ≠ (u10 : Value).ownBlock ∧ some k_ ≠ (v11 : Value).ownBlock) (.slice (some ⟨go26, 0, none⟩) y1680.length co26) y1686) ∧ Aside0 (Below w.heap.size w w'))
                                case atStart => exact ⟨(([] : List ByteArray)), (0), (by first | rfl | (simp; done) | (simp [*]; done)), H', ⟨Nat.le_refl _⟩, ⟨by (with_reducible repeat (first | apply Kd.R_alloc | apply Kd.R_drewN | apply Kd.R_drew)); exact Kd.R_mono (Kd.R_far (p := ⟨go26, ((ji19) : Int).toNat, none⟩) (Kd.R_far (p := ⟨go26, ((ji22) : Int).toNat, none⟩) (Kd.R_mono HO_10.out (fun k_ hk => (⟨hk, fun e_ => hk.2 (by rw [e_]; rfl)⟩ : _ ∧ k_ ≠ go26))) (fun _ hk => hk.2) (.string (rdOf ByteArray.empty l0 (ji19)))) (fun _ hk => hk.2) (.string (rdOf ByteArray.empty l0 (ji22)))) (fun _ hk => ⟨(by simp [Value.ownBlock]), hk.1.2⟩)⟩, ⟨by first | exact Kd.R_nil _ _ _ _ _ | exact Kd.N_nil _ _ _ _ _ | exact Kd.V_nil _ _ _ _ _ | exact Kd.Q_nil _ _ _ _ _ | exact Kd.S_nil _ _ _ _ _⟩, ⟨by (with_reducible repeat (first | apply Kd.R_alloc | apply Kd.R_drewN | apply Kd.R_drew)); exact Kd.R_mono HQ35.out (fun _ hk => ⟨hk, (by simp [Value.ownBlock])⟩)⟩, ⟨by repeat (first | (with_reducible first | exact HB.out | apply below_alloc | apply pw_below_drewN | apply below_drew1 | refine below_set ?_ GB26.out | refine below_set ?_ GB26.out) | exact HB.out)⟩⟩
                                case round =>
                                  clear H'
                                  try clear c1
                                  try clear p1
                                  try clear q1
                                  try clear hx1
                                  try clear c2
                                  try clear p2
                                  try clear q2
                                  try clear hx2
                                  try clear c6
                                  try clear p6
                                  try clear c9
                                  try clear c9b0
                                  try clear c9b1
                                  try clear c9b2
                                  try clear c10
                                  try clear c11
                                  try clear c11b0
                                  try clear c12
                                  try clear c12b0
                                  try clear c13
                                  try clear c13b0
                                  try clear c14
                                  try clear c14b0
                                  try clear c14b1
                                  try clear c15
                                  try clear p16
                                  try clear q16
                                  try clear hx16
                                  try clear c17
                                  try clear c18
                                  try clear c18b0
                                  try clear c18b1
                                  try clear c19
                                  try clear c20
                                  try clear c20b0
                                  try clear c21
                                  try clear c21b0
                                  try clear c23
                                  try clear c23b0
                                  try clear c24
                                  try clear c24b0
                                  try clear c25
                                  try clear c25b0
                                  try clear p26
                                  try clear q26
                                  try clear hx26
                                  try clear hf26
                                  try clear c27
                                  try clear c27b0
                                  try clear p28
                                  try clear q28
                                  try clear hx28
                                  try clear hf28
                                  try clear c29
                                  try clear hx1662_0
                                  try clear hx1663_0
                                  try clear hx1683_0
                                  try clear hx1684_0
                                  try clear hx26_0
                                  try clear hx28_0
                                  try clear p1662
                                  try clear p1663
                                  try clear p1683
                                  try clear p1684
                                  try clear p2
                                  try clear p26
                                  try clear p28
                                  try clear p6
                                  try clear q1662
                                  try clear q1663
                                  try clear q1683
                                  try clear q1684
                                  try clear q26
                                  try clear q28
                                  obtain ⟨x11_3, x16_3, rfl, HA, HK3, HO_10, HO_11, HO_13, HB⟩ := hrel
                                  have hl13_3 := (Kd.R_reads' HO_13.out).1
                                  rw [hl13_3] at HO_13
                                  (try simp only [hl13_3])
                                  (try simp only [hl13_3] at HO_10)
                                  (try simp only [hl13_3] at HO_11)
                                  cases gk with
                                  | zero => exact absurd HA.out (by simp [paymasterlaw11_LedgerTurned.l1])
                                  | succ k3 =>
                                    have H := HA.out
                                    clear HA
                                    simp only [paymasterlaw11_LedgerTurned.l1] at H
                                    by_cases c36 : x16_3 < (l0.length : Int)
                                    · rw [if_pos c36] at H
                                      have c36b0 : decide (x16_3 < (l0.length : Int)) = true := decide_eq_true c36
                                      clear c36
                                      by_cases c37 : 0 ≤ ji22
                                      · rw [if_pos c37] at H
                                        have c37b0 : decide (0 ≤ ji22) = true := decide_eq_true c37
                                        clear c37
                                        by_cases c38 : ji22 < (l0.length : Int)
                                        · rw [if_pos c38] at H
                                          have c38b0 : decide (ji22 < (l0.length : Int)) = true := decide_eq_true c38
                                          clear c38
                                          by_cases c39 : 2 + (rdOf ByteArray.empty l0 ji22).size ≤ 9223372036854775807
                                          · rw [if_pos c39] at H
                                            have c39b0 := eq_true c39
                                            have c39b1 : decide (2 + (rdOf ByteArray.empty l0 ji22).size ≤ 9223372036854775807) = true := decide_eq_true c39
                                            try have c39b2 : (9223372036854775807 < 2 + (rdOf ByteArray.empty l0 ji22).size) = False := eq_false (Nat.not_lt.2 c39)
                                            by_cases c40 : 0 ≤ x16_3
                                            · rw [if_pos c40] at H
                                              have c40b0 : decide (0 ≤ x16_3) = true := decide_eq_true c40
                                              clear c40
                                              obtain ⟨y1689, hy1689⟩ : ∃ y_ : List ByteArray, y_ = (([(⟨#[]⟩ : ByteArray), (⟨#[35, 32]⟩ : ByteArray) ++ (rdOf ByteArray.empty l0 ji22), rdOf ByteArray.empty l0 x16_3] : List ByteArray)) := ⟨_, rfl⟩
                                              replace H : (if x11_3.length + y1689.length < 8796093022208 then (paymasterlaw11_LedgerTurned.l1 k3 l0 a1 x10_2 (x11_3 ++ y1689) y1686 ji22 (wrap64 (x16_3 + 1))) else (none)) = some r := by first | (rw [hy1689]; with_reducible exact H) | (have H2_ := (Option.bind_some _ _).symm.trans H; rw [hy1689]; with_reducible exact H2_) | (have H2_ := (Option.bind_some _ _).symm.trans H; with_reducible exact H2_) | with_reducible exact H | (rw [hy1689]; exact H) | exact H
                                              have Ny1689 := Aside0.mk hy1689
                                              clear hy1689
                                              by_cases c41 : x11_3.length + y1689.length < 8796093022208
                                              · rw [if_pos c41] at H
                                                have LMc41 := Aside0.mk c41
                                                clear c41
                                                obtain ⟨y1692, hy1692⟩ : ∃ y_ : List ByteArray, y_ = (x11_3 ++ y1689) := ⟨_, rfl⟩
                                                replace H : (paymasterlaw11_LedgerTurned.l1 k3 l0 a1 x10_2 y1692 y1686 ji22 (wrap64 (x16_3 + 1))) = some r := by first | (rw [hy1692]; with_reducible exact H) | (have H2_ := (Option.bind_some _ _).symm.trans H; rw [hy1692]; with_reducible exact H2_) | (have H2_ := (Option.bind_some _ _).symm.trans H; with_reducible exact H2_) | with_reducible exact H | (rw [hy1692]; exact H) | exact H
                                                have Ny1692 := Aside0.mk hy1692
                                                clear hy1692
                                                have H' := Aside0.mk H
                                                clear H
                                                try go_wp2
                                                have n0_ := Aside0.mk (Kd.R_drew HO_10.out)
                                                have n1_ := Aside0.mk (Kd.R_drew HO_11.out)
                                                have n2_ := Aside0.mk (Kd.R_drew HO_13.out)
                                                have n3_ := Aside0.mk (below_drew1 HB.out)
                                                clear HO_10
                                                clear HO_11
                                                clear HO_13
                                                clear HB
                                                have HO_10 := n0_
                                                have HO_11 := n1_
                                                have HO_13 := n2_
                                                have HB := n3_
                                                clear n0_ n1_ n2_ n3_
                                                have p1687 : 0 ≤ (ji22 : Int) := of_decide_eq_true (by first | (with_reducible assumption) | assumption)
                                                have q1687 : ji22 < (l0.length : Int) := of_decide_eq_true (by first | (with_reducible assumption) | assumption)
                                                obtain ⟨ad1687, e1687, hx1687_0⟩ := Kd.at_string HR0.out ji22 p1687 q1687
                                                have hw1687_0 := hx1687_0
                                                obtain rfl : ad1683 = ad1687 := (by injection e1687)
                                                replace hx1687_0 := (HB.out.cell (World.block_lt_of_cell? w _ hx1687_0)).trans hx1687_0
                                                replace p1687 := eq_true p1687
                                                replace q1687 := eq_true q1687
                                                have p1688 : 0 ≤ (x16_3 : Int) := of_decide_eq_true (by first | (with_reducible assumption) | assumption)
                                                have q1688 : x16_3 < (l0.length : Int) := of_decide_eq_true (by first | (with_reducible assumption) | assumption)
                                                obtain ⟨ad1688, e1688, hx1688_0⟩ := Kd.at_string HR0.out x16_3 p1688 q1688
                                                have hw1688_0 := hx1688_0
                                                obtain rfl : ad1683 = ad1688 := (by injection e1688)
                                                replace hx1688_0 := (HB.out.cell (World.block_lt_of_cell? w _ hx1688_0)).trans hx1688_0
                                                replace p1688 := eq_true p1688
                                                replace q1688 := eq_true q1688
                                                refine start_ (n := 13) (S := fun w' => w'.cell? (ad1683.add (ji22).toNat) = some (.string (rdOf ByteArray.empty l0 ji22)) ∧ w'.cell? (ad1683.add (x16_3).toNat) = some (.string (rdOf ByteArray.empty l0 x16_3))) (ds := []) #[false, false, false, false, false, false, false, false, false, false, false, false, false] (by kernel_rfl) rfl rfl ⟨((HB.out.cell (World.block_lt_of_cell? w _ hw1687_0)).trans hw1687_0), ((HB.out.cell (World.block_lt_of_cell? w _ hw1688_0)).trans hw1688_0)⟩ (fun hHeld => ?_); refine with_tabW paymasterlaw11_LedgerTurned.tab19 paymasterlaw11_LedgerTurned.bits19 (fun HT_ HW_ => ?_)
                                                generalize wr.drew = w42 at HO_10 HO_11 HO_13 HB hx1687_0 hx1688_0 hHeld ⊢
                                                refine pure_ (i := 0) (N := some 105) (v := ?_) (a' := ?_) #[true, false, false, false, false, false, false, false, false, false, false, false, false] rfl rfl (any_of HT_.out (by kernel_rfl)) (fun _ _ _ h => h) (Or.inl ⟨by rfl, ?_⟩) ?_ ?_
                                                rotate_left
                                                · intro w'
                                                  go_simp
                                                  with_reducible rfl
                                                rotate_left
                                                · simp only [Act.put, List.setIfInBounds_toArray, List.set_cons_zero, List.set_cons_succ, i64_w, i32_w]
                                                  rfl
                                                refine pure_ (i := 1) (N := some 106) (v := ?_) (a' := ?_) #[true, true, false, false, false, false, false, false, false, false, false, false, false] rfl rfl (any_of HT_.out (by kernel_rfl)) (fun _ _ _ h => h) (Or.inl ⟨by rfl, ?_⟩) ?_ ?_
                                                rotate_left
                                                · intro w'
                                                  go_simp
                                                  with_reducible rfl
                                                rotate_left
                                                · simp only [Act.put, List.setIfInBounds_toArray, List.set_cons_zero, List.set_cons_succ, i64_w, i32_w]
                                                  rfl
                                                refine pure_ (i := 2) (N := some 107) (v := ?_) (a' := ?_) #[true, true, true, false, false, false, false, false, false, false, false, false, false] rfl rfl (any_of HT_.out (by kernel_rfl)) (fun _ _ _ h => h) (Or.inl ⟨by rfl, ?_⟩) ?_ ?_
                                                rotate_left
                                                · intro w'
                                                  go_simp
                                                  with_reducible rfl
                                                rotate_left
                                                · simp only [Act.put, List.setIfInBounds_toArray, List.set_cons_zero, List.set_cons_succ, i64_w, i32_w]
                                                  rfl
                                                refine pure_ (i := 3) (N := some 108) (v := ?_) (a' := ?_) #[true, true, true, true, false, false, false, false, false, false, false, false, false] rfl rfl (any_of HT_.out (by kernel_rfl)) (fun _ _ _ h => h) (Or.inl ⟨by rfl, ?_⟩) ?_ ?_
                                                rotate_left
                                                · intro w'
                                                  go_simp
                                                  with_reducible rfl
                                                rotate_left
                                                · simp only [Act.put, List.setIfInBounds_toArray, List.set_cons_zero, List.set_cons_succ, i64_w, i32_w]
                                                  rfl
                                                refine pure_ (i := 6) (N := some 111) (v := ?_) (a' := ?_) #[true, true, true, true, false, false, true, false, false, false, false, false, false] rfl rfl (any_of HT_.out (by kernel_rfl)) (fun _ _ _ h => h) (Or.inl ⟨by rfl, ?_⟩) ?_ ?_
                                                rotate_left
                                                · intro w'
                                                  go_simp
                                                  with_reducible rfl
                                                rotate_left
                                                · simp only [Act.put, List.setIfInBounds_toArray, List.set_cons_zero, List.set_cons_succ, i64_w, i32_w]
                                                  rfl
                                                refine pure_ (i := 7) (N := some 112) (v := ?_) (a' := ?_) #[true, true, true, true, false, false, true, true, false, false, false, false, false] rfl rfl (any_of HT_.out (by kernel_rfl)) (fun _ _ _ h => h) (Or.inl ⟨by rfl, ?_⟩) ?_ ?_
                                                rotate_left
                                                · intro w'
                                                  go_simp
                                                  with_reducible rfl
                                                rotate_left
                                                · simp only [Act.put, List.setIfInBounds_toArray, List.set_cons_zero, List.set_cons_succ, i64_w, i32_w]
                                                  rfl
                                                refine pure_ (i := 8) (N := some 113) (v := ?_) (a' := ?_) #[true, true, true, true, false, false, true, true, true, false, false, false, false] rfl rfl (any_of HT_.out (by kernel_rfl)) (fun _ _ _ h => h) (Or.inl ⟨by rfl, ?_⟩) ?_ ?_
                                                rotate_left
                                                · intro w'
                                                  go_simp
                                                  with_reducible rfl
                                                rotate_left
                                                · simp only [Act.put, List.setIfInBounds_toArray, List.set_cons_zero, List.set_cons_succ, i64_w, i32_w]
                                                  rfl
                                                refine take_ (i := 4) (N := some 109) (v := ?_) (a' := ?_) #[true, true, true, true, true, false, true, true, true, false, false, false, false] rfl rfl (take_ofW HT_.out HW_.out (by kernel_rfl)) (fun _ _ _ h => h) (Or.inl ⟨by rfl, ?_⟩) hHeld ?_ ?_
                                                rotate_left
                                                · rintro w' ⟨s0, s1⟩
                                                  go_simp
                                                  with_reducible rfl
                                                rotate_left
                                                · simp only [Act.put, List.setIfInBounds_toArray, List.set_cons_zero, List.set_cons_succ, i64_w, i32_w]
                                                  rfl
                                                refine pure_ (i := 5) (N := some 110) (v := ?_) (a' := ?_) #[true, true, true, true, true, true, true, true, true, false, false, false, false] rfl rfl (any_of HT_.out (by kernel_rfl)) (fun _ _ _ h => h) (Or.inl ⟨by rfl, ?_⟩) ?_ ?_
                                                rotate_left
                                                · intro w'
                                                  go_simp
                                                  with_reducible rfl
                                                rotate_left
                                                · simp only [Act.put, List.setIfInBounds_toArray, List.set_cons_zero, List.set_cons_succ, i64_w, i32_w]
                                                  rfl
                                                refine take_ (i := 9) (N := some 114) (v := ?_) (a' := ?_) #[true, true, true, true, true, true, true, true, true, true, false, false, false] rfl rfl (take_ofW HT_.out HW_.out (by kernel_rfl)) (fun _ _ _ h => h) (Or.inl ⟨by rfl, ?_⟩) hHeld ?_ ?_
                                                rotate_left
                                                · rintro w' ⟨s0, s1⟩
                                                  go_simp
                                                  with_reducible rfl
                                                rotate_left
                                                · simp only [Act.put, List.setIfInBounds_toArray, List.set_cons_zero, List.set_cons_succ, i64_w, i32_w]
                                                  rfl
                                                refine one_ (i := 10) (N := some 115) #[true, true, true, true, true, true, true, true, true, true, true, false, false] rfl rfl (one_of HT_.out (by kernel_rfl)) (by decide) (fun K hK => ?_)
                                                refine Kd.R_lit_step Kd.string _ 9 ?hg (N := 115) ?hd (xs := ([(⟨#[]⟩ : ByteArray), (⟨#[35, 32]⟩ : ByteArray) ++ (rdOf ByteArray.empty l0 ji22), rdOf ByteArray.empty l0 x16_3] : List ByteArray)) (inner := [.string (⟨#[]⟩ : ByteArray), .string ((⟨#[35, 32]⟩ : ByteArray) ++ (rdOf ByteArray.empty l0 ji22)), .string (rdOf ByteArray.empty l0 x16_3)]) (ok := fun _ => True) (okp := fun _ => True) ?hr ?hp (fun _ hk => hk) trivial (Below.refl _ _) (Nat.le_refl _) (by simp) ?_; (case hd => rfl); (case hg => rfl); (case hr => first | (go_simp; done) | (go_simp; rfl)); (case hp => exact (Reps.one (show Kd.M Kd.string _ _ _ (⟨#[]⟩ : ByteArray) [.string (⟨#[]⟩ : ByteArray)] from rfl) (Reps.one (show Kd.M Kd.string _ _ _ ((⟨#[35, 32]⟩ : ByteArray) ++ (rdOf ByteArray.empty l0 ji22)) [.string ((⟨#[35, 32]⟩ : ByteArray) ++ (rdOf ByteArray.empty l0 ji22))] from rfl) (Reps.one (show Kd.M Kd.string _ _ _ (rdOf ByteArray.empty l0 x16_3) [.string (rdOf ByteArray.empty l0 x16_3)] from rfl) (Reps.none _ _)))))
                                                intro v1690 w43 ho44 hb hg_ hnew_
                                                clear hg_ hnew_
                                                (first | rw [← Ny1689.out] at ho44 | (simp only [Int.reduceToNat] at ho44; rw [← Ny1689.out] at ho44))
                                                have n0_ := Aside0.mk (Kd.R_elder' (by (with_reducible repeat (first | apply Kd.R_alloc | apply Kd.R_drewN | apply Kd.R_drew)); exact HO_10.out) (Kd.R_base ho44) hb)
                                                have n1_ := Aside0.mk (Kd.R_elder' (by (with_reducible repeat (first | apply Kd.R_alloc | apply Kd.R_drewN | apply Kd.R_drew)); exact HO_11.out) (Kd.R_base ho44) hb)
                                                have n2_ := Aside0.mk (Kd.R_elder' (by (with_reducible repeat (first | apply Kd.R_alloc | apply Kd.R_drewN | apply Kd.R_drew)); exact HO_13.out) (Kd.R_base ho44) hb)
                                                have n3_ := Aside0.mk (Kd.R_lower (Kd.R_new' (Kd.R_new' (Kd.R_new' ho44 (Kd.R_lt (by (with_reducible repeat (first | apply Kd.R_alloc | apply Kd.R_drewN | apply Kd.R_drew)); exact HO_10.out))) (Kd.R_lt (by (with_reducible repeat (first | apply Kd.R_alloc | apply Kd.R_drewN | apply Kd.R_drew)); exact HO_11.out))) (Kd.R_lt (by (with_reducible repeat (first | apply Kd.R_alloc | apply Kd.R_drewN | apply Kd.R_drew)); exact HO_13.out))) (below_size (by repeat (first | (with_reducible first | exact HB.out | apply below_alloc | apply pw_below_drewN | apply below_drew1) | exact HB.out))))
                                                have n4_ := Aside0.mk (below_step (by repeat (first | (with_reducible first | exact HB.out | apply below_alloc | apply pw_below_drewN | apply below_drew1) | exact HB.out)) hb)
                                                clear HO_10
                                                clear HO_11
                                                clear HO_13
                                                clear HB
                                                have HO_10 := n0_
                                                have HO_11 := n1_
                                                have HO_13 := n2_
                                                have HO1691 := n3_
                                                have HB := n4_
                                                clear n0_ n1_ n2_ n3_ n4_
                                                clear hb ho44
                                                obtain ⟨Ao46, co46, eo46⟩ := Kd.R_slice HO1691.out
                                                (first | subst eo46 | (injection eo46 with f1_ f2_ f3_; have f4_ := f1_.symm; have f5_ := f3_.symm; clear f1_ f2_ f3_; subst f4_; subst f5_))
                                                refine hK.out _ _ ⟨((HB.out.cell (World.block_lt_of_cell? w _ hw1687_0)).trans hw1687_0), ((HB.out.cell (World.block_lt_of_cell? w _ hw1688_0)).trans hw1688_0)⟩ (fun hHeld => ?_)
                                                clear hK K
                                                refine norm_ (a' := ?_) ?_ ?_
                                                rotate_left
                                                · show Act.put _ (some 115) _ = _
                                                  simp only [Act.put, List.setIfInBounds_toArray, List.set_cons_zero, List.set_cons_succ, i64_w, i32_w]
                                                  rfl
                                                refine one_ (i := 11) (N := some 116) #[true, true, true, true, true, true, true, true, true, true, true, true, false] rfl rfl (one_of HT_.out (by kernel_rfl)) (by decide) (fun K hK => ?_)
                                                refine Kd.R_append_rows_step Kd.string (w0 := w) w.heap.size (by rfl) (.tmp 105) (.tmp 115) 51 9 (.string ⟨#[]⟩) 16 rfl Tryd.underlying51 info9 rfl (by decide) (by omega) u11 x11_3 y1689 _ _ _ (fun k_ => some k_ ≠ (u10 : Value).ownBlock ∧ some k_ ≠ (.slice (some ⟨go26, 0, none⟩) y1686.length co26 : Value).ownBlock ∧ some k_ ≠ (.slice Ao46 y1689.length co46 : Value).ownBlock) (fun _ => False) rfl rfl ?aO ?aR (fun _ _ h => h) (fun _ h => h.elim) ?aF ?aB ?aS ?aL ?_
                                                (case aR => repeat (first | exact (Kd.R_reads' HO1691.out).2.2 | (with_reducible refine Kd.C_alloc ?_ _) | (with_reducible refine Kd.C_drewN ?_ _) | (with_reducible refine Kd.C_drew ?_)))
                                                (case aB => exact (by repeat (first | (with_reducible first | exact HB.out | apply below_alloc | apply pw_below_drewN | apply below_drew1) | exact HB.out)))
                                                (case aF => exact (fun k_ hk => ⟨Kd.fresh' (Kd.R_lt (by (with_reducible repeat (first | apply Kd.R_alloc | apply Kd.R_drewN | apply Kd.R_drew)); exact HO_10.out)) k_ hk, Kd.fresh' (Kd.R_lt (by (with_reducible repeat (first | apply Kd.R_alloc | apply Kd.R_drewN | apply Kd.R_drew)); exact HO_13.out)) k_ hk, Kd.fresh' (Kd.R_lt (by (with_reducible repeat (first | apply Kd.R_alloc | apply Kd.R_drewN | apply Kd.R_drew)); exact HO1691.out)) k_ hk⟩))
                                                (case aO => exact (by (with_reducible repeat (first | apply Kd.R_alloc | apply Kd.R_drewN | apply Kd.R_drew)); exact Kd.R_mono HO_11.out (fun _ hk => ⟨hk.1.1, ⟨hk.1.2, hk.2⟩⟩)))
                                                (case aS => exact (below_size (by repeat (first | (with_reducible first | exact HB.out | apply below_alloc | apply pw_below_drewN | apply below_drew1) | exact HB.out))))
                                                (case aL => have := LMc41.out; omega)
                                                intro v1693 w45 ho hb hg hat
                                                rw [← Ny1692.out] at ho
                                                have n0_ := Aside0.mk (Kd.R_after (ok := (fun k_ => some k_ ≠ (.slice (some ⟨go26, 0, none⟩) y1686.length co26 : Value).ownBlock ∧ some k_ ≠ (.slice Ao46 y1689.length co46 : Value).ownBlock)) (by (with_reducible repeat (first | apply Kd.R_alloc | apply Kd.R_drewN | apply Kd.R_drew)); exact Kd.R_mono HO_10.out (fun _ hk => ⟨⟨hk.1.2, hk.2⟩, hk.1.1⟩)) hg hat)
                                                have n1_ := Aside0.mk (Kd.R_after (ok := (fun k_ => some k_ ≠ (u10 : Value).ownBlock ∧ some k_ ≠ (.slice Ao46 y1689.length co46 : Value).ownBlock)) (by (with_reducible repeat (first | apply Kd.R_alloc | apply Kd.R_drewN | apply Kd.R_drew)); exact Kd.R_mono HO_13.out (fun _ hk => ⟨⟨hk.1.1, hk.2⟩, hk.1.2⟩)) hg hat)
                                                have n2_ := Aside0.mk (Kd.R_after (ok := (fun k_ => some k_ ≠ (u10 : Value).ownBlock ∧ some k_ ≠ (.slice (some ⟨go26, 0, none⟩) y1686.length co26 : Value).ownBlock)) (by (with_reducible repeat (first | apply Kd.R_alloc | apply Kd.R_drewN | apply Kd.R_drew)); exact Kd.R_mono HO1691.out (fun _ hk => ⟨⟨hk.1.1.2, hk.2⟩, hk.1.2⟩)) hg hat)
                                                have n3_ := Aside0.mk (hb)
                                                have n4_ := Aside0.mk (ho)
                                                clear HO_10
                                                clear HO_13
                                                clear HO1691
                                                clear HB
                                                clear HO_11
                                                have HO_10 := n0_
                                                have HO_13 := n1_
                                                have HO1691 := n2_
                                                have HB := n3_
                                                have HO1694 := n4_
                                                clear n0_ n1_ n2_ n3_ n4_
                                                clear ho hb hg hat
                                                refine hK.out _ _ ⟨((HB.out.cell (World.block_lt_of_cell? w _ hw1687_0)).trans hw1687_0), ((HB.out.cell (World.block_lt_of_cell? w _ hw1688_0)).trans hw1688_0)⟩ (fun hHeld => ?_)
                                                clear hK K
                                                refine norm_ (a' := ?_) ?_ ?_
                                                rotate_left
                                                · show Act.put _ (some 116) _ = _
                                                  simp only [Act.put, List.setIfInBounds_toArray, List.set_cons_zero, List.set_cons_succ, i64_w, i32_w]
                                                  rfl
                                                refine pure_ (i := 12) (N := some 11) (v := ?_) (a' := ?_) #[true, true, true, true, true, true, true, true, true, true, true, true, true] rfl rfl (any_of HT_.out (by kernel_rfl)) (fun _ _ _ h => h) (Or.inl ⟨by rfl, ?_⟩) ?_ ?_
                                                rotate_left
                                                · intro w'
                                                  go_simp
                                                  with_reducible rfl
                                                rotate_left
                                                · simp only [Act.put, List.setIfInBounds_toArray, List.set_cons_zero, List.set_cons_succ, i64_w, i32_w]
                                                  rfl
                                                refine done_ (done_of HT_.out (by kernel_rfl)) ?_
                                                try go_wp2
                                                (try simp only [← hl13_3])
                                                go_roundg k3
                                                case measure => have := HJ6.out; have := HK2.out; have := HK3.out; omega
                                                case rel => exact ⟨(y1692), (wrap64 (x16_3 + 1)), (by first | rfl | (simp; done) | (simp [*]; done)), H', ⟨by have := HJ6.out; have := HK2.out; have := HK3.out; omega⟩, ⟨by (try simp only [hl13_3]); (with_reducible repeat (first | apply Kd.R_alloc | apply Kd.R_drewN | apply Kd.R_drew)); exact Kd.R_mono HO_10.out (fun _ hk => ⟨hk.2, hk.1.1⟩)⟩, ⟨by (try simp only [hl13_3]); (with_reducible repeat (first | apply Kd.R_alloc | apply Kd.R_drewN | apply Kd.R_drew)); exact Kd.R_mono HO1694.out (fun _ hk => ⟨hk.1, hk.2.1⟩)⟩, ⟨by (try simp only [hl13_3]); (with_reducible repeat (first | apply Kd.R_alloc | apply Kd.R_drewN | apply Kd.R_drew)); exact Kd.R_mono HO_13.out (fun _ hk => ⟨hk.1.1, hk.2⟩)⟩, ⟨by repeat (first | (with_reducible first | exact HB.out | apply below_alloc | apply pw_below_drewN | apply below_drew1) | exact HB.out)⟩⟩
                                              · rw [if_neg c41] at H
                                                exact absurd H (by simp)
                                            · rw [if_neg c40] at H
                                              exact absurd H (by simp)
                                          · rw [if_neg c39] at H
                                            exact absurd H (by simp)
                                        · rw [if_neg c38] at H
                                          exact absurd H (by simp)
                                      · rw [if_neg c37] at H
                                        exact absurd H (by simp)
                                    · rw [if_neg c36] at H
                                      have c36b0 : decide (x16_3 < (l0.length : Int)) = false := decide_eq_false c36
                                      clear c36
                                      replace H := Option.bind_eq_some_iff.mp H
                                      obtain ⟨⟨t1708, t1709⟩, A470, H⟩ := H
                                      replace H : ((lines_Join.f x10_2).bind fun bt1710 => ((lines_Join.f y1686).bind fun bt1712 => ((lines_Join.f x11_3).bind fun bt1714 => (if t1709 = 0 then (if bt1710.2 = 0 then (if bt1712.2 = 0 then (paymasterlaw11_LedgerTurned.j3 k3 l0 a1 ji22 t1708 t1709 bt1710.1 bt1710.2 bt1712.1 bt1712.2 bt1714.1 bt1714.2 (bt1714.2 != 0)) else (paymasterlaw11_LedgerTurned.j3 k3 l0 a1 ji22 t1708 t1709 bt1710.1 bt1710.2 bt1712.1 bt1712.2 bt1714.1 bt1714.2 true)) else (paymasterlaw11_LedgerTurned.j3 k3 l0 a1 ji22 t1708 t1709 bt1710.1 bt1710.2 bt1712.1 bt1712.2 bt1714.1 bt1714.2 true)) else (paymasterlaw11_LedgerTurned.j3 k3 l0 a1 ji22 t1708 t1709 bt1710.1 bt1710.2 bt1712.1 bt1712.2 bt1714.1 bt1714.2 true))))) = some r := H
                                      have A47 := Aside0.mk A470
                                      clear A470
                                      replace H := Option.bind_eq_some_iff.mp H
                                      obtain ⟨⟨t1710, t1711⟩, A480, H⟩ := H
                                      replace H : ((lines_Join.f y1686).bind fun bt1712 => ((lines_Join.f x11_3).bind fun bt1714 => (if t1709 = 0 then (if t1711 = 0 then (if bt1712.2 = 0 then (paymasterlaw11_LedgerTurned.j3 k3 l0 a1 ji22 t1708 t1709 t1710 t1711 bt1712.1 bt1712.2 bt1714.1 bt1714.2 (bt1714.2 != 0)) else (paymasterlaw11_LedgerTurned.j3 k3 l0 a1 ji22 t1708 t1709 t1710 t1711 bt1712.1 bt1712.2 bt1714.1 bt1714.2 true)) else (paymasterlaw11_LedgerTurned.j3 k3 l0 a1 ji22 t1708 t1709 t1710 t1711 bt1712.1 bt1712.2 bt1714.1 bt1714.2 true)) else (paymasterlaw11_LedgerTurned.j3 k3 l0 a1 ji22 t1708 t1709 t1710 t1711 bt1712.1 bt1712.2 bt1714.1 bt1714.2 true)))) = some r := H
                                      have A48 := Aside0.mk A480
                                      clear A480
                                      replace H := Option.bind_eq_some_iff.mp H
                                      obtain ⟨⟨t1712, t1713⟩, A490, H⟩ := H
                                      replace H : ((lines_Join.f x11_3).bind fun bt1714 => (if t1709 = 0 then (if t1711 = 0 then (if t1713 = 0 then (paymasterlaw11_LedgerTurned.j3 k3 l0 a1 ji22 t1708 t1709 t1710 t1711 t1712 t1713 bt1714.1 bt1714.2 (bt1714.2 != 0)) else (paymasterlaw11_LedgerTurned.j3 k3 l0 a1 ji22 t1708 t1709 t1710 t1711 t1712 t1713 bt1714.1 bt1714.2 true)) else (paymasterlaw11_LedgerTurned.j3 k3 l0 a1 ji22 t1708 t1709 t1710 t1711 t1712 t1713 bt1714.1 bt1714.2 true)) else (paymasterlaw11_LedgerTurned.j3 k3 l0 a1 ji22 t1708 t1709 t1710 t1711 t1712 t1713 bt1714.1 bt1714.2 true))) = some r := H
                                      have A49 := Aside0.mk A490
                                      clear A490
                                      replace H := Option.bind_eq_some_iff.mp H
                                      obtain ⟨⟨t1714, t1715⟩, A500, H⟩ := H
                                      replace H : (if t1709 = 0 then (if t1711 = 0 then (if t1713 = 0 then (paymasterlaw11_LedgerTurned.j3 k3 l0 a1 ji22 t1708 t1709 t1710 t1711 t1712 t1713 t1714 t1715 (t1715 != 0)) else (paymasterlaw11_LedgerTurned.j3 k3 l0 a1 ji22 t1708 t1709 t1710 t1711 t1712 t1713 t1714 t1715 true)) else (paymasterlaw11_LedgerTurned.j3 k3 l0 a1 ji22 t1708 t1709 t1710 t1711 t1712 t1713 t1714 t1715 true)) else (paymasterlaw11_LedgerTurned.j3 k3 l0 a1 ji22 t1708 t1709 t1710 t1711 t1712 t1713 t1714 t1715 true)) = some r := H
                                      have A50 := Aside0.mk A500
                                      clear A500
                                      have HC51 := Aside0.mk H
                                      clear H
                                      go_upto_region 24 with (first | ((with_reducible refine gate_callee (f := 42) rfl ?_); refine goesL_ (some 119) rfl rfl Tryd.func42 (by kernel_rfl) rfl #[.slice (some ad1683) l0.length c0] rfl (by (try simp only [List.map_toArray, List.map_cons, List.map_nil]); first | done | rfl | (simp only [List.length_drop, List.length_take]; rfl)) ?_; (with_reducible refine (lines_Join.calls _ _ l0 t1708 t1709 _ ?side1 ?side2 A47.out).mono ?_); (case side1 => repeat (first | exact (Kd.C_below HR0.out HB.out) | (with_reducible refine Kd.C_alloc ?_ _) | (with_reducible refine Kd.C_drewN ?_ _) | (with_reducible refine Kd.C_drew ?_))); (case side2 => exact HC0.out); rintro e w52 ⟨rfl, hb⟩; refine ⟨_, rfl, ?_⟩; have n0_ := Aside0.mk (Kd.R_below (by (with_reducible repeat (first | apply Kd.R_alloc | apply Kd.R_drewN | apply Kd.R_drew)); exact HO_10.out) hb); have n1_ := Aside0.mk (Kd.R_below (by (with_reducible repeat (first | apply Kd.R_alloc | apply Kd.R_drewN | apply Kd.R_drew)); exact HO_11.out) hb); have n2_ := Aside0.mk (Kd.R_below (by (with_reducible repeat (first | apply Kd.R_alloc | apply Kd.R_drewN | apply Kd.R_drew)); exact HO_13.out) hb); have n3_ := Aside0.mk (below_step (by repeat (first | (with_reducible first | exact HB.out | apply below_alloc | apply pw_below_drewN | apply below_drew1) | exact HB.out)) hb); clear HO_10; clear HO_11; clear HO_13; clear HB; have HO_10 := n0_; have HO_11 := n1_; have HO_13 := n2_; have HB := n3_; clear n0_ n1_ n2_ n3_; (try clear hb); (try clear hb2); (try clear hk); (try clear hi); obtain ⟨Ao53, co53, eo53⟩ := Kd.R_slice HO_10.out; subst eo53) | ((with_reducible refine gate_callee (f := 42) rfl ?_); refine goesL_ (some 124) rfl rfl Tryd.func42 (by kernel_rfl) rfl #[.slice Ao53 x10_2.length co53] rfl (by (try simp only [List.map_toArray, List.map_cons, List.map_nil]); first | done | rfl | (simp only [List.length_drop, List.length_take]; rfl)) ?_; (with_reducible refine (lines_Join.calls _ _ x10_2 t1710 t1711 _ ?side1 ?side2 A48.out).mono ?_); (case side1 => repeat (first | exact (Kd.R_reads' HO_10.out).2.2 | (with_reducible refine Kd.C_alloc ?_ _) | (with_reducible refine Kd.C_drewN ?_ _) | (with_reducible refine Kd.C_drew ?_))); (case side2 => exact (Kd.R_reads' HO_10.out).2.1); rintro e w54 ⟨rfl, hb⟩; refine ⟨_, rfl, ?_⟩; have n0_ := Aside0.mk (Kd.R_below (by (with_reducible repeat (first | apply Kd.R_alloc | apply Kd.R_drewN | apply Kd.R_drew)); exact HO_10.out) hb); have n1_ := Aside0.mk (Kd.R_below (by (with_reducible repeat (first | apply Kd.R_alloc | apply Kd.R_drewN | apply Kd.R_drew)); exact HO_11.out) hb); have n2_ := Aside0.mk (Kd.R_below (by (with_reducible repeat (first | apply Kd.R_alloc | apply Kd.R_drewN | apply Kd.R_drew)); exact HO_13.out) hb); have n3_ := Aside0.mk (below_step (by repeat (first | (with_reducible first | exact HB.out | apply below_alloc | apply pw_below_drewN | apply below_drew1) | exact HB.out)) hb); clear HO_10; clear HO_11; clear HO_13; clear HB; have HO_10 := n0_; have HO_11 := n1_; have HO_13 := n2_; have HB := n3_; clear n0_ n1_ n2_ n3_; (try clear hb); (try clear hb2); (try clear hk); (try clear hi)) | ((with_reducible refine gate_callee (f := 42) rfl ?_); refine goesL_ (some 129) rfl rfl Tryd.func42 (by kernel_rfl) rfl #[.slice (some ⟨go26, 0, none⟩) y1686.length co26] rfl (by (try simp only [List.map_toArray, List.map_cons, List.map_nil]); first | done | rfl | (simp only [List.length_drop, List.length_take]; rfl)) ?_; (with_reducible refine (lines_Join.calls _ _ y1686 t1712 t1713 _ ?side1 ?side2 A49.out).mono ?_); (case side1 => repeat (first | exact (Kd.R_reads' HO_13.out).2.2 | (with_reducible refine Kd.C_alloc ?_ _) | (with_reducible refine Kd.C_drewN ?_ _) | (with_reducible refine Kd.C_drew ?_))); (case side2 => exact (Kd.R_reads' HO_13.out).2.1); rintro e w55 ⟨rfl, hb⟩; refine ⟨_, rfl, ?_⟩; have n0_ := Aside0.mk (Kd.R_below (by (with_reducible repeat (first | apply Kd.R_alloc | apply Kd.R_drewN | apply Kd.R_drew)); exact HO_10.out) hb); have n1_ := Aside0.mk (Kd.R_below (by (with_reducible repeat (first | apply Kd.R_alloc | apply Kd.R_drewN | apply Kd.R_drew)); exact HO_11.out) hb); have n2_ := Aside0.mk (Kd.R_below (by (with_reducible repeat (first | apply Kd.R_alloc | apply Kd.R_drewN | apply Kd.R_drew)); exact HO_13.out) hb); have n3_ := Aside0.mk (below_step (by repeat (first | (with_reducible first | exact HB.out | apply below_alloc | apply pw_below_drewN | apply below_drew1) | exact HB.out)) hb); clear HO_10; clear HO_11; clear HO_13; clear HB; have HO_10 := n0_; have HO_11 := n1_; have HO_13 := n2_; have HB := n3_; clear n0_ n1_ n2_ n3_; (try clear hb); (try clear hb2); (try clear hk); (try clear hi); obtain ⟨Ao56, co56, eo56⟩ := Kd.R_slice HO_11.out; subst eo56) | ((with_reducible refine gate_callee (f := 42) rfl ?_); refine goesL_ (some 134) rfl rfl Tryd.func42 (by kernel_rfl) rfl #[.slice Ao56 x11_3.length co56] rfl (by (try simp only [List.map_toArray, List.map_cons, List.map_nil]); first | done | rfl | (simp only [List.length_drop, List.length_take]; rfl)) ?_; (with_reducible refine (lines_Join.calls _ _ x11_3 t1714 t1715 _ ?side1 ?side2 A50.out).mono ?_); (case side1 => repeat (first | exact (Kd.R_reads' HO_11.out).2.2 | (with_reducible refine Kd.C_alloc ?_ _) | (with_reducible refine Kd.C_drewN ?_ _) | (with_reducible refine Kd.C_drew ?_))); (case side2 => exact (Kd.R_reads' HO_11.out).2.1); rintro e w57 ⟨rfl, hb⟩; refine ⟨_, rfl, ?_⟩; have n0_ := Aside0.mk (Kd.R_below (by (with_reducible repeat (first | apply Kd.R_alloc | apply Kd.R_drewN | apply Kd.R_drew)); exact HO_10.out) hb); have n1_ := Aside0.mk (Kd.R_below (by (with_reducible repeat (first | apply Kd.R_alloc | apply Kd.R_drewN | apply Kd.R_drew)); exact HO_11.out) hb); have n2_ := Aside0.mk (Kd.R_below (by (with_reducible repeat (first | apply Kd.R_alloc | apply Kd.R_drewN | apply Kd.R_drew)); exact HO_13.out) hb); have n3_ := Aside0.mk (below_step (by repeat (first | (with_reducible first | exact HB.out | apply below_alloc | apply pw_below_drewN | apply below_drew1) | exact HB.out)) hb); clear HO_10; clear HO_11; clear HO_13; clear HB; have HO_10 := n0_; have HO_11 := n1_; have HO_13 := n2_; have HB := n3_; clear n0_ n1_ n2_ n3_; (try clear hb); (try clear hb2); (try clear hk); (try clear hi)))
                                      (try simp only [Act.put, List.setIfInBounds_toArray, List.set_cons_zero, List.set_cons_succ])
                                      go_cut [150] (fun v150 wc => ∃ (kq : Nat) (x150_50 : Bool), v150 = .bool x150_50 ∧ Aside0 (paymasterlaw11_LedgerTurned.j3 kq l0 a1 ji22 t1708 t1709 t1710 t1711 t1712 t1713 t1714 t1715 x150_50 = some r) ∧ Aside0 (kq ≤ k3) ∧ Aside0 (Below w.heap.size w wc))
                                      case first =>
                                        have H := HC51.out
                                        clear HC51
                                        by_cases c58 : t1709 = 0
                                        · rw [if_pos c58] at H
                                          have c58b0 : (t1709 == 0) = true := beq_iff_eq.mpr c58
                                          have c58b1 : (t1709 != 0) = false := bne_eq_false_iff_eq.mpr c58
                                          clear c58
                                          (first | rw [c58b0] | (simp only [i64_w, i32_w]; rw [c58b0]) | skip)
                                          by_cases c59 : t1711 = 0
                                          · rw [if_pos c59] at H
                                            have c59b0 : (t1711 == 0) = true := beq_iff_eq.mpr c59
                                            have c59b1 : (t1711 != 0) = false := bne_eq_false_iff_eq.mpr c59
                                            clear c59
                                            by_cases c60 : t1713 = 0
                                            · rw [if_pos c60] at H
                                              have c60b0 : (t1713 == 0) = true := beq_iff_eq.mpr c60
                                              have c60b1 : (t1713 != 0) = false := bne_eq_false_iff_eq.mpr c60
                                              clear c60
                                              have H' := Aside0.mk H
                                              clear H
                                              go_wp2
                                              go_meet
                                              case rel => exact ⟨_, ((t1715 != 0)), (by first | rfl | (simp; done) | (simp [*]; done)), H', ⟨by have := HJ6.out; have := HK2.out; have := HK3.out; first | omega | exact Nat.le_refl _⟩, ⟨by repeat (first | (with_reducible first | exact HB.out | apply below_alloc | apply pw_below_drewN | apply below_drew1) | exact HB.out)⟩⟩
                                            · rw [if_neg c60] at H
                                              have c60b0 : (t1713 == 0) = false := beq_eq_false_iff_ne.mpr c60
                                              have c60b1 : (t1713 != 0) = true := bne_iff_ne.mpr c60
                                              have H' := Aside0.mk H
                                              clear H
                                              go_wp2
                                              go_meet
                                              case rel => exact ⟨_, (true), (by first | rfl | (simp; done) | (simp [*]; done)), H', ⟨by have := HJ6.out; have := HK2.out; have := HK3.out; first | omega | exact Nat.le_refl _⟩, ⟨by repeat (first | (with_reducible first | exact HB.out | apply below_alloc | apply pw_below_drewN | apply below_drew1) | exact HB.out)⟩⟩
                                          · rw [if_neg c59] at H
                                            have c59b0 : (t1711 == 0) = false := beq_eq_false_iff_ne.mpr c59
                                            have c59b1 : (t1711 != 0) = true := bne_iff_ne.mpr c59
                                            have H' := Aside0.mk H
                                            clear H
                                            go_wp2
                                            go_meet
                                            case rel => exact ⟨_, (true), (by first | rfl | (simp; done) | (simp [*]; done)), H', ⟨by have := HJ6.out; have := HK2.out; have := HK3.out; first | omega | exact Nat.le_refl _⟩, ⟨by repeat (first | (with_reducible first | exact HB.out | apply below_alloc | apply pw_below_drewN | apply below_drew1) | exact HB.out)⟩⟩
                                        · rw [if_neg c58] at H
                                          have c58b0 : (t1709 == 0) = false := beq_eq_false_iff_ne.mpr c58
                                          have c58b1 : (t1709 != 0) = true := bne_iff_ne.mpr c58
                                          (first | rw [c58b0] | (simp only [i64_w, i32_w]; rw [c58b0]) | skip)
                                          have H' := Aside0.mk H
                                          clear H
                                          go_wp2
                                          go_meet
                                          case rel => exact ⟨_, (true), (by first | rfl | (simp; done) | (simp [*]; done)), H', ⟨by have := HJ6.out; have := HK2.out; have := HK3.out; first | omega | exact Nat.le_refl _⟩, ⟨by repeat (first | (with_reducible first | exact HB.out | apply below_alloc | apply pw_below_drewN | apply below_drew1) | exact HB.out)⟩⟩
                                      case rest =>
                                        clear HC51
                                        try clear c1
                                        try clear p1
                                        try clear q1
                                        try clear hx1
                                        try clear c2
                                        try clear p2
                                        try clear q2
                                        try clear hx2
                                        try clear c3
                                        try clear c4
                                        try clear c5
                                        try clear c6
                                        try clear p6
                                        try clear c9
                                        try clear c9b0
                                        try clear c9b1
                                        try clear c9b2
                                        try clear c10
                                        try clear c11
                                        try clear c11b0
                                        try clear c12
                                        try clear c12b0
                                        try clear c13
                                        try clear c13b0
                                        try clear c14
                                        try clear c14b0
                                        try clear c14b1
                                        try clear c15
                                        try clear p16
                                        try clear q16
                                        try clear hx16
                                        try clear c17
                                        try clear c18
                                        try clear c18b0
                                        try clear c18b1
                                        try clear c19
                                        try clear c20
                                        try clear c20b0
                                        try clear c21
                                        try clear c21b0
                                        try clear c23
                                        try clear c23b0
                                        try clear c24
                                        try clear c24b0
                                        try clear c25
                                        try clear c25b0
                                        try clear p26
                                        try clear q26
                                        try clear hx26
                                        try clear hf26
                                        try clear c27
                                        try clear c27b0
                                        try clear p28
                                        try clear q28
                                        try clear hx28
                                        try clear hf28
                                        try clear c29
                                        try clear c36
                                        try clear c36b0
                                        try clear c37
                                        try clear c37b0
                                        try clear c38
                                        try clear c38b0
                                        try clear c39
                                        try clear c39b0
                                        try clear c39b1
                                        try clear c39b2
                                        try clear c40
                                        try clear c40b0
                                        try clear c41
                                        try clear c42
                                        try clear c58
                                        try clear c58b0
                                        try clear c58b1
                                        try clear c59
                                        try clear c59b0
                                        try clear c59b1
                                        try clear c60
                                        try clear c60b0
                                        try clear c60b1
                                        try clear hx1662_0
                                        try clear hx1663_0
                                        try clear hx1683_0
                                        try clear hx1684_0
                                        try clear hx1687_0
                                        try clear hx1688_0
                                        try clear hx26_0
                                        try clear hx28_0
                                        try clear p1
                                        try clear p16
                                        try clear p1662
                                        try clear p1663
                                        try clear p1683
                                        try clear p1684
                                        try clear p1687
                                        try clear p1688
                                        try clear p2
                                        try clear p26
                                        try clear p28
                                        try clear p6
                                        try clear q1
                                        try clear q16
                                        try clear q1662
                                        try clear q1663
                                        try clear q1683
                                        try clear q1684
                                        try clear q1687
                                        try clear q1688
                                        try clear q2
                                        try clear q26
                                        try clear q28
                                        obtain ⟨kq, x150_50, rfl, HA, HJ50, HB⟩ := hcut
                                        cases kq with
                                        | zero => exact absurd HA.out (by simp [paymasterlaw11_LedgerTurned.j3])
                                        | succ kj50 =>
                                          have H := HA.out
                                          clear HA
                                          simp only [paymasterlaw11_LedgerTurned.j3] at H
                                          by_cases c61 : x150_50 = true
                                          · subst c61
                                            have H1 : (if t1709 = t1711 then (if t1709 = t1713 then (some (t1709 == t1715)) else (none)) else (none)) = some r := by rw [if_pos rfl] at H; exact H
                                            clear H
                                            have H := H1
                                            clear H1
                                            by_cases c62 : t1709 = t1711
                                            · rw [if_pos c62] at H
                                              have c62b0 : (t1709 == t1711) = true := beq_iff_eq.mpr c62
                                              have c62b1 : (t1709 != t1711) = false := bne_eq_false_iff_eq.mpr c62
                                              clear c62
                                              by_cases c63 : t1709 = t1713
                                              · rw [if_pos c63] at H
                                                have c63b0 : (t1709 == t1713) = true := beq_iff_eq.mpr c63
                                                have c63b1 : (t1709 != t1713) = false := bne_eq_false_iff_eq.mpr c63
                                                clear c63
                                                obtain rfl := Option.some.inj H
                                                go_wp2
                                                go_ret
                                                exact ⟨by first | rfl | (simp [errW_none, errW_some] <;> rfl) | (simp only [← hji19, ← hji22]; first | rfl | (simp [errW_none, errW_some] <;> rfl)) | (simp [*, errW_none, errW_some] <;> rfl), by repeat (first | (with_reducible first | exact HB.out | apply below_alloc | apply pw_below_drewN | apply below_drew1) | exact HB.out)⟩
                                              · rw [if_neg c63] at H
                                                exact absurd H (by simp)
                                            · rw [if_neg c62] at H
                                              exact absurd H (by simp)
                                          · replace c61 := Bool.eq_false_iff.mpr c61
                                            subst c61
                                            have H1 : ((ledger_Import.f t1708 a1).bind fun bt1758 => ((ledger_Import.f t1710 a1).bind fun bt1763 => ((ledger_Import.f t1712 a1).bind fun bt1768 => ((ledger_Import.f t1714 a1).bind fun bt1773 => (if ((bt1758.2.2 == 0) != (bt1763.2.2 == 0)) = true then (none) else (if ((bt1758.2.2 == 0) != (bt1768.2.2 == 0)) = true then (none) else ((paymasterref10_Same.f kj50 bt1758.1 bt1763.1).bind fun t1778 => (if t1778 = true then ((paymasterref10_Same.f kj50 bt1758.1 bt1768.1).bind fun t1779 => (if t1779 = true then (if 0 ≤ ji22 then (if ji22 < (l0.length : Int) then (if 2 + (rdOf ByteArray.empty l0 ji22).size ≤ 9223372036854775807 then ((lines_Check.f ((⟨#[35, 32]⟩ : ByteArray) ++ (rdOf ByteArray.empty l0 ji22))).bind fun bt1789 => (if bt1789.2 = 0 then (if bt1773.2.2 = bt1758.2.2 then ((paymasterref10_Same.f kj50 bt1758.1 bt1773.1).bind fun t1791 => (if t1791 = true then (some (bt1773.2.1 == (wrap64 (3 * bt1758.2.1)))) else (none))) else (none)) else (if bt1789.1 = 1 then (some (bt1773.2.2 != 0)) else (none)))) else (none)) else (none)) else (none)) else (none))) else (none))))))))) = some r := by rw [if_neg (show ¬ (false = true) by decide)] at H; exact H
                                            clear H
                                            have H := H1
                                            clear H1
                                            replace H := Option.bind_eq_some_iff.mp H
                                            obtain ⟨⟨t1758, t1759, t1760⟩, A640, H⟩ := H
                                            replace H : ((ledger_Import.f t1710 a1).bind fun bt1763 => ((ledger_Import.f t1712 a1).bind fun bt1768 => ((ledger_Import.f t1714 a1).bind fun bt1773 => (if ((t1760 == 0) != (bt1763.2.2 == 0)) = true then (none) else (if ((t1760 == 0) != (bt1768.2.2 == 0)) = true then (none) else ((paymasterref10_Same.f kj50 t1758 bt1763.1).bind fun t1778 => (if t1778 = true then ((paymasterref10_Same.f kj50 t1758 bt1768.1).bind fun t1779 => (if t1779 = true then (if 0 ≤ ji22 then (if ji22 < (l0.length : Int) then (if 2 + (rdOf ByteArray.empty l0 ji22).size ≤ 9223372036854775807 then ((lines_Check.f ((⟨#[35, 32]⟩ : ByteArray) ++ (rdOf ByteArray.empty l0 ji22))).bind fun bt1789 => (if bt1789.2 = 0 then (if bt1773.2.2 = t1760 then ((paymasterref10_Same.f kj50 t1758 bt1773.1).bind fun t1791 => (if t1791 = true then (some (bt1773.2.1 == (wrap64 (3 * t1759)))) else (none))) else (none)) else (if bt1789.1 = 1 then (some (bt1773.2.2 != 0)) else (none)))) else (none)) else (none)) else (none)) else (none))) else (none)))))))) = some r := H
                                            have A64 := Aside0.mk A640
                                            clear A640
                                            replace H := Option.bind_eq_some_iff.mp H
                                            obtain ⟨⟨t1763, t1764, t1765⟩, A650, H⟩ := H
                                            replace H : ((ledger_Import.f t1712 a1).bind fun bt1768 => ((ledger_Import.f t1714 a1).bind fun bt1773 => (if ((t1760 == 0) != (t1765 == 0)) = true then (none) else (if ((t1760 == 0) != (bt1768.2.2 == 0)) = true then (none) else ((paymasterref10_Same.f kj50 t1758 t1763).bind fun t1778 => (if t1778 = true then ((paymasterref10_Same.f kj50 t1758 bt1768.1).bind fun t1779 => (if t1779 = true then (if 0 ≤ ji22 then (if ji22 < (l0.length : Int) then (if 2 + (rdOf ByteArray.empty l0 ji22).size ≤ 9223372036854775807 then ((lines_Check.f ((⟨#[35, 32]⟩ : ByteArray) ++ (rdOf ByteArray.empty l0 ji22))).bind fun bt1789 => (if bt1789.2 = 0 then (if bt1773.2.2 = t1760 then ((paymasterref10_Same.f kj50 t1758 bt1773.1).bind fun t1791 => (if t1791 = true then (some (bt1773.2.1 == (wrap64 (3 * t1759)))) else (none))) else (none)) else (if bt1789.1 = 1 then (some (bt1773.2.2 != 0)) else (none)))) else (none)) else (none)) else (none)) else (none))) else (none))))))) = some r := H
                                            have A65 := Aside0.mk A650
                                            clear A650
                                            replace H := Option.bind_eq_some_iff.mp H
                                            obtain ⟨⟨t1768, t1769, t1770⟩, A660, H⟩ := H
                                            replace H : ((ledger_Import.f t1714 a1).bind fun bt1773 => (if ((t1760 == 0) != (t1765 == 0)) = true then (none) else (if ((t1760 == 0) != (t1770 == 0)) = true then (none) else ((paymasterref10_Same.f kj50 t1758 t1763).bind fun t1778 => (if t1778 = true then ((paymasterref10_Same.f kj50 t1758 t1768).bind fun t1779 => (if t1779 = true then (if 0 ≤ ji22 then (if ji22 < (l0.length : Int) then (if 2 + (rdOf ByteArray.empty l0 ji22).size ≤ 9223372036854775807 then ((lines_Check.f ((⟨#[35, 32]⟩ : ByteArray) ++ (rdOf ByteArray.empty l0 ji22))).bind fun bt1789 => (if bt1789.2 = 0 then (if bt1773.2.2 = t1760 then ((paymasterref10_Same.f kj50 t1758 bt1773.1).bind fun t1791 => (if t1791 = true then (some (bt1773.2.1 == (wrap64 (3 * t1759)))) else (none))) else (none)) else (if bt1789.1 = 1 then (some (bt1773.2.2 != 0)) else (none)))) else (none)) else (none)) else (none)) else (none))) else (none)))))) = some r := H
                                            have A66 := Aside0.mk A660
                                            clear A660
                                            replace H := Option.bind_eq_some_iff.mp H
                                            obtain ⟨⟨t1773, t1774, t1775⟩, A670, H⟩ := H
                                            replace H : (if ((t1760 == 0) != (t1765 == 0)) = true then (none) else (if ((t1760 == 0) != (t1770 == 0)) = true then (none) else ((paymasterref10_Same.f kj50 t1758 t1763).bind fun t1778 => (if t1778 = true then ((paymasterref10_Same.f kj50 t1758 t1768).bind fun t1779 => (if t1779 = true then (if 0 ≤ ji22 then (if ji22 < (l0.length : Int) then (if 2 + (rdOf ByteArray.empty l0 ji22).size ≤ 9223372036854775807 then ((lines_Check.f ((⟨#[35, 32]⟩ : ByteArray) ++ (rdOf ByteArray.empty l0 ji22))).bind fun bt1789 => (if bt1789.2 = 0 then (if t1775 = t1760 then ((paymasterref10_Same.f kj50 t1758 t1773).bind fun t1791 => (if t1791 = true then (some (t1774 == (wrap64 (3 * t1759)))) else (none))) else (none)) else (if bt1789.1 = 1 then (some (t1775 != 0)) else (none)))) else (none)) else (none)) else (none)) else (none))) else (none))))) = some r := H
                                            have A67 := Aside0.mk A670
                                            clear A670
                                            by_cases c68 : ((t1760 == 0) != (t1765 == 0)) = true
                                            · rw [if_pos c68] at H
                                              exact absurd H (by simp)
                                            · rw [if_neg c68] at H
                                              have c68b0 : ((t1760 == 0) != (t1765 == 0)) = false := by simpa using c68
                                              (try (have c68b1 : decide ((t1760 == 0) = (t1765 == 0)) = true := by simpa using c68))
                                              (try (have c68b2 : ((t1760 == 0) == (t1765 == 0)) = true := by simpa using c68))
                                              clear c68
                                              by_cases c69 : ((t1760 == 0) != (t1770 == 0)) = true
                                              · rw [if_pos c69] at H
                                                exact absurd H (by simp)
                                              · rw [if_neg c69] at H
                                                have c69b0 : ((t1760 == 0) != (t1770 == 0)) = false := by simpa using c69
                                                (try (have c69b1 : decide ((t1760 == 0) = (t1770 == 0)) = true := by simpa using c69))
                                                (try (have c69b2 : ((t1760 == 0) == (t1770 == 0)) = true := by simpa using c69))
                                                clear c69
                                                replace H := Option.bind_eq_some_iff.mp H
                                                obtain ⟨t1778, A700, H⟩ := H
                                                replace H : (if t1778 = true then ((paymasterref10_Same.f kj50 t1758 t1768).bind fun t1779 => (if t1779 = true then (if 0 ≤ ji22 then (if ji22 < (l0.length : Int) then (if 2 + (rdOf ByteArray.empty l0 ji22).size ≤ 9223372036854775807 then ((lines_Check.f ((⟨#[35, 32]⟩ : ByteArray) ++ (rdOf ByteArray.empty l0 ji22))).bind fun bt1789 => (if bt1789.2 = 0 then (if t1775 = t1760 then ((paymasterref10_Same.f kj50 t1758 t1773).bind fun t1791 => (if t1791 = true then (some (t1774 == (wrap64 (3 * t1759)))) else (none))) else (none)) else (if bt1789.1 = 1 then (some (t1775 != 0)) else (none)))) else (none)) else (none)) else (none)) else (none))) else (none)) = some r := H
                                                have A70 := Aside0.mk A700
                                                clear A700
                                                by_cases c71 : t1778 = true
                                                · subst c71
                                                  have H1 : ((paymasterref10_Same.f kj50 t1758 t1768).bind fun t1779 => (if t1779 = true then (if 0 ≤ ji22 then (if ji22 < (l0.length : Int) then (if 2 + (rdOf ByteArray.empty l0 ji22).size ≤ 9223372036854775807 then ((lines_Check.f ((⟨#[35, 32]⟩ : ByteArray) ++ (rdOf ByteArray.empty l0 ji22))).bind fun bt1789 => (if bt1789.2 = 0 then (if t1775 = t1760 then ((paymasterref10_Same.f kj50 t1758 t1773).bind fun t1791 => (if t1791 = true then (some (t1774 == (wrap64 (3 * t1759)))) else (none))) else (none)) else (if bt1789.1 = 1 then (some (t1775 != 0)) else (none)))) else (none)) else (none)) else (none)) else (none))) = some r := by rw [if_pos rfl] at H; exact H
                                                  clear H
                                                  have H := H1
                                                  clear H1
                                                  replace H := Option.bind_eq_some_iff.mp H
                                                  obtain ⟨t1779, A720, H⟩ := H
                                                  replace H : (if t1779 = true then (if 0 ≤ ji22 then (if ji22 < (l0.length : Int) then (if 2 + (rdOf ByteArray.empty l0 ji22).size ≤ 9223372036854775807 then ((lines_Check.f ((⟨#[35, 32]⟩ : ByteArray) ++ (rdOf ByteArray.empty l0 ji22))).bind fun bt1789 => (if bt1789.2 = 0 then (if t1775 = t1760 then ((paymasterref10_Same.f kj50 t1758 t1773).bind fun t1791 => (if t1791 = true then (some (t1774 == (wrap64 (3 * t1759)))) else (none))) else (none)) else (if bt1789.1 = 1 then (some (t1775 != 0)) else (none)))) else (none)) else (none)) else (none)) else (none)) = some r := H
                                                  have A72 := Aside0.mk A720
                                                  clear A720
                                                  by_cases c73 : t1779 = true
                                                  · subst c73
                                                    have H1 : (if 0 ≤ ji22 then (if ji22 < (l0.length : Int) then (if 2 + (rdOf ByteArray.empty l0 ji22).size ≤ 9223372036854775807 then ((lines_Check.f ((⟨#[35, 32]⟩ : ByteArray) ++ (rdOf ByteArray.empty l0 ji22))).bind fun bt1789 => (if bt1789.2 = 0 then (if t1775 = t1760 then ((paymasterref10_Same.f kj50 t1758 t1773).bind fun t1791 => (if t1791 = true then (some (t1774 == (wrap64 (3 * t1759)))) else (none))) else (none)) else (if bt1789.1 = 1 then (some (t1775 != 0)) else (none)))) else (none)) else (none)) else (none)) = some r := by rw [if_pos rfl] at H; exact H
                                                    clear H
                                                    have H := H1
                                                    clear H1
                                                    by_cases c74 : 0 ≤ ji22
                                                    · rw [if_pos c74] at H
                                                      have c74b0 : decide (0 ≤ ji22) = true := decide_eq_true c74
                                                      clear c74
                                                      by_cases c75 : ji22 < (l0.length : Int)
                                                      · rw [if_pos c75] at H
                                                        have c75b0 : decide (ji22 < (l0.length : Int)) = true := decide_eq_true c75
                                                        clear c75
                                                        by_cases c76 : 2 + (rdOf ByteArray.empty l0 ji22).size ≤ 9223372036854775807
                                                        · rw [if_pos c76] at H
                                                          have c76b0 := eq_true c76
                                                          have c76b1 : decide (2 + (rdOf ByteArray.empty l0 ji22).size ≤ 9223372036854775807) = true := decide_eq_true c76
                                                          try have c76b2 : (9223372036854775807 < 2 + (rdOf ByteArray.empty l0 ji22).size) = False := eq_false (Nat.not_lt.2 c76)
                                                          replace H := Option.bind_eq_some_iff.mp H
                                                          obtain ⟨⟨t1789, t1790⟩, A770, H⟩ := H
                                                          replace H : (if t1790 = 0 then (if t1775 = t1760 then ((paymasterref10_Same.f kj50 t1758 t1773).bind fun t1791 => (if t1791 = true then (some (t1774 == (wrap64 (3 * t1759)))) else (none))) else (none)) else (if t1789 = 1 then (some (t1775 != 0)) else (none))) = some r := H
                                                          have A77 := Aside0.mk A770
                                                          clear A770
                                                          by_cases c78 : t1790 = 0
                                                          · rw [if_pos c78] at H
                                                            have c78b0 : (t1790 == 0) = true := beq_iff_eq.mpr c78
                                                            have c78b1 : (t1790 != 0) = false := bne_eq_false_iff_eq.mpr c78
                                                            clear c78
                                                            by_cases c79 : t1775 = t1760
                                                            · rw [if_pos c79] at H
                                                              have c79b0 : (t1775 == t1760) = true := beq_iff_eq.mpr c79
                                                              have c79b1 : (t1775 != t1760) = false := bne_eq_false_iff_eq.mpr c79
                                                              clear c79
                                                              replace H := Option.bind_eq_some_iff.mp H
                                                              obtain ⟨t1791, A800, H⟩ := H
                                                              replace H : (if t1791 = true then (some (t1774 == (wrap64 (3 * t1759)))) else (none)) = some r := H
                                                              have A80 := Aside0.mk A800
                                                              clear A800
                                                              by_cases c81 : t1791 = true
                                                              · subst c81
                                                                have H1 : (some (t1774 == (wrap64 (3 * t1759)))) = some r := by rw [if_pos rfl] at H; exact H
                                                                clear H
                                                                have H := H1
                                                                clear H1
                                                                obtain rfl := Option.some.inj H
                                                                go_wp2_with (first | ((with_reducible refine gate_callee (f := 32) rfl ?_); refine goesL_ (some 167) rfl rfl Tryd.func32 (by kernel_rfl) rfl #[.string t1708, .int .i64 a1] rfl (by (try simp only [List.map_toArray, List.map_cons, List.map_nil]); first | done | rfl | (simp only [List.length_drop, List.length_take]; rfl)) ?_; (with_reducible refine (ledger_Import.calls t1708 a1 t1758 t1759 t1760 _ ?side1 A64.out).mono ?_); (case side1 => exact gt_below hG (by repeat (first | (with_reducible first | exact HB.out | apply below_alloc | apply pw_below_drewN | apply below_drew1) | exact HB.out))); rintro e w82 ⟨v1761, rfl, ho0, hb⟩; refine ⟨_, rfl, ?_⟩; have n0_ := Aside0.mk (Kd.R_lower ho0 (below_size (by repeat (first | (with_reducible first | exact HB.out | apply below_alloc | apply pw_below_drewN | apply below_drew1) | exact HB.out)))); have n1_ := Aside0.mk (below_step (by repeat (first | (with_reducible first | exact HB.out | apply below_alloc | apply pw_below_drewN | apply below_drew1) | exact HB.out)) hb); clear HB; have HO1762 := n0_; have HB := n1_; clear n0_ n1_; (try clear hb); (try clear hb2); (try clear hk); (try clear hi); (try clear ho0)) | ((with_reducible refine gate_callee (f := 32) rfl ?_); refine goesL_ (some 174) rfl rfl Tryd.func32 (by kernel_rfl) rfl #[.string t1710, .int .i64 a1] rfl (by (try simp only [List.map_toArray, List.map_cons, List.map_nil]); first | done | rfl | (simp only [List.length_drop, List.length_take]; rfl)) ?_; (with_reducible refine (ledger_Import.calls t1710 a1 t1763 t1764 t1765 _ ?side1 A65.out).mono ?_); (case side1 => exact gt_below hG (by repeat (first | (with_reducible first | exact HB.out | apply below_alloc | apply pw_below_drewN | apply below_drew1) | exact HB.out))); rintro e w83 ⟨v1766, rfl, ho0, hb⟩; refine ⟨_, rfl, ?_⟩; have n0_ := Aside0.mk (Kd.R_elder' (by (with_reducible repeat (first | apply Kd.R_alloc | apply Kd.R_drewN | apply Kd.R_drew)); exact HO1762.out) (Kd.R_base ho0) hb); have n1_ := Aside0.mk (Kd.R_lower (Kd.R_new' ho0 (Kd.R_lt (by (with_reducible repeat (first | apply Kd.R_alloc | apply Kd.R_drewN | apply Kd.R_drew)); exact HO1762.out))) (below_size (by repeat (first | (with_reducible first | exact HB.out | apply below_alloc | apply pw_below_drewN | apply below_drew1) | exact HB.out)))); have n2_ := Aside0.mk (below_step (by repeat (first | (with_reducible first | exact HB.out | apply below_alloc | apply pw_below_drewN | apply below_drew1) | exact HB.out)) hb); clear HO1762; clear HB; have HO1762 := n0_; have HO1767 := n1_; have HB := n2_; clear n0_ n1_ n2_; (try clear hb); (try clear hb2); (try clear hk); (try clear hi); (try clear ho0)) | ((with_reducible refine gate_callee (f := 32) rfl ?_); refine goesL_ (some 181) rfl rfl Tryd.func32 (by kernel_rfl) rfl #[.string t1712, .int .i64 a1] rfl (by (try simp only [List.map_toArray, List.map_cons, List.map_nil]); first | done | rfl | (simp only [List.length_drop, List.length_take]; rfl)) ?_; (with_reducible refine (ledger_Import.calls t1712 a1 t1768 t1769 t1770 _ ?side1 A66.out).mono ?_); (case side1 => exact gt_below hG (by repeat (first | (with_reducible first | exact HB.out | apply below_alloc | apply pw_below_drewN | apply below_drew1) | exact HB.out))); rintro e w84 ⟨v1771, rfl, ho0, hb⟩; refine ⟨_, rfl, ?_⟩; have n0_ := Aside0.mk (Kd.R_elder' (by (with_reducible repeat (first | apply Kd.R_alloc | apply Kd.R_drewN | apply Kd.R_drew)); exact HO1762.out) (Kd.R_base ho0) hb); have n1_ := Aside0.mk (Kd.R_elder' (by (with_reducible repeat (first | apply Kd.R_alloc | apply Kd.R_drewN | apply Kd.R_drew)); exact HO1767.out) (Kd.R_base ho0) hb); have n2_ := Aside0.mk (Kd.R_lower (Kd.R_new' (Kd.R_new' ho0 (Kd.R_lt (by (with_reducible repeat (first | apply Kd.R_alloc | apply Kd.R_drewN | apply Kd.R_drew)); exact HO1762.out))) (Kd.R_lt (by (with_reducible repeat (first | apply Kd.R_alloc | apply Kd.R_drewN | apply Kd.R_drew)); exact HO1767.out))) (below_size (by repeat (first | (with_reducible first | exact HB.out | apply below_alloc | apply pw_below_drewN | apply below_drew1) | exact HB.out)))); have n3_ := Aside0.mk (below_step (by repeat (first | (with_reducible first | exact HB.out | apply below_alloc | apply pw_below_drewN | apply below_drew1) | exact HB.out)) hb); clear HO1762; clear HO1767; clear HB; have HO1762 := n0_; have HO1767 := n1_; have HO1772 := n2_; have HB := n3_; clear n0_ n1_ n2_ n3_; (try clear hb); (try clear hb2); (try clear hk); (try clear hi); (try clear ho0)) | ((with_reducible refine gate_callee (f := 32) rfl ?_); refine goesL_ (some 188) rfl rfl Tryd.func32 (by kernel_rfl) rfl #[.string t1714, .int .i64 a1] rfl (by (try simp only [List.map_toArray, List.map_cons, List.map_nil]); first | done | rfl | (simp only [List.length_drop, List.length_take]; rfl)) ?_; (with_reducible refine (ledger_Import.calls t1714 a1 t1773 t1774 t1775 _ ?side1 A67.out).mono ?_); (case side1 => exact gt_below hG (by repeat (first | (with_reducible first | exact HB.out | apply below_alloc | apply pw_below_drewN | apply below_drew1) | exact HB.out))); rintro e w85 ⟨v1776, rfl, ho0, hb⟩; refine ⟨_, rfl, ?_⟩; have n0_ := Aside0.mk (Kd.R_elder' (by (with_reducible repeat (first | apply Kd.R_alloc | apply Kd.R_drewN | apply Kd.R_drew)); exact HO1762.out) (Kd.R_base ho0) hb); have n1_ := Aside0.mk (Kd.R_elder' (by (with_reducible repeat (first | apply Kd.R_alloc | apply Kd.R_drewN | apply Kd.R_drew)); exact HO1767.out) (Kd.R_base ho0) hb); have n2_ := Aside0.mk (Kd.R_elder' (by (with_reducible repeat (first | apply Kd.R_alloc | apply Kd.R_drewN | apply Kd.R_drew)); exact HO1772.out) (Kd.R_base ho0) hb); have n3_ := Aside0.mk (Kd.R_lower (Kd.R_new' (Kd.R_new' (Kd.R_new' ho0 (Kd.R_lt (by (with_reducible repeat (first | apply Kd.R_alloc | apply Kd.R_drewN | apply Kd.R_drew)); exact HO1762.out))) (Kd.R_lt (by (with_reducible repeat (first | apply Kd.R_alloc | apply Kd.R_drewN | apply Kd.R_drew)); exact HO1767.out))) (Kd.R_lt (by (with_reducible repeat (first | apply Kd.R_alloc | apply Kd.R_drewN | apply Kd.R_drew)); exact HO1772.out))) (below_size (by repeat (first | (with_reducible first | exact HB.out | apply below_alloc | apply pw_below_drewN | apply below_drew1) | exact HB.out)))); have n4_ := Aside0.mk (below_step (by repeat (first | (with_reducible first | exact HB.out | apply below_alloc | apply pw_below_drewN | apply below_drew1) | exact HB.out)) hb); clear HO1762; clear HO1767; clear HO1772; clear HB; have HO1762 := n0_; have HO1767 := n1_; have HO1772 := n2_; have HO1777 := n3_; have HB := n4_; clear n0_ n1_ n2_ n3_ n4_; (try clear hb); (try clear hb2); (try clear hk); (try clear hi); (try clear ho0); obtain ⟨Ao86, co86, eo86⟩ := Kd.R_slice HO1762.out; subst eo86; obtain ⟨Ao87, co87, eo87⟩ := Kd.R_slice HO1767.out; subst eo87) | (go_at_call 28; (with_reducible refine (paymasterref10_Same.calls kj50 _ _ t1758 _ _ t1763 true _ ?side1 ?side2 ?side3 ?side4 A70.out).mono ?_); (case side1 => repeat (first | exact (Kd.R_reads' HO1762.out).2.2 | (with_reducible refine Kd.C_alloc ?_ _) | (with_reducible refine Kd.C_drewN ?_ _) | (with_reducible refine Kd.C_drew ?_))); (case side2 => exact (Kd.R_reads' HO1762.out).2.1); (case side3 => repeat (first | exact (Kd.R_reads' HO1767.out).2.2 | (with_reducible refine Kd.C_alloc ?_ _) | (with_reducible refine Kd.C_drewN ?_ _) | (with_reducible refine Kd.C_drew ?_))); (case side4 => exact (Kd.R_reads' HO1767.out).2.1); rintro e w' ⟨rfl, ⟨nd, rfl⟩⟩; obtain ⟨Ao88, co88, eo88⟩ := Kd.R_slice HO1772.out; subst eo88) | (go_at_call 28; (with_reducible refine (paymasterref10_Same.calls kj50 _ _ t1758 _ _ t1768 true _ ?side1 ?side2 ?side3 ?side4 A72.out).mono ?_); (case side1 => repeat (first | exact (Kd.R_reads' HO1762.out).2.2 | (with_reducible refine Kd.C_alloc ?_ _) | (with_reducible refine Kd.C_drewN ?_ _) | (with_reducible refine Kd.C_drew ?_))); (case side2 => exact (Kd.R_reads' HO1762.out).2.1); (case side3 => repeat (first | exact (Kd.R_reads' HO1772.out).2.2 | (with_reducible refine Kd.C_alloc ?_ _) | (with_reducible refine Kd.C_drewN ?_ _) | (with_reducible refine Kd.C_drew ?_))); (case side4 => exact (Kd.R_reads' HO1772.out).2.1); rintro e w' ⟨rfl, ⟨nd, rfl⟩⟩; have p1788 : 0 ≤ (ji22 : Int) := of_decide_eq_true (by first | (with_reducible assumption) | assumption); have q1788 : ji22 < (l0.length : Int) := of_decide_eq_true (by first | (with_reducible assumption) | assumption); obtain ⟨ad1788, e1788, hx1788_0⟩ := Kd.at_string HR0.out ji22 p1788 q1788; obtain rfl : ad1683 = ad1788 := (by injection e1788); replace hx1788_0 := (HB.out.cell (World.block_lt_of_cell? w _ hx1788_0)).trans hx1788_0; replace p1788 := eq_true p1788; replace q1788 := eq_true q1788) | ((with_reducible refine gate_callee (f := 39) rfl ?_); refine goesL_ (some 222) rfl rfl Tryd.func39 (by kernel_rfl) rfl #[.string ((⟨#[35, 32]⟩ : ByteArray) ++ (rdOf ByteArray.empty l0 ji22))] rfl (by (try simp only [List.map_toArray, List.map_cons, List.map_nil]); first | done | (simp only [hji22]; rfl) | rfl | (simp only [List.length_drop, List.length_take]; rfl)) ?_; (with_reducible refine (lines_Check.calls ((⟨#[35, 32]⟩ : ByteArray) ++ (rdOf ByteArray.empty l0 ji22)) t1789 t1790 _ ?side1 A77.out).mono ?_); (case side1 => exact gt_below hG (by repeat (first | (with_reducible first | exact HB.out | apply below_alloc | apply pw_below_drewN | apply below_drew1) | exact HB.out))); rintro e w89 ⟨rfl, hb⟩; refine ⟨_, rfl, ?_⟩; have n0_ := Aside0.mk (Kd.R_below (by (with_reducible repeat (first | apply Kd.R_alloc | apply Kd.R_drewN | apply Kd.R_drew)); exact HO1762.out) hb); have n1_ := Aside0.mk (Kd.R_below (by (with_reducible repeat (first | apply Kd.R_alloc | apply Kd.R_drewN | apply Kd.R_drew)); exact HO1767.out) hb); have n2_ := Aside0.mk (Kd.R_below (by (with_reducible repeat (first | apply Kd.R_alloc | apply Kd.R_drewN | apply Kd.R_drew)); exact HO1772.out) hb); have n3_ := Aside0.mk (Kd.R_below (by (with_reducible repeat (first | apply Kd.R_alloc | apply Kd.R_drewN | apply Kd.R_drew)); exact HO1777.out) hb); have n4_ := Aside0.mk (below_step (by repeat (first | (with_reducible first | exact HB.out | apply below_alloc | apply pw_below_drewN | apply below_drew1) | exact HB.out)) hb); clear HO1762; clear HO1767; clear HO1772; clear HO1777; clear HB; have HO1762 := n0_; have HO1767 := n1_; have HO1772 := n2_; have HO1777 := n3_; have HB := n4_; clear n0_ n1_ n2_ n3_ n4_; (try clear hb); (try clear hb2); (try clear hk); (try clear hi); obtain ⟨Ao90, co90, eo90⟩ := Kd.R_slice HO1777.out; subst eo90) | (go_at_call 28; (with_reducible refine (paymasterref10_Same.calls kj50 _ _ t1758 _ _ t1773 true _ ?side1 ?side2 ?side3 ?side4 A80.out).mono ?_); (case side1 => repeat (first | exact (Kd.R_reads' HO1762.out).2.2 | (with_reducible refine Kd.C_alloc ?_ _) | (with_reducible refine Kd.C_drewN ?_ _) | (with_reducible refine Kd.C_drew ?_))); (case side2 => exact (Kd.R_reads' HO1762.out).2.1); (case side3 => repeat (first | exact (Kd.R_reads' HO1777.out).2.2 | (with_reducible refine Kd.C_alloc ?_ _) | (with_reducible refine Kd.C_drewN ?_ _) | (with_reducible refine Kd.C_drew ?_))); (case side4 => exact (Kd.R_reads' HO1777.out).2.1); rintro e w' ⟨rfl, ⟨nd, rfl⟩⟩))
                                                                go_ret
                                                                exact ⟨by first | rfl | (simp [errW_none, errW_some] <;> rfl) | (simp only [← hji19, ← hji22]; first | rfl | (simp [errW_none, errW_some] <;> rfl)) | (simp [*, errW_none, errW_some] <;> rfl), by repeat (first | (with_reducible first | exact HB.out | apply below_alloc | apply pw_below_drewN | apply below_drew1) | exact HB.out)⟩
                                                              · replace c81 := Bool.eq_false_iff.mpr c81
                                                                subst c81
                                                                have H1 : (none) = some r := by rw [if_neg (show ¬ (false = true) by decide)] at H; exact H
                                                                clear H
                                                                have H := H1
                                                                clear H1
                                                                exact absurd H (by simp)
                                                            · rw [if_neg c79] at H
                                                              exact absurd H (by simp)
                                                          · rw [if_neg c78] at H
                                                            have c78b0 : (t1790 == 0) = false := beq_eq_false_iff_ne.mpr c78
                                                            have c78b1 : (t1790 != 0) = true := bne_iff_ne.mpr c78
                                                            by_cases c91 : t1789 = 1
                                                            · rw [if_pos c91] at H
                                                              have c91b0 : (t1789 == 1) = true := beq_iff_eq.mpr c91
                                                              have c91b1 : (t1789 != 1) = false := bne_eq_false_iff_eq.mpr c91
                                                              clear c91
                                                              obtain rfl := Option.some.inj H
                                                              go_wp2_with (first | ((with_reducible refine gate_callee (f := 32) rfl ?_); refine goesL_ (some 167) rfl rfl Tryd.func32 (by kernel_rfl) rfl #[.string t1708, .int .i64 a1] rfl (by (try simp only [List.map_toArray, List.map_cons, List.map_nil]); first | done | rfl | (simp only [List.length_drop, List.length_take]; rfl)) ?_; (with_reducible refine (ledger_Import.calls t1708 a1 t1758 t1759 t1760 _ ?side1 A64.out).mono ?_); (case side1 => exact gt_below hG (by repeat (first | (with_reducible first | exact HB.out | apply below_alloc | apply pw_below_drewN | apply below_drew1) | exact HB.out))); rintro e w92 ⟨v1761, rfl, ho0, hb⟩; refine ⟨_, rfl, ?_⟩; have n0_ := Aside0.mk (Kd.R_lower ho0 (below_size (by repeat (first | (with_reducible first | exact HB.out | apply below_alloc | apply pw_below_drewN | apply below_drew1) | exact HB.out)))); have n1_ := Aside0.mk (below_step (by repeat (first | (with_reducible first | exact HB.out | apply below_alloc | apply pw_below_drewN | apply below_drew1) | exact HB.out)) hb); clear HB; have HO1762 := n0_; have HB := n1_; clear n0_ n1_; (try clear hb); (try clear hb2); (try clear hk); (try clear hi); (try clear ho0)) | ((with_reducible refine gate_callee (f := 32) rfl ?_); refine goesL_ (some 174) rfl rfl Tryd.func32 (by kernel_rfl) rfl #[.string t1710, .int .i64 a1] rfl (by (try simp only [List.map_toArray, List.map_cons, List.map_nil]); first | done | rfl | (simp only [List.length_drop, List.length_take]; rfl)) ?_; (with_reducible refine (ledger_Import.calls t1710 a1 t1763 t1764 t1765 _ ?side1 A65.out).mono ?_); (case side1 => exact gt_below hG (by repeat (first | (with_reducible first | exact HB.out | apply below_alloc | apply pw_below_drewN | apply below_drew1) | exact HB.out))); rintro e w93 ⟨v1766, rfl, ho0, hb⟩; refine ⟨_, rfl, ?_⟩; have n0_ := Aside0.mk (Kd.R_elder' (by (with_reducible repeat (first | apply Kd.R_alloc | apply Kd.R_drewN | apply Kd.R_drew)); exact HO1762.out) (Kd.R_base ho0) hb); have n1_ := Aside0.mk (Kd.R_lower (Kd.R_new' ho0 (Kd.R_lt (by (with_reducible repeat (first | apply Kd.R_alloc | apply Kd.R_drewN | apply Kd.R_drew)); exact HO1762.out))) (below_size (by repeat (first | (with_reducible first | exact HB.out | apply below_alloc | apply pw_below_drewN | apply below_drew1) | exact HB.out)))); have n2_ := Aside0.mk (below_step (by repeat (first | (with_reducible first | exact HB.out | apply below_alloc | apply pw_below_drewN | apply below_drew1) | exact HB.out)) hb); clear HO1762; clear HB; have HO1762 := n0_; have HO1767 := n1_; have HB := n2_; clear n0_ n1_ n2_; (try clear hb); (try clear hb2); (try clear hk); (try clear hi); (try clear ho0)) | ((with_reducible refine gate_callee (f := 32) rfl ?_); refine goesL_ (some 181) rfl rfl Tryd.func32 (by kernel_rfl) rfl #[.string t1712, .int .i64 a1] rfl (by (try simp only [List.map_toArray, List.map_cons, List.map_nil]); first | done | rfl | (simp only [List.length_drop, List.length_take]; rfl)) ?_; (with_reducible refine (ledger_Import.calls t1712 a1 t1768 t1769 t1770 _ ?side1 A66.out).mono ?_); (case side1 => exact gt_below hG (by repeat (first | (with_reducible first | exact HB.out | apply below_alloc | apply pw_below_drewN | apply below_drew1) | exact HB.out))); rintro e w94 ⟨v1771, rfl, ho0, hb⟩; refine ⟨_, rfl, ?_⟩; have n0_ := Aside0.mk (Kd.R_elder' (by (with_reducible repeat (first | apply Kd.R_alloc | apply Kd.R_drewN | apply Kd.R_drew)); exact HO1762.out) (Kd.R_base ho0) hb); have n1_ := Aside0.mk (Kd.R_elder' (by (with_reducible repeat (first | apply Kd.R_alloc | apply Kd.R_drewN | apply Kd.R_drew)); exact HO1767.out) (Kd.R_base ho0) hb); have n2_ := Aside0.mk (Kd.R_lower (Kd.R_new' (Kd.R_new' ho0 (Kd.R_lt (by (with_reducible repeat (first | apply Kd.R_alloc | apply Kd.R_drewN | apply Kd.R_drew)); exact HO1762.out))) (Kd.R_lt (by (with_reducible repeat (first | apply Kd.R_alloc | apply Kd.R_drewN | apply Kd.R_drew)); exact HO1767.out))) (below_size (by repeat (first | (with_reducible first | exact HB.out | apply below_alloc | apply pw_below_drewN | apply below_drew1) | exact HB.out)))); have n3_ := Aside0.mk (below_step (by repeat (first | (with_reducible first | exact HB.out | apply below_alloc | apply pw_below_drewN | apply below_drew1) | exact HB.out)) hb); clear HO1762; clear HO1767; clear HB; have HO1762 := n0_; have HO1767 := n1_; have HO1772 := n2_; have HB := n3_; clear n0_ n1_ n2_ n3_; (try clear hb); (try clear hb2); (try clear hk); (try clear hi); (try clear ho0)) | ((with_reducible refine gate_callee (f := 32) rfl ?_); refine goesL_ (some 188) rfl rfl Tryd.func32 (by kernel_rfl) rfl #[.string t1714, .int .i64 a1] rfl (by (try simp only [List.map_toArray, List.map_cons, List.map_nil]); first | done | rfl | (simp only [List.length_drop, List.length_take]; rfl)) ?_; (with_reducible refine (ledger_Import.calls t1714 a1 t1773 t1774 t1775 _ ?side1 A67.out).mono ?_); (case side1 => exact gt_below hG (by repeat (first | (with_reducible first | exact HB.out | apply below_alloc | apply pw_below_drewN | apply below_drew1) | exact HB.out))); rintro e w95 ⟨v1776, rfl, ho0, hb⟩; refine ⟨_, rfl, ?_⟩; have n0_ := Aside0.mk (Kd.R_elder' (by (with_reducible repeat (first | apply Kd.R_alloc | apply Kd.R_drewN | apply Kd.R_drew)); exact HO1762.out) (Kd.R_base ho0) hb); have n1_ := Aside0.mk (Kd.R_elder' (by (with_reducible repeat (first | apply Kd.R_alloc | apply Kd.R_drewN | apply Kd.R_drew)); exact HO1767.out) (Kd.R_base ho0) hb); have n2_ := Aside0.mk (Kd.R_elder' (by (with_reducible repeat (first | apply Kd.R_alloc | apply Kd.R_drewN | apply Kd.R_drew)); exact HO1772.out) (Kd.R_base ho0) hb); have n3_ := Aside0.mk (Kd.R_lower (Kd.R_new' (Kd.R_new' (Kd.R_new' ho0 (Kd.R_lt (by (with_reducible repeat (first | apply Kd.R_alloc | apply Kd.R_drewN | apply Kd.R_drew)); exact HO1762.out))) (Kd.R_lt (by (with_reducible repeat (first | apply Kd.R_alloc | apply Kd.R_drewN | apply Kd.R_drew)); exact HO1767.out))) (Kd.R_lt (by (with_reducible repeat (first | apply Kd.R_alloc | apply Kd.R_drewN | apply Kd.R_drew)); exact HO1772.out))) (below_size (by repeat (first | (with_reducible first | exact HB.out | apply below_alloc | apply pw_below_drewN | apply below_drew1) | exact HB.out)))); have n4_ := Aside0.mk (below_step (by repeat (first | (with_reducible first | exact HB.out | apply below_alloc | apply pw_below_drewN | apply below_drew1) | exact HB.out)) hb); clear HO1762; clear HO1767; clear HO1772; clear HB; have HO1762 := n0_; have HO1767 := n1_; have HO1772 := n2_; have HO1777 := n3_; have HB := n4_; clear n0_ n1_ n2_ n3_ n4_; (try clear hb); (try clear hb2); (try clear hk); (try clear hi); (try clear ho0); obtain ⟨Ao96, co96, eo96⟩ := Kd.R_slice HO1762.out; subst eo96; obtain ⟨Ao97, co97, eo97⟩ := Kd.R_slice HO1767.out; subst eo97) | (go_at_call 28; (with_reducible refine (paymasterref10_Same.calls kj50 _ _ t1758 _ _ t1763 true _ ?side1 ?side2 ?side3 ?side4 A70.out).mono ?_); (case side1 => repeat (first | exact (Kd.R_reads' HO1762.out).2.2 | (with_reducible refine Kd.C_alloc ?_ _) | (with_reducible refine Kd.C_drewN ?_ _) | (with_reducible refine Kd.C_drew ?_))); (case side2 => exact (Kd.R_reads' HO1762.out).2.1); (case side3 => repeat (first | exact (Kd.R_reads' HO1767.out).2.2 | (with_reducible refine Kd.C_alloc ?_ _) | (with_reducible refine Kd.C_drewN ?_ _) | (with_reducible refine Kd.C_drew ?_))); (case side4 => exact (Kd.R_reads' HO1767.out).2.1); rintro e w' ⟨rfl, ⟨nd, rfl⟩⟩; obtain ⟨Ao98, co98, eo98⟩ := Kd.R_slice HO1772.out; subst eo98) | (go_at_call 28; (with_reducible refine (paymasterref10_Same.calls kj50 _ _ t1758 _ _ t1768 true _ ?side1 ?side2 ?side3 ?side4 A72.out).mono ?_); (case side1 => repeat (first | exact (Kd.R_reads' HO1762.out).2.2 | (with_reducible refine Kd.C_alloc ?_ _) | (with_reducible refine Kd.C_drewN ?_ _) | (with_reducible refine Kd.C_drew ?_))); (case side2 => exact (Kd.R_reads' HO1762.out).2.1); (case side3 => repeat (first | exact (Kd.R_reads' HO1772.out).2.2 | (with_reducible refine Kd.C_alloc ?_ _) | (with_reducible refine Kd.C_drewN ?_ _) | (with_reducible refine Kd.C_drew ?_))); (case side4 => exact (Kd.R_reads' HO1772.out).2.1); rintro e w' ⟨rfl, ⟨nd, rfl⟩⟩; have p1788 : 0 ≤ (ji22 : Int) := of_decide_eq_true (by first | (with_reducible assumption) | assumption); have q1788 : ji22 < (l0.length : Int) := of_decide_eq_true (by first | (with_reducible assumption) | assumption); obtain ⟨ad1788, e1788, hx1788_0⟩ := Kd.at_string HR0.out ji22 p1788 q1788; obtain rfl : ad1683 = ad1788 := (by injection e1788); replace hx1788_0 := (HB.out.cell (World.block_lt_of_cell? w _ hx1788_0)).trans hx1788_0; replace p1788 := eq_true p1788; replace q1788 := eq_true q1788) | ((with_reducible refine gate_callee (f := 39) rfl ?_); refine goesL_ (some 222) rfl rfl Tryd.func39 (by kernel_rfl) rfl #[.string ((⟨#[35, 32]⟩ : ByteArray) ++ (rdOf ByteArray.empty l0 ji22))] rfl (by (try simp only [List.map_toArray, List.map_cons, List.map_nil]); first | done | (simp only [hji22]; rfl) | rfl | (simp only [List.length_drop, List.length_take]; rfl)) ?_; (with_reducible refine (lines_Check.calls ((⟨#[35, 32]⟩ : ByteArray) ++ (rdOf ByteArray.empty l0 ji22)) t1789 t1790 _ ?side1 A77.out).mono ?_); (case side1 => exact gt_below hG (by repeat (first | (with_reducible first | exact HB.out | apply below_alloc | apply pw_below_drewN | apply below_drew1) | exact HB.out))); rintro e w99 ⟨rfl, hb⟩; refine ⟨_, rfl, ?_⟩; have n0_ := Aside0.mk (Kd.R_below (by (with_reducible repeat (first | apply Kd.R_alloc | apply Kd.R_drewN | apply Kd.R_drew)); exact HO1762.out) hb); have n1_ := Aside0.mk (Kd.R_below (by (with_reducible repeat (first | apply Kd.R_alloc | apply Kd.R_drewN | apply Kd.R_drew)); exact HO1767.out) hb); have n2_ := Aside0.mk (Kd.R_below (by (with_reducible repeat (first | apply Kd.R_alloc | apply Kd.R_drewN | apply Kd.R_drew)); exact HO1772.out) hb); have n3_ := Aside0.mk (Kd.R_below (by (with_reducible repeat (first | apply Kd.R_alloc | apply Kd.R_drewN | apply Kd.R_drew)); exact HO1777.out) hb); have n4_ := Aside0.mk (below_step (by repeat (first | (with_reducible first | exact HB.out | apply below_alloc | apply pw_below_drewN | apply below_drew1) | exact HB.out)) hb); clear HO1762; clear HO1767; clear HO1772; clear HO1777; clear HB; have HO1762 := n0_; have HO1767 := n1_; have HO1772 := n2_; have HO1777 := n3_; have HB := n4_; clear n0_ n1_ n2_ n3_ n4_; (try clear hb); (try clear hb2); (try clear hk); (try clear hi)))
                                                              go_ret
                                                              exact ⟨by first | rfl | (simp [errW_none, errW_some] <;> rfl) | (simp only [← hji19, ← hji22]; first | rfl | (simp [errW_none, errW_some] <;> rfl)) | (simp [*, errW_none, errW_some] <;> rfl), by repeat (first | (with_reducible first | exact HB.out | apply below_alloc | apply pw_below_drewN | apply below_drew1) | exact HB.out)⟩
                                                            · rw [if_neg c91] at H
                                                              exact absurd H (by simp)
                                                        · rw [if_neg c76] at H
                                                          exact absurd H (by simp)
                                                      · rw [if_neg c75] at H
                                                        exact absurd H (by simp)
                                                    · rw [if_neg c74] at H
                                                      exact absurd H (by simp)
                                                  · replace c73 := Bool.eq_false_iff.mpr c73
                                                    subst c73
                                                    have H1 : (none) = some r := by rw [if_neg (show ¬ (false = true) by decide)] at H; exact H
                                                    clear H
                                                    have H := H1
                                                    clear H1
                                                    exact absurd H (by simp)
                                                · replace c71 := Bool.eq_false_iff.mpr c71
                                                  subst c71
                                                  have H1 : (none) = some r := by rw [if_neg (show ¬ (false = true) by decide)] at H; exact H
                                                  clear H
                                                  have H := H1
                                                  clear H1
                                                  exact absurd H (by simp)
                              · rw [if_neg c27] at H
                                exact absurd H (by simp)
                            · rw [if_neg c25] at H
                              exact absurd H (by simp)
                          · rw [if_neg c24] at H
                            exact absurd H (by simp)
                        · rw [if_neg c23] at H
                          exact absurd H (by simp)
                      · rw [if_neg c21] at H
                        exact absurd H (by simp)
                    · rw [if_neg c20] at H
                      exact absurd H (by simp)
                · rw [if_neg c17] at H
                  exact absurd H (by simp)
  · replace c6 := Bool.eq_false_iff.mpr c6
    subst c6
    have H1 : (none) = some r := by rw [if_neg (show ¬ (false = true) by decide)] at H; exact H
    clear H
    have H := H1
    clear H1
    exact absurd H (by simp)
end Go.Proofs.YtpkjpiphjdpegaaDoor.P
