/- A program of this session wrote this text out of the session's own texts. (part 17 of 20) -/
import Derived.Test.YtpkjpiphjdpegaaDoorCLinesTells4
import Derived.Test.YtpkjpiphjdpegaaDoorCLinesTells10
import Derived.Test.YtpkjpiphjdpegaaDoorCLinesTells12
import Derived.Test.YtpkjpiphjdpegaaDoorCLinesTells15
import Derived.Test.YtpkjpiphjdpegaaDoorCLinesTells16
namespace Go.Proofs.YtpkjpiphjdpegaaDoor.P
open Go.RowKit Go.Proofs.YtpkjpiphjdpegaaDoorW.PrintWords Go.Proofs.YtpkjpiphjdpegaaDoorW.PrintLast Go.Proofs.YtpkjpiphjdpegaaDoorW.PrintMore
set_option linter.unusedVariables false
set_option linter.unusedSimpArgs false
theorem splitB_app : ∀ (a b : List UInt8), splitB (a ++ 10 :: b) = splitB a ++ splitB b
  | [], b => by show splitB (10 :: b) = [] :: splitB b; rw [splitB, if_pos rfl]
  | x :: a, b => by
    have ih := splitB_app a b
    rw [List.cons_append, splitB, splitB]
    by_cases c : x = 10
    · rw [if_pos c, if_pos c, ih]; rfl
    · rw [if_neg c, if_neg c, ih]
      cases h : splitB a with
      | nil => exact absurd h (splitB_ne a)
      | cons y r => rfl
theorem splitB_one : ∀ (h : List UInt8), (∀ b ∈ h, b ≠ 10) → splitB h = [h]
  | [], _ => rfl
  | x :: h, c => by
    rw [splitB, if_neg (c x (List.mem_cons_self ..)), splitB_one h fun b hb => c b (List.mem_cons_of_mem _ hb)]
theorem linesL_get : ∀ (l : List (List UInt8)) (n : Int) (i : Nat) (z : S56), i < l.length → (linesL n l).getD i z = lineOf (n + (i : Int)) (l.getD i [])
  | [], n, i, z, h => by simp at h
  | x :: l, n, 0, z, h => by rw [linesL, List.getD_cons_zero, List.getD_cons_zero]; congr 1; omega
  | x :: l, n, i + 1, z, h => by
    rw [linesL, List.getD_cons_succ, List.getD_cons_succ, linesL_get l (n + 1) i z (by simpa using h)]
    congr 1
    push_cast
    omega
theorem rd_line (L : List (List UInt8)) (i : Nat) (hi : i < L.length) : rd_T56 (linesL 1 L) (i : Int) = lineOf ((i : Int) + 1) (L.getD i []) := by
  unfold rd_T56
  rw [Int.toNat_natCast, linesL_get L 1 i z56 hi]
  congr 1
  omega
theorem check_f (s : ByteArray) (hs : s.size ≤ 1000000000) : lines_Check.f s = some (checkL (allL s)) := by unfold lines_Check.f; rw [if_pos hs]
theorem all_f (s : ByteArray) (hs : s.size ≤ 1000000000) : lines_All.f s = some (allL s) := by unfold lines_All.f; rw [if_pos hs]
theorem wrapI (x : Int) (h0 : -9223372036854775808 ≤ x) (h1 : x ≤ 9223372036854775807) : wrap64 x = x := by unfold wrap64; omega
end Go.Proofs.YtpkjpiphjdpegaaDoor.P
namespace Go.Proofs.YtpkjpiphjdpegaaDoor.P
open Go.RowKit Go.Proofs.YtpkjpiphjdpegaaDoorW.PrintWords Go.Proofs.YtpkjpiphjdpegaaDoorW.PrintLast Go.Proofs.YtpkjpiphjdpegaaDoorW.PrintMore
attribute [local go_sem] max2_int min2_int max_two min_two max_three min_three max_four min_four
set_option linter.unusedVariables false
set_option linter.unusedSimpArgs false
attribute [local go_sem high] eqA56
def paymasterref09_Wrong.f (k : Nat) (a0 : ByteArray) : Option (Int) := (paymasterref09_Runes.f k a0).bind fun bt182 => (if bt182.2 = 0 then (if (bt182.1.length : Int) > 80 then (some 91) else (some 0)) else (some bt182.2))
set_option maxHeartbeats 8000000 in
set_option maxRecDepth 100000 in
theorem paymasterref09_Wrong.calls (k : Nat) (a0 : ByteArray) (r : Int) (w : World) (h : paymasterref09_Wrong.f k a0 = some r) :
    Calls Tryd.prog 36 #[.string a0] w fun e w' => e = .returned (.int .i64 r) ∧ Below w.heap.size w w' := by
  have HB := Aside0.mk (Below.refl w.heap.size w)
  have H : ((paymasterref09_Runes.f k a0).bind fun bt182 => (if bt182.2 = 0 then (if (bt182.1.length : Int) > 80 then (some 91) else (some 0)) else (some bt182.2))) = some r := h
  clear h
  replace H := Option.bind_eq_some_iff.mp H
  obtain ⟨⟨t182, t183⟩, A20, H⟩ := H
  replace H : (if t183 = 0 then (if (t182.length : Int) > 80 then (some 91) else (some 0)) else (some t183)) = some r := H
  have A2 := Aside0.mk A20
  clear A20
  by_cases c3 : t183 = 0
  · rw [if_pos c3] at H
    have c3b0 : (t183 == 0) = true := beq_iff_eq.mpr c3
    have c3b1 : (t183 != 0) = false := bne_eq_false_iff_eq.mpr c3
    clear c3
    by_cases c4 : (t182.length : Int) > 80
    · rw [if_pos c4] at H
      have c4b0 : decide (80 < (t182.length : Int)) = true := decide_eq_true c4
      have c4b1 : decide (80 < t182.length) = true := decide_eq_true (by omega)
      clear c4
      obtain rfl := Option.some.inj H
      go_enter Tryd.func36, Tryd.ntmps36
      go_wp2_with (first | ((with_reducible refine gate_callee (f := 21) rfl ?_); refine goesL_ (some 7) rfl rfl Tryd.func21 (by kernel_rfl) rfl #[.string a0] rfl (by (try simp only [List.map_toArray, List.map_cons, List.map_nil]); first | done | rfl | (simp only [List.length_drop, List.length_take]; rfl)) ?_; (with_reducible refine (paymasterref09_Runes.calls k a0 t182 t183 _ A2.out).mono ?_); rintro e w5 ⟨v184, rfl, ho0, hb⟩; refine ⟨_, rfl, ?_⟩; have n0_ := Aside0.mk (Kd.R_lower ho0 (below_size (by repeat (first | (with_reducible first | exact HB.out | apply below_alloc | apply pw_below_drewN | apply below_drew1) | exact HB.out)))); have n1_ := Aside0.mk (below_step (by repeat (first | (with_reducible first | exact HB.out | apply below_alloc | apply pw_below_drewN | apply below_drew1) | exact HB.out)) hb); clear HB; have HO185 := n0_; have HB := n1_; clear n0_ n1_; (try clear hb); (try clear hb2); (try clear hk); (try clear hi); (try clear ho0); obtain ⟨Ao6, co6, eo6⟩ := Kd.R_slice HO185.out; subst eo6))
      go_ret
      exact ⟨by first | rfl | (simp [errW_none, errW_some] <;> rfl) | (simp [*, errW_none, errW_some] <;> rfl), by repeat (first | (with_reducible first | exact HB.out | apply below_alloc | apply pw_below_drewN | apply below_drew1) | exact HB.out)⟩
    · rw [if_neg c4] at H
      have c4b0 : decide (80 < (t182.length : Int)) = false := decide_eq_false c4
      have c4b1 : decide (80 < t182.length) = false := decide_eq_false (by omega)
      clear c4
      obtain rfl := Option.some.inj H
      go_enter Tryd.func36, Tryd.ntmps36
      go_wp2_with (first | ((with_reducible refine gate_callee (f := 21) rfl ?_); refine goesL_ (some 7) rfl rfl Tryd.func21 (by kernel_rfl) rfl #[.string a0] rfl (by (try simp only [List.map_toArray, List.map_cons, List.map_nil]); first | done | rfl | (simp only [List.length_drop, List.length_take]; rfl)) ?_; (with_reducible refine (paymasterref09_Runes.calls k a0 t182 t183 _ A2.out).mono ?_); rintro e w7 ⟨v184, rfl, ho0, hb⟩; refine ⟨_, rfl, ?_⟩; have n0_ := Aside0.mk (Kd.R_lower ho0 (below_size (by repeat (first | (with_reducible first | exact HB.out | apply below_alloc | apply pw_below_drewN | apply below_drew1) | exact HB.out)))); have n1_ := Aside0.mk (below_step (by repeat (first | (with_reducible first | exact HB.out | apply below_alloc | apply pw_below_drewN | apply below_drew1) | exact HB.out)) hb); clear HB; have HO185 := n0_; have HB := n1_; clear n0_ n1_; (try clear hb); (try clear hb2); (try clear hk); (try clear hi); (try clear ho0); obtain ⟨Ao8, co8, eo8⟩ := Kd.R_slice HO185.out; subst eo8))
      go_ret
      exact ⟨by first | rfl | (simp [errW_none, errW_some] <;> rfl) | (simp [*, errW_none, errW_some] <;> rfl), by repeat (first | (with_reducible first | exact HB.out | apply below_alloc | apply pw_below_drewN | apply below_drew1) | exact HB.out)⟩
  · rw [if_neg c3] at H
    have c3b0 : (t183 == 0) = false := beq_eq_false_iff_ne.mpr c3
    have c3b1 : (t183 != 0) = true := bne_iff_ne.mpr c3
    obtain rfl := Option.some.inj H
    go_enter Tryd.func36, Tryd.ntmps36
    go_wp2_with (first | ((with_reducible refine gate_callee (f := 21) rfl ?_); refine goesL_ (some 7) rfl rfl Tryd.func21 (by kernel_rfl) rfl #[.string a0] rfl (by (try simp only [List.map_toArray, List.map_cons, List.map_nil]); first | done | rfl | (simp only [List.length_drop, List.length_take]; rfl)) ?_; (with_reducible refine (paymasterref09_Runes.calls k a0 t182 t183 _ A2.out).mono ?_); rintro e w9 ⟨v184, rfl, ho0, hb⟩; refine ⟨_, rfl, ?_⟩; have n0_ := Aside0.mk (Kd.R_lower ho0 (below_size (by repeat (first | (with_reducible first | exact HB.out | apply below_alloc | apply pw_below_drewN | apply below_drew1) | exact HB.out)))); have n1_ := Aside0.mk (below_step (by repeat (first | (with_reducible first | exact HB.out | apply below_alloc | apply pw_below_drewN | apply below_drew1) | exact HB.out)) hb); clear HB; have HO185 := n0_; have HB := n1_; clear n0_ n1_; (try clear hb); (try clear hb2); (try clear hk); (try clear hi); (try clear ho0)))
    go_ret
    exact ⟨by first | rfl | (simp [errW_none, errW_some] <;> rfl) | (simp [*, errW_none, errW_some] <;> rfl), by repeat (first | (with_reducible first | exact HB.out | apply below_alloc | apply pw_below_drewN | apply below_drew1) | exact HB.out)⟩
def paymasterref09_Check.l0 : Nat → List ByteArray → Int → Option (Int × Int)
  | 0, _, _ => none
  | k + 1, x4, x5 => if x5 < (x4.length : Int) then (if 0 ≤ x5 then ((paymasterref09_Wrong.f k (rdOf ByteArray.empty x4 x5)).bind fun t191 => (if t191 = 0 then (paymasterref09_Check.l0 k x4 (wrap64 (x5 + 1))) else (some (wrap64 (x5 + 1), t191)))) else (none)) else (some (0, 0))
def paymasterref09_Check.f (k : Nat) (a0 : ByteArray) : Option (Int × Int) := (paymasterref09_Split.f k a0).bind fun t187 => (paymasterref09_Check.l0 k t187 0)
set_option maxHeartbeats 8000000 in
set_option maxRecDepth 100000 in
theorem paymasterref09_Check.calls (k : Nat) (a0 : ByteArray) (r1 : Int) (r2 : Int) (w : World) (h : paymasterref09_Check.f k a0 = some (r1, r2)) :
    Calls Tryd.prog 40 #[.string a0] w fun e w' => e = .returned (.tuple #[.int .i64 r1, .int .i64 r2]) ∧ Below w.heap.size w w' := by
  have HB := Aside0.mk (Below.refl w.heap.size w)
  have H : ((paymasterref09_Split.f k a0).bind fun t187 => (paymasterref09_Check.l0 k t187 0)) = some (r1, r2) := h
  clear h
  replace H := Option.bind_eq_some_iff.mp H
  obtain ⟨t187, A20, H⟩ := H
  replace H : (paymasterref09_Check.l0 k t187 0) = some (r1, r2) := H
  have A2 := Aside0.mk A20
  clear A20
  have H' := Aside0.mk H
  clear H
  go_enter Tryd.func40, Tryd.ntmps40
  go_wp2_with (first | ((with_reducible refine gate_callee (f := 33) rfl ?_); refine goesL_ (some 8) rfl rfl Tryd.func33 (by kernel_rfl) rfl #[.string a0] rfl (by (try simp only [List.map_toArray, List.map_cons, List.map_nil]); first | done | rfl | (simp only [List.length_drop, List.length_take]; rfl)) ?_; (with_reducible refine (paymasterref09_Split.calls k a0 t187 _ A2.out).mono ?_); rintro e w3 ⟨v188, rfl, ho0, hb⟩; refine ⟨_, rfl, ?_⟩; have n0_ := Aside0.mk (Kd.R_lower ho0 (below_size (by repeat (first | (with_reducible first | exact HB.out | apply below_alloc | apply pw_below_drewN | apply below_drew1) | exact HB.out)))); have n1_ := Aside0.mk (below_step (by repeat (first | (with_reducible first | exact HB.out | apply below_alloc | apply pw_below_drewN | apply below_drew1) | exact HB.out)) hb); clear HB; have HO189 := n0_; have HB := n1_; clear n0_ n1_; (try clear hb); (try clear hb2); (try clear hk); (try clear hi); (try clear ho0)))
  go_loopg [5] k (fun kq v5 w' => ∃ (x5_1 : Int), v5 = .int .i64 x5_1 ∧ Aside0 (paymasterref09_Check.l0 kq t187 x5_1 = some (r1, r2)) ∧ Aside0 (kq ≤ k) ∧ Aside0 (Kd.R Kd.string 9 w' w.heap.size (fun _ => True) v188 t187) ∧ Aside0 (Below w.heap.size w w'))
  case atStart => exact ⟨(0), (by first | rfl | (simp; done) | (simp [*]; done)), H', ⟨Nat.le_refl _⟩, ⟨by (with_reducible repeat (first | apply Kd.R_alloc | apply Kd.R_drewN | apply Kd.R_drew)); exact HO189.out⟩, ⟨by repeat (first | (with_reducible first | exact HB.out | apply below_alloc | apply pw_below_drewN | apply below_drew1) | exact HB.out)⟩⟩
  case round =>
    clear H'
    try clear p2
    try clear c3
    obtain ⟨x5_1, rfl, HA, HK1, HO_4, HB⟩ := hrel
    cases gk with
    | zero => exact absurd HA.out (by simp [paymasterref09_Check.l0])
    | succ k1 =>
      have H := HA.out
      clear HA
      simp only [paymasterref09_Check.l0] at H
      by_cases c4 : x5_1 < (t187.length : Int)
      · rw [if_pos c4] at H
        have c4b0 : decide (x5_1 < (t187.length : Int)) = true := decide_eq_true c4
        clear c4
        by_cases c5 : 0 ≤ x5_1
        · rw [if_pos c5] at H
          have c5b0 : decide (0 ≤ x5_1) = true := decide_eq_true c5
          clear c5
          replace H := Option.bind_eq_some_iff.mp H
          obtain ⟨t191, A60, H⟩ := H
          replace H : (if t191 = 0 then (paymasterref09_Check.l0 k1 t187 (wrap64 (x5_1 + 1))) else (some (wrap64 (x5_1 + 1), t191))) = some (r1, r2) := H
          have A6 := Aside0.mk A60
          clear A60
          by_cases c7 : t191 = 0
          · rw [if_pos c7] at H
            have c7b0 : (t191 == 0) = true := beq_iff_eq.mpr c7
            have c7b1 : (t191 != 0) = false := bne_eq_false_iff_eq.mpr c7
            clear c7
            have H' := Aside0.mk H
            clear H
            obtain ⟨Ao8, co8, eo8⟩ := Kd.R_slice HO_4.out
            subst eo8
            have p190 : 0 ≤ (x5_1 : Int) := of_decide_eq_true (by first | (with_reducible assumption) | assumption)
            have q190 : x5_1 < (t187.length : Int) := of_decide_eq_true (by first | (with_reducible assumption) | assumption)
            obtain ⟨ad190, e190, hx190_0⟩ := Kd.at_string (Kd.R_reads' HO_4.out).2.2 x5_1 p190 q190
            cases e190
            replace p190 := eq_true p190
            replace q190 := eq_true q190
            go_wp2_with (first | ((with_reducible refine gate_callee (f := 36) rfl ?_); refine goesL_ (some 19) rfl rfl Tryd.func36 (by kernel_rfl) rfl #[.string (rdOf ByteArray.empty t187 x5_1)] rfl (by (try simp only [List.map_toArray, List.map_cons, List.map_nil]); first | done | rfl | (simp only [List.length_drop, List.length_take]; rfl)) ?_; (with_reducible refine (paymasterref09_Wrong.calls k1 (rdOf ByteArray.empty t187 x5_1) t191 _ A6.out).mono ?_); rintro e w9 ⟨rfl, hb⟩; refine ⟨_, rfl, ?_⟩; have n0_ := Aside0.mk (Kd.R_below (by (with_reducible repeat (first | apply Kd.R_alloc | apply Kd.R_drewN | apply Kd.R_drew)); exact HO_4.out) hb); have n1_ := Aside0.mk (below_step (by repeat (first | (with_reducible first | exact HB.out | apply below_alloc | apply pw_below_drewN | apply below_drew1) | exact HB.out)) hb); clear HO_4; clear HB; have HO_4 := n0_; have HB := n1_; clear n0_ n1_; (try clear hb); (try clear hb2); (try clear hk); (try clear hi)))
            go_roundg k1
            case measure => have := HK1.out; omega
            case rel => exact ⟨(wrap64 (x5_1 + 1)), (by first | rfl | (simp; done) | (simp [*]; done)), H', ⟨by have := HK1.out; omega⟩, ⟨by (with_reducible repeat (first | apply Kd.R_alloc | apply Kd.R_drewN | apply Kd.R_drew)); exact HO_4.out⟩, ⟨by repeat (first | (with_reducible first | exact HB.out | apply below_alloc | apply pw_below_drewN | apply below_drew1) | exact HB.out)⟩⟩
          · rw [if_neg c7] at H
            have c7b0 : (t191 == 0) = false := beq_eq_false_iff_ne.mpr c7
            have c7b1 : (t191 != 0) = true := bne_iff_ne.mpr c7
            simp only [Option.some.injEq, Prod.mk.injEq] at H
            obtain ⟨rfl, rfl⟩ := H
            obtain ⟨Ao10, co10, eo10⟩ := Kd.R_slice HO_4.out
            subst eo10
            have p190 : 0 ≤ (x5_1 : Int) := of_decide_eq_true (by first | (with_reducible assumption) | assumption)
            have q190 : x5_1 < (t187.length : Int) := of_decide_eq_true (by first | (with_reducible assumption) | assumption)
            obtain ⟨ad190, e190, hx190_0⟩ := Kd.at_string (Kd.R_reads' HO_4.out).2.2 x5_1 p190 q190
            cases e190
            replace p190 := eq_true p190
            replace q190 := eq_true q190
            go_wp2_with (first | ((with_reducible refine gate_callee (f := 36) rfl ?_); refine goesL_ (some 19) rfl rfl Tryd.func36 (by kernel_rfl) rfl #[.string (rdOf ByteArray.empty t187 x5_1)] rfl (by (try simp only [List.map_toArray, List.map_cons, List.map_nil]); first | done | rfl | (simp only [List.length_drop, List.length_take]; rfl)) ?_; (with_reducible refine (paymasterref09_Wrong.calls k1 (rdOf ByteArray.empty t187 x5_1) t191 _ A6.out).mono ?_); rintro e w11 ⟨rfl, hb⟩; refine ⟨_, rfl, ?_⟩; have n0_ := Aside0.mk (Kd.R_below (by (with_reducible repeat (first | apply Kd.R_alloc | apply Kd.R_drewN | apply Kd.R_drew)); exact HO_4.out) hb); have n1_ := Aside0.mk (below_step (by repeat (first | (with_reducible first | exact HB.out | apply below_alloc | apply pw_below_drewN | apply below_drew1) | exact HB.out)) hb); clear HO_4; clear HB; have HO_4 := n0_; have HB := n1_; clear n0_ n1_; (try clear hb); (try clear hb2); (try clear hk); (try clear hi)))
            go_ret2
            exact ⟨by first | rfl | (simp [errW_none, errW_some] <;> rfl) | (simp [*, errW_none, errW_some] <;> rfl), by repeat (first | (with_reducible first | exact HB.out | apply below_alloc | apply pw_below_drewN | apply below_drew1) | exact HB.out)⟩
        · rw [if_neg c5] at H
          exact absurd H (by simp)
      · rw [if_neg c4] at H
        have c4b0 : decide (x5_1 < (t187.length : Int)) = false := decide_eq_false c4
        clear c4
        simp only [Option.some.injEq, Prod.mk.injEq] at H
        obtain ⟨rfl, rfl⟩ := H
        obtain ⟨Ao12, co12, eo12⟩ := Kd.R_slice HO_4.out
        subst eo12
        go_wp2
        go_ret2
        exact ⟨by first | rfl | (simp [errW_none, errW_some] <;> rfl) | (simp [*, errW_none, errW_some] <;> rfl), by repeat (first | (with_reducible first | exact HB.out | apply below_alloc | apply pw_below_drewN | apply below_drew1) | exact HB.out)⟩
end Go.Proofs.YtpkjpiphjdpegaaDoor.P
namespace Go.Proofs.YtpkjpiphjdpegaaDoor.P
open Go.RowKit Go.Proofs.YtpkjpiphjdpegaaDoorW.PrintWords Go.Proofs.YtpkjpiphjdpegaaDoorW.PrintLast Go.Proofs.YtpkjpiphjdpegaaDoorW.PrintMore
set_option linter.unusedVariables false
set_option linter.unusedSimpArgs false
theorem bt_mk (l : List UInt8) (i : Nat) (h : i < l.length) : bt (mk l) (i : Int) = ((l.getD i 0).toNat : Int) := by
  rw [bt_nb]
  unfold nb
  rw [mk_list, List.getD_eq_getElem?_getD, List.getD_eq_getElem?_getD, List.getElem?_map, List.getElem?_eq_getElem h]
  rfl
theorem u8_is (x : UInt8) (n : Nat) (hn : n < 256) : ((x.toNat : Int) = (n : Int)) ↔ x = UInt8.ofNat n := by
  constructor
  · intro h
    apply UInt8.toNat_inj.1
    rw [UInt8.toNat_ofNat']
    omega
  · intro h
    rw [h, UInt8.toNat_ofNat']
    omega
theorem ten_is (x : UInt8) : ((x.toNat : Int) = 10) ↔ x = 10 := u8_is x 10 (by omega)
theorem b35_is (x : UInt8) : ((x.toNat : Int) = 35) ↔ x = 35 := u8_is x 35 (by omega)
theorem split_at (l : List UInt8) (f i : Nat) (h : f ≤ i) (hi : i ≤ l.length) : l.drop f = (l.take i).drop f ++ l.drop i := by
  conv => lhs; rw [← List.take_append_drop i l]
  rw [List.drop_append_of_le_length (by rw [List.length_take]; omega)]
theorem refSplit_l0 (l : List UInt8) (hs : l.length ≤ 1000000000) (k : Nat) : ∀ (t i f : Nat) (x : List ByteArray), i + t = l.length → f ≤ i → (∀ b ∈ (l.take i).drop f, b ≠ 10) → x.length ≤ i →
    paymasterref09_Split.l0 (k + 2 + t) (mk l) x (f : Int) (i : Int) = some (x ++ (splitB (l.drop f)).map mk)
  | 0, i, f, x, h, hf, hc, hx => by
    obtain rfl : i = l.length := by omega
    rw [List.take_length] at hc
    show paymasterref09_Split.l0 (k + 1 + 1) (mk l) x _ _ = _
    rw [paymasterref09_Split.l0, mk_size, if_pos (Int.le_refl _), if_pos rfl, if_pos (show (0 : Int) ≤ (f : Int) by omega), if_pos (show (f : Int) ≤ (l.length : Int) by omega), if_pos (show x.length < 8796093022208 by omega), Int.toNat_natCast, Int.toNat_natCast, wrapI _ (by omega) (by omega), paymasterref09_Split.l0, mk_size, if_neg (by omega), extract_mk, List.take_length, splitB_one _ hc]
    rfl
  | t + 1, i, f, x, h, hf, hc, hx => by
    show paymasterref09_Split.l0 (k + 2 + t + 1) (mk l) x _ _ = _
    have sp := split_at l f i hf (by omega)
    have nx : l.drop i = l.getD i 0 :: l.drop (i + 1) := by
      rw [List.drop_eq_getElem_cons (by omega), List.getD_eq_getElem?_getD, List.getElem?_eq_getElem (by omega)]; rfl
    rw [nx] at sp
    rw [paymasterref09_Split.l0, mk_size, if_pos (show (i : Int) ≤ (l.length : Int) by omega), if_neg (show ¬ (i : Int) = (l.length : Int) by omega), if_pos (show (0 : Int) ≤ (i : Int) by omega), if_pos (show (i : Int) < (l.length : Int) by omega), bt_mk l i (by omega), wrapI _ (by omega) (by omega), show (i : Int) + 1 = ((i + 1 : Nat) : Int) from by omega]
    by_cases c : l.getD i 0 = 10
    · rw [if_pos ((ten_is _).2 c), if_pos (show (0 : Int) ≤ (f : Int) by omega), if_pos (show (f : Int) ≤ (i : Int) by omega), if_pos (show x.length < 8796093022208 by omega), Int.toNat_natCast, Int.toNat_natCast, extract_mk]
      rw [refSplit_l0 l hs k t (i + 1) (i + 1) _ (by omega) (Nat.le_refl _) (by rw [List.drop_of_length_le (by rw [List.length_take]; omega)]; simp) (by rw [List.length_append, List.length_singleton]; omega)]
      rw [sp, c, splitB_app, splitB_one _ hc, List.map_append, List.append_assoc]
      rfl
    · rw [if_neg (fun q => c ((ten_is _).1 q))]
      refine refSplit_l0 l hs k t (i + 1) f x (by omega) (by omega) ?_ (by omega)
      have e : (l.take (i + 1)).drop f = (l.take i).drop f ++ [l.getD i 0] := by
        rw [List.take_succ_eq_append_getElem (by omega), List.drop_append_of_le_length (by rw [List.length_take]; omega), List.getD_eq_getElem?_getD, List.getElem?_eq_getElem (by omega)]; rfl
      rw [e]
      intro b hb
      rcases List.mem_append.1 hb with q | q
      · exact hc b q
      · rw [List.mem_singleton.1 q]; exact c
theorem refSplit_is (s : ByteArray) (hs : s.size ≤ 1000000000) (k : Nat) (hk : s.size + 2 ≤ k) : paymasterref09_Split.f k s = some ((splitB s.data.toList).map mk) := by
  have e : s.data.toList.length = s.size := Array.length_toList
  have := refSplit_l0 s.data.toList (by omega) (k - 2 - s.size) s.size 0 0 [] (by omega) (Nat.le_refl _) (by simp) (Nat.le_refl _)
  rw [show k - 2 - s.size + 2 + s.size = k by omega, mk_of] at this
  exact this
theorem refKind_is (h : List UInt8) (hs : h.length ≤ 1000000000) : paymasterref09_Kind.f (mk h) = some (kindOf h) := by
  unfold paymasterref09_Kind.f
  rw [mk_size]
  cases h with
  | nil => rfl
  | cons b l =>
    rw [if_neg (by simp; omega), if_pos (by simp)]
    have e := bt_mk (b :: l) 0 (by simp)
    rw [show ((0 : Nat) : Int) = 0 from rfl] at e
    rw [e]
    show (if ((b.toNat : Int)) = 35 then _ else _) = some (if b = 35 then 1 else 2)
    by_cases q : b = 35
    · rw [if_pos ((b35_is b).2 q), if_pos q]
    · rw [if_neg (fun e => q ((b35_is b).1 e)), if_neg q]
theorem refWrong_is (h : List UInt8) (hs : h.length ≤ 1000000000) (k : Nat) (hk : h.length + 11 ≤ k) : paymasterref09_Wrong.f k (mk h) = some (wrongOf h) := by
  unfold paymasterref09_Wrong.f
  rw [refRunes_up (mk h) (by rw [mk_size]; omega) k (by rw [mk_size]; omega), Option.bind_some, mk_list, mk_size]
  unfold wrongOf
  by_cases v : Lib.validD h = true
  · rw [if_pos v, if_pos v, if_pos rfl]
    by_cases q : (runesAt (mk h) h.length 0).length > 80
    · rw [if_pos (by simp; omega), if_pos q]
    · rw [if_neg (by simp; omega), if_neg q]
  · rw [if_neg v, if_neg v, if_neg (by decide)]
theorem rdOf_mk (L : List (List UInt8)) (i : Nat) (hi : i < L.length) : rdOf ByteArray.empty (L.map mk) (i : Int) = mk (L.getD i []) := by
  unfold rdOf
  rw [Int.toNat_natCast, List.getD_eq_getElem?_getD, List.getD_eq_getElem?_getD, List.getElem?_map, List.getElem?_eq_getElem hi]
  rfl
theorem refCheck_l0 (L : List (List UInt8)) (M : Nat) (hM : M ≤ 1000000000) (hl : L.length ≤ 1000000000) (hs : ∀ h ∈ L, h.length ≤ M) (k : Nat) : ∀ (t i : Nat), i + t = L.length →
    paymasterref09_Check.l0 (k + M + 12 + t) (L.map mk) (i : Int) = some (checkL (linesL ((i : Int) + 1) (L.drop i)))
  | 0, i, h => by
    obtain rfl : i = L.length := by omega
    show paymasterref09_Check.l0 (k + M + 11 + 1) _ _ = _
    rw [paymasterref09_Check.l0, List.length_map, if_neg (by omega), List.drop_length]
    rfl
  | t + 1, i, h => by
    have ih := refCheck_l0 L M hM hl hs k t (i + 1) (by omega)
    have nx : L.drop i = L.getD i [] :: L.drop (i + 1) := by
      rw [List.drop_eq_getElem_cons (by omega), List.getD_eq_getElem?_getD, List.getElem?_eq_getElem (by omega)]; rfl
    have hm : L.getD i [] ∈ L := by rw [List.getD_eq_getElem?_getD, List.getElem?_eq_getElem (by omega)]; exact List.getElem_mem (by omega)
    have hb := hs _ hm
    show paymasterref09_Check.l0 (k + M + 12 + t + 1) _ _ = _
    rw [paymasterref09_Check.l0, List.length_map, if_pos (show (i : Int) < (L.length : Int) by omega), if_pos (show (0 : Int) ≤ (i : Int) by omega), rdOf_mk L i (by omega), refWrong_is _ (by omega) _ (by omega), Option.bind_some, wrapI _ (by omega) (by omega), nx, linesL, checkL]
    show _ = some (if wrongOf (L.getD i []) = 0 then _ else ((i : Int) + 1, wrongOf (L.getD i [])))
    by_cases q : wrongOf (L.getD i []) = 0
    · rw [if_pos q, if_pos q]
      exact ih
    · rw [if_neg q, if_neg q]
theorem refCheck_is (s : ByteArray) (hs : s.size ≤ 100000000) (k : Nat) (hk : 2 * s.size + 100 ≤ k) : paymasterref09_Check.f k s = some (checkL (allL s)) := by
  unfold paymasterref09_Check.f
  have e : s.data.toList.length = s.size := Array.length_toList
  have hl := splitB_len s.data.toList
  rw [refSplit_is s (by omega) k (by omega), Option.bind_some]
  have := refCheck_l0 (splitB s.data.toList) s.size (by omega) (by omega) (fun h hh => by have := splitB_size _ h hh; omega) (k - s.size - 12 - (splitB s.data.toList).length) (splitB s.data.toList).length 0 (by omega)
  rw [show k - s.size - 12 - (splitB s.data.toList).length + s.size + 12 + (splitB s.data.toList).length = k by omega, List.drop_zero] at this
  exact this
end Go.Proofs.YtpkjpiphjdpegaaDoor.P
