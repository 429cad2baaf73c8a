/- A program of this session wrote this text out of the session's own texts. (part 5 of 45) -/
import Derived.Test.YtpkjpiphjdpegaaDoorCLedgerImportsQ
import Derived.Test.YtpkjpiphjdpegaaDoorCLedgerImports4
import Derived.Laws.Bits64
namespace Go.Proofs.YtpkjpiphjdpegaaDoor.P
open Go.RowKit Go.Proofs.YtpkjpiphjdpegaaDoorW.PrintWords Go.Proofs.YtpkjpiphjdpegaaDoorW.PrintLast Go.Proofs.YtpkjpiphjdpegaaDoorW.PrintMore
attribute [local go_sem] max2_int min2_int max_two min_two max_three min_three max_four min_four
set_option linter.unusedVariables false
set_option linter.unusedSimpArgs false
mutual
def paymasterref01_Times.l0 : Nat → List Int → List Int → List Int → Int → Option (Int × Int × Int)
 | 0, _, _, _, _ => none
 | k + 1, x6, x7, x8, x9 => if x9 < 8 then (paymasterref01_Times.l1 k x6 x7 x8 x9 0) else ((paymasterref01_number.f k x8).bind fun bt408 => (if bt408.2.2 = true then (some (bt408.1, bt408.2.1, 0)) else (some (0, 0, 10))))
def paymasterref01_Times.l1 : Nat → List Int → List Int → List Int → Int → Int → Option (Int × Int × Int)
 | 0, _, _, _, _, _ => none
 | k + 1, x6, x7, x8, x9, x10 => if x10 < 4 then (if 0 ≤ x9 then (if x9 < (x6.length : Int) then (if 0 ≤ x10 then (if x10 < (x7.length : Int) then (paymasterref01_Times.l2 k x6 x7 x8 x9 x10 (IntKind.u64.wrap ((rd x6 x9) * (rd x7 x10))) (wrap64 (x9 + x10))) else (none)) else (none)) else (none)) else (none)) else (paymasterref01_Times.l0 k x6 x7 x8 (wrap64 (x9 + 1)))
def paymasterref01_Times.l2 : Nat → List Int → List Int → List Int → Int → Int → Int → Int → Option (Int × Int × Int)
 | 0, _, _, _, _, _, _, _ => none
 | k + 1, x6, x7, x8, x9, x10, x11, x12 => if x11 > 0 then (if 0 ≤ x12 then (if x12 < (x8.length : Int) then (paymasterref01_Times.l2 k x6 x7 (x8.set (x12 : Int).toNat (Int.tmod (IntKind.u64.wrap (x11 + (rd x8 x12))) 65536)) x9 x10 (IntKind.u64.wrap (Int.tdiv (IntKind.u64.wrap (x11 + (rd x8 x12))) 65536)) (wrap64 (x12 + 1))) else (none)) else (none)) else (paymasterref01_Times.l1 k x6 x7 x8 x9 (wrap64 (x10 + 1)))
end
def paymasterref01_Times.f (k : Nat) (a0_0 : Int) (a0_1 : Int) (a1 : Int) : Option (Int × Int × Int) := (paymasterref01_digits.f k a0_0 a0_1).bind fun t399 => ((paymasterref01_digits.f k 0 a1).bind fun t402 => (if 17 ≤ 35184372088832 then (paymasterref01_Times.l0 k t399 t402 (List.replicate 17 0) 0) else (none)))
theorem paymasterref01_Times.mono_l : ∀ k, (∀ y0 y1 y2 y3, LeO (paymasterref01_Times.l0 k y0 y1 y2 y3) (paymasterref01_Times.l0 (k + 1) y0 y1 y2 y3)) ∧ (∀ y0 y1 y2 y3 y4, LeO (paymasterref01_Times.l1 k y0 y1 y2 y3 y4) (paymasterref01_Times.l1 (k + 1) y0 y1 y2 y3 y4)) ∧ (∀ y0 y1 y2 y3 y4 y5 y6, LeO (paymasterref01_Times.l2 k y0 y1 y2 y3 y4 y5 y6) (paymasterref01_Times.l2 (k + 1) y0 y1 y2 y3 y4 y5 y6))
 | 0 => ⟨fun _ _ _ _ r h => by simp [paymasterref01_Times.l0] at h, fun _ _ _ _ _ r h => by simp [paymasterref01_Times.l1] at h, fun _ _ _ _ _ _ _ r h => by simp [paymasterref01_Times.l2] at h⟩
 | k + 1 => by
  obtain ⟨ih0, ih1, ih2⟩ := paymasterref01_Times.mono_l k; refine ⟨?_, ?_, ?_⟩
  ·intro y0 y1 y2 y3; unfold paymasterref01_Times.l0; repeat' first
   | (with_reducible exact ih0 _ _ _ _)
   | (with_reducible exact ih1 _ _ _ _ _)
   | (with_reducible exact ih2 _ _ _ _ _ _ _)
   | (with_reducible exact paymasterref01_digits.mono _ _ _)
   | (with_reducible exact paymasterref01_number.mono _ _)
   | (with_reducible exact LeO.refl _)
   | (with_reducible exact LeO.none _)
   | (with_reducible refine LeO.ite ?_ ?_)
   | (with_reducible refine LeO.bind ?_ (fun _ => ?_))
   | exact ih0 _ _ _ _
   | exact ih1 _ _ _ _ _
   | exact ih2 _ _ _ _ _ _ _
   | exact paymasterref01_digits.mono _ _ _
   | exact paymasterref01_number.mono _ _
   | exact LeO.none _
   | refine LeO.ite ?_ ?_
   | refine LeO.bind ?_ (fun _ => ?_)
  ·intro y0 y1 y2 y3 y4; unfold paymasterref01_Times.l1; repeat' first
   | (with_reducible exact ih0 _ _ _ _)
   | (with_reducible exact ih1 _ _ _ _ _)
   | (with_reducible exact ih2 _ _ _ _ _ _ _)
   | (with_reducible exact paymasterref01_digits.mono _ _ _)
   | (with_reducible exact paymasterref01_number.mono _ _)
   | (with_reducible exact LeO.refl _)
   | (with_reducible exact LeO.none _)
   | (with_reducible refine LeO.ite ?_ ?_)
   | (with_reducible refine LeO.bind ?_ (fun _ => ?_))
   | exact ih0 _ _ _ _
   | exact ih1 _ _ _ _ _
   | exact ih2 _ _ _ _ _ _ _
   | exact paymasterref01_digits.mono _ _ _
   | exact paymasterref01_number.mono _ _
   | exact LeO.none _
   | refine LeO.ite ?_ ?_
   | refine LeO.bind ?_ (fun _ => ?_)
  ·intro y0 y1 y2 y3 y4 y5 y6; unfold paymasterref01_Times.l2; repeat' first
   | (with_reducible exact ih0 _ _ _ _)
   | (with_reducible exact ih1 _ _ _ _ _)
   | (with_reducible exact ih2 _ _ _ _ _ _ _)
   | (with_reducible exact paymasterref01_digits.mono _ _ _)
   | (with_reducible exact paymasterref01_number.mono _ _)
   | (with_reducible exact LeO.refl _)
   | (with_reducible exact LeO.none _)
   | (with_reducible refine LeO.ite ?_ ?_)
   | (with_reducible refine LeO.bind ?_ (fun _ => ?_))
   | exact ih0 _ _ _ _
   | exact ih1 _ _ _ _ _
   | exact ih2 _ _ _ _ _ _ _
   | exact paymasterref01_digits.mono _ _ _
   | exact paymasterref01_number.mono _ _
   | exact LeO.none _
   | refine LeO.ite ?_ ?_
   | refine LeO.bind ?_ (fun _ => ?_)
set_option maxHeartbeats 8000000 in
set_option maxRecDepth 100000 in
theorem paymasterref01_Times.calls (k : Nat) (a0_0 : Int) (a0_1 : Int) (a1 : Int) (r1 : Int) (r2 : Int) (r3 : Int) (w : World) (h : paymasterref01_Times.f k a0_0 a0_1 a1 = some (r1, r2, r3)) :
  Calls Tryd.prog 110 #[.agg #[.int .u64 a0_0, .int .u64 a0_1], .int .u64 a1] w fun e w' => e = .returned (.tuple #[.agg #[.int .u64 r1, .int .u64 r2], .int .i64 r3]) ∧ Below w.heap.size w w' := by
 have hu42 := Tryd.underlying42; have HB := Aside0.mk (Below.refl w.heap.size w); have H : ((paymasterref01_digits.f k a0_0 a0_1).bind fun t399 => ((paymasterref01_digits.f k 0 a1).bind fun t402 => (if 17 ≤ 35184372088832 then (paymasterref01_Times.l0 k t399 t402 (List.replicate 17 0) 0) else (none)))) = some (r1, r2, r3) := h; clear h; replace H := Option.bind_eq_some_iff.mp H; obtain ⟨t399, A30, H⟩ := H; replace H : ((paymasterref01_digits.f k 0 a1).bind fun t402 => (if 17 ≤ 35184372088832 then (paymasterref01_Times.l0 k t399 t402 (List.replicate 17 0) 0) else (none))) = some (r1, r2, r3) := H; have A3 := Aside0.mk A30; clear A30; replace H := Option.bind_eq_some_iff.mp H; obtain ⟨t402, A40, H⟩ := H; replace H : (if 17 ≤ 35184372088832 then (paymasterref01_Times.l0 k t399 t402 (List.replicate 17 0) 0) else (none)) = some (r1, r2, r3) := H; have A4 := Aside0.mk A40; clear A40
 by_cases c5 : 17 ≤ 35184372088832
 ·rw [if_pos c5] at H; have c5b0 := eq_true c5; have c5b1 : decide (17 ≤ 35184372088832) = true := decide_eq_true c5; clear c5; obtain ⟨y405, hy405⟩ : ∃ y_ : List Int, y_ = (List.replicate 17 0) := ⟨_, rfl⟩
  replace H : (paymasterref01_Times.l0 k t399 t402 y405 0) = some (r1, r2, r3) := by first | (rw [hy405]; with_reducible exact H) | (have H2_ := (Option.bind_some _ _).symm.trans H; rw [hy405]; with_reducible exact H2_) | (have H2_ := (Option.bind_some _ _).symm.trans H; with_reducible exact H2_) | with_reducible exact H | (rw [hy405]; exact H) | exact H
  have Ny405 := Aside0.mk hy405; clear hy405; have H' := Aside0.mk H; clear H; go_enter Tryd.func110, Tryd.ntmps110
  go_wp2_with (first | ((with_reducible refine zRq (N := 2) rfl ?_); refine zRn ?hg (N := 2) ?hd (cs := #[.int .u64 a0_0, .int .u64 a0_1]) (t := 42) ?hr ?_; (case hd => rfl); (case hg => rfl); (case hr => first | (go_simp; done) | (go_simp; rfl)); intro gb397 hg w6 hbox hb; have n0_ := Aside0.mk (zRd zv0 hb); have n1_ := Aside0.mk (hbox); have n2_ := Aside0.mk ((zv3w : w.heap.size ≤ gb397)); have n3_ := Aside0.mk ((zv3w : w.heap.size ≤ gb397)); clear HB; have HB := n0_; have BK397 := n1_; have GW397 := n2_; have GE397 := n3_; clear n0_ n1_ n2_ n3_; clear hb hbox hg) | ((with_reducible refine zRq (N := 4) rfl ?_); refine zRn ?hg (N := 4) ?hd (cs := #[.int .u64 0, .int .u64 0]) (t := 42) ?hr ?_; (case hd => rfl); (case hg => rfl); (case hr => first | (go_simp; done) | (go_simp; rfl)); intro gb398 hg w7 hbox hb; have n0_ := Aside0.mk (zRc (g := gb397) (o := .cells #[.int .u64 a0_0, .int .u64 a0_1] 42 (0, 0)) (zqb BK397.out) hb); have n1_ := Aside0.mk (zRd zv2d hb); have n2_ := Aside0.mk (hbox); have n3_ := Aside0.mk ((by rw [hg]; exact (zRg zv2d) : w.heap.size ≤ gb398)); have n4_ := Aside0.mk ((by rw [hg]; exact (zRg zv2d) : w.heap.size ≤ gb398)); have n5_ := Aside0.mk ((zv2j : gb397 ≠ gb398)); have n6_ := Aside0.mk ((zv2k : gb398 ≠ gb397)); clear BK397; clear HB; have BK397 := n0_; have HB := n1_; have BK398 := n2_; have GW398 := n3_; have GE398 := n4_; have NB397_398 := n5_; have NB398_397 := n6_; clear n0_ n1_ n2_ n3_ n4_ n5_ n6_; clear hb hbox hg; have hnb8 := NB397_398.out; have hnc8 := NB398_397.out; have hcz9_0 : w7.cell? ⟨gb397, 0, none⟩ = some (.int .u64 a0_0) := (zRa BK397.out 0).trans rfl; have hcz9_1 : w7.cell? ⟨gb397, 1, none⟩ = some (.int .u64 a0_1) := (zRa BK397.out 1).trans rfl; have hfz9_0 := zRb BK397.out 0; have hfz9_1 := zRb BK397.out 1) | (go_at_call 128; (with_reducible refine (paymasterref01_digits.calls k a0_0 a0_1 t399 _ A3.out).mono ?_); rintro e w10 ⟨v400, rfl, ho0, hb⟩; have n0_ := Aside0.mk (Kd.R_lower ho0 (zRg zvc)); have n1_ := Aside0.mk (zRc (g := gb397) (o := .cells #[.int .u64 a0_0, .int .u64 a0_1] 42 (0, 0)) (zqb BK397.out) hb); have n2_ := Aside0.mk (zRc (g := gb398) (o := .cells #[.int .u64 0, .int .u64 0] 42 (0, 0)) (zqb BK398.out) hb); have n3_ := Aside0.mk (zRd zvc hb); clear BK397; clear BK398; clear HB; have HO401 := n0_; have BK397 := n1_; have BK398 := n2_; have HB := n3_; clear n0_ n1_ n2_ n3_; (try clear hb); (try clear hb2); (try clear hk); (try clear hi); (try clear ho0)) | (go_at_call 128; (with_reducible refine (paymasterref01_digits.calls k 0 a1 t402 _ A4.out).mono ?_); rintro e w11 ⟨v403, rfl, ho0, hb⟩; have n0_ := Aside0.mk (Kd.R_elder' (zqr HO401.out) (Kd.R_base ho0) hb); have n1_ := Aside0.mk (Kd.R_lower (Kd.R_new' ho0 (Kd.R_lt (zqr HO401.out))) (zRg zvc)); have n2_ := Aside0.mk (zRc (g := gb397) (o := .cells #[.int .u64 a0_0, .int .u64 a0_1] 42 (0, 0)) (zqb BK397.out) hb); have n3_ := Aside0.mk (zRc (g := gb398) (o := .cells #[.int .u64 0, .int .u64 0] 42 (0, 0)) (zqb BK398.out) hb); have n4_ := Aside0.mk (zRd zvc hb); clear HO401; clear BK397; clear BK398; clear HB; have HO401 := n0_; have HO404 := n1_; have BK397 := n2_; have BK398 := n3_; have HB := n4_; clear n0_ n1_ n2_ n3_ n4_; (try clear hb); (try clear hb2); (try clear hk); (try clear hi); (try clear ho0)) | ((with_reducible refine zRq (N := 20) rfl ?_); refine Kd.R_make (Kd.int .u64) _ 40 rfl (N := 20) rfl 172 _ _ rfl 17 rfl rfl Tryd.underlying172 (.int .u64 0) 8 info40 rfl zvz zv1 0 (ok := fun _ => True) (okp := fun _ => True) rfl (fun _ hk => hk) trivial zv1 zv1 (Below.refl _ _) (Nat.le_refl _) ?_; intro v406 w12 ho13 hb hg_ hnew_; clear hg_ hnew_; (first | rw [← Ny405.out] at ho13 | (simp only [Int.reduceToNat] at ho13; rw [← Ny405.out] at ho13)); have n0_ := Aside0.mk (Kd.R_elder' (zqr HO401.out) (Kd.R_base ho13) hb); have n1_ := Aside0.mk (Kd.R_elder' (zqr HO404.out) (Kd.R_base ho13) hb); have n2_ := Aside0.mk (Kd.R_lower (Kd.R_new' (Kd.R_new' ho13 (Kd.R_lt (zqr HO401.out))) (Kd.R_lt (zqr HO404.out))) (zRg zvc)); have n3_ := Aside0.mk (zRc (g := gb397) (o := .cells #[.int .u64 a0_0, .int .u64 a0_1] 42 (0, 0)) (zqb BK397.out) hb); have n4_ := Aside0.mk (zRc (g := gb398) (o := .cells #[.int .u64 0, .int .u64 0] 42 (0, 0)) (zqb BK398.out) hb); have n5_ := Aside0.mk (zRd zvc hb); clear HO401; clear HO404; clear BK397; clear BK398; clear HB; have HO401 := n0_; have HO404 := n1_; have HO407 := n2_; have BK397 := n3_; have BK398 := n4_; have HB := n5_; clear n0_ n1_ n2_ n3_ n4_ n5_; clear hb ho13))
  go_loopg [9] k (fun kq v9 w' => ∃ (x8_1 : List Int) (x9_1 : Int), v9 = .int .i64 x9_1 ∧ Aside0 (paymasterref01_Times.l0 kq t399 t402 x8_1 x9_1 = some (r1, r2, r3)) ∧ Aside0 (kq ≤ k) ∧ Aside0 (Kd.R (Kd.int .u64) 40 w' w.heap.size (fun k_ => some k_ ≠ (v403 : Value).ownBlock ∧ some k_ ≠ (v406 : Value).ownBlock) v400 t399) ∧ Aside0 (Kd.R (Kd.int .u64) 40 w' w.heap.size (fun k_ => some k_ ≠ (v400 : Value).ownBlock ∧ some k_ ≠ (v406 : Value).ownBlock) v403 t402) ∧ Aside0 (Kd.R (Kd.int .u64) 40 w' w.heap.size (fun k_ => some k_ ≠ (v400 : Value).ownBlock ∧ some k_ ≠ (v403 : Value).ownBlock) v406 x8_1) ∧ Aside0 (w'.heap[gb397]? = some (.cells #[.int .u64 a0_0, .int .u64 a0_1] 42 (0, 0))) ∧ Aside0 (w'.heap[gb398]? = some (.cells #[.int .u64 0, .int .u64 0] 42 (0, 0))) ∧ Aside0 (Below w.heap.size w w'))
  case atStart => exact ⟨(y405), (0), zv5, H', ⟨Nat.le_refl _⟩, ⟨(by (with_reducible repeat (first | apply Kd.R_alloc | apply Kd.R_drewN | apply Kd.R_drew)); exact Kd.R_mono HO401.out (fun _ hk => ⟨hk.1.2, hk.2⟩))⟩, ⟨(by (with_reducible repeat (first | apply Kd.R_alloc | apply Kd.R_drewN | apply Kd.R_drew)); exact Kd.R_mono HO404.out (fun _ hk => ⟨hk.1.2, hk.2⟩))⟩, ⟨(by (with_reducible repeat (first | apply Kd.R_alloc | apply Kd.R_drewN | apply Kd.R_drew)); exact Kd.R_mono HO407.out (fun _ hk => ⟨hk.1.2, hk.2⟩))⟩, ⟨zv1g⟩, ⟨zv1h⟩, ⟨zvc⟩⟩
  case round =>
   clear H'; try clear c1
   try clear p2
   try clear c5
   try clear c5b0
   try clear c5b1
   try clear c8
   try clear c11
   try clear hcz9_0
   try clear hcz9_1
   try clear hfz9_0
   try clear hfz9_1
   obtain ⟨x8_1, x9_1, rfl, HA, HK1, HO_6, HO_7, HO_8, BK397, BK398, HB⟩ := hrel; cases gk with
   | zero => exact absurd HA.out (by simp [paymasterref01_Times.l0])
   | succ k1 =>
    have H := HA.out; clear HA; simp only [paymasterref01_Times.l0] at H
    by_cases c14 : x9_1 < 8
    ·rw [if_pos c14] at H; have c14b0 : decide (x9_1 < 8) = true := decide_eq_true c14; clear c14; have H' := Aside0.mk H; clear H; go_wp2; repeat (go_quiet (fail); try go_wp2)
     go_loopg [10] k1 (fun kq v10 w' => ∃ (x8_2 : List Int) (x10_2 : Int), v10 = .int .i64 x10_2 ∧ Aside0 (paymasterref01_Times.l1 kq t399 t402 x8_2 x9_1 x10_2 = some (r1, r2, r3)) ∧ Aside0 (kq ≤ k1) ∧ Aside0 (Kd.R (Kd.int .u64) 40 w' w.heap.size (fun k_ => some k_ ≠ (v403 : Value).ownBlock ∧ some k_ ≠ (v406 : Value).ownBlock) v400 t399) ∧ Aside0 (Kd.R (Kd.int .u64) 40 w' w.heap.size (fun k_ => some k_ ≠ (v400 : Value).ownBlock ∧ some k_ ≠ (v406 : Value).ownBlock) v403 t402) ∧ Aside0 (Kd.R (Kd.int .u64) 40 w' w.heap.size (fun k_ => some k_ ≠ (v400 : Value).ownBlock ∧ some k_ ≠ (v403 : Value).ownBlock) v406 x8_2) ∧ Aside0 (w'.heap[gb397]? = some (.cells #[.int .u64 a0_0, .int .u64 a0_1] 42 (0, 0))) ∧ Aside0 (w'.heap[gb398]? = some (.cells #[.int .u64 0, .int .u64 0] 42 (0, 0))) ∧ Aside0 (Below w.heap.size w w'))
     case atStart => exact ⟨(x8_1), (0), zv5, H', ⟨Nat.le_refl _⟩, ⟨zv1i⟩, ⟨zv1d⟩, ⟨zv1s⟩, ⟨zv1g⟩, ⟨zv1h⟩, ⟨zvc⟩⟩
     case round =>
      clear H'; try clear c1
      try clear p2
      try clear c5
      try clear c5b0
      try clear c5b1
      try clear c8
      try clear c11
      try clear c14
      try clear c14b0
      try clear hcz9_0
      try clear hcz9_1
      try clear hfz9_0
      try clear hfz9_1
      try clear p2
      obtain ⟨x8_2, x10_2, rfl, HA, HK2, HO_6, HO_7, HO_8, BK397, BK398, HB⟩ := hrel; cases gk with
      | zero => exact absurd HA.out (by simp [paymasterref01_Times.l1])
      | succ k2 =>
       have H := HA.out; clear HA; simp only [paymasterref01_Times.l1] at H
       by_cases c15 : x10_2 < 4
       ·rw [if_pos c15] at H; have c15b0 : decide (x10_2 < 4) = true := decide_eq_true c15; clear c15
        by_cases c16 : 0 ≤ x9_1
        ·rw [if_pos c16] at H; have c16b0 : decide (0 ≤ x9_1) = true := decide_eq_true c16; clear c16
         by_cases c17 : x9_1 < (t399.length : Int)
         ·rw [if_pos c17] at H; have c17b0 : decide (x9_1 < (t399.length : Int)) = true := decide_eq_true c17; clear c17
          by_cases c18 : 0 ≤ x10_2
          ·rw [if_pos c18] at H; have c18b0 : decide (0 ≤ x10_2) = true := decide_eq_true c18; clear c18
           by_cases c19 : x10_2 < (t402.length : Int)
           ·rw [if_pos c19] at H; have c19b0 : decide (x10_2 < (t402.length : Int)) = true := decide_eq_true c19; clear c19; have H' := Aside0.mk H; clear H; obtain ⟨Ao20, co20, eo20⟩ := Kd.R_slice HO_6.out; subst eo20; have p412 : 0 ≤ (x9_1 : Int) := of_decide_eq_true zv6; have q412 : x9_1 < (t399.length : Int) := of_decide_eq_true zv6; obtain ⟨ad412, e412, hx412_0⟩ := Kd.at_int (Kd.R_reads' HO_6.out).2.2 x9_1 p412 q412; cases e412; replace p412 := eq_true p412; replace q412 := eq_true q412; obtain ⟨Ao21, co21, eo21⟩ := Kd.R_slice HO_7.out; subst eo21; have p413 : 0 ≤ (x10_2 : Int) := of_decide_eq_true zv6; have q413 : x10_2 < (t402.length : Int) := of_decide_eq_true zv6; obtain ⟨ad413, e413, hx413_0⟩ := Kd.at_int (Kd.R_reads' HO_7.out).2.2 x10_2 p413 q413; cases e413; replace p413 := eq_true p413; replace q413 := eq_true q413; go_wp2; repeat (go_quiet (fail); try go_wp2)
            go_loopg [11, 12] k2 (fun kq v11 v12 w' => ∃ (x8_3 : List Int) (x11_3 : Int) (x12_3 : Int), v11 = .int .u64 x11_3 ∧ v12 = .int .i64 x12_3 ∧ Aside0 (paymasterref01_Times.l2 kq t399 t402 x8_3 x9_1 x10_2 x11_3 x12_3 = some (r1, r2, r3)) ∧ Aside0 (kq ≤ k2) ∧ Aside0 (Kd.R (Kd.int .u64) 40 w' w.heap.size (fun k_ => some k_ ≠ ((.slice (some ad413) t402.length co21) : Value).ownBlock ∧ some k_ ≠ (v406 : Value).ownBlock) (.slice (some ad412) t399.length co20) t399) ∧ Aside0 (Kd.R (Kd.int .u64) 40 w' w.heap.size (fun k_ => some k_ ≠ ((.slice (some ad412) t399.length co20) : Value).ownBlock ∧ some k_ ≠ (v406 : Value).ownBlock) (.slice (some ad413) t402.length co21) t402) ∧ Aside0 (Kd.R (Kd.int .u64) 40 w' w.heap.size (fun k_ => some k_ ≠ ((.slice (some ad412) t399.length co20) : Value).ownBlock ∧ some k_ ≠ ((.slice (some ad413) t402.length co21) : Value).ownBlock) v406 x8_3) ∧ Aside0 (w'.heap[gb397]? = some (.cells #[.int .u64 a0_0, .int .u64 a0_1] 42 (0, 0))) ∧ Aside0 (w'.heap[gb398]? = some (.cells #[.int .u64 0, .int .u64 0] 42 (0, 0))) ∧ Aside0 (Below w.heap.size w w'))
            case atStart => exact ⟨(x8_2), (IntKind.u64.wrap ((rd t399 x9_1) * (rd t402 x10_2))), (wrap64 (x9_1 + x10_2)), zv5, zv5, H', ⟨Nat.le_refl _⟩, ⟨zv1i⟩, ⟨zv1d⟩, ⟨zv1s⟩, ⟨zv1g⟩, ⟨zv1h⟩, ⟨zvc⟩⟩
            case round =>
             clear H'; try clear c1
             try clear p2
             try clear p4
             try clear q4
             try clear hx4
             try clear c5
             try clear c5b0
             try clear c5b1
             try clear p6
             try clear c8
             try clear c11
             try clear c14
             try clear c14b0
             try clear c15
             try clear c15b0
             try clear c16
             try clear c16b0
             try clear c17
             try clear c17b0
             try clear c18
             try clear c18b0
             try clear c19
             try clear c19b0
             try clear hcz9_0
             try clear hcz9_1
             try clear hfz9_0
             try clear hfz9_1
             try clear hx412_0
             try clear hx413_0
             try clear p2
             try clear p412
             try clear p413
             try clear q412
             try clear q413
             obtain ⟨x8_3, x11_3, x12_3, rfl, rfl, HA, HK3, HO_6, HO_7, HO_8, BK397, BK398, HB⟩ := hrel; cases gk with
             | zero => exact absurd HA.out (by simp [paymasterref01_Times.l2])
             | succ k3 =>
              have H := HA.out; clear HA; simp only [paymasterref01_Times.l2] at H
              by_cases c22 : x11_3 > 0
              ·rw [if_pos c22] at H; have c22b0 : decide (0 < x11_3) = true := decide_eq_true c22; clear c22
               by_cases c23 : 0 ≤ x12_3
               ·rw [if_pos c23] at H; have c23b0 : decide (0 ≤ x12_3) = true := decide_eq_true c23; clear c23
                by_cases c24 : x12_3 < (x8_3.length : Int)
                ·rw [if_pos c24] at H; have c24b0 : decide (x12_3 < (x8_3.length : Int)) = true := decide_eq_true c24; clear c24; obtain ⟨y415, hy415⟩ : ∃ y_ : List Int, y_ = (x8_3.set (x12_3 : Int).toNat (Int.tmod (IntKind.u64.wrap (x11_3 + (rd x8_3 x12_3))) 65536)) := ⟨_, rfl⟩
                 replace H : (paymasterref01_Times.l2 k3 t399 t402 y415 x9_1 x10_2 (IntKind.u64.wrap (Int.tdiv (IntKind.u64.wrap (x11_3 + (rd x8_3 x12_3))) 65536)) (wrap64 (x12_3 + 1))) = some (r1, r2, r3) := by first | (rw [hy415]; with_reducible exact H) | (have H2_ := (Option.bind_some _ _).symm.trans H; rw [hy415]; with_reducible exact H2_) | (have H2_ := (Option.bind_some _ _).symm.trans H; with_reducible exact H2_) | with_reducible exact H | (rw [hy415]; exact H) | exact H
                 have Ny415 := Aside0.mk hy415; clear hy415; have H' := Aside0.mk H; clear H; obtain ⟨Ao26, co26, eo26⟩ := Kd.R_slice HO_8.out; subst eo26; have p414 : 0 ≤ (x12_3 : Int) := of_decide_eq_true zv6; have q414 : x12_3 < (x8_3.length : Int) := of_decide_eq_true zv6; obtain ⟨ad414, e414, hx414_0⟩ := Kd.at_int (Kd.R_reads' HO_8.out).2.2 x12_3 p414 q414; cases e414; replace p414 := eq_true p414; replace q414 := eq_true q414; have p25 : 0 ≤ (x12_3 : Int) := of_decide_eq_true zv6; have q25 : (x12_3 : Int) < ((x8_3.length : Int) : Int) := of_decide_eq_true zv6; obtain ⟨go25, co25, eo25, gb25, gl25, cl25, HG25⟩ := Kd.R_form HO_8.out zv1; (first | cases eo25 | (injection eo25 with ea_ en_ ec_; (first | subst ea_ | (injection ea_ with ea_; subst ea_)); subst ec_; clear en_))
                 have GB25 := Aside0.mk gb25; have GG25 := Aside0.mk HG25; clear gb25 gl25 HG25; (first | simp only [add_plain] at hx414_0 | skip)
                 obtain ⟨hx25_0, hf25_0⟩ := Kd.R_celln 0 HO_8.out (x12_3 : Int) p25 q25; replace p25 := eq_true p25; replace q25 := eq_true q25; have HP27 := Kd.R_putg HO_8.out (x12_3 : Int) (Int.tmod (IntKind.u64.wrap (x11_3 + (rd x8_3 x12_3))) 65536)
                 go_wp2_with (first | ((with_reducible refine gate_store (t := 40) (p := 55) rfl ?_); (try (rw [drewN_self wr]; generalize hq_ : World.drewN wr _ = wr; have n0_ := Aside0.mk (Kd.R_at hq_ HO_6.out); have n1_ := Aside0.mk (Kd.R_at hq_ HO_7.out); have n2_ := Aside0.mk (Kd.R_at hq_ HO_8.out); have n3_ := Aside0.mk (blk_at hq_ BK397.out); have n4_ := Aside0.mk (blk_at hq_ BK398.out); have n5_ := Aside0.mk (below_at hq_ HB.out); clear hq_ HO_6 HO_7 HO_8 BK397 BK398 HB; have HO_6 := n0_; have HO_7 := n1_; have HO_8 := n2_; have BK397 := n3_; have BK398 := n4_; have HB := n5_; clear n0_ n1_ n2_ n3_ n4_ n5_; (try (have HP27 := Kd.R_putg HO_8.out (x12_3 : Int) (Int.tmod (IntKind.u64.wrap (x11_3 + (rd x8_3 x12_3))) 65536))))); refine store_event (t := 40) (p := 55) (v := ?vo_w28) (w1 := (wr.setCell ⟨go25, (x12_3 : Int).toNat, none⟩ (.int .u64 (Int.tmod (IntKind.u64.wrap (x11_3 + (rd x8_3 x12_3))) 65536)))) ?hg ?ho ?hn ?hr ?_; (case ho => rfl); (case hg => rfl); (case hn => rfl); (case hr => first | (go_simp; done) | (go_simp; rfl)); intro w28 hw; have hg : wr.grownBy w28 (some go25) := (by rw [hw]; exact HP27.2); have hp_ : Kd.R (Kd.int .u64) 40 w28 w.heap.size (fun k_ => some k_ ≠ (.slice (some ad412) t399.length co20 : Value).ownBlock ∧ some k_ ≠ (.slice (some ad413) t402.length co21 : Value).ownBlock) (.slice (some ⟨go25, 0, none⟩) x8_3.length co26) y415 := (by rw [hw, Ny415.out]; exact HP27.1); clear HP27; have n0_ := Aside0.mk (Kd.R_after (v := (.slice (some ⟨go25, 0, none⟩) x8_3.length co26)) (v1 := (.slice (some ⟨go25, 0, none⟩) x8_3.length co26)) (ok := (fun k_ => some k_ ≠ (.slice (some ad413) t402.length co21 : Value).ownBlock)) (zqr HO_6.out) hg (.inl rfl)); have n1_ := Aside0.mk (Kd.R_after (v := (.slice (some ⟨go25, 0, none⟩) x8_3.length co26)) (v1 := (.slice (some ⟨go25, 0, none⟩) x8_3.length co26)) (ok := (fun k_ => some k_ ≠ (.slice (some ad412) t399.length co20 : Value).ownBlock)) (zqr HO_7.out) hg (.inl rfl)); have n2_ := Aside0.mk (hp_); have n3_ := Aside0.mk (zRt (g := gb397) (o := .cells #[.int .u64 a0_0, .int .u64 a0_1] 42 (0, 0)) (zqb BK397.out) hg (Kd.R_ne HO_8.out BK397.out zvz)); have n4_ := Aside0.mk (zRt (g := gb398) (o := .cells #[.int .u64 0, .int .u64 0] 42 (0, 0)) (zqb BK398.out) hg (Kd.R_ne HO_8.out BK398.out zvz)); have n5_ := Aside0.mk ((by rw [hw]; exact zRi (HB.out) GB25.out : Below w.heap.size w w28)); clear HO_6; clear HO_7; clear HO_8; clear BK397; clear BK398; clear HB; have HO_6 := n0_; have HO_7 := n1_; have HO_8 := n2_; have BK397 := n3_; have BK398 := n4_; have HB := n5_; clear n0_ n1_ n2_ n3_ n4_ n5_; clear hg hw hp_))
                 go_roundg k3
                 case measure => have := HK1.out; have := HK2.out; have := HK3.out; omega
                 case rel => exact ⟨(y415), (IntKind.u64.wrap (Int.tdiv (IntKind.u64.wrap (x11_3 + (rd x8_3 x12_3))) 65536)), (wrap64 (x12_3 + 1)), zv5, zv5, H', ⟨(by have := HK1.out; have := HK2.out; have := HK3.out; omega)⟩, ⟨zv1i⟩, ⟨zv1d⟩, ⟨zv1s⟩, ⟨zv1g⟩, ⟨zv1h⟩, ⟨zvc⟩⟩
                ·rw [if_neg c24] at H; exact absurd H zv10
               ·rw [if_neg c23] at H; exact absurd H zv10
              ·rw [if_neg c22] at H; have c22b0 : decide (0 < x11_3) = false := decide_eq_false c22; clear c22; have H' := Aside0.mk H; clear H; go_wp2; repeat (go_quiet (fail); try go_wp2)
               go_roundg k3
               case measure => have := HK1.out; have := HK2.out; have := HK3.out; omega
               case rel => exact ⟨(x8_3), (wrap64 (x10_2 + 1)), zv5, H', ⟨(by have := HK1.out; have := HK2.out; have := HK3.out; omega)⟩, ⟨zv1i⟩, ⟨zv1d⟩, ⟨zv1s⟩, ⟨zv1g⟩, ⟨zv1h⟩, ⟨zvc⟩⟩
           ·rw [if_neg c19] at H; exact absurd H zv10
          ·rw [if_neg c18] at H; exact absurd H zv10
         ·rw [if_neg c17] at H; exact absurd H zv10
        ·rw [if_neg c16] at H; exact absurd H zv10
       ·rw [if_neg c15] at H; have c15b0 : decide (x10_2 < 4) = false := decide_eq_false c15; clear c15; have H' := Aside0.mk H; clear H; go_wp2; repeat (go_quiet (fail); try go_wp2)
        go_roundg k2
        case measure => have := HK1.out; have := HK2.out; omega
        case rel => exact ⟨(x8_2), (wrap64 (x9_1 + 1)), zv5, H', ⟨zv2x⟩, ⟨zv1i⟩, ⟨zv1d⟩, ⟨zv1s⟩, ⟨zv1g⟩, ⟨zv1h⟩, ⟨zvc⟩⟩
    ·rw [if_neg c14] at H; have c14b0 : decide (x9_1 < 8) = false := decide_eq_false c14; clear c14; replace H := Option.bind_eq_some_iff.mp H; obtain ⟨⟨t408, t409, t410⟩, A290, H⟩ := H; replace H : (if t410 = true then (some (t408, t409, 0)) else (some (0, 0, 10))) = some (r1, r2, r3) := H; have A29 := Aside0.mk A290; clear A290
     by_cases c30 : t410 = true
     ·subst c30; have H1 : (some (t408, t409, 0)) = some (r1, r2, r3) := by rw [if_pos rfl] at H; exact H
      clear H; have H := H1; clear H1; simp only [Option.some.injEq, Prod.mk.injEq] at H; obtain ⟨rfl, rfl, rfl⟩ := H; obtain ⟨Ao31, co31, eo31⟩ := Kd.R_slice HO_8.out; subst eo31
      go_wp2_with (first | (go_at_call 129; (with_reducible refine (paymasterref01_number.calls k1 _ _ x8_1 t408 t409 true _ ?side1 ?side2 A29.out).mono ?_); (case side1 => repeat (first | exact (Kd.R_reads' HO_8.out).2.2 | (with_reducible refine Kd.C_alloc ?_ _) | (with_reducible refine Kd.C_drewN ?_ _) | (with_reducible refine Kd.C_drew ?_))); (case side2 => exact (Kd.R_reads' HO_8.out).2.1); rintro e w32 ⟨rfl, hb⟩; have n0_ := Aside0.mk (Kd.R_below (zqr HO_6.out) hb); have n1_ := Aside0.mk (Kd.R_below (zqr HO_7.out) hb); have n2_ := Aside0.mk (Kd.R_below (zqr HO_8.out) hb); have n3_ := Aside0.mk (zRc (g := gb397) (o := .cells #[.int .u64 a0_0, .int .u64 a0_1] 42 (0, 0)) (zqb BK397.out) hb); have n4_ := Aside0.mk (zRc (g := gb398) (o := .cells #[.int .u64 0, .int .u64 0] 42 (0, 0)) (zqb BK398.out) hb); have n5_ := Aside0.mk (zRd zvc hb); clear HO_6; clear HO_7; clear HO_8; clear BK397; clear BK398; clear HB; have HO_6 := n0_; have HO_7 := n1_; have HO_8 := n2_; have BK397 := n3_; have BK398 := n4_; have HB := n5_; clear n0_ n1_ n2_ n3_ n4_ n5_; (try clear hb); (try clear hb2); (try clear hk); (try clear hi)) | ((with_reducible refine zRq (N := 13) rfl ?_); refine zRn ?hg (N := 13) ?hd (cs := #[.int .u64 0, .int .u64 0]) (t := 42) ?hr ?_; (case hd => rfl); (case hg => rfl); (case hr => first | (go_simp; done) | (go_simp; rfl)); intro gb411 hg w33 hbox hb; have n0_ := Aside0.mk (Kd.R_below (zqr HO_6.out) hb); have n1_ := Aside0.mk (Kd.R_below (zqr HO_7.out) hb); have n2_ := Aside0.mk (Kd.R_below (zqr HO_8.out) hb); have n3_ := Aside0.mk (zRc (g := gb397) (o := .cells #[.int .u64 a0_0, .int .u64 a0_1] 42 (0, 0)) (zqb BK397.out) hb); have n4_ := Aside0.mk (zRc (g := gb398) (o := .cells #[.int .u64 0, .int .u64 0] 42 (0, 0)) (zqb BK398.out) hb); have n5_ := Aside0.mk (zRd zvc hb); have n6_ := Aside0.mk (hbox); have n7_ := Aside0.mk ((zv48 : w.heap.size ≤ gb411)); have n8_ := Aside0.mk ((zv48 : w.heap.size ≤ gb411)); have n9_ := Aside0.mk ((zv2j : gb397 ≠ gb411)); have n10_ := Aside0.mk ((zv2k : gb411 ≠ gb397)); have n11_ := Aside0.mk ((zv3f : gb398 ≠ gb411)); have n12_ := Aside0.mk ((zv3g : gb411 ≠ gb398)); clear HO_6; clear HO_7; clear HO_8; clear BK397; clear BK398; clear HB; have HO_6 := n0_; have HO_7 := n1_; have HO_8 := n2_; have BK397 := n3_; have BK398 := n4_; have HB := n5_; have BK411 := n6_; have GW411 := n7_; have GE411 := n8_; have NB397_411 := n9_; have NB411_397 := n10_; have NB398_411 := n11_; have NB411_398 := n12_; clear n0_ n1_ n2_ n3_ n4_ n5_ n6_ n7_ n8_ n9_ n10_ n11_ n12_; clear hb hbox hg; have hnb34 := NB411_397.out; have hnc34 := NB397_411.out; have hnb35 := NB411_398.out; have hnc35 := NB398_411.out; have hcz36_0 : w33.cell? ⟨gb411, 0, none⟩ = some (.int .u64 0) := (zRa BK411.out 0).trans rfl; have hcz36_1 : w33.cell? ⟨gb411, 1, none⟩ = some (.int .u64 0) := (zRa BK411.out 1).trans rfl; have hfz36_0 := zRb BK411.out 0; have hfz36_1 := zRb BK411.out 1; have hnb37 := NB398_397.out; have hnc37 := NB397_398.out; have hcz38_0 : w33.cell? ⟨gb398, 0, none⟩ = some (.int .u64 0) := (zRa BK398.out 0).trans rfl; have hcz38_1 : w33.cell? ⟨gb398, 1, none⟩ = some (.int .u64 0) := (zRa BK398.out 1).trans rfl; have hfz38_0 := zRb BK398.out 0; have hfz38_1 := zRb BK398.out 1))
      refine bodyPost_ret (zRu rfl _ _ gb398 42 #[.int .u64 t408, .int .u64 t409] (0, 0) _ rfl (by refine zqb ?_; refine zRm (cs := #[.int .u64 t408, .int .u64 0]) ?_ 1 _ rfl; refine zqb ?_; refine zRm (cs := #[.int .u64 0, .int .u64 0]) ?_ 0 _ rfl; refine zqb ?_; refine zRr ?_ NB398_411.out _; refine zqb ?_; refine zRr ?_ NB398_411.out _; refine zqb ?_; exact BK398.out) Tryd.underlying42 rfl (by kernel_rfl)) rfl ?_; exact ⟨zv8, zv2o⟩
     ·replace c30 := Bool.eq_false_iff.mpr c30; subst c30; have H1 : (some (0, 0, 10)) = some (r1, r2, r3) := by rw [if_neg (show ¬ (false = true) by decide)] at H; exact H
      clear H; have H := H1; clear H1; simp only [Option.some.injEq, Prod.mk.injEq] at H; obtain ⟨rfl, rfl, rfl⟩ := H; obtain ⟨Ao39, co39, eo39⟩ := Kd.R_slice HO_8.out; subst eo39
      go_wp2_with (first | (go_at_call 129; (with_reducible refine (paymasterref01_number.calls k1 _ _ x8_1 t408 t409 false _ ?side1 ?side2 A29.out).mono ?_); (case side1 => repeat (first | exact (Kd.R_reads' HO_8.out).2.2 | (with_reducible refine Kd.C_alloc ?_ _) | (with_reducible refine Kd.C_drewN ?_ _) | (with_reducible refine Kd.C_drew ?_))); (case side2 => exact (Kd.R_reads' HO_8.out).2.1); rintro e w40 ⟨rfl, hb⟩; have n0_ := Aside0.mk (Kd.R_below (zqr HO_6.out) hb); have n1_ := Aside0.mk (Kd.R_below (zqr HO_7.out) hb); have n2_ := Aside0.mk (Kd.R_below (zqr HO_8.out) hb); have n3_ := Aside0.mk (zRc (g := gb397) (o := .cells #[.int .u64 a0_0, .int .u64 a0_1] 42 (0, 0)) (zqb BK397.out) hb); have n4_ := Aside0.mk (zRc (g := gb398) (o := .cells #[.int .u64 0, .int .u64 0] 42 (0, 0)) (zqb BK398.out) hb); have n5_ := Aside0.mk (zRd zvc hb); clear HO_6; clear HO_7; clear HO_8; clear BK397; clear BK398; clear HB; have HO_6 := n0_; have HO_7 := n1_; have HO_8 := n2_; have BK397 := n3_; have BK398 := n4_; have HB := n5_; clear n0_ n1_ n2_ n3_ n4_ n5_; (try clear hb); (try clear hb2); (try clear hk); (try clear hi)) | ((with_reducible refine zRq (N := 13) rfl ?_); refine zRn ?hg (N := 13) ?hd (cs := #[.int .u64 0, .int .u64 0]) (t := 42) ?hr ?_; (case hd => rfl); (case hg => rfl); (case hr => first | (go_simp; done) | (go_simp; rfl)); intro gb411 hg w41 hbox hb; have n0_ := Aside0.mk (Kd.R_below (zqr HO_6.out) hb); have n1_ := Aside0.mk (Kd.R_below (zqr HO_7.out) hb); have n2_ := Aside0.mk (Kd.R_below (zqr HO_8.out) hb); have n3_ := Aside0.mk (zRc (g := gb397) (o := .cells #[.int .u64 a0_0, .int .u64 a0_1] 42 (0, 0)) (zqb BK397.out) hb); have n4_ := Aside0.mk (zRc (g := gb398) (o := .cells #[.int .u64 0, .int .u64 0] 42 (0, 0)) (zqb BK398.out) hb); have n5_ := Aside0.mk (zRd zvc hb); have n6_ := Aside0.mk (hbox); have n7_ := Aside0.mk ((zv48 : w.heap.size ≤ gb411)); have n8_ := Aside0.mk ((zv48 : w.heap.size ≤ gb411)); have n9_ := Aside0.mk ((zv2j : gb397 ≠ gb411)); have n10_ := Aside0.mk ((zv2k : gb411 ≠ gb397)); have n11_ := Aside0.mk ((zv3f : gb398 ≠ gb411)); have n12_ := Aside0.mk ((zv3g : gb411 ≠ gb398)); clear HO_6; clear HO_7; clear HO_8; clear BK397; clear BK398; clear HB; have HO_6 := n0_; have HO_7 := n1_; have HO_8 := n2_; have BK397 := n3_; have BK398 := n4_; have HB := n5_; have BK411 := n6_; have GW411 := n7_; have GE411 := n8_; have NB397_411 := n9_; have NB411_397 := n10_; have NB398_411 := n11_; have NB411_398 := n12_; clear n0_ n1_ n2_ n3_ n4_ n5_ n6_ n7_ n8_ n9_ n10_ n11_ n12_; clear hb hbox hg; have hnb42 := NB411_397.out; have hnc42 := NB397_411.out; have hnb43 := NB411_398.out; have hnc43 := NB398_411.out; have hcz44_0 : w41.cell? ⟨gb411, 0, none⟩ = some (.int .u64 0) := (zRa BK411.out 0).trans rfl; have hcz44_1 : w41.cell? ⟨gb411, 1, none⟩ = some (.int .u64 0) := (zRa BK411.out 1).trans rfl; have hfz44_0 := zRb BK411.out 0; have hfz44_1 := zRb BK411.out 1; have hnb45 := NB398_397.out; have hnc45 := NB397_398.out; have hcz46_0 : w41.cell? ⟨gb398, 0, none⟩ = some (.int .u64 0) := (zRa BK398.out 0).trans rfl; have hcz46_1 : w41.cell? ⟨gb398, 1, none⟩ = some (.int .u64 0) := (zRa BK398.out 1).trans rfl; have hfz46_0 := zRb BK398.out 0; have hfz46_1 := zRb BK398.out 1))
      refine bodyPost_ret (zRu rfl _ _ gb398 42 #[.int .u64 0, .int .u64 0] (0, 0) _ rfl (by refine zqb ?_; refine zRm (cs := #[.int .u64 0, .int .u64 0]) ?_ 1 _ rfl; refine zqb ?_; refine zRm (cs := #[.int .u64 0, .int .u64 0]) ?_ 0 _ rfl; refine zqb ?_; refine zRr ?_ NB398_411.out _; refine zqb ?_; refine zRr ?_ NB398_411.out _; refine zqb ?_; exact BK398.out) Tryd.underlying42 rfl (by kernel_rfl)) rfl ?_; exact ⟨zv8, zv2o⟩
 ·rw [if_neg c5] at H; exact absurd H zv10
def paymasterref01_Add.l0 : Nat → List Int → List Int → Int → List Int → Int → Option (Int × Int × Int)
 | 0, _, _, _, _, _ => none
 | k + 1, x6, x7, x8, x9, x10 => if x10 < 8 then (if 0 ≤ x10 then (if x10 < (x6.length : Int) then (if x10 < (x7.length : Int) then (if x9.length < 17592186044416 then (paymasterref01_Add.l0 k x6 x7 (IntKind.u64.wrap (Int.tdiv (IntKind.u64.wrap ((IntKind.u64.wrap ((rd x6 x10) + (rd x7 x10))) + x8)) 65536)) (x9 ++ [Int.tmod (IntKind.u64.wrap ((IntKind.u64.wrap ((rd x6 x10) + (rd x7 x10))) + x8)) 65536]) (wrap64 (x10 + 1))) else (none)) else (none)) else (none)) else (none)) else (if x9.length < 17592186044416 then ((paymasterref01_number.f k (x9 ++ [x8])).bind fun bt433 => (if bt433.2.2 = true then (some (bt433.1, bt433.2.1, 0)) else (some (0, 0, 10)))) else (none))
def paymasterref01_Add.f (k : Nat) (a0_0 : Int) (a0_1 : Int) (a1_0 : Int) (a1_1 : Int) : Option (Int × Int × Int) := (paymasterref01_digits.f k a0_0 a0_1).bind fun t419 => ((paymasterref01_digits.f k a1_0 a1_1).bind fun t422 => (paymasterref01_Add.l0 k t419 t422 0 ([] : List Int) 0))
def paymasterref01_Add.T7 : Bool × List (List Nat × List Nat) := (true, [([], []), ([], []), ([0, 1], [0, 1]), ([2], [2]), ([], []), ([], []), ([4, 5], [4, 5]), ([6], [6]), ([3, 7], [3, 7]), ([], []), ([8, 9], [8, 9]), ([10, 0, 1, 2, 3, 4, 5, 6, 7, 8, 9, 10], [10])])
def paymasterref01_Add.B7 : List Nat := [0, 0, 3, 7, 0, 0, 48, 112, 255, 0, 1023, 2047]
theorem paymasterref01_Add.tab7 : rtab .any (opsOf Tryd.f111 7) = paymasterref01_Add.T7 := by kernel_rfl
theorem paymasterref01_Add.bits7 : waitsOk paymasterref01_Add.T7.2 paymasterref01_Add.B7 = true := by kernel_rfl
set_option maxHeartbeats 8000000 in
set_option maxRecDepth 100000 in
theorem paymasterref01_Add.calls (k : Nat) (a0_0 : Int) (a0_1 : Int) (a1_0 : Int) (a1_1 : Int) (r1 : Int) (r2 : Int) (r3 : Int) (w : World) (h : paymasterref01_Add.f k a0_0 a0_1 a1_0 a1_1 = some (r1, r2, r3)) :
  Calls Tryd.prog 111 #[.agg #[.int .u64 a0_0, .int .u64 a0_1], .agg #[.int .u64 a1_0, .int .u64 a1_1]] w fun e w' => e = .returned (.tuple #[.agg #[.int .u64 r1, .int .u64 r2], .int .i64 r3]) ∧ Below w.heap.size w w' := by
 have hu42 := Tryd.underlying42; have HB := Aside0.mk (Below.refl w.heap.size w); have H : ((paymasterref01_digits.f k a0_0 a0_1).bind fun t419 => ((paymasterref01_digits.f k a1_0 a1_1).bind fun t422 => (paymasterref01_Add.l0 k t419 t422 0 ([] : List Int) 0))) = some (r1, r2, r3) := h; clear h; replace H := Option.bind_eq_some_iff.mp H; obtain ⟨t419, A30, H⟩ := H; replace H : ((paymasterref01_digits.f k a1_0 a1_1).bind fun t422 => (paymasterref01_Add.l0 k t419 t422 0 ([] : List Int) 0)) = some (r1, r2, r3) := H; have A3 := Aside0.mk A30; clear A30; replace H := Option.bind_eq_some_iff.mp H; obtain ⟨t422, A40, H⟩ := H; replace H : (paymasterref01_Add.l0 k t419 t422 0 ([] : List Int) 0) = some (r1, r2, r3) := H; have A4 := Aside0.mk A40; clear A40; have H' := Aside0.mk H; clear H; go_enter Tryd.func111, Tryd.ntmps111; try go_wp2_with (first | ((with_reducible refine zRq (N := 2) rfl ?_); refine zRn ?hg (N := 2) ?hd (cs := #[.int .u64 a0_0, .int .u64 a0_1]) (t := 42) ?hr ?_; (case hd => rfl); (case hg => rfl); (case hr => first | (go_simp; done) | (go_simp; rfl)); intro gb416 hg w5 hbox hb; have n0_ := Aside0.mk (zRd zv0 hb); have n1_ := Aside0.mk (hbox); have n2_ := Aside0.mk ((zv3w : w.heap.size ≤ gb416)); have n3_ := Aside0.mk ((zv3w : w.heap.size ≤ gb416)); clear HB; have HB := n0_; have BK416 := n1_; have GW416 := n2_; have GE416 := n3_; clear n0_ n1_ n2_ n3_; clear hb hbox hg) | ((with_reducible refine zRq (N := 3) rfl ?_); refine zRn ?hg (N := 3) ?hd (cs := #[.int .u64 a1_0, .int .u64 a1_1]) (t := 42) ?hr ?_; (case hd => rfl); (case hg => rfl); (case hr => first | (go_simp; done) | (go_simp; rfl)); intro gb417 hg w6 hbox hb; have n0_ := Aside0.mk (zRc (g := gb416) (o := .cells #[.int .u64 a0_0, .int .u64 a0_1] 42 (0, 0)) (zqb BK416.out) hb); have n1_ := Aside0.mk (zRd zv2e hb); have n2_ := Aside0.mk (hbox); have n3_ := Aside0.mk ((by rw [hg]; exact (zRg zv2e) : w.heap.size ≤ gb417)); have n4_ := Aside0.mk ((by rw [hg]; exact (zRg zv2e) : w.heap.size ≤ gb417)); have n5_ := Aside0.mk ((zv21 : gb416 ≠ gb417)); have n6_ := Aside0.mk ((zv22 : gb417 ≠ gb416)); clear BK416; clear HB; have BK416 := n0_; have HB := n1_; have BK417 := n2_; have GW417 := n3_; have GE417 := n4_; have NB416_417 := n5_; have NB417_416 := n6_; clear n0_ n1_ n2_ n3_ n4_ n5_ n6_; clear hb hbox hg) | ((with_reducible refine zRq (N := 4) rfl ?_); refine zRn ?hg (N := 4) ?hd (cs := #[.int .u64 0, .int .u64 0]) (t := 42) ?hr ?_; (case hd => rfl); (case hg => rfl); (case hr => first | (go_simp; done) | (go_simp; rfl)); intro gb418 hg w7 hbox hb; have n0_ := Aside0.mk (zRc (g := gb416) (o := .cells #[.int .u64 a0_0, .int .u64 a0_1] 42 (0, 0)) (zqb BK416.out) hb); have n1_ := Aside0.mk (zRc (g := gb417) (o := .cells #[.int .u64 a1_0, .int .u64 a1_1] 42 (0, 0)) (zqb BK417.out) hb); have n2_ := Aside0.mk (zRd zv1x hb); have n3_ := Aside0.mk (hbox); have n4_ := Aside0.mk ((by rw [hg]; exact (zRg zv1x) : w.heap.size ≤ gb418)); have n5_ := Aside0.mk ((by rw [hg]; exact (zRg zv1x) : w.heap.size ≤ gb418)); have n6_ := Aside0.mk ((zv21 : gb416 ≠ gb418)); have n7_ := Aside0.mk ((zv22 : gb418 ≠ gb416)); have n8_ := Aside0.mk ((zv2l : gb417 ≠ gb418)); have n9_ := Aside0.mk ((zv2m : gb418 ≠ gb417)); clear BK416; clear BK417; clear HB; have BK416 := n0_; have BK417 := n1_; have HB := n2_; have BK418 := n3_; have GW418 := n4_; have GE418 := n5_; have NB416_418 := n6_; have NB418_416 := n7_; have NB417_418 := n8_; have NB418_417 := n9_; clear n0_ n1_ n2_ n3_ n4_ n5_ n6_ n7_ n8_ n9_; clear hb hbox hg))
 have n0_ := Aside0.mk (zRk BK416.out); have n1_ := Aside0.mk (zRk BK417.out); have n2_ := Aside0.mk (zRk BK418.out); have n3_ := Aside0.mk (zRj HB.out); clear BK416; clear BK417; clear BK418; clear HB; have BK416 := n0_; have BK417 := n1_; have BK418 := n2_; have HB := n3_; clear n0_ n1_ n2_ n3_; refine start_ (n := 6) (S := fun w' => w'.cell? ⟨gb416, 0, none⟩ = some (.int .u64 a0_0) ∧ w'.cell? ⟨gb416, 1, none⟩ = some (.int .u64 a0_1) ∧ w'.cell? ⟨gb417, 0, none⟩ = some (.int .u64 a1_0) ∧ w'.cell? ⟨gb417, 1, none⟩ = some (.int .u64 a1_1)) (ds := []) #[false, false, false, false, false, false] (by kernel_rfl) rfl rfl ⟨(zRa BK416.out 0).trans rfl, (zRa BK416.out 1).trans rfl, (zRa BK417.out 0).trans rfl, (zRa BK417.out 1).trans rfl⟩ (fun hHeld => ?_); generalize w7.drew = w8 at BK416 BK417 BK418 HB hHeld ⊢; refine take_ (i := 0) (N := some 14) (v := ?_) (a' := ?_) #[true, false, false, false, false, false] rfl rfl (by kernel_rfl) (fun _ _ _ h => h) (Or.inl ⟨zvv, ?_⟩) hHeld ?_ ?_; rotate_left
 ·rintro w' ⟨s0, s1, s2, s3⟩; go_simp; with_reducible rfl
 rotate_left
 ·simp only [Act.put, zsa, zsb, zsc, i64_w, i32_w]; rfl
 refine take_ (i := 2) (N := some 16) (v := ?_) (a' := ?_) #[true, false, true, false, false, false] rfl rfl (by kernel_rfl) (fun _ _ _ h => h) (Or.inl ⟨zvv, ?_⟩) hHeld ?_ ?_; rotate_left
 ·rintro w' ⟨s0, s1, s2, s3⟩; go_simp; with_reducible rfl
 rotate_left
 ·simp only [Act.put, zsa, zsb, zsc, i64_w, i32_w]; rfl
 refine one_ (i := 1) (N := some 15) #[true, true, true, false, false, false] rfl rfl (by kernel_rfl) zvz (fun K hK => ?_); refine goes_ Tryd.func128 (by kernel_rfl) rfl #[.agg #[.int .u64 a0_0, .int .u64 a0_1]] zvv rfl rfl zv3 ?_; with_reducible refine (paymasterref01_digits.calls k a0_0 a0_1 t419 _ A3.out).mono ?_; rintro e w9 ⟨v420, rfl, ho0, hb⟩; refine ⟨_, rfl, ?_⟩; have n0_ := Aside0.mk (Kd.R_lower ho0 (zRg zva)); have n1_ := Aside0.mk (zRc (g := gb416) (o := .cells #[.int .u64 a0_0, .int .u64 a0_1] 42 (0, 0)) (zqb BK416.out) hb); have n2_ := Aside0.mk (zRc (g := gb417) (o := .cells #[.int .u64 a1_0, .int .u64 a1_1] 42 (0, 0)) (zqb BK417.out) hb); have n3_ := Aside0.mk (zRc (g := gb418) (o := .cells #[.int .u64 0, .int .u64 0] 42 (0, 0)) (zqb BK418.out) hb); have n4_ := Aside0.mk (zRd zva hb); clear BK416; clear BK417; clear BK418; clear HB; have HO421 := n0_; have BK416 := n1_; have BK417 := n2_; have BK418 := n3_; have HB := n4_; clear n0_ n1_ n2_ n3_ n4_; (try clear hb)
 (try clear hb2)
 (try clear hk)
 (try clear hi)
 (try clear ho0)
 refine hK.out _ _ ⟨(zRa BK416.out 0).trans rfl, (zRa BK416.out 1).trans rfl, (zRa BK417.out 0).trans rfl, (zRa BK417.out 1).trans rfl⟩ (fun hHeld => ?_); clear hK K; refine norm_ (a' := ?_) ?_ ?_; rotate_left
 ·show Act.put _ (some 15) _ = _; simp only [Act.put, zsa, zsb, zsc, i64_w, i32_w]; rfl
 refine one_ (i := 3) (N := some 17) #[true, true, true, true, false, false] rfl rfl (by kernel_rfl) zvz (fun K hK => ?_); refine goes_ Tryd.func128 (by kernel_rfl) rfl #[.agg #[.int .u64 a1_0, .int .u64 a1_1]] zvv rfl rfl zv3 ?_; with_reducible refine (paymasterref01_digits.calls k a1_0 a1_1 t422 _ A4.out).mono ?_; rintro e w10 ⟨v423, rfl, ho0, hb⟩; refine ⟨_, rfl, ?_⟩; have n0_ := Aside0.mk (Kd.R_elder' (zqr HO421.out) (Kd.R_base ho0) hb); have n1_ := Aside0.mk (Kd.R_lower (Kd.R_new' ho0 (Kd.R_lt (zqr HO421.out))) (zRg zva)); have n2_ := Aside0.mk (zRc (g := gb416) (o := .cells #[.int .u64 a0_0, .int .u64 a0_1] 42 (0, 0)) (zqb BK416.out) hb); have n3_ := Aside0.mk (zRc (g := gb417) (o := .cells #[.int .u64 a1_0, .int .u64 a1_1] 42 (0, 0)) (zqb BK417.out) hb); have n4_ := Aside0.mk (zRc (g := gb418) (o := .cells #[.int .u64 0, .int .u64 0] 42 (0, 0)) (zqb BK418.out) hb); have n5_ := Aside0.mk (zRd zva hb); clear HO421; clear BK416; clear BK417; clear BK418; clear HB; have HO421 := n0_; have HO424 := n1_; have BK416 := n2_; have BK417 := n3_; have BK418 := n4_; have HB := n5_; clear n0_ n1_ n2_ n3_ n4_ n5_; (try clear hb)
 (try clear hb2)
 (try clear hk)
 (try clear hi)
 (try clear ho0)
 refine hK.out _ _ ⟨(zRa BK416.out 0).trans rfl, (zRa BK416.out 1).trans rfl, (zRa BK417.out 0).trans rfl, (zRa BK417.out 1).trans rfl⟩ (fun hHeld => ?_); clear hK K; refine norm_ (a' := ?_) ?_ ?_; rotate_left
 ·show Act.put _ (some 17) _ = _; simp only [Act.put, zsa, zsb, zsc, i64_w, i32_w]; rfl
 refine pure_ (i := 4) (N := some 6) (v := ?_) (a' := ?_) #[true, true, true, true, true, false] rfl rfl (by kernel_rfl) (fun _ _ _ h => h) (Or.inl ⟨zvv, ?_⟩) ?_ ?_; rotate_left
 ·intro w'; go_simp; with_reducible rfl
 rotate_left
 ·simp only [Act.put, zsa, zsb, zsc, i64_w, i32_w]; rfl
 refine pure_ (i := 5) (N := some 7) (v := ?_) (a' := ?_) #[true, true, true, true, true, true] rfl rfl (by kernel_rfl) (fun _ _ _ h => h) (Or.inl ⟨zvv, ?_⟩) ?_ ?_; rotate_left
 ·intro w'; go_simp; with_reducible rfl
 rotate_left
 ·simp only [Act.put, zsa, zsb, zsc, i64_w, i32_w]; rfl
 refine done_ (by kernel_rfl) ?_; try go_wp2
 go_loopg [8, 9, 10] k (fun kq v8 v9 v10 w' => ∃ (x8_1 : Int) (x9_1 : List Int) (x10_1 : Int), v8 = .int .u64 x8_1 ∧ v10 = .int .i64 x10_1 ∧ Aside0 (paymasterref01_Add.l0 kq t419 t422 x8_1 x9_1 x10_1 = some (r1, r2, r3)) ∧ Aside0 (kq ≤ k) ∧ Aside0 (Kd.R (Kd.int .u64) 40 w' w.heap.size (fun k_ => some k_ ≠ (v423 : Value).ownBlock ∧ some k_ ≠ (v9 : Value).ownBlock) v420 t419) ∧ Aside0 (Kd.R (Kd.int .u64) 40 w' w.heap.size (fun k_ => some k_ ≠ (v420 : Value).ownBlock ∧ some k_ ≠ (v9 : Value).ownBlock) v423 t422) ∧ Aside0 (Kd.R (Kd.int .u64) 40 w' w.heap.size (fun k_ => some k_ ≠ (v420 : Value).ownBlock ∧ some k_ ≠ (v423 : Value).ownBlock) v9 x9_1) ∧ Aside0 (w'.heap[gb416]? = some (.cells #[.int .u64 a0_0, .int .u64 a0_1] 42 (0, 0))) ∧ Aside0 (w'.heap[gb417]? = some (.cells #[.int .u64 a1_0, .int .u64 a1_1] 42 (0, 0))) ∧ Aside0 (w'.heap[gb418]? = some (.cells #[.int .u64 0, .int .u64 0] 42 (0, 0))) ∧ Aside0 (Below w.heap.size w w'))
 case atStart => exact ⟨(0), (([] : List Int)), (0), zv5, zv5, H', ⟨Nat.le_refl _⟩, ⟨(by (with_reducible repeat (first | apply Kd.R_alloc | apply Kd.R_drewN | apply Kd.R_drew)); exact Kd.R_mono HO421.out (fun _ hk => ⟨hk.2, (by simp [Value.ownBlock])⟩))⟩, ⟨(by (with_reducible repeat (first | apply Kd.R_alloc | apply Kd.R_drewN | apply Kd.R_drew)); exact Kd.R_mono HO424.out (fun _ hk => ⟨hk.2, (by simp [Value.ownBlock])⟩))⟩, ⟨zvo⟩, ⟨zv3h⟩, ⟨zv3i⟩, ⟨zv3j⟩, ⟨zva⟩⟩
 case round =>
  clear H'; try clear c1
  try clear p2
  obtain ⟨x8_1, x9_1, x10_1, rfl, rfl, HA, HK1, HO_6, HO_7, HO_9, BK416, BK417, BK418, HB⟩ := hrel; cases gk with
  | zero => exact absurd HA.out (by simp [paymasterref01_Add.l0])
  | succ k1 =>
   have H := HA.out; clear HA; simp only [paymasterref01_Add.l0] at H
   by_cases c11 : x10_1 < 8
   ·rw [if_pos c11] at H; have c11b0 : decide (x10_1 < 8) = true := decide_eq_true c11; clear c11
    by_cases c12 : 0 ≤ x10_1
    ·rw [if_pos c12] at H; have c12b0 : decide (0 ≤ x10_1) = true := decide_eq_true c12; clear c12
     by_cases c13 : x10_1 < (t419.length : Int)
     ·rw [if_pos c13] at H; have c13b0 : decide (x10_1 < (t419.length : Int)) = true := decide_eq_true c13; clear c13
      by_cases c14 : x10_1 < (t422.length : Int)
      ·rw [if_pos c14] at H; have c14b0 : decide (x10_1 < (t422.length : Int)) = true := decide_eq_true c14; clear c14
       by_cases c15 : x9_1.length < 17592186044416
       ·rw [if_pos c15] at H; have LMc15 := Aside0.mk c15; clear c15; obtain ⟨y427, hy427⟩ : ∃ y_ : List Int, y_ = (x9_1 ++ [Int.tmod (IntKind.u64.wrap ((IntKind.u64.wrap ((rd t419 x10_1) + (rd t422 x10_1))) + x8_1)) 65536]) := ⟨_, rfl⟩
        replace H : (paymasterref01_Add.l0 k1 t419 t422 (IntKind.u64.wrap (Int.tdiv (IntKind.u64.wrap ((IntKind.u64.wrap ((rd t419 x10_1) + (rd t422 x10_1))) + x8_1)) 65536)) y427 (wrap64 (x10_1 + 1))) = some (r1, r2, r3) := by first | (rw [hy427]; with_reducible exact H) | (have H2_ := (Option.bind_some _ _).symm.trans H; rw [hy427]; with_reducible exact H2_) | (have H2_ := (Option.bind_some _ _).symm.trans H; with_reducible exact H2_) | with_reducible exact H | (rw [hy427]; exact H) | exact H
        have Ny427 := Aside0.mk hy427; clear hy427; have H' := Aside0.mk H; clear H; try go_wp2
        have n0_ := Aside0.mk (Kd.R_drew HO_6.out); have n1_ := Aside0.mk (Kd.R_drew HO_7.out); have n2_ := Aside0.mk (Kd.R_drew HO_9.out); have n3_ := Aside0.mk (zRk BK416.out); have n4_ := Aside0.mk (zRk BK417.out); have n5_ := Aside0.mk (zRk BK418.out); have n6_ := Aside0.mk (zRj HB.out); clear HO_6; clear HO_7; clear HO_9; clear BK416; clear BK417; clear BK418; clear HB; have HO_6 := n0_; have HO_7 := n1_; have HO_9 := n2_; have BK416 := n3_; have BK417 := n4_; have BK418 := n5_; have HB := n6_; clear n0_ n1_ n2_ n3_ n4_ n5_ n6_; obtain ⟨Ao17, co17, eo17⟩ := Kd.R_slice HO_6.out; (first | subst eo17 | (injection eo17 with f1_ f2_ f3_; have f4_ := f1_.symm; have f5_ := f3_.symm; clear f1_ f2_ f3_; subst f4_; subst f5_))
        have p425 : 0 ≤ (x10_1 : Int) := of_decide_eq_true zv6; have q425 : x10_1 < (t419.length : Int) := of_decide_eq_true zv6; obtain ⟨ad425, e425, hx425_0⟩ := Kd.at_int (Kd.R_reads' HO_6.out).2.2 x10_1 p425 q425; cases e425; replace p425 := eq_true p425; replace q425 := eq_true q425; obtain ⟨Ao18, co18, eo18⟩ := Kd.R_slice HO_7.out; (first | subst eo18 | (injection eo18 with f1_ f2_ f3_; have f4_ := f1_.symm; have f5_ := f3_.symm; clear f1_ f2_ f3_; subst f4_; subst f5_))
        have p426 : 0 ≤ (x10_1 : Int) := of_decide_eq_true zv6; have q426 : x10_1 < (t422.length : Int) := of_decide_eq_true zv6; obtain ⟨ad426, e426, hx426_0⟩ := Kd.at_int (Kd.R_reads' HO_7.out).2.2 x10_1 p426 q426; cases e426; replace p426 := eq_true p426; replace q426 := eq_true q426; refine start_ (n := 12) (S := fun w' => w'.cell? (ad425.add (x10_1).toNat) = some (.int .u64 (rd t419 x10_1)) ∧ w'.cell? (ad426.add (x10_1).toNat) = some (.int .u64 (rd t422 x10_1))) (ds := []) #[false, false, false, false, false, false, false, false, false, false, false, false] (by kernel_rfl) rfl rfl ⟨hx425_0, hx426_0⟩ (fun hHeld => ?_); refine with_tabW paymasterref01_Add.tab7 paymasterref01_Add.bits7 (fun HT_ HW_ => ?_); generalize wr.drew = w16 at HO_6 HO_7 HO_9 BK416 BK417 BK418 HB hx425_0 hx426_0 hHeld ⊢; refine pure_ (i := 0) (N := some 22) (v := ?_) (a' := ?_) #[true, false, false, false, false, false, false, false, false, false, false, false] rfl rfl (any_of HT_.out (by kernel_rfl)) (fun _ _ _ h => h) (Or.inl ⟨zvv, ?_⟩) ?_ ?_; rotate_left
        ·intro w'; go_simp; with_reducible rfl
        rotate_left
        ·simp only [Act.put, zsa, zsb, zsc, i64_w, i32_w]; rfl
        refine pure_ (i := 1) (N := some 23) (v := ?_) (a' := ?_) #[true, true, false, false, false, false, false, false, false, false, false, false] rfl rfl (any_of HT_.out (by kernel_rfl)) (fun _ _ _ h => h) (Or.inl ⟨zvv, ?_⟩) ?_ ?_; rotate_left
        ·intro w'; go_simp; with_reducible rfl
        rotate_left
        ·simp only [Act.put, zsa, zsb, zsc, i64_w, i32_w]; rfl
        refine pure_ (i := 2) (N := some 24) (v := ?_) (a' := ?_) #[true, true, true, false, false, false, false, false, false, false, false, false] rfl rfl (any_of HT_.out (by kernel_rfl)) (fun _ _ _ h => h) (Or.inl ⟨zvv, ?_⟩) ?_ ?_; rotate_left
        ·intro w'; go_simp; with_reducible rfl
        rotate_left
        ·simp only [Act.put, zsa, zsb, zsc, i64_w, i32_w]; rfl
        refine pure_ (i := 4) (N := some 26) (v := ?_) (a' := ?_) #[true, true, true, false, true, false, false, false, false, false, false, false] rfl rfl (any_of HT_.out (by kernel_rfl)) (fun _ _ _ h => h) (Or.inl ⟨zvv, ?_⟩) ?_ ?_; rotate_left
        ·intro w'; go_simp; with_reducible rfl
        rotate_left
        ·simp only [Act.put, zsa, zsb, zsc, i64_w, i32_w]; rfl
        refine pure_ (i := 5) (N := some 27) (v := ?_) (a' := ?_) #[true, true, true, false, true, true, false, false, false, false, false, false] rfl rfl (any_of HT_.out (by kernel_rfl)) (fun _ _ _ h => h) (Or.inl ⟨zvv, ?_⟩) ?_ ?_; rotate_left
        ·intro w'; go_simp; with_reducible rfl
        rotate_left
        ·simp only [Act.put, zsa, zsb, zsc, i64_w, i32_w]; rfl
        refine pure_ (i := 6) (N := some 28) (v := ?_) (a' := ?_) #[true, true, true, false, true, true, true, false, false, false, false, false] rfl rfl (any_of HT_.out (by kernel_rfl)) (fun _ _ _ h => h) (Or.inl ⟨zvv, ?_⟩) ?_ ?_; rotate_left
        ·intro w'; go_simp; with_reducible rfl
        rotate_left
        ·simp only [Act.put, zsa, zsb, zsc, i64_w, i32_w]; rfl
        refine pure_ (i := 9) (N := some 31) (v := ?_) (a' := ?_) #[true, true, true, false, true, true, true, false, false, true, false, false] rfl rfl (any_of HT_.out (by kernel_rfl)) (fun _ _ _ h => h) (Or.inl ⟨zvv, ?_⟩) ?_ ?_; rotate_left
        ·intro w'; go_simp; with_reducible rfl
        rotate_left
        ·simp only [Act.put, zsa, zsb, zsc, i64_w, i32_w]; rfl
        refine take_ (i := 3) (N := some 25) (v := ?_) (a' := ?_) #[true, true, true, true, true, true, true, false, false, true, false, false] rfl rfl (zRA HT_.out HW_.out (by kernel_rfl)) (fun _ _ _ h => h) (Or.inl ⟨zvv, ?_⟩) hHeld ?_ ?_; rotate_left
        ·rintro w' ⟨s0, s1⟩; go_simp; with_reducible rfl
        rotate_left
        ·simp only [Act.put, zsa, zsb, zsc, i64_w, i32_w]; rfl
        refine take_ (i := 7) (N := some 29) (v := ?_) (a' := ?_) #[true, true, true, true, true, true, true, true, false, true, false, false] rfl rfl (zRA HT_.out HW_.out (by kernel_rfl)) (fun _ _ _ h => h) (Or.inl ⟨zvv, ?_⟩) hHeld ?_ ?_; rotate_left
        ·rintro w' ⟨s0, s1⟩; go_simp; with_reducible rfl
        rotate_left
        ·simp only [Act.put, zsa, zsb, zsc, i64_w, i32_w]; rfl
        refine pure_ (i := 8) (N := some 30) (v := ?_) (a' := ?_) #[true, true, true, true, true, true, true, true, true, true, false, false] rfl rfl (any_of HT_.out (by kernel_rfl)) (fun _ _ _ h => h) (Or.inl ⟨zvv, ?_⟩) ?_ ?_; rotate_left
        ·intro w'; go_simp; with_reducible rfl
        rotate_left
        ·simp only [Act.put, zsa, zsb, zsc, i64_w, i32_w]; rfl
        refine pure_ (i := 10) (N := some 32) (v := ?_) (a' := ?_) #[true, true, true, true, true, true, true, true, true, true, true, false] rfl rfl (any_of HT_.out (by kernel_rfl)) (fun _ _ _ h => h) (Or.inl ⟨zvv, ?_⟩) ?_ ?_; rotate_left
        ·intro w'; go_simp; with_reducible rfl
        rotate_left
        ·simp only [Act.put, zsa, zsb, zsc, i64_w, i32_w]; rfl
        refine pure_ (i := 11) (N := some 11) (v := ?_) (a' := ?_) #[true, true, true, true, true, true, true, true, true, true, true, true] rfl rfl (any_of HT_.out (by kernel_rfl)) (fun _ _ _ h => h) (Or.inl ⟨zvv, ?_⟩) ?_ ?_; rotate_left
        ·intro w'; go_simp; with_reducible rfl
        rotate_left
        ·simp only [Act.put, zsa, zsb, zsc, i64_w, i32_w]; rfl
        refine done_ (done_of HT_.out (by kernel_rfl)) ?_; try go_wp2_with (first | ((with_reducible refine gate_builtin (b := .append) (xs := #[.tmp 33, .tmp 36]) rfl ?_); at_builtin; refine Kd.R_append (Kd.int .u64) (w0 := w) w.heap.size rfl (.tmp 33) (.tmp 36) 172 40 (.int .u64 0) 8 rfl Tryd.underlying172 info40 rfl zvz zv1 u9 x9_1 (Int.tmod (IntKind.u64.wrap ((IntKind.u64.wrap ((rd t419 x10_1) + (rd t422 x10_1))) + x8_1)) 65536) [.int .u64 (Int.tmod (IntKind.u64.wrap ((IntKind.u64.wrap ((rd t419 x10_1) + (rd t422 x10_1))) + x8_1)) 65536)] (fun k_ => some k_ ≠ (.slice (some ad425) t419.length co17 : Value).ownBlock ∧ some k_ ≠ (.slice (some ad426) t422.length co18 : Value).ownBlock) (fun _ => False) rfl rfl ?aP (fun _ hk => hk.elim) ?aF ?aO ?aB ?aS ?aL ?_; (case aP => exact rfl); (case aB => exact zva); (case aF => exact (fun k_ hk => ⟨Kd.fresh' (Kd.R_lt (zqr HO_6.out)) k_ hk, Kd.fresh' (Kd.R_lt (zqr HO_7.out)) k_ hk⟩)); (case aO => exact (zqr HO_9.out)); (case aS => exact (zRg zva)); (case aL => have := LMc15.out; omega); intro v428 w19 ho hb hg hat; rw [← Ny427.out] at ho; have n0_ := Aside0.mk (Kd.R_after (ok := (fun k_ => some k_ ≠ (.slice (some ad426) t422.length co18 : Value).ownBlock)) (zqr HO_6.out) hg hat); have n1_ := Aside0.mk (Kd.R_after (ok := (fun k_ => some k_ ≠ (.slice (some ad425) t419.length co17 : Value).ownBlock)) (zqr HO_7.out) hg hat); have n2_ := Aside0.mk (zRt (g := gb416) (o := .cells #[.int .u64 a0_0, .int .u64 a0_1] 42 (0, 0)) (zqb BK416.out) hg (Kd.R_ne HO_9.out BK416.out zvz)); have n3_ := Aside0.mk (zRt (g := gb417) (o := .cells #[.int .u64 a1_0, .int .u64 a1_1] 42 (0, 0)) (zqb BK417.out) hg (Kd.R_ne HO_9.out BK417.out zvz)); have n4_ := Aside0.mk (zRt (g := gb418) (o := .cells #[.int .u64 0, .int .u64 0] 42 (0, 0)) (zqb BK418.out) hg (Kd.R_ne HO_9.out BK418.out zvz)); have n5_ := Aside0.mk (hb); have n6_ := Aside0.mk (ho); clear HO_6; clear HO_7; clear BK416; clear BK417; clear BK418; clear HB; clear HO_9; have HO_6 := n0_; have HO_7 := n1_; have BK416 := n2_; have BK417 := n3_; have BK418 := n4_; have HB := n5_; have HO429 := n6_; clear n0_ n1_ n2_ n3_ n4_ n5_ n6_; clear ho hb hg hat))
        go_roundg k1
        case measure => have := HK1.out; omega
        case rel => exact ⟨(IntKind.u64.wrap (Int.tdiv (IntKind.u64.wrap ((IntKind.u64.wrap ((rd t419 x10_1) + (rd t422 x10_1))) + x8_1)) 65536)), (y427), (wrap64 (x10_1 + 1)), zv5, zv5, H', ⟨zv2g⟩, ⟨zv1i⟩, ⟨zv1d⟩, ⟨(by (with_reducible repeat (first | apply Kd.R_alloc | apply Kd.R_drewN | apply Kd.R_drew)); exact HO429.out)⟩, ⟨zv3h⟩, ⟨zv3i⟩, ⟨zv3j⟩, ⟨zva⟩⟩
       ·rw [if_neg c15] at H; exact absurd H zv10
      ·rw [if_neg c14] at H; exact absurd H zv10
     ·rw [if_neg c13] at H; exact absurd H zv10
    ·rw [if_neg c12] at H; exact absurd H zv10
   ·rw [if_neg c11] at H; have c11b0 : decide (x10_1 < 8) = false := decide_eq_false c11; clear c11
    by_cases c20 : x9_1.length < 17592186044416
    ·rw [if_pos c20] at H; have LMc20 := Aside0.mk c20; clear c20; obtain ⟨y430, hy430⟩ : ∃ y_ : List Int, y_ = (x9_1 ++ [x8_1]) := ⟨_, rfl⟩
     replace H : ((paymasterref01_number.f k1 y430).bind fun bt433 => (if bt433.2.2 = true then (some (bt433.1, bt433.2.1, 0)) else (some (0, 0, 10)))) = some (r1, r2, r3) := by first | (rw [hy430]; with_reducible exact H) | (have H2_ := (Option.bind_some _ _).symm.trans H; rw [hy430]; with_reducible exact H2_) | (have H2_ := (Option.bind_some _ _).symm.trans H; with_reducible exact H2_) | with_reducible exact H | (rw [hy430]; exact H) | exact H
     have Ny430 := Aside0.mk hy430; clear hy430; replace H := Option.bind_eq_some_iff.mp H; obtain ⟨⟨t433, t434, t435⟩, A210, H⟩ := H; replace H : (if t435 = true then (some (t433, t434, 0)) else (some (0, 0, 10))) = some (r1, r2, r3) := H; have A21 := Aside0.mk A210; clear A210
     by_cases c22 : t435 = true
     ·subst c22; have H1 : (some (t433, t434, 0)) = some (r1, r2, r3) := by rw [if_pos rfl] at H; exact H
      clear H; have H := H1; clear H1; simp only [Option.some.injEq, Prod.mk.injEq] at H; obtain ⟨rfl, rfl, rfl⟩ := H
      go_wp2_with (first | ((with_reducible refine gate_builtin (b := .append) (xs := #[.tmp 41, .tmp 43]) rfl ?_); at_builtin; refine Kd.R_append (Kd.int .u64) (w0 := w) w.heap.size rfl (.tmp 41) (.tmp 43) 172 40 (.int .u64 0) 8 rfl Tryd.underlying172 info40 rfl zvz zv1 u9 x9_1 x8_1 [.int .u64 x8_1] (fun k_ => some k_ ≠ (v420 : Value).ownBlock ∧ some k_ ≠ (v423 : Value).ownBlock) (fun _ => False) rfl rfl ?aP (fun _ hk => hk.elim) ?aF ?aO ?aB ?aS ?aL ?_; (case aP => exact rfl); (case aB => exact zva); (case aF => exact (fun k_ hk => ⟨Kd.fresh' (Kd.R_lt (zqr HO_6.out)) k_ hk, Kd.fresh' (Kd.R_lt (zqr HO_7.out)) k_ hk⟩)); (case aO => exact (zqr HO_9.out)); (case aS => exact (zRg zva)); (case aL => have := LMc20.out; omega); intro v431 w23 ho hb hg hat; rw [← Ny430.out] at ho; have n0_ := Aside0.mk (Kd.R_after (ok := (fun k_ => some k_ ≠ (v423 : Value).ownBlock)) (zqr HO_6.out) hg hat); have n1_ := Aside0.mk (Kd.R_after (ok := (fun k_ => some k_ ≠ (v420 : Value).ownBlock)) (zqr HO_7.out) hg hat); have n2_ := Aside0.mk (zRt (g := gb416) (o := .cells #[.int .u64 a0_0, .int .u64 a0_1] 42 (0, 0)) (zqb BK416.out) hg (Kd.R_ne HO_9.out BK416.out zvz)); have n3_ := Aside0.mk (zRt (g := gb417) (o := .cells #[.int .u64 a1_0, .int .u64 a1_1] 42 (0, 0)) (zqb BK417.out) hg (Kd.R_ne HO_9.out BK417.out zvz)); have n4_ := Aside0.mk (zRt (g := gb418) (o := .cells #[.int .u64 0, .int .u64 0] 42 (0, 0)) (zqb BK418.out) hg (Kd.R_ne HO_9.out BK418.out zvz)); have n5_ := Aside0.mk (hb); have n6_ := Aside0.mk (ho); clear HO_6; clear HO_7; clear BK416; clear BK417; clear BK418; clear HB; clear HO_9; have HO_6 := n0_; have HO_7 := n1_; have BK416 := n2_; have BK417 := n3_; have BK418 := n4_; have HB := n5_; have HO432 := n6_; clear n0_ n1_ n2_ n3_ n4_ n5_ n6_; clear ho hb hg hat; obtain ⟨Ao24, co24, eo24⟩ := Kd.R_slice HO432.out; subst eo24) | ((with_reducible refine zRl (f := 129) rfl ?_); refine goesL_ (some 45) rfl rfl Tryd.func129 (by kernel_rfl) rfl #[.slice Ao24 y430.length co24] rfl zv3 ?_; (with_reducible refine (paymasterref01_number.calls k1 _ _ y430 t433 t434 true _ ?side1 ?side2 A21.out).mono ?_); (case side1 => repeat (first | exact (Kd.R_reads' HO432.out).2.2 | (with_reducible refine Kd.C_alloc ?_ _) | (with_reducible refine Kd.C_drewN ?_ _) | (with_reducible refine Kd.C_drew ?_))); (case side2 => exact (Kd.R_reads' HO432.out).2.1); rintro e w25 ⟨rfl, hb⟩; refine ⟨_, rfl, ?_⟩; have n0_ := Aside0.mk (Kd.R_below (zqr HO_6.out) hb); have n1_ := Aside0.mk (Kd.R_below (zqr HO_7.out) hb); have n2_ := Aside0.mk (Kd.R_below (zqr HO432.out) hb); have n3_ := Aside0.mk (zRc (g := gb416) (o := .cells #[.int .u64 a0_0, .int .u64 a0_1] 42 (0, 0)) (zqb BK416.out) hb); have n4_ := Aside0.mk (zRc (g := gb417) (o := .cells #[.int .u64 a1_0, .int .u64 a1_1] 42 (0, 0)) (zqb BK417.out) hb); have n5_ := Aside0.mk (zRc (g := gb418) (o := .cells #[.int .u64 0, .int .u64 0] 42 (0, 0)) (zqb BK418.out) hb); have n6_ := Aside0.mk (zRd zva hb); clear HO_6; clear HO_7; clear HO432; clear BK416; clear BK417; clear BK418; clear HB; have HO_6 := n0_; have HO_7 := n1_; have HO432 := n2_; have BK416 := n3_; have BK417 := n4_; have BK418 := n5_; have HB := n6_; clear n0_ n1_ n2_ n3_ n4_ n5_ n6_; (try clear hb); (try clear hb2); (try clear hk); (try clear hi)) | ((with_reducible refine zRq (N := 12) rfl ?_); refine zRn ?hg (N := 12) ?hd (cs := #[.int .u64 0, .int .u64 0]) (t := 42) ?hr ?_; (case hd => rfl); (case hg => rfl); (case hr => first | (go_simp; done) | (go_simp; rfl)); intro gb436 hg w26 hbox hb; have n0_ := Aside0.mk (Kd.R_below (zqr HO_6.out) hb); have n1_ := Aside0.mk (Kd.R_below (zqr HO_7.out) hb); have n2_ := Aside0.mk (Kd.R_below (zqr HO432.out) hb); have n3_ := Aside0.mk (zRc (g := gb416) (o := .cells #[.int .u64 a0_0, .int .u64 a0_1] 42 (0, 0)) (zqb BK416.out) hb); have n4_ := Aside0.mk (zRc (g := gb417) (o := .cells #[.int .u64 a1_0, .int .u64 a1_1] 42 (0, 0)) (zqb BK417.out) hb); have n5_ := Aside0.mk (zRc (g := gb418) (o := .cells #[.int .u64 0, .int .u64 0] 42 (0, 0)) (zqb BK418.out) hb); have n6_ := Aside0.mk (zRd zva hb); have n7_ := Aside0.mk (hbox); have n8_ := Aside0.mk ((zv49 : w.heap.size ≤ gb436)); have n9_ := Aside0.mk ((zv49 : w.heap.size ≤ gb436)); have n10_ := Aside0.mk ((zv21 : gb416 ≠ gb436)); have n11_ := Aside0.mk ((zv22 : gb436 ≠ gb416)); have n12_ := Aside0.mk ((zv2l : gb417 ≠ gb436)); have n13_ := Aside0.mk ((zv2m : gb436 ≠ gb417)); have n14_ := Aside0.mk ((zv3k : gb418 ≠ gb436)); have n15_ := Aside0.mk ((zv3l : gb436 ≠ gb418)); clear HO_6; clear HO_7; clear HO432; clear BK416; clear BK417; clear BK418; clear HB; have HO_6 := n0_; have HO_7 := n1_; have HO432 := n2_; have BK416 := n3_; have BK417 := n4_; have BK418 := n5_; have HB := n6_; have BK436 := n7_; have GW436 := n8_; have GE436 := n9_; have NB416_436 := n10_; have NB436_416 := n11_; have NB417_436 := n12_; have NB436_417 := n13_; have NB418_436 := n14_; have NB436_418 := n15_; clear n0_ n1_ n2_ n3_ n4_ n5_ n6_ n7_ n8_ n9_ n10_ n11_ n12_ n13_ n14_ n15_; clear hb hbox hg; have hnb27 := NB436_416.out; have hnc27 := NB416_436.out; have hnb28 := NB436_417.out; have hnc28 := NB417_436.out; have hnb29 := NB436_418.out; have hnc29 := NB418_436.out; have hcz30_0 : w26.cell? ⟨gb436, 0, none⟩ = some (.int .u64 0) := (zRa BK436.out 0).trans rfl; have hcz30_1 : w26.cell? ⟨gb436, 1, none⟩ = some (.int .u64 0) := (zRa BK436.out 1).trans rfl; have hfz30_0 := zRb BK436.out 0; have hfz30_1 := zRb BK436.out 1; have hnb31 := NB418_416.out; have hnc31 := NB416_418.out; have hnb32 := NB418_417.out; have hnc32 := NB417_418.out; have hcz33_0 : w26.cell? ⟨gb418, 0, none⟩ = some (.int .u64 0) := (zRa BK418.out 0).trans rfl; have hcz33_1 : w26.cell? ⟨gb418, 1, none⟩ = some (.int .u64 0) := (zRa BK418.out 1).trans rfl; have hfz33_0 := zRb BK418.out 0; have hfz33_1 := zRb BK418.out 1))
      refine bodyPost_ret (zRu rfl _ _ gb418 42 #[.int .u64 t433, .int .u64 t434] (0, 0) _ rfl (by refine zqb ?_; refine zRm (cs := #[.int .u64 t433, .int .u64 0]) ?_ 1 _ rfl; refine zqb ?_; refine zRm (cs := #[.int .u64 0, .int .u64 0]) ?_ 0 _ rfl; refine zqb ?_; refine zRr ?_ NB418_436.out _; refine zqb ?_; refine zRr ?_ NB418_436.out _; refine zqb ?_; exact BK418.out) Tryd.underlying42 rfl (by kernel_rfl)) rfl ?_; exact ⟨zv8, zv2i⟩
     ·replace c22 := Bool.eq_false_iff.mpr c22; subst c22; have H1 : (some (0, 0, 10)) = some (r1, r2, r3) := by rw [if_neg (show ¬ (false = true) by decide)] at H; exact H
      clear H; have H := H1; clear H1; simp only [Option.some.injEq, Prod.mk.injEq] at H; obtain ⟨rfl, rfl, rfl⟩ := H
      go_wp2_with (first | ((with_reducible refine gate_builtin (b := .append) (xs := #[.tmp 41, .tmp 43]) rfl ?_); at_builtin; refine Kd.R_append (Kd.int .u64) (w0 := w) w.heap.size rfl (.tmp 41) (.tmp 43) 172 40 (.int .u64 0) 8 rfl Tryd.underlying172 info40 rfl zvz zv1 u9 x9_1 x8_1 [.int .u64 x8_1] (fun k_ => some k_ ≠ (v420 : Value).ownBlock ∧ some k_ ≠ (v423 : Value).ownBlock) (fun _ => False) rfl rfl ?aP (fun _ hk => hk.elim) ?aF ?aO ?aB ?aS ?aL ?_; (case aP => exact rfl); (case aB => exact zva); (case aF => exact (fun k_ hk => ⟨Kd.fresh' (Kd.R_lt (zqr HO_6.out)) k_ hk, Kd.fresh' (Kd.R_lt (zqr HO_7.out)) k_ hk⟩)); (case aO => exact (zqr HO_9.out)); (case aS => exact (zRg zva)); (case aL => have := LMc20.out; omega); intro v431 w34 ho hb hg hat; rw [← Ny430.out] at ho; have n0_ := Aside0.mk (Kd.R_after (ok := (fun k_ => some k_ ≠ (v423 : Value).ownBlock)) (zqr HO_6.out) hg hat); have n1_ := Aside0.mk (Kd.R_after (ok := (fun k_ => some k_ ≠ (v420 : Value).ownBlock)) (zqr HO_7.out) hg hat); have n2_ := Aside0.mk (zRt (g := gb416) (o := .cells #[.int .u64 a0_0, .int .u64 a0_1] 42 (0, 0)) (zqb BK416.out) hg (Kd.R_ne HO_9.out BK416.out zvz)); have n3_ := Aside0.mk (zRt (g := gb417) (o := .cells #[.int .u64 a1_0, .int .u64 a1_1] 42 (0, 0)) (zqb BK417.out) hg (Kd.R_ne HO_9.out BK417.out zvz)); have n4_ := Aside0.mk (zRt (g := gb418) (o := .cells #[.int .u64 0, .int .u64 0] 42 (0, 0)) (zqb BK418.out) hg (Kd.R_ne HO_9.out BK418.out zvz)); have n5_ := Aside0.mk (hb); have n6_ := Aside0.mk (ho); clear HO_6; clear HO_7; clear BK416; clear BK417; clear BK418; clear HB; clear HO_9; have HO_6 := n0_; have HO_7 := n1_; have BK416 := n2_; have BK417 := n3_; have BK418 := n4_; have HB := n5_; have HO432 := n6_; clear n0_ n1_ n2_ n3_ n4_ n5_ n6_; clear ho hb hg hat; obtain ⟨Ao35, co35, eo35⟩ := Kd.R_slice HO432.out; subst eo35) | ((with_reducible refine zRl (f := 129) rfl ?_); refine goesL_ (some 45) rfl rfl Tryd.func129 (by kernel_rfl) rfl #[.slice Ao35 y430.length co35] rfl zv3 ?_; (with_reducible refine (paymasterref01_number.calls k1 _ _ y430 t433 t434 false _ ?side1 ?side2 A21.out).mono ?_); (case side1 => repeat (first | exact (Kd.R_reads' HO432.out).2.2 | (with_reducible refine Kd.C_alloc ?_ _) | (with_reducible refine Kd.C_drewN ?_ _) | (with_reducible refine Kd.C_drew ?_))); (case side2 => exact (Kd.R_reads' HO432.out).2.1); rintro e w36 ⟨rfl, hb⟩; refine ⟨_, rfl, ?_⟩; have n0_ := Aside0.mk (Kd.R_below (zqr HO_6.out) hb); have n1_ := Aside0.mk (Kd.R_below (zqr HO_7.out) hb); have n2_ := Aside0.mk (Kd.R_below (zqr HO432.out) hb); have n3_ := Aside0.mk (zRc (g := gb416) (o := .cells #[.int .u64 a0_0, .int .u64 a0_1] 42 (0, 0)) (zqb BK416.out) hb); have n4_ := Aside0.mk (zRc (g := gb417) (o := .cells #[.int .u64 a1_0, .int .u64 a1_1] 42 (0, 0)) (zqb BK417.out) hb); have n5_ := Aside0.mk (zRc (g := gb418) (o := .cells #[.int .u64 0, .int .u64 0] 42 (0, 0)) (zqb BK418.out) hb); have n6_ := Aside0.mk (zRd zva hb); clear HO_6; clear HO_7; clear HO432; clear BK416; clear BK417; clear BK418; clear HB; have HO_6 := n0_; have HO_7 := n1_; have HO432 := n2_; have BK416 := n3_; have BK417 := n4_; have BK418 := n5_; have HB := n6_; clear n0_ n1_ n2_ n3_ n4_ n5_ n6_; (try clear hb); (try clear hb2); (try clear hk); (try clear hi)) | ((with_reducible refine zRq (N := 12) rfl ?_); refine zRn ?hg (N := 12) ?hd (cs := #[.int .u64 0, .int .u64 0]) (t := 42) ?hr ?_; (case hd => rfl); (case hg => rfl); (case hr => first | (go_simp; done) | (go_simp; rfl)); intro gb436 hg w37 hbox hb; have n0_ := Aside0.mk (Kd.R_below (zqr HO_6.out) hb); have n1_ := Aside0.mk (Kd.R_below (zqr HO_7.out) hb); have n2_ := Aside0.mk (Kd.R_below (zqr HO432.out) hb); have n3_ := Aside0.mk (zRc (g := gb416) (o := .cells #[.int .u64 a0_0, .int .u64 a0_1] 42 (0, 0)) (zqb BK416.out) hb); have n4_ := Aside0.mk (zRc (g := gb417) (o := .cells #[.int .u64 a1_0, .int .u64 a1_1] 42 (0, 0)) (zqb BK417.out) hb); have n5_ := Aside0.mk (zRc (g := gb418) (o := .cells #[.int .u64 0, .int .u64 0] 42 (0, 0)) (zqb BK418.out) hb); have n6_ := Aside0.mk (zRd zva hb); have n7_ := Aside0.mk (hbox); have n8_ := Aside0.mk ((zv49 : w.heap.size ≤ gb436)); have n9_ := Aside0.mk ((zv49 : w.heap.size ≤ gb436)); have n10_ := Aside0.mk ((zv21 : gb416 ≠ gb436)); have n11_ := Aside0.mk ((zv22 : gb436 ≠ gb416)); have n12_ := Aside0.mk ((zv2l : gb417 ≠ gb436)); have n13_ := Aside0.mk ((zv2m : gb436 ≠ gb417)); have n14_ := Aside0.mk ((zv3k : gb418 ≠ gb436)); have n15_ := Aside0.mk ((zv3l : gb436 ≠ gb418)); clear HO_6; clear HO_7; clear HO432; clear BK416; clear BK417; clear BK418; clear HB; have HO_6 := n0_; have HO_7 := n1_; have HO432 := n2_; have BK416 := n3_; have BK417 := n4_; have BK418 := n5_; have HB := n6_; have BK436 := n7_; have GW436 := n8_; have GE436 := n9_; have NB416_436 := n10_; have NB436_416 := n11_; have NB417_436 := n12_; have NB436_417 := n13_; have NB418_436 := n14_; have NB436_418 := n15_; clear n0_ n1_ n2_ n3_ n4_ n5_ n6_ n7_ n8_ n9_ n10_ n11_ n12_ n13_ n14_ n15_; clear hb hbox hg; have hnb38 := NB436_416.out; have hnc38 := NB416_436.out; have hnb39 := NB436_417.out; have hnc39 := NB417_436.out; have hnb40 := NB436_418.out; have hnc40 := NB418_436.out; have hcz41_0 : w37.cell? ⟨gb436, 0, none⟩ = some (.int .u64 0) := (zRa BK436.out 0).trans rfl; have hcz41_1 : w37.cell? ⟨gb436, 1, none⟩ = some (.int .u64 0) := (zRa BK436.out 1).trans rfl; have hfz41_0 := zRb BK436.out 0; have hfz41_1 := zRb BK436.out 1; have hnb42 := NB418_416.out; have hnc42 := NB416_418.out; have hnb43 := NB418_417.out; have hnc43 := NB417_418.out; have hcz44_0 : w37.cell? ⟨gb418, 0, none⟩ = some (.int .u64 0) := (zRa BK418.out 0).trans rfl; have hcz44_1 : w37.cell? ⟨gb418, 1, none⟩ = some (.int .u64 0) := (zRa BK418.out 1).trans rfl; have hfz44_0 := zRb BK418.out 0; have hfz44_1 := zRb BK418.out 1))
      refine bodyPost_ret (zRu rfl _ _ gb418 42 #[.int .u64 0, .int .u64 0] (0, 0) _ rfl (by refine zqb ?_; refine zRm (cs := #[.int .u64 0, .int .u64 0]) ?_ 1 _ rfl; refine zqb ?_; refine zRm (cs := #[.int .u64 0, .int .u64 0]) ?_ 0 _ rfl; refine zqb ?_; refine zRr ?_ NB418_436.out _; refine zqb ?_; refine zRr ?_ NB418_436.out _; refine zqb ?_; exact BK418.out) Tryd.underlying42 rfl (by kernel_rfl)) rfl ?_; exact ⟨zv8, zv2i⟩
    ·rw [if_neg c20] at H; exact absurd H zv10
theorem u64_u8_ (x : Int) : IntKind.u64.wrap (IntKind.u8.wrap x) = IntKind.u8.wrap x := by
 have h : IntKind.u8.wrap x = x % 256 := rfl; rw [h, IntKind.wrap_u64]; omega
attribute [local go_sem] u64_u8_
mutual
def paymasterref02_Parse.l0 : Nat → ByteArray → Int → Int → Int → Option (Int × Int × Int)
 | 0, _, _, _, _ => none
 | k + 1, x0, x5, x439000, x439001 => if x5 < (x0.size : Int) then (if 0 ≤ x5 then (if (bt x0 x5) < 48 then (some (x439000, x439001, 20)) else (if (bt x0 x5) > 57 then (some (x439000, x439001, 20)) else (paymasterref02_Parse.l0 k x0 (wrap64 (x5 + 1)) x439000 x439001))) else (none)) else (if (x0.size : Int) = 0 then (paymasterref02_Parse.j1 k x0 true x439000 x439001) else (if (x0.size : Int) > 1 then (if 0 < (x0.size : Int) then (paymasterref02_Parse.j1 k x0 ((bt x0 0) == 48) x439000 x439001) else (none)) else (paymasterref02_Parse.j1 k x0 false x439000 x439001)))
def paymasterref02_Parse.j1 : Nat → ByteArray → Bool → Int → Int → Option (Int × Int × Int)
 | 0, _, _, _, _ => none
 | k + 1, x0, x42, x439000, x439001 => if x42 = true then (some (x439000, x439001, 20)) else (paymasterref02_Parse.l1 k x0 0 x439000 x439001 x439000 x439001)
def paymasterref02_Parse.l1 : Nat → ByteArray → Int → Int → Int → Int → Int → Option (Int × Int × Int)
 | 0, _, _, _, _, _, _ => none
 | k + 1, x0, x7, x439000, x439001, x440000, x440001 => if x7 < (x0.size : Int) then ((paymasterref01_Times.f k x440000 x440001 10).bind fun bt440 => (if bt440.2.2 = 0 then (if 0 ≤ x7 then ((paymasterref01_Add.f k bt440.1 bt440.2.1 0 (((bt x0 x7) - 48) % 256)).bind fun bt444 => (if bt444.2.2 = 0 then (paymasterref02_Parse.l1 k x0 (wrap64 (x7 + 1)) x439000 x439001 bt444.1 bt444.2.1) else (some (x439000, x439001, 10)))) else (none)) else (some (x439000, x439001, 10)))) else (some (x440000, x440001, 0))
end
def paymasterref02_Parse.f (k : Nat) (a0 : ByteArray) : Option (Int × Int × Int) := paymasterref02_Parse.l0 k a0 0 0 0
def paymasterref02_Parse.T16 : Bool × List (List Nat × List Nat) := (true, [([], []), ([], []), ([], []), ([1, 2], [1, 2]), ([3], [3]), ([4], [4]), ([5], [5]), ([0, 6], [0, 6]), ([7], [7]), ([8], [8]), ([8], [8]), ([], []), ([11, 9, 7, 0, 1, 2, 3, 4, 5, 6, 7, 8, 9, 11], [9, 11]), ([10, 12, 0, 1, 2, 3, 4, 5, 6, 7, 8, 9, 10, 11, 12], [10])])
def paymasterref02_Parse.B16 : List Nat := [0, 0, 0, 6, 14, 30, 62, 127, 255, 511, 511, 0, 3071, 8191]
theorem paymasterref02_Parse.tab16 : rtab .any (opsOf Tryd.f82 16) = paymasterref02_Parse.T16 := by kernel_rfl
theorem paymasterref02_Parse.bits16 : waitsOk paymasterref02_Parse.T16.2 paymasterref02_Parse.B16 = true := by kernel_rfl
set_option maxHeartbeats 8000000 in
set_option maxRecDepth 100000 in
theorem paymasterref02_Parse.calls (k : Nat) (a0 : ByteArray) (r1 : Int) (r2 : Int) (r3 : Int) (w : World) (h : paymasterref02_Parse.f k a0 = some (r1, r2, r3)) :
  Calls Tryd.prog 82 #[.string a0] w fun e w' => e = .returned (.tuple #[.agg #[.int .u64 r1, .int .u64 r2], .int .i64 r3]) ∧ Below w.heap.size w w' := by
 have hu42 := Tryd.underlying42; have HB := Aside0.mk (Below.refl w.heap.size w); have H : (paymasterref02_Parse.l0 k a0 0 0 0) = some (r1, r2, r3) := h; clear h; have H' := Aside0.mk H; clear H; go_enter Tryd.func82, Tryd.ntmps82
 go_wp2_with (first | ((with_reducible refine zRq (N := 2) rfl ?_); (try (refine gate_guard zvv ?_; dsimp only)); refine zRn ?hg (N := 2) ?hd (cs := #[.int .u64 0, .int .u64 0]) (t := 42) ?hr ?_; (case hd => rfl); (case hg => rfl); (case hr => first | (go_simp; done) | (go_simp; rfl)); intro gb437 hg w2 hbox hb; have n0_ := Aside0.mk (zRd zv0 hb); have n1_ := Aside0.mk (hbox); have n2_ := Aside0.mk ((zv3w : w.heap.size ≤ gb437)); have n3_ := Aside0.mk ((zv3w : w.heap.size ≤ gb437)); clear HB; have HB := n0_; have BK437 := n1_; have GW437 := n2_; have GE437 := n3_; clear n0_ n1_ n2_ n3_; clear hb hbox hg) | ((with_reducible refine zRq (N := 4) rfl ?_); (try (refine gate_guard zvv ?_; dsimp only)); refine zRn ?hg (N := 4) ?hd (cs := #[.int .u64 0, .int .u64 0]) (t := 42) ?hr ?_; (case hd => rfl); (case hg => rfl); (case hr => first | (go_simp; done) | (go_simp; rfl)); intro gb438 hg w3 hbox hb; have n0_ := Aside0.mk (zRc (g := gb437) (o := .cells #[.int .u64 0, .int .u64 0] 42 (0, 0)) (zqb BK437.out) hb); have n1_ := Aside0.mk (zRd zv2f hb); have n2_ := Aside0.mk (hbox); have n3_ := Aside0.mk ((by rw [hg]; exact (zRg zv2f) : w.heap.size ≤ gb438)); have n4_ := Aside0.mk ((by rw [hg]; exact (zRg zv2f) : w.heap.size ≤ gb438)); have n5_ := Aside0.mk ((by rw [hg]; exact Nat.ne_of_lt (blk_lt (g := gb437) (o := .cells #[.int .u64 0, .int .u64 0] 42 (0, 0)) (zqb BK437.out)) : gb437 ≠ gb438)); have n6_ := Aside0.mk ((by rw [hg]; exact Nat.ne_of_gt (blk_lt (g := gb437) (o := .cells #[.int .u64 0, .int .u64 0] 42 (0, 0)) (zqb BK437.out)) : gb438 ≠ gb437)); clear BK437; clear HB; have BK437 := n0_; have HB := n1_; have BK438 := n2_; have GW438 := n3_; have GE438 := n4_; have NB437_438 := n5_; have NB438_437 := n6_; clear n0_ n1_ n2_ n3_ n4_ n5_ n6_; clear hb hbox hg; have hnb4 := NB438_437.out; have hnc4 := NB437_438.out; have hcz5_0 : w3.cell? ⟨gb438, 0, none⟩ = some (.int .u64 0) := (zRa BK438.out 0).trans rfl; have hcz5_1 : w3.cell? ⟨gb438, 1, none⟩ = some (.int .u64 0) := (zRa BK438.out 1).trans rfl; have hfz5_0 := zRb BK438.out 0; have hfz5_1 := zRb BK438.out 1))
 go_loopg [5] k (fun kq v5 w' => ∃ (x5_1 : Int) (x438000_1 : Int) (x438001_1 : Int), v5 = .int .i64 x5_1 ∧ Aside0 (paymasterref02_Parse.l0 kq a0 x5_1 0 0 = some (r1, r2, r3)) ∧ Aside0 (kq ≤ k) ∧ Aside0 (w'.heap[gb437]? = some (.cells #[.int .u64 x438000_1, .int .u64 x438001_1] 42 (0, 0))) ∧ Aside0 (w'.heap[gb438]? = some (.cells #[.int .u64 0, .int .u64 0] 42 (0, 0))) ∧ Aside0 (Below w.heap.size w w'))
 case atStart => exact ⟨(0), (0), (0), zv5, H', ⟨Nat.le_refl _⟩, ⟨(by refine zqb ?_; refine zRr ?_ NB437_438.out _; refine zqb ?_; refine zRr ?_ NB437_438.out _; refine zqb ?_; exact BK437.out)⟩, ⟨(by refine zqb ?_; refine zRm (cs := #[.int .u64 0, .int .u64 0]) ?_ 1 _ rfl; refine zqb ?_; refine zRm (cs := #[.int .u64 0, .int .u64 0]) ?_ 0 _ rfl; refine zqb ?_; exact BK438.out)⟩, ⟨zvj⟩⟩
 case round =>
  clear H'; try clear p2
  try clear c4
  try clear hcz5_0
  try clear hcz5_1
  try clear hfz5_0
  try clear hfz5_1
  obtain ⟨x5_1, x438000_1, x438001_1, rfl, HA, HK1, BK437, BK438, HB⟩ := hrel; cases gk with
  | zero => exact absurd HA.out (by simp [paymasterref02_Parse.l0])
  | succ k1 =>
   have H := HA.out; clear HA; simp only [paymasterref02_Parse.l0] at H
   by_cases c6 : x5_1 < (a0.size : Int)
   ·rw [if_pos c6] at H; have c6b0 : decide (x5_1 < (a0.size : Int)) = true := decide_eq_true c6; clear c6
    by_cases c7 : 0 ≤ x5_1
    ·rw [if_pos c7] at H; have c7b0 : decide (0 ≤ x5_1) = true := decide_eq_true c7; clear c7
     by_cases c9 : (bt a0 x5_1) < 48
     ·rw [if_pos c9] at H; have c9b0 : decide ((bt a0 x5_1) < 48) = true := decide_eq_true c9; clear c9; simp only [Option.some.injEq, Prod.mk.injEq] at H; obtain ⟨rfl, rfl, rfl⟩ := H; have p8 : 0 ≤ (x5_1 : Int) := of_decide_eq_true zv6; have q8 : x5_1 < (a0.size : Int) := of_decide_eq_true zv6; have hx8 := bt_at a0 x5_1; replace p8 := eq_true p8; replace q8 := eq_true q8; have hnb10 := NB438_437.out; have hnc10 := NB437_438.out; have hcz11_0 : wr.cell? ⟨gb438, 0, none⟩ = some (.int .u64 0) := (zRa BK438.out 0).trans rfl; have hcz11_1 : wr.cell? ⟨gb438, 1, none⟩ = some (.int .u64 0) := (zRa BK438.out 1).trans rfl; have hfz11_0 := zRb BK438.out 0; have hfz11_1 := zRb BK438.out 1; have hcz12_0 : wr.cell? ⟨gb437, 0, none⟩ = some (.int .u64 x438000_1) := (zRa BK437.out 0).trans rfl; have hcz12_1 : wr.cell? ⟨gb437, 1, none⟩ = some (.int .u64 x438001_1) := (zRa BK437.out 1).trans rfl; have hfz12_0 := zRb BK437.out 0; have hfz12_1 := zRb BK437.out 1; go_wp2; refine bodyPost_ret (zRu rfl _ _ gb437 42 #[.int .u64 0, .int .u64 0] (0, 0) _ rfl zv1r Tryd.underlying42 rfl (by kernel_rfl)) rfl ?_; exact ⟨zv8, zvj⟩
     ·rw [if_neg c9] at H; have c9b0 : decide ((bt a0 x5_1) < 48) = false := decide_eq_false c9; clear c9
      by_cases c14 : (bt a0 x5_1) > 57
      ·rw [if_pos c14] at H; have c14b0 : decide (57 < (bt a0 x5_1)) = true := decide_eq_true c14; clear c14; simp only [Option.some.injEq, Prod.mk.injEq] at H; obtain ⟨rfl, rfl, rfl⟩ := H; have p8 : 0 ≤ (x5_1 : Int) := of_decide_eq_true zv6; have q8 : x5_1 < (a0.size : Int) := of_decide_eq_true zv6; have hx8 := bt_at a0 x5_1; replace p8 := eq_true p8; replace q8 := eq_true q8; have p13 : 0 ≤ (x5_1 : Int) := of_decide_eq_true zv6; have q13 : x5_1 < (a0.size : Int) := of_decide_eq_true zv6; have hx13 := bt_at a0 x5_1; replace p13 := eq_true p13; replace q13 := eq_true q13; have hnb15 := NB438_437.out; have hnc15 := NB437_438.out; have hcz16_0 : wr.cell? ⟨gb438, 0, none⟩ = some (.int .u64 0) := (zRa BK438.out 0).trans rfl; have hcz16_1 : wr.cell? ⟨gb438, 1, none⟩ = some (.int .u64 0) := (zRa BK438.out 1).trans rfl; have hfz16_0 := zRb BK438.out 0; have hfz16_1 := zRb BK438.out 1; have hcz17_0 : wr.cell? ⟨gb437, 0, none⟩ = some (.int .u64 x438000_1) := (zRa BK437.out 0).trans rfl; have hcz17_1 : wr.cell? ⟨gb437, 1, none⟩ = some (.int .u64 x438001_1) := (zRa BK437.out 1).trans rfl; have hfz17_0 := zRb BK437.out 0; have hfz17_1 := zRb BK437.out 1; go_wp2; refine bodyPost_ret (zRu rfl _ _ gb437 42 #[.int .u64 0, .int .u64 0] (0, 0) _ rfl zv1r Tryd.underlying42 rfl (by kernel_rfl)) rfl ?_; exact ⟨zv8, zvj⟩
      ·rw [if_neg c14] at H; have c14b0 : decide (57 < (bt a0 x5_1)) = false := decide_eq_false c14; clear c14; have H' := Aside0.mk H; clear H; have p8 : 0 ≤ (x5_1 : Int) := of_decide_eq_true zv6; have q8 : x5_1 < (a0.size : Int) := of_decide_eq_true zv6; have hx8 := bt_at a0 x5_1; replace p8 := eq_true p8; replace q8 := eq_true q8; have p13 : 0 ≤ (x5_1 : Int) := of_decide_eq_true zv6; have q13 : x5_1 < (a0.size : Int) := of_decide_eq_true zv6; have hx13 := bt_at a0 x5_1; replace p13 := eq_true p13; replace q13 := eq_true q13; go_wp2; go_roundg k1
       case measure => have := HK1.out; omega
       case rel => exact ⟨(wrap64 (x5_1 + 1)), (x438000_1), (x438001_1), zv5, H', ⟨zv2g⟩, ⟨zv28⟩, ⟨zv29⟩, ⟨zvj⟩⟩
    ·rw [if_neg c7] at H; exact absurd H zv10
   ·rw [if_neg c6] at H; have c6b0 : decide (x5_1 < (a0.size : Int)) = false := decide_eq_false c6; clear c6; have HC18 := Aside0.mk H; clear H
    go_upto_region 7 with (fail)
    go_cut [42] (fun v42 wc => ∃ (kq : Nat) (x42_17 : Bool), v42 = .bool x42_17 ∧ Aside0 (paymasterref02_Parse.j1 kq a0 x42_17 0 0 = some (r1, r2, r3)) ∧ Aside0 (kq ≤ k1) ∧ Aside0 (wc.heap[gb437]? = some (.cells #[.int .u64 x438000_1, .int .u64 x438001_1] 42 (0, 0))) ∧ Aside0 (wc.heap[gb438]? = some (.cells #[.int .u64 0, .int .u64 0] 42 (0, 0))) ∧ Aside0 (Below w.heap.size w wc))
    case first =>
     have H := HC18.out; clear HC18
     by_cases c19 : (a0.size : Int) = 0
     ·rw [if_pos c19] at H; have c19b0 : ((a0.size : Int) == 0) = true := beq_iff_eq.mpr c19; have c19b1 : ((a0.size : Int) != 0) = false := bne_eq_false_iff_eq.mpr c19; clear c19; (first | rw [c19b0] | (simp only [i64_w, i32_w]; rw [c19b0]) | skip)
      have H' := Aside0.mk H; clear H; go_wp2; go_meet
      case rel => exact ⟨_, (true), zv5, H', ⟨zv2p⟩, ⟨zv28⟩, ⟨zv29⟩, ⟨zvj⟩⟩
     ·rw [if_neg c19] at H; have c19b0 : ((a0.size : Int) == 0) = false := beq_eq_false_iff_ne.mpr c19; have c19b1 : ((a0.size : Int) != 0) = true := bne_iff_ne.mpr c19; (first | rw [c19b0] | (simp only [i64_w, i32_w]; rw [c19b0]) | skip)
      by_cases c20 : (a0.size : Int) > 1
      ·rw [if_pos c20] at H; have c20b0 : decide (1 < (a0.size : Int)) = true := decide_eq_true c20; have c20b1 : decide (1 < a0.size) = true := decide_eq_true zv1; clear c20
       by_cases c21 : 0 < (a0.size : Int)
       ·rw [if_pos c21] at H; have c21b0 : decide (0 < (a0.size : Int)) = true := decide_eq_true c21; have c21b1 : decide (0 < a0.size) = true := decide_eq_true zv1; clear c21; have H' := Aside0.mk H; clear H; have p22 : 0 ≤ (0 : Int) := zv1; have q22 : 0 < a0.size := (by have : (0 : Int) < (a0.size : Int) := of_decide_eq_true zv6; omega)
        have hx22 : ∀ h : 0 < a0.size, ((a0[0]'h).toNat : Int) = bt a0 0 := bt_at a0 0; clear p22; have qi22 : (0 < (a0.size : Int)) = True := eq_true (of_decide_eq_true zv6); replace q22 := eq_true q22; go_wp2; go_meet
        case rel => exact ⟨_, (((bt a0 0) == 48)), zv5, H', ⟨zv2p⟩, ⟨zv28⟩, ⟨zv29⟩, ⟨zvj⟩⟩
       ·rw [if_neg c21] at H; exact absurd H zv10
      ·rw [if_neg c20] at H; have c20b0 : decide (1 < (a0.size : Int)) = false := decide_eq_false c20; have c20b1 : decide (1 < a0.size) = false := decide_eq_false zv1; clear c20; have H' := Aside0.mk H; clear H; go_wp2; go_meet
       case rel => exact ⟨_, (false), zv5, H', ⟨zv2p⟩, ⟨zv28⟩, ⟨zv29⟩, ⟨zvj⟩⟩
    case rest =>
     clear HC18; try clear c1
     try clear p1
     try clear q1
     try clear hx1
     try clear c2
     try clear p2
     try clear q2
     try clear hx2
     try clear qi2
     try clear c4
     try clear c6
     try clear c6b0
     try clear p6
     try clear c7
     try clear c7b0
     try clear c8
     try clear p8
     try clear q8
     try clear hx8
     try clear c9
     try clear c9b0
     try clear c10
     try clear p13
     try clear q13
     try clear hx13
     try clear c14
     try clear c14b0
     try clear c15
     try clear c19
     try clear c19b0
     try clear c19b1
     try clear c20
     try clear c20b0
     try clear c20b1
     try clear c21
     try clear c21b0
     try clear c21b1
     try clear p22
     try clear q22
     try clear hx22
     try clear qi22
     try clear hcz11_0
     try clear hcz11_1
     try clear hcz12_0
     try clear hcz12_1
     try clear hcz16_0
     try clear hcz16_1
     try clear hcz17_0
     try clear hcz17_1
     try clear hcz5_0
     try clear hcz5_1
     try clear hfz11_0
     try clear hfz11_1
     try clear hfz12_0
     try clear hfz12_1
     try clear hfz16_0
     try clear hfz16_1
     try clear hfz17_0
     try clear hfz17_1
     try clear hfz5_0
     try clear hfz5_1
     try clear p13
     try clear p2
     try clear p22
     try clear p8
     try clear q13
     try clear q22
     try clear q8
     obtain ⟨kq, x42_17, rfl, HA, HJ17, BK437, BK438, HB⟩ := hcut; cases kq with
     | zero => exact absurd HA.out (by simp [paymasterref02_Parse.j1])
     | succ kj17 =>
      have H := HA.out; clear HA; simp only [paymasterref02_Parse.j1] at H
      by_cases c23 : x42_17 = true
      ·subst c23; have H1 : (some (0, 0, 20)) = some (r1, r2, r3) := by rw [if_pos rfl] at H; exact H
       clear H; have H := H1; clear H1; simp only [Option.some.injEq, Prod.mk.injEq] at H; obtain ⟨rfl, rfl, rfl⟩ := H; have hnb24 := NB438_437.out; have hnc24 := NB437_438.out; have hcz25_0 : wc.cell? ⟨gb438, 0, none⟩ = some (.int .u64 0) := (zRa BK438.out 0).trans rfl; have hcz25_1 : wc.cell? ⟨gb438, 1, none⟩ = some (.int .u64 0) := (zRa BK438.out 1).trans rfl; have hfz25_0 := zRb BK438.out 0; have hfz25_1 := zRb BK438.out 1; have hcz26_0 : wc.cell? ⟨gb437, 0, none⟩ = some (.int .u64 x438000_1) := (zRa BK437.out 0).trans rfl; have hcz26_1 : wc.cell? ⟨gb437, 1, none⟩ = some (.int .u64 x438001_1) := (zRa BK437.out 1).trans rfl; have hfz26_0 := zRb BK437.out 0; have hfz26_1 := zRb BK437.out 1; go_wp2; refine bodyPost_ret (zRu rfl _ _ gb437 42 #[.int .u64 0, .int .u64 0] (0, 0) _ rfl zv1r Tryd.underlying42 rfl (by kernel_rfl)) rfl ?_; exact ⟨zv8, zvj⟩
      ·replace c23 := Bool.eq_false_iff.mpr c23; subst c23; have H1 : (paymasterref02_Parse.l1 kj17 a0 0 0 0 0 0) = some (r1, r2, r3) := by rw [if_neg (show ¬ (false = true) by decide)] at H; exact H
       clear H; have H := H1; clear H1; have H' := Aside0.mk H; clear H; have hnb27 := NB438_437.out; have hnc27 := NB437_438.out; have hcz28_0 : wc.cell? ⟨gb438, 0, none⟩ = some (.int .u64 0) := (zRa BK438.out 0).trans rfl; have hcz28_1 : wc.cell? ⟨gb438, 1, none⟩ = some (.int .u64 0) := (zRa BK438.out 1).trans rfl; have hfz28_0 := zRb BK438.out 0; have hfz28_1 := zRb BK438.out 1
       go_wp2_with (first | ((with_reducible refine zRq (N := 6) rfl ?_); (try (refine gate_guard zvv ?_; dsimp only)); refine zRn ?hg (N := 6) ?hd (cs := #[.int .u64 0, .int .u64 0]) (t := 42) ?hr ?_; (case hd => rfl); (case hg => rfl); (case hr => first | (go_simp; done) | (go_simp; rfl)); intro gb439 hg w29 hbox hb; have n0_ := Aside0.mk (zRc (g := gb437) (o := .cells #[.int .u64 x438000_1, .int .u64 x438001_1] 42 (0, 0)) (zqb BK437.out) hb); have n1_ := Aside0.mk (zRc (g := gb438) (o := .cells #[.int .u64 0, .int .u64 0] 42 (0, 0)) (zqb BK438.out) hb); have n2_ := Aside0.mk (zRd zvj hb); have n3_ := Aside0.mk (hbox); have n4_ := Aside0.mk ((by rw [hg]; exact (zRg zvj) : w.heap.size ≤ gb439)); have n5_ := Aside0.mk ((by rw [hg]; exact (zRg zvj) : w.heap.size ≤ gb439)); have n6_ := Aside0.mk ((by rw [hg]; exact Nat.ne_of_lt (blk_lt (g := gb437) (o := .cells #[.int .u64 x438000_1, .int .u64 x438001_1] 42 (0, 0)) (zqb BK437.out)) : gb437 ≠ gb439)); have n7_ := Aside0.mk ((by rw [hg]; exact Nat.ne_of_gt (blk_lt (g := gb437) (o := .cells #[.int .u64 x438000_1, .int .u64 x438001_1] 42 (0, 0)) (zqb BK437.out)) : gb439 ≠ gb437)); have n8_ := Aside0.mk ((zv13 : gb438 ≠ gb439)); have n9_ := Aside0.mk ((zv14 : gb439 ≠ gb438)); clear BK437; clear BK438; clear HB; have BK437 := n0_; have BK438 := n1_; have HB := n2_; have BK439 := n3_; have GW439 := n4_; have GE439 := n5_; have NB437_439 := n6_; have NB439_437 := n7_; have NB438_439 := n8_; have NB439_438 := n9_; clear n0_ n1_ n2_ n3_ n4_ n5_ n6_ n7_ n8_ n9_; clear hb hbox hg; have hnb30 := NB439_437.out; have hnc30 := NB437_439.out; have hnb31 := NB439_438.out; have hnc31 := NB438_439.out; have hcz32_0 : w29.cell? ⟨gb439, 0, none⟩ = some (.int .u64 0) := (zRa BK439.out 0).trans rfl; have hcz32_1 : w29.cell? ⟨gb439, 1, none⟩ = some (.int .u64 0) := (zRa BK439.out 1).trans rfl; have hfz32_0 := zRb BK439.out 0; have hfz32_1 := zRb BK439.out 1))
       go_loopg [7] kj17 (fun kq v7 w' => ∃ (x7_3 : Int) (x438000_3 : Int) (x438001_3 : Int) (x440000_3 : Int) (x440001_3 : Int), v7 = .int .i64 x7_3 ∧ Aside0 (paymasterref02_Parse.l1 kq a0 x7_3 0 0 x440000_3 x440001_3 = some (r1, r2, r3)) ∧ Aside0 (kq ≤ kj17) ∧ Aside0 (w'.heap[gb437]? = some (.cells #[.int .u64 x438000_3, .int .u64 x438001_3] 42 (0, 0))) ∧ Aside0 (w'.heap[gb438]? = some (.cells #[.int .u64 0, .int .u64 0] 42 (0, 0))) ∧ Aside0 (w'.heap[gb439]? = some (.cells #[.int .u64 x440000_3, .int .u64 x440001_3] 42 (0, 0))) ∧ Aside0 (Below w.heap.size w w'))
       case atStart => exact ⟨(0), (x438000_1), (x438001_1), (0), (0), zv5, H', ⟨Nat.le_refl _⟩, ⟨(by refine zqb ?_; refine zRr ?_ NB437_439.out _; refine zqb ?_; refine zRr ?_ NB437_439.out _; refine zqb ?_; exact BK437.out)⟩, ⟨(by refine zqb ?_; refine zRr ?_ NB438_439.out _; refine zqb ?_; refine zRr ?_ NB438_439.out _; refine zqb ?_; exact BK438.out)⟩, ⟨(by refine zqb ?_; refine zRm (cs := #[.int .u64 0, .int .u64 0]) ?_ 1 _ rfl; refine zqb ?_; refine zRm (cs := #[.int .u64 0, .int .u64 0]) ?_ 0 _ rfl; refine zqb ?_; exact BK439.out)⟩, ⟨zvf⟩⟩
       case round =>
        clear H'; try clear c1
        try clear p1
        try clear q1
        try clear hx1
        try clear c2
        try clear p2
        try clear q2
        try clear hx2
        try clear qi2
        try clear c3
        try clear c4
        try clear c6
        try clear c6b0
        try clear p6
        try clear c7
        try clear c7b0
        try clear c8
        try clear p8
        try clear q8
        try clear hx8
        try clear c9
        try clear c9b0
        try clear c10
        try clear p13
        try clear q13
        try clear hx13
        try clear c14
        try clear c14b0
        try clear c15
        try clear c19
        try clear c19b0
        try clear c19b1
        try clear c20
        try clear c20b0
        try clear c20b1
        try clear c21
        try clear c21b0
        try clear c21b1
        try clear p22
        try clear q22
        try clear hx22
        try clear qi22
        try clear c23
        try clear c24
        try clear c27
        try clear c30
        try clear c31
        try clear hcz11_0
        try clear hcz11_1
        try clear hcz12_0
        try clear hcz12_1
        try clear hcz16_0
        try clear hcz16_1
        try clear hcz17_0
        try clear hcz17_1
        try clear hcz25_0
        try clear hcz25_1
        try clear hcz26_0
        try clear hcz26_1
        try clear hcz28_0
        try clear hcz28_1
        try clear hcz32_0
        try clear hcz32_1
        try clear hcz5_0
        try clear hcz5_1
        try clear hfz11_0
        try clear hfz11_1
        try clear hfz12_0
        try clear hfz12_1
        try clear hfz16_0
        try clear hfz16_1
        try clear hfz17_0
        try clear hfz17_1
        try clear hfz25_0
        try clear hfz25_1
        try clear hfz26_0
        try clear hfz26_1
        try clear hfz28_0
        try clear hfz28_1
        try clear hfz32_0
        try clear hfz32_1
        try clear hfz5_0
        try clear hfz5_1
        try clear p1
        try clear p13
        try clear p2
        try clear p22
        try clear p6
        try clear p8
        try clear q1
        try clear q13
        try clear q2
        try clear q22
        try clear q8
        obtain ⟨x7_3, x438000_3, x438001_3, x440000_3, x440001_3, rfl, HA, HK3, BK437, BK438, BK439, HB⟩ := hrel; cases gk with
        | zero => exact absurd HA.out (by simp [paymasterref02_Parse.l1])
        | succ k3 =>
         have H := HA.out; clear HA; simp only [paymasterref02_Parse.l1] at H
         by_cases c33 : x7_3 < (a0.size : Int)
         ·rw [if_pos c33] at H; have c33b0 : decide (x7_3 < (a0.size : Int)) = true := decide_eq_true c33; clear c33; replace H := Option.bind_eq_some_iff.mp H; obtain ⟨⟨t440, t441, t442⟩, A340, H⟩ := H; replace H : (if t442 = 0 then (if 0 ≤ x7_3 then ((paymasterref01_Add.f k3 t440 t441 0 (((bt a0 x7_3) - 48) % 256)).bind fun bt444 => (if bt444.2.2 = 0 then (paymasterref02_Parse.l1 k3 a0 (wrap64 (x7_3 + 1)) 0 0 bt444.1 bt444.2.1) else (some (0, 0, 10)))) else (none)) else (some (0, 0, 10))) = some (r1, r2, r3) := H; have A34 := Aside0.mk A340; clear A340
          by_cases c35 : t442 = 0
          ·rw [if_pos c35] at H; have c35b0 : (t442 == 0) = true := beq_iff_eq.mpr c35; have c35b1 : (t442 != 0) = false := bne_eq_false_iff_eq.mpr c35; clear c35
           by_cases c36 : 0 ≤ x7_3
           ·rw [if_pos c36] at H; have c36b0 : decide (0 ≤ x7_3) = true := decide_eq_true c36; clear c36; replace H := Option.bind_eq_some_iff.mp H; obtain ⟨⟨t444, t445, t446⟩, A380, H⟩ := H; replace H : (if t446 = 0 then (paymasterref02_Parse.l1 k3 a0 (wrap64 (x7_3 + 1)) 0 0 t444 t445) else (some (0, 0, 10))) = some (r1, r2, r3) := H; have A38 := Aside0.mk A380; clear A380
            by_cases c39 : t446 = 0
            ·rw [if_pos c39] at H; have c39b0 : (t446 == 0) = true := beq_iff_eq.mpr c39; have c39b1 : (t446 != 0) = false := bne_eq_false_iff_eq.mpr c39; clear c39; have H' := Aside0.mk H; clear H; have hnb40 := NB439_437.out; have hnc40 := NB437_439.out; have hnb41 := NB439_438.out; have hnc41 := NB438_439.out; have hcz42_0 : wr.cell? ⟨gb439, 0, none⟩ = some (.int .u64 x440000_3) := (zRa BK439.out 0).trans rfl; have hcz42_1 : wr.cell? ⟨gb439, 1, none⟩ = some (.int .u64 x440001_3) := (zRa BK439.out 1).trans rfl; have hfz42_0 := zRb BK439.out 0; have hfz42_1 := zRb BK439.out 1; try go_wp2_with (first | ((with_reducible refine zRl (f := 110) rfl ?_); refine goesL_ (some 53) rfl rfl Tryd.func110 (by kernel_rfl) rfl #[.agg #[.int .u64 x440000_3, .int .u64 x440001_3], .int .u64 10] rfl zv3 ?_; (with_reducible refine (paymasterref01_Times.calls k3 x440000_3 x440001_3 10 t440 t441 t442 _ A34.out).mono ?_); rintro e w43 ⟨rfl, hb⟩; refine ⟨_, rfl, ?_⟩; have n0_ := Aside0.mk (zRc (g := gb437) (o := .cells #[.int .u64 x438000_3, .int .u64 x438001_3] 42 (0, 0)) (zqb BK437.out) hb); have n1_ := Aside0.mk (zRc (g := gb438) (o := .cells #[.int .u64 0, .int .u64 0] 42 (0, 0)) (zqb BK438.out) hb); have n2_ := Aside0.mk (zRc (g := gb439) (o := .cells #[.int .u64 x440000_3, .int .u64 x440001_3] 42 (0, 0)) (zqb BK439.out) hb); have n3_ := Aside0.mk (zRd zvf hb); clear BK437; clear BK438; clear BK439; clear HB; have BK437 := n0_; have BK438 := n1_; have BK439 := n2_; have HB := n3_; clear n0_ n1_ n2_ n3_; (try clear hb); (try clear hb2); (try clear hk); (try clear hi)) | ((with_reducible refine zRq (N := 8) rfl ?_); (try (refine gate_guard zvv ?_; dsimp only)); refine zRn ?hg (N := 8) ?hd (cs := #[.int .u64 0, .int .u64 0]) (t := 42) ?hr ?_; (case hd => rfl); (case hg => rfl); (case hr => first | (go_simp; done) | (go_simp; rfl)); intro gb443 hg w44 hbox hb; have n0_ := Aside0.mk (zRc (g := gb437) (o := .cells #[.int .u64 x438000_3, .int .u64 x438001_3] 42 (0, 0)) (zqb BK437.out) hb); have n1_ := Aside0.mk (zRc (g := gb438) (o := .cells #[.int .u64 0, .int .u64 0] 42 (0, 0)) (zqb BK438.out) hb); have n2_ := Aside0.mk (zRc (g := gb439) (o := .cells #[.int .u64 x440000_3, .int .u64 x440001_3] 42 (0, 0)) (zqb BK439.out) hb); have n3_ := Aside0.mk (zRd zvf hb); have n4_ := Aside0.mk (hbox); have n5_ := Aside0.mk ((zv46 : w.heap.size ≤ gb443)); have n6_ := Aside0.mk ((zv46 : w.heap.size ≤ gb443)); have n7_ := Aside0.mk ((zv16 : gb437 ≠ gb443)); have n8_ := Aside0.mk ((zv17 : gb443 ≠ gb437)); have n9_ := Aside0.mk ((zv13 : gb438 ≠ gb443)); have n10_ := Aside0.mk ((zv14 : gb443 ≠ gb438)); have n11_ := Aside0.mk ((zv18 : gb439 ≠ gb443)); have n12_ := Aside0.mk ((zv19 : gb443 ≠ gb439)); clear BK437; clear BK438; clear BK439; clear HB; have BK437 := n0_; have BK438 := n1_; have BK439 := n2_; have HB := n3_; have BK443 := n4_; have GW443 := n5_; have GE443 := n6_; have NB437_443 := n7_; have NB443_437 := n8_; have NB438_443 := n9_; have NB443_438 := n10_; have NB439_443 := n11_; have NB443_439 := n12_; clear n0_ n1_ n2_ n3_ n4_ n5_ n6_ n7_ n8_ n9_ n10_ n11_ n12_; clear hb hbox hg; have hnb45 := NB443_437.out; have hnc45 := NB437_443.out; have hnb46 := NB443_438.out; have hnc46 := NB438_443.out; have hnb47 := NB443_439.out; have hnc47 := NB439_443.out; have hcz48_0 : w44.cell? ⟨gb443, 0, none⟩ = some (.int .u64 0) := (zRa BK443.out 0).trans rfl; have hcz48_1 : w44.cell? ⟨gb443, 1, none⟩ = some (.int .u64 0) := (zRa BK443.out 1).trans rfl; have hfz48_0 := zRb BK443.out 0; have hfz48_1 := zRb BK443.out 1))
             have n0_ : Aside0 (((w44.setCell ⟨gb443, 0, none⟩ (.int .u64 t440)).setCell ⟨gb443, 1, none⟩ (.int .u64 t441)).heap[gb437]? = some (.cells #[.int .u64 x438000_3, .int .u64 x438001_3] 42 (0, 0))) := ⟨zv36⟩
             have n1_ : Aside0 (((w44.setCell ⟨gb443, 0, none⟩ (.int .u64 t440)).setCell ⟨gb443, 1, none⟩ (.int .u64 t441)).heap[gb438]? = some (.cells #[.int .u64 0, .int .u64 0] 42 (0, 0))) := ⟨zv37⟩
             have n2_ : Aside0 (((w44.setCell ⟨gb443, 0, none⟩ (.int .u64 t440)).setCell ⟨gb443, 1, none⟩ (.int .u64 t441)).heap[gb439]? = some (.cells #[.int .u64 x440000_3, .int .u64 x440001_3] 42 (0, 0))) := ⟨zv38⟩
             have n3_ : Aside0 (((w44.setCell ⟨gb443, 0, none⟩ (.int .u64 t440)).setCell ⟨gb443, 1, none⟩ (.int .u64 t441)).heap[gb443]? = some (.cells #[.int .u64 t440, .int .u64 t441] 42 (0, 0))) := ⟨zv2r⟩
             have n4_ : Aside0 (Below w.heap.size w ((w44.setCell ⟨gb443, 0, none⟩ (.int .u64 t440)).setCell ⟨gb443, 1, none⟩ (.int .u64 t441))) := ⟨zvb⟩
             (try clear BK437)
             (try clear BK438)
             (try clear BK439)
             (try clear BK443)
             (try clear HB)
             generalize ((w44.setCell ⟨gb443, 0, none⟩ (.int .u64 t440)).setCell ⟨gb443, 1, none⟩ (.int .u64 t441)) = w49 at n0_ n1_ n2_ n3_ n4_ ⊢; have BK437 := n0_; have BK438 := n1_; have BK439 := n2_; have BK443 := n3_; have HB := n4_; clear n0_ n1_ n2_ n3_ n4_; have n0_ := Aside0.mk (zRk BK437.out); have n1_ := Aside0.mk (zRk BK438.out); have n2_ := Aside0.mk (zRk BK439.out); have n3_ := Aside0.mk (zRk BK443.out); have n4_ := Aside0.mk (zRj HB.out); clear BK437; clear BK438; clear BK439; clear BK443; clear HB; have BK437 := n0_; have BK438 := n1_; have BK439 := n2_; have BK443 := n3_; have HB := n4_; clear n0_ n1_ n2_ n3_ n4_; have p37 : 0 ≤ (x7_3 : Int) := of_decide_eq_true zv6; have q37 : x7_3 < (a0.size : Int) := of_decide_eq_true zv6; have hx37 := bt_at a0 x7_3; replace p37 := eq_true p37; replace q37 := eq_true q37; refine start_ (n := 14) (S := fun w' => w'.cell? ⟨gb443, 0, none⟩ = some (.int .u64 t440) ∧ w'.cell? ⟨gb443, 1, none⟩ = some (.int .u64 t441)) (ds := []) #[false, false, false, false, false, false, false, false, false, false, false, false, false, false] (by kernel_rfl) rfl rfl ⟨(zRa BK443.out 0).trans rfl, (zRa BK443.out 1).trans rfl⟩ (fun hHeld => ?_); refine with_tabW paymasterref02_Parse.tab16 paymasterref02_Parse.bits16 (fun HT_ HW_ => ?_); generalize w49.drew = w50 at BK437 BK438 BK439 BK443 HB hHeld ⊢; refine pure_ (i := 1) (N := some 61) (v := ?_) (a' := ?_) #[false, true, false, false, false, false, false, false, false, false, false, false, false, false] rfl rfl (any_of HT_.out (by kernel_rfl)) (fun _ _ _ h => h) (Or.inl ⟨zvv, ?_⟩) ?_ ?_; rotate_left
             ·intro w'; go_simp; with_reducible rfl
             rotate_left
             ·simp only [Act.put, zsa, zsb, zsc, i64_w, i32_w]; rfl
             refine pure_ (i := 2) (N := some 62) (v := ?_) (a' := ?_) #[false, true, true, false, false, false, false, false, false, false, false, false, false, false] rfl rfl (any_of HT_.out (by kernel_rfl)) (fun _ _ _ h => h) (Or.inl ⟨zvv, ?_⟩) ?_ ?_; rotate_left
             ·intro w'; go_simp; with_reducible rfl
             rotate_left
             ·simp only [Act.put, zsa, zsb, zsc, i64_w, i32_w]; rfl
             refine take_ (i := 0) (N := some 60) (v := ?_) (a' := ?_) #[true, true, true, false, false, false, false, false, false, false, false, false, false, false] rfl rfl (zRA HT_.out HW_.out (by kernel_rfl)) (fun _ _ _ h => h) (Or.inl ⟨zvv, ?_⟩) hHeld ?_ ?_; rotate_left
             ·rintro w' ⟨s0, s1⟩; go_simp; with_reducible rfl
             rotate_left
             ·simp only [Act.put, zsa, zsb, zsc, i64_w, i32_w]; rfl
             refine take_ (i := 3) (N := some 63) (v := ?_) (a' := ?_) #[true, true, true, true, false, false, false, false, false, false, false, false, false, false] rfl rfl (zRA HT_.out HW_.out (by kernel_rfl)) (fun _ _ _ h => h) (Or.inl ⟨zvv, ?_⟩) hHeld ?_ ?_; rotate_left
             ·rintro w' ⟨s0, s1⟩; go_simp; with_reducible rfl
             rotate_left
             ·simp only [Act.put, zsa, zsb, zsc, i64_w, i32_w]; rfl
             refine pure_ (i := 4) (N := some 64) (v := ?_) (a' := ?_) #[true, true, true, true, true, false, false, false, false, false, false, false, false, false] rfl rfl (any_of HT_.out (by kernel_rfl)) (fun _ _ _ h => h) (Or.inl ⟨zvv, ?_⟩) ?_ ?_; rotate_left
             ·intro w'; go_simp; with_reducible rfl
             rotate_left
             ·simp only [Act.put, zsa, zsb, zsc, i64_w, i32_w]; rfl
             refine pure_ (i := 5) (N := some 65) (v := ?_) (a' := ?_) #[true, true, true, true, true, true, false, false, false, false, false, false, false, false] rfl rfl (any_of HT_.out (by kernel_rfl)) (fun _ _ _ h => h) (Or.inl ⟨zvv, ?_⟩) ?_ ?_; rotate_left
             ·intro w'; go_simp; with_reducible rfl
             rotate_left
             ·simp only [Act.put, zsa, zsb, zsc, i64_w, i32_w]; rfl
             refine pure_ (i := 6) (N := some 66) (v := ?_) (a' := ?_) #[true, true, true, true, true, true, true, false, false, false, false, false, false, false] rfl rfl (any_of HT_.out (by kernel_rfl)) (fun _ _ _ h => h) (Or.inl ⟨zvv, ?_⟩) ?_ ?_; rotate_left
             ·intro w'; go_simp; with_reducible rfl
             rotate_left
             ·simp only [Act.put, zsa, zsb, zsc, i64_w, i32_w]; rfl
             refine join_ (σ := Nat) 2 #[true, true, true, true, true, true, true, true, true, true, true, true, false, false] (fun s_ => [(67, .tuple #[.agg #[.int .u64 t444, .int .u64 t445], .int .i64 t446]), (10, .pointer (some ⟨s_, 0, none⟩)), (59, .tuple #[.agg #[.int .u64 t444, .int .u64 t445], .int .i64 t446]), (68, .agg #[.int .u64 t444, .int .u64 t445]), (69, .int .i64 t446)]) (fun s_ w' => (w'.cell? ⟨gb443, 0, none⟩ = some (.int .u64 t440) ∧ w'.cell? ⟨gb443, 1, none⟩ = some (.int .u64 t441)) ∧ (w'.heap[gb437]? = some (.cells #[.int .u64 x438000_3, .int .u64 x438001_3] 42 (0, 0))) ∧ (w'.heap[gb438]? = some (.cells #[.int .u64 0, .int .u64 0] 42 (0, 0))) ∧ (w'.heap[gb439]? = some (.cells #[.int .u64 x440000_3, .int .u64 x440001_3] 42 (0, 0))) ∧ (w'.heap[gb443]? = some (.cells #[.int .u64 t440, .int .u64 t441] 42 (0, 0))) ∧ (w'.heap[s_]? = some (.cells #[.int .u64 0, .int .u64 0] 42 (0, 0))) ∧ (w.heap.size ≤ s_) ∧ (w.heap.size ≤ s_) ∧ (gb437 ≠ s_) ∧ (s_ ≠ gb437) ∧ (gb438 ≠ s_) ∧ (s_ ≠ gb438) ∧ (gb439 ≠ s_) ∧ (s_ ≠ gb439) ∧ (gb443 ≠ s_) ∧ (s_ ≠ gb443) ∧ (Below w.heap.size w w')) ?_ ?_; rotate_left
             ·intro hCont; refine two_ (i := 7) (j := 11) (Ni := some 67) (Nj := some 10) #[true, true, true, true, true, true, true, true, false, false, false, false, false, false] #[true, true, true, true, true, true, true, false, false, false, false, true, false, false] rfl rfl rfl rfl (two_of HT_.out (by kernel_rfl)) zvz zvz (fun K hK => ?_) (fun K hK => ?_)
              ·skip
               refine goes_ Tryd.func111 (by kernel_rfl) rfl #[.agg #[.int .u64 t440, .int .u64 t441], .agg #[.int .u64 0, .int .u64 (((bt a0 x7_3) - 48) % 256)]] zvv rfl rfl zv3 ?_; with_reducible refine (paymasterref01_Add.calls k3 t440 t441 0 (((bt a0 x7_3) - 48) % 256) t444 t445 t446 _ A38.out).mono ?_; rintro e w51 ⟨rfl, hb⟩; refine ⟨_, rfl, ?_⟩; have n0_ := Aside0.mk (zRc (g := gb437) (o := .cells #[.int .u64 x438000_3, .int .u64 x438001_3] 42 (0, 0)) (zqb BK437.out) hb); have n1_ := Aside0.mk (zRc (g := gb438) (o := .cells #[.int .u64 0, .int .u64 0] 42 (0, 0)) (zqb BK438.out) hb); have n2_ := Aside0.mk (zRc (g := gb439) (o := .cells #[.int .u64 x440000_3, .int .u64 x440001_3] 42 (0, 0)) (zqb BK439.out) hb); have n3_ := Aside0.mk (zRc (g := gb443) (o := .cells #[.int .u64 t440, .int .u64 t441] 42 (0, 0)) (zqb BK443.out) hb); have n4_ := Aside0.mk (zRd zvb hb); clear BK437; clear BK438; clear BK439; clear BK443; clear HB; have BK437 := n0_; have BK438 := n1_; have BK439 := n2_; have BK443 := n3_; have HB := n4_; clear n0_ n1_ n2_ n3_ n4_; (try clear hb)
               (try clear hb2)
               (try clear hk)
               (try clear hi)
               refine hK.out _ _ ⟨(zRa BK443.out 0).trans rfl, (zRa BK443.out 1).trans rfl⟩ (fun hHeld => ?_); clear hK K; refine norm_ (a' := ?_) ?_ ?_; rotate_left
               ·show Act.put _ (some 67) _ = _; simp only [Act.put, zsa, zsb, zsc, i64_w, i32_w]; rfl
               refine pure_ (i := 8) (N := some 59) (v := ?_) (a' := ?_) #[true, true, true, true, true, true, true, true, true, false, false, false, false, false] rfl rfl (any_of HT_.out (by kernel_rfl)) (fun _ _ _ h => h) (Or.inl ⟨zvv, ?_⟩) ?_ ?_; rotate_left
               ·intro w'; go_simp; with_reducible rfl
               rotate_left
               ·simp only [Act.put, zsa, zsb, zsc, i64_w, i32_w]; rfl
               refine pure_ (i := 9) (N := some 68) (v := ?_) (a' := ?_) #[true, true, true, true, true, true, true, true, true, true, false, false, false, false] rfl rfl (any_of HT_.out (by kernel_rfl)) (fun _ _ _ h => h) (Or.inl ⟨zvv, ?_⟩) ?_ ?_; rotate_left
               ·intro w'; go_simp; with_reducible rfl
               rotate_left
               ·simp only [Act.put, zsa, zsb, zsc, i64_w, i32_w]; rfl
               refine pure_ (i := 10) (N := some 69) (v := ?_) (a' := ?_) #[true, true, true, true, true, true, true, true, true, true, true, false, false, false] rfl rfl (any_of HT_.out (by kernel_rfl)) (fun _ _ _ h => h) (Or.inl ⟨zvv, ?_⟩) ?_ ?_; rotate_left
               ·intro w'; go_simp; with_reducible rfl
               rotate_left
               ·simp only [Act.put, zsa, zsb, zsc, i64_w, i32_w]; rfl
               refine one_ (i := 11) (N := some 10) #[true, true, true, true, true, true, true, true, true, true, true, true, false, false] rfl rfl (one_of HT_.out (by kernel_rfl)) zvz (fun K hK => ?_); refine box_step ?hg (N := 10) ?hd (cs := #[.int .u64 0, .int .u64 0]) (t := 42) ?hr ?_; (case hd => rfl); (case hg => rfl); (case hr => first | (go_simp; done) | (go_simp; rfl)); intro gb447 hg w52 hbox hb; have n0_ := Aside0.mk (zRc (g := gb437) (o := .cells #[.int .u64 x438000_3, .int .u64 x438001_3] 42 (0, 0)) (zqb BK437.out) hb); have n1_ := Aside0.mk (zRc (g := gb438) (o := .cells #[.int .u64 0, .int .u64 0] 42 (0, 0)) (zqb BK438.out) hb); have n2_ := Aside0.mk (zRc (g := gb439) (o := .cells #[.int .u64 x440000_3, .int .u64 x440001_3] 42 (0, 0)) (zqb BK439.out) hb); have n3_ := Aside0.mk (zRc (g := gb443) (o := .cells #[.int .u64 t440, .int .u64 t441] 42 (0, 0)) (zqb BK443.out) hb); have n4_ := Aside0.mk (zRd zvb hb); have n5_ := Aside0.mk (hbox); have n6_ := Aside0.mk ((zv43 : w.heap.size ≤ gb447)); have n7_ := Aside0.mk ((zv43 : w.heap.size ≤ gb447)); have n8_ := Aside0.mk ((zv16 : gb437 ≠ gb447)); have n9_ := Aside0.mk ((zv17 : gb447 ≠ gb437)); have n10_ := Aside0.mk ((zv13 : gb438 ≠ gb447)); have n11_ := Aside0.mk ((zv14 : gb447 ≠ gb438)); have n12_ := Aside0.mk ((zv18 : gb439 ≠ gb447)); have n13_ := Aside0.mk ((zv19 : gb447 ≠ gb439)); have n14_ := Aside0.mk ((zv23 : gb443 ≠ gb447)); have n15_ := Aside0.mk ((zv24 : gb447 ≠ gb443)); clear BK437; clear BK438; clear BK439; clear BK443; clear HB; have BK437 := n0_; have BK438 := n1_; have BK439 := n2_; have BK443 := n3_; have HB := n4_; have BK447 := n5_; have GW447 := n6_; have GE447 := n7_; have NB437_447 := n8_; have NB447_437 := n9_; have NB438_447 := n10_; have NB447_438 := n11_; have NB439_447 := n12_; have NB447_439 := n13_; have NB443_447 := n14_; have NB447_443 := n15_; clear n0_ n1_ n2_ n3_ n4_ n5_ n6_ n7_ n8_ n9_ n10_ n11_ n12_ n13_ n14_ n15_; clear hb hbox hg; refine hK.out _ _ ⟨(zRa BK443.out 0).trans rfl, (zRa BK443.out 1).trans rfl⟩ (fun hHeld => ?_); clear hK K; refine norm_ (a' := ?_) ?_ ?_; rotate_left
               ·show Act.put _ (some 10) _ = _; simp only [Act.put, zsa, zsb, zsc, i64_w, i32_w]; rfl
               exact norm_ zv1b (hCont (gb447) _ ⟨hHeld, (zqb BK437.out), (zqb BK438.out), (zqb BK439.out), (zqb BK443.out), (zqb BK447.out), GW447.out, GE447.out, NB437_447.out, NB447_437.out, NB438_447.out, NB447_438.out, NB439_447.out, NB447_439.out, NB443_447.out, NB447_443.out, zvi⟩)
              ·skip
               refine box_step ?hg (N := 10) ?hd (cs := #[.int .u64 0, .int .u64 0]) (t := 42) ?hr ?_; (case hd => rfl); (case hg => rfl); (case hr => first | (go_simp; done) | (go_simp; rfl)); intro gb447 hg w51 hbox hb; have n0_ := Aside0.mk (zRc (g := gb437) (o := .cells #[.int .u64 x438000_3, .int .u64 x438001_3] 42 (0, 0)) (zqb BK437.out) hb); have n1_ := Aside0.mk (zRc (g := gb438) (o := .cells #[.int .u64 0, .int .u64 0] 42 (0, 0)) (zqb BK438.out) hb); have n2_ := Aside0.mk (zRc (g := gb439) (o := .cells #[.int .u64 x440000_3, .int .u64 x440001_3] 42 (0, 0)) (zqb BK439.out) hb); have n3_ := Aside0.mk (zRc (g := gb443) (o := .cells #[.int .u64 t440, .int .u64 t441] 42 (0, 0)) (zqb BK443.out) hb); have n4_ := Aside0.mk (zRd zvb hb); have n5_ := Aside0.mk (hbox); have n6_ := Aside0.mk ((zv43 : w.heap.size ≤ gb447)); have n7_ := Aside0.mk ((zv43 : w.heap.size ≤ gb447)); have n8_ := Aside0.mk ((zv16 : gb437 ≠ gb447)); have n9_ := Aside0.mk ((zv17 : gb447 ≠ gb437)); have n10_ := Aside0.mk ((zv13 : gb438 ≠ gb447)); have n11_ := Aside0.mk ((zv14 : gb447 ≠ gb438)); have n12_ := Aside0.mk ((zv18 : gb439 ≠ gb447)); have n13_ := Aside0.mk ((zv19 : gb447 ≠ gb439)); have n14_ := Aside0.mk ((zv23 : gb443 ≠ gb447)); have n15_ := Aside0.mk ((zv24 : gb447 ≠ gb443)); clear BK437; clear BK438; clear BK439; clear BK443; clear HB; have BK437 := n0_; have BK438 := n1_; have BK439 := n2_; have BK443 := n3_; have HB := n4_; have BK447 := n5_; have GW447 := n6_; have GE447 := n7_; have NB437_447 := n8_; have NB447_437 := n9_; have NB438_447 := n10_; have NB447_438 := n11_; have NB439_447 := n12_; have NB447_439 := n13_; have NB443_447 := n14_; have NB447_443 := n15_; clear n0_ n1_ n2_ n3_ n4_ n5_ n6_ n7_ n8_ n9_ n10_ n11_ n12_ n13_ n14_ n15_; clear hb hbox hg; refine hK.out _ _ ⟨(zRa BK443.out 0).trans rfl, (zRa BK443.out 1).trans rfl⟩ (fun hHeld => ?_); clear hK K; refine norm_ (a' := ?_) ?_ ?_; rotate_left
               ·show Act.put _ (some 10) _ = _; simp only [Act.put, zsa, zsb, zsc, i64_w, i32_w]; rfl
               refine one_ (i := 7) (N := some 67) #[true, true, true, true, true, true, true, true, false, false, false, true, false, false] rfl rfl (one_of HT_.out (by kernel_rfl)) zvz (fun K hK => ?_); refine goes_ Tryd.func111 (by kernel_rfl) rfl #[.agg #[.int .u64 t440, .int .u64 t441], .agg #[.int .u64 0, .int .u64 (((bt a0 x7_3) - 48) % 256)]] zvv rfl rfl zv3 ?_; with_reducible refine (paymasterref01_Add.calls k3 t440 t441 0 (((bt a0 x7_3) - 48) % 256) t444 t445 t446 _ A38.out).mono ?_; rintro e w52 ⟨rfl, hb⟩; refine ⟨_, rfl, ?_⟩; have n0_ := Aside0.mk (zRc (g := gb437) (o := .cells #[.int .u64 x438000_3, .int .u64 x438001_3] 42 (0, 0)) (zqb BK437.out) hb); have n1_ := Aside0.mk (zRc (g := gb438) (o := .cells #[.int .u64 0, .int .u64 0] 42 (0, 0)) (zqb BK438.out) hb); have n2_ := Aside0.mk (zRc (g := gb439) (o := .cells #[.int .u64 x440000_3, .int .u64 x440001_3] 42 (0, 0)) (zqb BK439.out) hb); have n3_ := Aside0.mk (zRc (g := gb443) (o := .cells #[.int .u64 t440, .int .u64 t441] 42 (0, 0)) (zqb BK443.out) hb); have n4_ := Aside0.mk (zRc (g := gb447) (o := .cells #[.int .u64 0, .int .u64 0] 42 (0, 0)) (zqb BK447.out) hb); have n5_ := Aside0.mk (zRd zvi hb); clear BK437; clear BK438; clear BK439; clear BK443; clear BK447; clear HB; have BK437 := n0_; have BK438 := n1_; have BK439 := n2_; have BK443 := n3_; have BK447 := n4_; have HB := n5_; clear n0_ n1_ n2_ n3_ n4_ n5_; (try clear hb)
               (try clear hb2)
               (try clear hk)
               (try clear hi)
               refine hK.out _ _ ⟨(zRa BK443.out 0).trans rfl, (zRa BK443.out 1).trans rfl⟩ (fun hHeld => ?_); clear hK K; refine norm_ (a' := ?_) ?_ ?_; rotate_left
               ·show Act.put _ (some 67) _ = _; simp only [Act.put, zsa, zsb, zsc, i64_w, i32_w]; rfl
               refine pure_ (i := 8) (N := some 59) (v := ?_) (a' := ?_) #[true, true, true, true, true, true, true, true, true, false, false, true, false, false] rfl rfl (any_of HT_.out (by kernel_rfl)) (fun _ _ _ h => h) (Or.inl ⟨zvv, ?_⟩) ?_ ?_; rotate_left
               ·intro w'; go_simp; with_reducible rfl
               rotate_left
               ·simp only [Act.put, zsa, zsb, zsc, i64_w, i32_w]; rfl
               refine pure_ (i := 9) (N := some 68) (v := ?_) (a' := ?_) #[true, true, true, true, true, true, true, true, true, true, false, true, false, false] rfl rfl (any_of HT_.out (by kernel_rfl)) (fun _ _ _ h => h) (Or.inl ⟨zvv, ?_⟩) ?_ ?_; rotate_left
               ·intro w'; go_simp; with_reducible rfl
               rotate_left
               ·simp only [Act.put, zsa, zsb, zsc, i64_w, i32_w]; rfl
               refine pure_ (i := 10) (N := some 69) (v := ?_) (a' := ?_) #[true, true, true, true, true, true, true, true, true, true, true, true, false, false] rfl rfl (any_of HT_.out (by kernel_rfl)) (fun _ _ _ h => h) (Or.inl ⟨zvv, ?_⟩) ?_ ?_; rotate_left
               ·intro w'; go_simp; with_reducible rfl
               rotate_left
               ·simp only [Act.put, zsa, zsb, zsc, i64_w, i32_w]; rfl
               exact norm_ zv1b (hCont (gb447) _ ⟨hHeld, (zqb BK437.out), (zqb BK438.out), (zqb BK439.out), (zqb BK443.out), (zqb BK447.out), GW447.out, GE447.out, NB437_447.out, NB447_437.out, NB438_447.out, NB447_438.out, NB439_447.out, NB447_439.out, NB443_447.out, NB447_443.out, zvi⟩)
             rintro gb447 w53 ⟨hS_, h0_, h1_, h2_, h3_, h4_, h5_, h6_, h7_, h8_, h9_, h10_, h11_, h12_, h13_, h14_, h15_⟩; have n0_ : Aside0 (w53.heap[gb437]? = some (.cells #[.int .u64 x438000_3, .int .u64 x438001_3] 42 (0, 0))) := ⟨h0_⟩
             have n1_ : Aside0 (w53.heap[gb438]? = some (.cells #[.int .u64 0, .int .u64 0] 42 (0, 0))) := ⟨h1_⟩
             have n2_ : Aside0 (w53.heap[gb439]? = some (.cells #[.int .u64 x440000_3, .int .u64 x440001_3] 42 (0, 0))) := ⟨h2_⟩
             have n3_ : Aside0 (w53.heap[gb443]? = some (.cells #[.int .u64 t440, .int .u64 t441] 42 (0, 0))) := ⟨h3_⟩
             have n4_ : Aside0 (w53.heap[gb447]? = some (.cells #[.int .u64 0, .int .u64 0] 42 (0, 0))) := ⟨h4_⟩
             have n5_ : Aside0 (w.heap.size ≤ gb447) := ⟨h5_⟩
             have n6_ : Aside0 (w.heap.size ≤ gb447) := ⟨h6_⟩
             have n7_ : Aside0 (gb437 ≠ gb447) := ⟨h7_⟩
             have n8_ : Aside0 (gb447 ≠ gb437) := ⟨h8_⟩
             have n9_ : Aside0 (gb438 ≠ gb447) := ⟨h9_⟩
             have n10_ : Aside0 (gb447 ≠ gb438) := ⟨h10_⟩
             have n11_ : Aside0 (gb439 ≠ gb447) := ⟨h11_⟩
             have n12_ : Aside0 (gb447 ≠ gb439) := ⟨h12_⟩
             have n13_ : Aside0 (gb443 ≠ gb447) := ⟨h13_⟩
             have n14_ : Aside0 (gb447 ≠ gb443) := ⟨h14_⟩
             have n15_ : Aside0 (Below w.heap.size w w53) := ⟨h15_⟩
             clear BK437; clear BK438; clear BK439; clear BK443; clear HB; clear h0_ h1_ h2_ h3_ h4_ h5_ h6_ h7_ h8_ h9_ h10_ h11_ h12_ h13_ h14_ h15_; have BK437 := n0_; have BK438 := n1_; have BK439 := n2_; have BK443 := n3_; have BK447 := n4_; have GW447 := n5_; have GE447 := n6_; have NB437_447 := n7_; have NB447_437 := n8_; have NB438_447 := n9_; have NB447_438 := n10_; have NB439_447 := n11_; have NB447_439 := n12_; have NB443_447 := n13_; have NB447_443 := n14_; have HB := n15_; clear n0_ n1_ n2_ n3_ n4_ n5_ n6_ n7_ n8_ n9_ n10_ n11_ n12_ n13_ n14_ n15_; have hHeld : w53.cell? ⟨gb443, 0, none⟩ = some (.int .u64 t440) ∧ w53.cell? ⟨gb443, 1, none⟩ = some (.int .u64 t441) := hS_; refine norm_ (a' := ?_) ?_ ?_; rotate_left
             ·simp only [putAll, Act.put, zsa, zsb, zsc]; rfl
             refine one_ (i := 12) (N := none) #[true, true, true, true, true, true, true, true, true, true, true, true, true, false] rfl rfl (one_of HT_.out (by kernel_rfl)) zvz (fun K hK => ?_); have hs54 : w53.cell? ⟨gb447, 0, none⟩ = some (.int .u64 0) := (zRa BK447.out 0).trans rfl; have hfs54 := zRb BK447.out 0; have hns54_0 := NB437_447.out; have hns54_1 := NB438_447.out; have hns54_2 := NB439_447.out; have hns54_3 := NB443_447.out; have hms54_0 := NB447_437.out; have hms54_1 := NB447_438.out; have hms54_2 := NB447_439.out; have hms54_3 := NB447_443.out; have hs55 : w53.cell? ⟨gb447, 1, none⟩ = some (.int .u64 0) := (zRa BK447.out 1).trans rfl; have hfs55 := zRb BK447.out 1; have hns55_0 := NB437_447.out; have hns55_1 := NB438_447.out; have hns55_2 := NB439_447.out; have hns55_3 := NB443_447.out; have hms55_0 := NB447_437.out; have hms55_1 := NB447_438.out; have hms55_2 := NB447_439.out; have hms55_3 := NB447_443.out; refine skip_ (w1 := ?_) zvv rfl ?_ ?_; rotate_left
             ·go_simp; rfl
             refine hK.out _ _ ⟨((cell_far (p := ⟨gb447, _, none⟩) NB443_447.out _).trans (((cell_far (p := ⟨gb447, _, none⟩) NB443_447.out _).trans (hHeld.1)))), ((cell_far (p := ⟨gb447, _, none⟩) NB443_447.out _).trans (((cell_far (p := ⟨gb447, _, none⟩) NB443_447.out _).trans (hHeld.2))))⟩ (fun hHeld => ?_); clear hK K; refine pure_ (i := 13) (N := some 11) (v := ?_) (a' := ?_) #[true, true, true, true, true, true, true, true, true, true, true, true, true, true] rfl rfl (any_of HT_.out (by kernel_rfl)) (fun _ _ _ h => h) (Or.inl ⟨zvv, ?_⟩) ?_ ?_; rotate_left
             ·intro w'; go_simp; with_reducible rfl
             rotate_left
             ·simp only [Act.put, zsa, zsb, zsc, i64_w, i32_w]; rfl
             refine done_ (done_of HT_.out (by kernel_rfl)) ?_; have hnb56 := NB447_437.out; have hnc56 := NB437_447.out; have hnb57 := NB447_438.out; have hnc57 := NB438_447.out; have hnb58 := NB447_439.out; have hnc58 := NB439_447.out; have hnb59 := NB447_443.out; have hnc59 := NB443_447.out; have hcz60_0 : w53.cell? ⟨gb447, 0, none⟩ = some (.int .u64 0) := (zRa BK447.out 0).trans rfl; have hcz60_1 : w53.cell? ⟨gb447, 1, none⟩ = some (.int .u64 0) := (zRa BK447.out 1).trans rfl; have hfz60_0 := zRb BK447.out 0; have hfz60_1 := zRb BK447.out 1; have hcz61_0 : w53.cell? ⟨gb439, 0, none⟩ = some (.int .u64 x440000_3) := (zRa BK439.out 0).trans rfl; have hcz61_1 : w53.cell? ⟨gb439, 1, none⟩ = some (.int .u64 x440001_3) := (zRa BK439.out 1).trans rfl; have hfz61_0 := zRb BK439.out 0; have hfz61_1 := zRb BK439.out 1; try go_wp2
             go_roundg k3
             case measure => have := HK1.out; have := HJ17.out; have := HK3.out; omega
             case rel => exact ⟨(wrap64 (x7_3 + 1)), (x438000_3), (x438001_3), (t444), (t445), zv5, H', ⟨(by have := HK1.out; have := HJ17.out; have := HK3.out; omega)⟩, ⟨(by refine zqb ?_; refine zRr ?_ NB437_439.out _; refine zqb ?_; refine zRr ?_ NB437_439.out _; refine zqb ?_; refine zRr ?_ NB437_447.out _; refine zqb ?_; refine zRr ?_ NB437_447.out _; refine zqb ?_; exact BK437.out)⟩, ⟨(by refine zqb ?_; refine zRr ?_ NB438_439.out _; refine zqb ?_; refine zRr ?_ NB438_439.out _; refine zqb ?_; refine zRr ?_ NB438_447.out _; refine zqb ?_; refine zRr ?_ NB438_447.out _; refine zqb ?_; exact BK438.out)⟩, ⟨(by refine zqb ?_; refine zRm (cs := #[.int .u64 t444, .int .u64 x440001_3]) ?_ 1 _ rfl; refine zqb ?_; refine zRm (cs := #[.int .u64 x440000_3, .int .u64 x440001_3]) ?_ 0 _ rfl; refine zqb ?_; refine zRr ?_ NB439_447.out _; refine zqb ?_; refine zRr ?_ NB439_447.out _; refine zqb ?_; exact BK439.out)⟩, ⟨zvi⟩⟩
            ·rw [if_neg c39] at H; have c39b0 : (t446 == 0) = false := beq_eq_false_iff_ne.mpr c39; have c39b1 : (t446 != 0) = true := bne_iff_ne.mpr c39; simp only [Option.some.injEq, Prod.mk.injEq] at H; obtain ⟨rfl, rfl, rfl⟩ := H; have hnb62 := NB439_437.out; have hnc62 := NB437_439.out; have hnb63 := NB439_438.out; have hnc63 := NB438_439.out; have hcz64_0 : wr.cell? ⟨gb439, 0, none⟩ = some (.int .u64 x440000_3) := (zRa BK439.out 0).trans rfl; have hcz64_1 : wr.cell? ⟨gb439, 1, none⟩ = some (.int .u64 x440001_3) := (zRa BK439.out 1).trans rfl; have hfz64_0 := zRb BK439.out 0; have hfz64_1 := zRb BK439.out 1; try go_wp2_with (first | ((with_reducible refine zRl (f := 110) rfl ?_); refine goesL_ (some 53) rfl rfl Tryd.func110 (by kernel_rfl) rfl #[.agg #[.int .u64 x440000_3, .int .u64 x440001_3], .int .u64 10] rfl zv3 ?_; (with_reducible refine (paymasterref01_Times.calls k3 x440000_3 x440001_3 10 t440 t441 t442 _ A34.out).mono ?_); rintro e w65 ⟨rfl, hb⟩; refine ⟨_, rfl, ?_⟩; have n0_ := Aside0.mk (zRc (g := gb437) (o := .cells #[.int .u64 x438000_3, .int .u64 x438001_3] 42 (0, 0)) (zqb BK437.out) hb); have n1_ := Aside0.mk (zRc (g := gb438) (o := .cells #[.int .u64 0, .int .u64 0] 42 (0, 0)) (zqb BK438.out) hb); have n2_ := Aside0.mk (zRc (g := gb439) (o := .cells #[.int .u64 x440000_3, .int .u64 x440001_3] 42 (0, 0)) (zqb BK439.out) hb); have n3_ := Aside0.mk (zRd zvf hb); clear BK437; clear BK438; clear BK439; clear HB; have BK437 := n0_; have BK438 := n1_; have BK439 := n2_; have HB := n3_; clear n0_ n1_ n2_ n3_; (try clear hb); (try clear hb2); (try clear hk); (try clear hi)) | ((with_reducible refine zRq (N := 8) rfl ?_); (try (refine gate_guard zvv ?_; dsimp only)); refine zRn ?hg (N := 8) ?hd (cs := #[.int .u64 0, .int .u64 0]) (t := 42) ?hr ?_; (case hd => rfl); (case hg => rfl); (case hr => first | (go_simp; done) | (go_simp; rfl)); intro gb443 hg w66 hbox hb; have n0_ := Aside0.mk (zRc (g := gb437) (o := .cells #[.int .u64 x438000_3, .int .u64 x438001_3] 42 (0, 0)) (zqb BK437.out) hb); have n1_ := Aside0.mk (zRc (g := gb438) (o := .cells #[.int .u64 0, .int .u64 0] 42 (0, 0)) (zqb BK438.out) hb); have n2_ := Aside0.mk (zRc (g := gb439) (o := .cells #[.int .u64 x440000_3, .int .u64 x440001_3] 42 (0, 0)) (zqb BK439.out) hb); have n3_ := Aside0.mk (zRd zvf hb); have n4_ := Aside0.mk (hbox); have n5_ := Aside0.mk ((zv46 : w.heap.size ≤ gb443)); have n6_ := Aside0.mk ((zv46 : w.heap.size ≤ gb443)); have n7_ := Aside0.mk ((zv16 : gb437 ≠ gb443)); have n8_ := Aside0.mk ((zv17 : gb443 ≠ gb437)); have n9_ := Aside0.mk ((zv13 : gb438 ≠ gb443)); have n10_ := Aside0.mk ((zv14 : gb443 ≠ gb438)); have n11_ := Aside0.mk ((zv18 : gb439 ≠ gb443)); have n12_ := Aside0.mk ((zv19 : gb443 ≠ gb439)); clear BK437; clear BK438; clear BK439; clear HB; have BK437 := n0_; have BK438 := n1_; have BK439 := n2_; have HB := n3_; have BK443 := n4_; have GW443 := n5_; have GE443 := n6_; have NB437_443 := n7_; have NB443_437 := n8_; have NB438_443 := n9_; have NB443_438 := n10_; have NB439_443 := n11_; have NB443_439 := n12_; clear n0_ n1_ n2_ n3_ n4_ n5_ n6_ n7_ n8_ n9_ n10_ n11_ n12_; clear hb hbox hg; have hnb67 := NB443_437.out; have hnc67 := NB437_443.out; have hnb68 := NB443_438.out; have hnc68 := NB438_443.out; have hnb69 := NB443_439.out; have hnc69 := NB439_443.out; have hcz70_0 : w66.cell? ⟨gb443, 0, none⟩ = some (.int .u64 0) := (zRa BK443.out 0).trans rfl; have hcz70_1 : w66.cell? ⟨gb443, 1, none⟩ = some (.int .u64 0) := (zRa BK443.out 1).trans rfl; have hfz70_0 := zRb BK443.out 0; have hfz70_1 := zRb BK443.out 1))
             have n0_ : Aside0 (((w66.setCell ⟨gb443, 0, none⟩ (.int .u64 t440)).setCell ⟨gb443, 1, none⟩ (.int .u64 t441)).heap[gb437]? = some (.cells #[.int .u64 x438000_3, .int .u64 x438001_3] 42 (0, 0))) := ⟨zv36⟩
             have n1_ : Aside0 (((w66.setCell ⟨gb443, 0, none⟩ (.int .u64 t440)).setCell ⟨gb443, 1, none⟩ (.int .u64 t441)).heap[gb438]? = some (.cells #[.int .u64 0, .int .u64 0] 42 (0, 0))) := ⟨zv37⟩
             have n2_ : Aside0 (((w66.setCell ⟨gb443, 0, none⟩ (.int .u64 t440)).setCell ⟨gb443, 1, none⟩ (.int .u64 t441)).heap[gb439]? = some (.cells #[.int .u64 x440000_3, .int .u64 x440001_3] 42 (0, 0))) := ⟨zv38⟩
             have n3_ : Aside0 (((w66.setCell ⟨gb443, 0, none⟩ (.int .u64 t440)).setCell ⟨gb443, 1, none⟩ (.int .u64 t441)).heap[gb443]? = some (.cells #[.int .u64 t440, .int .u64 t441] 42 (0, 0))) := ⟨zv2r⟩
             have n4_ : Aside0 (Below w.heap.size w ((w66.setCell ⟨gb443, 0, none⟩ (.int .u64 t440)).setCell ⟨gb443, 1, none⟩ (.int .u64 t441))) := ⟨zvb⟩
             (try clear BK437)
             (try clear BK438)
             (try clear BK439)
             (try clear BK443)
             (try clear HB)
             generalize ((w66.setCell ⟨gb443, 0, none⟩ (.int .u64 t440)).setCell ⟨gb443, 1, none⟩ (.int .u64 t441)) = w71 at n0_ n1_ n2_ n3_ n4_ ⊢; have BK437 := n0_; have BK438 := n1_; have BK439 := n2_; have BK443 := n3_; have HB := n4_; clear n0_ n1_ n2_ n3_ n4_; have n0_ := Aside0.mk (zRk BK437.out); have n1_ := Aside0.mk (zRk BK438.out); have n2_ := Aside0.mk (zRk BK439.out); have n3_ := Aside0.mk (zRk BK443.out); have n4_ := Aside0.mk (zRj HB.out); clear BK437; clear BK438; clear BK439; clear BK443; clear HB; have BK437 := n0_; have BK438 := n1_; have BK439 := n2_; have BK443 := n3_; have HB := n4_; clear n0_ n1_ n2_ n3_ n4_; have p37 : 0 ≤ (x7_3 : Int) := of_decide_eq_true zv6; have q37 : x7_3 < (a0.size : Int) := of_decide_eq_true zv6; have hx37 := bt_at a0 x7_3; replace p37 := eq_true p37; replace q37 := eq_true q37; refine start_ (n := 14) (S := fun w' => w'.cell? ⟨gb443, 0, none⟩ = some (.int .u64 t440) ∧ w'.cell? ⟨gb443, 1, none⟩ = some (.int .u64 t441)) (ds := []) #[false, false, false, false, false, false, false, false, false, false, false, false, false, false] (by kernel_rfl) rfl rfl ⟨(zRa BK443.out 0).trans rfl, (zRa BK443.out 1).trans rfl⟩ (fun hHeld => ?_); refine with_tabW paymasterref02_Parse.tab16 paymasterref02_Parse.bits16 (fun HT_ HW_ => ?_); generalize w71.drew = w72 at BK437 BK438 BK439 BK443 HB hHeld ⊢; refine pure_ (i := 1) (N := some 61) (v := ?_) (a' := ?_) #[false, true, false, false, false, false, false, false, false, false, false, false, false, false] rfl rfl (any_of HT_.out (by kernel_rfl)) (fun _ _ _ h => h) (Or.inl ⟨zvv, ?_⟩) ?_ ?_; rotate_left
             ·intro w'; go_simp; with_reducible rfl
             rotate_left
             ·simp only [Act.put, zsa, zsb, zsc, i64_w, i32_w]; rfl
             refine pure_ (i := 2) (N := some 62) (v := ?_) (a' := ?_) #[false, true, true, false, false, false, false, false, false, false, false, false, false, false] rfl rfl (any_of HT_.out (by kernel_rfl)) (fun _ _ _ h => h) (Or.inl ⟨zvv, ?_⟩) ?_ ?_; rotate_left
             ·intro w'; go_simp; with_reducible rfl
             rotate_left
             ·simp only [Act.put, zsa, zsb, zsc, i64_w, i32_w]; rfl
             refine take_ (i := 0) (N := some 60) (v := ?_) (a' := ?_) #[true, true, true, false, false, false, false, false, false, false, false, false, false, false] rfl rfl (zRA HT_.out HW_.out (by kernel_rfl)) (fun _ _ _ h => h) (Or.inl ⟨zvv, ?_⟩) hHeld ?_ ?_; rotate_left
             ·rintro w' ⟨s0, s1⟩; go_simp; with_reducible rfl
             rotate_left
             ·simp only [Act.put, zsa, zsb, zsc, i64_w, i32_w]; rfl
             refine take_ (i := 3) (N := some 63) (v := ?_) (a' := ?_) #[true, true, true, true, false, false, false, false, false, false, false, false, false, false] rfl rfl (zRA HT_.out HW_.out (by kernel_rfl)) (fun _ _ _ h => h) (Or.inl ⟨zvv, ?_⟩) hHeld ?_ ?_; rotate_left
             ·rintro w' ⟨s0, s1⟩; go_simp; with_reducible rfl
             rotate_left
             ·simp only [Act.put, zsa, zsb, zsc, i64_w, i32_w]; rfl
             refine pure_ (i := 4) (N := some 64) (v := ?_) (a' := ?_) #[true, true, true, true, true, false, false, false, false, false, false, false, false, false] rfl rfl (any_of HT_.out (by kernel_rfl)) (fun _ _ _ h => h) (Or.inl ⟨zvv, ?_⟩) ?_ ?_; rotate_left
             ·intro w'; go_simp; with_reducible rfl
             rotate_left
             ·simp only [Act.put, zsa, zsb, zsc, i64_w, i32_w]; rfl
             refine pure_ (i := 5) (N := some 65) (v := ?_) (a' := ?_) #[true, true, true, true, true, true, false, false, false, false, false, false, false, false] rfl rfl (any_of HT_.out (by kernel_rfl)) (fun _ _ _ h => h) (Or.inl ⟨zvv, ?_⟩) ?_ ?_; rotate_left
             ·intro w'; go_simp; with_reducible rfl
             rotate_left
             ·simp only [Act.put, zsa, zsb, zsc, i64_w, i32_w]; rfl
             refine pure_ (i := 6) (N := some 66) (v := ?_) (a' := ?_) #[true, true, true, true, true, true, true, false, false, false, false, false, false, false] rfl rfl (any_of HT_.out (by kernel_rfl)) (fun _ _ _ h => h) (Or.inl ⟨zvv, ?_⟩) ?_ ?_; rotate_left
             ·intro w'; go_simp; with_reducible rfl
             rotate_left
             ·simp only [Act.put, zsa, zsb, zsc, i64_w, i32_w]; rfl
             refine join_ (σ := Nat) 2 #[true, true, true, true, true, true, true, true, true, true, true, true, false, false] (fun s_ => [(67, .tuple #[.agg #[.int .u64 t444, .int .u64 t445], .int .i64 t446]), (10, .pointer (some ⟨s_, 0, none⟩)), (59, .tuple #[.agg #[.int .u64 t444, .int .u64 t445], .int .i64 t446]), (68, .agg #[.int .u64 t444, .int .u64 t445]), (69, .int .i64 t446)]) (fun s_ w' => (w'.cell? ⟨gb443, 0, none⟩ = some (.int .u64 t440) ∧ w'.cell? ⟨gb443, 1, none⟩ = some (.int .u64 t441)) ∧ (w'.heap[gb437]? = some (.cells #[.int .u64 x438000_3, .int .u64 x438001_3] 42 (0, 0))) ∧ (w'.heap[gb438]? = some (.cells #[.int .u64 0, .int .u64 0] 42 (0, 0))) ∧ (w'.heap[gb439]? = some (.cells #[.int .u64 x440000_3, .int .u64 x440001_3] 42 (0, 0))) ∧ (w'.heap[gb443]? = some (.cells #[.int .u64 t440, .int .u64 t441] 42 (0, 0))) ∧ (w'.heap[s_]? = some (.cells #[.int .u64 0, .int .u64 0] 42 (0, 0))) ∧ (w.heap.size ≤ s_) ∧ (w.heap.size ≤ s_) ∧ (gb437 ≠ s_) ∧ (s_ ≠ gb437) ∧ (gb438 ≠ s_) ∧ (s_ ≠ gb438) ∧ (gb439 ≠ s_) ∧ (s_ ≠ gb439) ∧ (gb443 ≠ s_) ∧ (s_ ≠ gb443) ∧ (Below w.heap.size w w')) ?_ ?_; rotate_left
             ·intro hCont; refine two_ (i := 7) (j := 11) (Ni := some 67) (Nj := some 10) #[true, true, true, true, true, true, true, true, false, false, false, false, false, false] #[true, true, true, true, true, true, true, false, false, false, false, true, false, false] rfl rfl rfl rfl (two_of HT_.out (by kernel_rfl)) zvz zvz (fun K hK => ?_) (fun K hK => ?_)
              ·skip
               refine goes_ Tryd.func111 (by kernel_rfl) rfl #[.agg #[.int .u64 t440, .int .u64 t441], .agg #[.int .u64 0, .int .u64 (((bt a0 x7_3) - 48) % 256)]] zvv rfl rfl zv3 ?_; with_reducible refine (paymasterref01_Add.calls k3 t440 t441 0 (((bt a0 x7_3) - 48) % 256) t444 t445 t446 _ A38.out).mono ?_; rintro e w73 ⟨rfl, hb⟩; refine ⟨_, rfl, ?_⟩; have n0_ := Aside0.mk (zRc (g := gb437) (o := .cells #[.int .u64 x438000_3, .int .u64 x438001_3] 42 (0, 0)) (zqb BK437.out) hb); have n1_ := Aside0.mk (zRc (g := gb438) (o := .cells #[.int .u64 0, .int .u64 0] 42 (0, 0)) (zqb BK438.out) hb); have n2_ := Aside0.mk (zRc (g := gb439) (o := .cells #[.int .u64 x440000_3, .int .u64 x440001_3] 42 (0, 0)) (zqb BK439.out) hb); have n3_ := Aside0.mk (zRc (g := gb443) (o := .cells #[.int .u64 t440, .int .u64 t441] 42 (0, 0)) (zqb BK443.out) hb); have n4_ := Aside0.mk (zRd zvb hb); clear BK437; clear BK438; clear BK439; clear BK443; clear HB; have BK437 := n0_; have BK438 := n1_; have BK439 := n2_; have BK443 := n3_; have HB := n4_; clear n0_ n1_ n2_ n3_ n4_; (try clear hb)
               (try clear hb2)
               (try clear hk)
               (try clear hi)
               refine hK.out _ _ ⟨(zRa BK443.out 0).trans rfl, (zRa BK443.out 1).trans rfl⟩ (fun hHeld => ?_); clear hK K; refine norm_ (a' := ?_) ?_ ?_; rotate_left
               ·show Act.put _ (some 67) _ = _; simp only [Act.put, zsa, zsb, zsc, i64_w, i32_w]; rfl
               refine pure_ (i := 8) (N := some 59) (v := ?_) (a' := ?_) #[true, true, true, true, true, true, true, true, true, false, false, false, false, false] rfl rfl (any_of HT_.out (by kernel_rfl)) (fun _ _ _ h => h) (Or.inl ⟨zvv, ?_⟩) ?_ ?_; rotate_left
               ·intro w'; go_simp; with_reducible rfl
               rotate_left
               ·simp only [Act.put, zsa, zsb, zsc, i64_w, i32_w]; rfl
               refine pure_ (i := 9) (N := some 68) (v := ?_) (a' := ?_) #[true, true, true, true, true, true, true, true, true, true, false, false, false, false] rfl rfl (any_of HT_.out (by kernel_rfl)) (fun _ _ _ h => h) (Or.inl ⟨zvv, ?_⟩) ?_ ?_; rotate_left
               ·intro w'; go_simp; with_reducible rfl
               rotate_left
               ·simp only [Act.put, zsa, zsb, zsc, i64_w, i32_w]; rfl
               refine pure_ (i := 10) (N := some 69) (v := ?_) (a' := ?_) #[true, true, true, true, true, true, true, true, true, true, true, false, false, false] rfl rfl (any_of HT_.out (by kernel_rfl)) (fun _ _ _ h => h) (Or.inl ⟨zvv, ?_⟩) ?_ ?_; rotate_left
               ·intro w'; go_simp; with_reducible rfl
               rotate_left
               ·simp only [Act.put, zsa, zsb, zsc, i64_w, i32_w]; rfl
               refine one_ (i := 11) (N := some 10) #[true, true, true, true, true, true, true, true, true, true, true, true, false, false] rfl rfl (one_of HT_.out (by kernel_rfl)) zvz (fun K hK => ?_); refine box_step ?hg (N := 10) ?hd (cs := #[.int .u64 0, .int .u64 0]) (t := 42) ?hr ?_; (case hd => rfl); (case hg => rfl); (case hr => first | (go_simp; done) | (go_simp; rfl)); intro gb447 hg w74 hbox hb; have n0_ := Aside0.mk (zRc (g := gb437) (o := .cells #[.int .u64 x438000_3, .int .u64 x438001_3] 42 (0, 0)) (zqb BK437.out) hb); have n1_ := Aside0.mk (zRc (g := gb438) (o := .cells #[.int .u64 0, .int .u64 0] 42 (0, 0)) (zqb BK438.out) hb); have n2_ := Aside0.mk (zRc (g := gb439) (o := .cells #[.int .u64 x440000_3, .int .u64 x440001_3] 42 (0, 0)) (zqb BK439.out) hb); have n3_ := Aside0.mk (zRc (g := gb443) (o := .cells #[.int .u64 t440, .int .u64 t441] 42 (0, 0)) (zqb BK443.out) hb); have n4_ := Aside0.mk (zRd zvb hb); have n5_ := Aside0.mk (hbox); have n6_ := Aside0.mk ((zv43 : w.heap.size ≤ gb447)); have n7_ := Aside0.mk ((zv43 : w.heap.size ≤ gb447)); have n8_ := Aside0.mk ((zv16 : gb437 ≠ gb447)); have n9_ := Aside0.mk ((zv17 : gb447 ≠ gb437)); have n10_ := Aside0.mk ((zv13 : gb438 ≠ gb447)); have n11_ := Aside0.mk ((zv14 : gb447 ≠ gb438)); have n12_ := Aside0.mk ((zv18 : gb439 ≠ gb447)); have n13_ := Aside0.mk ((zv19 : gb447 ≠ gb439)); have n14_ := Aside0.mk ((zv23 : gb443 ≠ gb447)); have n15_ := Aside0.mk ((zv24 : gb447 ≠ gb443)); clear BK437; clear BK438; clear BK439; clear BK443; clear HB; have BK437 := n0_; have BK438 := n1_; have BK439 := n2_; have BK443 := n3_; have HB := n4_; have BK447 := n5_; have GW447 := n6_; have GE447 := n7_; have NB437_447 := n8_; have NB447_437 := n9_; have NB438_447 := n10_; have NB447_438 := n11_; have NB439_447 := n12_; have NB447_439 := n13_; have NB443_447 := n14_; have NB447_443 := n15_; clear n0_ n1_ n2_ n3_ n4_ n5_ n6_ n7_ n8_ n9_ n10_ n11_ n12_ n13_ n14_ n15_; clear hb hbox hg; refine hK.out _ _ ⟨(zRa BK443.out 0).trans rfl, (zRa BK443.out 1).trans rfl⟩ (fun hHeld => ?_); clear hK K; refine norm_ (a' := ?_) ?_ ?_; rotate_left
               ·show Act.put _ (some 10) _ = _; simp only [Act.put, zsa, zsb, zsc, i64_w, i32_w]; rfl
               exact norm_ zv1b (hCont (gb447) _ ⟨hHeld, (zqb BK437.out), (zqb BK438.out), (zqb BK439.out), (zqb BK443.out), (zqb BK447.out), GW447.out, GE447.out, NB437_447.out, NB447_437.out, NB438_447.out, NB447_438.out, NB439_447.out, NB447_439.out, NB443_447.out, NB447_443.out, zvi⟩)
              ·skip
               refine box_step ?hg (N := 10) ?hd (cs := #[.int .u64 0, .int .u64 0]) (t := 42) ?hr ?_; (case hd => rfl); (case hg => rfl); (case hr => first | (go_simp; done) | (go_simp; rfl)); intro gb447 hg w73 hbox hb; have n0_ := Aside0.mk (zRc (g := gb437) (o := .cells #[.int .u64 x438000_3, .int .u64 x438001_3] 42 (0, 0)) (zqb BK437.out) hb); have n1_ := Aside0.mk (zRc (g := gb438) (o := .cells #[.int .u64 0, .int .u64 0] 42 (0, 0)) (zqb BK438.out) hb); have n2_ := Aside0.mk (zRc (g := gb439) (o := .cells #[.int .u64 x440000_3, .int .u64 x440001_3] 42 (0, 0)) (zqb BK439.out) hb); have n3_ := Aside0.mk (zRc (g := gb443) (o := .cells #[.int .u64 t440, .int .u64 t441] 42 (0, 0)) (zqb BK443.out) hb); have n4_ := Aside0.mk (zRd zvb hb); have n5_ := Aside0.mk (hbox); have n6_ := Aside0.mk ((zv43 : w.heap.size ≤ gb447)); have n7_ := Aside0.mk ((zv43 : w.heap.size ≤ gb447)); have n8_ := Aside0.mk ((zv16 : gb437 ≠ gb447)); have n9_ := Aside0.mk ((zv17 : gb447 ≠ gb437)); have n10_ := Aside0.mk ((zv13 : gb438 ≠ gb447)); have n11_ := Aside0.mk ((zv14 : gb447 ≠ gb438)); have n12_ := Aside0.mk ((zv18 : gb439 ≠ gb447)); have n13_ := Aside0.mk ((zv19 : gb447 ≠ gb439)); have n14_ := Aside0.mk ((zv23 : gb443 ≠ gb447)); have n15_ := Aside0.mk ((zv24 : gb447 ≠ gb443)); clear BK437; clear BK438; clear BK439; clear BK443; clear HB; have BK437 := n0_; have BK438 := n1_; have BK439 := n2_; have BK443 := n3_; have HB := n4_; have BK447 := n5_; have GW447 := n6_; have GE447 := n7_; have NB437_447 := n8_; have NB447_437 := n9_; have NB438_447 := n10_; have NB447_438 := n11_; have NB439_447 := n12_; have NB447_439 := n13_; have NB443_447 := n14_; have NB447_443 := n15_; clear n0_ n1_ n2_ n3_ n4_ n5_ n6_ n7_ n8_ n9_ n10_ n11_ n12_ n13_ n14_ n15_; clear hb hbox hg; refine hK.out _ _ ⟨(zRa BK443.out 0).trans rfl, (zRa BK443.out 1).trans rfl⟩ (fun hHeld => ?_); clear hK K; refine norm_ (a' := ?_) ?_ ?_; rotate_left
               ·show Act.put _ (some 10) _ = _; simp only [Act.put, zsa, zsb, zsc, i64_w, i32_w]; rfl
               refine one_ (i := 7) (N := some 67) #[true, true, true, true, true, true, true, true, false, false, false, true, false, false] rfl rfl (one_of HT_.out (by kernel_rfl)) zvz (fun K hK => ?_); refine goes_ Tryd.func111 (by kernel_rfl) rfl #[.agg #[.int .u64 t440, .int .u64 t441], .agg #[.int .u64 0, .int .u64 (((bt a0 x7_3) - 48) % 256)]] zvv rfl rfl zv3 ?_; with_reducible refine (paymasterref01_Add.calls k3 t440 t441 0 (((bt a0 x7_3) - 48) % 256) t444 t445 t446 _ A38.out).mono ?_; rintro e w74 ⟨rfl, hb⟩; refine ⟨_, rfl, ?_⟩; have n0_ := Aside0.mk (zRc (g := gb437) (o := .cells #[.int .u64 x438000_3, .int .u64 x438001_3] 42 (0, 0)) (zqb BK437.out) hb); have n1_ := Aside0.mk (zRc (g := gb438) (o := .cells #[.int .u64 0, .int .u64 0] 42 (0, 0)) (zqb BK438.out) hb); have n2_ := Aside0.mk (zRc (g := gb439) (o := .cells #[.int .u64 x440000_3, .int .u64 x440001_3] 42 (0, 0)) (zqb BK439.out) hb); have n3_ := Aside0.mk (zRc (g := gb443) (o := .cells #[.int .u64 t440, .int .u64 t441] 42 (0, 0)) (zqb BK443.out) hb); have n4_ := Aside0.mk (zRc (g := gb447) (o := .cells #[.int .u64 0, .int .u64 0] 42 (0, 0)) (zqb BK447.out) hb); have n5_ := Aside0.mk (zRd zvi hb); clear BK437; clear BK438; clear BK439; clear BK443; clear BK447; clear HB; have BK437 := n0_; have BK438 := n1_; have BK439 := n2_; have BK443 := n3_; have BK447 := n4_; have HB := n5_; clear n0_ n1_ n2_ n3_ n4_ n5_; (try clear hb)
               (try clear hb2)
               (try clear hk)
               (try clear hi)
               refine hK.out _ _ ⟨(zRa BK443.out 0).trans rfl, (zRa BK443.out 1).trans rfl⟩ (fun hHeld => ?_); clear hK K; refine norm_ (a' := ?_) ?_ ?_; rotate_left
               ·show Act.put _ (some 67) _ = _; simp only [Act.put, zsa, zsb, zsc, i64_w, i32_w]; rfl
               refine pure_ (i := 8) (N := some 59) (v := ?_) (a' := ?_) #[true, true, true, true, true, true, true, true, true, false, false, true, false, false] rfl rfl (any_of HT_.out (by kernel_rfl)) (fun _ _ _ h => h) (Or.inl ⟨zvv, ?_⟩) ?_ ?_; rotate_left
               ·intro w'; go_simp; with_reducible rfl
               rotate_left
               ·simp only [Act.put, zsa, zsb, zsc, i64_w, i32_w]; rfl
               refine pure_ (i := 9) (N := some 68) (v := ?_) (a' := ?_) #[true, true, true, true, true, true, true, true, true, true, false, true, false, false] rfl rfl (any_of HT_.out (by kernel_rfl)) (fun _ _ _ h => h) (Or.inl ⟨zvv, ?_⟩) ?_ ?_; rotate_left
               ·intro w'; go_simp; with_reducible rfl
               rotate_left
               ·simp only [Act.put, zsa, zsb, zsc, i64_w, i32_w]; rfl
               refine pure_ (i := 10) (N := some 69) (v := ?_) (a' := ?_) #[true, true, true, true, true, true, true, true, true, true, true, true, false, false] rfl rfl (any_of HT_.out (by kernel_rfl)) (fun _ _ _ h => h) (Or.inl ⟨zvv, ?_⟩) ?_ ?_; rotate_left
               ·intro w'; go_simp; with_reducible rfl
               rotate_left
               ·simp only [Act.put, zsa, zsb, zsc, i64_w, i32_w]; rfl
               exact norm_ zv1b (hCont (gb447) _ ⟨hHeld, (zqb BK437.out), (zqb BK438.out), (zqb BK439.out), (zqb BK443.out), (zqb BK447.out), GW447.out, GE447.out, NB437_447.out, NB447_437.out, NB438_447.out, NB447_438.out, NB439_447.out, NB447_439.out, NB443_447.out, NB447_443.out, zvi⟩)
             rintro gb447 w75 ⟨hS_, h0_, h1_, h2_, h3_, h4_, h5_, h6_, h7_, h8_, h9_, h10_, h11_, h12_, h13_, h14_, h15_⟩; have n0_ : Aside0 (w75.heap[gb437]? = some (.cells #[.int .u64 x438000_3, .int .u64 x438001_3] 42 (0, 0))) := ⟨h0_⟩
             have n1_ : Aside0 (w75.heap[gb438]? = some (.cells #[.int .u64 0, .int .u64 0] 42 (0, 0))) := ⟨h1_⟩
             have n2_ : Aside0 (w75.heap[gb439]? = some (.cells #[.int .u64 x440000_3, .int .u64 x440001_3] 42 (0, 0))) := ⟨h2_⟩
             have n3_ : Aside0 (w75.heap[gb443]? = some (.cells #[.int .u64 t440, .int .u64 t441] 42 (0, 0))) := ⟨h3_⟩
             have n4_ : Aside0 (w75.heap[gb447]? = some (.cells #[.int .u64 0, .int .u64 0] 42 (0, 0))) := ⟨h4_⟩
             have n5_ : Aside0 (w.heap.size ≤ gb447) := ⟨h5_⟩
             have n6_ : Aside0 (w.heap.size ≤ gb447) := ⟨h6_⟩
             have n7_ : Aside0 (gb437 ≠ gb447) := ⟨h7_⟩
             have n8_ : Aside0 (gb447 ≠ gb437) := ⟨h8_⟩
             have n9_ : Aside0 (gb438 ≠ gb447) := ⟨h9_⟩
             have n10_ : Aside0 (gb447 ≠ gb438) := ⟨h10_⟩
             have n11_ : Aside0 (gb439 ≠ gb447) := ⟨h11_⟩
             have n12_ : Aside0 (gb447 ≠ gb439) := ⟨h12_⟩
             have n13_ : Aside0 (gb443 ≠ gb447) := ⟨h13_⟩
             have n14_ : Aside0 (gb447 ≠ gb443) := ⟨h14_⟩
             have n15_ : Aside0 (Below w.heap.size w w75) := ⟨h15_⟩
             clear BK437; clear BK438; clear BK439; clear BK443; clear HB; clear h0_ h1_ h2_ h3_ h4_ h5_ h6_ h7_ h8_ h9_ h10_ h11_ h12_ h13_ h14_ h15_; have BK437 := n0_; have BK438 := n1_; have BK439 := n2_; have BK443 := n3_; have BK447 := n4_; have GW447 := n5_; have GE447 := n6_; have NB437_447 := n7_; have NB447_437 := n8_; have NB438_447 := n9_; have NB447_438 := n10_; have NB439_447 := n11_; have NB447_439 := n12_; have NB443_447 := n13_; have NB447_443 := n14_; have HB := n15_; clear n0_ n1_ n2_ n3_ n4_ n5_ n6_ n7_ n8_ n9_ n10_ n11_ n12_ n13_ n14_ n15_; have hHeld : w75.cell? ⟨gb443, 0, none⟩ = some (.int .u64 t440) ∧ w75.cell? ⟨gb443, 1, none⟩ = some (.int .u64 t441) := hS_; refine norm_ (a' := ?_) ?_ ?_; rotate_left
             ·simp only [putAll, Act.put, zsa, zsb, zsc]; rfl
             refine one_ (i := 12) (N := none) #[true, true, true, true, true, true, true, true, true, true, true, true, true, false] rfl rfl (one_of HT_.out (by kernel_rfl)) zvz (fun K hK => ?_); have hs76 : w75.cell? ⟨gb447, 0, none⟩ = some (.int .u64 0) := (zRa BK447.out 0).trans rfl; have hfs76 := zRb BK447.out 0; have hns76_0 := NB437_447.out; have hns76_1 := NB438_447.out; have hns76_2 := NB439_447.out; have hns76_3 := NB443_447.out; have hms76_0 := NB447_437.out; have hms76_1 := NB447_438.out; have hms76_2 := NB447_439.out; have hms76_3 := NB447_443.out; have hs77 : w75.cell? ⟨gb447, 1, none⟩ = some (.int .u64 0) := (zRa BK447.out 1).trans rfl; have hfs77 := zRb BK447.out 1; have hns77_0 := NB437_447.out; have hns77_1 := NB438_447.out; have hns77_2 := NB439_447.out; have hns77_3 := NB443_447.out; have hms77_0 := NB447_437.out; have hms77_1 := NB447_438.out; have hms77_2 := NB447_439.out; have hms77_3 := NB447_443.out; refine skip_ (w1 := ?_) zvv rfl ?_ ?_; rotate_left
             ·go_simp; rfl
             refine hK.out _ _ ⟨((cell_far (p := ⟨gb447, _, none⟩) NB443_447.out _).trans (((cell_far (p := ⟨gb447, _, none⟩) NB443_447.out _).trans (hHeld.1)))), ((cell_far (p := ⟨gb447, _, none⟩) NB443_447.out _).trans (((cell_far (p := ⟨gb447, _, none⟩) NB443_447.out _).trans (hHeld.2))))⟩ (fun hHeld => ?_); clear hK K; refine pure_ (i := 13) (N := some 11) (v := ?_) (a' := ?_) #[true, true, true, true, true, true, true, true, true, true, true, true, true, true] rfl rfl (any_of HT_.out (by kernel_rfl)) (fun _ _ _ h => h) (Or.inl ⟨zvv, ?_⟩) ?_ ?_; rotate_left
             ·intro w'; go_simp; with_reducible rfl
             rotate_left
             ·simp only [Act.put, zsa, zsb, zsc, i64_w, i32_w]; rfl
             refine done_ (done_of HT_.out (by kernel_rfl)) ?_; have hnb78 := NB438_437.out; have hnc78 := NB437_438.out; have hnb79 := NB438_447.out; have hnc79 := NB447_438.out; have hcz80_0 : w75.cell? ⟨gb438, 0, none⟩ = some (.int .u64 0) := (zRa BK438.out 0).trans rfl; have hcz80_1 : w75.cell? ⟨gb438, 1, none⟩ = some (.int .u64 0) := (zRa BK438.out 1).trans rfl; have hfz80_0 := zRb BK438.out 0; have hfz80_1 := zRb BK438.out 1; have hnb81 := NB437_447.out; have hnc81 := NB447_437.out; have hcz82_0 : w75.cell? ⟨gb437, 0, none⟩ = some (.int .u64 x438000_3) := (zRa BK437.out 0).trans rfl; have hcz82_1 : w75.cell? ⟨gb437, 1, none⟩ = some (.int .u64 x438001_3) := (zRa BK437.out 1).trans rfl; have hfz82_0 := zRb BK437.out 0; have hfz82_1 := zRb BK437.out 1; try go_wp2
             refine bodyPost_ret (zRu rfl _ _ gb437 42 #[.int .u64 0, .int .u64 0] (0, 0) _ rfl (by refine zqb ?_; refine zRm (cs := #[.int .u64 0, .int .u64 x438001_3]) ?_ 1 _ rfl; refine zqb ?_; refine zRm (cs := #[.int .u64 x438000_3, .int .u64 x438001_3]) ?_ 0 _ rfl; refine zqb ?_; refine zRr ?_ NB437_447.out _; refine zqb ?_; refine zRr ?_ NB437_447.out _; refine zqb ?_; exact BK437.out) Tryd.underlying42 rfl (by kernel_rfl)) rfl ?_; exact ⟨zv8, zvi⟩
           ·rw [if_neg c36] at H; exact absurd H zv10
          ·rw [if_neg c35] at H; have c35b0 : (t442 == 0) = false := beq_eq_false_iff_ne.mpr c35; have c35b1 : (t442 != 0) = true := bne_iff_ne.mpr c35; simp only [Option.some.injEq, Prod.mk.injEq] at H; obtain ⟨rfl, rfl, rfl⟩ := H; have hnb83 := NB439_437.out; have hnc83 := NB437_439.out; have hnb84 := NB439_438.out; have hnc84 := NB438_439.out; have hcz85_0 : wr.cell? ⟨gb439, 0, none⟩ = some (.int .u64 x440000_3) := (zRa BK439.out 0).trans rfl; have hcz85_1 : wr.cell? ⟨gb439, 1, none⟩ = some (.int .u64 x440001_3) := (zRa BK439.out 1).trans rfl; have hfz85_0 := zRb BK439.out 0; have hfz85_1 := zRb BK439.out 1
           go_wp2_with (first | ((with_reducible refine zRl (f := 110) rfl ?_); refine goesL_ (some 53) rfl rfl Tryd.func110 (by kernel_rfl) rfl #[.agg #[.int .u64 x440000_3, .int .u64 x440001_3], .int .u64 10] rfl zv3 ?_; (with_reducible refine (paymasterref01_Times.calls k3 x440000_3 x440001_3 10 t440 t441 t442 _ A34.out).mono ?_); rintro e w86 ⟨rfl, hb⟩; refine ⟨_, rfl, ?_⟩; have n0_ := Aside0.mk (zRc (g := gb437) (o := .cells #[.int .u64 x438000_3, .int .u64 x438001_3] 42 (0, 0)) (zqb BK437.out) hb); have n1_ := Aside0.mk (zRc (g := gb438) (o := .cells #[.int .u64 0, .int .u64 0] 42 (0, 0)) (zqb BK438.out) hb); have n2_ := Aside0.mk (zRc (g := gb439) (o := .cells #[.int .u64 x440000_3, .int .u64 x440001_3] 42 (0, 0)) (zqb BK439.out) hb); have n3_ := Aside0.mk (zRd zvf hb); clear BK437; clear BK438; clear BK439; clear HB; have BK437 := n0_; have BK438 := n1_; have BK439 := n2_; have HB := n3_; clear n0_ n1_ n2_ n3_; (try clear hb); (try clear hb2); (try clear hk); (try clear hi)) | ((with_reducible refine zRq (N := 8) rfl ?_); (try (refine gate_guard zvv ?_; dsimp only)); refine zRn ?hg (N := 8) ?hd (cs := #[.int .u64 0, .int .u64 0]) (t := 42) ?hr ?_; (case hd => rfl); (case hg => rfl); (case hr => first | (go_simp; done) | (go_simp; rfl)); intro gb443 hg w87 hbox hb; have n0_ := Aside0.mk (zRc (g := gb437) (o := .cells #[.int .u64 x438000_3, .int .u64 x438001_3] 42 (0, 0)) (zqb BK437.out) hb); have n1_ := Aside0.mk (zRc (g := gb438) (o := .cells #[.int .u64 0, .int .u64 0] 42 (0, 0)) (zqb BK438.out) hb); have n2_ := Aside0.mk (zRc (g := gb439) (o := .cells #[.int .u64 x440000_3, .int .u64 x440001_3] 42 (0, 0)) (zqb BK439.out) hb); have n3_ := Aside0.mk (zRd zvf hb); have n4_ := Aside0.mk (hbox); have n5_ := Aside0.mk ((zv46 : w.heap.size ≤ gb443)); have n6_ := Aside0.mk ((zv46 : w.heap.size ≤ gb443)); have n7_ := Aside0.mk ((zv16 : gb437 ≠ gb443)); have n8_ := Aside0.mk ((zv17 : gb443 ≠ gb437)); have n9_ := Aside0.mk ((zv13 : gb438 ≠ gb443)); have n10_ := Aside0.mk ((zv14 : gb443 ≠ gb438)); have n11_ := Aside0.mk ((zv18 : gb439 ≠ gb443)); have n12_ := Aside0.mk ((zv19 : gb443 ≠ gb439)); clear BK437; clear BK438; clear BK439; clear HB; have BK437 := n0_; have BK438 := n1_; have BK439 := n2_; have HB := n3_; have BK443 := n4_; have GW443 := n5_; have GE443 := n6_; have NB437_443 := n7_; have NB443_437 := n8_; have NB438_443 := n9_; have NB443_438 := n10_; have NB439_443 := n11_; have NB443_439 := n12_; clear n0_ n1_ n2_ n3_ n4_ n5_ n6_ n7_ n8_ n9_ n10_ n11_ n12_; clear hb hbox hg; have hnb88 := NB443_437.out; have hnc88 := NB437_443.out; have hnb89 := NB443_438.out; have hnc89 := NB438_443.out; have hnb90 := NB443_439.out; have hnc90 := NB439_443.out; have hcz91_0 : w87.cell? ⟨gb443, 0, none⟩ = some (.int .u64 0) := (zRa BK443.out 0).trans rfl; have hcz91_1 : w87.cell? ⟨gb443, 1, none⟩ = some (.int .u64 0) := (zRa BK443.out 1).trans rfl; have hfz91_0 := zRb BK443.out 0; have hfz91_1 := zRb BK443.out 1; have hnb92 := NB438_437.out; have hnc92 := NB437_438.out; have hcz93_0 : w87.cell? ⟨gb438, 0, none⟩ = some (.int .u64 0) := (zRa BK438.out 0).trans rfl; have hcz93_1 : w87.cell? ⟨gb438, 1, none⟩ = some (.int .u64 0) := (zRa BK438.out 1).trans rfl; have hfz93_0 := zRb BK438.out 0; have hfz93_1 := zRb BK438.out 1; have hcz94_0 : w87.cell? ⟨gb437, 0, none⟩ = some (.int .u64 x438000_3) := (zRa BK437.out 0).trans rfl; have hcz94_1 : w87.cell? ⟨gb437, 1, none⟩ = some (.int .u64 x438001_3) := (zRa BK437.out 1).trans rfl; have hfz94_0 := zRb BK437.out 0; have hfz94_1 := zRb BK437.out 1))
           refine bodyPost_ret (zRu rfl _ _ gb437 42 #[.int .u64 0, .int .u64 0] (0, 0) _ rfl (by refine zqb ?_; refine zRm (cs := #[.int .u64 0, .int .u64 x438001_3]) ?_ 1 _ rfl; refine zqb ?_; refine zRm (cs := #[.int .u64 x438000_3, .int .u64 x438001_3]) ?_ 0 _ rfl; refine zqb ?_; refine zRr ?_ NB437_443.out _; refine zqb ?_; refine zRr ?_ NB437_443.out _; refine zqb ?_; exact BK437.out) Tryd.underlying42 rfl (by kernel_rfl)) rfl ?_; exact ⟨zv8, zvb⟩
         ·rw [if_neg c33] at H; have c33b0 : decide (x7_3 < (a0.size : Int)) = false := decide_eq_false c33; clear c33; simp only [Option.some.injEq, Prod.mk.injEq] at H; obtain ⟨rfl, rfl, rfl⟩ := H; have hnb95 := NB439_437.out; have hnc95 := NB437_439.out; have hnb96 := NB439_438.out; have hnc96 := NB438_439.out; have hcz97_0 : wr.cell? ⟨gb439, 0, none⟩ = some (.int .u64 x440000_3) := (zRa BK439.out 0).trans rfl; have hcz97_1 : wr.cell? ⟨gb439, 1, none⟩ = some (.int .u64 x440001_3) := (zRa BK439.out 1).trans rfl; have hfz97_0 := zRb BK439.out 0; have hfz97_1 := zRb BK439.out 1; have hnb98 := NB437_438.out; have hnc98 := NB438_437.out; have hcz99_0 : wr.cell? ⟨gb437, 0, none⟩ = some (.int .u64 x438000_3) := (zRa BK437.out 0).trans rfl; have hcz99_1 : wr.cell? ⟨gb437, 1, none⟩ = some (.int .u64 x438001_3) := (zRa BK437.out 1).trans rfl; have hfz99_0 := zRb BK437.out 0; have hfz99_1 := zRb BK437.out 1; go_wp2; refine bodyPost_ret (zRu rfl _ _ gb437 42 #[.int .u64 x440000_3, .int .u64 x440001_3] (0, 0) _ rfl (by refine zqb ?_; refine zRm (cs := #[.int .u64 x440000_3, .int .u64 x438001_3]) ?_ 1 _ rfl; refine zqb ?_; refine zRm (cs := #[.int .u64 x438000_3, .int .u64 x438001_3]) ?_ 0 _ rfl; refine zqb ?_; exact BK437.out) Tryd.underlying42 rfl (by kernel_rfl)) rfl ?_; exact ⟨zv8, zvf⟩
end Go.Proofs.YtpkjpiphjdpegaaDoor.P
