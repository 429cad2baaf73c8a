/- A program of this session wrote this text out of the session's own texts. (part 5 of 5) -/
import Derived.Test.YtpkjpiphjdpegaaCDecimalDigits4
namespace Go.Proofs.Ytpkjpiphjdpegaa.P
open Go.RowKit Go.Proofs.YtpkjpiphjdpegaaW.PrintWords Go.Proofs.YtpkjpiphjdpegaaW.PrintLast Go.Proofs.YtpkjpiphjdpegaaW.PrintMore
attribute [local go_sem] max2_int min2_int max_two min_two max_three min_three max_four min_four
set_option linter.unusedVariables false
set_option linter.unusedSimpArgs false
attribute [local go_sem high] eqA25
def paymasterref02_Ten.l0 : Nat → Int → ByteArray → Int → Option (Int × Int × Int)
  | 0, _, _, _ => none
  | k + 1, x0, x4, x5 => if x5 < x0 then (if x5 < 50 then (if x4.size + 1 ≤ 9223372036854775807 then (paymasterref02_Ten.l0 k x0 (x4 ++ (⟨#[48]⟩ : ByteArray)) (wrap64 (x5 + 1))) else (none)) else ((paymasterref02_Parse.f k x4).bind fun bt1016 => (some (bt1016.1, bt1016.2.1, bt1016.2.2)))) else ((paymasterref02_Parse.f k x4).bind fun bt1019 => (some (bt1019.1, bt1019.2.1, bt1019.2.2)))
def paymasterref02_Ten.f (k : Nat) (a0 : Int) : Option (Int × Int × Int) := if a0 < 0 then (some (0, 0, 20)) else (paymasterref02_Ten.l0 k a0 (⟨#[49]⟩ : ByteArray) 0)
set_option maxHeartbeats 8000000 in
set_option maxRecDepth 100000 in
theorem paymasterref02_Ten.calls (k : Nat) (a0 : Int) (r1 : Int) (r2 : Int) (r3 : Int) (w : World) (h : paymasterref02_Ten.f k a0 = some (r1, r2, r3)) :
    Calls Try.prog 61 #[.int .i64 a0] w fun e w' => e = .returned (.tuple #[.agg #[.int .u64 r1, .int .u64 r2], .int .i64 r3]) ∧ Below w.heap.size w w' := by
  have hu25 := Try.underlying25
  have HB := Aside0.mk (Below.refl w.heap.size w)
  have H : (if a0 < 0 then (some (0, 0, 20)) else (paymasterref02_Ten.l0 k a0 (⟨#[49]⟩ : ByteArray) 0)) = some (r1, r2, r3) := h
  clear h
  by_cases c2 : a0 < 0
  · rw [if_pos c2] at H
    have c2b0 : decide (a0 < 0) = true := decide_eq_true c2
    clear c2
    simp only [Option.some.injEq, Prod.mk.injEq] at H
    obtain ⟨rfl, rfl, rfl⟩ := H
    go_enter Try.func61, Try.ntmps61
    go_wp2_with (first | ((with_reducible refine gate_dst (N := 2) rfl ?_); refine box_event ?hg (N := 2) ?hd (cs := #[.int .u64 0, .int .u64 0]) (t := 25) ?hr ?_; (case hd => rfl); (case hg => rfl); (case hr => first | (go_simp; done) | (go_simp; rfl)); intro gb1015 hg w3 hbox hb; have n0_ := Aside0.mk (below_step (by repeat (first | (with_reducible first | exact HB.out | apply below_alloc | apply pw_below_drewN | apply below_drew1) | exact HB.out)) hb); have n1_ := Aside0.mk (hbox); have n2_ := Aside0.mk ((by rw [hg]; exact (below_size (by repeat (first | (with_reducible first | exact HB.out | apply below_alloc | apply pw_below_drewN | apply below_drew1) | exact HB.out))) : w.heap.size ≤ gb1015)); have n3_ := Aside0.mk ((by rw [hg]; exact (below_size (by repeat (first | (with_reducible first | exact HB.out | apply below_alloc | apply pw_below_drewN | apply below_drew1) | exact HB.out))) : w.heap.size ≤ gb1015)); clear HB; have HB := n0_; have BK1015 := n1_; have GW1015 := n2_; have GE1015 := n3_; clear n0_ n1_ n2_ n3_; clear hb hbox hg; have hcz4_0 : w3.cell? ⟨gb1015, 0, none⟩ = some (.int .u64 0) := (blk_cell BK1015.out 0).trans rfl; have hcz4_1 : w3.cell? ⟨gb1015, 1, none⟩ = some (.int .u64 0) := (blk_cell BK1015.out 1).trans rfl; have hfz4_0 := blk_frozen BK1015.out 0; have hfz4_1 := blk_frozen BK1015.out 1))
    refine bodyPost_ret (results_ct rfl _ _ gb1015 25 #[.int .u64 0, .int .u64 0] (0, 0) _ rfl (by (with_reducible repeat (first | refine blk_drewN ?_ _ | refine blk_drew ?_ | refine blk_alloc ?_ _)); refine blk_put (cs := #[.int .u64 0, .int .u64 0]) ?_ 1 _ rfl; (with_reducible repeat (first | refine blk_drewN ?_ _ | refine blk_drew ?_ | refine blk_alloc ?_ _)); refine blk_put (cs := #[.int .u64 0, .int .u64 0]) ?_ 0 _ rfl; (with_reducible repeat (first | refine blk_drewN ?_ _ | refine blk_drew ?_ | refine blk_alloc ?_ _)); exact BK1015.out) Try.underlying25 rfl (by kernel_rfl)) rfl ?_
    exact ⟨by first | rfl | (simp [errW_none, errW_some] <;> rfl) | (simp [*, errW_none, errW_some] <;> rfl), by repeat (first | (with_reducible first | exact HB.out | apply below_alloc | apply pw_below_drewN | apply below_drew1 | refine below_set ?_ GE1015.out) | exact HB.out)⟩
  · rw [if_neg c2] at H
    have c2b0 : decide (a0 < 0) = false := decide_eq_false c2
    clear c2
    have H' := Aside0.mk H
    clear H
    go_enter Try.func61, Try.ntmps61
    go_wp2_with (first | ((with_reducible refine gate_dst (N := 2) rfl ?_); refine box_event ?hg (N := 2) ?hd (cs := #[.int .u64 0, .int .u64 0]) (t := 25) ?hr ?_; (case hd => rfl); (case hg => rfl); (case hr => first | (go_simp; done) | (go_simp; rfl)); intro gb1015 hg w5 hbox hb; have n0_ := Aside0.mk (below_step (by repeat (first | (with_reducible first | exact HB.out | apply below_alloc | apply pw_below_drewN | apply below_drew1) | exact HB.out)) hb); have n1_ := Aside0.mk (hbox); have n2_ := Aside0.mk ((by rw [hg]; exact (below_size (by repeat (first | (with_reducible first | exact HB.out | apply below_alloc | apply pw_below_drewN | apply below_drew1) | exact HB.out))) : w.heap.size ≤ gb1015)); have n3_ := Aside0.mk ((by rw [hg]; exact (below_size (by repeat (first | (with_reducible first | exact HB.out | apply below_alloc | apply pw_below_drewN | apply below_drew1) | exact HB.out))) : w.heap.size ≤ gb1015)); clear HB; have HB := n0_; have BK1015 := n1_; have GW1015 := n2_; have GE1015 := n3_; clear n0_ n1_ n2_ n3_; clear hb hbox hg))
    go_loopg [4, 5] k (fun kq v4 v5 w' => ∃ (x4_1 : ByteArray) (x5_1 : Int), v4 = .string x4_1 ∧ v5 = .int .i64 x5_1 ∧ Aside0 (paymasterref02_Ten.l0 kq a0 x4_1 x5_1 = some (r1, r2, r3)) ∧ Aside0 (kq ≤ k) ∧ Aside0 (w'.heap[gb1015]? = some (.cells #[.int .u64 0, .int .u64 0] 25 (0, 0))) ∧ Aside0 (Below w.heap.size w w'))
    case atStart => exact ⟨((⟨#[49]⟩ : ByteArray)), (0), (by first | rfl | (simp; done) | (simp [*]; done)), (by first | rfl | (simp; done) | (simp [*]; done)), H', ⟨Nat.le_refl _⟩, ⟨by (with_reducible repeat (first | refine blk_drewN ?_ _ | refine blk_drew ?_ | refine blk_alloc ?_ _)); exact BK1015.out⟩, ⟨by repeat (first | (with_reducible first | exact HB.out | apply below_alloc | apply pw_below_drewN | apply below_drew1 | refine below_set ?_ GE1015.out) | exact HB.out)⟩⟩
    case round =>
      clear H'
      try clear c2
      try clear c2b0
      try clear p2
      try clear hcz4_0
      try clear hcz4_1
      try clear hfz4_0
      try clear hfz4_1
      obtain ⟨x4_1, x5_1, rfl, rfl, HA, HK1, BK1015, HB⟩ := hrel
      cases gk with
      | zero => exact absurd HA.out (by simp [paymasterref02_Ten.l0])
      | succ k1 =>
        have H := HA.out
        clear HA
        simp only [paymasterref02_Ten.l0] at H
        by_cases c6 : x5_1 < a0
        · rw [if_pos c6] at H
          have c6b0 : decide (x5_1 < a0) = true := decide_eq_true c6
          clear c6
          by_cases c7 : x5_1 < 50
          · rw [if_pos c7] at H
            have c7b0 : decide (x5_1 < 50) = true := decide_eq_true c7
            clear c7
            by_cases c8 : x4_1.size + 1 ≤ 9223372036854775807
            · rw [if_pos c8] at H
              have c8b0 := eq_true c8
              have c8b1 : decide (x4_1.size + 1 ≤ 9223372036854775807) = true := decide_eq_true c8
              try have c8b2 : (9223372036854775807 < x4_1.size + 1) = False := eq_false (Nat.not_lt.2 c8)
              have H' := Aside0.mk H
              clear H
              go_wp2
              go_roundg k1
              case measure => have := HK1.out; omega
              case rel => exact ⟨(x4_1 ++ (⟨#[48]⟩ : ByteArray)), (wrap64 (x5_1 + 1)), (by first | rfl | (simp; done) | (simp [*]; done)), (by first | rfl | (simp; done) | (simp [*]; done)), H', ⟨by have := HK1.out; omega⟩, ⟨by (with_reducible repeat (first | refine blk_drewN ?_ _ | refine blk_drew ?_ | refine blk_alloc ?_ _)); exact BK1015.out⟩, ⟨by repeat (first | (with_reducible first | exact HB.out | apply below_alloc | apply pw_below_drewN | apply below_drew1 | refine below_set ?_ GE1015.out) | exact HB.out)⟩⟩
            · rw [if_neg c8] at H
              exact absurd H (by simp)
          · rw [if_neg c7] at H
            have c7b0 : decide (x5_1 < 50) = false := decide_eq_false c7
            clear c7
            replace H := Option.bind_eq_some_iff.mp H
            obtain ⟨⟨t1016, t1017, t1018⟩, A90, H⟩ := H
            replace H : (some (t1016, t1017, t1018)) = some (r1, r2, r3) := H
            have A9 := Aside0.mk A90
            clear A90
            simp only [Option.some.injEq, Prod.mk.injEq] at H
            obtain ⟨rfl, rfl, rfl⟩ := H
            go_wp2_with (first | ((with_reducible refine gate_callee (f := 77) rfl ?_); refine goesL_ (some 21) rfl rfl Try.func77 (by kernel_rfl) rfl #[.string x4_1] rfl (by (try simp only [List.map_toArray, List.map_cons, List.map_nil]); first | done | rfl | (simp only [List.length_drop, List.length_take]; rfl)) ?_; (with_reducible refine (paymasterref02_Parse.calls k1 x4_1 t1016 t1017 t1018 _ A9.out).mono ?_); rintro e w10 ⟨rfl, hb⟩; refine ⟨_, rfl, ?_⟩; have n0_ := Aside0.mk (blk_below (g := gb1015) (o := .cells #[.int .u64 0, .int .u64 0] 25 (0, 0)) (by (with_reducible repeat (first | refine blk_drewN ?_ _ | refine blk_drew ?_ | refine blk_alloc ?_ _)); exact BK1015.out) hb); have n1_ := Aside0.mk (below_step (by repeat (first | (with_reducible first | exact HB.out | apply below_alloc | apply pw_below_drewN | apply below_drew1 | refine below_set ?_ GE1015.out) | exact HB.out)) hb); clear BK1015; clear HB; have BK1015 := n0_; have HB := n1_; clear n0_ n1_; (try clear hb); (try clear hb2); (try clear hk); (try clear hi); have hcz11_0 : w10.cell? ⟨gb1015, 0, none⟩ = some (.int .u64 0) := (blk_cell BK1015.out 0).trans rfl; have hcz11_1 : w10.cell? ⟨gb1015, 1, none⟩ = some (.int .u64 0) := (blk_cell BK1015.out 1).trans rfl; have hfz11_0 := blk_frozen BK1015.out 0; have hfz11_1 := blk_frozen BK1015.out 1))
            refine bodyPost_ret (results_ct rfl _ _ gb1015 25 #[.int .u64 t1016, .int .u64 t1017] (0, 0) _ rfl (by (with_reducible repeat (first | refine blk_drewN ?_ _ | refine blk_drew ?_ | refine blk_alloc ?_ _)); refine blk_put (cs := #[.int .u64 t1016, .int .u64 0]) ?_ 1 _ rfl; (with_reducible repeat (first | refine blk_drewN ?_ _ | refine blk_drew ?_ | refine blk_alloc ?_ _)); refine blk_put (cs := #[.int .u64 0, .int .u64 0]) ?_ 0 _ rfl; (with_reducible repeat (first | refine blk_drewN ?_ _ | refine blk_drew ?_ | refine blk_alloc ?_ _)); exact BK1015.out) Try.underlying25 rfl (by kernel_rfl)) rfl ?_
            exact ⟨by first | rfl | (simp [errW_none, errW_some] <;> rfl) | (simp [*, errW_none, errW_some] <;> rfl), by repeat (first | (with_reducible first | exact HB.out | apply below_alloc | apply pw_below_drewN | apply below_drew1 | refine below_set ?_ GE1015.out) | exact HB.out)⟩
        · rw [if_neg c6] at H
          have c6b0 : decide (x5_1 < a0) = false := decide_eq_false c6
          clear c6
          replace H := Option.bind_eq_some_iff.mp H
          obtain ⟨⟨t1019, t1020, t1021⟩, A120, H⟩ := H
          replace H : (some (t1019, t1020, t1021)) = some (r1, r2, r3) := H
          have A12 := Aside0.mk A120
          clear A120
          simp only [Option.some.injEq, Prod.mk.injEq] at H
          obtain ⟨rfl, rfl, rfl⟩ := H
          go_wp2_with (first | ((with_reducible refine gate_callee (f := 77) rfl ?_); refine goesL_ (some 21) rfl rfl Try.func77 (by kernel_rfl) rfl #[.string x4_1] rfl (by (try simp only [List.map_toArray, List.map_cons, List.map_nil]); first | done | rfl | (simp only [List.length_drop, List.length_take]; rfl)) ?_; (with_reducible refine (paymasterref02_Parse.calls k1 x4_1 t1019 t1020 t1021 _ A12.out).mono ?_); rintro e w13 ⟨rfl, hb⟩; refine ⟨_, rfl, ?_⟩; have n0_ := Aside0.mk (blk_below (g := gb1015) (o := .cells #[.int .u64 0, .int .u64 0] 25 (0, 0)) (by (with_reducible repeat (first | refine blk_drewN ?_ _ | refine blk_drew ?_ | refine blk_alloc ?_ _)); exact BK1015.out) hb); have n1_ := Aside0.mk (below_step (by repeat (first | (with_reducible first | exact HB.out | apply below_alloc | apply pw_below_drewN | apply below_drew1 | refine below_set ?_ GE1015.out) | exact HB.out)) hb); clear BK1015; clear HB; have BK1015 := n0_; have HB := n1_; clear n0_ n1_; (try clear hb); (try clear hb2); (try clear hk); (try clear hi); have hcz14_0 : w13.cell? ⟨gb1015, 0, none⟩ = some (.int .u64 0) := (blk_cell BK1015.out 0).trans rfl; have hcz14_1 : w13.cell? ⟨gb1015, 1, none⟩ = some (.int .u64 0) := (blk_cell BK1015.out 1).trans rfl; have hfz14_0 := blk_frozen BK1015.out 0; have hfz14_1 := blk_frozen BK1015.out 1))
          refine bodyPost_ret (results_ct rfl _ _ gb1015 25 #[.int .u64 t1019, .int .u64 t1020] (0, 0) _ rfl (by (with_reducible repeat (first | refine blk_drewN ?_ _ | refine blk_drew ?_ | refine blk_alloc ?_ _)); refine blk_put (cs := #[.int .u64 t1019, .int .u64 0]) ?_ 1 _ rfl; (with_reducible repeat (first | refine blk_drewN ?_ _ | refine blk_drew ?_ | refine blk_alloc ?_ _)); refine blk_put (cs := #[.int .u64 0, .int .u64 0]) ?_ 0 _ rfl; (with_reducible repeat (first | refine blk_drewN ?_ _ | refine blk_drew ?_ | refine blk_alloc ?_ _)); exact BK1015.out) Try.underlying25 rfl (by kernel_rfl)) rfl ?_
          exact ⟨by first | rfl | (simp [errW_none, errW_some] <;> rfl) | (simp [*, errW_none, errW_some] <;> rfl), by repeat (first | (with_reducible first | exact HB.out | apply below_alloc | apply pw_below_drewN | apply below_drew1 | refine below_set ?_ GE1015.out) | exact HB.out)⟩
def paymasterref02_Text.f : Nat → Int → Int → Option (ByteArray)
  | 0, _, _ => none
  | k + 1, a0_0, a0_1 => (paymasterref01_Over.f k a0_0 a0_1 10).bind fun bt1024 => ((some (([(48 + ((bt1024.2.2.1) % 256)) % 256] : List Int) : List Int)).bind fun y1029 => (if (bt1024.1 == 0 && (bt1024.2.1 == 0)) = true then (some (strOfNums y1029)) else ((paymasterref02_Text.f k bt1024.1 bt1024.2.1).bind fun t1032 => (if t1032.size + (strOfNums y1029).size ≤ 9223372036854775807 then (some (t1032 ++ (strOfNums y1029))) else (none)))))
set_option maxHeartbeats 8000000 in
set_option maxRecDepth 100000 in
theorem paymasterref02_Text.calls (k : Nat) : ∀ (a0_0 : Int) (a0_1 : Int) (r : ByteArray) (w : World) (h : paymasterref02_Text.f k a0_0 a0_1 = some r),
    Calls Try.prog 63 #[.agg #[.int .u64 a0_0, .int .u64 a0_1]] w fun e w' => e = .returned (.string r) ∧ Below w.heap.size w w' := by
  induction k using Nat.strongRecOn with
  | _ k ih =>
  intro a0_0 a0_1 r w h
  cases k with
  | zero => exact absurd h (by simp [paymasterref02_Text.f])
  | succ k =>
  simp only [paymasterref02_Text.f] at h
  have hu25 := Try.underlying25
  have HB := Aside0.mk (Below.refl w.heap.size w)
  have H : ((paymasterref01_Over.f k a0_0 a0_1 10).bind fun bt1024 => ((some (([(48 + ((bt1024.2.2.1) % 256)) % 256] : List Int) : List Int)).bind fun y1029 => (if (bt1024.1 == 0 && (bt1024.2.1 == 0)) = true then (some (strOfNums y1029)) else ((paymasterref02_Text.f k bt1024.1 bt1024.2.1).bind fun t1032 => (if t1032.size + (strOfNums y1029).size ≤ 9223372036854775807 then (some (t1032 ++ (strOfNums y1029))) else (none)))))) = some r := h
  clear h
  replace H := Option.bind_eq_some_iff.mp H
  obtain ⟨⟨t1024, t1025, t1026, t1027⟩, A20, H⟩ := H
  replace H : ((some (([(48 + ((t1026) % 256)) % 256] : List Int) : List Int)).bind fun y1029 => (if (t1024 == 0 && (t1025 == 0)) = true then (some (strOfNums y1029)) else ((paymasterref02_Text.f k t1024 t1025).bind fun t1032 => (if t1032.size + (strOfNums y1029).size ≤ 9223372036854775807 then (some (t1032 ++ (strOfNums y1029))) else (none))))) = some r := H
  have A2 := Aside0.mk A20
  clear A20
  obtain ⟨y1029, hy1029⟩ : ∃ y_ : List Int, y_ = (([(48 + ((t1026) % 256)) % 256] : List Int)) := ⟨_, rfl⟩
  replace H : (if (t1024 == 0 && (t1025 == 0)) = true then (some (strOfNums y1029)) else ((paymasterref02_Text.f k t1024 t1025).bind fun t1032 => (if t1032.size + (strOfNums y1029).size ≤ 9223372036854775807 then (some (t1032 ++ (strOfNums y1029))) else (none)))) = some r := by first | (rw [hy1029]; with_reducible exact H) | (have H2_ := (Option.bind_some _ _).symm.trans H; rw [hy1029]; with_reducible exact H2_) | (have H2_ := (Option.bind_some _ _).symm.trans H; with_reducible exact H2_) | with_reducible exact H | (rw [hy1029]; exact H) | exact H
  have Ny1029 := Aside0.mk hy1029
  clear hy1029
  by_cases c3 : (t1024 == 0 && (t1025 == 0)) = true
  · rw [if_pos c3] at H
    have c3b0 : (t1024 == 0 && (t1025 == 0)) = true := c3
    (try (have c3b1 : decide (t1024 = 0 && (t1025 == 0)) = true := by simpa using c3))
    (try (have c3b2 : (t1024 == 0 && (t1025 == 0)) = true := by simpa using c3))
    clear c3
    obtain rfl := Option.some.inj H
    go_enter Try.func63, Try.ntmps63
    go_wp2_with (first | ((with_reducible refine gate_dst (N := 1) rfl ?_); refine box_event ?hg (N := 1) ?hd (cs := #[.int .u64 a0_0, .int .u64 a0_1]) (t := 25) ?hr ?_; (case hd => rfl); (case hg => rfl); (case hr => first | (go_simp; done) | (go_simp; rfl)); intro gb1023 hg w4 hbox hb; have n0_ := Aside0.mk (below_step (by repeat (first | (with_reducible first | exact HB.out | apply below_alloc | apply pw_below_drewN | apply below_drew1) | exact HB.out)) hb); have n1_ := Aside0.mk (hbox); have n2_ := Aside0.mk ((by rw [hg]; exact (below_size (by repeat (first | (with_reducible first | exact HB.out | apply below_alloc | apply pw_below_drewN | apply below_drew1) | exact HB.out))) : w.heap.size ≤ gb1023)); have n3_ := Aside0.mk ((by rw [hg]; exact (below_size (by repeat (first | (with_reducible first | exact HB.out | apply below_alloc | apply pw_below_drewN | apply below_drew1) | exact HB.out))) : w.heap.size ≤ gb1023)); clear HB; have HB := n0_; have BK1023 := n1_; have GW1023 := n2_; have GE1023 := n3_; clear n0_ n1_ n2_ n3_; clear hb hbox hg; have hcz5_0 : w4.cell? ⟨gb1023, 0, none⟩ = some (.int .u64 a0_0) := (blk_cell BK1023.out 0).trans rfl; have hcz5_1 : w4.cell? ⟨gb1023, 1, none⟩ = some (.int .u64 a0_1) := (blk_cell BK1023.out 1).trans rfl; have hfz5_0 := blk_frozen BK1023.out 0; have hfz5_1 := blk_frozen BK1023.out 1) | ((with_reducible refine gate_callee (f := 59) rfl ?_); refine goesL_ (some 9) rfl rfl Try.func59 (by kernel_rfl) rfl #[.agg #[.int .u64 a0_0, .int .u64 a0_1], .int .u64 10] rfl (by (try simp only [List.map_toArray, List.map_cons, List.map_nil]); first | done | rfl | (simp only [List.length_drop, List.length_take]; rfl)) ?_; (with_reducible refine (paymasterref01_Over.calls k a0_0 a0_1 10 t1024 t1025 t1026 t1027 _ A2.out).mono ?_); rintro e w6 ⟨rfl, hb⟩; refine ⟨_, rfl, ?_⟩; have n0_ := Aside0.mk (blk_below (g := gb1023) (o := .cells #[.int .u64 a0_0, .int .u64 a0_1] 25 (0, 0)) (by (with_reducible repeat (first | refine blk_drewN ?_ _ | refine blk_drew ?_ | refine blk_alloc ?_ _)); exact BK1023.out) hb); have n1_ := Aside0.mk (below_step (by repeat (first | (with_reducible first | exact HB.out | apply below_alloc | apply pw_below_drewN | apply below_drew1 | refine below_set ?_ GE1023.out) | exact HB.out)) hb); clear BK1023; clear HB; have BK1023 := n0_; have HB := n1_; clear n0_ n1_; (try clear hb); (try clear hb2); (try clear hk); (try clear hi)) | ((with_reducible refine gate_dst (N := 3) rfl ?_); refine box_event ?hg (N := 3) ?hd (cs := #[.int .u64 0, .int .u64 0]) (t := 25) ?hr ?_; (case hd => rfl); (case hg => rfl); (case hr => first | (go_simp; done) | (go_simp; rfl)); intro gb1028 hg w7 hbox hb; have n0_ := Aside0.mk (blk_below (g := gb1023) (o := .cells #[.int .u64 a0_0, .int .u64 a0_1] 25 (0, 0)) (by (with_reducible repeat (first | refine blk_drewN ?_ _ | refine blk_drew ?_ | refine blk_alloc ?_ _)); exact BK1023.out) hb); have n1_ := Aside0.mk (below_step (by repeat (first | (with_reducible first | exact HB.out | apply below_alloc | apply pw_below_drewN | apply below_drew1 | refine below_set ?_ GE1023.out) | exact HB.out)) hb); have n2_ := Aside0.mk (hbox); have n3_ := Aside0.mk ((by rw [hg]; exact (below_size (by repeat (first | (with_reducible first | exact HB.out | apply below_alloc | apply pw_below_drewN | apply below_drew1 | refine below_set ?_ GE1023.out) | exact HB.out))) : w.heap.size ≤ gb1028)); have n4_ := Aside0.mk ((by rw [hg]; exact (below_size (by repeat (first | (with_reducible first | exact HB.out | apply below_alloc | apply pw_below_drewN | apply below_drew1 | refine below_set ?_ GE1023.out) | exact HB.out))) : w.heap.size ≤ gb1028)); have n5_ := Aside0.mk ((by rw [hg]; exact Nat.ne_of_lt (blk_lt (g := gb1023) (o := .cells #[.int .u64 a0_0, .int .u64 a0_1] 25 (0, 0)) (by (with_reducible repeat (first | refine blk_drewN ?_ _ | refine blk_drew ?_ | refine blk_alloc ?_ _)); exact BK1023.out)) : gb1023 ≠ gb1028)); have n6_ := Aside0.mk ((by rw [hg]; exact Nat.ne_of_gt (blk_lt (g := gb1023) (o := .cells #[.int .u64 a0_0, .int .u64 a0_1] 25 (0, 0)) (by (with_reducible repeat (first | refine blk_drewN ?_ _ | refine blk_drew ?_ | refine blk_alloc ?_ _)); exact BK1023.out)) : gb1028 ≠ gb1023)); clear BK1023; clear HB; have BK1023 := n0_; have HB := n1_; have BK1028 := n2_; have GW1028 := n3_; have GE1028 := n4_; have NB1023_1028 := n5_; have NB1028_1023 := n6_; clear n0_ n1_ n2_ n3_ n4_ n5_ n6_; clear hb hbox hg; have hnb8 := NB1028_1023.out; have hnc8 := NB1023_1028.out; have hcz9_0 : w7.cell? ⟨gb1028, 0, none⟩ = some (.int .u64 0) := (blk_cell BK1028.out 0).trans rfl; have hcz9_1 : w7.cell? ⟨gb1028, 1, none⟩ = some (.int .u64 0) := (blk_cell BK1028.out 1).trans rfl; have hfz9_0 := blk_frozen BK1028.out 0; have hfz9_1 := blk_frozen BK1028.out 1) | ((with_reducible refine gate_dst (N := 16) rfl ?_); refine Kd.R_lit (Kd.int .u8) _ 5 ?hg (N := 16) ?hd (xs := ([(48 + ((t1026) % 256)) % 256] : List Int)) (inner := [.int .u8 ((48 + ((t1026) % 256)) % 256)]) (ok := fun _ => True) (okp := fun _ => True) ?hr ?hp (fun _ hk => hk) trivial (Below.refl _ _) (Nat.le_refl _) (by simp) ?_; (case hd => rfl); (case hg => rfl); (case hr => first | (go_simp; done) | (go_simp; rfl)); (case hp => exact (Reps.one (show Kd.M (Kd.int .u8) _ _ _ ((48 + ((t1026) % 256)) % 256) [.int .u8 ((48 + ((t1026) % 256)) % 256)] from rfl) (Reps.none _ _))); intro v1030 w10 ho11 hb hg_ hnew_; clear hg_ hnew_; (first | rw [← Ny1029.out] at ho11 | (simp only [Int.reduceToNat] at ho11; rw [← Ny1029.out] at ho11)); have n0_ := Aside0.mk (Kd.R_lower ho11 (below_size (by repeat (first | (with_reducible first | exact HB.out | apply below_alloc | apply pw_below_drewN | apply below_drew1 | refine below_set ?_ GE1023.out | refine below_set ?_ GE1028.out) | exact HB.out)))); have n1_ := Aside0.mk (blk_below (g := gb1023) (o := .cells #[.int .u64 a0_0, .int .u64 a0_1] 25 (0, 0)) (by (with_reducible repeat (first | refine blk_drewN ?_ _ | refine blk_drew ?_ | refine blk_alloc ?_ _)); refine blk_far ?_ NB1023_1028.out _; (with_reducible repeat (first | refine blk_drewN ?_ _ | refine blk_drew ?_ | refine blk_alloc ?_ _)); refine blk_far ?_ NB1023_1028.out _; (with_reducible repeat (first | refine blk_drewN ?_ _ | refine blk_drew ?_ | refine blk_alloc ?_ _)); exact BK1023.out) hb); have n2_ := Aside0.mk (blk_below (g := gb1028) (o := .cells #[.int .u64 t1024, .int .u64 t1025] 25 (0, 0)) (by (with_reducible repeat (first | refine blk_drewN ?_ _ | refine blk_drew ?_ | refine blk_alloc ?_ _)); refine blk_put (cs := #[.int .u64 t1024, .int .u64 0]) ?_ 1 _ rfl; (with_reducible repeat (first | refine blk_drewN ?_ _ | refine blk_drew ?_ | refine blk_alloc ?_ _)); refine blk_put (cs := #[.int .u64 0, .int .u64 0]) ?_ 0 _ rfl; (with_reducible repeat (first | refine blk_drewN ?_ _ | refine blk_drew ?_ | refine blk_alloc ?_ _)); exact BK1028.out) hb); have n3_ := Aside0.mk (below_step (by repeat (first | (with_reducible first | exact HB.out | apply below_alloc | apply pw_below_drewN | apply below_drew1 | refine below_set ?_ GE1023.out | refine below_set ?_ GE1028.out) | exact HB.out)) hb); clear BK1023; clear BK1028; clear HB; have HO1031 := n0_; have BK1023 := n1_; have BK1028 := n2_; have HB := n3_; clear n0_ n1_ n2_ n3_; clear hb ho11; have hcv12 := own_string (P := Try.prog) Try.underlying99 Try.underlying5 Try.underlying9 (Kd.own_of_R HO1031.out); have hcz13_0 : w10.cell? ⟨gb1028, 0, none⟩ = some (.int .u64 t1024) := (blk_cell BK1028.out 0).trans rfl; have hcz13_1 : w10.cell? ⟨gb1028, 1, none⟩ = some (.int .u64 t1025) := (blk_cell BK1028.out 1).trans rfl; have hfz13_0 := blk_frozen BK1028.out 0; have hfz13_1 := blk_frozen BK1028.out 1))
    go_ret
    exact ⟨by first | rfl | (simp [errW_none, errW_some] <;> rfl) | (simp [*, errW_none, errW_some] <;> rfl), by repeat (first | (with_reducible first | exact HB.out | apply below_alloc | apply pw_below_drewN | apply below_drew1 | refine below_set ?_ GE1023.out | refine below_set ?_ GE1028.out) | exact HB.out)⟩
  · rw [if_neg c3] at H
    have c3b0 : (t1024 == 0 && (t1025 == 0)) = false := by simpa using c3
    (try (have c3b1 : decide (t1024 = 0 && (t1025 == 0)) = false := by simpa using c3))
    (try (have c3b2 : (t1024 == 0 && (t1025 == 0)) = false := by simpa using c3))
    (try (have c3b3 : ¬ (t1024 = 0 && (t1025 == 0)) := by simpa using c3))
    clear c3
    replace H := Option.bind_eq_some_iff.mp H
    obtain ⟨t1032, A140, H⟩ := H
    replace H : (if t1032.size + (strOfNums y1029).size ≤ 9223372036854775807 then (some (t1032 ++ (strOfNums y1029))) else (none)) = some r := H
    have A14 := Aside0.mk A140
    clear A140
    by_cases c15 : t1032.size + (strOfNums y1029).size ≤ 9223372036854775807
    · rw [if_pos c15] at H
      have c15b0 := eq_true c15
      have c15b1 : decide (t1032.size + (strOfNums y1029).size ≤ 9223372036854775807) = true := decide_eq_true c15
      try have c15b2 : (9223372036854775807 < t1032.size + (strOfNums y1029).size) = False := eq_false (Nat.not_lt.2 c15)
      obtain rfl := Option.some.inj H
      go_enter Try.func63, Try.ntmps63
      go_wp2_with (first | ((with_reducible refine gate_dst (N := 1) rfl ?_); refine box_event ?hg (N := 1) ?hd (cs := #[.int .u64 a0_0, .int .u64 a0_1]) (t := 25) ?hr ?_; (case hd => rfl); (case hg => rfl); (case hr => first | (go_simp; done) | (go_simp; rfl)); intro gb1023 hg w16 hbox hb; have n0_ := Aside0.mk (below_step (by repeat (first | (with_reducible first | exact HB.out | apply below_alloc | apply pw_below_drewN | apply below_drew1) | exact HB.out)) hb); have n1_ := Aside0.mk (hbox); have n2_ := Aside0.mk ((by rw [hg]; exact (below_size (by repeat (first | (with_reducible first | exact HB.out | apply below_alloc | apply pw_below_drewN | apply below_drew1) | exact HB.out))) : w.heap.size ≤ gb1023)); have n3_ := Aside0.mk ((by rw [hg]; exact (below_size (by repeat (first | (with_reducible first | exact HB.out | apply below_alloc | apply pw_below_drewN | apply below_drew1) | exact HB.out))) : w.heap.size ≤ gb1023)); clear HB; have HB := n0_; have BK1023 := n1_; have GW1023 := n2_; have GE1023 := n3_; clear n0_ n1_ n2_ n3_; clear hb hbox hg; have hcz17_0 : w16.cell? ⟨gb1023, 0, none⟩ = some (.int .u64 a0_0) := (blk_cell BK1023.out 0).trans rfl; have hcz17_1 : w16.cell? ⟨gb1023, 1, none⟩ = some (.int .u64 a0_1) := (blk_cell BK1023.out 1).trans rfl; have hfz17_0 := blk_frozen BK1023.out 0; have hfz17_1 := blk_frozen BK1023.out 1) | ((with_reducible refine gate_callee (f := 59) rfl ?_); refine goesL_ (some 9) rfl rfl Try.func59 (by kernel_rfl) rfl #[.agg #[.int .u64 a0_0, .int .u64 a0_1], .int .u64 10] rfl (by (try simp only [List.map_toArray, List.map_cons, List.map_nil]); first | done | rfl | (simp only [List.length_drop, List.length_take]; rfl)) ?_; (with_reducible refine (paymasterref01_Over.calls k a0_0 a0_1 10 t1024 t1025 t1026 t1027 _ A2.out).mono ?_); rintro e w18 ⟨rfl, hb⟩; refine ⟨_, rfl, ?_⟩; have n0_ := Aside0.mk (blk_below (g := gb1023) (o := .cells #[.int .u64 a0_0, .int .u64 a0_1] 25 (0, 0)) (by (with_reducible repeat (first | refine blk_drewN ?_ _ | refine blk_drew ?_ | refine blk_alloc ?_ _)); exact BK1023.out) hb); have n1_ := Aside0.mk (below_step (by repeat (first | (with_reducible first | exact HB.out | apply below_alloc | apply pw_below_drewN | apply below_drew1 | refine below_set ?_ GE1023.out) | exact HB.out)) hb); clear BK1023; clear HB; have BK1023 := n0_; have HB := n1_; clear n0_ n1_; (try clear hb); (try clear hb2); (try clear hk); (try clear hi)) | ((with_reducible refine gate_dst (N := 3) rfl ?_); refine box_event ?hg (N := 3) ?hd (cs := #[.int .u64 0, .int .u64 0]) (t := 25) ?hr ?_; (case hd => rfl); (case hg => rfl); (case hr => first | (go_simp; done) | (go_simp; rfl)); intro gb1028 hg w19 hbox hb; have n0_ := Aside0.mk (blk_below (g := gb1023) (o := .cells #[.int .u64 a0_0, .int .u64 a0_1] 25 (0, 0)) (by (with_reducible repeat (first | refine blk_drewN ?_ _ | refine blk_drew ?_ | refine blk_alloc ?_ _)); exact BK1023.out) hb); have n1_ := Aside0.mk (below_step (by repeat (first | (with_reducible first | exact HB.out | apply below_alloc | apply pw_below_drewN | apply below_drew1 | refine below_set ?_ GE1023.out) | exact HB.out)) hb); have n2_ := Aside0.mk (hbox); have n3_ := Aside0.mk ((by rw [hg]; exact (below_size (by repeat (first | (with_reducible first | exact HB.out | apply below_alloc | apply pw_below_drewN | apply below_drew1 | refine below_set ?_ GE1023.out) | exact HB.out))) : w.heap.size ≤ gb1028)); have n4_ := Aside0.mk ((by rw [hg]; exact (below_size (by repeat (first | (with_reducible first | exact HB.out | apply below_alloc | apply pw_below_drewN | apply below_drew1 | refine below_set ?_ GE1023.out) | exact HB.out))) : w.heap.size ≤ gb1028)); have n5_ := Aside0.mk ((by rw [hg]; exact Nat.ne_of_lt (blk_lt (g := gb1023) (o := .cells #[.int .u64 a0_0, .int .u64 a0_1] 25 (0, 0)) (by (with_reducible repeat (first | refine blk_drewN ?_ _ | refine blk_drew ?_ | refine blk_alloc ?_ _)); exact BK1023.out)) : gb1023 ≠ gb1028)); have n6_ := Aside0.mk ((by rw [hg]; exact Nat.ne_of_gt (blk_lt (g := gb1023) (o := .cells #[.int .u64 a0_0, .int .u64 a0_1] 25 (0, 0)) (by (with_reducible repeat (first | refine blk_drewN ?_ _ | refine blk_drew ?_ | refine blk_alloc ?_ _)); exact BK1023.out)) : gb1028 ≠ gb1023)); clear BK1023; clear HB; have BK1023 := n0_; have HB := n1_; have BK1028 := n2_; have GW1028 := n3_; have GE1028 := n4_; have NB1023_1028 := n5_; have NB1028_1023 := n6_; clear n0_ n1_ n2_ n3_ n4_ n5_ n6_; clear hb hbox hg; have hnb20 := NB1028_1023.out; have hnc20 := NB1023_1028.out; have hcz21_0 : w19.cell? ⟨gb1028, 0, none⟩ = some (.int .u64 0) := (blk_cell BK1028.out 0).trans rfl; have hcz21_1 : w19.cell? ⟨gb1028, 1, none⟩ = some (.int .u64 0) := (blk_cell BK1028.out 1).trans rfl; have hfz21_0 := blk_frozen BK1028.out 0; have hfz21_1 := blk_frozen BK1028.out 1) | ((with_reducible refine gate_dst (N := 16) rfl ?_); refine Kd.R_lit (Kd.int .u8) _ 5 ?hg (N := 16) ?hd (xs := ([(48 + ((t1026) % 256)) % 256] : List Int)) (inner := [.int .u8 ((48 + ((t1026) % 256)) % 256)]) (ok := fun _ => True) (okp := fun _ => True) ?hr ?hp (fun _ hk => hk) trivial (Below.refl _ _) (Nat.le_refl _) (by simp) ?_; (case hd => rfl); (case hg => rfl); (case hr => first | (go_simp; done) | (go_simp; rfl)); (case hp => exact (Reps.one (show Kd.M (Kd.int .u8) _ _ _ ((48 + ((t1026) % 256)) % 256) [.int .u8 ((48 + ((t1026) % 256)) % 256)] from rfl) (Reps.none _ _))); intro v1030 w22 ho23 hb hg_ hnew_; clear hg_ hnew_; (first | rw [← Ny1029.out] at ho23 | (simp only [Int.reduceToNat] at ho23; rw [← Ny1029.out] at ho23)); have n0_ := Aside0.mk (Kd.R_lower ho23 (below_size (by repeat (first | (with_reducible first | exact HB.out | apply below_alloc | apply pw_below_drewN | apply below_drew1 | refine below_set ?_ GE1023.out | refine below_set ?_ GE1028.out) | exact HB.out)))); have n1_ := Aside0.mk (blk_below (g := gb1023) (o := .cells #[.int .u64 a0_0, .int .u64 a0_1] 25 (0, 0)) (by (with_reducible repeat (first | refine blk_drewN ?_ _ | refine blk_drew ?_ | refine blk_alloc ?_ _)); refine blk_far ?_ NB1023_1028.out _; (with_reducible repeat (first | refine blk_drewN ?_ _ | refine blk_drew ?_ | refine blk_alloc ?_ _)); refine blk_far ?_ NB1023_1028.out _; (with_reducible repeat (first | refine blk_drewN ?_ _ | refine blk_drew ?_ | refine blk_alloc ?_ _)); exact BK1023.out) hb); have n2_ := Aside0.mk (blk_below (g := gb1028) (o := .cells #[.int .u64 t1024, .int .u64 t1025] 25 (0, 0)) (by (with_reducible repeat (first | refine blk_drewN ?_ _ | refine blk_drew ?_ | refine blk_alloc ?_ _)); refine blk_put (cs := #[.int .u64 t1024, .int .u64 0]) ?_ 1 _ rfl; (with_reducible repeat (first | refine blk_drewN ?_ _ | refine blk_drew ?_ | refine blk_alloc ?_ _)); refine blk_put (cs := #[.int .u64 0, .int .u64 0]) ?_ 0 _ rfl; (with_reducible repeat (first | refine blk_drewN ?_ _ | refine blk_drew ?_ | refine blk_alloc ?_ _)); exact BK1028.out) hb); have n3_ := Aside0.mk (below_step (by repeat (first | (with_reducible first | exact HB.out | apply below_alloc | apply pw_below_drewN | apply below_drew1 | refine below_set ?_ GE1023.out | refine below_set ?_ GE1028.out) | exact HB.out)) hb); clear BK1023; clear BK1028; clear HB; have HO1031 := n0_; have BK1023 := n1_; have BK1028 := n2_; have HB := n3_; clear n0_ n1_ n2_ n3_; clear hb ho23; have hcv24 := own_string (P := Try.prog) Try.underlying99 Try.underlying5 Try.underlying9 (Kd.own_of_R HO1031.out); have hcz25_0 : w22.cell? ⟨gb1028, 0, none⟩ = some (.int .u64 t1024) := (blk_cell BK1028.out 0).trans rfl; have hcz25_1 : w22.cell? ⟨gb1028, 1, none⟩ = some (.int .u64 t1025) := (blk_cell BK1028.out 1).trans rfl; have hfz25_0 := blk_frozen BK1028.out 0; have hfz25_1 := blk_frozen BK1028.out 1) | ((with_reducible refine gate_callee (f := 63) rfl ?_); refine goesL_ (some 23) rfl rfl Try.func63 (by kernel_rfl) rfl #[.agg #[.int .u64 t1024, .int .u64 t1025]] rfl (by (try simp only [List.map_toArray, List.map_cons, List.map_nil]); first | done | rfl | (simp only [List.length_drop, List.length_take]; rfl)) ?_; (with_reducible refine (ih k (by omega) t1024 t1025 t1032 _ A14.out).mono ?_); rintro e w26 ⟨rfl, hb⟩; refine ⟨_, rfl, ?_⟩; have n0_ := Aside0.mk (Kd.R_below (by (with_reducible repeat (first | apply Kd.R_alloc | apply Kd.R_drewN | apply Kd.R_drew)); exact HO1031.out) hb); have n1_ := Aside0.mk (blk_below (g := gb1023) (o := .cells #[.int .u64 a0_0, .int .u64 a0_1] 25 (0, 0)) (by (with_reducible repeat (first | refine blk_drewN ?_ _ | refine blk_drew ?_ | refine blk_alloc ?_ _)); exact BK1023.out) hb); have n2_ := Aside0.mk (blk_below (g := gb1028) (o := .cells #[.int .u64 t1024, .int .u64 t1025] 25 (0, 0)) (by (with_reducible repeat (first | refine blk_drewN ?_ _ | refine blk_drew ?_ | refine blk_alloc ?_ _)); exact BK1028.out) hb); have n3_ := Aside0.mk (below_step (by repeat (first | (with_reducible first | exact HB.out | apply below_alloc | apply pw_below_drewN | apply below_drew1 | refine below_set ?_ GE1023.out | refine below_set ?_ GE1028.out) | exact HB.out)) hb); clear HO1031; clear BK1023; clear BK1028; clear HB; have HO1031 := n0_; have BK1023 := n1_; have BK1028 := n2_; have HB := n3_; clear n0_ n1_ n2_ n3_; (try clear hb); (try clear hb2); (try clear hk); (try clear hi)))
      go_ret
      exact ⟨by first | rfl | (simp [errW_none, errW_some] <;> rfl) | (simp [*, errW_none, errW_some] <;> rfl), by repeat (first | (with_reducible first | exact HB.out | apply below_alloc | apply pw_below_drewN | apply below_drew1 | refine below_set ?_ GE1023.out | refine below_set ?_ GE1028.out) | exact HB.out)⟩
    · rw [if_neg c15] at H
      exact absurd H (by simp)
def paymasterref02_Digit.f (k : Nat) (a0_0 : Int) (a0_1 : Int) (a1 : Int) : Option (Int) := (paymasterref02_Text.f k a0_0 a0_1).bind fun t1034 => (if a1 < 0 then (some 0) else (if a1 ≥ (t1034.size : Int) then (some 0) else (if 0 ≤ (wrap64 ((wrap64 ((t1034.size : Int) - 1)) - a1)) then (if (wrap64 ((wrap64 ((t1034.size : Int) - 1)) - a1)) < (t1034.size : Int) then (some (((bt t1034 (wrap64 ((wrap64 ((t1034.size : Int) - 1)) - a1))) - 48) % 256)) else (none)) else (none))))
set_option maxHeartbeats 8000000 in
set_option maxRecDepth 100000 in
theorem paymasterref02_Digit.calls (k : Nat) (a0_0 : Int) (a0_1 : Int) (a1 : Int) (r : Int) (w : World) (h : paymasterref02_Digit.f k a0_0 a0_1 a1 = some r) :
    Calls Try.prog 65 #[.agg #[.int .u64 a0_0, .int .u64 a0_1], .int .i64 a1] w fun e w' => e = .returned (.int .u8 r) ∧ Below w.heap.size w w' := by
  have hu25 := Try.underlying25
  have HB := Aside0.mk (Below.refl w.heap.size w)
  have H : ((paymasterref02_Text.f k a0_0 a0_1).bind fun t1034 => (if a1 < 0 then (some 0) else (if a1 ≥ (t1034.size : Int) then (some 0) else (if 0 ≤ (wrap64 ((wrap64 ((t1034.size : Int) - 1)) - a1)) then (if (wrap64 ((wrap64 ((t1034.size : Int) - 1)) - a1)) < (t1034.size : Int) then (some (((bt t1034 (wrap64 ((wrap64 ((t1034.size : Int) - 1)) - a1))) - 48) % 256)) else (none)) else (none))))) = some r := h
  clear h
  replace H := Option.bind_eq_some_iff.mp H
  obtain ⟨t1034, A30, H⟩ := H
  replace H : (if a1 < 0 then (some 0) else (if a1 ≥ (t1034.size : Int) then (some 0) else (if 0 ≤ (wrap64 ((wrap64 ((t1034.size : Int) - 1)) - a1)) then (if (wrap64 ((wrap64 ((t1034.size : Int) - 1)) - a1)) < (t1034.size : Int) then (some (((bt t1034 (wrap64 ((wrap64 ((t1034.size : Int) - 1)) - a1))) - 48) % 256)) else (none)) else (none)))) = some r := H
  have A3 := Aside0.mk A30
  clear A30
  by_cases c4 : a1 < 0
  · rw [if_pos c4] at H
    have c4b0 : decide (a1 < 0) = true := decide_eq_true c4
    clear c4
    obtain rfl := Option.some.inj H
    go_enter Try.func65, Try.ntmps65
    go_wp2_with (first | ((with_reducible refine gate_dst (N := 2) rfl ?_); (try (refine gate_guard (by rfl) ?_; dsimp only)); refine box_event ?hg (N := 2) ?hd (cs := #[.int .u64 a0_0, .int .u64 a0_1]) (t := 25) ?hr ?_; (case hd => rfl); (case hg => rfl); (case hr => first | (go_simp; done) | (go_simp; rfl)); intro gb1033 hg w5 hbox hb; have n0_ := Aside0.mk (below_step (by repeat (first | (with_reducible first | exact HB.out | apply below_alloc | apply pw_below_drewN | apply below_drew1) | exact HB.out)) hb); have n1_ := Aside0.mk (hbox); have n2_ := Aside0.mk ((by rw [hg]; exact (below_size (by repeat (first | (with_reducible first | exact HB.out | apply below_alloc | apply pw_below_drewN | apply below_drew1) | exact HB.out))) : w.heap.size ≤ gb1033)); have n3_ := Aside0.mk ((by rw [hg]; exact (below_size (by repeat (first | (with_reducible first | exact HB.out | apply below_alloc | apply pw_below_drewN | apply below_drew1) | exact HB.out))) : w.heap.size ≤ gb1033)); clear HB; have HB := n0_; have BK1033 := n1_; have GW1033 := n2_; have GE1033 := n3_; clear n0_ n1_ n2_ n3_; clear hb hbox hg; have hcz6_0 : w5.cell? ⟨gb1033, 0, none⟩ = some (.int .u64 a0_0) := (blk_cell BK1033.out 0).trans rfl; have hcz6_1 : w5.cell? ⟨gb1033, 1, none⟩ = some (.int .u64 a0_1) := (blk_cell BK1033.out 1).trans rfl; have hfz6_0 := blk_frozen BK1033.out 0; have hfz6_1 := blk_frozen BK1033.out 1) | ((with_reducible refine gate_callee (f := 63) rfl ?_); refine goesL_ (some 7) rfl rfl Try.func63 (by kernel_rfl) rfl #[.agg #[.int .u64 a0_0, .int .u64 a0_1]] rfl (by (try simp only [List.map_toArray, List.map_cons, List.map_nil]); first | done | rfl | (simp only [List.length_drop, List.length_take]; rfl)) ?_; (with_reducible refine (paymasterref02_Text.calls k a0_0 a0_1 t1034 _ A3.out).mono ?_); rintro e w7 ⟨rfl, hb⟩; refine ⟨_, rfl, ?_⟩; have n0_ := Aside0.mk (blk_below (g := gb1033) (o := .cells #[.int .u64 a0_0, .int .u64 a0_1] 25 (0, 0)) (by (with_reducible repeat (first | refine blk_drewN ?_ _ | refine blk_drew ?_ | refine blk_alloc ?_ _)); exact BK1033.out) hb); have n1_ := Aside0.mk (below_step (by repeat (first | (with_reducible first | exact HB.out | apply below_alloc | apply pw_below_drewN | apply below_drew1 | refine below_set ?_ GE1033.out) | exact HB.out)) hb); clear BK1033; clear HB; have BK1033 := n0_; have HB := n1_; clear n0_ n1_; (try clear hb); (try clear hb2); (try clear hk); (try clear hi)))
    go_ret
    exact ⟨by first | rfl | (simp [errW_none, errW_some] <;> rfl) | (simp [*, errW_none, errW_some] <;> rfl), by repeat (first | (with_reducible first | exact HB.out | apply below_alloc | apply pw_below_drewN | apply below_drew1 | refine below_set ?_ GE1033.out) | exact HB.out)⟩
  · rw [if_neg c4] at H
    have c4b0 : decide (a1 < 0) = false := decide_eq_false c4
    clear c4
    by_cases c8 : a1 ≥ (t1034.size : Int)
    · rw [if_pos c8] at H
      have c8b0 : decide ((t1034.size : Int) ≤ a1) = true := decide_eq_true c8
      clear c8
      obtain rfl := Option.some.inj H
      go_enter Try.func65, Try.ntmps65
      go_wp2_with (first | ((with_reducible refine gate_dst (N := 2) rfl ?_); (try (refine gate_guard (by rfl) ?_; dsimp only)); refine box_event ?hg (N := 2) ?hd (cs := #[.int .u64 a0_0, .int .u64 a0_1]) (t := 25) ?hr ?_; (case hd => rfl); (case hg => rfl); (case hr => first | (go_simp; done) | (go_simp; rfl)); intro gb1033 hg w9 hbox hb; have n0_ := Aside0.mk (below_step (by repeat (first | (with_reducible first | exact HB.out | apply below_alloc | apply pw_below_drewN | apply below_drew1) | exact HB.out)) hb); have n1_ := Aside0.mk (hbox); have n2_ := Aside0.mk ((by rw [hg]; exact (below_size (by repeat (first | (with_reducible first | exact HB.out | apply below_alloc | apply pw_below_drewN | apply below_drew1) | exact HB.out))) : w.heap.size ≤ gb1033)); have n3_ := Aside0.mk ((by rw [hg]; exact (below_size (by repeat (first | (with_reducible first | exact HB.out | apply below_alloc | apply pw_below_drewN | apply below_drew1) | exact HB.out))) : w.heap.size ≤ gb1033)); clear HB; have HB := n0_; have BK1033 := n1_; have GW1033 := n2_; have GE1033 := n3_; clear n0_ n1_ n2_ n3_; clear hb hbox hg; have hcz10_0 : w9.cell? ⟨gb1033, 0, none⟩ = some (.int .u64 a0_0) := (blk_cell BK1033.out 0).trans rfl; have hcz10_1 : w9.cell? ⟨gb1033, 1, none⟩ = some (.int .u64 a0_1) := (blk_cell BK1033.out 1).trans rfl; have hfz10_0 := blk_frozen BK1033.out 0; have hfz10_1 := blk_frozen BK1033.out 1) | ((with_reducible refine gate_callee (f := 63) rfl ?_); refine goesL_ (some 7) rfl rfl Try.func63 (by kernel_rfl) rfl #[.agg #[.int .u64 a0_0, .int .u64 a0_1]] rfl (by (try simp only [List.map_toArray, List.map_cons, List.map_nil]); first | done | rfl | (simp only [List.length_drop, List.length_take]; rfl)) ?_; (with_reducible refine (paymasterref02_Text.calls k a0_0 a0_1 t1034 _ A3.out).mono ?_); rintro e w11 ⟨rfl, hb⟩; refine ⟨_, rfl, ?_⟩; have n0_ := Aside0.mk (blk_below (g := gb1033) (o := .cells #[.int .u64 a0_0, .int .u64 a0_1] 25 (0, 0)) (by (with_reducible repeat (first | refine blk_drewN ?_ _ | refine blk_drew ?_ | refine blk_alloc ?_ _)); exact BK1033.out) hb); have n1_ := Aside0.mk (below_step (by repeat (first | (with_reducible first | exact HB.out | apply below_alloc | apply pw_below_drewN | apply below_drew1 | refine below_set ?_ GE1033.out) | exact HB.out)) hb); clear BK1033; clear HB; have BK1033 := n0_; have HB := n1_; clear n0_ n1_; (try clear hb); (try clear hb2); (try clear hk); (try clear hi)))
      go_ret
      exact ⟨by first | rfl | (simp [errW_none, errW_some] <;> rfl) | (simp [*, errW_none, errW_some] <;> rfl), by repeat (first | (with_reducible first | exact HB.out | apply below_alloc | apply pw_below_drewN | apply below_drew1 | refine below_set ?_ GE1033.out) | exact HB.out)⟩
    · rw [if_neg c8] at H
      have c8b0 : decide ((t1034.size : Int) ≤ a1) = false := decide_eq_false c8
      clear c8
      obtain ⟨ji12, hji12⟩ : ∃ j_ : Int, (wrap64 ((wrap64 ((t1034.size : Int) - 1)) - a1)) = j_ := ⟨_, rfl⟩
      replace H : (if 0 ≤ (ji12) then (if (ji12) < (t1034.size : Int) then (some (((bt t1034 (ji12)) - 48) % 256)) else (none)) else (none)) = some r := by first | (rw [hji12] at H; exact H) | (simp only [hji12] at H ⊢; exact H)
      (try rw [hji12] at A3)
      have hji12w : (IntKind.i64.wrap ((wrap64 ((t1034.size : Int) - 1)) - a1)) = ji12 := (i64_w _).trans hji12
      by_cases c13 : 0 ≤ (ji12)
      · rw [if_pos c13] at H
        have c13b0 : decide (0 ≤ (ji12)) = true := decide_eq_true c13
        clear c13
        by_cases c14 : (ji12) < (t1034.size : Int)
        · rw [if_pos c14] at H
          have c14b0 : decide ((ji12) < (t1034.size : Int)) = true := decide_eq_true c14
          clear c14
          obtain rfl := Option.some.inj H
          go_enter Try.func65, Try.ntmps65
          go_wp2_with (first | ((with_reducible refine gate_dst (N := 2) rfl ?_); (try (refine gate_guard (by rfl) ?_; dsimp only)); refine box_event ?hg (N := 2) ?hd (cs := #[.int .u64 a0_0, .int .u64 a0_1]) (t := 25) ?hr ?_; (case hd => rfl); (case hg => rfl); (case hr => first | (go_simp; done) | (go_simp; rfl)); intro gb1033 hg w16 hbox hb; have n0_ := Aside0.mk (below_step (by repeat (first | (with_reducible first | exact HB.out | apply below_alloc | apply pw_below_drewN | apply below_drew1) | exact HB.out)) hb); have n1_ := Aside0.mk (hbox); have n2_ := Aside0.mk ((by rw [hg]; exact (below_size (by repeat (first | (with_reducible first | exact HB.out | apply below_alloc | apply pw_below_drewN | apply below_drew1) | exact HB.out))) : w.heap.size ≤ gb1033)); have n3_ := Aside0.mk ((by rw [hg]; exact (below_size (by repeat (first | (with_reducible first | exact HB.out | apply below_alloc | apply pw_below_drewN | apply below_drew1) | exact HB.out))) : w.heap.size ≤ gb1033)); clear HB; have HB := n0_; have BK1033 := n1_; have GW1033 := n2_; have GE1033 := n3_; clear n0_ n1_ n2_ n3_; clear hb hbox hg; have hcz17_0 : w16.cell? ⟨gb1033, 0, none⟩ = some (.int .u64 a0_0) := (blk_cell BK1033.out 0).trans rfl; have hcz17_1 : w16.cell? ⟨gb1033, 1, none⟩ = some (.int .u64 a0_1) := (blk_cell BK1033.out 1).trans rfl; have hfz17_0 := blk_frozen BK1033.out 0; have hfz17_1 := blk_frozen BK1033.out 1) | ((with_reducible refine gate_callee (f := 63) rfl ?_); refine goesL_ (some 7) rfl rfl Try.func63 (by kernel_rfl) rfl #[.agg #[.int .u64 a0_0, .int .u64 a0_1]] rfl (by (try simp only [List.map_toArray, List.map_cons, List.map_nil]); first | done | rfl | (simp only [List.length_drop, List.length_take]; rfl)) ?_; (with_reducible refine (paymasterref02_Text.calls k a0_0 a0_1 t1034 _ A3.out).mono ?_); rintro e w18 ⟨rfl, hb⟩; refine ⟨_, rfl, ?_⟩; have n0_ := Aside0.mk (blk_below (g := gb1033) (o := .cells #[.int .u64 a0_0, .int .u64 a0_1] 25 (0, 0)) (by (with_reducible repeat (first | refine blk_drewN ?_ _ | refine blk_drew ?_ | refine blk_alloc ?_ _)); exact BK1033.out) hb); have n1_ := Aside0.mk (below_step (by repeat (first | (with_reducible first | exact HB.out | apply below_alloc | apply pw_below_drewN | apply below_drew1 | refine below_set ?_ GE1033.out) | exact HB.out)) hb); clear BK1033; clear HB; have BK1033 := n0_; have HB := n1_; clear n0_ n1_; (try clear hb); (try clear hb2); (try clear hk); (try clear hi); have p15 : 0 ≤ ((ji12) : Int) := of_decide_eq_true (by first | (with_reducible assumption) | assumption); have q15 : (ji12) < (t1034.size : Int) := of_decide_eq_true (by first | (with_reducible assumption) | assumption); have hx15 := bt_at t1034 (ji12); replace p15 := eq_true p15; replace q15 := eq_true q15))
          go_ret
          exact ⟨by first | rfl | (simp [errW_none, errW_some] <;> rfl) | (simp only [← hji12]; first | rfl | (simp [errW_none, errW_some] <;> rfl)) | (simp [*, errW_none, errW_some] <;> rfl), by repeat (first | (with_reducible first | exact HB.out | apply below_alloc | apply pw_below_drewN | apply below_drew1 | refine below_set ?_ GE1033.out) | exact HB.out)⟩
        · rw [if_neg c14] at H
          exact absurd H (by simp)
      · rw [if_neg c13] at H
        exact absurd H (by simp)
def paymasterlaw02_DecimalDigits.f (k : Nat) (a0_0 : Int) (a0_1 : Int) (a1 : Int) : Option (Bool) := (decimal_Ten.f k a1).bind fun bt1036 => ((paymasterref02_Ten.f k a1).bind fun bt1040 => ((decimal_Digits.f a0_0 a0_1).bind fun t1044 => ((paymasterref02_Text.f k a0_0 a0_1).bind fun t1045 => (if t1044 = (t1045.size : Int) then ((decimal_Digit.f a0_0 a0_1 a1).bind fun t1046 => ((paymasterref02_Digit.f k a0_0 a0_1 a1).bind fun t1047 => (if t1046 = t1047 then (if (bt1036.1 == bt1040.1 && (bt1036.2.1 == bt1040.2.1)) = true then (some (bt1036.2.2 == bt1040.2.2)) else (none)) else (none)))) else (none)))))
def paymasterlaw02_DecimalDigits.T3 : Bool × List (List Nat × List Nat) := (true, [([], []), ([0], [0]), ([], []), ([2, 1], [2]), ([3], [3]), ([1, 4], [1, 4]), ([5, 3], [5]), ([6], [6]), ([6], [6]), ([7, 8, 6, 6], [6, 7, 8]), ([6], [6]), ([6], [6]), ([10, 11, 9, 6], [6, 10, 11]), ([9, 12, 6], [6, 9, 12]), ([6, 13], [6, 13]), ([14, 12], [14]), ([15], [15]), ([15], [15]), ([16, 17, 15], [15, 16, 17]), ([15, 18], [15, 18]), ([19, 15], [19]), ([20], [20]), ([20], [20]), ([21, 22, 20], [20, 21, 22]), ([20, 23], [20, 23]), ([24, 20, 0, 1, 2, 3, 4, 5, 6, 7, 8, 9, 10, 11, 12, 13, 14, 15, 16, 17, 18, 19, 20, 21, 22, 23, 24], [24])])
def paymasterlaw02_DecimalDigits.B3 : List Nat := [0, 1, 0, 7, 15, 31, 63, 127, 127, 511, 127, 127, 4095, 8191, 16383, 32767, 65535, 65535, 262143, 524287, 1048575, 2097151, 2097151, 8388607, 16777215, 33554431]
theorem paymasterlaw02_DecimalDigits.tab3 : rtab .any (opsOf Try.f12 3) = paymasterlaw02_DecimalDigits.T3 := by kernel_rfl
theorem paymasterlaw02_DecimalDigits.bits3 : waitsOk paymasterlaw02_DecimalDigits.T3.2 paymasterlaw02_DecimalDigits.B3 = true := by kernel_rfl
set_option maxHeartbeats 8000000 in
set_option maxRecDepth 100000 in
theorem paymasterlaw02_DecimalDigits.calls (k : Nat) (a0_0 : Int) (a0_1 : Int) (a1 : Int) (r : Bool) (w : World) (h : paymasterlaw02_DecimalDigits.f k a0_0 a0_1 a1 = some r) :
    Calls Try.prog 12 #[.agg #[.int .u64 a0_0, .int .u64 a0_1], .int .i64 a1] w fun e w' => e = .returned (.bool r) ∧ Below w.heap.size w w' := by
  have hu25 := Try.underlying25
  have HB := Aside0.mk (Below.refl w.heap.size w)
  have H : ((decimal_Ten.f k a1).bind fun bt1036 => ((paymasterref02_Ten.f k a1).bind fun bt1040 => ((decimal_Digits.f a0_0 a0_1).bind fun t1044 => ((paymasterref02_Text.f k a0_0 a0_1).bind fun t1045 => (if t1044 = (t1045.size : Int) then ((decimal_Digit.f a0_0 a0_1 a1).bind fun t1046 => ((paymasterref02_Digit.f k a0_0 a0_1 a1).bind fun t1047 => (if t1046 = t1047 then (if (bt1036.1 == bt1040.1 && (bt1036.2.1 == bt1040.2.1)) = true then (some (bt1036.2.2 == bt1040.2.2)) else (none)) else (none)))) else (none)))))) = some r := h
  clear h
  replace H := Option.bind_eq_some_iff.mp H
  obtain ⟨⟨t1036, t1037, t1038⟩, A30, H⟩ := H
  replace H : ((paymasterref02_Ten.f k a1).bind fun bt1040 => ((decimal_Digits.f a0_0 a0_1).bind fun t1044 => ((paymasterref02_Text.f k a0_0 a0_1).bind fun t1045 => (if t1044 = (t1045.size : Int) then ((decimal_Digit.f a0_0 a0_1 a1).bind fun t1046 => ((paymasterref02_Digit.f k a0_0 a0_1 a1).bind fun t1047 => (if t1046 = t1047 then (if (t1036 == bt1040.1 && (t1037 == bt1040.2.1)) = true then (some (t1038 == bt1040.2.2)) else (none)) else (none)))) else (none))))) = some r := H
  have A3 := Aside0.mk A30
  clear A30
  replace H := Option.bind_eq_some_iff.mp H
  obtain ⟨⟨t1040, t1041, t1042⟩, A40, H⟩ := H
  replace H : ((decimal_Digits.f a0_0 a0_1).bind fun t1044 => ((paymasterref02_Text.f k a0_0 a0_1).bind fun t1045 => (if t1044 = (t1045.size : Int) then ((decimal_Digit.f a0_0 a0_1 a1).bind fun t1046 => ((paymasterref02_Digit.f k a0_0 a0_1 a1).bind fun t1047 => (if t1046 = t1047 then (if (t1036 == t1040 && (t1037 == t1041)) = true then (some (t1038 == t1042)) else (none)) else (none)))) else (none)))) = some r := H
  have A4 := Aside0.mk A40
  clear A40
  replace H := Option.bind_eq_some_iff.mp H
  obtain ⟨t1044, A50, H⟩ := H
  replace H : ((paymasterref02_Text.f k a0_0 a0_1).bind fun t1045 => (if t1044 = (t1045.size : Int) then ((decimal_Digit.f a0_0 a0_1 a1).bind fun t1046 => ((paymasterref02_Digit.f k a0_0 a0_1 a1).bind fun t1047 => (if t1046 = t1047 then (if (t1036 == t1040 && (t1037 == t1041)) = true then (some (t1038 == t1042)) else (none)) else (none)))) else (none))) = some r := H
  have A5 := Aside0.mk A50
  clear A50
  replace H := Option.bind_eq_some_iff.mp H
  obtain ⟨t1045, A60, H⟩ := H
  replace H : (if t1044 = (t1045.size : Int) then ((decimal_Digit.f a0_0 a0_1 a1).bind fun t1046 => ((paymasterref02_Digit.f k a0_0 a0_1 a1).bind fun t1047 => (if t1046 = t1047 then (if (t1036 == t1040 && (t1037 == t1041)) = true then (some (t1038 == t1042)) else (none)) else (none)))) else (none)) = some r := H
  have A6 := Aside0.mk A60
  clear A60
  by_cases c7 : t1044 = (t1045.size : Int)
  · rw [if_pos c7] at H
    have c7b0 : (t1044 == (t1045.size : Int)) = true := beq_iff_eq.mpr c7
    have c7b1 : (t1044 != (t1045.size : Int)) = false := bne_eq_false_iff_eq.mpr c7
    clear c7
    replace H := Option.bind_eq_some_iff.mp H
    obtain ⟨t1046, A80, H⟩ := H
    replace H : ((paymasterref02_Digit.f k a0_0 a0_1 a1).bind fun t1047 => (if t1046 = t1047 then (if (t1036 == t1040 && (t1037 == t1041)) = true then (some (t1038 == t1042)) else (none)) else (none))) = some r := H
    have A8 := Aside0.mk A80
    clear A80
    replace H := Option.bind_eq_some_iff.mp H
    obtain ⟨t1047, A90, H⟩ := H
    replace H : (if t1046 = t1047 then (if (t1036 == t1040 && (t1037 == t1041)) = true then (some (t1038 == t1042)) else (none)) else (none)) = some r := H
    have A9 := Aside0.mk A90
    clear A90
    by_cases c10 : t1046 = t1047
    · rw [if_pos c10] at H
      have c10b0 : (t1046 == t1047) = true := beq_iff_eq.mpr c10
      have c10b1 : (t1046 != t1047) = false := bne_eq_false_iff_eq.mpr c10
      clear c10
      by_cases c11 : (t1036 == t1040 && (t1037 == t1041)) = true
      · rw [if_pos c11] at H
        have c11b0 : (t1036 == t1040 && (t1037 == t1041)) = true := c11
        (try (have c11b1 : decide (t1036 = t1040 && (t1037 == t1041)) = true := by simpa using c11))
        (try (have c11b2 : (t1036 == t1040 && (t1037 == t1041)) = true := by simpa using c11))
        clear c11
        obtain rfl := Option.some.inj H
        go_enter Try.func12, Try.ntmps12
        try go_wp2_with (first | ((with_reducible refine gate_dst (N := 2) rfl ?_); refine box_event ?hg (N := 2) ?hd (cs := #[.int .u64 a0_0, .int .u64 a0_1]) (t := 25) ?hr ?_; (case hd => rfl); (case hg => rfl); (case hr => first | (go_simp; done) | (go_simp; rfl)); intro gb1035 hg w12 hbox hb; have n0_ := Aside0.mk (below_step (by repeat (first | (with_reducible first | exact HB.out | apply below_alloc | apply pw_below_drewN | apply below_drew1) | exact HB.out)) hb); have n1_ := Aside0.mk (hbox); have n2_ := Aside0.mk ((by rw [hg]; exact (below_size (by repeat (first | (with_reducible first | exact HB.out | apply below_alloc | apply pw_below_drewN | apply below_drew1) | exact HB.out))) : w.heap.size ≤ gb1035)); have n3_ := Aside0.mk ((by rw [hg]; exact (below_size (by repeat (first | (with_reducible first | exact HB.out | apply below_alloc | apply pw_below_drewN | apply below_drew1) | exact HB.out))) : w.heap.size ≤ gb1035)); clear HB; have HB := n0_; have BK1035 := n1_; have GW1035 := n2_; have GE1035 := n3_; clear n0_ n1_ n2_ n3_; clear hb hbox hg) | ((with_reducible refine gate_callee (f := 60) rfl ?_); refine goesL_ (some 11) rfl rfl Try.func60 (by kernel_rfl) rfl #[.int .i64 a1] rfl (by (try simp only [List.map_toArray, List.map_cons, List.map_nil]); first | done | rfl | (simp only [List.length_drop, List.length_take]; rfl)) ?_; (with_reducible refine (decimal_Ten.calls k a1 t1036 t1037 t1038 _ A3.out).mono ?_); rintro e w13 ⟨rfl, hb⟩; refine ⟨_, rfl, ?_⟩; have n0_ := Aside0.mk (blk_below (g := gb1035) (o := .cells #[.int .u64 a0_0, .int .u64 a0_1] 25 (0, 0)) (by (with_reducible repeat (first | refine blk_drewN ?_ _ | refine blk_drew ?_ | refine blk_alloc ?_ _)); exact BK1035.out) hb); have n1_ := Aside0.mk (below_step (by repeat (first | (with_reducible first | exact HB.out | apply below_alloc | apply pw_below_drewN | apply below_drew1 | refine below_set ?_ GE1035.out) | exact HB.out)) hb); clear BK1035; clear HB; have BK1035 := n0_; have HB := n1_; clear n0_ n1_; (try clear hb); (try clear hb2); (try clear hk); (try clear hi)) | ((with_reducible refine gate_dst (N := 5) rfl ?_); refine box_event ?hg (N := 5) ?hd (cs := #[.int .u64 0, .int .u64 0]) (t := 25) ?hr ?_; (case hd => rfl); (case hg => rfl); (case hr => first | (go_simp; done) | (go_simp; rfl)); intro gb1039 hg w14 hbox hb; have n0_ := Aside0.mk (blk_below (g := gb1035) (o := .cells #[.int .u64 a0_0, .int .u64 a0_1] 25 (0, 0)) (by (with_reducible repeat (first | refine blk_drewN ?_ _ | refine blk_drew ?_ | refine blk_alloc ?_ _)); exact BK1035.out) hb); have n1_ := Aside0.mk (below_step (by repeat (first | (with_reducible first | exact HB.out | apply below_alloc | apply pw_below_drewN | apply below_drew1 | refine below_set ?_ GE1035.out) | exact HB.out)) hb); have n2_ := Aside0.mk (hbox); have n3_ := Aside0.mk ((by rw [hg]; exact (below_size (by repeat (first | (with_reducible first | exact HB.out | apply below_alloc | apply pw_below_drewN | apply below_drew1 | refine below_set ?_ GE1035.out) | exact HB.out))) : w.heap.size ≤ gb1039)); have n4_ := Aside0.mk ((by rw [hg]; exact (below_size (by repeat (first | (with_reducible first | exact HB.out | apply below_alloc | apply pw_below_drewN | apply below_drew1 | refine below_set ?_ GE1035.out) | exact HB.out))) : w.heap.size ≤ gb1039)); have n5_ := Aside0.mk ((by rw [hg]; exact Nat.ne_of_lt (blk_lt (g := gb1035) (o := .cells #[.int .u64 a0_0, .int .u64 a0_1] 25 (0, 0)) (by (with_reducible repeat (first | refine blk_drewN ?_ _ | refine blk_drew ?_ | refine blk_alloc ?_ _)); exact BK1035.out)) : gb1035 ≠ gb1039)); have n6_ := Aside0.mk ((by rw [hg]; exact Nat.ne_of_gt (blk_lt (g := gb1035) (o := .cells #[.int .u64 a0_0, .int .u64 a0_1] 25 (0, 0)) (by (with_reducible repeat (first | refine blk_drewN ?_ _ | refine blk_drew ?_ | refine blk_alloc ?_ _)); exact BK1035.out)) : gb1039 ≠ gb1035)); clear BK1035; clear HB; have BK1035 := n0_; have HB := n1_; have BK1039 := n2_; have GW1039 := n3_; have GE1039 := n4_; have NB1035_1039 := n5_; have NB1039_1035 := n6_; clear n0_ n1_ n2_ n3_ n4_ n5_ n6_; clear hb hbox hg; have hnb15 := NB1039_1035.out; have hnc15 := NB1035_1039.out; have hcz16_0 : w14.cell? ⟨gb1039, 0, none⟩ = some (.int .u64 0) := (blk_cell BK1039.out 0).trans rfl; have hcz16_1 : w14.cell? ⟨gb1039, 1, none⟩ = some (.int .u64 0) := (blk_cell BK1039.out 1).trans rfl; have hfz16_0 := blk_frozen BK1039.out 0; have hfz16_1 := blk_frozen BK1039.out 1) | ((with_reducible refine gate_callee (f := 61) rfl ?_); refine goesL_ (some 16) rfl rfl Try.func61 (by kernel_rfl) rfl #[.int .i64 a1] rfl (by (try simp only [List.map_toArray, List.map_cons, List.map_nil]); first | done | rfl | (simp only [List.length_drop, List.length_take]; rfl)) ?_; (with_reducible refine (paymasterref02_Ten.calls k a1 t1040 t1041 t1042 _ A4.out).mono ?_); rintro e w17 ⟨rfl, hb⟩; refine ⟨_, rfl, ?_⟩; have n0_ := Aside0.mk (blk_below (g := gb1035) (o := .cells #[.int .u64 a0_0, .int .u64 a0_1] 25 (0, 0)) (by (with_reducible repeat (first | refine blk_drewN ?_ _ | refine blk_drew ?_ | refine blk_alloc ?_ _)); refine blk_far ?_ NB1035_1039.out _; (with_reducible repeat (first | refine blk_drewN ?_ _ | refine blk_drew ?_ | refine blk_alloc ?_ _)); refine blk_far ?_ NB1035_1039.out _; (with_reducible repeat (first | refine blk_drewN ?_ _ | refine blk_drew ?_ | refine blk_alloc ?_ _)); exact BK1035.out) hb); have n1_ := Aside0.mk (blk_below (g := gb1039) (o := .cells #[.int .u64 t1036, .int .u64 t1037] 25 (0, 0)) (by (with_reducible repeat (first | refine blk_drewN ?_ _ | refine blk_drew ?_ | refine blk_alloc ?_ _)); refine blk_put (cs := #[.int .u64 t1036, .int .u64 0]) ?_ 1 _ rfl; (with_reducible repeat (first | refine blk_drewN ?_ _ | refine blk_drew ?_ | refine blk_alloc ?_ _)); refine blk_put (cs := #[.int .u64 0, .int .u64 0]) ?_ 0 _ rfl; (with_reducible repeat (first | refine blk_drewN ?_ _ | refine blk_drew ?_ | refine blk_alloc ?_ _)); exact BK1039.out) hb); have n2_ := Aside0.mk (below_step (by repeat (first | (with_reducible first | exact HB.out | apply below_alloc | apply pw_below_drewN | apply below_drew1 | refine below_set ?_ GE1035.out | refine below_set ?_ GE1039.out) | exact HB.out)) hb); clear BK1035; clear BK1039; clear HB; have BK1035 := n0_; have BK1039 := n1_; have HB := n2_; clear n0_ n1_ n2_; (try clear hb); (try clear hb2); (try clear hk); (try clear hi)) | ((with_reducible refine gate_dst (N := 7) rfl ?_); refine box_event ?hg (N := 7) ?hd (cs := #[.int .u64 0, .int .u64 0]) (t := 25) ?hr ?_; (case hd => rfl); (case hg => rfl); (case hr => first | (go_simp; done) | (go_simp; rfl)); intro gb1043 hg w18 hbox hb; have n0_ := Aside0.mk (blk_below (g := gb1035) (o := .cells #[.int .u64 a0_0, .int .u64 a0_1] 25 (0, 0)) (by (with_reducible repeat (first | refine blk_drewN ?_ _ | refine blk_drew ?_ | refine blk_alloc ?_ _)); exact BK1035.out) hb); have n1_ := Aside0.mk (blk_below (g := gb1039) (o := .cells #[.int .u64 t1036, .int .u64 t1037] 25 (0, 0)) (by (with_reducible repeat (first | refine blk_drewN ?_ _ | refine blk_drew ?_ | refine blk_alloc ?_ _)); exact BK1039.out) hb); have n2_ := Aside0.mk (below_step (by repeat (first | (with_reducible first | exact HB.out | apply below_alloc | apply pw_below_drewN | apply below_drew1 | refine below_set ?_ GE1035.out | refine below_set ?_ GE1039.out) | exact HB.out)) hb); have n3_ := Aside0.mk (hbox); have n4_ := Aside0.mk ((by rw [hg]; exact (below_size (by repeat (first | (with_reducible first | exact HB.out | apply below_alloc | apply pw_below_drewN | apply below_drew1 | refine below_set ?_ GE1035.out | refine below_set ?_ GE1039.out) | exact HB.out))) : w.heap.size ≤ gb1043)); have n5_ := Aside0.mk ((by rw [hg]; exact (below_size (by repeat (first | (with_reducible first | exact HB.out | apply below_alloc | apply pw_below_drewN | apply below_drew1 | refine below_set ?_ GE1035.out | refine below_set ?_ GE1039.out) | exact HB.out))) : w.heap.size ≤ gb1043)); have n6_ := Aside0.mk ((by rw [hg]; exact Nat.ne_of_lt (blk_lt (g := gb1035) (o := .cells #[.int .u64 a0_0, .int .u64 a0_1] 25 (0, 0)) (by (with_reducible repeat (first | refine blk_drewN ?_ _ | refine blk_drew ?_ | refine blk_alloc ?_ _)); exact BK1035.out)) : gb1035 ≠ gb1043)); have n7_ := Aside0.mk ((by rw [hg]; exact Nat.ne_of_gt (blk_lt (g := gb1035) (o := .cells #[.int .u64 a0_0, .int .u64 a0_1] 25 (0, 0)) (by (with_reducible repeat (first | refine blk_drewN ?_ _ | refine blk_drew ?_ | refine blk_alloc ?_ _)); exact BK1035.out)) : gb1043 ≠ gb1035)); have n8_ := Aside0.mk ((by rw [hg]; exact Nat.ne_of_lt (blk_lt (g := gb1039) (o := .cells #[.int .u64 t1036, .int .u64 t1037] 25 (0, 0)) (by (with_reducible repeat (first | refine blk_drewN ?_ _ | refine blk_drew ?_ | refine blk_alloc ?_ _)); exact BK1039.out)) : gb1039 ≠ gb1043)); have n9_ := Aside0.mk ((by rw [hg]; exact Nat.ne_of_gt (blk_lt (g := gb1039) (o := .cells #[.int .u64 t1036, .int .u64 t1037] 25 (0, 0)) (by (with_reducible repeat (first | refine blk_drewN ?_ _ | refine blk_drew ?_ | refine blk_alloc ?_ _)); exact BK1039.out)) : gb1043 ≠ gb1039)); clear BK1035; clear BK1039; clear HB; have BK1035 := n0_; have BK1039 := n1_; have HB := n2_; have BK1043 := n3_; have GW1043 := n4_; have GE1043 := n5_; have NB1035_1043 := n6_; have NB1043_1035 := n7_; have NB1039_1043 := n8_; have NB1043_1039 := n9_; clear n0_ n1_ n2_ n3_ n4_ n5_ n6_ n7_ n8_ n9_; clear hb hbox hg; have hnb19 := NB1043_1035.out; have hnc19 := NB1035_1043.out; have hnb20 := NB1043_1039.out; have hnc20 := NB1039_1043.out; have hcz21_0 : w18.cell? ⟨gb1043, 0, none⟩ = some (.int .u64 0) := (blk_cell BK1043.out 0).trans rfl; have hcz21_1 : w18.cell? ⟨gb1043, 1, none⟩ = some (.int .u64 0) := (blk_cell BK1043.out 1).trans rfl; have hfz21_0 := blk_frozen BK1043.out 0; have hfz21_1 := blk_frozen BK1043.out 1))
        have n0_ : Aside0 (((w18.setCell ⟨gb1043, 0, none⟩ (.int .u64 t1040)).setCell ⟨gb1043, 1, none⟩ (.int .u64 t1041)).heap[gb1035]? = some (.cells #[.int .u64 a0_0, .int .u64 a0_1] 25 (0, 0))) := ⟨by (with_reducible repeat (first | refine blk_drewN ?_ _ | refine blk_drew ?_ | refine blk_alloc ?_ _)); refine blk_far ?_ NB1035_1043.out _; (with_reducible repeat (first | refine blk_drewN ?_ _ | refine blk_drew ?_ | refine blk_alloc ?_ _)); refine blk_far ?_ NB1035_1043.out _; (with_reducible repeat (first | refine blk_drewN ?_ _ | refine blk_drew ?_ | refine blk_alloc ?_ _)); exact BK1035.out⟩
        have n1_ : Aside0 (((w18.setCell ⟨gb1043, 0, none⟩ (.int .u64 t1040)).setCell ⟨gb1043, 1, none⟩ (.int .u64 t1041)).heap[gb1039]? = some (.cells #[.int .u64 t1036, .int .u64 t1037] 25 (0, 0))) := ⟨by (with_reducible repeat (first | refine blk_drewN ?_ _ | refine blk_drew ?_ | refine blk_alloc ?_ _)); refine blk_far ?_ NB1039_1043.out _; (with_reducible repeat (first | refine blk_drewN ?_ _ | refine blk_drew ?_ | refine blk_alloc ?_ _)); refine blk_far ?_ NB1039_1043.out _; (with_reducible repeat (first | refine blk_drewN ?_ _ | refine blk_drew ?_ | refine blk_alloc ?_ _)); exact BK1039.out⟩
        have n2_ : Aside0 (((w18.setCell ⟨gb1043, 0, none⟩ (.int .u64 t1040)).setCell ⟨gb1043, 1, none⟩ (.int .u64 t1041)).heap[gb1043]? = some (.cells #[.int .u64 t1040, .int .u64 t1041] 25 (0, 0))) := ⟨by (with_reducible repeat (first | refine blk_drewN ?_ _ | refine blk_drew ?_ | refine blk_alloc ?_ _)); refine blk_put (cs := #[.int .u64 t1040, .int .u64 0]) ?_ 1 _ rfl; (with_reducible repeat (first | refine blk_drewN ?_ _ | refine blk_drew ?_ | refine blk_alloc ?_ _)); refine blk_put (cs := #[.int .u64 0, .int .u64 0]) ?_ 0 _ rfl; (with_reducible repeat (first | refine blk_drewN ?_ _ | refine blk_drew ?_ | refine blk_alloc ?_ _)); exact BK1043.out⟩
        have n3_ : Aside0 (Below w.heap.size w ((w18.setCell ⟨gb1043, 0, none⟩ (.int .u64 t1040)).setCell ⟨gb1043, 1, none⟩ (.int .u64 t1041))) := ⟨by repeat (first | (with_reducible first | exact HB.out | apply below_alloc | apply pw_below_drewN | apply below_drew1 | refine below_set ?_ GE1035.out | refine below_set ?_ GE1039.out | refine below_set ?_ GE1043.out) | exact HB.out)⟩
        (try clear BK1035)
        (try clear BK1039)
        (try clear BK1043)
        (try clear HB)
        generalize ((w18.setCell ⟨gb1043, 0, none⟩ (.int .u64 t1040)).setCell ⟨gb1043, 1, none⟩ (.int .u64 t1041)) = w22 at n0_ n1_ n2_ n3_ ⊢
        have BK1035 := n0_
        have BK1039 := n1_
        have BK1043 := n2_
        have HB := n3_
        clear n0_ n1_ n2_ n3_
        have n0_ := Aside0.mk (blk_drew BK1035.out)
        have n1_ := Aside0.mk (blk_drew BK1039.out)
        have n2_ := Aside0.mk (blk_drew BK1043.out)
        have n3_ := Aside0.mk (below_drew1 HB.out)
        clear BK1035
        clear BK1039
        clear BK1043
        clear HB
        have BK1035 := n0_
        have BK1039 := n1_
        have BK1043 := n2_
        have HB := n3_
        clear n0_ n1_ n2_ n3_
        refine start_ (n := 26) (S := fun w' => w'.cell? ⟨gb1035, 0, none⟩ = some (.int .u64 a0_0) ∧ w'.cell? ⟨gb1035, 1, none⟩ = some (.int .u64 a0_1) ∧ w'.cell? ⟨gb1039, 0, none⟩ = some (.int .u64 t1036) ∧ w'.cell? ⟨gb1039, 1, none⟩ = some (.int .u64 t1037) ∧ w'.cell? ⟨gb1043, 0, none⟩ = some (.int .u64 t1040) ∧ w'.cell? ⟨gb1043, 1, none⟩ = some (.int .u64 t1041)) (ds := []) #[false, false, false, false, false, false, false, false, false, false, false, false, false, false, false, false, false, false, false, false, false, false, false, false, false, false] (by kernel_rfl) rfl rfl ⟨(blk_cell BK1035.out 0).trans rfl, (blk_cell BK1035.out 1).trans rfl, (blk_cell BK1039.out 0).trans rfl, (blk_cell BK1039.out 1).trans rfl, (blk_cell BK1043.out 0).trans rfl, (blk_cell BK1043.out 1).trans rfl⟩ (fun hHeld => ?_); refine with_tabW paymasterlaw02_DecimalDigits.tab3 paymasterlaw02_DecimalDigits.bits3 (fun HT_ HW_ => ?_)
        generalize w22.drew = w23 at BK1035 BK1039 BK1043 HB hHeld ⊢
        refine take_ (i := 0) (N := some 19) (v := ?_) (a' := ?_) #[true, false, false, false, false, false, false, false, false, false, false, false, false, false, false, false, false, false, false, false, false, false, false, false, false, false] rfl rfl (take_ofW HT_.out HW_.out (by kernel_rfl)) (fun _ _ _ h => h) (Or.inl ⟨by rfl, ?_⟩) hHeld ?_ ?_
        rotate_left
        · rintro w' ⟨s0, s1, s2, s3, s4, s5⟩
          go_simp
          with_reducible rfl
        rotate_left
        · simp only [Act.put, List.setIfInBounds_toArray, List.set_cons_zero, List.set_cons_succ, i64_w, i32_w]
          rfl
        refine take_ (i := 2) (N := some 21) (v := ?_) (a' := ?_) #[true, false, true, false, false, false, false, false, false, false, false, false, false, false, false, false, false, false, false, false, false, false, false, false, false, false] rfl rfl (take_ofW HT_.out HW_.out (by kernel_rfl)) (fun _ _ _ h => h) (Or.inl ⟨by rfl, ?_⟩) hHeld ?_ ?_
        rotate_left
        · rintro w' ⟨s0, s1, s2, s3, s4, s5⟩
          go_simp
          with_reducible rfl
        rotate_left
        · simp only [Act.put, List.setIfInBounds_toArray, List.set_cons_zero, List.set_cons_succ, i64_w, i32_w]
          rfl
        refine one_ (i := 1) (N := some 20) #[true, true, true, false, false, false, false, false, false, false, false, false, false, false, false, false, false, false, false, false, false, false, false, false, false, false] rfl rfl (one_of HT_.out (by kernel_rfl)) (by decide) (fun K hK => ?_)
        refine goes_ Try.func62 (by kernel_rfl) rfl #[.agg #[.int .u64 a0_0, .int .u64 a0_1]] (by rfl) rfl rfl (by (try simp only [List.map_toArray, List.map_cons, List.map_nil]); first | done | rfl | (simp only [List.length_drop, List.length_take]; rfl)) ?_
        with_reducible refine (decimal_Digits.calls a0_0 a0_1 t1044 _ A5.out).mono ?_
        rintro e w24 ⟨rfl, hb⟩
        refine ⟨_, rfl, ?_⟩
        have n0_ := Aside0.mk (blk_below (g := gb1035) (o := .cells #[.int .u64 a0_0, .int .u64 a0_1] 25 (0, 0)) (by (with_reducible repeat (first | refine blk_drewN ?_ _ | refine blk_drew ?_ | refine blk_alloc ?_ _)); exact BK1035.out) hb)
        have n1_ := Aside0.mk (blk_below (g := gb1039) (o := .cells #[.int .u64 t1036, .int .u64 t1037] 25 (0, 0)) (by (with_reducible repeat (first | refine blk_drewN ?_ _ | refine blk_drew ?_ | refine blk_alloc ?_ _)); exact BK1039.out) hb)
        have n2_ := Aside0.mk (blk_below (g := gb1043) (o := .cells #[.int .u64 t1040, .int .u64 t1041] 25 (0, 0)) (by (with_reducible repeat (first | refine blk_drewN ?_ _ | refine blk_drew ?_ | refine blk_alloc ?_ _)); exact BK1043.out) hb)
        have n3_ := Aside0.mk (below_step (by repeat (first | (with_reducible first | exact HB.out | apply below_alloc | apply pw_below_drewN | apply below_drew1 | refine below_set ?_ GE1035.out | refine below_set ?_ GE1039.out | refine below_set ?_ GE1043.out) | exact HB.out)) hb)
        clear BK1035
        clear BK1039
        clear BK1043
        clear HB
        have BK1035 := n0_
        have BK1039 := n1_
        have BK1043 := n2_
        have HB := n3_
        clear n0_ n1_ n2_ n3_
        (try clear hb)
        (try clear hb2)
        (try clear hk)
        (try clear hi)
        refine hK.out _ _ ⟨(blk_cell BK1035.out 0).trans rfl, (blk_cell BK1035.out 1).trans rfl, (blk_cell BK1039.out 0).trans rfl, (blk_cell BK1039.out 1).trans rfl, (blk_cell BK1043.out 0).trans rfl, (blk_cell BK1043.out 1).trans rfl⟩ (fun hHeld => ?_)
        clear hK K
        refine norm_ (a' := ?_) ?_ ?_
        rotate_left
        · show Act.put _ (some 20) _ = _
          simp only [Act.put, List.setIfInBounds_toArray, List.set_cons_zero, List.set_cons_succ, i64_w, i32_w]
          rfl
        refine one_ (i := 3) (N := some 22) #[true, true, true, true, false, false, false, false, false, false, false, false, false, false, false, false, false, false, false, false, false, false, false, false, false, false] rfl rfl (one_of HT_.out (by kernel_rfl)) (by decide) (fun K hK => ?_)
        refine goes_ Try.func63 (by kernel_rfl) rfl #[.agg #[.int .u64 a0_0, .int .u64 a0_1]] (by rfl) rfl rfl (by (try simp only [List.map_toArray, List.map_cons, List.map_nil]); first | done | rfl | (simp only [List.length_drop, List.length_take]; rfl)) ?_
        with_reducible refine (paymasterref02_Text.calls k a0_0 a0_1 t1045 _ A6.out).mono ?_
        rintro e w25 ⟨rfl, hb⟩
        refine ⟨_, rfl, ?_⟩
        have n0_ := Aside0.mk (blk_below (g := gb1035) (o := .cells #[.int .u64 a0_0, .int .u64 a0_1] 25 (0, 0)) (by (with_reducible repeat (first | refine blk_drewN ?_ _ | refine blk_drew ?_ | refine blk_alloc ?_ _)); exact BK1035.out) hb)
        have n1_ := Aside0.mk (blk_below (g := gb1039) (o := .cells #[.int .u64 t1036, .int .u64 t1037] 25 (0, 0)) (by (with_reducible repeat (first | refine blk_drewN ?_ _ | refine blk_drew ?_ | refine blk_alloc ?_ _)); exact BK1039.out) hb)
        have n2_ := Aside0.mk (blk_below (g := gb1043) (o := .cells #[.int .u64 t1040, .int .u64 t1041] 25 (0, 0)) (by (with_reducible repeat (first | refine blk_drewN ?_ _ | refine blk_drew ?_ | refine blk_alloc ?_ _)); exact BK1043.out) hb)
        have n3_ := Aside0.mk (below_step (by repeat (first | (with_reducible first | exact HB.out | apply below_alloc | apply pw_below_drewN | apply below_drew1 | refine below_set ?_ GE1035.out | refine below_set ?_ GE1039.out | refine below_set ?_ GE1043.out) | exact HB.out)) hb)
        clear BK1035
        clear BK1039
        clear BK1043
        clear HB
        have BK1035 := n0_
        have BK1039 := n1_
        have BK1043 := n2_
        have HB := n3_
        clear n0_ n1_ n2_ n3_
        (try clear hb)
        (try clear hb2)
        (try clear hk)
        (try clear hi)
        refine hK.out _ _ ⟨(blk_cell BK1035.out 0).trans rfl, (blk_cell BK1035.out 1).trans rfl, (blk_cell BK1039.out 0).trans rfl, (blk_cell BK1039.out 1).trans rfl, (blk_cell BK1043.out 0).trans rfl, (blk_cell BK1043.out 1).trans rfl⟩ (fun hHeld => ?_)
        clear hK K
        refine norm_ (a' := ?_) ?_ ?_
        rotate_left
        · show Act.put _ (some 22) _ = _
          simp only [Act.put, List.setIfInBounds_toArray, List.set_cons_zero, List.set_cons_succ, i64_w, i32_w]
          rfl
        refine pure_ (i := 4) (N := some 23) (v := ?_) (a' := ?_) #[true, true, true, true, true, false, false, false, false, false, false, false, false, false, false, false, false, false, false, false, false, false, false, false, false, false] rfl rfl (any_of HT_.out (by kernel_rfl)) (fun _ _ _ h => h) (Or.inl ⟨by rfl, ?_⟩) ?_ ?_
        rotate_left
        · intro w'
          go_simp
          with_reducible rfl
        rotate_left
        · simp only [Act.put, List.setIfInBounds_toArray, List.set_cons_zero, List.set_cons_succ, i64_w, i32_w]
          rfl
        refine pure_ (i := 5) (N := some 24) (v := ?_) (a' := ?_) #[true, true, true, true, true, true, false, false, false, false, false, false, false, false, false, false, false, false, false, false, false, false, false, false, false, false] rfl rfl (any_of HT_.out (by kernel_rfl)) (fun _ _ _ h => h) (Or.inl ⟨by rfl, ?_⟩) ?_ ?_
        rotate_left
        · intro w'
          go_simp
          with_reducible rfl
        rotate_left
        · simp only [Act.put, List.setIfInBounds_toArray, List.set_cons_zero, List.set_cons_succ, i64_w, i32_w]
          rfl
        refine pure_ (i := 6) (N := some 25) (v := ?_) (a' := ?_) #[true, true, true, true, true, true, true, false, false, false, false, false, false, false, false, false, false, false, false, false, false, false, false, false, false, false] rfl rfl (any_of HT_.out (by kernel_rfl)) (fun _ _ _ h => h) (Or.inl ⟨by rfl, ?_⟩) ?_ ?_
        rotate_left
        · intro w'
          go_simp
          with_reducible rfl
        rotate_left
        · simp only [Act.put, List.setIfInBounds_toArray, List.set_cons_zero, List.set_cons_succ, i64_w, i32_w]
          rfl
        refine pure_ (i := 8) (N := some 27) (v := ?_) (a' := ?_) #[true, true, true, true, true, true, true, false, true, false, false, false, false, false, false, false, false, false, false, false, false, false, false, false, false, false] rfl rfl (any_of HT_.out (by kernel_rfl)) (fun _ _ _ h => h) (Or.inl ⟨by rfl, ?_⟩) ?_ ?_
        rotate_left
        · intro w'
          go_simp
          with_reducible rfl
        rotate_left
        · simp only [Act.put, List.setIfInBounds_toArray, List.set_cons_zero, List.set_cons_succ, i64_w, i32_w]
          rfl
        refine pure_ (i := 11) (N := some 30) (v := ?_) (a' := ?_) #[true, true, true, true, true, true, true, false, true, false, false, true, false, false, false, false, false, false, false, false, false, false, false, false, false, false] rfl rfl (any_of HT_.out (by kernel_rfl)) (fun _ _ _ h => h) (Or.inl ⟨by rfl, ?_⟩) ?_ ?_
        rotate_left
        · intro w'
          go_simp
          with_reducible rfl
        rotate_left
        · simp only [Act.put, List.setIfInBounds_toArray, List.set_cons_zero, List.set_cons_succ, i64_w, i32_w]
          rfl
        refine take_ (i := 7) (N := some 26) (v := ?_) (a' := ?_) #[true, true, true, true, true, true, true, true, true, false, false, true, false, false, false, false, false, false, false, false, false, false, false, false, false, false] rfl rfl (take_ofW HT_.out HW_.out (by kernel_rfl)) (fun _ _ _ h => h) (Or.inl ⟨by rfl, ?_⟩) hHeld ?_ ?_
        rotate_left
        · rintro w' ⟨s0, s1, s2, s3, s4, s5⟩
          go_simp
          with_reducible rfl
        rotate_left
        · simp only [Act.put, List.setIfInBounds_toArray, List.set_cons_zero, List.set_cons_succ, i64_w, i32_w]
          rfl
        refine take_ (i := 10) (N := some 29) (v := ?_) (a' := ?_) #[true, true, true, true, true, true, true, true, true, false, true, true, false, false, false, false, false, false, false, false, false, false, false, false, false, false] rfl rfl (take_ofW HT_.out HW_.out (by kernel_rfl)) (fun _ _ _ h => h) (Or.inl ⟨by rfl, ?_⟩) hHeld ?_ ?_
        rotate_left
        · rintro w' ⟨s0, s1, s2, s3, s4, s5⟩
          go_simp
          with_reducible rfl
        rotate_left
        · simp only [Act.put, List.setIfInBounds_toArray, List.set_cons_zero, List.set_cons_succ, i64_w, i32_w]
          rfl
        refine one_ (i := 9) (N := some 28) #[true, true, true, true, true, true, true, true, true, true, true, true, false, false, false, false, false, false, false, false, false, false, false, false, false, false] rfl rfl (one_of HT_.out (by kernel_rfl)) (by decide) (fun K hK => ?_)
        refine goes_ Try.func64 (by kernel_rfl) rfl #[.agg #[.int .u64 a0_0, .int .u64 a0_1], .int .i64 a1] (by rfl) rfl rfl (by (try simp only [List.map_toArray, List.map_cons, List.map_nil]); first | done | rfl | (simp only [List.length_drop, List.length_take]; rfl)) ?_
        with_reducible refine (decimal_Digit.calls a0_0 a0_1 a1 t1046 _ A8.out).mono ?_
        rintro e w26 ⟨rfl, hb⟩
        refine ⟨_, rfl, ?_⟩
        have n0_ := Aside0.mk (blk_below (g := gb1035) (o := .cells #[.int .u64 a0_0, .int .u64 a0_1] 25 (0, 0)) (by (with_reducible repeat (first | refine blk_drewN ?_ _ | refine blk_drew ?_ | refine blk_alloc ?_ _)); exact BK1035.out) hb)
        have n1_ := Aside0.mk (blk_below (g := gb1039) (o := .cells #[.int .u64 t1036, .int .u64 t1037] 25 (0, 0)) (by (with_reducible repeat (first | refine blk_drewN ?_ _ | refine blk_drew ?_ | refine blk_alloc ?_ _)); exact BK1039.out) hb)
        have n2_ := Aside0.mk (blk_below (g := gb1043) (o := .cells #[.int .u64 t1040, .int .u64 t1041] 25 (0, 0)) (by (with_reducible repeat (first | refine blk_drewN ?_ _ | refine blk_drew ?_ | refine blk_alloc ?_ _)); exact BK1043.out) hb)
        have n3_ := Aside0.mk (below_step (by repeat (first | (with_reducible first | exact HB.out | apply below_alloc | apply pw_below_drewN | apply below_drew1 | refine below_set ?_ GE1035.out | refine below_set ?_ GE1039.out | refine below_set ?_ GE1043.out) | exact HB.out)) hb)
        clear BK1035
        clear BK1039
        clear BK1043
        clear HB
        have BK1035 := n0_
        have BK1039 := n1_
        have BK1043 := n2_
        have HB := n3_
        clear n0_ n1_ n2_ n3_
        (try clear hb)
        (try clear hb2)
        (try clear hk)
        (try clear hi)
        refine hK.out _ _ ⟨(blk_cell BK1035.out 0).trans rfl, (blk_cell BK1035.out 1).trans rfl, (blk_cell BK1039.out 0).trans rfl, (blk_cell BK1039.out 1).trans rfl, (blk_cell BK1043.out 0).trans rfl, (blk_cell BK1043.out 1).trans rfl⟩ (fun hHeld => ?_)
        clear hK K
        refine norm_ (a' := ?_) ?_ ?_
        rotate_left
        · show Act.put _ (some 28) _ = _
          simp only [Act.put, List.setIfInBounds_toArray, List.set_cons_zero, List.set_cons_succ, i64_w, i32_w]
          rfl
        refine one_ (i := 12) (N := some 31) #[true, true, true, true, true, true, true, true, true, true, true, true, true, false, false, false, false, false, false, false, false, false, false, false, false, false] rfl rfl (one_of HT_.out (by kernel_rfl)) (by decide) (fun K hK => ?_)
        refine goes_ Try.func65 (by kernel_rfl) rfl #[.agg #[.int .u64 a0_0, .int .u64 a0_1], .int .i64 a1] (by rfl) rfl rfl (by (try simp only [List.map_toArray, List.map_cons, List.map_nil]); first | done | rfl | (simp only [List.length_drop, List.length_take]; rfl)) ?_
        with_reducible refine (paymasterref02_Digit.calls k a0_0 a0_1 a1 t1047 _ A9.out).mono ?_
        rintro e w27 ⟨rfl, hb⟩
        refine ⟨_, rfl, ?_⟩
        have n0_ := Aside0.mk (blk_below (g := gb1035) (o := .cells #[.int .u64 a0_0, .int .u64 a0_1] 25 (0, 0)) (by (with_reducible repeat (first | refine blk_drewN ?_ _ | refine blk_drew ?_ | refine blk_alloc ?_ _)); exact BK1035.out) hb)
        have n1_ := Aside0.mk (blk_below (g := gb1039) (o := .cells #[.int .u64 t1036, .int .u64 t1037] 25 (0, 0)) (by (with_reducible repeat (first | refine blk_drewN ?_ _ | refine blk_drew ?_ | refine blk_alloc ?_ _)); exact BK1039.out) hb)
        have n2_ := Aside0.mk (blk_below (g := gb1043) (o := .cells #[.int .u64 t1040, .int .u64 t1041] 25 (0, 0)) (by (with_reducible repeat (first | refine blk_drewN ?_ _ | refine blk_drew ?_ | refine blk_alloc ?_ _)); exact BK1043.out) hb)
        have n3_ := Aside0.mk (below_step (by repeat (first | (with_reducible first | exact HB.out | apply below_alloc | apply pw_below_drewN | apply below_drew1 | refine below_set ?_ GE1035.out | refine below_set ?_ GE1039.out | refine below_set ?_ GE1043.out) | exact HB.out)) hb)
        clear BK1035
        clear BK1039
        clear BK1043
        clear HB
        have BK1035 := n0_
        have BK1039 := n1_
        have BK1043 := n2_
        have HB := n3_
        clear n0_ n1_ n2_ n3_
        (try clear hb)
        (try clear hb2)
        (try clear hk)
        (try clear hi)
        refine hK.out _ _ ⟨(blk_cell BK1035.out 0).trans rfl, (blk_cell BK1035.out 1).trans rfl, (blk_cell BK1039.out 0).trans rfl, (blk_cell BK1039.out 1).trans rfl, (blk_cell BK1043.out 0).trans rfl, (blk_cell BK1043.out 1).trans rfl⟩ (fun hHeld => ?_)
        clear hK K
        refine norm_ (a' := ?_) ?_ ?_
        rotate_left
        · show Act.put _ (some 31) _ = _
          simp only [Act.put, List.setIfInBounds_toArray, List.set_cons_zero, List.set_cons_succ, i64_w, i32_w]
          rfl
        refine pure_ (i := 13) (N := some 32) (v := ?_) (a' := ?_) #[true, true, true, true, true, true, true, true, true, true, true, true, true, true, false, false, false, false, false, false, false, false, false, false, false, false] rfl rfl (any_of HT_.out (by kernel_rfl)) (fun _ _ _ h => h) (Or.inl ⟨by rfl, ?_⟩) ?_ ?_
        rotate_left
        · intro w'
          go_simp
          with_reducible rfl
        rotate_left
        · simp only [Act.put, List.setIfInBounds_toArray, List.set_cons_zero, List.set_cons_succ, i64_w, i32_w]
          rfl
        refine pure_ (i := 14) (N := some 33) (v := ?_) (a' := ?_) #[true, true, true, true, true, true, true, true, true, true, true, true, true, true, true, false, false, false, false, false, false, false, false, false, false, false] rfl rfl (any_of HT_.out (by kernel_rfl)) (fun _ _ _ h => h) (Or.inl ⟨by rfl, ?_⟩) ?_ ?_
        rotate_left
        · intro w'
          go_simp
          with_reducible rfl
        rotate_left
        · simp only [Act.put, List.setIfInBounds_toArray, List.set_cons_zero, List.set_cons_succ, i64_w, i32_w]
          rfl
        refine pure_ (i := 15) (N := some 34) (v := ?_) (a' := ?_) #[true, true, true, true, true, true, true, true, true, true, true, true, true, true, true, true, false, false, false, false, false, false, false, false, false, false] rfl rfl (any_of HT_.out (by kernel_rfl)) (fun _ _ _ h => h) (Or.inl ⟨by rfl, ?_⟩) ?_ ?_
        rotate_left
        · intro w'
          go_simp
          with_reducible rfl
        rotate_left
        · simp only [Act.put, List.setIfInBounds_toArray, List.set_cons_zero, List.set_cons_succ, i64_w, i32_w]
          rfl
        refine take_ (i := 16) (N := some 35) (v := ?_) (a' := ?_) #[true, true, true, true, true, true, true, true, true, true, true, true, true, true, true, true, true, false, false, false, false, false, false, false, false, false] rfl rfl (take_ofW HT_.out HW_.out (by kernel_rfl)) (fun _ _ _ h => h) (Or.inl ⟨by rfl, ?_⟩) hHeld ?_ ?_
        rotate_left
        · rintro w' ⟨s0, s1, s2, s3, s4, s5⟩
          go_simp
          with_reducible rfl
        rotate_left
        · simp only [Act.put, List.setIfInBounds_toArray, List.set_cons_zero, List.set_cons_succ, i64_w, i32_w]
          rfl
        refine take_ (i := 17) (N := some 36) (v := ?_) (a' := ?_) #[true, true, true, true, true, true, true, true, true, true, true, true, true, true, true, true, true, true, false, false, false, false, false, false, false, false] rfl rfl (take_ofW HT_.out HW_.out (by kernel_rfl)) (fun _ _ _ h => h) (Or.inl ⟨by rfl, ?_⟩) hHeld ?_ ?_
        rotate_left
        · rintro w' ⟨s0, s1, s2, s3, s4, s5⟩
          go_simp
          with_reducible rfl
        rotate_left
        · simp only [Act.put, List.setIfInBounds_toArray, List.set_cons_zero, List.set_cons_succ, i64_w, i32_w]
          rfl
        refine pure_ (i := 18) (N := some 37) (v := ?_) (a' := ?_) #[true, true, true, true, true, true, true, true, true, true, true, true, true, true, true, true, true, true, true, false, false, false, false, false, false, false] rfl rfl (any_of HT_.out (by kernel_rfl)) (fun _ _ _ h => h) (Or.inl ⟨by rfl, ?_⟩) ?_ ?_
        rotate_left
        · intro w'
          go_simp
          with_reducible rfl
        rotate_left
        · simp only [Act.put, List.setIfInBounds_toArray, List.set_cons_zero, List.set_cons_succ, i64_w, i32_w]
          rfl
        refine pure_ (i := 19) (N := some 38) (v := ?_) (a' := ?_) #[true, true, true, true, true, true, true, true, true, true, true, true, true, true, true, true, true, true, true, true, false, false, false, false, false, false] rfl rfl (any_of HT_.out (by kernel_rfl)) (fun _ _ _ h => h) (Or.inl ⟨by rfl, ?_⟩) ?_ ?_
        rotate_left
        · intro w'
          go_simp
          with_reducible rfl
        rotate_left
        · simp only [Act.put, List.setIfInBounds_toArray, List.set_cons_zero, List.set_cons_succ, i64_w, i32_w]
          rfl
        refine pure_ (i := 20) (N := some 39) (v := ?_) (a' := ?_) #[true, true, true, true, true, true, true, true, true, true, true, true, true, true, true, true, true, true, true, true, true, false, false, false, false, false] rfl rfl (any_of HT_.out (by kernel_rfl)) (fun _ _ _ h => h) (Or.inl ⟨by rfl, ?_⟩) ?_ ?_
        rotate_left
        · intro w'
          go_simp
          with_reducible rfl
        rotate_left
        · simp only [Act.put, List.setIfInBounds_toArray, List.set_cons_zero, List.set_cons_succ, i64_w, i32_w]
          rfl
        refine pure_ (i := 21) (N := some 40) (v := ?_) (a' := ?_) #[true, true, true, true, true, true, true, true, true, true, true, true, true, true, true, true, true, true, true, true, true, true, false, false, false, false] rfl rfl (any_of HT_.out (by kernel_rfl)) (fun _ _ _ h => h) (Or.inl ⟨by rfl, ?_⟩) ?_ ?_
        rotate_left
        · intro w'
          go_simp
          with_reducible rfl
        rotate_left
        · simp only [Act.put, List.setIfInBounds_toArray, List.set_cons_zero, List.set_cons_succ, i64_w, i32_w]
          rfl
        refine pure_ (i := 22) (N := some 41) (v := ?_) (a' := ?_) #[true, true, true, true, true, true, true, true, true, true, true, true, true, true, true, true, true, true, true, true, true, true, true, false, false, false] rfl rfl (any_of HT_.out (by kernel_rfl)) (fun _ _ _ h => h) (Or.inl ⟨by rfl, ?_⟩) ?_ ?_
        rotate_left
        · intro w'
          go_simp
          with_reducible rfl
        rotate_left
        · simp only [Act.put, List.setIfInBounds_toArray, List.set_cons_zero, List.set_cons_succ, i64_w, i32_w]
          rfl
        refine pure_ (i := 23) (N := some 42) (v := ?_) (a' := ?_) #[true, true, true, true, true, true, true, true, true, true, true, true, true, true, true, true, true, true, true, true, true, true, true, true, false, false] rfl rfl (any_of HT_.out (by kernel_rfl)) (fun _ _ _ h => h) (Or.inl ⟨by rfl, ?_⟩) ?_ ?_
        rotate_left
        · intro w'
          go_simp
          with_reducible rfl
        rotate_left
        · simp only [Act.put, List.setIfInBounds_toArray, List.set_cons_zero, List.set_cons_succ, i64_w, i32_w]
          rfl
        refine pure_ (i := 24) (N := some 43) (v := ?_) (a' := ?_) #[true, true, true, true, true, true, true, true, true, true, true, true, true, true, true, true, true, true, true, true, true, true, true, true, true, false] rfl rfl (any_of HT_.out (by kernel_rfl)) (fun _ _ _ h => h) (Or.inl ⟨by rfl, ?_⟩) ?_ ?_
        rotate_left
        · intro w'
          go_simp
          with_reducible rfl
        rotate_left
        · simp only [Act.put, List.setIfInBounds_toArray, List.set_cons_zero, List.set_cons_succ, i64_w, i32_w]
          rfl
        refine pure_ (i := 25) (N := some 4) (v := ?_) (a' := ?_) #[true, true, true, true, true, true, true, true, true, true, true, true, true, true, true, true, true, true, true, true, true, true, true, true, true, true] rfl rfl (any_of HT_.out (by kernel_rfl)) (fun _ _ _ h => h) (Or.inl ⟨by rfl, ?_⟩) ?_ ?_
        rotate_left
        · intro w'
          go_simp
          with_reducible rfl
        rotate_left
        · simp only [Act.put, List.setIfInBounds_toArray, List.set_cons_zero, List.set_cons_succ, i64_w, i32_w]
          rfl
        refine done_ (done_of HT_.out (by kernel_rfl)) ?_
        try go_wp2
        go_ret
        exact ⟨by first | rfl | (simp [errW_none, errW_some] <;> rfl) | (simp [*, errW_none, errW_some] <;> rfl), by repeat (first | (with_reducible first | exact HB.out | apply below_alloc | apply pw_below_drewN | apply below_drew1 | refine below_set ?_ GE1035.out | refine below_set ?_ GE1039.out | refine below_set ?_ GE1043.out) | exact HB.out)⟩
      · rw [if_neg c11] at H
        have c11b0 : (t1036 == t1040 && (t1037 == t1041)) = false := by simpa using c11
        (try (have c11b1 : decide (t1036 = t1040 && (t1037 == t1041)) = false := by simpa using c11))
        (try (have c11b2 : (t1036 == t1040 && (t1037 == t1041)) = false := by simpa using c11))
        (try (have c11b3 : ¬ (t1036 = t1040 && (t1037 == t1041)) := by simpa using c11))
        clear c11
        exact absurd H (by simp)
    · rw [if_neg c10] at H
      have c10b0 : (t1046 == t1047) = false := beq_eq_false_iff_ne.mpr c10
      have c10b1 : (t1046 != t1047) = true := bne_iff_ne.mpr c10
      exact absurd H (by simp)
  · rw [if_neg c7] at H
    have c7b0 : (t1044 == (t1045.size : Int)) = false := beq_eq_false_iff_ne.mpr c7
    have c7b1 : (t1044 != (t1045.size : Int)) = true := bne_iff_ne.mpr c7
    exact absurd H (by simp)
end Go.Proofs.Ytpkjpiphjdpegaa.P
namespace Go.Proofs.Ytpkjpiphjdpegaa.P
open Go.RowKit Go.Proofs.YtpkjpiphjdpegaaW.PrintWords Go.Proofs.YtpkjpiphjdpegaaW.PrintLast Go.Proofs.YtpkjpiphjdpegaaW.PrintMore
set_option linter.unusedVariables false
set_option linter.unusedSimpArgs false
theorem u_ten : U64 10 := ⟨by omega, by omega⟩
theorem refText_step (k : Nat) (a b : Int) (ha : U64 a) (hb : U64 b) : paymasterref02_Text.f (k + 180 + 1) a b = if val a b < 10 then some (strOfNums (asc [val a b])) else (paymasterref02_Text.f (k + 180) (hiOf (val a b / 10)) (loOf (val a b / 10))).bind fun t => if t.size + 1 ≤ 9223372036854775807 then some (t ++ strOfNums (asc [val a b % 10])) else none := by
  obtain ⟨v0, v1⟩ := val_range a b ha hb
  rw [paymasterref02_Text.f, refOver_is k a b 10 ha hb u_ten, over_num a b 10 ha hb u_ten (by omega), Option.bind_some, Option.bind_some]
  generalize val a b = v at *
  have e : (48 + v % 10 % 256) % 256 = v % 10 + 48 := by omega
  have s : (strOfNums [v % 10 + 48]).size = 1 := by rw [strOfNums_size]; rfl
  by_cases h : v < 10
  · have q : v / 10 = 0 := by omega
    have r : v % 10 = v := by omega
    rw [r] at e
    rw [if_pos h, q, if_pos (show (hiOf 0 == 0 && loOf 0 == 0) = true from rfl)]
    simp only [r, e]
    rfl
  · have n : (hiOf (v / 10) == 0 && loOf (v / 10) == 0) = false := by
      rw [Bool.and_eq_false_iff, beq_eq_false_iff_ne, beq_eq_false_iff_ne]
      unfold hiOf loOf
      omega
    rw [if_neg h]
    simp only [n, e, s]
    rw [if_neg (by simp)]
    rfl
theorem refText_dec : ∀ (f : Nat) (a b : Int), U64 a → U64 b → val a b < 10 ^ (f + 1) → f ≤ 100 → ∀ k, paymasterref02_Text.f (k + f + 181) a b = some (strOfNums (asc (decF f (val a b))))
  | 0, a, b, ha, hb, hv, hf, k => by
    rw [Int.pow_succ, Int.pow_zero] at hv
    refine (refText_step k a b ha hb).trans ?_
    rw [if_pos (by omega)]
    rfl
  | f + 1, a, b, ha, hb, hv, hf, k => by
    obtain ⟨v0, v1⟩ := val_range a b ha hb
    rw [Int.pow_succ] at hv
    refine (refText_step (k + f + 1) a b ha hb).trans ?_
    unfold decF
    by_cases h : val a b < 10
    · rw [if_pos h, if_pos h]
    · obtain ⟨u1, u2⟩ := u_hiOf (val a b / 10) (by omega) (by omega)
      have ih := refText_dec f _ _ u1 u2 (by rw [val_halves]; omega) (by omega) k
      rw [val_halves] at ih
      have l := (dec_len f (val a b / 10)).2
      rw [if_neg h, if_neg h, show k + f + 1 + 180 = k + f + 181 from by omega, ih, Option.bind_some, strOfNums_size, if_pos (by simp only [asc, List.length_map]; omega), str_append]
      unfold asc
      rw [List.map_append]
theorem refText_is (k : Nat) (a b : Int) (ha : U64 a) (hb : U64 b) : paymasterref02_Text.f (k + 219) a b = decimal_Text.f a b := by
  obtain ⟨v0, v1⟩ := val_range a b ha hb
  have := m39
  rw [text_num a b ha hb]
  exact refText_dec 38 a b ha hb (by omega) (by omega) k
theorem refDigit_is (k : Nat) (a b : Int) (ha : U64 a) (hb : U64 b) (n : Int) (hn : -9223372036854775808 ≤ n) (hn' : n < 9223372036854775808) : paymasterref02_Digit.f (k + 219) a b n = decimal_Digit.f a b n := by
  obtain ⟨v0, v1⟩ := val_range a b ha hb
  obtain ⟨e, d, l0, l1⟩ := dec_facts (val a b) v0 v1
  unfold paymasterref02_Digit.f decimal_Digit.f
  rw [refText_is k a b ha hb, text_num a b ha hb, Option.bind_some, if_pos (show U64 a ∧ U64 b ∧ -9223372036854775808 ≤ n ∧ n < 9223372036854775808 from ⟨ha, hb, hn, hn'⟩), strOfNums_size]
  generalize dec (val a b) = L at *
  have al : (asc L).length = L.length := by simp [asc]
  rw [al]
  by_cases h1 : n < 0
  · rw [if_pos h1, if_pos (.inl h1)]
  rw [if_neg h1]
  by_cases h2 : n ≥ (L.length : Int)
  · rw [if_pos h2, if_pos (.inr h2)]
  obtain ⟨m, rfl⟩ := Int.eq_ofNat_of_zero_le (show 0 ≤ n by omega)
  rw [if_neg h2, if_neg (show ¬ ((m : Int) < 0 ∨ (L.length : Int) ≤ (m : Int)) by omega), wi ((L.length : Int) - 1) (by omega) (by omega), wi ((L.length : Int) - 1 - (m : Int)) (by omega) (by omega), if_pos (show 0 ≤ (L.length : Int) - 1 - (m : Int) by omega), if_pos (show (L.length : Int) - 1 - (m : Int) < (L.length : Int) by omega), Int.toNat_natCast]
  rw [show (L.length : Int) - 1 - (m : Int) = ((L.length - 1 - m : Nat) : Int) from by omega, bt_nb, str_nb _ (asc_byte L d)]
  have hm : L.length - 1 - m < L.length := by omega
  have g : (asc L).getD (L.length - 1 - m) 0 = L.getD (L.length - 1 - m) 0 + 48 := by
    unfold asc
    rw [List.getD_eq_getElem?_getD, List.getElem?_map, List.getD_eq_getElem?_getD, List.getElem?_eq_getElem hm]
    rfl
  have dd : 0 ≤ L.getD (L.length - 1 - m) 0 ∧ L.getD (L.length - 1 - m) 0 < 10 := by
    rw [List.getD_eq_getElem?_getD, List.getElem?_eq_getElem hm]
    exact d _ (List.getElem_mem hm)
  rw [g]
  congr 1
  omega
def bad (c : Int) : Bool := decide (c < 48) || decide (c > 57)
theorem nb_drop (s : ByteArray) (i : Nat) (h : i < s.size) : (nb s).drop i = bt s (i : Int) :: (nb s).drop (i + 1) := by
  rw [List.drop_eq_getElem_cons (by rw [nb_length]; exact h), bt_nb, List.getD_eq_getElem?_getD, List.getElem?_eq_getElem (by rw [nb_length]; exact h)]
  rfl
theorem refParse_l0 (s : ByteArray) (hs : s.size ≤ 1000000000) (k : Nat) : ∀ (t i : Nat), i + t = s.size → paymasterref02_Parse.l0 (k + 1 + t) s (i : Int) 0 0 = if ((nb s).drop i).any bad = true then some (0, 0, 20) else paymasterref02_Parse.l0 (k + 1) s (s.size : Int) 0 0
  | 0, i, h => by
    obtain rfl : i = s.size := by omega
    rw [List.drop_of_length_le (by rw [nb_length]; omega)]
    rfl
  | t + 1, i, h => by
    have ih := refParse_l0 s hs k t (i + 1) (by omega)
    rw [nb_drop s i (by omega), List.any_cons]
    show paymasterref02_Parse.l0 (k + 1 + t + 1) s (i : Int) 0 0 = _
    rw [paymasterref02_Parse.l0, if_pos (by omega), if_pos (by omega)]
    by_cases h1 : bt s (i : Int) < 48
    · rw [if_pos h1, show bad (bt s (i : Int)) = true from by unfold bad; simp [h1], if_pos (by simp)]
    · rw [if_neg h1]
      by_cases h2 : bt s (i : Int) > 57
      · rw [if_pos h2, show bad (bt s (i : Int)) = true from by unfold bad; simp [h2], if_pos (by simp)]
      · rw [if_neg h2, show bad (bt s (i : Int)) = false from by unfold bad; rw [decide_eq_false h1, decide_eq_false h2]; rfl, Bool.false_or, wi _ (by omega) (by omega), show ((i : Int) + 1) = ((i + 1 : Nat) : Int) from by omega, ih]
theorem fold_ge (l : List Int) (a : Int) (ha : 0 ≤ a) (hl : Dig l) : a ≤ l.foldl (fun a d => a * 10 + d) a := by
  have h := (valD_range l hl).1
  unfold valD at h
  rw [fold_cons]
  have p := ten_pos l.length
  have : a * 1 ≤ a * 10 ^ l.length := Int.mul_le_mul_of_nonneg_left (by omega) ha
  omega
theorem refParse_l1 (s : ByteArray) (hs : s.size ≤ 1000000000) (hd : Dig (unasc (nb s))) (k : Nat) : ∀ (t i : Nat) (v : Int), i + t = s.size → 0 ≤ v → v < m128 → paymasterref02_Parse.l1 (k + 721 + t) s (i : Int) 0 0 (hiOf v) (loOf v) =
    if (unasc ((nb s).drop i)).foldl (fun a d => a * 10 + d) v < m128 then some (hiOf ((unasc ((nb s).drop i)).foldl (fun a d => a * 10 + d) v), loOf ((unasc ((nb s).drop i)).foldl (fun a d => a * 10 + d) v), 0) else some (0, 0, 10)
  | 0, i, v, h, v0, v1 => by
    rw [List.drop_of_length_le (by rw [nb_length]; omega)]
    show paymasterref02_Parse.l1 (k + 720 + 1) s (i : Int) 0 0 (hiOf v) (loOf v) = if v < m128 then _ else _
    rw [paymasterref02_Parse.l1, if_neg (by omega), if_pos v1]
    rfl
  | t + 1, i, v, h, v0, v1 => by
    have dr := nb_drop s i (by omega)
    have hd' : Dig (unasc ((nb s).drop (i + 1))) := by
      intro d h
      obtain ⟨c, hc, rfl⟩ := List.mem_map.1 h
      exact hd _ (List.mem_map.2 ⟨c, List.mem_of_mem_drop hc, rfl⟩)
    have hb : 0 ≤ bt s (i : Int) - 48 ∧ bt s (i : Int) - 48 < 10 := by
      refine hd _ (List.mem_map.2 ⟨bt s (i : Int), ?_, rfl⟩)
      refine List.mem_of_mem_drop (i := i) ?_
      rw [dr]
      exact List.mem_cons_self ..
    obtain ⟨u1, u2⟩ := u_hiOf v v0 v1
    have e : (unasc ((nb s).drop i)).foldl (fun a d => a * 10 + d) v = (unasc ((nb s).drop (i + 1))).foldl (fun a d => a * 10 + d) (v * 10 + (bt s (i : Int) - 48)) := by
      rw [dr]
      rfl
    rw [e]
    obtain ⟨D, hD⟩ : ∃ D, unasc ((nb s).drop (i + 1)) = D := ⟨_, rfl⟩
    rw [hD] at hd' ⊢
    have T := refTimes_is (k + t + 1) (hiOf v) (loOf v) 10 u1 u2 u_ten
    rw [times_num _ _ _ u1 u2 u_ten, val_halves] at T
    show paymasterref02_Parse.l1 (k + 721 + t + 1) s (i : Int) 0 0 (hiOf v) (loOf v) = _
    rw [paymasterref02_Parse.l1, if_pos (by omega), show k + 721 + t = k + t + 1 + 720 from by omega, T]
    by_cases c : v * 10 < m128
    · obtain ⟨w1, w2⟩ := u_hiOf (v * 10) (by omega) c
      have hx : U64 ((bt s (i : Int) - 48) % 256) := ⟨by omega, by omega⟩
      have A := refAdd_is (k + t + 671) (hiOf (v * 10)) (loOf (v * 10)) 0 ((bt s (i : Int) - 48) % 256) w1 w2 u0 hx
      rw [add_num _ _ _ _ w1 w2 u0 hx, val_halves, small_val, show (bt s (i : Int) - 48) % 256 = bt s (i : Int) - 48 from by omega] at A
      rw [if_pos c, Option.bind_some, if_pos rfl, if_pos (by omega), show k + t + 1 + 720 = k + t + 671 + 50 from by omega]
      simp only [show (bt s (i : Int) - 48) % 256 = bt s (i : Int) - 48 from by omega]
      rw [A]
      by_cases c2 : v * 10 + (bt s (i : Int) - 48) < m128
      · have ih := refParse_l1 s hs hd k t (i + 1) (v * 10 + (bt s (i : Int) - 48)) (by omega) (by omega) c2
        rw [if_pos c2, Option.bind_some, if_pos rfl, wi _ (by omega) (by omega), show ((i : Int) + 1) = ((i + 1 : Nat) : Int) from by omega, show k + t + 671 + 50 = k + 721 + t from by omega, ih, hD]
      · have := fold_ge D (v * 10 + (bt s (i : Int) - 48)) (by omega) hd'
        rw [if_neg c2, Option.bind_some, if_neg (by simp), if_neg (by omega)]
    · have := fold_ge D (v * 10 + (bt s (i : Int) - 48)) (by omega) hd'
      rw [if_neg c, Option.bind_some, if_neg (by simp), if_neg (by omega)]
theorem refParse_is (s : ByteArray) (hs : s.size ≤ 1000000000) (k : Nat) : paymasterref02_Parse.f (k + 2 * s.size + 723) s = decimal_Parse.f s := by
  rw [parse_num s hs]
  unfold paymasterref02_Parse.f parseOf noNum
  have e : k + 2 * s.size + 723 = (k + s.size + 723) + s.size := by omega
  have A := refParse_l0 s hs (k + s.size + 722) s.size 0 (by omega)
  rw [e]
  refine A.trans ?_
  rw [List.drop_zero]
  have hb : (nb s).any (fun c => decide (c < 48) || decide (c > 57)) = (nb s).any bad := rfl
  rw [hb]
  by_cases h1 : (nb s).any bad = true
  · rw [if_pos h1, h1, Bool.or_true, Bool.true_or, if_pos rfl]
  · have h1' : (nb s).any bad = false := by simpa using h1
    rw [if_neg h1, h1', Bool.or_false]
    have hd : Dig (unasc (nb s)) := by
      intro d hd
      obtain ⟨c, hc, rfl⟩ := List.mem_map.1 hd
      have := (List.any_eq_false.1 h1') c hc
      unfold bad at this
      simp at this
      omega
    have nl := nb_length s
    show paymasterref02_Parse.l0 (k + s.size + 722 + 1) s (s.size : Int) 0 0 = _
    rw [paymasterref02_Parse.l0, if_neg (by omega)]
    have J : ∀ fl : Bool, paymasterref02_Parse.j1 (k + s.size + 722) s fl 0 0 = if fl = true then some (0, 0, 20) else if valD (unasc (nb s)) < m128 then some (hiOf (valD (unasc (nb s))), loOf (valD (unasc (nb s))), 0) else some (0, 0, 10) := by
      intro fl
      show paymasterref02_Parse.j1 (k + s.size + 721 + 1) s fl 0 0 = _
      rw [paymasterref02_Parse.j1]
      cases fl with
      | true => rfl
      | false =>
        rw [if_neg (by simp), if_neg (by simp)]
        have L := refParse_l1 s hs hd k s.size 0 0 (by omega) (by omega) (by unfold m128; omega)
        rw [List.drop_zero] at L
        rw [show k + s.size + 721 = k + 721 + s.size from by omega]
        exact L
    have fin : ∀ fl : Bool, (if fl = true then some (0, 0, 20) else if valD (unasc (nb s)) < m128 then some (hiOf (valD (unasc (nb s))), loOf (valD (unasc (nb s))), (0 : Int)) else some (0, 0, 10)) = some (if fl = true then (0, 0, 20) else if valD (unasc (nb s)) < m128 then (hiOf (valD (unasc (nb s))), loOf (valD (unasc (nb s))), 0) else (0, 0, 10)) := by
      intro fl
      by_cases c : valD (unasc (nb s)) < m128 <;> cases fl <;> simp [c]
    by_cases h2 : (s.size : Int) = 0
    · rw [if_pos h2, J, fin]
      have : nb s = [] := List.eq_nil_of_length_eq_zero (by omega)
      rw [this]
      rfl
    · rw [if_neg h2]
      have ne : (nb s).isEmpty = false := by
        cases hn : nb s with
        | nil => rw [hn] at nl; simp at nl; omega
        | cons x t => rfl
      rw [ne, Bool.false_or]
      by_cases h3 : (s.size : Int) > 1
      · rw [if_pos h3, if_pos (by omega), J, fin, decide_eq_true (show 1 < (nb s).length by omega), Bool.true_and]
        have : (bt s 0 == 48) = ((nb s).head? == some 48) := by
          have := bt_nb s 0
          rw [show ((0 : Nat) : Int) = 0 from rfl] at this
          rw [this]
          cases hn : nb s with
          | nil => rw [hn] at nl; simp at nl; omega
          | cons x t => simp
        rw [this]
      · rw [if_neg h3, J, fin, decide_eq_false (show ¬ 1 < (nb s).length by omega), Bool.false_and]
end Go.Proofs.Ytpkjpiphjdpegaa.P
namespace Go.Proofs.Ytpkjpiphjdpegaa.P
open Go.RowKit Go.Proofs.YtpkjpiphjdpegaaW.PrintWords Go.Proofs.YtpkjpiphjdpegaaW.PrintLast Go.Proofs.YtpkjpiphjdpegaaW.PrintMore
set_option linter.unusedVariables false
set_option linter.unusedSimpArgs false
theorem m38 : (10 : Int) ^ 38 < m128 := by unfold m128; decide
theorem ten_lt (k : Nat) (h : k < 39) : (10 : Int) ^ k < m128 := by
  have h1 := ten_mono k (38 - k)
  rw [show k + (38 - k) = 38 from by omega] at h1
  have := m38
  omega
theorem ten_ge (k : Nat) (h : 39 ≤ k) : m128 ≤ (10 : Int) ^ k := by
  have h1 := ten_mono 39 (k - 39)
  rw [show 39 + (k - 39) = k from by omega] at h1
  have := m39
  omega
def tenOf (k : Int) : Int × Int × Int := if k < 0 then (0, 0, 20) else if k < 39 then (hiOf (10 ^ k.toNat), loOf (10 ^ k.toNat), 0) else (0, 0, 10)
theorem ten_l0 (n : Nat) (hn : n < 39) (k : Nat) : ∀ (t i : Nat), i + t = n → decimal_Ten.l0 (k + 1 + t) (n : Int) (i : Int) (hiOf (10 ^ i)) (loOf (10 ^ i)) = some (hiOf (10 ^ n), loOf (10 ^ n), 0)
  | 0, i, h => by
    obtain rfl : i = n := by omega
    show decimal_Ten.l0 (k + 1) _ _ _ _ = _
    rw [decimal_Ten.l0]
    rw [if_neg (by omega)]
  | t + 1, i, h => by
    have ih := ten_l0 n hn k t (i + 1) (by omega)
    have p := ten_pos i
    have l := ten_lt i (by omega)
    have l1 := ten_lt (i + 1) (by omega)
    obtain ⟨u1, u2⟩ := u_hiOf (10 ^ i) (by omega) l
    show decimal_Ten.l0 (k + 1 + t + 1) _ _ _ _ = _
    rw [decimal_Ten.l0]
    rw [if_pos (by omega), times_num _ _ _ u1 u2 u_ten, val_halves, ← Int.pow_succ, if_pos l1, Option.bind_some, wi _ (by omega) (by omega), show ((i : Int) + 1) = ((i + 1 : Nat) : Int) from by omega]
    exact ih
theorem ten_is (k : Nat) (n : Int) (h : n < 9223372036854775808) : decimal_Ten.f (k + 39) n = some (tenOf n) := by
  unfold decimal_Ten.f tenOf
  by_cases h1 : n < 0
  · rw [if_pos h1, if_pos h1]
  rw [if_neg h1, if_neg h1]
  by_cases h2 : n ≥ 39
  · rw [if_pos h2, if_neg (by omega)]
  obtain ⟨m, rfl⟩ := Int.eq_ofNat_of_zero_le (show 0 ≤ n by omega)
  rw [if_neg h2, if_pos (by omega), Int.toNat_natCast]
  have := ten_l0 m (by omega) (k + 38 - m) m 0 (by omega)
  rw [show k + 38 - m + 1 + m = k + 39 from by omega] at this
  exact this
def tens (j : Nat) : List Int := 49 :: List.replicate j 48
theorem tens_succ (j : Nat) : tens j ++ [48] = tens (j + 1) := by
  unfold tens
  rw [List.cons_append, List.replicate_succ']
theorem tens_byte (j : Nat) : ∀ x ∈ tens j, isByte x := by
  intro x hx
  rcases List.mem_cons.1 hx with rfl | h
  · exact ⟨by omega, by omega⟩
  · rw [List.eq_of_mem_replicate h]
    exact ⟨by omega, by omega⟩
theorem tens_val (j : Nat) : valD (unasc (tens j)) = 10 ^ j := by
  have z : ∀ i, valD (unasc (List.replicate i 48)) = 0 := by
    intro i
    induction i with
    | zero => rfl
    | succ i ih =>
      show valD ((48 - 48) :: unasc (List.replicate i 48)) = 0
      rw [valD_cons, ih]
      simp
  show valD ((49 - 48) :: unasc (List.replicate j 48)) = 10 ^ j
  rw [valD_cons, z]
  simp [unasc]
theorem tens_num (j : Nat) : noNum (tens j) = false := by
  have : tens j = asc (1 :: List.replicate j 0) := by
    unfold tens asc
    rw [List.map_cons, List.map_replicate]
    rfl
  rw [this]
  refine noNum_asc _ ?_ (by simp) (fun _ => by simp)
  intro d hd
  rcases List.mem_cons.1 hd with rfl | h
  · omega
  · rw [List.eq_of_mem_replicate h]
    omega
theorem tens_parse (j : Nat) (h : j ≤ 50) (k : Nat) : paymasterref02_Parse.f (k + 830) (strOfNums (tens j)) = some (if j < 39 then (hiOf (10 ^ j), loOf (10 ^ j), 0) else (0, 0, 10)) := by
  have sz : (strOfNums (tens j)).size = j + 1 := by rw [strOfNums_size]; simp [tens]
  have P := refParse_is (strOfNums (tens j)) (by omega) (k + 105 - 2 * j)
  rw [sz, show k + 105 - 2 * j + 2 * (j + 1) + 723 = k + 830 from by omega] at P
  rw [P, parse_num _ (by omega), str_nb _ (tens_byte j)]
  unfold parseOf
  rw [tens_num, if_neg (by simp), tens_val]
  by_cases c : j < 39
  · rw [if_pos c, if_pos (ten_lt j c)]
  · have := ten_ge j (by omega)
    rw [if_neg c, if_neg (by omega)]
theorem refTen_l0 (n : Int) (m : Nat) (hm : m ≤ 50) (hn : (m = 50 ∧ 50 ≤ n) ∨ (n = m)) (k : Nat) : ∀ (t i : Nat), i + t = m → paymasterref02_Ten.l0 (k + 831 + t) n (strOfNums (tens i)) (i : Int) = some (if m < 39 then (hiOf (10 ^ m), loOf (10 ^ m), 0) else (0, 0, 10))
  | 0, i, h => by
    obtain rfl : i = m := by omega
    show paymasterref02_Ten.l0 (k + 830 + 1) _ _ _ = _
    rw [paymasterref02_Ten.l0]
    rw [tens_parse i hm k, Option.bind_some]
    rcases hn with ⟨h1, h2⟩ | h1
    · by_cases c : (i : Int) < n
      · rw [if_pos c, if_neg (by omega)]
      · rw [if_neg c]
    · rw [if_neg (by omega)]
  | t + 1, i, h => by
    have ih := refTen_l0 n m hm hn k t (i + 1) (by omega)
    show paymasterref02_Ten.l0 (k + 831 + t + 1) _ _ _ = _
    rw [paymasterref02_Ten.l0]
    have sz : (strOfNums (tens i)).size = i + 1 := by rw [strOfNums_size]; simp [tens]
    rw [if_pos (by omega), if_pos (by omega), if_pos (by omega), wi _ (by omega) (by omega), show ((i : Int) + 1) = ((i + 1 : Nat) : Int) from by omega]
    have e : strOfNums (tens i) ++ (⟨#[48]⟩ : ByteArray) = strOfNums (tens (i + 1)) := by
      rw [← tens_succ, ← str_append]
      rfl
    rw [e]
    exact ih
theorem refTen_is (k : Nat) (n : Int) (h : n < 9223372036854775808) : paymasterref02_Ten.f (k + 881) n = some (tenOf n) := by
  unfold paymasterref02_Ten.f tenOf
  by_cases h1 : n < 0
  · rw [if_pos h1, if_pos h1]
  rw [if_neg h1, if_neg h1]
  have e : (⟨#[49]⟩ : ByteArray) = strOfNums (tens 0) := rfl
  rw [e]
  by_cases h2 : 50 ≤ n
  · have := refTen_l0 n 50 (by omega) (.inl ⟨rfl, h2⟩) k 50 0 (by omega)
    rw [if_neg (by omega)] at this ⊢
    exact this
  · obtain ⟨m, rfl⟩ := Int.eq_ofNat_of_zero_le (show 0 ≤ n by omega)
    have := refTen_l0 m m (by omega) (.inr rfl) (k + 50 - m) m 0 (by omega)
    rw [show k + 50 - m + 831 + m = k + 881 from by omega] at this
    rw [Int.toNat_natCast]
    refine this.trans ?_
    by_cases c : m < 39
    · rw [if_pos c, if_pos (by omega)]
    · rw [if_neg c, if_neg (by omega)]
end Go.Proofs.Ytpkjpiphjdpegaa.P
namespace Go.Proofs.Ytpkjpiphjdpegaa.P
open Go.RowKit Go.Proofs.YtpkjpiphjdpegaaW.PrintWords Go.Proofs.YtpkjpiphjdpegaaW.PrintLast Go.Proofs.YtpkjpiphjdpegaaW.PrintMore
set_option linter.unusedVariables false
set_option linter.unusedSimpArgs false
theorem lit_i64 {n : Int} (h : (Lit.int .i64 n).wf = true) : -9223372036854775808 ≤ n ∧ n < 9223372036854775808 := by
  have h2 : (decide (IntKind.i64.min ≤ n) && decide (n ≤ IntKind.i64.max)) = true := h
  simp only [Bool.and_eq_true, decide_eq_true_eq] at h2
  have m1 : IntKind.i64.min = -9223372036854775808 := by decide
  have m2 : IntKind.i64.max = 9223372036854775807 := by decide
  rw [m1, m2] at h2
  exact ⟨h2.1, by omega⟩
theorem decimalDigits_pure (a b n : Int) (ha : U64 a) (hb : U64 b) (hn : -9223372036854775808 ≤ n) (hn' : n < 9223372036854775808) : paymasterlaw02_DecimalDigits.f 881 a b n = some true := by
  have v := val_range a b ha hb
  have T : decimal_Ten.f 881 n = some (tenOf n) := ten_is 842 n hn'
  have R : paymasterref02_Ten.f 881 n = some (tenOf n) := refTen_is 0 n hn'
  have X : paymasterref02_Text.f 881 a b = decimal_Text.f a b := refText_is 662 a b ha hb
  have D : paymasterref02_Digit.f 881 a b n = decimal_Digit.f a b n := refDigit_is 662 a b ha hb n hn hn'
  have S : (strOfNums (asc (dec (val a b)))).size = (dec (val a b)).length := by rw [strOfNums_size]; simp [asc]
  obtain ⟨d, hd⟩ : ∃ d, decimal_Digit.f a b n = some d := ⟨_, if_pos ⟨ha, hb, hn, hn'⟩⟩
  unfold paymasterlaw02_DecimalDigits.f
  rw [T, R, Option.bind_some, Option.bind_some, digits_num a b ha hb, Option.bind_some, X, text_num a b ha hb, Option.bind_some, S, if_pos rfl, D, hd, Option.bind_some, Option.bind_some, if_pos rfl, if_pos (by simp)]
  simp
theorem decimalDigits_walk {w : World} (a b : Int) (ha : U64 a) (hb : U64 b) (n : Int) (hn : (Lit.int .i64 n).wf = true) :
    Calls Try.prog 12 #[.agg #[.int .u64 a, .int .u64 b], .int .i64 n] w fun e w' => e = .returned (.bool true) ∧ Below w.heap.size w w' :=
  paymasterlaw02_DecimalDigits.calls 881 a b n true w (decimalDigits_pure a b n ha hb (lit_i64 hn).1 (lit_i64 hn).2)
end Go.Proofs.Ytpkjpiphjdpegaa.P
namespace Go.Proofs.Ytpkjpiphjdpegaa.decimalDigits
open Go.ChangeShapes Go.WideShapes Go.ChangeAt Go.RowKit Go.Proofs.Ytpkjpiphjdpegaa.P
open Go.ChangeMaps (open_string shut_string)
set_option linter.unusedVariables false
theorem own : ownKnob Try.prog.godebug = none := by kernel_rfl
theorem laidOut : laidOutB Try.prog = true := by kernel_rfl
set_option maxRecDepth 100000 in
theorem lifted (os : Os) (started : os.Started) (H : Type) (enc : TypeId × Value → H) :
    ReturnsInHanded {} Try.checked os 12 .any (Rows.decimalDigitsSpec.pre6 enc Try.prog Try.f12 Rows.decimalDigitsRow.domain false) (Rows.decimalDigitsSpec.post enc Try.prog Try.f12 false true false false) := by
  refine returnsInHanded_of_change_sized (C := Try.checked) own started (by kernel_rfl) Try.func12
    (ChangeSpec.witness6 (enc := enc) (C := Try.checked) false ⟨#[], #[.agg #[.int .u64 0, .int .u64 0], .int .i64 0], []⟩ 8 (by kernel_rfl) (by kernel_rfl) (by kernel_rfl) (by kernel_rfl)) ?_
  intro W base args ds gs before hval0 hW hcnd hsz0 _
  have hval : ∀ (j : Nat) t v, Try.f12.params[j]? = some t → args[j]? = some v → Value.okWide Try.prog W .any base t v := hval0
  have hW' := hW
  obtain ⟨p, q, hA0, hV, rfl, hfz, hnd⟩ := hW
  have hA : DataW.TrodAll enc Try.prog W 0 (fun _ => true) true Try.f12.params.toList args.toList ds p := hA0
  rw [Try.params12] at hA hval
  have hAll := hA
  obtain ⟨v0, vs0, d0, ds0, p0, q0, hargs, rfl, rfl, h0, r0⟩ := trodAll_cons hA
  obtain ⟨v1, vs1, d1, ds1, p1, q1, rfl, rfl, rfl, h1, r1⟩ := trodAll_cons r0
  obtain ⟨rfl, rfl, rfl⟩ := trodAll_nil r1
  obtain rfl : args = #[v0, v1] := by cases args; simp_all
  obtain ⟨rfl, rfl⟩ := trodVars_none hV
  obtain ⟨a0_0, a0_1, rfl, g0_0, g0_1⟩ := arg_25 (hval 0 25 v0 rfl rfl) h0
  obtain ⟨a1, rfl, g1⟩ := arg_int Try.underlying3 (hval 1 3 v1 rfl rfl) h1
  clear hA0 hval0 hsz0
  refine (decimalDigits_walk (w := W) a0_0 a0_1 g0_0 g0_1 a1 g1).mono fun e W' ⟨he, bel⟩ => ?_
  subst he
  exact ⟨_, rfl, _, _, _, [], _, [], hW', trodAll_mk1 (shut_bool Try.underlying4 _), args_back laidOut bel (by kernel_rfl) hAll, rfl, bel.frame _, fun h => by cases h⟩
theorem both {a b : Bool} (h : a = true) (k : b = true) : (a && b) = true := by rw [h, k]; rfl
theorem c0 : (Rows.decimalDigitsRow.wf (OpenSpec.ofChange Rows.decimalDigitsSpec)) = true := by kernel_rfl
theorem c1 : (laidOutB Try.prog) = true := by kernel_rfl
theorem c2 : (mapsRowed Try.prog) = true := by kernel_rfl
theorem c3 : (Try.f12.params.all (Try.prog.readableRec ·)) = true := by kernel_rfl
theorem c4 : (namedTie Try.prog Rows.decimalDigitsRow.named Rows.decimalDigitsSpec.vars) = true := by kernel_rfl
theorem c5 : ((Rows.decimalDigitsRow.stops == [])) = true := by kernel_rfl
theorem c6 : ((Try.prog.stops == [])) = true := by kernel_rfl
theorem c7 : ((Rows.decimalDigitsRow.knobs == [])) = true := by kernel_rfl
theorem c8 : ((Try.prog.stopKnobs == [])) = true := by kernel_rfl
theorem c9 : ((Rows.decimalDigitsRow.inPlace == Try.prog.inPlace 12)) = true := by kernel_rfl
theorem c10 : ((Rows.decimalDigitsRow.unfollowed == Try.prog.unfollowed 12)) = true := by kernel_rfl
theorem c11 : ((Rows.decimalDigitsRow.recurses == Try.prog.recurses 12)) = true := by kernel_rfl
theorem c12 : ((Rows.decimalDigitsRow.named == Try.prog.varsNamed 12)) = true := by kernel_rfl
theorem c13 : ((Rows.decimalDigitsRow.maps == (Try.f12.params.toList ++ Rows.decimalDigitsSpec.plain.varTypes Try.prog).any (Try.prog.mapsRec ·))) = true := by kernel_rfl
theorem c14 : ((Rows.decimalDigitsRow.ifaces == (Try.f12.params.toList ++ Rows.decimalDigitsSpec.plain.varTypes Try.prog).any (Try.prog.ifacesRec ·))) = true := by kernel_rfl
theorem c15 : ((Rows.decimalDigitsRow.mapsOut == Try.prog.mapsAmong Try.f12.resultTypes.toList)) = true := by kernel_rfl
theorem c16 : ((Rows.decimalDigitsRow.loops == (Try.f12.params.toList ++ Rows.decimalDigitsSpec.plain.varTypes Try.prog).any (Try.prog.loopsFrom ·))) = true := by kernel_rfl
theorem c17 : ((Rows.decimalDigitsRow.wideKeys == (Try.f12.params.toList ++ Rows.decimalDigitsSpec.plain.varTypes Try.prog ++ Try.f12.resultTypes.toList).any (Try.prog.wideKeysFrom ·))) = true := by kernel_rfl
theorem c18 : (Rows.decimalDigitsSpec.vars.all (Try.prog.varReadable ·)) = true := by kernel_rfl
theorem c19 : (Try.f12.resultTypes.all (fun t => Try.prog.readableRec t && decide (t < Try.prog.types.size))) = true := by kernel_rfl
theorem c20 : ((Rows.decimalDigitsRow.ifacesOut == Try.f12.resultTypes.toList.any (Try.prog.ifacesRec ·))) = true := by kernel_rfl
theorem c21 : ((Rows.decimalDigitsRow.loopsOut == Try.f12.resultTypes.toList.any (Try.prog.loopsFrom ·))) = true := by kernel_rfl
theorem c22 : ((Rows.decimalDigitsRow.plainKeys == Try.prog.plainKeys)) = true := by kernel_rfl
theorem c23 : (Rows.decimalDigitsRow.shortTexts.isNone) = true := by kernel_rfl
theorem c24 : (Try.prog.stopsHeard) = true := by kernel_rfl
theorem c25 : (Try.prog.mayEnter) = true := Facts.mayEnter
theorem c26 : ((Rows.decimalDigitsRow.lifted == Try.prog.liftsFinal)) = true := by rw [Facts.liftsFinal]; kernel_rfl
theorem c27 : ((Try.prog.make == some Rows.decimalDigitsRow.make)) = true := by rw [Facts.make]; kernel_rfl
theorem c28 : ((Rows.decimalDigitsRow.kinds == (if Rows.decimalDigitsRow.domain.isEmpty then [] else Try.f12.params.toList.map fun t => match Try.prog.underlying t with | some (.int k) => some k | _ => none))) = true := by kernel_rfl
theorem c29 : ((Rows.decimalDigitsRow.pinned == Rows.decimalDigitsRow.pinnedBy)) = true := by kernel_rfl
theorem c30 : ((Rows.decimalDigitsRow.veiled == (Try.f12.params.toList ++ Rows.decimalDigitsSpec.plain.varTypes Try.prog ++ Try.f12.resultTypes.toList).any (Try.prog.veiledRec ·))) = true := by kernel_rfl
theorem c31 : (Rows.decimalDigitsRow.veiledFits Try.prog Try.f12.params.toList (Try.f12.params.toList ++ Rows.decimalDigitsSpec.plain.varTypes Try.prog ++ Try.f12.resultTypes.toList)) = true := by kernel_rfl
set_option maxRecDepth 100000 in
theorem closed : joinedFacts Try.prog 12 Try.f12 Rows.decimalDigitsSpec Rows.decimalDigitsRow = true := by
  unfold joinedFacts
  exact both (both (both (both (both (both (both (both (both (both (both (both (both (both (both (both (both (both (both (both (both (both (both (both (both (both (both (both (both (both (both (c0) c1) c2) c3) c4) c5) c6) c7) c8) c9) c10) c11) c12) c13) c14) c15) c16) c17) c18) c19) c20) c21) c22) c23) c24) c25) c26) c27) c28) c29) c30) c31
theorem over : Rows.decimalDigitsRow.holds Try.pinned (OpenSpec.ofChange Rows.decimalDigitsSpec) :=
  OpenClaim.holds_of_wide 12 Try.f12 rfl rfl rfl rfl rfl rfl rfl ⟨rfl, rfl, rfl, rfl, rfl⟩ rfl rfl rfl rfl rfl (by kernel_rfl) Try.func12 closed
    (of_decide_eq_true (by kernel_rfl)) (by unfold Func.isWrapper; first | (rw [if_pos (by decide +kernel)]; kernel_rfl) | (rw [if_neg (by decide +kernel)]; exact ⟨rfl, rfl⟩))
    (fun os started H enc _ => lifted os started H enc)
end Go.Proofs.Ytpkjpiphjdpegaa.decimalDigits
namespace Go.Proofs.Ytpkjpiphjdpegaa
theorem decimalDigits_holds : Rows.DecimalDigitsSaid := decimalDigits.over
end Go.Proofs.Ytpkjpiphjdpegaa
