/- A program of this session wrote this text out of the session's own texts. (part 20 of 25) -/
import Derived.Test.YtpkjpiphjdpegaaCLedgerFinds4
import Derived.Test.YtpkjpiphjdpegaaCLedgerFinds19
namespace Go.Proofs.Ytpkjpiphjdpegaa.P
open Go.RowKit Go.Proofs.YtpkjpiphjdpegaaW.PrintWords Go.Proofs.YtpkjpiphjdpegaaW.PrintLast Go.Proofs.YtpkjpiphjdpegaaW.PrintMore
attribute [local go_sem] max2_int min2_int max_two min_two max_three min_three max_four min_four
set_option linter.unusedVariables false
set_option linter.unusedSimpArgs false
def paymasterlaw10_Long.l0 : Nat → List (S83) → Int → Option (Bool)
  | 0, _, _ => none
  | k + 1, x0, x3 => if x3 < (x0.length : Int) then (if 0 ≤ x3 then (if (((rd_T83 x0 x3).f0).size : Int) > 200 then (some true) else (paymasterlaw10_Long.l0 k x0 (wrap64 (x3 + 1)))) else (none)) else (some false)
def paymasterlaw10_Long.f (k : Nat) (l0 : List (S83)) : Option (Bool) := if (l0.length : Int) > 200 then (some true) else (paymasterlaw10_Long.l0 k l0 0)
theorem paymasterlaw10_Long.mono_l : ∀ k, (∀ y0 y1, LeO (paymasterlaw10_Long.l0 k y0 y1) (paymasterlaw10_Long.l0 (k + 1) y0 y1))
  | 0 => fun _ _ r h => by simp [paymasterlaw10_Long.l0] at h
  | k + 1 => by
    have ih0 := paymasterlaw10_Long.mono_l k
    · intro y0 y1
      unfold paymasterlaw10_Long.l0
      repeat' first
      | (with_reducible exact ih0 _ _)
      | (with_reducible exact LeO.refl _)
      | (with_reducible exact LeO.none _)
      | (with_reducible refine LeO.ite ?_ ?_)
      | (with_reducible refine LeO.bind ?_ (fun _ => ?_))
      | exact ih0 _ _
      | exact LeO.none _
      | refine LeO.ite ?_ ?_
      | refine LeO.bind ?_ (fun _ => ?_)
theorem paymasterlaw10_Long.mono : ∀ a0 k, LeO (paymasterlaw10_Long.f k a0) (paymasterlaw10_Long.f (k + 1) a0) := by
  intro a0 k
  have ih0 := paymasterlaw10_Long.mono_l k
  unfold paymasterlaw10_Long.f
  repeat' first
      | (with_reducible exact ih0 _ _)
      | (with_reducible exact LeO.refl _)
      | (with_reducible exact LeO.none _)
      | (with_reducible refine LeO.ite ?_ ?_)
      | (with_reducible refine LeO.bind ?_ (fun _ => ?_))
      | exact ih0 _ _
      | exact LeO.none _
      | refine LeO.ite ?_ ?_
      | refine LeO.bind ?_ (fun _ => ?_)
set_option maxHeartbeats 8000000 in
set_option maxRecDepth 100000 in
theorem paymasterlaw10_Long.calls (k : Nat) (A0 : Option Addr) (c0 : Nat) (l0 : List (S83)) (r : Bool) (w : World) (hr0 : Kd.C k83 w A0 l0.length l0) (hc0 : l0.length ≤ c0) (h : paymasterlaw10_Long.f k l0 = some r) :
    Calls Try.prog 70 #[.slice A0 l0.length c0] w fun e w' => e = .returned (.bool r) ∧ Drawn0 w w' := by
  have HR0 := Aside0.mk hr0
  have HC0 := Aside0.mk hc0
  clear hr0 hc0
  have H : (if (l0.length : Int) > 200 then (some true) else (paymasterlaw10_Long.l0 k l0 0)) = some r := h
  clear h
  by_cases c2 : (l0.length : Int) > 200
  · rw [if_pos c2] at H
    have c2b0 : decide (200 < (l0.length : Int)) = true := decide_eq_true c2
    have c2b1 : decide (200 < l0.length) = true := decide_eq_true (by omega)
    clear c2
    obtain rfl := Option.some.inj H
    go_enter Try.func70, Try.ntmps70
    go_wp2
    go_ret
    exact ⟨by first | rfl | (simp; done) | (simp [*]; done), by repeat (first | exact Drawn0.refl _ | apply Drawn0.step)⟩
  · rw [if_neg c2] at H
    have c2b0 : decide (200 < (l0.length : Int)) = false := decide_eq_false c2
    have c2b1 : decide (200 < l0.length) = false := decide_eq_false (by omega)
    clear c2
    have H' := Aside0.mk H
    clear H
    go_enter Try.func70, Try.ntmps70
    go_wp2
    go_loopg [3] k (fun kq v3 w' => ∃ (x3_1 : Int), v3 = .int .i64 x3_1 ∧ Aside0 (paymasterlaw10_Long.l0 kq l0 x3_1 = some r) ∧ Aside0 (kq ≤ k) ∧ Drawn0 w w')
    case atStart => exact ⟨(0), (by first | rfl | (simp; done) | (simp [*]; done)), H', ⟨Nat.le_refl _⟩, by repeat (first | exact Drawn0.refl _ | apply Drawn0.step)⟩
    case round =>
      clear H'
      try clear c2
      try clear c2b0
      try clear c2b1
      try clear p2
      obtain ⟨x3_1, rfl, HA, HK1, ⟨m1, rfl⟩⟩ := hrel
      cases gk with
      | zero => exact absurd HA.out (by simp [paymasterlaw10_Long.l0])
      | succ k1 =>
        have H := HA.out
        clear HA
        simp only [paymasterlaw10_Long.l0] at H
        by_cases c3 : x3_1 < (l0.length : Int)
        · rw [if_pos c3] at H
          have c3b0 : decide (x3_1 < (l0.length : Int)) = true := decide_eq_true c3
          clear c3
          by_cases c4 : 0 ≤ x3_1
          · rw [if_pos c4] at H
            have c4b0 : decide (0 ≤ x3_1) = true := decide_eq_true c4
            clear c4
            by_cases c5 : (((rd_T83 l0 x3_1).f0).size : Int) > 200
            · rw [if_pos c5] at H
              have c5b0 : decide (200 < (((rd_T83 l0 x3_1).f0).size : Int)) = true := decide_eq_true c5
              have c5b1 : decide (200 < ((rd_T83 l0 x3_1).f0).size) = true := decide_eq_true (by omega)
              clear c5
              obtain rfl := Option.some.inj H
              have p1491 : 0 ≤ (x3_1 : Int) := of_decide_eq_true (by first | (with_reducible assumption) | assumption)
              have q1491 : x3_1 < (l0.length : Int) := of_decide_eq_true (by first | (with_reducible assumption) | assumption)
              obtain ⟨ad1491, e1491, hx1491_0, hx1491_1, hx1491_2⟩ := at_T83 HR0.out x3_1 p1491 q1491
              cases e1491
              replace p1491 := eq_true p1491
              replace q1491 := eq_true q1491
              go_wp2
              go_ret
              exact ⟨by first | rfl | (simp; done) | (simp [*]; done), by repeat (first | exact Drawn0.refl _ | apply Drawn0.step)⟩
            · rw [if_neg c5] at H
              have c5b0 : decide (200 < (((rd_T83 l0 x3_1).f0).size : Int)) = false := decide_eq_false c5
              have c5b1 : decide (200 < ((rd_T83 l0 x3_1).f0).size) = false := decide_eq_false (by omega)
              clear c5
              have H' := Aside0.mk H
              clear H
              have p1491 : 0 ≤ (x3_1 : Int) := of_decide_eq_true (by first | (with_reducible assumption) | assumption)
              have q1491 : x3_1 < (l0.length : Int) := of_decide_eq_true (by first | (with_reducible assumption) | assumption)
              obtain ⟨ad1491, e1491, hx1491_0, hx1491_1, hx1491_2⟩ := at_T83 HR0.out x3_1 p1491 q1491
              cases e1491
              replace p1491 := eq_true p1491
              replace q1491 := eq_true q1491
              go_wp2
              go_roundg k1
              case measure => have := HK1.out; omega
              case rel => exact ⟨(wrap64 (x3_1 + 1)), (by first | rfl | (simp; done) | (simp [*]; done)), H', ⟨by have := HK1.out; omega⟩, by repeat (first | exact Drawn0.refl _ | apply Drawn0.step)⟩
          · rw [if_neg c4] at H
            exact absurd H (by simp)
        · rw [if_neg c3] at H
          have c3b0 : decide (x3_1 < (l0.length : Int)) = false := decide_eq_false c3
          clear c3
          obtain rfl := Option.some.inj H
          go_wp2
          go_ret
          exact ⟨by first | rfl | (simp; done) | (simp [*]; done), by repeat (first | exact Drawn0.refl _ | apply Drawn0.step)⟩
def ledger_Find.f (l0 : List (S83)) (a1 : ByteArray) : Option (ByteArray × Int × Int × Bool) := (ledger_place.f l0 a1).bind fun t1493 => (if t1493 < 0 then (some ((⟨#[]⟩ : ByteArray), 0, 0, false)) else (if 0 ≤ t1493 then (if t1493 < (l0.length : Int) then (some ((rd_T83 l0 t1493).f0, (rd_T83 l0 t1493).f1.f0, (rd_T83 l0 t1493).f1.f1, true)) else (none)) else (none)))
set_option maxHeartbeats 8000000 in
set_option maxRecDepth 100000 in
theorem ledger_Find.calls (A0 : Option Addr) (c0 : Nat) (l0 : List (S83)) (a1 : ByteArray) (r1 : ByteArray) (r2 : Int) (r3 : Int) (r4 : Bool) (w : World) (hr0 : Kd.C k83 w A0 l0.length l0) (hc0 : l0.length ≤ c0) (h : ledger_Find.f l0 a1 = some (r1, r2, r3, r4)) :
    Calls Try.prog 71 #[.slice A0 l0.length c0, .string a1] w fun e w' => e = .returned (.tuple #[.agg #[.string r1, .int .u64 r2, .int .u64 r3], .bool r4]) ∧ Below w.heap.size w w' := by
  have hu83 := Try.underlying83
  have HR0 := Aside0.mk hr0
  have HC0 := Aside0.mk hc0
  clear hr0 hc0
  have HB := Aside0.mk (Below.refl w.heap.size w)
  have H : ((ledger_place.f l0 a1).bind fun t1493 => (if t1493 < 0 then (some ((⟨#[]⟩ : ByteArray), 0, 0, false)) else (if 0 ≤ t1493 then (if t1493 < (l0.length : Int) then (some ((rd_T83 l0 t1493).f0, (rd_T83 l0 t1493).f1.f0, (rd_T83 l0 t1493).f1.f1, true)) else (none)) else (none)))) = some (r1, r2, r3, r4) := h
  clear h
  replace H := Option.bind_eq_some_iff.mp H
  obtain ⟨t1493, A30, H⟩ := H
  replace H : (if t1493 < 0 then (some ((⟨#[]⟩ : ByteArray), 0, 0, false)) else (if 0 ≤ t1493 then (if t1493 < (l0.length : Int) then (some ((rd_T83 l0 t1493).f0, (rd_T83 l0 t1493).f1.f0, (rd_T83 l0 t1493).f1.f1, true)) else (none)) else (none))) = some (r1, r2, r3, r4) := H
  have A3 := Aside0.mk A30
  clear A30
  by_cases c4 : t1493 < 0
  · rw [if_pos c4] at H
    have c4b0 : decide (t1493 < 0) = true := decide_eq_true c4
    clear c4
    simp only [Option.some.injEq, Prod.mk.injEq] at H
    obtain ⟨rfl, rfl, rfl, rfl⟩ := H
    go_enter Try.func71, Try.ntmps71
    go_wp2_with (first | ((with_reducible refine gate_dst (N := 4) rfl ?_); refine box_event ?hg (N := 4) ?hd (cs := #[.string (⟨#[]⟩ : ByteArray), .int .u64 0, .int .u64 0]) (t := 83) ?hr ?_; (case hd => rfl); (case hg => rfl); (case hr => first | (go_simp; done) | (go_simp; rfl)); intro gb1492 hg w5 hbox hb; have n0_ := Aside0.mk (below_step (by repeat (first | (with_reducible first | exact HB.out | apply below_alloc | apply pw_below_drewN | apply below_drew1) | exact HB.out)) hb); have n1_ := Aside0.mk (hbox); have n2_ := Aside0.mk ((by rw [hg]; exact (below_size (by repeat (first | (with_reducible first | exact HB.out | apply below_alloc | apply pw_below_drewN | apply below_drew1) | exact HB.out))) : w.heap.size ≤ gb1492)); have n3_ := Aside0.mk ((by rw [hg]; exact (below_size (by repeat (first | (with_reducible first | exact HB.out | apply below_alloc | apply pw_below_drewN | apply below_drew1) | exact HB.out))) : w.heap.size ≤ gb1492)); clear HB; have HB := n0_; have BK1492 := n1_; have GW1492 := n2_; have GE1492 := n3_; clear n0_ n1_ n2_ n3_; clear hb hbox hg) | ((with_reducible refine gate_callee (f := 97) rfl ?_); refine goesL_ (some 9) rfl rfl Try.func97 (by kernel_rfl) rfl #[.slice A0 l0.length c0, .string a1] rfl (by (try simp only [List.map_toArray, List.map_cons, List.map_nil]); first | done | rfl | (simp only [List.length_drop, List.length_take]; rfl)) ?_; (with_reducible refine (ledger_place.calls _ _ l0 a1 t1493 _ ?side1 ?side2 A3.out).mono ?_); (case side1 => repeat (first | exact (Kd.C_below HR0.out HB.out) | (with_reducible refine Kd.C_alloc ?_ _) | (with_reducible refine Kd.C_drewN ?_ _) | (with_reducible refine Kd.C_drew ?_))); (case side2 => exact HC0.out); rintro e w6 ⟨rfl, hb⟩; refine ⟨_, rfl, ?_⟩; have n0_ := Aside0.mk (blk_below (g := gb1492) (o := .cells #[.string (⟨#[]⟩ : ByteArray), .int .u64 0, .int .u64 0] 83 (0, 0)) (by (with_reducible repeat (first | refine blk_drewN ?_ _ | refine blk_drew ?_ | refine blk_alloc ?_ _)); exact BK1492.out) hb); have n1_ := Aside0.mk (below_step (by repeat (first | (with_reducible first | exact HB.out | apply below_alloc | apply pw_below_drewN | apply below_drew1 | refine below_set ?_ GE1492.out) | exact HB.out)) hb); clear BK1492; clear HB; have BK1492 := n0_; have HB := n1_; clear n0_ n1_; (try clear hb); (try clear hb2); (try clear hk); (try clear hi); have hcz7_0 : w6.cell? ⟨gb1492, 0, none⟩ = some (.string (⟨#[]⟩ : ByteArray)) := (blk_cell BK1492.out 0).trans rfl; have hcz7_1 : w6.cell? ⟨gb1492, 1, none⟩ = some (.int .u64 0) := (blk_cell BK1492.out 1).trans rfl; have hcz7_2 : w6.cell? ⟨gb1492, 2, none⟩ = some (.int .u64 0) := (blk_cell BK1492.out 2).trans rfl; have hfz7_0 := blk_frozen BK1492.out 0; have hfz7_1 := blk_frozen BK1492.out 1; have hfz7_2 := blk_frozen BK1492.out 2))
    refine bodyPost_ret (results_ct rfl _ _ gb1492 83 #[.string (⟨#[]⟩ : ByteArray), .int .u64 0, .int .u64 0] (0, 0) _ rfl (by (with_reducible repeat (first | refine blk_drewN ?_ _ | refine blk_drew ?_ | refine blk_alloc ?_ _)); refine blk_put (cs := #[.string (⟨#[]⟩ : ByteArray), .int .u64 0, .int .u64 0]) ?_ 2 _ rfl; (with_reducible repeat (first | refine blk_drewN ?_ _ | refine blk_drew ?_ | refine blk_alloc ?_ _)); refine blk_put (cs := #[.string (⟨#[]⟩ : ByteArray), .int .u64 0, .int .u64 0]) ?_ 1 _ rfl; (with_reducible repeat (first | refine blk_drewN ?_ _ | refine blk_drew ?_ | refine blk_alloc ?_ _)); refine blk_put (cs := #[.string (⟨#[]⟩ : ByteArray), .int .u64 0, .int .u64 0]) ?_ 0 _ rfl; (with_reducible repeat (first | refine blk_drewN ?_ _ | refine blk_drew ?_ | refine blk_alloc ?_ _)); exact BK1492.out) Try.underlying83 rfl (by kernel_rfl)) rfl ?_
    exact ⟨by first | rfl | (simp [errW_none, errW_some] <;> rfl) | (simp [*, errW_none, errW_some] <;> rfl), by repeat (first | (with_reducible first | exact HB.out | apply below_alloc | apply pw_below_drewN | apply below_drew1 | refine below_set ?_ GE1492.out) | exact HB.out)⟩
  · rw [if_neg c4] at H
    have c4b0 : decide (t1493 < 0) = false := decide_eq_false c4
    clear c4
    by_cases c8 : 0 ≤ t1493
    · rw [if_pos c8] at H
      have c8b0 : decide (0 ≤ t1493) = true := decide_eq_true c8
      clear c8
      by_cases c9 : t1493 < (l0.length : Int)
      · rw [if_pos c9] at H
        have c9b0 : decide (t1493 < (l0.length : Int)) = true := decide_eq_true c9
        clear c9
        simp only [Option.some.injEq, Prod.mk.injEq] at H
        obtain ⟨rfl, rfl, rfl, rfl⟩ := H
        go_enter Try.func71, Try.ntmps71
        go_wp2_with (first | ((with_reducible refine gate_dst (N := 4) rfl ?_); refine box_event ?hg (N := 4) ?hd (cs := #[.string (⟨#[]⟩ : ByteArray), .int .u64 0, .int .u64 0]) (t := 83) ?hr ?_; (case hd => rfl); (case hg => rfl); (case hr => first | (go_simp; done) | (go_simp; rfl)); intro gb1492 hg w10 hbox hb; have n0_ := Aside0.mk (below_step (by repeat (first | (with_reducible first | exact HB.out | apply below_alloc | apply pw_below_drewN | apply below_drew1) | exact HB.out)) hb); have n1_ := Aside0.mk (hbox); have n2_ := Aside0.mk ((by rw [hg]; exact (below_size (by repeat (first | (with_reducible first | exact HB.out | apply below_alloc | apply pw_below_drewN | apply below_drew1) | exact HB.out))) : w.heap.size ≤ gb1492)); have n3_ := Aside0.mk ((by rw [hg]; exact (below_size (by repeat (first | (with_reducible first | exact HB.out | apply below_alloc | apply pw_below_drewN | apply below_drew1) | exact HB.out))) : w.heap.size ≤ gb1492)); clear HB; have HB := n0_; have BK1492 := n1_; have GW1492 := n2_; have GE1492 := n3_; clear n0_ n1_ n2_ n3_; clear hb hbox hg) | ((with_reducible refine gate_callee (f := 97) rfl ?_); refine goesL_ (some 9) rfl rfl Try.func97 (by kernel_rfl) rfl #[.slice A0 l0.length c0, .string a1] rfl (by (try simp only [List.map_toArray, List.map_cons, List.map_nil]); first | done | rfl | (simp only [List.length_drop, List.length_take]; rfl)) ?_; (with_reducible refine (ledger_place.calls _ _ l0 a1 t1493 _ ?side1 ?side2 A3.out).mono ?_); (case side1 => repeat (first | exact (Kd.C_below HR0.out HB.out) | (with_reducible refine Kd.C_alloc ?_ _) | (with_reducible refine Kd.C_drewN ?_ _) | (with_reducible refine Kd.C_drew ?_))); (case side2 => exact HC0.out); rintro e w11 ⟨rfl, hb⟩; refine ⟨_, rfl, ?_⟩; have n0_ := Aside0.mk (blk_below (g := gb1492) (o := .cells #[.string (⟨#[]⟩ : ByteArray), .int .u64 0, .int .u64 0] 83 (0, 0)) (by (with_reducible repeat (first | refine blk_drewN ?_ _ | refine blk_drew ?_ | refine blk_alloc ?_ _)); exact BK1492.out) hb); have n1_ := Aside0.mk (below_step (by repeat (first | (with_reducible first | exact HB.out | apply below_alloc | apply pw_below_drewN | apply below_drew1 | refine below_set ?_ GE1492.out) | exact HB.out)) hb); clear BK1492; clear HB; have BK1492 := n0_; have HB := n1_; clear n0_ n1_; (try clear hb); (try clear hb2); (try clear hk); (try clear hi); have p1494 : 0 ≤ (t1493 : Int) := of_decide_eq_true (by first | (with_reducible assumption) | assumption); have q1494 : t1493 < (l0.length : Int) := of_decide_eq_true (by first | (with_reducible assumption) | assumption); obtain ⟨ad1494, e1494, hx1494_0, hx1494_1, hx1494_2⟩ := at_T83 HR0.out t1493 p1494 q1494; cases e1494; replace hx1494_0 := (HB.out.cell (World.block_lt_of_cell? w _ hx1494_0)).trans hx1494_0; replace hx1494_1 := (HB.out.cell (World.block_lt_of_cell? w _ hx1494_1)).trans hx1494_1; replace hx1494_2 := (HB.out.cell (World.block_lt_of_cell? w _ hx1494_2)).trans hx1494_2; replace p1494 := eq_true p1494; replace q1494 := eq_true q1494; have hcz12_0 : w11.cell? ⟨gb1492, 0, none⟩ = some (.string (⟨#[]⟩ : ByteArray)) := (blk_cell BK1492.out 0).trans rfl; have hcz12_1 : w11.cell? ⟨gb1492, 1, none⟩ = some (.int .u64 0) := (blk_cell BK1492.out 1).trans rfl; have hcz12_2 : w11.cell? ⟨gb1492, 2, none⟩ = some (.int .u64 0) := (blk_cell BK1492.out 2).trans rfl; have hfz12_0 := blk_frozen BK1492.out 0; have hfz12_1 := blk_frozen BK1492.out 1; have hfz12_2 := blk_frozen BK1492.out 2))
        refine bodyPost_ret (results_ct rfl _ _ gb1492 83 #[.string ((rd_T83 l0 t1493).f0), .int .u64 ((rd_T83 l0 t1493).f1.f0), .int .u64 ((rd_T83 l0 t1493).f1.f1)] (0, 0) _ rfl (by (with_reducible repeat (first | refine blk_drewN ?_ _ | refine blk_drew ?_ | refine blk_alloc ?_ _)); refine blk_put (cs := #[.string ((rd_T83 l0 t1493).f0), .int .u64 ((rd_T83 l0 t1493).f1.f0), .int .u64 0]) ?_ 2 _ rfl; (with_reducible repeat (first | refine blk_drewN ?_ _ | refine blk_drew ?_ | refine blk_alloc ?_ _)); refine blk_put (cs := #[.string ((rd_T83 l0 t1493).f0), .int .u64 0, .int .u64 0]) ?_ 1 _ rfl; (with_reducible repeat (first | refine blk_drewN ?_ _ | refine blk_drew ?_ | refine blk_alloc ?_ _)); refine blk_put (cs := #[.string (⟨#[]⟩ : ByteArray), .int .u64 0, .int .u64 0]) ?_ 0 _ rfl; (with_reducible repeat (first | refine blk_drewN ?_ _ | refine blk_drew ?_ | refine blk_alloc ?_ _)); exact BK1492.out) Try.underlying83 rfl (by kernel_rfl)) rfl ?_
        exact ⟨by first | rfl | (simp [errW_none, errW_some] <;> rfl) | (simp [*, errW_none, errW_some] <;> rfl), by repeat (first | (with_reducible first | exact HB.out | apply below_alloc | apply pw_below_drewN | apply below_drew1 | refine below_set ?_ GE1492.out) | exact HB.out)⟩
      · rw [if_neg c9] at H
        exact absurd H (by simp)
    · rw [if_neg c8] at H
      exact absurd H (by simp)
end Go.Proofs.Ytpkjpiphjdpegaa.P
