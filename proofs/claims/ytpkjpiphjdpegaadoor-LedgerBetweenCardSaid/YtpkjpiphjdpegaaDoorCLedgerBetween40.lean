/- A program of this session wrote this text out of the session's own texts. (part 40 of 46) -/
import Derived.Test.YtpkjpiphjdpegaaDoorCLedgerBetween4
import Derived.Test.YtpkjpiphjdpegaaDoorCLedgerBetween14
import Derived.Test.YtpkjpiphjdpegaaDoorCLedgerBetween25
import Derived.Test.YtpkjpiphjdpegaaDoorCLedgerBetween26
import Derived.Test.YtpkjpiphjdpegaaDoorCLedgerBetween31
import Derived.Test.YtpkjpiphjdpegaaDoorCLedgerBetween37
import Derived.Test.YtpkjpiphjdpegaaDoorCLedgerBetween38
import Derived.Test.YtpkjpiphjdpegaaDoorCLedgerBetween39
namespace Go.Proofs.YtpkjpiphjdpegaaDoor.P
open Go.RowKit Go.Proofs.YtpkjpiphjdpegaaDoorW.PrintWords Go.Proofs.YtpkjpiphjdpegaaDoorW.PrintLast Go.Proofs.YtpkjpiphjdpegaaDoorW.PrintMore
attribute [local go_sem] max2_int min2_int max_two min_two max_three min_three max_four min_four
set_option linter.unusedVariables false
set_option linter.unusedSimpArgs false
def ledger_Find.f (l0 : List (S44)) (a1 : ByteArray) : Option (ByteArray × Int × Int × Bool) := (ledger_place.f l0 a1).bind fun t1297 => (if t1297 < 0 then (some ((⟨#[]⟩ : ByteArray), 0, 0, false)) else (if 0 ≤ t1297 then (if t1297 < (l0.length : Int) then (some ((rd_T44 l0 t1297).f0, (rd_T44 l0 t1297).f1.f0, (rd_T44 l0 t1297).f1.f1, true)) else (none)) else (none)))
set_option maxHeartbeats 8000000 in
set_option maxRecDepth 100000 in
theorem ledger_Find.calls (A0 : Option Addr) (c0 : Nat) (l0 : List (S44)) (a1 : ByteArray) (r1 : ByteArray) (r2 : Int) (r3 : Int) (r4 : Bool) (w : World) (hr0 : Kd.C k44 w A0 l0.length l0) (hc0 : l0.length ≤ c0) (h : ledger_Find.f l0 a1 = some (r1, r2, r3, r4)) :
    Calls Tryd.prog 54 #[.slice A0 l0.length c0, .string a1] w fun e w' => e = .returned (.tuple #[.agg #[.string r1, .int .u64 r2, .int .u64 r3], .bool r4]) ∧ Below w.heap.size w w' := by
  have hu44 := Tryd.underlying44
  have HR0 := Aside0.mk hr0
  have HC0 := Aside0.mk hc0
  clear hr0 hc0
  have HB := Aside0.mk (Below.refl w.heap.size w)
  have H : ((ledger_place.f l0 a1).bind fun t1297 => (if t1297 < 0 then (some ((⟨#[]⟩ : ByteArray), 0, 0, false)) else (if 0 ≤ t1297 then (if t1297 < (l0.length : Int) then (some ((rd_T44 l0 t1297).f0, (rd_T44 l0 t1297).f1.f0, (rd_T44 l0 t1297).f1.f1, true)) else (none)) else (none)))) = some (r1, r2, r3, r4) := h
  clear h
  replace H := Option.bind_eq_some_iff.mp H
  obtain ⟨t1297, A30, H⟩ := H
  replace H : (if t1297 < 0 then (some ((⟨#[]⟩ : ByteArray), 0, 0, false)) else (if 0 ≤ t1297 then (if t1297 < (l0.length : Int) then (some ((rd_T44 l0 t1297).f0, (rd_T44 l0 t1297).f1.f0, (rd_T44 l0 t1297).f1.f1, true)) else (none)) else (none))) = some (r1, r2, r3, r4) := H
  have A3 := Aside0.mk A30
  clear A30
  by_cases c4 : t1297 < 0
  · rw [if_pos c4] at H
    have c4b0 : decide (t1297 < 0) = true := decide_eq_true c4
    clear c4
    simp only [Option.some.injEq, Prod.mk.injEq] at H
    obtain ⟨rfl, rfl, rfl, rfl⟩ := H
    go_enter Tryd.func54, Tryd.ntmps54
    go_wp2_with (first | ((with_reducible refine gate_dst (N := 4) rfl ?_); refine box_event ?hg (N := 4) ?hd (cs := #[.string (⟨#[]⟩ : ByteArray), .int .u64 0, .int .u64 0]) (t := 44) ?hr ?_; (case hd => rfl); (case hg => rfl); (case hr => first | (go_simp; done) | (go_simp; rfl)); intro gb1296 hg w5 hbox hb; have n0_ := Aside0.mk (below_step (by repeat (first | (with_reducible first | exact HB.out | apply below_alloc | apply pw_below_drewN | apply below_drew1) | exact HB.out)) hb); have n1_ := Aside0.mk (hbox); have n2_ := Aside0.mk ((by rw [hg]; exact (below_size (by repeat (first | (with_reducible first | exact HB.out | apply below_alloc | apply pw_below_drewN | apply below_drew1) | exact HB.out))) : w.heap.size ≤ gb1296)); have n3_ := Aside0.mk ((by rw [hg]; exact (below_size (by repeat (first | (with_reducible first | exact HB.out | apply below_alloc | apply pw_below_drewN | apply below_drew1) | exact HB.out))) : w.heap.size ≤ gb1296)); clear HB; have HB := n0_; have BK1296 := n1_; have GW1296 := n2_; have GE1296 := n3_; clear n0_ n1_ n2_ n3_; clear hb hbox hg) | ((with_reducible refine gate_callee (f := 91) rfl ?_); refine goesL_ (some 9) rfl rfl Tryd.func91 (by kernel_rfl) rfl #[.slice A0 l0.length c0, .string a1] rfl (by (try simp only [List.map_toArray, List.map_cons, List.map_nil]); first | done | rfl | (simp only [List.length_drop, List.length_take]; rfl)) ?_; (with_reducible refine (ledger_place.calls _ _ l0 a1 t1297 _ ?side1 ?side2 A3.out).mono ?_); (case side1 => repeat (first | exact (Kd.C_below HR0.out HB.out) | (with_reducible refine Kd.C_alloc ?_ _) | (with_reducible refine Kd.C_drewN ?_ _) | (with_reducible refine Kd.C_drew ?_))); (case side2 => exact HC0.out); rintro e w6 ⟨rfl, hb⟩; refine ⟨_, rfl, ?_⟩; have n0_ := Aside0.mk (blk_below (g := gb1296) (o := .cells #[.string (⟨#[]⟩ : ByteArray), .int .u64 0, .int .u64 0] 44 (0, 0)) (by (with_reducible repeat (first | refine blk_drewN ?_ _ | refine blk_drew ?_ | refine blk_alloc ?_ _)); exact BK1296.out) hb); have n1_ := Aside0.mk (below_step (by repeat (first | (with_reducible first | exact HB.out | apply below_alloc | apply pw_below_drewN | apply below_drew1 | refine below_set ?_ GE1296.out) | exact HB.out)) hb); clear BK1296; clear HB; have BK1296 := n0_; have HB := n1_; clear n0_ n1_; (try clear hb); (try clear hb2); (try clear hk); (try clear hi); have hcz7_0 : w6.cell? ⟨gb1296, 0, none⟩ = some (.string (⟨#[]⟩ : ByteArray)) := (blk_cell BK1296.out 0).trans rfl; have hcz7_1 : w6.cell? ⟨gb1296, 1, none⟩ = some (.int .u64 0) := (blk_cell BK1296.out 1).trans rfl; have hcz7_2 : w6.cell? ⟨gb1296, 2, none⟩ = some (.int .u64 0) := (blk_cell BK1296.out 2).trans rfl; have hfz7_0 := blk_frozen BK1296.out 0; have hfz7_1 := blk_frozen BK1296.out 1; have hfz7_2 := blk_frozen BK1296.out 2))
    refine bodyPost_ret (results_ct rfl _ _ gb1296 44 #[.string (⟨#[]⟩ : ByteArray), .int .u64 0, .int .u64 0] (0, 0) _ rfl (by (with_reducible repeat (first | refine blk_drewN ?_ _ | refine blk_drew ?_ | refine blk_alloc ?_ _)); refine blk_put (cs := #[.string (⟨#[]⟩ : ByteArray), .int .u64 0, .int .u64 0]) ?_ 2 _ rfl; (with_reducible repeat (first | refine blk_drewN ?_ _ | refine blk_drew ?_ | refine blk_alloc ?_ _)); refine blk_put (cs := #[.string (⟨#[]⟩ : ByteArray), .int .u64 0, .int .u64 0]) ?_ 1 _ rfl; (with_reducible repeat (first | refine blk_drewN ?_ _ | refine blk_drew ?_ | refine blk_alloc ?_ _)); refine blk_put (cs := #[.string (⟨#[]⟩ : ByteArray), .int .u64 0, .int .u64 0]) ?_ 0 _ rfl; (with_reducible repeat (first | refine blk_drewN ?_ _ | refine blk_drew ?_ | refine blk_alloc ?_ _)); exact BK1296.out) Tryd.underlying44 rfl (by kernel_rfl)) rfl ?_
    exact ⟨by first | rfl | (simp [errW_none, errW_some] <;> rfl) | (simp [*, errW_none, errW_some] <;> rfl), by repeat (first | (with_reducible first | exact HB.out | apply below_alloc | apply pw_below_drewN | apply below_drew1 | refine below_set ?_ GE1296.out) | exact HB.out)⟩
  · rw [if_neg c4] at H
    have c4b0 : decide (t1297 < 0) = false := decide_eq_false c4
    clear c4
    by_cases c8 : 0 ≤ t1297
    · rw [if_pos c8] at H
      have c8b0 : decide (0 ≤ t1297) = true := decide_eq_true c8
      clear c8
      by_cases c9 : t1297 < (l0.length : Int)
      · rw [if_pos c9] at H
        have c9b0 : decide (t1297 < (l0.length : Int)) = true := decide_eq_true c9
        clear c9
        simp only [Option.some.injEq, Prod.mk.injEq] at H
        obtain ⟨rfl, rfl, rfl, rfl⟩ := H
        go_enter Tryd.func54, Tryd.ntmps54
        go_wp2_with (first | ((with_reducible refine gate_dst (N := 4) rfl ?_); refine box_event ?hg (N := 4) ?hd (cs := #[.string (⟨#[]⟩ : ByteArray), .int .u64 0, .int .u64 0]) (t := 44) ?hr ?_; (case hd => rfl); (case hg => rfl); (case hr => first | (go_simp; done) | (go_simp; rfl)); intro gb1296 hg w10 hbox hb; have n0_ := Aside0.mk (below_step (by repeat (first | (with_reducible first | exact HB.out | apply below_alloc | apply pw_below_drewN | apply below_drew1) | exact HB.out)) hb); have n1_ := Aside0.mk (hbox); have n2_ := Aside0.mk ((by rw [hg]; exact (below_size (by repeat (first | (with_reducible first | exact HB.out | apply below_alloc | apply pw_below_drewN | apply below_drew1) | exact HB.out))) : w.heap.size ≤ gb1296)); have n3_ := Aside0.mk ((by rw [hg]; exact (below_size (by repeat (first | (with_reducible first | exact HB.out | apply below_alloc | apply pw_below_drewN | apply below_drew1) | exact HB.out))) : w.heap.size ≤ gb1296)); clear HB; have HB := n0_; have BK1296 := n1_; have GW1296 := n2_; have GE1296 := n3_; clear n0_ n1_ n2_ n3_; clear hb hbox hg) | ((with_reducible refine gate_callee (f := 91) rfl ?_); refine goesL_ (some 9) rfl rfl Tryd.func91 (by kernel_rfl) rfl #[.slice A0 l0.length c0, .string a1] rfl (by (try simp only [List.map_toArray, List.map_cons, List.map_nil]); first | done | rfl | (simp only [List.length_drop, List.length_take]; rfl)) ?_; (with_reducible refine (ledger_place.calls _ _ l0 a1 t1297 _ ?side1 ?side2 A3.out).mono ?_); (case side1 => repeat (first | exact (Kd.C_below HR0.out HB.out) | (with_reducible refine Kd.C_alloc ?_ _) | (with_reducible refine Kd.C_drewN ?_ _) | (with_reducible refine Kd.C_drew ?_))); (case side2 => exact HC0.out); rintro e w11 ⟨rfl, hb⟩; refine ⟨_, rfl, ?_⟩; have n0_ := Aside0.mk (blk_below (g := gb1296) (o := .cells #[.string (⟨#[]⟩ : ByteArray), .int .u64 0, .int .u64 0] 44 (0, 0)) (by (with_reducible repeat (first | refine blk_drewN ?_ _ | refine blk_drew ?_ | refine blk_alloc ?_ _)); exact BK1296.out) hb); have n1_ := Aside0.mk (below_step (by repeat (first | (with_reducible first | exact HB.out | apply below_alloc | apply pw_below_drewN | apply below_drew1 | refine below_set ?_ GE1296.out) | exact HB.out)) hb); clear BK1296; clear HB; have BK1296 := n0_; have HB := n1_; clear n0_ n1_; (try clear hb); (try clear hb2); (try clear hk); (try clear hi); have p1298 : 0 ≤ (t1297 : Int) := of_decide_eq_true (by first | (with_reducible assumption) | assumption); have q1298 : t1297 < (l0.length : Int) := of_decide_eq_true (by first | (with_reducible assumption) | assumption); obtain ⟨ad1298, e1298, hx1298_0, hx1298_1, hx1298_2⟩ := at_T44 HR0.out t1297 p1298 q1298; cases e1298; replace hx1298_0 := (HB.out.cell (World.block_lt_of_cell? w _ hx1298_0)).trans hx1298_0; replace hx1298_1 := (HB.out.cell (World.block_lt_of_cell? w _ hx1298_1)).trans hx1298_1; replace hx1298_2 := (HB.out.cell (World.block_lt_of_cell? w _ hx1298_2)).trans hx1298_2; replace p1298 := eq_true p1298; replace q1298 := eq_true q1298; have hcz12_0 : w11.cell? ⟨gb1296, 0, none⟩ = some (.string (⟨#[]⟩ : ByteArray)) := (blk_cell BK1296.out 0).trans rfl; have hcz12_1 : w11.cell? ⟨gb1296, 1, none⟩ = some (.int .u64 0) := (blk_cell BK1296.out 1).trans rfl; have hcz12_2 : w11.cell? ⟨gb1296, 2, none⟩ = some (.int .u64 0) := (blk_cell BK1296.out 2).trans rfl; have hfz12_0 := blk_frozen BK1296.out 0; have hfz12_1 := blk_frozen BK1296.out 1; have hfz12_2 := blk_frozen BK1296.out 2))
        refine bodyPost_ret (results_ct rfl _ _ gb1296 44 #[.string ((rd_T44 l0 t1297).f0), .int .u64 ((rd_T44 l0 t1297).f1.f0), .int .u64 ((rd_T44 l0 t1297).f1.f1)] (0, 0) _ rfl (by (with_reducible repeat (first | refine blk_drewN ?_ _ | refine blk_drew ?_ | refine blk_alloc ?_ _)); refine blk_put (cs := #[.string ((rd_T44 l0 t1297).f0), .int .u64 ((rd_T44 l0 t1297).f1.f0), .int .u64 0]) ?_ 2 _ rfl; (with_reducible repeat (first | refine blk_drewN ?_ _ | refine blk_drew ?_ | refine blk_alloc ?_ _)); refine blk_put (cs := #[.string ((rd_T44 l0 t1297).f0), .int .u64 0, .int .u64 0]) ?_ 1 _ rfl; (with_reducible repeat (first | refine blk_drewN ?_ _ | refine blk_drew ?_ | refine blk_alloc ?_ _)); refine blk_put (cs := #[.string (⟨#[]⟩ : ByteArray), .int .u64 0, .int .u64 0]) ?_ 0 _ rfl; (with_reducible repeat (first | refine blk_drewN ?_ _ | refine blk_drew ?_ | refine blk_alloc ?_ _)); exact BK1296.out) Tryd.underlying44 rfl (by kernel_rfl)) rfl ?_
        exact ⟨by first | rfl | (simp [errW_none, errW_some] <;> rfl) | (simp [*, errW_none, errW_some] <;> rfl), by repeat (first | (with_reducible first | exact HB.out | apply below_alloc | apply pw_below_drewN | apply below_drew1 | refine below_set ?_ GE1296.out) | exact HB.out)⟩
      · rw [if_neg c9] at H
        exact absurd H (by simp)
    · rw [if_neg c8] at H
      exact absurd H (by simp)
end Go.Proofs.YtpkjpiphjdpegaaDoor.P
