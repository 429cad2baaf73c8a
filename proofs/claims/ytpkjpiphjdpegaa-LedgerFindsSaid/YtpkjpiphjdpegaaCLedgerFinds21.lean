/- A program of this session wrote this text out of the session's own texts. (part 21 of 25) -/
import Derived.Test.YtpkjpiphjdpegaaCLedgerFinds4
import Derived.Test.YtpkjpiphjdpegaaCLedgerFinds16
import Derived.Test.YtpkjpiphjdpegaaCLedgerFinds19
namespace Go.Proofs.Ytpkjpiphjdpegaa.P
open Go.RowKit Go.Proofs.YtpkjpiphjdpegaaW.PrintWords Go.Proofs.YtpkjpiphjdpegaaW.PrintLast Go.Proofs.YtpkjpiphjdpegaaW.PrintMore
attribute [local go_sem] max2_int min2_int max_two min_two max_three min_three max_four min_four
set_option linter.unusedVariables false
set_option linter.unusedSimpArgs false
attribute [local go_sem high] eqA83
def paymasterref11_Find.l0 : Nat → List (S83) → ByteArray → Int → Option (ByteArray × Int × Int × Bool)
  | 0, _, _, _ => none
  | k + 1, x0, x1, x6 => if x6 < (x0.length : Int) then (if 0 ≤ x6 then (if ((rd_T83 x0 x6).f0).toList = x1.toList then (some ((rd_T83 x0 x6).f0, (rd_T83 x0 x6).f1.f0, (rd_T83 x0 x6).f1.f1, true)) else (paymasterref11_Find.l0 k x0 x1 (wrap64 (x6 + 1)))) else (none)) else (some ((⟨#[]⟩ : ByteArray), 0, 0, false))
def paymasterref11_Find.f (k : Nat) (l0 : List (S83)) (a1 : ByteArray) : Option (ByteArray × Int × Int × Bool) := paymasterref11_Find.l0 k l0 a1 0
set_option maxHeartbeats 8000000 in
set_option maxRecDepth 100000 in
theorem paymasterref11_Find.calls (k : Nat) (A0 : Option Addr) (c0 : Nat) (l0 : List (S83)) (a1 : ByteArray) (r1 : ByteArray) (r2 : Int) (r3 : Int) (r4 : Bool) (w : World) (hr0 : Kd.C k83 w A0 l0.length l0) (hc0 : l0.length ≤ c0) (h : paymasterref11_Find.f k l0 a1 = some (r1, r2, r3, r4)) :
    Calls Try.prog 72 #[.slice A0 l0.length c0, .string a1] w fun e w' => e = .returned (.tuple #[.agg #[.string r1, .int .u64 r2, .int .u64 r3], .bool r4]) ∧ Below w.heap.size w w' := by
  have hu83 := Try.underlying83
  have HR0 := Aside0.mk hr0
  have HC0 := Aside0.mk hc0
  clear hr0 hc0
  have HB := Aside0.mk (Below.refl w.heap.size w)
  have H : (paymasterref11_Find.l0 k l0 a1 0) = some (r1, r2, r3, r4) := h
  clear h
  have H' := Aside0.mk H
  clear H
  go_enter Try.func72, Try.ntmps72
  go_wp2_with (first | ((with_reducible refine gate_dst (N := 4) rfl ?_); refine box_event ?hg (N := 4) ?hd (cs := #[.string (⟨#[]⟩ : ByteArray), .int .u64 0, .int .u64 0]) (t := 83) ?hr ?_; (case hd => rfl); (case hg => rfl); (case hr => first | (go_simp; done) | (go_simp; rfl)); intro gb1495 hg w3 hbox hb; have n0_ := Aside0.mk (below_step (by repeat (first | (with_reducible first | exact HB.out | apply below_alloc | apply pw_below_drewN | apply below_drew1) | exact HB.out)) hb); have n1_ := Aside0.mk (hbox); have n2_ := Aside0.mk ((by rw [hg]; exact (below_size (by repeat (first | (with_reducible first | exact HB.out | apply below_alloc | apply pw_below_drewN | apply below_drew1) | exact HB.out))) : w.heap.size ≤ gb1495)); have n3_ := Aside0.mk ((by rw [hg]; exact (below_size (by repeat (first | (with_reducible first | exact HB.out | apply below_alloc | apply pw_below_drewN | apply below_drew1) | exact HB.out))) : w.heap.size ≤ gb1495)); clear HB; have HB := n0_; have BK1495 := n1_; have GW1495 := n2_; have GE1495 := n3_; clear n0_ n1_ n2_ n3_; clear hb hbox hg))
  go_loopg [6] k (fun kq v6 w' => ∃ (x6_1 : Int) (x1496000_1 : ByteArray) (x1496001_1 : Int) (x1496002_1 : Int), v6 = .int .i64 x6_1 ∧ Aside0 (paymasterref11_Find.l0 kq l0 a1 x6_1 = some (r1, r2, r3, r4)) ∧ Aside0 (kq ≤ k) ∧ Aside0 (w'.heap[gb1495]? = some (.cells #[.string x1496000_1, .int .u64 x1496001_1, .int .u64 x1496002_1] 83 (0, 0))) ∧ Aside0 (Below w.heap.size w w'))
  case atStart => exact ⟨(0), ((⟨#[]⟩ : ByteArray)), (0), (0), (by first | rfl | (simp; done) | (simp [*]; done)), H', ⟨Nat.le_refl _⟩, ⟨by (with_reducible repeat (first | refine blk_drewN ?_ _ | refine blk_drew ?_ | refine blk_alloc ?_ _)); exact BK1495.out⟩, ⟨by repeat (first | (with_reducible first | exact HB.out | apply below_alloc | apply pw_below_drewN | apply below_drew1 | refine below_set ?_ GE1495.out) | exact HB.out)⟩⟩
  case round =>
    clear H'
    try clear p2
    obtain ⟨x6_1, x1496000_1, x1496001_1, x1496002_1, rfl, HA, HK1, BK1495, HB⟩ := hrel
    cases gk with
    | zero => exact absurd HA.out (by simp [paymasterref11_Find.l0])
    | succ k1 =>
      have H := HA.out
      clear HA
      simp only [paymasterref11_Find.l0] at H
      by_cases c4 : x6_1 < (l0.length : Int)
      · rw [if_pos c4] at H
        have c4b0 : decide (x6_1 < (l0.length : Int)) = true := decide_eq_true c4
        clear c4
        by_cases c5 : 0 ≤ x6_1
        · rw [if_pos c5] at H
          have c5b0 : decide (0 ≤ x6_1) = true := decide_eq_true c5
          clear c5
          by_cases c6 : ((rd_T83 l0 x6_1).f0).toList = a1.toList
          · rw [if_pos c6] at H
            have c6b0 : (((rd_T83 l0 x6_1).f0).toList == a1.toList) = true := beq_iff_eq.mpr c6
            have c6b1 : (((rd_T83 l0 x6_1).f0).toList != a1.toList) = false := bne_eq_false_iff_eq.mpr c6
            clear c6
            simp only [Option.some.injEq, Prod.mk.injEq] at H
            obtain ⟨rfl, rfl, rfl, rfl⟩ := H
            have p1496 : 0 ≤ (x6_1 : Int) := of_decide_eq_true (by first | (with_reducible assumption) | assumption)
            have q1496 : x6_1 < (l0.length : Int) := of_decide_eq_true (by first | (with_reducible assumption) | assumption)
            obtain ⟨ad1496, e1496, hx1496_0, hx1496_1, hx1496_2⟩ := at_T83 HR0.out x6_1 p1496 q1496
            cases e1496
            replace hx1496_0 := (HB.out.cell (World.block_lt_of_cell? w _ hx1496_0)).trans hx1496_0
            replace hx1496_1 := (HB.out.cell (World.block_lt_of_cell? w _ hx1496_1)).trans hx1496_1
            replace hx1496_2 := (HB.out.cell (World.block_lt_of_cell? w _ hx1496_2)).trans hx1496_2
            replace p1496 := eq_true p1496
            replace q1496 := eq_true q1496
            have p1497 : 0 ≤ (x6_1 : Int) := of_decide_eq_true (by first | (with_reducible assumption) | assumption)
            have q1497 : x6_1 < (l0.length : Int) := of_decide_eq_true (by first | (with_reducible assumption) | assumption)
            obtain ⟨ad1497, e1497, hx1497_0, hx1497_1, hx1497_2⟩ := at_T83 HR0.out x6_1 p1497 q1497
            obtain rfl : ad1496 = ad1497 := (by injection e1497)
            replace hx1497_0 := (HB.out.cell (World.block_lt_of_cell? w _ hx1497_0)).trans hx1497_0
            replace hx1497_1 := (HB.out.cell (World.block_lt_of_cell? w _ hx1497_1)).trans hx1497_1
            replace hx1497_2 := (HB.out.cell (World.block_lt_of_cell? w _ hx1497_2)).trans hx1497_2
            replace p1497 := eq_true p1497
            replace q1497 := eq_true q1497
            have hcz7_0 : wr.cell? ⟨gb1495, 0, none⟩ = some (.string x1496000_1) := (blk_cell BK1495.out 0).trans rfl
            have hcz7_1 : wr.cell? ⟨gb1495, 1, none⟩ = some (.int .u64 x1496001_1) := (blk_cell BK1495.out 1).trans rfl
            have hcz7_2 : wr.cell? ⟨gb1495, 2, none⟩ = some (.int .u64 x1496002_1) := (blk_cell BK1495.out 2).trans rfl
            have hfz7_0 := blk_frozen BK1495.out 0
            have hfz7_1 := blk_frozen BK1495.out 1
            have hfz7_2 := blk_frozen BK1495.out 2
            go_wp2
            refine bodyPost_ret (results_ct rfl _ _ gb1495 83 #[.string ((rd_T83 l0 x6_1).f0), .int .u64 ((rd_T83 l0 x6_1).f1.f0), .int .u64 ((rd_T83 l0 x6_1).f1.f1)] (0, 0) _ rfl (by (with_reducible repeat (first | refine blk_drewN ?_ _ | refine blk_drew ?_ | refine blk_alloc ?_ _)); refine blk_put (cs := #[.string ((rd_T83 l0 x6_1).f0), .int .u64 ((rd_T83 l0 x6_1).f1.f0), .int .u64 x1496002_1]) ?_ 2 _ rfl; (with_reducible repeat (first | refine blk_drewN ?_ _ | refine blk_drew ?_ | refine blk_alloc ?_ _)); refine blk_put (cs := #[.string ((rd_T83 l0 x6_1).f0), .int .u64 x1496001_1, .int .u64 x1496002_1]) ?_ 1 _ rfl; (with_reducible repeat (first | refine blk_drewN ?_ _ | refine blk_drew ?_ | refine blk_alloc ?_ _)); refine blk_put (cs := #[.string x1496000_1, .int .u64 x1496001_1, .int .u64 x1496002_1]) ?_ 0 _ rfl; (with_reducible repeat (first | refine blk_drewN ?_ _ | refine blk_drew ?_ | refine blk_alloc ?_ _)); exact BK1495.out) Try.underlying83 rfl (by kernel_rfl)) rfl ?_
            exact ⟨by first | rfl | (simp [errW_none, errW_some] <;> rfl) | (simp [*, errW_none, errW_some] <;> rfl), by repeat (first | (with_reducible first | exact HB.out | apply below_alloc | apply pw_below_drewN | apply below_drew1 | refine below_set ?_ GE1495.out) | exact HB.out)⟩
          · rw [if_neg c6] at H
            have c6b0 : (((rd_T83 l0 x6_1).f0).toList == a1.toList) = false := beq_eq_false_iff_ne.mpr c6
            have c6b1 : (((rd_T83 l0 x6_1).f0).toList != a1.toList) = true := bne_iff_ne.mpr c6
            have H' := Aside0.mk H
            clear H
            have p1496 : 0 ≤ (x6_1 : Int) := of_decide_eq_true (by first | (with_reducible assumption) | assumption)
            have q1496 : x6_1 < (l0.length : Int) := of_decide_eq_true (by first | (with_reducible assumption) | assumption)
            obtain ⟨ad1496, e1496, hx1496_0, hx1496_1, hx1496_2⟩ := at_T83 HR0.out x6_1 p1496 q1496
            cases e1496
            replace hx1496_0 := (HB.out.cell (World.block_lt_of_cell? w _ hx1496_0)).trans hx1496_0
            replace hx1496_1 := (HB.out.cell (World.block_lt_of_cell? w _ hx1496_1)).trans hx1496_1
            replace hx1496_2 := (HB.out.cell (World.block_lt_of_cell? w _ hx1496_2)).trans hx1496_2
            replace p1496 := eq_true p1496
            replace q1496 := eq_true q1496
            go_wp2
            go_roundg k1
            case measure => have := HK1.out; omega
            case rel => exact ⟨(wrap64 (x6_1 + 1)), (x1496000_1), (x1496001_1), (x1496002_1), (by first | rfl | (simp; done) | (simp [*]; done)), H', ⟨by have := HK1.out; omega⟩, ⟨by (with_reducible repeat (first | refine blk_drewN ?_ _ | refine blk_drew ?_ | refine blk_alloc ?_ _)); exact BK1495.out⟩, ⟨by repeat (first | (with_reducible first | exact HB.out | apply below_alloc | apply pw_below_drewN | apply below_drew1 | refine below_set ?_ GE1495.out) | exact HB.out)⟩⟩
        · rw [if_neg c5] at H
          exact absurd H (by simp)
      · rw [if_neg c4] at H
        have c4b0 : decide (x6_1 < (l0.length : Int)) = false := decide_eq_false c4
        clear c4
        simp only [Option.some.injEq, Prod.mk.injEq] at H
        obtain ⟨rfl, rfl, rfl, rfl⟩ := H
        have hcz8_0 : wr.cell? ⟨gb1495, 0, none⟩ = some (.string x1496000_1) := (blk_cell BK1495.out 0).trans rfl
        have hcz8_1 : wr.cell? ⟨gb1495, 1, none⟩ = some (.int .u64 x1496001_1) := (blk_cell BK1495.out 1).trans rfl
        have hcz8_2 : wr.cell? ⟨gb1495, 2, none⟩ = some (.int .u64 x1496002_1) := (blk_cell BK1495.out 2).trans rfl
        have hfz8_0 := blk_frozen BK1495.out 0
        have hfz8_1 := blk_frozen BK1495.out 1
        have hfz8_2 := blk_frozen BK1495.out 2
        go_wp2
        refine bodyPost_ret (results_ct rfl _ _ gb1495 83 #[.string (⟨#[]⟩ : ByteArray), .int .u64 0, .int .u64 0] (0, 0) _ rfl (by (with_reducible repeat (first | refine blk_drewN ?_ _ | refine blk_drew ?_ | refine blk_alloc ?_ _)); refine blk_put (cs := #[.string (⟨#[]⟩ : ByteArray), .int .u64 0, .int .u64 x1496002_1]) ?_ 2 _ rfl; (with_reducible repeat (first | refine blk_drewN ?_ _ | refine blk_drew ?_ | refine blk_alloc ?_ _)); refine blk_put (cs := #[.string (⟨#[]⟩ : ByteArray), .int .u64 x1496001_1, .int .u64 x1496002_1]) ?_ 1 _ rfl; (with_reducible repeat (first | refine blk_drewN ?_ _ | refine blk_drew ?_ | refine blk_alloc ?_ _)); refine blk_put (cs := #[.string x1496000_1, .int .u64 x1496001_1, .int .u64 x1496002_1]) ?_ 0 _ rfl; (with_reducible repeat (first | refine blk_drewN ?_ _ | refine blk_drew ?_ | refine blk_alloc ?_ _)); exact BK1495.out) Try.underlying83 rfl (by kernel_rfl)) rfl ?_
        exact ⟨by first | rfl | (simp [errW_none, errW_some] <;> rfl) | (simp [*, errW_none, errW_some] <;> rfl), by repeat (first | (with_reducible first | exact HB.out | apply below_alloc | apply pw_below_drewN | apply below_drew1 | refine below_set ?_ GE1495.out) | exact HB.out)⟩
mutual
def ledger_Between.l0 : Nat → List (S83) → List (S83) → List (S83) → List (S83) → Int → Int → Option ((List (S83)) × (List (S83)) × (List (S83)))
  | 0, _, _, _, _, _, _ => none
  | k + 1, x0, x1, x4, x12, x13, x14 => if x14 < x13 then (if 0 ≤ x14 then (if x14 < (x12.length : Int) then ((ledger_place.f x1 ((rd_T83 x12 x14).f0)).bind fun t1503 => (if t1503 < 0 then (if x4.length < 4398046511104 then (ledger_Between.l0 k x0 x1 (x4 ++ [(⟨(rd_T83 x12 x14).f0, (⟨(rd_T83 x12 x14).f1.f0, (rd_T83 x12 x14).f1.f1⟩ : S25)⟩ : S83)]) x12 x13 (wrap64 (x14 + 1))) else (none)) else (ledger_Between.l0 k x0 x1 x4 x12 x13 (wrap64 (x14 + 1))))) else (none)) else (none)) else ((row_Sort.f x1).bind fun t1507 => (ledger_Between.l1 k x0 x4 ([] : List (S83)) ([] : List (S83)) t1507 (t1507.length : Int) 0))
def ledger_Between.l1 : Nat → List (S83) → List (S83) → List (S83) → List (S83) → List (S83) → Int → Int → Option ((List (S83)) × (List (S83)) × (List (S83)))
  | 0, _, _, _, _, _, _, _ => none
  | k + 1, x0, x4, x5, x6, x29, x30, x31 => if x31 < x30 then (if 0 ≤ x31 then (if x31 < (x29.length : Int) then ((ledger_place.f x0 ((rd_T83 x29 x31).f0)).bind fun t1512 => (if t1512 < 0 then (if x6.length < 4398046511104 then (ledger_Between.l1 k x0 x4 x5 (x6 ++ [(⟨(rd_T83 x29 x31).f0, (⟨(rd_T83 x29 x31).f1.f0, (rd_T83 x29 x31).f1.f1⟩ : S25)⟩ : S83)]) x29 x30 (wrap64 (x31 + 1))) else (none)) else (if x5.length < 4398046511104 then (ledger_Between.l1 k x0 x4 (x5 ++ [(⟨(rd_T83 x29 x31).f0, (⟨(rd_T83 x29 x31).f1.f0, (rd_T83 x29 x31).f1.f1⟩ : S25)⟩ : S83)]) x6 x29 x30 (wrap64 (x31 + 1))) else (none)))) else (none)) else (none)) else (some (x4, x5, x6))
end
def ledger_Between.f (k : Nat) (l0 : List (S83)) (l1 : List (S83)) : Option ((List (S83)) × (List (S83)) × (List (S83))) := (row_Sort.f l0).bind fun t1498 => (ledger_Between.l0 k l0 l1 ([] : List (S83)) t1498 (t1498.length : Int) 0)
set_option maxHeartbeats 8000000 in
set_option maxRecDepth 100000 in
theorem ledger_Between.calls (k : Nat) (A0 : Option Addr) (c0 : Nat) (l0 : List (S83)) (A1 : Option Addr) (c1 : Nat) (l1 : List (S83)) (r1 : List (S83)) (r2 : List (S83)) (r3 : List (S83)) (w : World) (hr0 : Kd.C k83 w A0 l0.length l0) (hc0 : l0.length ≤ c0) (hr1 : Kd.C k83 w A1 l1.length l1) (hc1 : l1.length ≤ c1) (h : ledger_Between.f k l0 l1 = some (r1, r2, r3)) :
    Calls Try.prog 73 #[.slice A0 l0.length c0, .slice A1 l1.length c1] w fun e w' => ∃ v0_ v1_ v2_ : Value, e = .returned (.tuple #[v0_, v1_, v2_]) ∧ Kd.R k83 83 w' w.heap.size (fun k_ => some k_ ≠ (v1_ : Value).ownBlock ∧ some k_ ≠ (v2_ : Value).ownBlock) v0_ r1 ∧ Kd.R k83 83 w' w.heap.size (fun k_ => some k_ ≠ (v0_ : Value).ownBlock ∧ some k_ ≠ (v2_ : Value).ownBlock) v1_ r2 ∧ Kd.R k83 83 w' w.heap.size (fun k_ => some k_ ≠ (v0_ : Value).ownBlock ∧ some k_ ≠ (v1_ : Value).ownBlock) v2_ r3 ∧ Below w.heap.size w w' := by
  have hu83 := Try.underlying83
  have HR0 := Aside0.mk hr0
  have HC0 := Aside0.mk hc0
  clear hr0 hc0
  have HR1 := Aside0.mk hr1
  have HC1 := Aside0.mk hc1
  clear hr1 hc1
  have HB := Aside0.mk (Below.refl w.heap.size w)
  have H : ((row_Sort.f l0).bind fun t1498 => (ledger_Between.l0 k l0 l1 ([] : List (S83)) t1498 (t1498.length : Int) 0)) = some (r1, r2, r3) := h
  clear h
  replace H := Option.bind_eq_some_iff.mp H
  obtain ⟨t1498, A30, H⟩ := H
  replace H : (ledger_Between.l0 k l0 l1 ([] : List (S83)) t1498 (t1498.length : Int) 0) = some (r1, r2, r3) := H
  have A3 := Aside0.mk A30
  clear A30
  have H' := Aside0.mk H
  clear H
  go_enter Try.func73, Try.ntmps73
  go_wp2_with (first | ((with_reducible refine gate_callee (f := 98) rfl ?_); refine goesL_ (some 12) rfl rfl Try.func98 (by kernel_rfl) rfl #[.slice A0 l0.length c0] rfl (by (try simp only [List.map_toArray, List.map_cons, List.map_nil]); first | done | rfl | (simp only [List.length_drop, List.length_take]; rfl)) ?_; (with_reducible refine (row_Sort.calls _ _ l0 t1498 _ ?side1 ?side2 A3.out).mono ?_); (case side1 => repeat (first | exact HR0.out | (with_reducible refine Kd.C_alloc ?_ _) | (with_reducible refine Kd.C_drewN ?_ _) | (with_reducible refine Kd.C_drew ?_))); (case side2 => exact HC0.out); rintro e w4 ⟨v1499, rfl, ho0, hb⟩; refine ⟨_, rfl, ?_⟩; have n0_ := Aside0.mk (Kd.R_lower ho0 (below_size (by repeat (first | (with_reducible first | exact HB.out | apply below_alloc | apply pw_below_drewN | apply below_drew1) | exact HB.out)))); have n1_ := Aside0.mk (below_step (by repeat (first | (with_reducible first | exact HB.out | apply below_alloc | apply pw_below_drewN | apply below_drew1) | exact HB.out)) hb); clear HB; have HO1500 := n0_; have HB := n1_; clear n0_ n1_; (try clear hb); (try clear hb2); (try clear hk); (try clear hi); (try clear ho0); obtain ⟨Ao5, co5, eo5⟩ := Kd.R_slice HO1500.out; subst eo5))
  go_loopg [4, 14] k (fun kq v4 v14 w' => ∃ (x4_1 : List (S83)) (x14_1 : Int), v14 = .int .i64 x14_1 ∧ Aside0 (ledger_Between.l0 kq l0 l1 x4_1 t1498 (t1498.length : Int) x14_1 = some (r1, r2, r3)) ∧ Aside0 (kq ≤ k) ∧ Aside0 (Kd.R k83 83 w' w.heap.size (fun k_ => some k_ ≠ ((.slice Ao5 t1498.length co5) : Value).ownBlock) v4 x4_1) ∧ Aside0 (Kd.R k83 83 w' w.heap.size (fun k_ => some k_ ≠ (v4 : Value).ownBlock) (.slice Ao5 t1498.length co5) t1498) ∧ Aside0 (Below w.heap.size w w'))
  case atStart => exact ⟨(([] : List (S83))), (0), (by first | rfl | (simp; done) | (simp [*]; done)), H', ⟨Nat.le_refl _⟩, ⟨by first | exact Kd.R_nil _ _ _ _ _ | exact Kd.N_nil _ _ _ _ _ | exact Kd.V_nil _ _ _ _ _ | exact Kd.Q_nil _ _ _ _ _ | exact Kd.S_nil _ _ _ _ _⟩, ⟨by (with_reducible repeat (first | apply Kd.R_alloc | apply Kd.R_drewN | apply Kd.R_drew)); exact Kd.R_mono HO1500.out (fun _ hk => (by simp [Value.ownBlock]))⟩, ⟨by repeat (first | (with_reducible first | exact HB.out | apply below_alloc | apply pw_below_drewN | apply below_drew1) | exact HB.out)⟩⟩
  case round =>
    clear H'
    try clear c1
    try clear p2
    obtain ⟨x4_1, x14_1, rfl, HA, HK1, HO_4, HO_12, HB⟩ := hrel
    cases gk with
    | zero => exact absurd HA.out (by simp [ledger_Between.l0])
    | succ k1 =>
      have H := HA.out
      clear HA
      simp only [ledger_Between.l0] at H
      by_cases c6 : x14_1 < (t1498.length : Int)
      · rw [if_pos c6] at H
        have c6b0 : decide (x14_1 < (t1498.length : Int)) = true := decide_eq_true c6
        clear c6
        by_cases c7 : 0 ≤ x14_1
        · rw [if_pos c7] at H
          have c7b0 : decide (0 ≤ x14_1) = true := decide_eq_true c7
          clear c7
          by_cases c8 : x14_1 < (t1498.length : Int)
          · rw [if_pos c8] at H
            have c8b0 : decide (x14_1 < (t1498.length : Int)) = true := decide_eq_true c8
            clear c8
            replace H := Option.bind_eq_some_iff.mp H
            obtain ⟨t1503, A90, H⟩ := H
            replace H : (if t1503 < 0 then (if x4_1.length < 4398046511104 then (ledger_Between.l0 k1 l0 l1 (x4_1 ++ [(⟨(rd_T83 t1498 x14_1).f0, (⟨(rd_T83 t1498 x14_1).f1.f0, (rd_T83 t1498 x14_1).f1.f1⟩ : S25)⟩ : S83)]) t1498 (t1498.length : Int) (wrap64 (x14_1 + 1))) else (none)) else (ledger_Between.l0 k1 l0 l1 x4_1 t1498 (t1498.length : Int) (wrap64 (x14_1 + 1)))) = some (r1, r2, r3) := H
            have A9 := Aside0.mk A90
            clear A90
            by_cases c10 : t1503 < 0
            · rw [if_pos c10] at H
              have c10b0 : decide (t1503 < 0) = true := decide_eq_true c10
              clear c10
              by_cases c11 : x4_1.length < 4398046511104
              · rw [if_pos c11] at H
                have LMc11 := Aside0.mk c11
                clear c11
                obtain ⟨y1504, hy1504⟩ : ∃ y_ : List (S83), y_ = (x4_1 ++ [(⟨(rd_T83 t1498 x14_1).f0, (⟨(rd_T83 t1498 x14_1).f1.f0, (rd_T83 t1498 x14_1).f1.f1⟩ : S25)⟩ : S83)]) := ⟨_, rfl⟩
                replace H : (ledger_Between.l0 k1 l0 l1 y1504 t1498 (t1498.length : Int) (wrap64 (x14_1 + 1))) = some (r1, r2, r3) := by first | (rw [hy1504]; with_reducible exact H) | (have H2_ := (Option.bind_some _ _).symm.trans H; rw [hy1504]; with_reducible exact H2_) | (have H2_ := (Option.bind_some _ _).symm.trans H; with_reducible exact H2_) | with_reducible exact H | (rw [hy1504]; exact H) | exact H
                have Ny1504 := Aside0.mk hy1504
                clear hy1504
                have H' := Aside0.mk H
                clear H
                have p1501 : 0 ≤ (x14_1 : Int) := of_decide_eq_true (by first | (with_reducible assumption) | assumption)
                have q1501 : x14_1 < (t1498.length : Int) := of_decide_eq_true (by first | (with_reducible assumption) | assumption)
                obtain ⟨ad1501, e1501, hx1501_0, hx1501_1, hx1501_2⟩ := at_T83 (Kd.R_reads' HO_12.out).2.2 x14_1 p1501 q1501
                cases e1501
                replace p1501 := eq_true p1501
                replace q1501 := eq_true q1501
                go_wp2_with (first | ((with_reducible refine gate_dst (N := 8) rfl ?_); refine box_event ?hg (N := 8) ?hd (cs := #[.string (⟨#[]⟩ : ByteArray), .int .u64 0, .int .u64 0]) (t := 83) ?hr ?_; (case hd => rfl); (case hg => rfl); (case hr => first | (go_simp; done) | (go_simp; rfl)); intro gb1502 hg w12 hbox hb; have n0_ := Aside0.mk (Kd.R_below (Kd.R_elderB (by (with_reducible repeat (first | apply Kd.R_alloc | apply Kd.R_drewN | apply Kd.R_drew)); exact HO_4.out) gb1502 (Nat.le_of_eq hg.symm)) hb); have n1_ := Aside0.mk (Kd.R_below (Kd.R_elderB (by (with_reducible repeat (first | apply Kd.R_alloc | apply Kd.R_drewN | apply Kd.R_drew)); exact HO_12.out) gb1502 (Nat.le_of_eq hg.symm)) hb); have n2_ := Aside0.mk (below_step (by repeat (first | (with_reducible first | exact HB.out | apply below_alloc | apply pw_below_drewN | apply below_drew1) | exact HB.out)) hb); have n3_ := Aside0.mk (hbox); have n4_ := Aside0.mk ((by rw [hg]; exact (below_size (by repeat (first | (with_reducible first | exact HB.out | apply below_alloc | apply pw_below_drewN | apply below_drew1) | exact HB.out))) : w.heap.size ≤ gb1502)); have n5_ := Aside0.mk ((by rw [hg]; exact (below_size (by repeat (first | (with_reducible first | exact HB.out | apply below_alloc | apply pw_below_drewN | apply below_drew1) | exact HB.out))) : w.heap.size ≤ gb1502)); clear HO_4; clear HO_12; clear HB; have HO_4 := n0_; have HO_12 := n1_; have HB := n2_; have BK1502 := n3_; have GW1502 := n4_; have GE1502 := n5_; clear n0_ n1_ n2_ n3_ n4_ n5_; clear hb hbox hg; have hcz13_0 : w12.cell? ⟨gb1502, 0, none⟩ = some (.string (⟨#[]⟩ : ByteArray)) := (blk_cell BK1502.out 0).trans rfl; have hcz13_1 : w12.cell? ⟨gb1502, 1, none⟩ = some (.int .u64 0) := (blk_cell BK1502.out 1).trans rfl; have hcz13_2 : w12.cell? ⟨gb1502, 2, none⟩ = some (.int .u64 0) := (blk_cell BK1502.out 2).trans rfl; have hfz13_0 := blk_frozen BK1502.out 0; have hfz13_1 := blk_frozen BK1502.out 1; have hfz13_2 := blk_frozen BK1502.out 2) | ((with_reducible refine gate_callee (f := 97) rfl ?_); refine goesL_ (some 21) rfl rfl Try.func97 (by kernel_rfl) rfl #[.slice A1 l1.length c1, .string ((rd_T83 t1498 x14_1).f0)] rfl (by (try simp only [List.map_toArray, List.map_cons, List.map_nil]); first | done | rfl | (simp only [List.length_drop, List.length_take]; rfl)) ?_; (with_reducible refine (ledger_place.calls _ _ l1 ((rd_T83 t1498 x14_1).f0) t1503 _ ?side1 ?side2 A9.out).mono ?_); (case side1 => exact Kd.C_below HR1.out (by repeat (first | (with_reducible first | exact HB.out | apply below_alloc | apply pw_below_drewN | apply below_drew1 | refine below_set ?_ GE1502.out) | exact HB.out))); (case side2 => exact HC1.out); rintro e w14 ⟨rfl, hb⟩; refine ⟨_, rfl, ?_⟩; have n0_ := Aside0.mk (Kd.R_below (by (with_reducible repeat (first | apply Kd.R_alloc | apply Kd.R_drewN | apply Kd.R_drew)); exact (Kd.R_mono (Kd.R_far (p := ⟨gb1502, 2, none⟩) (Kd.R_far (p := ⟨gb1502, 1, none⟩) (Kd.R_far (p := ⟨gb1502, 0, none⟩) (Kd.R_mono HO_4.out (fun k_ hk => (⟨hk, hk.2⟩ : _ ∧ k_ ≠ gb1502))) (fun _ hk => hk.2) (.string ((rd_T83 t1498 x14_1).f0))) (fun _ hk => hk.2) (.int .u64 ((rd_T83 t1498 x14_1).f1.f0))) (fun _ hk => hk.2) (.int .u64 ((rd_T83 t1498 x14_1).f1.f1))) (fun _ h_ => h_.1))) hb); have n1_ := Aside0.mk (Kd.R_below (by (with_reducible repeat (first | apply Kd.R_alloc | apply Kd.R_drewN | apply Kd.R_drew)); exact (Kd.R_mono (Kd.R_far (p := ⟨gb1502, 2, none⟩) (Kd.R_far (p := ⟨gb1502, 1, none⟩) (Kd.R_far (p := ⟨gb1502, 0, none⟩) (Kd.R_mono HO_12.out (fun k_ hk => (⟨hk, hk.2⟩ : _ ∧ k_ ≠ gb1502))) (fun _ hk => hk.2) (.string ((rd_T83 t1498 x14_1).f0))) (fun _ hk => hk.2) (.int .u64 ((rd_T83 t1498 x14_1).f1.f0))) (fun _ hk => hk.2) (.int .u64 ((rd_T83 t1498 x14_1).f1.f1))) (fun _ h_ => h_.1))) hb); have n2_ := Aside0.mk (blk_below (g := gb1502) (o := .cells #[.string ((rd_T83 t1498 x14_1).f0), .int .u64 ((rd_T83 t1498 x14_1).f1.f0), .int .u64 ((rd_T83 t1498 x14_1).f1.f1)] 83 (0, 0)) (by (with_reducible repeat (first | refine blk_drewN ?_ _ | refine blk_drew ?_ | refine blk_alloc ?_ _)); refine blk_put (cs := #[.string ((rd_T83 t1498 x14_1).f0), .int .u64 ((rd_T83 t1498 x14_1).f1.f0), .int .u64 0]) ?_ 2 _ rfl; (with_reducible repeat (first | refine blk_drewN ?_ _ | refine blk_drew ?_ | refine blk_alloc ?_ _)); refine blk_put (cs := #[.string ((rd_T83 t1498 x14_1).f0), .int .u64 0, .int .u64 0]) ?_ 1 _ rfl; (with_reducible repeat (first | refine blk_drewN ?_ _ | refine blk_drew ?_ | refine blk_alloc ?_ _)); refine blk_put (cs := #[.string (⟨#[]⟩ : ByteArray), .int .u64 0, .int .u64 0]) ?_ 0 _ rfl; (with_reducible repeat (first | refine blk_drewN ?_ _ | refine blk_drew ?_ | refine blk_alloc ?_ _)); exact BK1502.out) hb); have n3_ := Aside0.mk (below_step (by repeat (first | (with_reducible first | exact HB.out | apply below_alloc | apply pw_below_drewN | apply below_drew1 | refine below_set ?_ GE1502.out) | exact HB.out)) hb); clear HO_4; clear HO_12; clear BK1502; clear HB; have HO_4 := n0_; have HO_12 := n1_; have BK1502 := n2_; have HB := n3_; clear n0_ n1_ n2_ n3_; (try clear hb); (try clear hb2); (try clear hk); (try clear hi); have hcz15_0 : w14.cell? ⟨gb1502, 0, none⟩ = some (.string ((rd_T83 t1498 x14_1).f0)) := (blk_cell BK1502.out 0).trans rfl; have hcz15_1 : w14.cell? ⟨gb1502, 1, none⟩ = some (.int .u64 ((rd_T83 t1498 x14_1).f1.f0)) := (blk_cell BK1502.out 1).trans rfl; have hcz15_2 : w14.cell? ⟨gb1502, 2, none⟩ = some (.int .u64 ((rd_T83 t1498 x14_1).f1.f1)) := (blk_cell BK1502.out 2).trans rfl; have hfz15_0 := blk_frozen BK1502.out 0; have hfz15_1 := blk_frozen BK1502.out 1; have hfz15_2 := blk_frozen BK1502.out 2) | ((with_reducible refine gate_builtin (b := .append) (xs := #[.tmp 23, .tmp 25]) rfl ?_); at_builtin; refine Kd.R_append k83 (w0 := w) w.heap.size rfl (.tmp 23) (.tmp 25) 80 83 (.agg #[(.string ⟨#[]⟩), (.int .u64 0), (.int .u64 0)]) 32 rfl Try.underlying80 info83 rfl (by decide) (by omega) u4 x4_1 (⟨(rd_T83 t1498 x14_1).f0, (⟨(rd_T83 t1498 x14_1).f1.f0, (rd_T83 t1498 x14_1).f1.f1⟩ : S25)⟩ : S83) [.string ((rd_T83 t1498 x14_1).f0), .int .u64 ((rd_T83 t1498 x14_1).f1.f0), .int .u64 ((rd_T83 t1498 x14_1).f1.f1)] (fun k_ => some k_ ≠ (.slice (some ad1501) t1498.length co5 : Value).ownBlock ∧ k_ ≠ gb1502) (fun _ => False) rfl rfl ?aP (fun _ hk => hk.elim) ?aF ?aO ?aB ?aS ?aL ?_; (case aP => exact k83_mkM _ _ _ (⟨(rd_T83 t1498 x14_1).f0, (⟨(rd_T83 t1498 x14_1).f1.f0, (rd_T83 t1498 x14_1).f1.f1⟩ : S25)⟩ : S83)); (case aB => exact (by repeat (first | (with_reducible first | exact HB.out | apply below_alloc | apply pw_below_drewN | apply below_drew1 | refine below_set ?_ GE1502.out) | exact HB.out))); (case aF => exact (fun k_ hk => ⟨Kd.fresh' (Kd.R_lt (by (with_reducible repeat (first | apply Kd.R_alloc | apply Kd.R_drewN | apply Kd.R_drew)); exact HO_12.out)) k_ hk, Kd.freshB (g := gb1502) (o := .cells #[.string ((rd_T83 t1498 x14_1).f0), .int .u64 ((rd_T83 t1498 x14_1).f1.f0), .int .u64 ((rd_T83 t1498 x14_1).f1.f1)] 83 (0, 0)) (by (with_reducible repeat (first | refine blk_drewN ?_ _ | refine blk_drew ?_ | refine blk_alloc ?_ _)); exact BK1502.out) k_ hk⟩)); (case aO => exact (by (with_reducible repeat (first | apply Kd.R_alloc | apply Kd.R_drewN | apply Kd.R_drew)); exact HO_4.out)); (case aS => exact (below_size (by repeat (first | (with_reducible first | exact HB.out | apply below_alloc | apply pw_below_drewN | apply below_drew1 | refine below_set ?_ GE1502.out) | exact HB.out)))); (case aL => have := LMc11.out; omega); intro v1505 w16 ho hb hg hat; rw [← Ny1504.out] at ho; have n0_ := Aside0.mk (Kd.R_after (ok := (fun k_ => k_ ≠ gb1502)) (by (with_reducible repeat (first | apply Kd.R_alloc | apply Kd.R_drewN | apply Kd.R_drew)); exact Kd.R_mono HO_12.out (fun _ hk => ⟨hk.2, hk.1⟩)) hg hat); have n1_ := Aside0.mk (blk_grown (g := gb1502) (o := .cells #[.string ((rd_T83 t1498 x14_1).f0), .int .u64 ((rd_T83 t1498 x14_1).f1.f0), .int .u64 ((rd_T83 t1498 x14_1).f1.f1)] 83 (0, 0)) (by (with_reducible repeat (first | refine blk_drewN ?_ _ | refine blk_drew ?_ | refine blk_alloc ?_ _)); exact BK1502.out) hg (Kd.R_away HO_4.out (fun _ hk => hk.2))); have n2_ := Aside0.mk (hb); have n3_ := Aside0.mk (ho); clear HO_12; clear BK1502; clear HB; clear HO_4; have HO_12 := n0_; have BK1502 := n1_; have HB := n2_; have HO1506 := n3_; clear n0_ n1_ n2_ n3_; clear ho hb hg hat))
                go_roundg k1
                case measure => have := HK1.out; omega
                case rel => exact ⟨(y1504), (wrap64 (x14_1 + 1)), (by first | rfl | (simp; done) | (simp [*]; done)), H', ⟨by have := HK1.out; omega⟩, ⟨by (with_reducible repeat (first | apply Kd.R_alloc | apply Kd.R_drewN | apply Kd.R_drew)); exact Kd.R_mono HO1506.out (fun _ hk => hk.1)⟩, ⟨by (with_reducible repeat (first | apply Kd.R_alloc | apply Kd.R_drewN | apply Kd.R_drew)); exact Kd.R_mono HO_12.out (fun _ hk => hk.2)⟩, ⟨by repeat (first | (with_reducible first | exact HB.out | apply below_alloc | apply pw_below_drewN | apply below_drew1 | refine below_set ?_ GE1502.out) | exact HB.out)⟩⟩
              · rw [if_neg c11] at H
                exact absurd H (by simp)
            · rw [if_neg c10] at H
              have c10b0 : decide (t1503 < 0) = false := decide_eq_false c10
              clear c10
              have H' := Aside0.mk H
              clear H
              have p1501 : 0 ≤ (x14_1 : Int) := of_decide_eq_true (by first | (with_reducible assumption) | assumption)
              have q1501 : x14_1 < (t1498.length : Int) := of_decide_eq_true (by first | (with_reducible assumption) | assumption)
              obtain ⟨ad1501, e1501, hx1501_0, hx1501_1, hx1501_2⟩ := at_T83 (Kd.R_reads' HO_12.out).2.2 x14_1 p1501 q1501
              cases e1501
              replace p1501 := eq_true p1501
              replace q1501 := eq_true q1501
              go_wp2_with (first | ((with_reducible refine gate_dst (N := 8) rfl ?_); refine box_event ?hg (N := 8) ?hd (cs := #[.string (⟨#[]⟩ : ByteArray), .int .u64 0, .int .u64 0]) (t := 83) ?hr ?_; (case hd => rfl); (case hg => rfl); (case hr => first | (go_simp; done) | (go_simp; rfl)); intro gb1502 hg w17 hbox hb; have n0_ := Aside0.mk (Kd.R_below (Kd.R_elderB (by (with_reducible repeat (first | apply Kd.R_alloc | apply Kd.R_drewN | apply Kd.R_drew)); exact HO_4.out) gb1502 (Nat.le_of_eq hg.symm)) hb); have n1_ := Aside0.mk (Kd.R_below (Kd.R_elderB (by (with_reducible repeat (first | apply Kd.R_alloc | apply Kd.R_drewN | apply Kd.R_drew)); exact HO_12.out) gb1502 (Nat.le_of_eq hg.symm)) hb); have n2_ := Aside0.mk (below_step (by repeat (first | (with_reducible first | exact HB.out | apply below_alloc | apply pw_below_drewN | apply below_drew1) | exact HB.out)) hb); have n3_ := Aside0.mk (hbox); have n4_ := Aside0.mk ((by rw [hg]; exact (below_size (by repeat (first | (with_reducible first | exact HB.out | apply below_alloc | apply pw_below_drewN | apply below_drew1) | exact HB.out))) : w.heap.size ≤ gb1502)); have n5_ := Aside0.mk ((by rw [hg]; exact (below_size (by repeat (first | (with_reducible first | exact HB.out | apply below_alloc | apply pw_below_drewN | apply below_drew1) | exact HB.out))) : w.heap.size ≤ gb1502)); clear HO_4; clear HO_12; clear HB; have HO_4 := n0_; have HO_12 := n1_; have HB := n2_; have BK1502 := n3_; have GW1502 := n4_; have GE1502 := n5_; clear n0_ n1_ n2_ n3_ n4_ n5_; clear hb hbox hg; have hcz18_0 : w17.cell? ⟨gb1502, 0, none⟩ = some (.string (⟨#[]⟩ : ByteArray)) := (blk_cell BK1502.out 0).trans rfl; have hcz18_1 : w17.cell? ⟨gb1502, 1, none⟩ = some (.int .u64 0) := (blk_cell BK1502.out 1).trans rfl; have hcz18_2 : w17.cell? ⟨gb1502, 2, none⟩ = some (.int .u64 0) := (blk_cell BK1502.out 2).trans rfl; have hfz18_0 := blk_frozen BK1502.out 0; have hfz18_1 := blk_frozen BK1502.out 1; have hfz18_2 := blk_frozen BK1502.out 2) | ((with_reducible refine gate_callee (f := 97) rfl ?_); refine goesL_ (some 21) rfl rfl Try.func97 (by kernel_rfl) rfl #[.slice A1 l1.length c1, .string ((rd_T83 t1498 x14_1).f0)] rfl (by (try simp only [List.map_toArray, List.map_cons, List.map_nil]); first | done | rfl | (simp only [List.length_drop, List.length_take]; rfl)) ?_; (with_reducible refine (ledger_place.calls _ _ l1 ((rd_T83 t1498 x14_1).f0) t1503 _ ?side1 ?side2 A9.out).mono ?_); (case side1 => exact Kd.C_below HR1.out (by repeat (first | (with_reducible first | exact HB.out | apply below_alloc | apply pw_below_drewN | apply below_drew1 | refine below_set ?_ GE1502.out) | exact HB.out))); (case side2 => exact HC1.out); rintro e w19 ⟨rfl, hb⟩; refine ⟨_, rfl, ?_⟩; have n0_ := Aside0.mk (Kd.R_below (by (with_reducible repeat (first | apply Kd.R_alloc | apply Kd.R_drewN | apply Kd.R_drew)); exact (Kd.R_mono (Kd.R_far (p := ⟨gb1502, 2, none⟩) (Kd.R_far (p := ⟨gb1502, 1, none⟩) (Kd.R_far (p := ⟨gb1502, 0, none⟩) (Kd.R_mono HO_4.out (fun k_ hk => (⟨hk, hk.2⟩ : _ ∧ k_ ≠ gb1502))) (fun _ hk => hk.2) (.string ((rd_T83 t1498 x14_1).f0))) (fun _ hk => hk.2) (.int .u64 ((rd_T83 t1498 x14_1).f1.f0))) (fun _ hk => hk.2) (.int .u64 ((rd_T83 t1498 x14_1).f1.f1))) (fun _ h_ => h_.1))) hb); have n1_ := Aside0.mk (Kd.R_below (by (with_reducible repeat (first | apply Kd.R_alloc | apply Kd.R_drewN | apply Kd.R_drew)); exact (Kd.R_mono (Kd.R_far (p := ⟨gb1502, 2, none⟩) (Kd.R_far (p := ⟨gb1502, 1, none⟩) (Kd.R_far (p := ⟨gb1502, 0, none⟩) (Kd.R_mono HO_12.out (fun k_ hk => (⟨hk, hk.2⟩ : _ ∧ k_ ≠ gb1502))) (fun _ hk => hk.2) (.string ((rd_T83 t1498 x14_1).f0))) (fun _ hk => hk.2) (.int .u64 ((rd_T83 t1498 x14_1).f1.f0))) (fun _ hk => hk.2) (.int .u64 ((rd_T83 t1498 x14_1).f1.f1))) (fun _ h_ => h_.1))) hb); have n2_ := Aside0.mk (blk_below (g := gb1502) (o := .cells #[.string ((rd_T83 t1498 x14_1).f0), .int .u64 ((rd_T83 t1498 x14_1).f1.f0), .int .u64 ((rd_T83 t1498 x14_1).f1.f1)] 83 (0, 0)) (by (with_reducible repeat (first | refine blk_drewN ?_ _ | refine blk_drew ?_ | refine blk_alloc ?_ _)); refine blk_put (cs := #[.string ((rd_T83 t1498 x14_1).f0), .int .u64 ((rd_T83 t1498 x14_1).f1.f0), .int .u64 0]) ?_ 2 _ rfl; (with_reducible repeat (first | refine blk_drewN ?_ _ | refine blk_drew ?_ | refine blk_alloc ?_ _)); refine blk_put (cs := #[.string ((rd_T83 t1498 x14_1).f0), .int .u64 0, .int .u64 0]) ?_ 1 _ rfl; (with_reducible repeat (first | refine blk_drewN ?_ _ | refine blk_drew ?_ | refine blk_alloc ?_ _)); refine blk_put (cs := #[.string (⟨#[]⟩ : ByteArray), .int .u64 0, .int .u64 0]) ?_ 0 _ rfl; (with_reducible repeat (first | refine blk_drewN ?_ _ | refine blk_drew ?_ | refine blk_alloc ?_ _)); exact BK1502.out) hb); have n3_ := Aside0.mk (below_step (by repeat (first | (with_reducible first | exact HB.out | apply below_alloc | apply pw_below_drewN | apply below_drew1 | refine below_set ?_ GE1502.out) | exact HB.out)) hb); clear HO_4; clear HO_12; clear BK1502; clear HB; have HO_4 := n0_; have HO_12 := n1_; have BK1502 := n2_; have HB := n3_; clear n0_ n1_ n2_ n3_; (try clear hb); (try clear hb2); (try clear hk); (try clear hi)))
              go_roundg k1
              case measure => have := HK1.out; omega
              case rel => exact ⟨(x4_1), (wrap64 (x14_1 + 1)), (by first | rfl | (simp; done) | (simp [*]; done)), H', ⟨by have := HK1.out; omega⟩, ⟨by (with_reducible repeat (first | apply Kd.R_alloc | apply Kd.R_drewN | apply Kd.R_drew)); exact Kd.R_mono HO_4.out (fun _ hk => hk.1)⟩, ⟨by (with_reducible repeat (first | apply Kd.R_alloc | apply Kd.R_drewN | apply Kd.R_drew)); exact Kd.R_mono HO_12.out (fun _ hk => hk.1)⟩, ⟨by repeat (first | (with_reducible first | exact HB.out | apply below_alloc | apply pw_below_drewN | apply below_drew1 | refine below_set ?_ GE1502.out) | exact HB.out)⟩⟩
          · rw [if_neg c8] at H
            exact absurd H (by simp)
        · rw [if_neg c7] at H
          exact absurd H (by simp)
      · rw [if_neg c6] at H
        have c6b0 : decide (x14_1 < (t1498.length : Int)) = false := decide_eq_false c6
        clear c6
        replace H := Option.bind_eq_some_iff.mp H
        obtain ⟨t1507, A200, H⟩ := H
        replace H : (ledger_Between.l1 k1 l0 x4_1 ([] : List (S83)) ([] : List (S83)) t1507 (t1507.length : Int) 0) = some (r1, r2, r3) := H
        have A20 := Aside0.mk A200
        clear A200
        have H' := Aside0.mk H
        clear H
        go_wp2_with (first | ((with_reducible refine gate_callee (f := 98) rfl ?_); refine goesL_ (some 29) rfl rfl Try.func98 (by kernel_rfl) rfl #[.slice A1 l1.length c1] rfl (by (try simp only [List.map_toArray, List.map_cons, List.map_nil]); first | done | rfl | (simp only [List.length_drop, List.length_take]; rfl)) ?_; (with_reducible refine (row_Sort.calls _ _ l1 t1507 _ ?side1 ?side2 A20.out).mono ?_); (case side1 => repeat (first | exact (Kd.C_below HR1.out HB.out) | (with_reducible refine Kd.C_alloc ?_ _) | (with_reducible refine Kd.C_drewN ?_ _) | (with_reducible refine Kd.C_drew ?_))); (case side2 => exact HC1.out); rintro e w21 ⟨v1508, rfl, ho0, hb⟩; refine ⟨_, rfl, ?_⟩; have n0_ := Aside0.mk (Kd.R_elder' (by (with_reducible repeat (first | apply Kd.R_alloc | apply Kd.R_drewN | apply Kd.R_drew)); exact HO_4.out) (Kd.R_base ho0) hb); have n1_ := Aside0.mk (Kd.R_elder' (by (with_reducible repeat (first | apply Kd.R_alloc | apply Kd.R_drewN | apply Kd.R_drew)); exact HO_12.out) (Kd.R_base ho0) hb); have n2_ := Aside0.mk (Kd.R_lower (Kd.R_new' (Kd.R_new' ho0 (Kd.R_lt (by (with_reducible repeat (first | apply Kd.R_alloc | apply Kd.R_drewN | apply Kd.R_drew)); exact HO_4.out))) (Kd.R_lt (by (with_reducible repeat (first | apply Kd.R_alloc | apply Kd.R_drewN | apply Kd.R_drew)); exact HO_12.out))) (below_size (by repeat (first | (with_reducible first | exact HB.out | apply below_alloc | apply pw_below_drewN | apply below_drew1) | exact HB.out)))); have n3_ := Aside0.mk (below_step (by repeat (first | (with_reducible first | exact HB.out | apply below_alloc | apply pw_below_drewN | apply below_drew1) | exact HB.out)) hb); clear HO_4; clear HO_12; clear HB; have HO_4 := n0_; have HO_12 := n1_; have HO1509 := n2_; have HB := n3_; clear n0_ n1_ n2_ n3_; (try clear hb); (try clear hb2); (try clear hk); (try clear hi); (try clear ho0); obtain ⟨Ao22, co22, eo22⟩ := Kd.R_slice HO1509.out; subst eo22))
        go_loopg [5, 6, 31] k1 (fun kq v5 v6 v31 w' => ∃ (x5_2 : List (S83)) (x6_2 : List (S83)) (x31_2 : Int), v31 = .int .i64 x31_2 ∧ Aside0 (ledger_Between.l1 kq l0 x4_1 x5_2 x6_2 t1507 (t1507.length : Int) x31_2 = some (r1, r2, r3)) ∧ Aside0 (kq ≤ k1) ∧ Aside0 (Kd.R k83 83 w' w.heap.size (fun k_ => some k_ ≠ (v5 : Value).ownBlock ∧ some k_ ≠ (v6 : Value).ownBlock ∧ some k_ ≠ ((.slice Ao22 t1507.length co22) : Value).ownBlock) u4 x4_1) ∧ Aside0 (Kd.R k83 83 w' w.heap.size (fun k_ => some k_ ≠ (u4 : Value).ownBlock ∧ some k_ ≠ (v6 : Value).ownBlock ∧ some k_ ≠ ((.slice Ao22 t1507.length co22) : Value).ownBlock) v5 x5_2) ∧ Aside0 (Kd.R k83 83 w' w.heap.size (fun k_ => some k_ ≠ (u4 : Value).ownBlock ∧ some k_ ≠ (v5 : Value).ownBlock ∧ some k_ ≠ ((.slice Ao22 t1507.length co22) : Value).ownBlock) v6 x6_2) ∧ Aside0 (Kd.R k83 83 w' w.heap.size (fun k_ => some k_ ≠ (u4 : Value).ownBlock ∧ some k_ ≠ (v5 : Value).ownBlock ∧ some k_ ≠ (v6 : Value).ownBlock) (.slice Ao22 t1507.length co22) t1507) ∧ Aside0 (Below w.heap.size w w'))
        case atStart => exact ⟨(([] : List (S83))), (([] : List (S83))), (0), (by first | rfl | (simp; done) | (simp [*]; done)), H', ⟨Nat.le_refl _⟩, ⟨by (with_reducible repeat (first | apply Kd.R_alloc | apply Kd.R_drewN | apply Kd.R_drew)); exact Kd.R_mono HO_4.out (fun _ hk => ⟨(by simp [Value.ownBlock]), ⟨(by simp [Value.ownBlock]), hk.2⟩⟩)⟩, ⟨by first | exact Kd.R_nil _ _ _ _ _ | exact Kd.N_nil _ _ _ _ _ | exact Kd.V_nil _ _ _ _ _ | exact Kd.Q_nil _ _ _ _ _ | exact Kd.S_nil _ _ _ _ _⟩, ⟨by first | exact Kd.R_nil _ _ _ _ _ | exact Kd.N_nil _ _ _ _ _ | exact Kd.V_nil _ _ _ _ _ | exact Kd.Q_nil _ _ _ _ _ | exact Kd.S_nil _ _ _ _ _⟩, ⟨by (with_reducible repeat (first | apply Kd.R_alloc | apply Kd.R_drewN | apply Kd.R_drew)); exact Kd.R_mono HO1509.out (fun _ hk => ⟨hk.1.2, ⟨(by simp [Value.ownBlock]), (by simp [Value.ownBlock])⟩⟩)⟩, ⟨by repeat (first | (with_reducible first | exact HB.out | apply below_alloc | apply pw_below_drewN | apply below_drew1) | exact HB.out)⟩⟩
        case round =>
          clear H'
          try clear c1
          try clear p1
          try clear q1
          try clear hx1
          try clear p2
          try clear c6
          try clear c6b0
          try clear p6
          try clear c7
          try clear c7b0
          try clear c8
          try clear c8b0
          try clear c9
          try clear c10
          try clear c10b0
          try clear c11
          try clear p15
          try clear q15
          try clear hx15
          try clear hcz13_0
          try clear hcz13_1
          try clear hcz13_2
          try clear hcz15_0
          try clear hcz15_1
          try clear hcz15_2
          try clear hcz18_0
          try clear hcz18_1
          try clear hcz18_2
          try clear hfz13_0
          try clear hfz13_1
          try clear hfz13_2
          try clear hfz15_0
          try clear hfz15_1
          try clear hfz15_2
          try clear hfz18_0
          try clear hfz18_1
          try clear hfz18_2
          try clear hx1501_0
          try clear hx1501_1
          try clear hx1501_2
          try clear p1501
          try clear p2
          try clear q1501
          obtain ⟨x5_2, x6_2, x31_2, rfl, HA, HK2, HO_4, HO_5, HO_6, HO_29, HB⟩ := hrel
          cases gk with
          | zero => exact absurd HA.out (by simp [ledger_Between.l1])
          | succ k2 =>
            have H := HA.out
            clear HA
            simp only [ledger_Between.l1] at H
            by_cases c23 : x31_2 < (t1507.length : Int)
            · rw [if_pos c23] at H
              have c23b0 : decide (x31_2 < (t1507.length : Int)) = true := decide_eq_true c23
              clear c23
              by_cases c24 : 0 ≤ x31_2
              · rw [if_pos c24] at H
                have c24b0 : decide (0 ≤ x31_2) = true := decide_eq_true c24
                clear c24
                by_cases c25 : x31_2 < (t1507.length : Int)
                · rw [if_pos c25] at H
                  have c25b0 : decide (x31_2 < (t1507.length : Int)) = true := decide_eq_true c25
                  clear c25
                  replace H := Option.bind_eq_some_iff.mp H
                  obtain ⟨t1512, A260, H⟩ := H
                  replace H : (if t1512 < 0 then (if x6_2.length < 4398046511104 then (ledger_Between.l1 k2 l0 x4_1 x5_2 (x6_2 ++ [(⟨(rd_T83 t1507 x31_2).f0, (⟨(rd_T83 t1507 x31_2).f1.f0, (rd_T83 t1507 x31_2).f1.f1⟩ : S25)⟩ : S83)]) t1507 (t1507.length : Int) (wrap64 (x31_2 + 1))) else (none)) else (if x5_2.length < 4398046511104 then (ledger_Between.l1 k2 l0 x4_1 (x5_2 ++ [(⟨(rd_T83 t1507 x31_2).f0, (⟨(rd_T83 t1507 x31_2).f1.f0, (rd_T83 t1507 x31_2).f1.f1⟩ : S25)⟩ : S83)]) x6_2 t1507 (t1507.length : Int) (wrap64 (x31_2 + 1))) else (none))) = some (r1, r2, r3) := H
                  have A26 := Aside0.mk A260
                  clear A260
                  by_cases c27 : t1512 < 0
                  · rw [if_pos c27] at H
                    have c27b0 : decide (t1512 < 0) = true := decide_eq_true c27
                    clear c27
                    by_cases c28 : x6_2.length < 4398046511104
                    · rw [if_pos c28] at H
                      have LMc28 := Aside0.mk c28
                      clear c28
                      obtain ⟨y1513, hy1513⟩ : ∃ y_ : List (S83), y_ = (x6_2 ++ [(⟨(rd_T83 t1507 x31_2).f0, (⟨(rd_T83 t1507 x31_2).f1.f0, (rd_T83 t1507 x31_2).f1.f1⟩ : S25)⟩ : S83)]) := ⟨_, rfl⟩
                      replace H : (ledger_Between.l1 k2 l0 x4_1 x5_2 y1513 t1507 (t1507.length : Int) (wrap64 (x31_2 + 1))) = some (r1, r2, r3) := by first | (rw [hy1513]; with_reducible exact H) | (have H2_ := (Option.bind_some _ _).symm.trans H; rw [hy1513]; with_reducible exact H2_) | (have H2_ := (Option.bind_some _ _).symm.trans H; with_reducible exact H2_) | with_reducible exact H | (rw [hy1513]; exact H) | exact H
                      have Ny1513 := Aside0.mk hy1513
                      clear hy1513
                      have H' := Aside0.mk H
                      clear H
                      have p1510 : 0 ≤ (x31_2 : Int) := of_decide_eq_true (by first | (with_reducible assumption) | assumption)
                      have q1510 : x31_2 < (t1507.length : Int) := of_decide_eq_true (by first | (with_reducible assumption) | assumption)
                      obtain ⟨ad1510, e1510, hx1510_0, hx1510_1, hx1510_2⟩ := at_T83 (Kd.R_reads' HO_29.out).2.2 x31_2 p1510 q1510
                      cases e1510
                      replace p1510 := eq_true p1510
                      replace q1510 := eq_true q1510
                      go_wp2_with (first | ((with_reducible refine gate_dst (N := 10) rfl ?_); refine box_event ?hg (N := 10) ?hd (cs := #[.string (⟨#[]⟩ : ByteArray), .int .u64 0, .int .u64 0]) (t := 83) ?hr ?_; (case hd => rfl); (case hg => rfl); (case hr => first | (go_simp; done) | (go_simp; rfl)); intro gb1511 hg w29 hbox hb; have n0_ := Aside0.mk (Kd.R_below (Kd.R_elderB (by (with_reducible repeat (first | apply Kd.R_alloc | apply Kd.R_drewN | apply Kd.R_drew)); exact HO_4.out) gb1511 (Nat.le_of_eq hg.symm)) hb); have n1_ := Aside0.mk (Kd.R_below (Kd.R_elderB (by (with_reducible repeat (first | apply Kd.R_alloc | apply Kd.R_drewN | apply Kd.R_drew)); exact HO_5.out) gb1511 (Nat.le_of_eq hg.symm)) hb); have n2_ := Aside0.mk (Kd.R_below (Kd.R_elderB (by (with_reducible repeat (first | apply Kd.R_alloc | apply Kd.R_drewN | apply Kd.R_drew)); exact HO_6.out) gb1511 (Nat.le_of_eq hg.symm)) hb); have n3_ := Aside0.mk (Kd.R_below (Kd.R_elderB (by (with_reducible repeat (first | apply Kd.R_alloc | apply Kd.R_drewN | apply Kd.R_drew)); exact HO_29.out) gb1511 (Nat.le_of_eq hg.symm)) hb); have n4_ := Aside0.mk (below_step (by repeat (first | (with_reducible first | exact HB.out | apply below_alloc | apply pw_below_drewN | apply below_drew1) | exact HB.out)) hb); have n5_ := Aside0.mk (hbox); have n6_ := Aside0.mk ((by rw [hg]; exact (below_size (by repeat (first | (with_reducible first | exact HB.out | apply below_alloc | apply pw_below_drewN | apply below_drew1) | exact HB.out))) : w.heap.size ≤ gb1511)); have n7_ := Aside0.mk ((by rw [hg]; exact (below_size (by repeat (first | (with_reducible first | exact HB.out | apply below_alloc | apply pw_below_drewN | apply below_drew1) | exact HB.out))) : w.heap.size ≤ gb1511)); clear HO_4; clear HO_5; clear HO_6; clear HO_29; clear HB; have HO_4 := n0_; have HO_5 := n1_; have HO_6 := n2_; have HO_29 := n3_; have HB := n4_; have BK1511 := n5_; have GW1511 := n6_; have GE1511 := n7_; clear n0_ n1_ n2_ n3_ n4_ n5_ n6_ n7_; clear hb hbox hg; have hcz30_0 : w29.cell? ⟨gb1511, 0, none⟩ = some (.string (⟨#[]⟩ : ByteArray)) := (blk_cell BK1511.out 0).trans rfl; have hcz30_1 : w29.cell? ⟨gb1511, 1, none⟩ = some (.int .u64 0) := (blk_cell BK1511.out 1).trans rfl; have hcz30_2 : w29.cell? ⟨gb1511, 2, none⟩ = some (.int .u64 0) := (blk_cell BK1511.out 2).trans rfl; have hfz30_0 := blk_frozen BK1511.out 0; have hfz30_1 := blk_frozen BK1511.out 1; have hfz30_2 := blk_frozen BK1511.out 2) | ((with_reducible refine gate_callee (f := 97) rfl ?_); refine goesL_ (some 38) rfl rfl Try.func97 (by kernel_rfl) rfl #[.slice A0 l0.length c0, .string ((rd_T83 t1507 x31_2).f0)] rfl (by (try simp only [List.map_toArray, List.map_cons, List.map_nil]); first | done | rfl | (simp only [List.length_drop, List.length_take]; rfl)) ?_; (with_reducible refine (ledger_place.calls _ _ l0 ((rd_T83 t1507 x31_2).f0) t1512 _ ?side1 ?side2 A26.out).mono ?_); (case side1 => exact Kd.C_below HR0.out (by repeat (first | (with_reducible first | exact HB.out | apply below_alloc | apply pw_below_drewN | apply below_drew1 | refine below_set ?_ GE1511.out) | exact HB.out))); (case side2 => exact HC0.out); rintro e w31 ⟨rfl, hb⟩; refine ⟨_, rfl, ?_⟩; have n0_ := Aside0.mk (Kd.R_below (by (with_reducible repeat (first | apply Kd.R_alloc | apply Kd.R_drewN | apply Kd.R_drew)); exact (Kd.R_mono (Kd.R_far (p := ⟨gb1511, 2, none⟩) (Kd.R_far (p := ⟨gb1511, 1, none⟩) (Kd.R_far (p := ⟨gb1511, 0, none⟩) (Kd.R_mono HO_4.out (fun k_ hk => (⟨hk, hk.2⟩ : _ ∧ k_ ≠ gb1511))) (fun _ hk => hk.2) (.string ((rd_T83 t1507 x31_2).f0))) (fun _ hk => hk.2) (.int .u64 ((rd_T83 t1507 x31_2).f1.f0))) (fun _ hk => hk.2) (.int .u64 ((rd_T83 t1507 x31_2).f1.f1))) (fun _ h_ => h_.1))) hb); have n1_ := Aside0.mk (Kd.R_below (by (with_reducible repeat (first | apply Kd.R_alloc | apply Kd.R_drewN | apply Kd.R_drew)); exact (Kd.R_mono (Kd.R_far (p := ⟨gb1511, 2, none⟩) (Kd.R_far (p := ⟨gb1511, 1, none⟩) (Kd.R_far (p := ⟨gb1511, 0, none⟩) (Kd.R_mono HO_5.out (fun k_ hk => (⟨hk, hk.2⟩ : _ ∧ k_ ≠ gb1511))) (fun _ hk => hk.2) (.string ((rd_T83 t1507 x31_2).f0))) (fun _ hk => hk.2) (.int .u64 ((rd_T83 t1507 x31_2).f1.f0))) (fun _ hk => hk.2) (.int .u64 ((rd_T83 t1507 x31_2).f1.f1))) (fun _ h_ => h_.1))) hb); have n2_ := Aside0.mk (Kd.R_below (by (with_reducible repeat (first | apply Kd.R_alloc | apply Kd.R_drewN | apply Kd.R_drew)); exact (Kd.R_mono (Kd.R_far (p := ⟨gb1511, 2, none⟩) (Kd.R_far (p := ⟨gb1511, 1, none⟩) (Kd.R_far (p := ⟨gb1511, 0, none⟩) (Kd.R_mono HO_6.out (fun k_ hk => (⟨hk, hk.2⟩ : _ ∧ k_ ≠ gb1511))) (fun _ hk => hk.2) (.string ((rd_T83 t1507 x31_2).f0))) (fun _ hk => hk.2) (.int .u64 ((rd_T83 t1507 x31_2).f1.f0))) (fun _ hk => hk.2) (.int .u64 ((rd_T83 t1507 x31_2).f1.f1))) (fun _ h_ => h_.1))) hb); have n3_ := Aside0.mk (Kd.R_below (by (with_reducible repeat (first | apply Kd.R_alloc | apply Kd.R_drewN | apply Kd.R_drew)); exact (Kd.R_mono (Kd.R_far (p := ⟨gb1511, 2, none⟩) (Kd.R_far (p := ⟨gb1511, 1, none⟩) (Kd.R_far (p := ⟨gb1511, 0, none⟩) (Kd.R_mono HO_29.out (fun k_ hk => (⟨hk, hk.2⟩ : _ ∧ k_ ≠ gb1511))) (fun _ hk => hk.2) (.string ((rd_T83 t1507 x31_2).f0))) (fun _ hk => hk.2) (.int .u64 ((rd_T83 t1507 x31_2).f1.f0))) (fun _ hk => hk.2) (.int .u64 ((rd_T83 t1507 x31_2).f1.f1))) (fun _ h_ => h_.1))) hb); have n4_ := Aside0.mk (blk_below (g := gb1511) (o := .cells #[.string ((rd_T83 t1507 x31_2).f0), .int .u64 ((rd_T83 t1507 x31_2).f1.f0), .int .u64 ((rd_T83 t1507 x31_2).f1.f1)] 83 (0, 0)) (by (with_reducible repeat (first | refine blk_drewN ?_ _ | refine blk_drew ?_ | refine blk_alloc ?_ _)); refine blk_put (cs := #[.string ((rd_T83 t1507 x31_2).f0), .int .u64 ((rd_T83 t1507 x31_2).f1.f0), .int .u64 0]) ?_ 2 _ rfl; (with_reducible repeat (first | refine blk_drewN ?_ _ | refine blk_drew ?_ | refine blk_alloc ?_ _)); refine blk_put (cs := #[.string ((rd_T83 t1507 x31_2).f0), .int .u64 0, .int .u64 0]) ?_ 1 _ rfl; (with_reducible repeat (first | refine blk_drewN ?_ _ | refine blk_drew ?_ | refine blk_alloc ?_ _)); refine blk_put (cs := #[.string (⟨#[]⟩ : ByteArray), .int .u64 0, .int .u64 0]) ?_ 0 _ rfl; (with_reducible repeat (first | refine blk_drewN ?_ _ | refine blk_drew ?_ | refine blk_alloc ?_ _)); exact BK1511.out) hb); have n5_ := Aside0.mk (below_step (by repeat (first | (with_reducible first | exact HB.out | apply below_alloc | apply pw_below_drewN | apply below_drew1 | refine below_set ?_ GE1511.out) | exact HB.out)) hb); clear HO_4; clear HO_5; clear HO_6; clear HO_29; clear BK1511; clear HB; have HO_4 := n0_; have HO_5 := n1_; have HO_6 := n2_; have HO_29 := n3_; have BK1511 := n4_; have HB := n5_; clear n0_ n1_ n2_ n3_ n4_ n5_; (try clear hb); (try clear hb2); (try clear hk); (try clear hi); have hcz32_0 : w31.cell? ⟨gb1511, 0, none⟩ = some (.string ((rd_T83 t1507 x31_2).f0)) := (blk_cell BK1511.out 0).trans rfl; have hcz32_1 : w31.cell? ⟨gb1511, 1, none⟩ = some (.int .u64 ((rd_T83 t1507 x31_2).f1.f0)) := (blk_cell BK1511.out 1).trans rfl; have hcz32_2 : w31.cell? ⟨gb1511, 2, none⟩ = some (.int .u64 ((rd_T83 t1507 x31_2).f1.f1)) := (blk_cell BK1511.out 2).trans rfl; have hfz32_0 := blk_frozen BK1511.out 0; have hfz32_1 := blk_frozen BK1511.out 1; have hfz32_2 := blk_frozen BK1511.out 2) | ((with_reducible refine gate_builtin (b := .append) (xs := #[.tmp 40, .tmp 42]) rfl ?_); at_builtin; refine Kd.R_append k83 (w0 := w) w.heap.size rfl (.tmp 40) (.tmp 42) 80 83 (.agg #[(.string ⟨#[]⟩), (.int .u64 0), (.int .u64 0)]) 32 rfl Try.underlying80 info83 rfl (by decide) (by omega) u6 x6_2 (⟨(rd_T83 t1507 x31_2).f0, (⟨(rd_T83 t1507 x31_2).f1.f0, (rd_T83 t1507 x31_2).f1.f1⟩ : S25)⟩ : S83) [.string ((rd_T83 t1507 x31_2).f0), .int .u64 ((rd_T83 t1507 x31_2).f1.f0), .int .u64 ((rd_T83 t1507 x31_2).f1.f1)] (fun k_ => some k_ ≠ (u4 : Value).ownBlock ∧ some k_ ≠ (u5 : Value).ownBlock ∧ some k_ ≠ (.slice (some ad1510) t1507.length co22 : Value).ownBlock ∧ k_ ≠ gb1511) (fun _ => False) rfl rfl ?aP (fun _ hk => hk.elim) ?aF ?aO ?aB ?aS ?aL ?_; (case aP => exact k83_mkM _ _ _ (⟨(rd_T83 t1507 x31_2).f0, (⟨(rd_T83 t1507 x31_2).f1.f0, (rd_T83 t1507 x31_2).f1.f1⟩ : S25)⟩ : S83)); (case aB => exact (by repeat (first | (with_reducible first | exact HB.out | apply below_alloc | apply pw_below_drewN | apply below_drew1 | refine below_set ?_ GE1511.out) | exact HB.out))); (case aF => exact (fun k_ hk => ⟨Kd.fresh' (Kd.R_lt (by (with_reducible repeat (first | apply Kd.R_alloc | apply Kd.R_drewN | apply Kd.R_drew)); exact HO_4.out)) k_ hk, Kd.fresh' (Kd.R_lt (by (with_reducible repeat (first | apply Kd.R_alloc | apply Kd.R_drewN | apply Kd.R_drew)); exact HO_5.out)) k_ hk, Kd.fresh' (Kd.R_lt (by (with_reducible repeat (first | apply Kd.R_alloc | apply Kd.R_drewN | apply Kd.R_drew)); exact HO_29.out)) k_ hk, Kd.freshB (g := gb1511) (o := .cells #[.string ((rd_T83 t1507 x31_2).f0), .int .u64 ((rd_T83 t1507 x31_2).f1.f0), .int .u64 ((rd_T83 t1507 x31_2).f1.f1)] 83 (0, 0)) (by (with_reducible repeat (first | refine blk_drewN ?_ _ | refine blk_drew ?_ | refine blk_alloc ?_ _)); exact BK1511.out) k_ hk⟩)); (case aO => exact (by (with_reducible repeat (first | apply Kd.R_alloc | apply Kd.R_drewN | apply Kd.R_drew)); exact Kd.R_mono HO_6.out (fun _ hk => ⟨hk.1.1, ⟨hk.1.2.1, ⟨hk.1.2.2, hk.2⟩⟩⟩))); (case aS => exact (below_size (by repeat (first | (with_reducible first | exact HB.out | apply below_alloc | apply pw_below_drewN | apply below_drew1 | refine below_set ?_ GE1511.out) | exact HB.out)))); (case aL => have := LMc28.out; omega); intro v1514 w33 ho hb hg hat; rw [← Ny1513.out] at ho; have n0_ := Aside0.mk (Kd.R_after (ok := (fun k_ => some k_ ≠ (u5 : Value).ownBlock ∧ some k_ ≠ (.slice (some ad1510) t1507.length co22 : Value).ownBlock ∧ k_ ≠ gb1511)) (by (with_reducible repeat (first | apply Kd.R_alloc | apply Kd.R_drewN | apply Kd.R_drew)); exact Kd.R_mono HO_4.out (fun _ hk => ⟨⟨hk.1.1, ⟨hk.1.2.2, hk.2⟩⟩, hk.1.2.1⟩)) hg hat); have n1_ := Aside0.mk (Kd.R_after (ok := (fun k_ => some k_ ≠ (u4 : Value).ownBlock ∧ some k_ ≠ (.slice (some ad1510) t1507.length co22 : Value).ownBlock ∧ k_ ≠ gb1511)) (by (with_reducible repeat (first | apply Kd.R_alloc | apply Kd.R_drewN | apply Kd.R_drew)); exact Kd.R_mono HO_5.out (fun _ hk => ⟨⟨hk.1.1, ⟨hk.1.2.2, hk.2⟩⟩, hk.1.2.1⟩)) hg hat); have n2_ := Aside0.mk (Kd.R_after (ok := (fun k_ => some k_ ≠ (u4 : Value).ownBlock ∧ some k_ ≠ (u5 : Value).ownBlock ∧ k_ ≠ gb1511)) (by (with_reducible repeat (first | apply Kd.R_alloc | apply Kd.R_drewN | apply Kd.R_drew)); exact Kd.R_mono HO_29.out (fun _ hk => ⟨⟨hk.1.1, ⟨hk.1.2.1, hk.2⟩⟩, hk.1.2.2⟩)) hg hat); have n3_ := Aside0.mk (blk_grown (g := gb1511) (o := .cells #[.string ((rd_T83 t1507 x31_2).f0), .int .u64 ((rd_T83 t1507 x31_2).f1.f0), .int .u64 ((rd_T83 t1507 x31_2).f1.f1)] 83 (0, 0)) (by (with_reducible repeat (first | refine blk_drewN ?_ _ | refine blk_drew ?_ | refine blk_alloc ?_ _)); exact BK1511.out) hg (Kd.R_away HO_6.out (fun _ hk => hk.2))); have n4_ := Aside0.mk (hb); have n5_ := Aside0.mk (ho); clear HO_4; clear HO_5; clear HO_29; clear BK1511; clear HB; clear HO_6; have HO_4 := n0_; have HO_5 := n1_; have HO_29 := n2_; have BK1511 := n3_; have HB := n4_; have HO1515 := n5_; clear n0_ n1_ n2_ n3_ n4_ n5_; clear ho hb hg hat))
                      go_roundg k2
                      case measure => have := HK1.out; have := HK2.out; omega
                      case rel => exact ⟨(x5_2), (y1513), (wrap64 (x31_2 + 1)), (by first | rfl | (simp; done) | (simp [*]; done)), H', ⟨by have := HK1.out; have := HK2.out; omega⟩, ⟨by (with_reducible repeat (first | apply Kd.R_alloc | apply Kd.R_drewN | apply Kd.R_drew)); exact Kd.R_mono HO_4.out (fun _ hk => ⟨hk.1.1, ⟨hk.2, hk.1.2.1⟩⟩)⟩, ⟨by (with_reducible repeat (first | apply Kd.R_alloc | apply Kd.R_drewN | apply Kd.R_drew)); exact Kd.R_mono HO_5.out (fun _ hk => ⟨hk.1.1, ⟨hk.2, hk.1.2.1⟩⟩)⟩, ⟨by (with_reducible repeat (first | apply Kd.R_alloc | apply Kd.R_drewN | apply Kd.R_drew)); exact Kd.R_mono HO1515.out (fun _ hk => ⟨hk.1, ⟨hk.2.1, hk.2.2.1⟩⟩)⟩, ⟨by (with_reducible repeat (first | apply Kd.R_alloc | apply Kd.R_drewN | apply Kd.R_drew)); exact Kd.R_mono HO_29.out (fun _ hk => ⟨hk.1.1, ⟨hk.1.2.1, hk.2⟩⟩)⟩, ⟨by repeat (first | (with_reducible first | exact HB.out | apply below_alloc | apply pw_below_drewN | apply below_drew1 | refine below_set ?_ GE1511.out) | exact HB.out)⟩⟩
                    · rw [if_neg c28] at H
                      exact absurd H (by simp)
                  · rw [if_neg c27] at H
                    have c27b0 : decide (t1512 < 0) = false := decide_eq_false c27
                    clear c27
                    by_cases c34 : x5_2.length < 4398046511104
                    · rw [if_pos c34] at H
                      have LMc34 := Aside0.mk c34
                      clear c34
                      obtain ⟨y1516, hy1516⟩ : ∃ y_ : List (S83), y_ = (x5_2 ++ [(⟨(rd_T83 t1507 x31_2).f0, (⟨(rd_T83 t1507 x31_2).f1.f0, (rd_T83 t1507 x31_2).f1.f1⟩ : S25)⟩ : S83)]) := ⟨_, rfl⟩
                      replace H : (ledger_Between.l1 k2 l0 x4_1 y1516 x6_2 t1507 (t1507.length : Int) (wrap64 (x31_2 + 1))) = some (r1, r2, r3) := by first | (rw [hy1516]; with_reducible exact H) | (have H2_ := (Option.bind_some _ _).symm.trans H; rw [hy1516]; with_reducible exact H2_) | (have H2_ := (Option.bind_some _ _).symm.trans H; with_reducible exact H2_) | with_reducible exact H | (rw [hy1516]; exact H) | exact H
                      have Ny1516 := Aside0.mk hy1516
                      clear hy1516
                      have H' := Aside0.mk H
                      clear H
                      have p1510 : 0 ≤ (x31_2 : Int) := of_decide_eq_true (by first | (with_reducible assumption) | assumption)
                      have q1510 : x31_2 < (t1507.length : Int) := of_decide_eq_true (by first | (with_reducible assumption) | assumption)
                      obtain ⟨ad1510, e1510, hx1510_0, hx1510_1, hx1510_2⟩ := at_T83 (Kd.R_reads' HO_29.out).2.2 x31_2 p1510 q1510
                      cases e1510
                      replace p1510 := eq_true p1510
                      replace q1510 := eq_true q1510
                      go_wp2_with (first | ((with_reducible refine gate_dst (N := 10) rfl ?_); refine box_event ?hg (N := 10) ?hd (cs := #[.string (⟨#[]⟩ : ByteArray), .int .u64 0, .int .u64 0]) (t := 83) ?hr ?_; (case hd => rfl); (case hg => rfl); (case hr => first | (go_simp; done) | (go_simp; rfl)); intro gb1511 hg w35 hbox hb; have n0_ := Aside0.mk (Kd.R_below (Kd.R_elderB (by (with_reducible repeat (first | apply Kd.R_alloc | apply Kd.R_drewN | apply Kd.R_drew)); exact HO_4.out) gb1511 (Nat.le_of_eq hg.symm)) hb); have n1_ := Aside0.mk (Kd.R_below (Kd.R_elderB (by (with_reducible repeat (first | apply Kd.R_alloc | apply Kd.R_drewN | apply Kd.R_drew)); exact HO_5.out) gb1511 (Nat.le_of_eq hg.symm)) hb); have n2_ := Aside0.mk (Kd.R_below (Kd.R_elderB (by (with_reducible repeat (first | apply Kd.R_alloc | apply Kd.R_drewN | apply Kd.R_drew)); exact HO_6.out) gb1511 (Nat.le_of_eq hg.symm)) hb); have n3_ := Aside0.mk (Kd.R_below (Kd.R_elderB (by (with_reducible repeat (first | apply Kd.R_alloc | apply Kd.R_drewN | apply Kd.R_drew)); exact HO_29.out) gb1511 (Nat.le_of_eq hg.symm)) hb); have n4_ := Aside0.mk (below_step (by repeat (first | (with_reducible first | exact HB.out | apply below_alloc | apply pw_below_drewN | apply below_drew1) | exact HB.out)) hb); have n5_ := Aside0.mk (hbox); have n6_ := Aside0.mk ((by rw [hg]; exact (below_size (by repeat (first | (with_reducible first | exact HB.out | apply below_alloc | apply pw_below_drewN | apply below_drew1) | exact HB.out))) : w.heap.size ≤ gb1511)); have n7_ := Aside0.mk ((by rw [hg]; exact (below_size (by repeat (first | (with_reducible first | exact HB.out | apply below_alloc | apply pw_below_drewN | apply below_drew1) | exact HB.out))) : w.heap.size ≤ gb1511)); clear HO_4; clear HO_5; clear HO_6; clear HO_29; clear HB; have HO_4 := n0_; have HO_5 := n1_; have HO_6 := n2_; have HO_29 := n3_; have HB := n4_; have BK1511 := n5_; have GW1511 := n6_; have GE1511 := n7_; clear n0_ n1_ n2_ n3_ n4_ n5_ n6_ n7_; clear hb hbox hg; have hcz36_0 : w35.cell? ⟨gb1511, 0, none⟩ = some (.string (⟨#[]⟩ : ByteArray)) := (blk_cell BK1511.out 0).trans rfl; have hcz36_1 : w35.cell? ⟨gb1511, 1, none⟩ = some (.int .u64 0) := (blk_cell BK1511.out 1).trans rfl; have hcz36_2 : w35.cell? ⟨gb1511, 2, none⟩ = some (.int .u64 0) := (blk_cell BK1511.out 2).trans rfl; have hfz36_0 := blk_frozen BK1511.out 0; have hfz36_1 := blk_frozen BK1511.out 1; have hfz36_2 := blk_frozen BK1511.out 2) | ((with_reducible refine gate_callee (f := 97) rfl ?_); refine goesL_ (some 38) rfl rfl Try.func97 (by kernel_rfl) rfl #[.slice A0 l0.length c0, .string ((rd_T83 t1507 x31_2).f0)] rfl (by (try simp only [List.map_toArray, List.map_cons, List.map_nil]); first | done | rfl | (simp only [List.length_drop, List.length_take]; rfl)) ?_; (with_reducible refine (ledger_place.calls _ _ l0 ((rd_T83 t1507 x31_2).f0) t1512 _ ?side1 ?side2 A26.out).mono ?_); (case side1 => exact Kd.C_below HR0.out (by repeat (first | (with_reducible first | exact HB.out | apply below_alloc | apply pw_below_drewN | apply below_drew1 | refine below_set ?_ GE1511.out) | exact HB.out))); (case side2 => exact HC0.out); rintro e w37 ⟨rfl, hb⟩; refine ⟨_, rfl, ?_⟩; have n0_ := Aside0.mk (Kd.R_below (by (with_reducible repeat (first | apply Kd.R_alloc | apply Kd.R_drewN | apply Kd.R_drew)); exact (Kd.R_mono (Kd.R_far (p := ⟨gb1511, 2, none⟩) (Kd.R_far (p := ⟨gb1511, 1, none⟩) (Kd.R_far (p := ⟨gb1511, 0, none⟩) (Kd.R_mono HO_4.out (fun k_ hk => (⟨hk, hk.2⟩ : _ ∧ k_ ≠ gb1511))) (fun _ hk => hk.2) (.string ((rd_T83 t1507 x31_2).f0))) (fun _ hk => hk.2) (.int .u64 ((rd_T83 t1507 x31_2).f1.f0))) (fun _ hk => hk.2) (.int .u64 ((rd_T83 t1507 x31_2).f1.f1))) (fun _ h_ => h_.1))) hb); have n1_ := Aside0.mk (Kd.R_below (by (with_reducible repeat (first | apply Kd.R_alloc | apply Kd.R_drewN | apply Kd.R_drew)); exact (Kd.R_mono (Kd.R_far (p := ⟨gb1511, 2, none⟩) (Kd.R_far (p := ⟨gb1511, 1, none⟩) (Kd.R_far (p := ⟨gb1511, 0, none⟩) (Kd.R_mono HO_5.out (fun k_ hk => (⟨hk, hk.2⟩ : _ ∧ k_ ≠ gb1511))) (fun _ hk => hk.2) (.string ((rd_T83 t1507 x31_2).f0))) (fun _ hk => hk.2) (.int .u64 ((rd_T83 t1507 x31_2).f1.f0))) (fun _ hk => hk.2) (.int .u64 ((rd_T83 t1507 x31_2).f1.f1))) (fun _ h_ => h_.1))) hb); have n2_ := Aside0.mk (Kd.R_below (by (with_reducible repeat (first | apply Kd.R_alloc | apply Kd.R_drewN | apply Kd.R_drew)); exact (Kd.R_mono (Kd.R_far (p := ⟨gb1511, 2, none⟩) (Kd.R_far (p := ⟨gb1511, 1, none⟩) (Kd.R_far (p := ⟨gb1511, 0, none⟩) (Kd.R_mono HO_6.out (fun k_ hk => (⟨hk, hk.2⟩ : _ ∧ k_ ≠ gb1511))) (fun _ hk => hk.2) (.string ((rd_T83 t1507 x31_2).f0))) (fun _ hk => hk.2) (.int .u64 ((rd_T83 t1507 x31_2).f1.f0))) (fun _ hk => hk.2) (.int .u64 ((rd_T83 t1507 x31_2).f1.f1))) (fun _ h_ => h_.1))) hb); have n3_ := Aside0.mk (Kd.R_below (by (with_reducible repeat (first | apply Kd.R_alloc | apply Kd.R_drewN | apply Kd.R_drew)); exact (Kd.R_mono (Kd.R_far (p := ⟨gb1511, 2, none⟩) (Kd.R_far (p := ⟨gb1511, 1, none⟩) (Kd.R_far (p := ⟨gb1511, 0, none⟩) (Kd.R_mono HO_29.out (fun k_ hk => (⟨hk, hk.2⟩ : _ ∧ k_ ≠ gb1511))) (fun _ hk => hk.2) (.string ((rd_T83 t1507 x31_2).f0))) (fun _ hk => hk.2) (.int .u64 ((rd_T83 t1507 x31_2).f1.f0))) (fun _ hk => hk.2) (.int .u64 ((rd_T83 t1507 x31_2).f1.f1))) (fun _ h_ => h_.1))) hb); have n4_ := Aside0.mk (blk_below (g := gb1511) (o := .cells #[.string ((rd_T83 t1507 x31_2).f0), .int .u64 ((rd_T83 t1507 x31_2).f1.f0), .int .u64 ((rd_T83 t1507 x31_2).f1.f1)] 83 (0, 0)) (by (with_reducible repeat (first | refine blk_drewN ?_ _ | refine blk_drew ?_ | refine blk_alloc ?_ _)); refine blk_put (cs := #[.string ((rd_T83 t1507 x31_2).f0), .int .u64 ((rd_T83 t1507 x31_2).f1.f0), .int .u64 0]) ?_ 2 _ rfl; (with_reducible repeat (first | refine blk_drewN ?_ _ | refine blk_drew ?_ | refine blk_alloc ?_ _)); refine blk_put (cs := #[.string ((rd_T83 t1507 x31_2).f0), .int .u64 0, .int .u64 0]) ?_ 1 _ rfl; (with_reducible repeat (first | refine blk_drewN ?_ _ | refine blk_drew ?_ | refine blk_alloc ?_ _)); refine blk_put (cs := #[.string (⟨#[]⟩ : ByteArray), .int .u64 0, .int .u64 0]) ?_ 0 _ rfl; (with_reducible repeat (first | refine blk_drewN ?_ _ | refine blk_drew ?_ | refine blk_alloc ?_ _)); exact BK1511.out) hb); have n5_ := Aside0.mk (below_step (by repeat (first | (with_reducible first | exact HB.out | apply below_alloc | apply pw_below_drewN | apply below_drew1 | refine below_set ?_ GE1511.out) | exact HB.out)) hb); clear HO_4; clear HO_5; clear HO_6; clear HO_29; clear BK1511; clear HB; have HO_4 := n0_; have HO_5 := n1_; have HO_6 := n2_; have HO_29 := n3_; have BK1511 := n4_; have HB := n5_; clear n0_ n1_ n2_ n3_ n4_ n5_; (try clear hb); (try clear hb2); (try clear hk); (try clear hi); have hcz38_0 : w37.cell? ⟨gb1511, 0, none⟩ = some (.string ((rd_T83 t1507 x31_2).f0)) := (blk_cell BK1511.out 0).trans rfl; have hcz38_1 : w37.cell? ⟨gb1511, 1, none⟩ = some (.int .u64 ((rd_T83 t1507 x31_2).f1.f0)) := (blk_cell BK1511.out 1).trans rfl; have hcz38_2 : w37.cell? ⟨gb1511, 2, none⟩ = some (.int .u64 ((rd_T83 t1507 x31_2).f1.f1)) := (blk_cell BK1511.out 2).trans rfl; have hfz38_0 := blk_frozen BK1511.out 0; have hfz38_1 := blk_frozen BK1511.out 1; have hfz38_2 := blk_frozen BK1511.out 2) | ((with_reducible refine gate_builtin (b := .append) (xs := #[.tmp 44, .tmp 46]) rfl ?_); at_builtin; refine Kd.R_append k83 (w0 := w) w.heap.size rfl (.tmp 44) (.tmp 46) 80 83 (.agg #[(.string ⟨#[]⟩), (.int .u64 0), (.int .u64 0)]) 32 rfl Try.underlying80 info83 rfl (by decide) (by omega) u5 x5_2 (⟨(rd_T83 t1507 x31_2).f0, (⟨(rd_T83 t1507 x31_2).f1.f0, (rd_T83 t1507 x31_2).f1.f1⟩ : S25)⟩ : S83) [.string ((rd_T83 t1507 x31_2).f0), .int .u64 ((rd_T83 t1507 x31_2).f1.f0), .int .u64 ((rd_T83 t1507 x31_2).f1.f1)] (fun k_ => some k_ ≠ (u4 : Value).ownBlock ∧ some k_ ≠ (u6 : Value).ownBlock ∧ some k_ ≠ (.slice (some ad1510) t1507.length co22 : Value).ownBlock ∧ k_ ≠ gb1511) (fun _ => False) rfl rfl ?aP (fun _ hk => hk.elim) ?aF ?aO ?aB ?aS ?aL ?_; (case aP => exact k83_mkM _ _ _ (⟨(rd_T83 t1507 x31_2).f0, (⟨(rd_T83 t1507 x31_2).f1.f0, (rd_T83 t1507 x31_2).f1.f1⟩ : S25)⟩ : S83)); (case aB => exact (by repeat (first | (with_reducible first | exact HB.out | apply below_alloc | apply pw_below_drewN | apply below_drew1 | refine below_set ?_ GE1511.out) | exact HB.out))); (case aF => exact (fun k_ hk => ⟨Kd.fresh' (Kd.R_lt (by (with_reducible repeat (first | apply Kd.R_alloc | apply Kd.R_drewN | apply Kd.R_drew)); exact HO_4.out)) k_ hk, Kd.fresh' (Kd.R_lt (by (with_reducible repeat (first | apply Kd.R_alloc | apply Kd.R_drewN | apply Kd.R_drew)); exact HO_6.out)) k_ hk, Kd.fresh' (Kd.R_lt (by (with_reducible repeat (first | apply Kd.R_alloc | apply Kd.R_drewN | apply Kd.R_drew)); exact HO_29.out)) k_ hk, Kd.freshB (g := gb1511) (o := .cells #[.string ((rd_T83 t1507 x31_2).f0), .int .u64 ((rd_T83 t1507 x31_2).f1.f0), .int .u64 ((rd_T83 t1507 x31_2).f1.f1)] 83 (0, 0)) (by (with_reducible repeat (first | refine blk_drewN ?_ _ | refine blk_drew ?_ | refine blk_alloc ?_ _)); exact BK1511.out) k_ hk⟩)); (case aO => exact (by (with_reducible repeat (first | apply Kd.R_alloc | apply Kd.R_drewN | apply Kd.R_drew)); exact Kd.R_mono HO_5.out (fun _ hk => ⟨hk.1.1, ⟨hk.1.2.1, ⟨hk.1.2.2, hk.2⟩⟩⟩))); (case aS => exact (below_size (by repeat (first | (with_reducible first | exact HB.out | apply below_alloc | apply pw_below_drewN | apply below_drew1 | refine below_set ?_ GE1511.out) | exact HB.out)))); (case aL => have := LMc34.out; omega); intro v1517 w39 ho hb hg hat; rw [← Ny1516.out] at ho; have n0_ := Aside0.mk (Kd.R_after (ok := (fun k_ => some k_ ≠ (u6 : Value).ownBlock ∧ some k_ ≠ (.slice (some ad1510) t1507.length co22 : Value).ownBlock ∧ k_ ≠ gb1511)) (by (with_reducible repeat (first | apply Kd.R_alloc | apply Kd.R_drewN | apply Kd.R_drew)); exact Kd.R_mono HO_4.out (fun _ hk => ⟨⟨hk.1.2.1, ⟨hk.1.2.2, hk.2⟩⟩, hk.1.1⟩)) hg hat); have n1_ := Aside0.mk (Kd.R_after (ok := (fun k_ => some k_ ≠ (u4 : Value).ownBlock ∧ some k_ ≠ (.slice (some ad1510) t1507.length co22 : Value).ownBlock ∧ k_ ≠ gb1511)) (by (with_reducible repeat (first | apply Kd.R_alloc | apply Kd.R_drewN | apply Kd.R_drew)); exact Kd.R_mono HO_6.out (fun _ hk => ⟨⟨hk.1.1, ⟨hk.1.2.2, hk.2⟩⟩, hk.1.2.1⟩)) hg hat); have n2_ := Aside0.mk (Kd.R_after (ok := (fun k_ => some k_ ≠ (u4 : Value).ownBlock ∧ some k_ ≠ (u6 : Value).ownBlock ∧ k_ ≠ gb1511)) (by (with_reducible repeat (first | apply Kd.R_alloc | apply Kd.R_drewN | apply Kd.R_drew)); exact Kd.R_mono HO_29.out (fun _ hk => ⟨⟨hk.1.1, ⟨hk.1.2.2, hk.2⟩⟩, hk.1.2.1⟩)) hg hat); have n3_ := Aside0.mk (blk_grown (g := gb1511) (o := .cells #[.string ((rd_T83 t1507 x31_2).f0), .int .u64 ((rd_T83 t1507 x31_2).f1.f0), .int .u64 ((rd_T83 t1507 x31_2).f1.f1)] 83 (0, 0)) (by (with_reducible repeat (first | refine blk_drewN ?_ _ | refine blk_drew ?_ | refine blk_alloc ?_ _)); exact BK1511.out) hg (Kd.R_away HO_5.out (fun _ hk => hk.2))); have n4_ := Aside0.mk (hb); have n5_ := Aside0.mk (ho); clear HO_4; clear HO_6; clear HO_29; clear BK1511; clear HB; clear HO_5; have HO_4 := n0_; have HO_6 := n1_; have HO_29 := n2_; have BK1511 := n3_; have HB := n4_; have HO1518 := n5_; clear n0_ n1_ n2_ n3_ n4_ n5_; clear ho hb hg hat))
                      go_roundg k2
                      case measure => have := HK1.out; have := HK2.out; omega
                      case rel => exact ⟨(y1516), (x6_2), (wrap64 (x31_2 + 1)), (by first | rfl | (simp; done) | (simp [*]; done)), H', ⟨by have := HK1.out; have := HK2.out; omega⟩, ⟨by (with_reducible repeat (first | apply Kd.R_alloc | apply Kd.R_drewN | apply Kd.R_drew)); exact Kd.R_mono HO_4.out (fun _ hk => ⟨hk.2, ⟨hk.1.1, hk.1.2.1⟩⟩)⟩, ⟨by (with_reducible repeat (first | apply Kd.R_alloc | apply Kd.R_drewN | apply Kd.R_drew)); exact Kd.R_mono HO1518.out (fun _ hk => ⟨hk.1, ⟨hk.2.1, hk.2.2.1⟩⟩)⟩, ⟨by (with_reducible repeat (first | apply Kd.R_alloc | apply Kd.R_drewN | apply Kd.R_drew)); exact Kd.R_mono HO_6.out (fun _ hk => ⟨hk.1.1, ⟨hk.2, hk.1.2.1⟩⟩)⟩, ⟨by (with_reducible repeat (first | apply Kd.R_alloc | apply Kd.R_drewN | apply Kd.R_drew)); exact Kd.R_mono HO_29.out (fun _ hk => ⟨hk.1.1, ⟨hk.2, hk.1.2.1⟩⟩)⟩, ⟨by repeat (first | (with_reducible first | exact HB.out | apply below_alloc | apply pw_below_drewN | apply below_drew1 | refine below_set ?_ GE1511.out) | exact HB.out)⟩⟩
                    · rw [if_neg c34] at H
                      exact absurd H (by simp)
                · rw [if_neg c25] at H
                  exact absurd H (by simp)
              · rw [if_neg c24] at H
                exact absurd H (by simp)
            · rw [if_neg c23] at H
              have c23b0 : decide (x31_2 < (t1507.length : Int)) = false := decide_eq_false c23
              clear c23
              simp only [Option.some.injEq, Prod.mk.injEq] at H
              obtain ⟨rfl, rfl, rfl⟩ := H
              go_wp2
              go_ret3
              exact ⟨_, _, _, by first | rfl | (simp [errW_none, errW_some] <;> rfl) | (simp [*, errW_none, errW_some] <;> rfl), by (with_reducible repeat (first | apply Kd.R_alloc | apply Kd.R_drewN | apply Kd.R_drew)); exact Kd.R_mono HO_4.out (fun _ hk => ⟨hk.1, hk.2.1⟩), by (with_reducible repeat (first | apply Kd.R_alloc | apply Kd.R_drewN | apply Kd.R_drew)); exact Kd.R_mono HO_5.out (fun _ hk => ⟨hk.1, hk.2.1⟩), by (with_reducible repeat (first | apply Kd.R_alloc | apply Kd.R_drewN | apply Kd.R_drew)); exact Kd.R_mono HO_6.out (fun _ hk => ⟨hk.1, hk.2.1⟩), by repeat (first | (with_reducible first | exact HB.out | apply below_alloc | apply pw_below_drewN | apply below_drew1) | exact HB.out)⟩
def paymasterref10_Same.l0 : Nat → List (S83) → List (S83) → Int → Option (Bool)
  | 0, _, _, _ => none
  | k + 1, x0, x1, x5 => if x5 < (x0.length : Int) then (if 0 ≤ x5 then (if x5 < (x1.length : Int) then (if (!((((rd_T83 x0 x5).f0).toList) == (((rd_T83 x1 x5).f0).toList)) || ((!(((rd_T83 x0 x5).f1.f0) == ((rd_T83 x1 x5).f1.f0)) || (!(((rd_T83 x0 x5).f1.f1) == ((rd_T83 x1 x5).f1.f1)))))) = true then (some false) else (paymasterref10_Same.l0 k x0 x1 (wrap64 (x5 + 1)))) else (none)) else (none)) else (some true)
def paymasterref10_Same.f (k : Nat) (l0 : List (S83)) (l1 : List (S83)) : Option (Bool) := if (l0.length : Int) = (l1.length : Int) then (paymasterref10_Same.l0 k l0 l1 0) else (some false)
set_option maxHeartbeats 8000000 in
set_option maxRecDepth 100000 in
theorem paymasterref10_Same.calls (k : Nat) (A0 : Option Addr) (c0 : Nat) (l0 : List (S83)) (A1 : Option Addr) (c1 : Nat) (l1 : List (S83)) (r : Bool) (w : World) (hr0 : Kd.C k83 w A0 l0.length l0) (hc0 : l0.length ≤ c0) (hr1 : Kd.C k83 w A1 l1.length l1) (hc1 : l1.length ≤ c1) (h : paymasterref10_Same.f k l0 l1 = some r) :
    Calls Try.prog 74 #[.slice A0 l0.length c0, .slice A1 l1.length c1] w fun e w' => e = .returned (.bool r) ∧ Drawn0 w w' := by
  have hu83 := Try.underlying83
  have HR0 := Aside0.mk hr0
  have HC0 := Aside0.mk hc0
  clear hr0 hc0
  have HR1 := Aside0.mk hr1
  have HC1 := Aside0.mk hc1
  clear hr1 hc1
  have H : (if (l0.length : Int) = (l1.length : Int) then (paymasterref10_Same.l0 k l0 l1 0) else (some false)) = some r := h
  clear h
  by_cases c3 : (l0.length : Int) = (l1.length : Int)
  · rw [if_pos c3] at H
    have c3b0 : ((l0.length : Int) == (l1.length : Int)) = true := beq_iff_eq.mpr c3
    have c3b1 : ((l0.length : Int) != (l1.length : Int)) = false := bne_eq_false_iff_eq.mpr c3
    have c3b2 : (l0.length == l1.length) = true := by first | simpa using c3 | (simp at c3 ⊢; omega)
    clear c3
    have H' := Aside0.mk H
    clear H
    go_enter Try.func74, Try.ntmps74
    go_wp2
    repeat (go_quiet (fail); try go_wp2)
    go_loopg [5] k (fun kq v5 w' => ∃ (x5_1 : Int), v5 = .int .i64 x5_1 ∧ Aside0 (paymasterref10_Same.l0 kq l0 l1 x5_1 = some r) ∧ Aside0 (kq ≤ k) ∧ Drawn0 w w')
    case atStart => exact ⟨(0), (by first | rfl | (simp; done) | (simp [*]; done)), H', ⟨Nat.le_refl _⟩, by repeat (first | exact Drawn0.refl _ | apply Drawn0.step)⟩
    case round =>
      clear H'
      try clear c1
      try clear p2
      try clear c3
      try clear c3b0
      try clear c3b1
      try clear c3b2
      obtain ⟨x5_1, rfl, HA, HK1, ⟨m1, rfl⟩⟩ := hrel
      cases gk with
      | zero => exact absurd HA.out (by simp [paymasterref10_Same.l0])
      | succ k1 =>
        have H := HA.out
        clear HA
        simp only [paymasterref10_Same.l0] at H
        by_cases c4 : x5_1 < (l0.length : Int)
        · rw [if_pos c4] at H
          have c4b0 : decide (x5_1 < (l0.length : Int)) = true := decide_eq_true c4
          clear c4
          by_cases c5 : 0 ≤ x5_1
          · rw [if_pos c5] at H
            have c5b0 : decide (0 ≤ x5_1) = true := decide_eq_true c5
            clear c5
            by_cases c6 : x5_1 < (l1.length : Int)
            · rw [if_pos c6] at H
              have c6b0 : decide (x5_1 < (l1.length : Int)) = true := decide_eq_true c6
              clear c6
              by_cases c7 : (!((((rd_T83 l0 x5_1).f0).toList) == (((rd_T83 l1 x5_1).f0).toList)) || ((!(((rd_T83 l0 x5_1).f1.f0) == ((rd_T83 l1 x5_1).f1.f0)) || (!(((rd_T83 l0 x5_1).f1.f1) == ((rd_T83 l1 x5_1).f1.f1)))))) = true
              · rw [if_pos c7] at H
                have c7b0 : (!((((rd_T83 l0 x5_1).f0).toList) == (((rd_T83 l1 x5_1).f0).toList)) || ((!(((rd_T83 l0 x5_1).f1.f0) == ((rd_T83 l1 x5_1).f1.f0)) || (!(((rd_T83 l0 x5_1).f1.f1) == ((rd_T83 l1 x5_1).f1.f1)))))) = true := c7
                clear c7
                obtain rfl := Option.some.inj H
                have p1519 : 0 ≤ (x5_1 : Int) := of_decide_eq_true (by first | (with_reducible assumption) | assumption)
                have q1519 : x5_1 < (l0.length : Int) := of_decide_eq_true (by first | (with_reducible assumption) | assumption)
                obtain ⟨ad1519, e1519, hx1519_0, hx1519_1, hx1519_2⟩ := at_T83 HR0.out x5_1 p1519 q1519
                cases e1519
                replace p1519 := eq_true p1519
                replace q1519 := eq_true q1519
                have p1520 : 0 ≤ (x5_1 : Int) := of_decide_eq_true (by first | (with_reducible assumption) | assumption)
                have q1520 : x5_1 < (l1.length : Int) := of_decide_eq_true (by first | (with_reducible assumption) | assumption)
                obtain ⟨ad1520, e1520, hx1520_0, hx1520_1, hx1520_2⟩ := at_T83 HR1.out x5_1 p1520 q1520
                cases e1520
                replace p1520 := eq_true p1520
                replace q1520 := eq_true q1520
                go_wp2
                repeat (go_quiet (fail); try go_wp2)
                go_ret
                exact ⟨by first | rfl | (simp; done) | (simp [*]; done), by repeat (first | exact Drawn0.refl _ | apply Drawn0.step)⟩
              · rw [if_neg c7] at H
                have c7b0 : (!((((rd_T83 l0 x5_1).f0).toList) == (((rd_T83 l1 x5_1).f0).toList)) || ((!(((rd_T83 l0 x5_1).f1.f0) == ((rd_T83 l1 x5_1).f1.f0)) || (!(((rd_T83 l0 x5_1).f1.f1) == ((rd_T83 l1 x5_1).f1.f1)))))) = false := by simpa using c7
                clear c7
                have H' := Aside0.mk H
                clear H
                have p1519 : 0 ≤ (x5_1 : Int) := of_decide_eq_true (by first | (with_reducible assumption) | assumption)
                have q1519 : x5_1 < (l0.length : Int) := of_decide_eq_true (by first | (with_reducible assumption) | assumption)
                obtain ⟨ad1519, e1519, hx1519_0, hx1519_1, hx1519_2⟩ := at_T83 HR0.out x5_1 p1519 q1519
                cases e1519
                replace p1519 := eq_true p1519
                replace q1519 := eq_true q1519
                have p1520 : 0 ≤ (x5_1 : Int) := of_decide_eq_true (by first | (with_reducible assumption) | assumption)
                have q1520 : x5_1 < (l1.length : Int) := of_decide_eq_true (by first | (with_reducible assumption) | assumption)
                obtain ⟨ad1520, e1520, hx1520_0, hx1520_1, hx1520_2⟩ := at_T83 HR1.out x5_1 p1520 q1520
                cases e1520
                replace p1520 := eq_true p1520
                replace q1520 := eq_true q1520
                go_wp2
                repeat (go_quiet (fail); try go_wp2)
                go_roundg k1
                case measure => have := HK1.out; omega
                case rel => exact ⟨(wrap64 (x5_1 + 1)), (by first | rfl | (simp; done) | (simp [*]; done)), H', ⟨by have := HK1.out; omega⟩, by repeat (first | exact Drawn0.refl _ | apply Drawn0.step)⟩
            · rw [if_neg c6] at H
              exact absurd H (by simp)
          · rw [if_neg c5] at H
            exact absurd H (by simp)
        · rw [if_neg c4] at H
          have c4b0 : decide (x5_1 < (l0.length : Int)) = false := decide_eq_false c4
          clear c4
          obtain rfl := Option.some.inj H
          go_wp2
          repeat (go_quiet (fail); try go_wp2)
          go_ret
          exact ⟨by first | rfl | (simp; done) | (simp [*]; done), by repeat (first | exact Drawn0.refl _ | apply Drawn0.step)⟩
  · rw [if_neg c3] at H
    have c3b0 : ((l0.length : Int) == (l1.length : Int)) = false := beq_eq_false_iff_ne.mpr c3
    have c3b1 : ((l0.length : Int) != (l1.length : Int)) = true := bne_iff_ne.mpr c3
    have c3b2 : (l0.length == l1.length) = false := by first | simpa using c3 | (simp at c3 ⊢; omega)
    obtain rfl := Option.some.inj H
    go_enter Try.func74, Try.ntmps74
    go_wp2
    repeat (go_quiet (fail); try go_wp2)
    go_ret
    exact ⟨by first | rfl | (simp; done) | (simp [*]; done), by repeat (first | exact Drawn0.refl _ | apply Drawn0.step)⟩
end Go.Proofs.Ytpkjpiphjdpegaa.P
