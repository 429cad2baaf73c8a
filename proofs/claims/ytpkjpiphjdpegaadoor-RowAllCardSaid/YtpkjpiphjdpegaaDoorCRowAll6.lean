/- A program of this session wrote this text out of the session's own texts. (part 6 of 6) -/
import Derived.Test.YtpkjpiphjdpegaaDoorCRowAll5
namespace Go.Proofs.YtpkjpiphjdpegaaDoor.P
open Go.RowKit Go.Proofs.YtpkjpiphjdpegaaDoorW.PrintWords Go.Proofs.YtpkjpiphjdpegaaDoorW.PrintLast Go.Proofs.YtpkjpiphjdpegaaDoorW.PrintMore
attribute [local go_sem] max2_int min2_int max_two min_two max_three min_three max_four min_four
set_option linter.unusedVariables false
set_option linter.unusedSimpArgs false
def paymasterref10_Parse.l0 : Nat → ByteArray → Int → Option (ByteArray × Int × Int × Int)
  | 0, _, _ => none
  | k + 1, x0, x4 => if x4 < (x0.size : Int) then (if 0 ≤ x4 then (if (bt x0 x4) = 32 then (if x4 ≤ (x0.size : Int) then ((paymasterref07_MayId.f k (x0.extract 0 (x4 : Int).toNat)).bind fun t449 => (if t449 = true then (if 0 ≤ (wrap64 (x4 + 1)) then (if (wrap64 (x4 + 1)) ≤ (x0.size : Int) then ((paymasterref02_Parse.f k (x0.extract ((wrap64 (x4 + 1)) : Int).toNat x0.size)).bind fun bt450 => (if bt450.2.2 = 0 then (some (x0.extract 0 (x4 : Int).toNat, bt450.1, bt450.2.1, 0)) else (some ((⟨#[]⟩ : ByteArray), 0, 0, 102)))) else (none)) else (none)) else (some ((⟨#[]⟩ : ByteArray), 0, 0, 101)))) else (none)) else (paymasterref10_Parse.l0 k x0 (wrap64 (x4 + 1)))) else (none)) else (some ((⟨#[]⟩ : ByteArray), 0, 0, 100))
def paymasterref10_Parse.f (k : Nat) (a0 : ByteArray) : Option (ByteArray × Int × Int × Int) := paymasterref10_Parse.l0 k a0 0
set_option maxHeartbeats 8000000 in
set_option maxRecDepth 100000 in
theorem paymasterref10_Parse.calls (k : Nat) (a0 : ByteArray) (r1 : ByteArray) (r2 : Int) (r3 : Int) (r4 : Int) (w : World) (h : paymasterref10_Parse.f k a0 = some (r1, r2, r3, r4)) :
    Calls Tryd.prog 44 #[.string a0] w fun e w' => e = .returned (.tuple #[.agg #[.string r1, .int .u64 r2, .int .u64 r3], .int .i64 r4]) ∧ Below w.heap.size w w' := by
  have hu44 := Tryd.underlying44
  have hu42 := Tryd.underlying42
  have HB := Aside0.mk (Below.refl w.heap.size w)
  have H : (paymasterref10_Parse.l0 k a0 0) = some (r1, r2, r3, r4) := h
  clear h
  have H' := Aside0.mk H
  clear H
  go_enter Tryd.func44, Tryd.ntmps44
  go_wp2_with (first | ((with_reducible refine gate_dst (N := 2) rfl ?_); refine box_event ?hg (N := 2) ?hd (cs := #[.string (⟨#[]⟩ : ByteArray), .int .u64 0, .int .u64 0]) (t := 44) ?hr ?_; (case hd => rfl); (case hg => rfl); (case hr => first | (go_simp; done) | (go_simp; rfl)); intro gb448 hg w2 hbox hb; have n0_ := Aside0.mk (below_step (by repeat (first | (with_reducible first | exact HB.out | apply below_alloc | apply pw_below_drewN | apply below_drew1) | exact HB.out)) hb); have n1_ := Aside0.mk (hbox); have n2_ := Aside0.mk ((by rw [hg]; exact (below_size (by repeat (first | (with_reducible first | exact HB.out | apply below_alloc | apply pw_below_drewN | apply below_drew1) | exact HB.out))) : w.heap.size ≤ gb448)); have n3_ := Aside0.mk ((by rw [hg]; exact (below_size (by repeat (first | (with_reducible first | exact HB.out | apply below_alloc | apply pw_below_drewN | apply below_drew1) | exact HB.out))) : w.heap.size ≤ gb448)); clear HB; have HB := n0_; have BK448 := n1_; have GW448 := n2_; have GE448 := n3_; clear n0_ n1_ n2_ n3_; clear hb hbox hg))
  go_loopg [4] k (fun kq v4 w' => ∃ (x4_1 : Int) (x449000_1 : ByteArray) (x449001_1 : Int) (x449002_1 : Int), v4 = .int .i64 x4_1 ∧ Aside0 (paymasterref10_Parse.l0 kq a0 x4_1 = some (r1, r2, r3, r4)) ∧ Aside0 (kq ≤ k) ∧ Aside0 (w'.heap[gb448]? = some (.cells #[.string x449000_1, .int .u64 x449001_1, .int .u64 x449002_1] 44 (0, 0))) ∧ Aside0 (Below w.heap.size w w'))
  case atStart => exact ⟨(0), ((⟨#[]⟩ : ByteArray)), (0), (0), (by first | rfl | (simp; done) | (simp [*]; done)), H', ⟨Nat.le_refl _⟩, ⟨by (with_reducible repeat (first | refine blk_drewN ?_ _ | refine blk_drew ?_ | refine blk_alloc ?_ _)); exact BK448.out⟩, ⟨by repeat (first | (with_reducible first | exact HB.out | apply below_alloc | apply pw_below_drewN | apply below_drew1 | refine below_set ?_ GE448.out) | exact HB.out)⟩⟩
  case round =>
    clear H'
    try clear p2
    obtain ⟨x4_1, x449000_1, x449001_1, x449002_1, rfl, HA, HK1, BK448, HB⟩ := hrel
    cases gk with
    | zero => exact absurd HA.out (by simp [paymasterref10_Parse.l0])
    | succ k1 =>
      have H := HA.out
      clear HA
      simp only [paymasterref10_Parse.l0] at H
      by_cases c3 : x4_1 < (a0.size : Int)
      · rw [if_pos c3] at H
        have c3b0 : decide (x4_1 < (a0.size : Int)) = true := decide_eq_true c3
        clear c3
        by_cases c4 : 0 ≤ x4_1
        · rw [if_pos c4] at H
          have c4b0 : decide (0 ≤ x4_1) = true := decide_eq_true c4
          clear c4
          by_cases c6 : (bt a0 x4_1) = 32
          · rw [if_pos c6] at H
            have c6b0 : ((bt a0 x4_1) == 32) = true := beq_iff_eq.mpr c6
            have c6b1 : ((bt a0 x4_1) != 32) = false := bne_eq_false_iff_eq.mpr c6
            clear c6
            have c7b0 := eq_true (of_decide_eq_true (by first | (with_reducible assumption) | assumption) : 0 ≤ x4_1)
            by_cases c8 : x4_1 ≤ (a0.size : Int)
            · rw [if_pos c8] at H
              have c8b0 := eq_true c8
              have c8b1 : decide (x4_1 ≤ (a0.size : Int)) = true := decide_eq_true c8
              clear c8
              replace H := Option.bind_eq_some_iff.mp H
              obtain ⟨t449, A90, H⟩ := H
              replace H : (if t449 = true then (if 0 ≤ (wrap64 (x4_1 + 1)) then (if (wrap64 (x4_1 + 1)) ≤ (a0.size : Int) then ((paymasterref02_Parse.f k1 (a0.extract ((wrap64 (x4_1 + 1)) : Int).toNat a0.size)).bind fun bt450 => (if bt450.2.2 = 0 then (some (a0.extract 0 (x4_1 : Int).toNat, bt450.1, bt450.2.1, 0)) else (some ((⟨#[]⟩ : ByteArray), 0, 0, 102)))) else (none)) else (none)) else (some ((⟨#[]⟩ : ByteArray), 0, 0, 101))) = some (r1, r2, r3, r4) := H
              have A9 := Aside0.mk A90
              clear A90
              by_cases c10 : t449 = true
              · subst c10
                have H1 : (if 0 ≤ (wrap64 (x4_1 + 1)) then (if (wrap64 (x4_1 + 1)) ≤ (a0.size : Int) then ((paymasterref02_Parse.f k1 (a0.extract ((wrap64 (x4_1 + 1)) : Int).toNat a0.size)).bind fun bt450 => (if bt450.2.2 = 0 then (some (a0.extract 0 (x4_1 : Int).toNat, bt450.1, bt450.2.1, 0)) else (some ((⟨#[]⟩ : ByteArray), 0, 0, 102)))) else (none)) else (none)) = some (r1, r2, r3, r4) := by rw [if_pos rfl] at H; exact H
                clear H
                have H := H1
                clear H1
                obtain ⟨ji11, hji11⟩ : ∃ j_ : Int, (wrap64 (x4_1 + 1)) = j_ := ⟨_, rfl⟩
                replace H : (if 0 ≤ (ji11) then (if (ji11) ≤ (a0.size : Int) then ((paymasterref02_Parse.f k1 (a0.extract ((ji11) : Int).toNat a0.size)).bind fun bt450 => (if bt450.2.2 = 0 then (some (a0.extract 0 (x4_1 : Int).toNat, bt450.1, bt450.2.1, 0)) else (some ((⟨#[]⟩ : ByteArray), 0, 0, 102)))) else (none)) else (none)) = some (r1, r2, r3, r4) := by first | (rw [hji11] at H; exact H) | (simp only [hji11] at H ⊢; exact H)
                (try rw [hji11] at A9)
                have hji11w : (IntKind.i64.wrap (x4_1 + 1)) = ji11 := (i64_w _).trans hji11
                by_cases c12 : 0 ≤ (ji11)
                · rw [if_pos c12] at H
                  have c12b0 := eq_true c12
                  have c12b1 : decide (0 ≤ (ji11)) = true := decide_eq_true c12
                  clear c12
                  by_cases c13 : (ji11) ≤ (a0.size : Int)
                  · rw [if_pos c13] at H
                    have c13b0 := eq_true c13
                    have c13b1 : decide ((ji11) ≤ (a0.size : Int)) = true := decide_eq_true c13
                    clear c13
                    replace H := Option.bind_eq_some_iff.mp H
                    obtain ⟨⟨t450, t451, t452⟩, A140, H⟩ := H
                    replace H : (if t452 = 0 then (some (a0.extract 0 (x4_1 : Int).toNat, t450, t451, 0)) else (some ((⟨#[]⟩ : ByteArray), 0, 0, 102))) = some (r1, r2, r3, r4) := H
                    have A14 := Aside0.mk A140
                    clear A140
                    by_cases c15 : t452 = 0
                    · rw [if_pos c15] at H
                      have c15b0 : (t452 == 0) = true := beq_iff_eq.mpr c15
                      have c15b1 : (t452 != 0) = false := bne_eq_false_iff_eq.mpr c15
                      clear c15
                      have c16b0 := eq_true (of_decide_eq_true (by first | (with_reducible assumption) | assumption) : 0 ≤ x4_1)
                      have c17b0 := eq_true (of_decide_eq_true (by first | (with_reducible assumption) | assumption) : x4_1 ≤ (a0.size : Int))
                      simp only [Option.some.injEq, Prod.mk.injEq] at H
                      obtain ⟨rfl, rfl, rfl, rfl⟩ := H
                      have p5 : 0 ≤ (x4_1 : Int) := of_decide_eq_true (by first | (with_reducible assumption) | assumption)
                      have q5 : x4_1 < (a0.size : Int) := of_decide_eq_true (by first | (with_reducible assumption) | assumption)
                      have hx5 := bt_at a0 x4_1
                      replace p5 := eq_true p5
                      replace q5 := eq_true q5
                      try go_wp2_with (first | ((with_reducible refine gate_callee (f := 81) rfl ?_); refine goesL_ (some 20) rfl rfl Tryd.func81 (by kernel_rfl) rfl #[.string (a0.extract 0 (x4_1 : Int).toNat)] rfl (by (try simp only [List.map_toArray, List.map_cons, List.map_nil]); first | done | rfl | (simp only [List.length_drop, List.length_take]; rfl)) ?_; (with_reducible refine (paymasterref07_MayId.calls k1 (a0.extract 0 (x4_1 : Int).toNat) true _ A9.out).mono ?_); rintro e w' ⟨rfl, ⟨nd, rfl⟩⟩; refine ⟨_, rfl, ?_⟩; (try (rw [drewN_self wr]; generalize hq_ : World.drewN wr _ = wr; have n0_ : Aside0 (wr.heap[gb448]? = some (.cells #[.string x449000_1, .int .u64 x449001_1, .int .u64 x449002_1] 44 (0, 0))) := ⟨by rw [← hq_]; exact (by (with_reducible repeat (first | refine blk_drewN ?_ _ | refine blk_drew ?_ | refine blk_alloc ?_ _)); exact BK448.out)⟩; have n1_ : Aside0 (Below w.heap.size w wr) := ⟨by rw [← hq_]; exact (by repeat (first | (with_reducible first | exact HB.out | apply below_alloc | apply pw_below_drewN | apply below_drew1 | refine below_set ?_ GE448.out) | exact HB.out))⟩; clear BK448 HB hq_; have BK448 := n0_; have HB := n1_; clear n0_ n1_))) | ((with_reducible refine gate_callee (f := 82) rfl ?_); refine goesL_ (some 28) rfl rfl Tryd.func82 (by kernel_rfl) rfl #[.string (a0.extract ((ji11) : Int).toNat a0.size)] rfl (by (try simp only [List.map_toArray, List.map_cons, List.map_nil]); first | done | (simp only [hji11]; rfl) | rfl | (simp only [List.length_drop, List.length_take]; rfl)) ?_; (with_reducible refine (paymasterref02_Parse.calls k1 (a0.extract ((ji11) : Int).toNat a0.size) t450 t451 t452 _ A14.out).mono ?_); rintro e w18 ⟨rfl, hb⟩; refine ⟨_, rfl, ?_⟩; have n0_ := Aside0.mk (blk_below (g := gb448) (o := .cells #[.string x449000_1, .int .u64 x449001_1, .int .u64 x449002_1] 44 (0, 0)) (by (with_reducible repeat (first | refine blk_drewN ?_ _ | refine blk_drew ?_ | refine blk_alloc ?_ _)); exact BK448.out) hb); have n1_ := Aside0.mk (below_step (by repeat (first | (with_reducible first | exact HB.out | apply below_alloc | apply pw_below_drewN | apply below_drew1 | refine below_set ?_ GE448.out) | exact HB.out)) hb); clear BK448; clear HB; have BK448 := n0_; have HB := n1_; clear n0_ n1_; (try clear hb); (try clear hb2); (try clear hk); (try clear hi)) | ((with_reducible refine gate_dst (N := 5) rfl ?_); refine box_event ?hg (N := 5) ?hd (cs := #[.int .u64 0, .int .u64 0]) (t := 42) ?hr ?_; (case hd => rfl); (case hg => rfl); (case hr => first | (go_simp; done) | (go_simp; rfl)); intro gb453 hg w19 hbox hb; have n0_ := Aside0.mk (blk_below (g := gb448) (o := .cells #[.string x449000_1, .int .u64 x449001_1, .int .u64 x449002_1] 44 (0, 0)) (by (with_reducible repeat (first | refine blk_drewN ?_ _ | refine blk_drew ?_ | refine blk_alloc ?_ _)); exact BK448.out) hb); have n1_ := Aside0.mk (below_step (by repeat (first | (with_reducible first | exact HB.out | apply below_alloc | apply pw_below_drewN | apply below_drew1 | refine below_set ?_ GE448.out) | exact HB.out)) hb); have n2_ := Aside0.mk (hbox); have n3_ := Aside0.mk ((by rw [hg]; exact (below_size (by repeat (first | (with_reducible first | exact HB.out | apply below_alloc | apply pw_below_drewN | apply below_drew1 | refine below_set ?_ GE448.out) | exact HB.out))) : w.heap.size ≤ gb453)); have n4_ := Aside0.mk ((by rw [hg]; exact (below_size (by repeat (first | (with_reducible first | exact HB.out | apply below_alloc | apply pw_below_drewN | apply below_drew1 | refine below_set ?_ GE448.out) | exact HB.out))) : w.heap.size ≤ gb453)); have n5_ := Aside0.mk ((by rw [hg]; exact Nat.ne_of_lt (blk_lt (g := gb448) (o := .cells #[.string x449000_1, .int .u64 x449001_1, .int .u64 x449002_1] 44 (0, 0)) (by (with_reducible repeat (first | refine blk_drewN ?_ _ | refine blk_drew ?_ | refine blk_alloc ?_ _)); exact BK448.out)) : gb448 ≠ gb453)); have n6_ := Aside0.mk ((by rw [hg]; exact Nat.ne_of_gt (blk_lt (g := gb448) (o := .cells #[.string x449000_1, .int .u64 x449001_1, .int .u64 x449002_1] 44 (0, 0)) (by (with_reducible repeat (first | refine blk_drewN ?_ _ | refine blk_drew ?_ | refine blk_alloc ?_ _)); exact BK448.out)) : gb453 ≠ gb448)); clear BK448; clear HB; have BK448 := n0_; have HB := n1_; have BK453 := n2_; have GW453 := n3_; have GE453 := n4_; have NB448_453 := n5_; have NB453_448 := n6_; clear n0_ n1_ n2_ n3_ n4_ n5_ n6_; clear hb hbox hg; have hnb20 := NB453_448.out; have hnc20 := NB448_453.out; have hcz21_0 : w19.cell? ⟨gb453, 0, none⟩ = some (.int .u64 0) := (blk_cell BK453.out 0).trans rfl; have hcz21_1 : w19.cell? ⟨gb453, 1, none⟩ = some (.int .u64 0) := (blk_cell BK453.out 1).trans rfl; have hfz21_0 := blk_frozen BK453.out 0; have hfz21_1 := blk_frozen BK453.out 1))
                      have n0_ : Aside0 (((w19.setCell ⟨gb453, 0, none⟩ (.int .u64 t450)).setCell ⟨gb453, 1, none⟩ (.int .u64 t451)).heap[gb448]? = some (.cells #[.string x449000_1, .int .u64 x449001_1, .int .u64 x449002_1] 44 (0, 0))) := ⟨by (with_reducible repeat (first | refine blk_drewN ?_ _ | refine blk_drew ?_ | refine blk_alloc ?_ _)); refine blk_far ?_ NB448_453.out _; (with_reducible repeat (first | refine blk_drewN ?_ _ | refine blk_drew ?_ | refine blk_alloc ?_ _)); refine blk_far ?_ NB448_453.out _; (with_reducible repeat (first | refine blk_drewN ?_ _ | refine blk_drew ?_ | refine blk_alloc ?_ _)); exact BK448.out⟩
                      have n1_ : Aside0 (((w19.setCell ⟨gb453, 0, none⟩ (.int .u64 t450)).setCell ⟨gb453, 1, none⟩ (.int .u64 t451)).heap[gb453]? = some (.cells #[.int .u64 t450, .int .u64 t451] 42 (0, 0))) := ⟨by (with_reducible repeat (first | refine blk_drewN ?_ _ | refine blk_drew ?_ | refine blk_alloc ?_ _)); refine blk_put (cs := #[.int .u64 t450, .int .u64 0]) ?_ 1 _ rfl; (with_reducible repeat (first | refine blk_drewN ?_ _ | refine blk_drew ?_ | refine blk_alloc ?_ _)); refine blk_put (cs := #[.int .u64 0, .int .u64 0]) ?_ 0 _ rfl; (with_reducible repeat (first | refine blk_drewN ?_ _ | refine blk_drew ?_ | refine blk_alloc ?_ _)); exact BK453.out⟩
                      have n2_ : Aside0 (Below w.heap.size w ((w19.setCell ⟨gb453, 0, none⟩ (.int .u64 t450)).setCell ⟨gb453, 1, none⟩ (.int .u64 t451))) := ⟨by repeat (first | (with_reducible first | exact HB.out | apply below_alloc | apply pw_below_drewN | apply below_drew1 | refine below_set ?_ GE448.out | refine below_set ?_ GE453.out) | exact HB.out)⟩
                      (try clear BK448)
                      (try clear BK453)
                      (try clear HB)
                      generalize ((w19.setCell ⟨gb453, 0, none⟩ (.int .u64 t450)).setCell ⟨gb453, 1, none⟩ (.int .u64 t451)) = w22 at n0_ n1_ n2_ ⊢
                      have BK448 := n0_
                      have BK453 := n1_
                      have HB := n2_
                      clear n0_ n1_ n2_
                      have n0_ := Aside0.mk (blk_drew BK448.out)
                      have n1_ := Aside0.mk (blk_drew BK453.out)
                      have n2_ := Aside0.mk (below_drew1 HB.out)
                      clear BK448
                      clear BK453
                      clear HB
                      have BK448 := n0_
                      have BK453 := n1_
                      have HB := n2_
                      clear n0_ n1_ n2_
                      refine start_ (n := 7) (S := fun w' => w'.cell? ⟨gb453, 0, none⟩ = some (.int .u64 t450) ∧ w'.cell? ⟨gb453, 1, none⟩ = some (.int .u64 t451)) (ds := []) #[false, false, false, false, false, false, false] (by kernel_rfl) rfl rfl ⟨(blk_cell BK453.out 0).trans rfl, (blk_cell BK453.out 1).trans rfl⟩ (fun hHeld => ?_)
                      generalize w22.drew = w23 at BK448 BK453 HB hHeld ⊢
                      refine pure_ (i := 0) (N := some 34) (v := ?_) (a' := ?_) #[true, false, false, false, false, false, false] rfl rfl (by kernel_rfl) (fun _ _ _ h => h) (Or.inl ⟨by rfl, ?_⟩) ?_ ?_
                      rotate_left
                      · intro w'
                        go_simp
                        with_reducible rfl
                      rotate_left
                      · simp only [Act.put, List.setIfInBounds_toArray, List.set_cons_zero, List.set_cons_succ, i64_w, i32_w]
                        rfl
                      refine pure_ (i := 1) (N := some 35) (v := ?_) (a' := ?_) #[true, true, false, false, false, false, false] rfl rfl (by kernel_rfl) (fun _ _ _ h => h) (Or.inl ⟨by rfl, ?_⟩) ?_ ?_
                      rotate_left
                      · intro w'
                        go_simp
                        with_reducible rfl
                      rotate_left
                      · simp only [Act.put, List.setIfInBounds_toArray, List.set_cons_zero, List.set_cons_succ, i64_w, i32_w]
                        rfl
                      refine pure_ (i := 2) (N := some 36) (v := ?_) (a' := ?_) #[true, true, true, false, false, false, false] rfl rfl (by kernel_rfl) (fun _ _ _ h => h) (Or.inl ⟨by rfl, ?_⟩) ?_ ?_
                      rotate_left
                      · intro w'
                        go_simp
                        with_reducible rfl
                      rotate_left
                      · simp only [Act.put, List.setIfInBounds_toArray, List.set_cons_zero, List.set_cons_succ, i64_w, i32_w]
                        rfl
                      refine take_ (i := 3) (N := some 37) (v := ?_) (a' := ?_) #[true, true, true, true, false, false, false] rfl rfl (by kernel_rfl) (fun _ _ _ h => h) (Or.inl ⟨by rfl, ?_⟩) hHeld ?_ ?_
                      rotate_left
                      · rintro w' ⟨s0, s1⟩
                        go_simp
                        with_reducible rfl
                      rotate_left
                      · simp only [Act.put, List.setIfInBounds_toArray, List.set_cons_zero, List.set_cons_succ, i64_w, i32_w]
                        rfl
                      refine pure_ (i := 4) (N := some 38) (v := ?_) (a' := ?_) #[true, true, true, true, true, false, false] rfl rfl (by kernel_rfl) (fun _ _ _ h => h) (Or.inl ⟨by rfl, ?_⟩) ?_ ?_
                      rotate_left
                      · intro w'
                        go_simp
                        with_reducible rfl
                      rotate_left
                      · simp only [Act.put, List.setIfInBounds_toArray, List.set_cons_zero, List.set_cons_succ, i64_w, i32_w]
                        rfl
                      refine one_ (i := 5) (N := none) #[true, true, true, true, true, true, false] rfl rfl (by kernel_rfl) (by decide) (fun K hK => ?_)
                      have hs24 : w23.cell? ⟨gb448, 0, none⟩ = some (.string x449000_1) := (blk_cell BK448.out 0).trans rfl
                      have hfs24 := blk_frozen BK448.out 0
                      have hns24_1 := NB453_448.out
                      have hms24_1 := NB448_453.out
                      have hs25 : w23.cell? ⟨gb448, 1, none⟩ = some (.int .u64 x449001_1) := (blk_cell BK448.out 1).trans rfl
                      have hfs25 := blk_frozen BK448.out 1
                      have hns25_1 := NB453_448.out
                      have hms25_1 := NB448_453.out
                      have hs26 : w23.cell? ⟨gb448, 2, none⟩ = some (.int .u64 x449002_1) := (blk_cell BK448.out 2).trans rfl
                      have hfs26 := blk_frozen BK448.out 2
                      have hns26_1 := NB453_448.out
                      have hms26_1 := NB448_453.out
                      refine skip_ (w1 := ?_) (by rfl) rfl ?_ ?_
                      rotate_left
                      · go_simp
                        rfl
                      refine hK.out _ _ ⟨((cell_far (p := ⟨gb448, _, none⟩) NB453_448.out _).trans (((cell_far (p := ⟨gb448, _, none⟩) NB453_448.out _).trans (((cell_far (p := ⟨gb448, _, none⟩) NB453_448.out _).trans (hHeld.1)))))), ((cell_far (p := ⟨gb448, _, none⟩) NB453_448.out _).trans (((cell_far (p := ⟨gb448, _, none⟩) NB453_448.out _).trans (((cell_far (p := ⟨gb448, _, none⟩) NB453_448.out _).trans (hHeld.2))))))⟩ (fun hHeld => ?_)
                      clear hK K
                      refine pure_ (i := 6) (N := some 3) (v := ?_) (a' := ?_) #[true, true, true, true, true, true, true] rfl rfl (by kernel_rfl) (fun _ _ _ h => h) (Or.inl ⟨by rfl, ?_⟩) ?_ ?_
                      rotate_left
                      · intro w'
                        go_simp
                        with_reducible rfl
                      rotate_left
                      · simp only [Act.put, List.setIfInBounds_toArray, List.set_cons_zero, List.set_cons_succ, i64_w, i32_w]
                        rfl
                      refine done_ (by kernel_rfl) ?_
                      try go_wp2
                      refine bodyPost_ret (results_ct rfl _ _ gb448 44 #[.string (a0.extract 0 (x4_1 : Int).toNat), .int .u64 t450, .int .u64 t451] (0, 0) _ rfl (by (with_reducible repeat (first | refine blk_drewN ?_ _ | refine blk_drew ?_ | refine blk_alloc ?_ _)); refine blk_put (cs := #[.string (a0.extract 0 (x4_1 : Int).toNat), .int .u64 t450, .int .u64 x449002_1]) ?_ 2 _ rfl; (with_reducible repeat (first | refine blk_drewN ?_ _ | refine blk_drew ?_ | refine blk_alloc ?_ _)); refine blk_put (cs := #[.string (a0.extract 0 (x4_1 : Int).toNat), .int .u64 x449001_1, .int .u64 x449002_1]) ?_ 1 _ rfl; (with_reducible repeat (first | refine blk_drewN ?_ _ | refine blk_drew ?_ | refine blk_alloc ?_ _)); refine blk_put (cs := #[.string x449000_1, .int .u64 x449001_1, .int .u64 x449002_1]) ?_ 0 _ rfl; (with_reducible repeat (first | refine blk_drewN ?_ _ | refine blk_drew ?_ | refine blk_alloc ?_ _)); exact BK448.out) Tryd.underlying44 rfl (by kernel_rfl)) rfl ?_
                      exact ⟨by first | rfl | (simp [errW_none, errW_some] <;> rfl) | (simp only [← hji11]; first | rfl | (simp [errW_none, errW_some] <;> rfl)) | (simp [*, errW_none, errW_some] <;> rfl), by repeat (first | (with_reducible first | exact HB.out | apply below_alloc | apply pw_below_drewN | apply below_drew1 | refine below_set ?_ GE448.out | refine below_set ?_ GE453.out) | exact HB.out)⟩
                    · rw [if_neg c15] at H
                      have c15b0 : (t452 == 0) = false := beq_eq_false_iff_ne.mpr c15
                      have c15b1 : (t452 != 0) = true := bne_iff_ne.mpr c15
                      simp only [Option.some.injEq, Prod.mk.injEq] at H
                      obtain ⟨rfl, rfl, rfl, rfl⟩ := H
                      have p5 : 0 ≤ (x4_1 : Int) := of_decide_eq_true (by first | (with_reducible assumption) | assumption)
                      have q5 : x4_1 < (a0.size : Int) := of_decide_eq_true (by first | (with_reducible assumption) | assumption)
                      have hx5 := bt_at a0 x4_1
                      replace p5 := eq_true p5
                      replace q5 := eq_true q5
                      go_wp2_with (first | ((with_reducible refine gate_callee (f := 81) rfl ?_); refine goesL_ (some 20) rfl rfl Tryd.func81 (by kernel_rfl) rfl #[.string (a0.extract 0 (x4_1 : Int).toNat)] rfl (by (try simp only [List.map_toArray, List.map_cons, List.map_nil]); first | done | rfl | (simp only [List.length_drop, List.length_take]; rfl)) ?_; (with_reducible refine (paymasterref07_MayId.calls k1 (a0.extract 0 (x4_1 : Int).toNat) true _ A9.out).mono ?_); rintro e w' ⟨rfl, ⟨nd, rfl⟩⟩; refine ⟨_, rfl, ?_⟩; (try (rw [drewN_self wr]; generalize hq_ : World.drewN wr _ = wr; have n0_ : Aside0 (wr.heap[gb448]? = some (.cells #[.string x449000_1, .int .u64 x449001_1, .int .u64 x449002_1] 44 (0, 0))) := ⟨by rw [← hq_]; exact (by (with_reducible repeat (first | refine blk_drewN ?_ _ | refine blk_drew ?_ | refine blk_alloc ?_ _)); exact BK448.out)⟩; have n1_ : Aside0 (Below w.heap.size w wr) := ⟨by rw [← hq_]; exact (by repeat (first | (with_reducible first | exact HB.out | apply below_alloc | apply pw_below_drewN | apply below_drew1 | refine below_set ?_ GE448.out) | exact HB.out))⟩; clear BK448 HB hq_; have BK448 := n0_; have HB := n1_; clear n0_ n1_))) | ((with_reducible refine gate_callee (f := 82) rfl ?_); refine goesL_ (some 28) rfl rfl Tryd.func82 (by kernel_rfl) rfl #[.string (a0.extract ((ji11) : Int).toNat a0.size)] rfl (by (try simp only [List.map_toArray, List.map_cons, List.map_nil]); first | done | (simp only [hji11]; rfl) | rfl | (simp only [List.length_drop, List.length_take]; rfl)) ?_; (with_reducible refine (paymasterref02_Parse.calls k1 (a0.extract ((ji11) : Int).toNat a0.size) t450 t451 t452 _ A14.out).mono ?_); rintro e w27 ⟨rfl, hb⟩; refine ⟨_, rfl, ?_⟩; have n0_ := Aside0.mk (blk_below (g := gb448) (o := .cells #[.string x449000_1, .int .u64 x449001_1, .int .u64 x449002_1] 44 (0, 0)) (by (with_reducible repeat (first | refine blk_drewN ?_ _ | refine blk_drew ?_ | refine blk_alloc ?_ _)); exact BK448.out) hb); have n1_ := Aside0.mk (below_step (by repeat (first | (with_reducible first | exact HB.out | apply below_alloc | apply pw_below_drewN | apply below_drew1 | refine below_set ?_ GE448.out) | exact HB.out)) hb); clear BK448; clear HB; have BK448 := n0_; have HB := n1_; clear n0_ n1_; (try clear hb); (try clear hb2); (try clear hk); (try clear hi)) | ((with_reducible refine gate_dst (N := 5) rfl ?_); refine box_event ?hg (N := 5) ?hd (cs := #[.int .u64 0, .int .u64 0]) (t := 42) ?hr ?_; (case hd => rfl); (case hg => rfl); (case hr => first | (go_simp; done) | (go_simp; rfl)); intro gb453 hg w28 hbox hb; have n0_ := Aside0.mk (blk_below (g := gb448) (o := .cells #[.string x449000_1, .int .u64 x449001_1, .int .u64 x449002_1] 44 (0, 0)) (by (with_reducible repeat (first | refine blk_drewN ?_ _ | refine blk_drew ?_ | refine blk_alloc ?_ _)); exact BK448.out) hb); have n1_ := Aside0.mk (below_step (by repeat (first | (with_reducible first | exact HB.out | apply below_alloc | apply pw_below_drewN | apply below_drew1 | refine below_set ?_ GE448.out) | exact HB.out)) hb); have n2_ := Aside0.mk (hbox); have n3_ := Aside0.mk ((by rw [hg]; exact (below_size (by repeat (first | (with_reducible first | exact HB.out | apply below_alloc | apply pw_below_drewN | apply below_drew1 | refine below_set ?_ GE448.out) | exact HB.out))) : w.heap.size ≤ gb453)); have n4_ := Aside0.mk ((by rw [hg]; exact (below_size (by repeat (first | (with_reducible first | exact HB.out | apply below_alloc | apply pw_below_drewN | apply below_drew1 | refine below_set ?_ GE448.out) | exact HB.out))) : w.heap.size ≤ gb453)); have n5_ := Aside0.mk ((by rw [hg]; exact Nat.ne_of_lt (blk_lt (g := gb448) (o := .cells #[.string x449000_1, .int .u64 x449001_1, .int .u64 x449002_1] 44 (0, 0)) (by (with_reducible repeat (first | refine blk_drewN ?_ _ | refine blk_drew ?_ | refine blk_alloc ?_ _)); exact BK448.out)) : gb448 ≠ gb453)); have n6_ := Aside0.mk ((by rw [hg]; exact Nat.ne_of_gt (blk_lt (g := gb448) (o := .cells #[.string x449000_1, .int .u64 x449001_1, .int .u64 x449002_1] 44 (0, 0)) (by (with_reducible repeat (first | refine blk_drewN ?_ _ | refine blk_drew ?_ | refine blk_alloc ?_ _)); exact BK448.out)) : gb453 ≠ gb448)); clear BK448; clear HB; have BK448 := n0_; have HB := n1_; have BK453 := n2_; have GW453 := n3_; have GE453 := n4_; have NB448_453 := n5_; have NB453_448 := n6_; clear n0_ n1_ n2_ n3_ n4_ n5_ n6_; clear hb hbox hg; have hnb29 := NB453_448.out; have hnc29 := NB448_453.out; have hcz30_0 : w28.cell? ⟨gb453, 0, none⟩ = some (.int .u64 0) := (blk_cell BK453.out 0).trans rfl; have hcz30_1 : w28.cell? ⟨gb453, 1, none⟩ = some (.int .u64 0) := (blk_cell BK453.out 1).trans rfl; have hfz30_0 := blk_frozen BK453.out 0; have hfz30_1 := blk_frozen BK453.out 1; have hcz31_0 : w28.cell? ⟨gb448, 0, none⟩ = some (.string x449000_1) := (blk_cell BK448.out 0).trans rfl; have hcz31_1 : w28.cell? ⟨gb448, 1, none⟩ = some (.int .u64 x449001_1) := (blk_cell BK448.out 1).trans rfl; have hcz31_2 : w28.cell? ⟨gb448, 2, none⟩ = some (.int .u64 x449002_1) := (blk_cell BK448.out 2).trans rfl; have hfz31_0 := blk_frozen BK448.out 0; have hfz31_1 := blk_frozen BK448.out 1; have hfz31_2 := blk_frozen BK448.out 2))
                      refine bodyPost_ret (results_ct rfl _ _ gb448 44 #[.string (⟨#[]⟩ : ByteArray), .int .u64 0, .int .u64 0] (0, 0) _ rfl (by (with_reducible repeat (first | refine blk_drewN ?_ _ | refine blk_drew ?_ | refine blk_alloc ?_ _)); refine blk_put (cs := #[.string (⟨#[]⟩ : ByteArray), .int .u64 0, .int .u64 x449002_1]) ?_ 2 _ rfl; (with_reducible repeat (first | refine blk_drewN ?_ _ | refine blk_drew ?_ | refine blk_alloc ?_ _)); refine blk_put (cs := #[.string (⟨#[]⟩ : ByteArray), .int .u64 x449001_1, .int .u64 x449002_1]) ?_ 1 _ rfl; (with_reducible repeat (first | refine blk_drewN ?_ _ | refine blk_drew ?_ | refine blk_alloc ?_ _)); refine blk_put (cs := #[.string x449000_1, .int .u64 x449001_1, .int .u64 x449002_1]) ?_ 0 _ rfl; (with_reducible repeat (first | refine blk_drewN ?_ _ | refine blk_drew ?_ | refine blk_alloc ?_ _)); refine blk_far ?_ NB448_453.out _; (with_reducible repeat (first | refine blk_drewN ?_ _ | refine blk_drew ?_ | refine blk_alloc ?_ _)); refine blk_far ?_ NB448_453.out _; (with_reducible repeat (first | refine blk_drewN ?_ _ | refine blk_drew ?_ | refine blk_alloc ?_ _)); exact BK448.out) Tryd.underlying44 rfl (by kernel_rfl)) rfl ?_
                      exact ⟨by first | rfl | (simp [errW_none, errW_some] <;> rfl) | (simp only [← hji11]; first | rfl | (simp [errW_none, errW_some] <;> rfl)) | (simp [*, errW_none, errW_some] <;> rfl), by repeat (first | (with_reducible first | exact HB.out | apply below_alloc | apply pw_below_drewN | apply below_drew1 | refine below_set ?_ GE448.out | refine below_set ?_ GE453.out) | exact HB.out)⟩
                  · rw [if_neg c13] at H
                    exact absurd H (by simp)
                · rw [if_neg c12] at H
                  exact absurd H (by simp)
              · replace c10 := Bool.eq_false_iff.mpr c10
                subst c10
                have H1 : (some ((⟨#[]⟩ : ByteArray), 0, 0, 101)) = some (r1, r2, r3, r4) := by rw [if_neg (show ¬ (false = true) by decide)] at H; exact H
                clear H
                have H := H1
                clear H1
                simp only [Option.some.injEq, Prod.mk.injEq] at H
                obtain ⟨rfl, rfl, rfl, rfl⟩ := H
                have p5 : 0 ≤ (x4_1 : Int) := of_decide_eq_true (by first | (with_reducible assumption) | assumption)
                have q5 : x4_1 < (a0.size : Int) := of_decide_eq_true (by first | (with_reducible assumption) | assumption)
                have hx5 := bt_at a0 x4_1
                replace p5 := eq_true p5
                replace q5 := eq_true q5
                go_wp2_with (first | ((with_reducible refine gate_callee (f := 81) rfl ?_); refine goesL_ (some 20) rfl rfl Tryd.func81 (by kernel_rfl) rfl #[.string (a0.extract 0 (x4_1 : Int).toNat)] rfl (by (try simp only [List.map_toArray, List.map_cons, List.map_nil]); first | done | rfl | (simp only [List.length_drop, List.length_take]; rfl)) ?_; (with_reducible refine (paymasterref07_MayId.calls k1 (a0.extract 0 (x4_1 : Int).toNat) false _ A9.out).mono ?_); rintro e w' ⟨rfl, ⟨nd, rfl⟩⟩; refine ⟨_, rfl, ?_⟩; (try (rw [drewN_self wr]; generalize hq_ : World.drewN wr _ = wr; have n0_ : Aside0 (wr.heap[gb448]? = some (.cells #[.string x449000_1, .int .u64 x449001_1, .int .u64 x449002_1] 44 (0, 0))) := ⟨by rw [← hq_]; exact (by (with_reducible repeat (first | refine blk_drewN ?_ _ | refine blk_drew ?_ | refine blk_alloc ?_ _)); exact BK448.out)⟩; have n1_ : Aside0 (Below w.heap.size w wr) := ⟨by rw [← hq_]; exact (by repeat (first | (with_reducible first | exact HB.out | apply below_alloc | apply pw_below_drewN | apply below_drew1 | refine below_set ?_ GE448.out) | exact HB.out))⟩; clear BK448 HB hq_; have BK448 := n0_; have HB := n1_; clear n0_ n1_)); have hcz32_0 : wr.cell? ⟨gb448, 0, none⟩ = some (.string x449000_1) := (blk_cell BK448.out 0).trans rfl; have hcz32_1 : wr.cell? ⟨gb448, 1, none⟩ = some (.int .u64 x449001_1) := (blk_cell BK448.out 1).trans rfl; have hcz32_2 : wr.cell? ⟨gb448, 2, none⟩ = some (.int .u64 x449002_1) := (blk_cell BK448.out 2).trans rfl; have hfz32_0 := blk_frozen BK448.out 0; have hfz32_1 := blk_frozen BK448.out 1; have hfz32_2 := blk_frozen BK448.out 2))
                refine bodyPost_ret (results_ct rfl _ _ gb448 44 #[.string (⟨#[]⟩ : ByteArray), .int .u64 0, .int .u64 0] (0, 0) _ rfl (by (with_reducible repeat (first | refine blk_drewN ?_ _ | refine blk_drew ?_ | refine blk_alloc ?_ _)); refine blk_put (cs := #[.string (⟨#[]⟩ : ByteArray), .int .u64 0, .int .u64 x449002_1]) ?_ 2 _ rfl; (with_reducible repeat (first | refine blk_drewN ?_ _ | refine blk_drew ?_ | refine blk_alloc ?_ _)); refine blk_put (cs := #[.string (⟨#[]⟩ : ByteArray), .int .u64 x449001_1, .int .u64 x449002_1]) ?_ 1 _ rfl; (with_reducible repeat (first | refine blk_drewN ?_ _ | refine blk_drew ?_ | refine blk_alloc ?_ _)); refine blk_put (cs := #[.string x449000_1, .int .u64 x449001_1, .int .u64 x449002_1]) ?_ 0 _ rfl; (with_reducible repeat (first | refine blk_drewN ?_ _ | refine blk_drew ?_ | refine blk_alloc ?_ _)); exact BK448.out) Tryd.underlying44 rfl (by kernel_rfl)) rfl ?_
                exact ⟨by first | rfl | (simp [errW_none, errW_some] <;> rfl) | (simp [*, errW_none, errW_some] <;> rfl), by repeat (first | (with_reducible first | exact HB.out | apply below_alloc | apply pw_below_drewN | apply below_drew1 | refine below_set ?_ GE448.out) | exact HB.out)⟩
            · rw [if_neg c8] at H
              exact absurd H (by simp)
          · rw [if_neg c6] at H
            have c6b0 : ((bt a0 x4_1) == 32) = false := beq_eq_false_iff_ne.mpr c6
            have c6b1 : ((bt a0 x4_1) != 32) = true := bne_iff_ne.mpr c6
            have H' := Aside0.mk H
            clear H
            have p5 : 0 ≤ (x4_1 : Int) := of_decide_eq_true (by first | (with_reducible assumption) | assumption)
            have q5 : x4_1 < (a0.size : Int) := of_decide_eq_true (by first | (with_reducible assumption) | assumption)
            have hx5 := bt_at a0 x4_1
            replace p5 := eq_true p5
            replace q5 := eq_true q5
            go_wp2
            go_roundg k1
            case measure => have := HK1.out; omega
            case rel => exact ⟨(wrap64 (x4_1 + 1)), (x449000_1), (x449001_1), (x449002_1), (by first | rfl | (simp; done) | (simp [*]; done)), H', ⟨by have := HK1.out; omega⟩, ⟨by (with_reducible repeat (first | refine blk_drewN ?_ _ | refine blk_drew ?_ | refine blk_alloc ?_ _)); exact BK448.out⟩, ⟨by repeat (first | (with_reducible first | exact HB.out | apply below_alloc | apply pw_below_drewN | apply below_drew1 | refine below_set ?_ GE448.out) | exact HB.out)⟩⟩
        · rw [if_neg c4] at H
          exact absurd H (by simp)
      · rw [if_neg c3] at H
        have c3b0 : decide (x4_1 < (a0.size : Int)) = false := decide_eq_false c3
        clear c3
        simp only [Option.some.injEq, Prod.mk.injEq] at H
        obtain ⟨rfl, rfl, rfl, rfl⟩ := H
        have hcz33_0 : wr.cell? ⟨gb448, 0, none⟩ = some (.string x449000_1) := (blk_cell BK448.out 0).trans rfl
        have hcz33_1 : wr.cell? ⟨gb448, 1, none⟩ = some (.int .u64 x449001_1) := (blk_cell BK448.out 1).trans rfl
        have hcz33_2 : wr.cell? ⟨gb448, 2, none⟩ = some (.int .u64 x449002_1) := (blk_cell BK448.out 2).trans rfl
        have hfz33_0 := blk_frozen BK448.out 0
        have hfz33_1 := blk_frozen BK448.out 1
        have hfz33_2 := blk_frozen BK448.out 2
        go_wp2
        refine bodyPost_ret (results_ct rfl _ _ gb448 44 #[.string (⟨#[]⟩ : ByteArray), .int .u64 0, .int .u64 0] (0, 0) _ rfl (by (with_reducible repeat (first | refine blk_drewN ?_ _ | refine blk_drew ?_ | refine blk_alloc ?_ _)); refine blk_put (cs := #[.string (⟨#[]⟩ : ByteArray), .int .u64 0, .int .u64 x449002_1]) ?_ 2 _ rfl; (with_reducible repeat (first | refine blk_drewN ?_ _ | refine blk_drew ?_ | refine blk_alloc ?_ _)); refine blk_put (cs := #[.string (⟨#[]⟩ : ByteArray), .int .u64 x449001_1, .int .u64 x449002_1]) ?_ 1 _ rfl; (with_reducible repeat (first | refine blk_drewN ?_ _ | refine blk_drew ?_ | refine blk_alloc ?_ _)); refine blk_put (cs := #[.string x449000_1, .int .u64 x449001_1, .int .u64 x449002_1]) ?_ 0 _ rfl; (with_reducible repeat (first | refine blk_drewN ?_ _ | refine blk_drew ?_ | refine blk_alloc ?_ _)); exact BK448.out) Tryd.underlying44 rfl (by kernel_rfl)) rfl ?_
        exact ⟨by first | rfl | (simp [errW_none, errW_some] <;> rfl) | (simp [*, errW_none, errW_some] <;> rfl), by repeat (first | (with_reducible first | exact HB.out | apply below_alloc | apply pw_below_drewN | apply below_drew1 | refine below_set ?_ GE448.out) | exact HB.out)⟩
def paymasterref10_One.f (k : Nat) (a0 : ByteArray) : Option (ByteArray × Int × Int × Bool × Int) := (paymasterref09_Wrong.f k a0).bind fun t455 => (if t455 = 0 then (if (a0.size : Int) = 0 then (some ((⟨#[]⟩ : ByteArray), 0, 0, false, 0)) else (if 0 < (a0.size : Int) then (if (bt a0 0) = 35 then (some ((⟨#[]⟩ : ByteArray), 0, 0, false, 0)) else ((paymasterref10_Parse.f k a0).bind fun bt456 => (some (bt456.1, bt456.2.1, bt456.2.2.1, (bt456.2.2.2 == 0), bt456.2.2.2)))) else (none))) else (some ((⟨#[]⟩ : ByteArray), 0, 0, false, t455)))
set_option maxHeartbeats 8000000 in
set_option maxRecDepth 100000 in
theorem paymasterref10_One.calls (k : Nat) (a0 : ByteArray) (r1 : ByteArray) (r2 : Int) (r3 : Int) (r4 : Bool) (r5 : Int) (w : World) (h : paymasterref10_One.f k a0 = some (r1, r2, r3, r4, r5)) :
    Calls Tryd.prog 83 #[.string a0] w fun e w' => e = .returned (.tuple #[.agg #[.string r1, .int .u64 r2, .int .u64 r3], .bool r4, .int .i64 r5]) ∧ Below w.heap.size w w' := by
  have hu44 := Tryd.underlying44
  have HB := Aside0.mk (Below.refl w.heap.size w)
  have H : ((paymasterref09_Wrong.f k a0).bind fun t455 => (if t455 = 0 then (if (a0.size : Int) = 0 then (some ((⟨#[]⟩ : ByteArray), 0, 0, false, 0)) else (if 0 < (a0.size : Int) then (if (bt a0 0) = 35 then (some ((⟨#[]⟩ : ByteArray), 0, 0, false, 0)) else ((paymasterref10_Parse.f k a0).bind fun bt456 => (some (bt456.1, bt456.2.1, bt456.2.2.1, (bt456.2.2.2 == 0), bt456.2.2.2)))) else (none))) else (some ((⟨#[]⟩ : ByteArray), 0, 0, false, t455)))) = some (r1, r2, r3, r4, r5) := h
  clear h
  replace H := Option.bind_eq_some_iff.mp H
  obtain ⟨t455, A20, H⟩ := H
  replace H : (if t455 = 0 then (if (a0.size : Int) = 0 then (some ((⟨#[]⟩ : ByteArray), 0, 0, false, 0)) else (if 0 < (a0.size : Int) then (if (bt a0 0) = 35 then (some ((⟨#[]⟩ : ByteArray), 0, 0, false, 0)) else ((paymasterref10_Parse.f k a0).bind fun bt456 => (some (bt456.1, bt456.2.1, bt456.2.2.1, (bt456.2.2.2 == 0), bt456.2.2.2)))) else (none))) else (some ((⟨#[]⟩ : ByteArray), 0, 0, false, t455))) = some (r1, r2, r3, r4, r5) := H
  have A2 := Aside0.mk A20
  clear A20
  by_cases c3 : t455 = 0
  · rw [if_pos c3] at H
    have c3b0 : (t455 == 0) = true := beq_iff_eq.mpr c3
    have c3b1 : (t455 != 0) = false := bne_eq_false_iff_eq.mpr c3
    clear c3
    by_cases c4 : (a0.size : Int) = 0
    · rw [if_pos c4] at H
      have c4b0 : ((a0.size : Int) == 0) = true := beq_iff_eq.mpr c4
      have c4b1 : ((a0.size : Int) != 0) = false := bne_eq_false_iff_eq.mpr c4
      clear c4
      simp only [Option.some.injEq, Prod.mk.injEq] at H
      obtain ⟨rfl, rfl, rfl, rfl, rfl⟩ := H
      go_enter Tryd.func83, Tryd.ntmps83
      go_wp2_with (first | ((with_reducible refine gate_dst (N := 2) rfl ?_); refine box_event ?hg (N := 2) ?hd (cs := #[.string (⟨#[]⟩ : ByteArray), .int .u64 0, .int .u64 0]) (t := 44) ?hr ?_; (case hd => rfl); (case hg => rfl); (case hr => first | (go_simp; done) | (go_simp; rfl)); intro gb454 hg w5 hbox hb; have n0_ := Aside0.mk (below_step (by repeat (first | (with_reducible first | exact HB.out | apply below_alloc | apply pw_below_drewN | apply below_drew1) | exact HB.out)) hb); have n1_ := Aside0.mk (hbox); have n2_ := Aside0.mk ((by rw [hg]; exact (below_size (by repeat (first | (with_reducible first | exact HB.out | apply below_alloc | apply pw_below_drewN | apply below_drew1) | exact HB.out))) : w.heap.size ≤ gb454)); have n3_ := Aside0.mk ((by rw [hg]; exact (below_size (by repeat (first | (with_reducible first | exact HB.out | apply below_alloc | apply pw_below_drewN | apply below_drew1) | exact HB.out))) : w.heap.size ≤ gb454)); clear HB; have HB := n0_; have BK454 := n1_; have GW454 := n2_; have GE454 := n3_; clear n0_ n1_ n2_ n3_; clear hb hbox hg) | ((with_reducible refine gate_callee (f := 36) rfl ?_); refine goesL_ (some 9) rfl rfl Tryd.func36 (by kernel_rfl) rfl #[.string a0] rfl (by (try simp only [List.map_toArray, List.map_cons, List.map_nil]); first | done | rfl | (simp only [List.length_drop, List.length_take]; rfl)) ?_; (with_reducible refine (paymasterref09_Wrong.calls k a0 t455 _ A2.out).mono ?_); rintro e w6 ⟨rfl, hb⟩; refine ⟨_, rfl, ?_⟩; have n0_ := Aside0.mk (blk_below (g := gb454) (o := .cells #[.string (⟨#[]⟩ : ByteArray), .int .u64 0, .int .u64 0] 44 (0, 0)) (by (with_reducible repeat (first | refine blk_drewN ?_ _ | refine blk_drew ?_ | refine blk_alloc ?_ _)); exact BK454.out) hb); have n1_ := Aside0.mk (below_step (by repeat (first | (with_reducible first | exact HB.out | apply below_alloc | apply pw_below_drewN | apply below_drew1 | refine below_set ?_ GE454.out) | exact HB.out)) hb); clear BK454; clear HB; have BK454 := n0_; have HB := n1_; clear n0_ n1_; (try clear hb); (try clear hb2); (try clear hk); (try clear hi); have hcz7_0 : w6.cell? ⟨gb454, 0, none⟩ = some (.string (⟨#[]⟩ : ByteArray)) := (blk_cell BK454.out 0).trans rfl; have hcz7_1 : w6.cell? ⟨gb454, 1, none⟩ = some (.int .u64 0) := (blk_cell BK454.out 1).trans rfl; have hcz7_2 : w6.cell? ⟨gb454, 2, none⟩ = some (.int .u64 0) := (blk_cell BK454.out 2).trans rfl; have hfz7_0 := blk_frozen BK454.out 0; have hfz7_1 := blk_frozen BK454.out 1; have hfz7_2 := blk_frozen BK454.out 2))
      refine bodyPost_ret (results_ctt rfl _ _ gb454 44 #[.string (⟨#[]⟩ : ByteArray), .int .u64 0, .int .u64 0] (0, 0) _ rfl (by (with_reducible repeat (first | refine blk_drewN ?_ _ | refine blk_drew ?_ | refine blk_alloc ?_ _)); refine blk_put (cs := #[.string (⟨#[]⟩ : ByteArray), .int .u64 0, .int .u64 0]) ?_ 2 _ rfl; (with_reducible repeat (first | refine blk_drewN ?_ _ | refine blk_drew ?_ | refine blk_alloc ?_ _)); refine blk_put (cs := #[.string (⟨#[]⟩ : ByteArray), .int .u64 0, .int .u64 0]) ?_ 1 _ rfl; (with_reducible repeat (first | refine blk_drewN ?_ _ | refine blk_drew ?_ | refine blk_alloc ?_ _)); refine blk_put (cs := #[.string (⟨#[]⟩ : ByteArray), .int .u64 0, .int .u64 0]) ?_ 0 _ rfl; (with_reducible repeat (first | refine blk_drewN ?_ _ | refine blk_drew ?_ | refine blk_alloc ?_ _)); exact BK454.out) Tryd.underlying44 rfl (by kernel_rfl)) rfl ?_
      exact ⟨by first | rfl | (simp [errW_none, errW_some] <;> rfl) | (simp [*, errW_none, errW_some] <;> rfl), by repeat (first | (with_reducible first | exact HB.out | apply below_alloc | apply pw_below_drewN | apply below_drew1 | refine below_set ?_ GE454.out) | exact HB.out)⟩
    · rw [if_neg c4] at H
      have c4b0 : ((a0.size : Int) == 0) = false := beq_eq_false_iff_ne.mpr c4
      have c4b1 : ((a0.size : Int) != 0) = true := bne_iff_ne.mpr c4
      by_cases c8 : 0 < (a0.size : Int)
      · rw [if_pos c8] at H
        have c8b0 : decide (0 < (a0.size : Int)) = true := decide_eq_true c8
        have c8b1 : decide (0 < a0.size) = true := decide_eq_true (by omega)
        clear c8
        by_cases c10 : (bt a0 0) = 35
        · rw [if_pos c10] at H
          have c10b0 : ((bt a0 0) == 35) = true := beq_iff_eq.mpr c10
          have c10b1 : ((bt a0 0) != 35) = false := bne_eq_false_iff_eq.mpr c10
          clear c10
          simp only [Option.some.injEq, Prod.mk.injEq] at H
          obtain ⟨rfl, rfl, rfl, rfl, rfl⟩ := H
          go_enter Tryd.func83, Tryd.ntmps83
          go_wp2_with (first | ((with_reducible refine gate_dst (N := 2) rfl ?_); refine box_event ?hg (N := 2) ?hd (cs := #[.string (⟨#[]⟩ : ByteArray), .int .u64 0, .int .u64 0]) (t := 44) ?hr ?_; (case hd => rfl); (case hg => rfl); (case hr => first | (go_simp; done) | (go_simp; rfl)); intro gb454 hg w11 hbox hb; have n0_ := Aside0.mk (below_step (by repeat (first | (with_reducible first | exact HB.out | apply below_alloc | apply pw_below_drewN | apply below_drew1) | exact HB.out)) hb); have n1_ := Aside0.mk (hbox); have n2_ := Aside0.mk ((by rw [hg]; exact (below_size (by repeat (first | (with_reducible first | exact HB.out | apply below_alloc | apply pw_below_drewN | apply below_drew1) | exact HB.out))) : w.heap.size ≤ gb454)); have n3_ := Aside0.mk ((by rw [hg]; exact (below_size (by repeat (first | (with_reducible first | exact HB.out | apply below_alloc | apply pw_below_drewN | apply below_drew1) | exact HB.out))) : w.heap.size ≤ gb454)); clear HB; have HB := n0_; have BK454 := n1_; have GW454 := n2_; have GE454 := n3_; clear n0_ n1_ n2_ n3_; clear hb hbox hg) | ((with_reducible refine gate_callee (f := 36) rfl ?_); refine goesL_ (some 9) rfl rfl Tryd.func36 (by kernel_rfl) rfl #[.string a0] rfl (by (try simp only [List.map_toArray, List.map_cons, List.map_nil]); first | done | rfl | (simp only [List.length_drop, List.length_take]; rfl)) ?_; (with_reducible refine (paymasterref09_Wrong.calls k a0 t455 _ A2.out).mono ?_); rintro e w12 ⟨rfl, hb⟩; refine ⟨_, rfl, ?_⟩; have n0_ := Aside0.mk (blk_below (g := gb454) (o := .cells #[.string (⟨#[]⟩ : ByteArray), .int .u64 0, .int .u64 0] 44 (0, 0)) (by (with_reducible repeat (first | refine blk_drewN ?_ _ | refine blk_drew ?_ | refine blk_alloc ?_ _)); exact BK454.out) hb); have n1_ := Aside0.mk (below_step (by repeat (first | (with_reducible first | exact HB.out | apply below_alloc | apply pw_below_drewN | apply below_drew1 | refine below_set ?_ GE454.out) | exact HB.out)) hb); clear BK454; clear HB; have BK454 := n0_; have HB := n1_; clear n0_ n1_; (try clear hb); (try clear hb2); (try clear hk); (try clear hi); have p9 : 0 ≤ (0 : Int) := (by omega); have q9 : 0 < a0.size := (by have : (0 : Int) < (a0.size : Int) := of_decide_eq_true (by first | (with_reducible assumption) | assumption); omega); have hx9 : ∀ h : 0 < a0.size, ((a0[0]'h).toNat : Int) = bt a0 0 := bt_at a0 0; clear p9; have qi9 : (0 < (a0.size : Int)) = True := eq_true (of_decide_eq_true (by first | (with_reducible assumption) | assumption)); replace q9 := eq_true q9; have hcz13_0 : w12.cell? ⟨gb454, 0, none⟩ = some (.string (⟨#[]⟩ : ByteArray)) := (blk_cell BK454.out 0).trans rfl; have hcz13_1 : w12.cell? ⟨gb454, 1, none⟩ = some (.int .u64 0) := (blk_cell BK454.out 1).trans rfl; have hcz13_2 : w12.cell? ⟨gb454, 2, none⟩ = some (.int .u64 0) := (blk_cell BK454.out 2).trans rfl; have hfz13_0 := blk_frozen BK454.out 0; have hfz13_1 := blk_frozen BK454.out 1; have hfz13_2 := blk_frozen BK454.out 2))
          refine bodyPost_ret (results_ctt rfl _ _ gb454 44 #[.string (⟨#[]⟩ : ByteArray), .int .u64 0, .int .u64 0] (0, 0) _ rfl (by (with_reducible repeat (first | refine blk_drewN ?_ _ | refine blk_drew ?_ | refine blk_alloc ?_ _)); refine blk_put (cs := #[.string (⟨#[]⟩ : ByteArray), .int .u64 0, .int .u64 0]) ?_ 2 _ rfl; (with_reducible repeat (first | refine blk_drewN ?_ _ | refine blk_drew ?_ | refine blk_alloc ?_ _)); refine blk_put (cs := #[.string (⟨#[]⟩ : ByteArray), .int .u64 0, .int .u64 0]) ?_ 1 _ rfl; (with_reducible repeat (first | refine blk_drewN ?_ _ | refine blk_drew ?_ | refine blk_alloc ?_ _)); refine blk_put (cs := #[.string (⟨#[]⟩ : ByteArray), .int .u64 0, .int .u64 0]) ?_ 0 _ rfl; (with_reducible repeat (first | refine blk_drewN ?_ _ | refine blk_drew ?_ | refine blk_alloc ?_ _)); exact BK454.out) Tryd.underlying44 rfl (by kernel_rfl)) rfl ?_
          exact ⟨by first | rfl | (simp [errW_none, errW_some] <;> rfl) | (simp [*, errW_none, errW_some] <;> rfl), by repeat (first | (with_reducible first | exact HB.out | apply below_alloc | apply pw_below_drewN | apply below_drew1 | refine below_set ?_ GE454.out) | exact HB.out)⟩
        · rw [if_neg c10] at H
          have c10b0 : ((bt a0 0) == 35) = false := beq_eq_false_iff_ne.mpr c10
          have c10b1 : ((bt a0 0) != 35) = true := bne_iff_ne.mpr c10
          replace H := Option.bind_eq_some_iff.mp H
          obtain ⟨⟨t456, t457, t458, t459⟩, A140, H⟩ := H
          replace H : (some (t456, t457, t458, (t459 == 0), t459)) = some (r1, r2, r3, r4, r5) := H
          have A14 := Aside0.mk A140
          clear A140
          simp only [Option.some.injEq, Prod.mk.injEq] at H
          obtain ⟨rfl, rfl, rfl, rfl, rfl⟩ := H
          go_enter Tryd.func83, Tryd.ntmps83
          go_wp2_with (first | ((with_reducible refine gate_dst (N := 2) rfl ?_); refine box_event ?hg (N := 2) ?hd (cs := #[.string (⟨#[]⟩ : ByteArray), .int .u64 0, .int .u64 0]) (t := 44) ?hr ?_; (case hd => rfl); (case hg => rfl); (case hr => first | (go_simp; done) | (go_simp; rfl)); intro gb454 hg w15 hbox hb; have n0_ := Aside0.mk (below_step (by repeat (first | (with_reducible first | exact HB.out | apply below_alloc | apply pw_below_drewN | apply below_drew1) | exact HB.out)) hb); have n1_ := Aside0.mk (hbox); have n2_ := Aside0.mk ((by rw [hg]; exact (below_size (by repeat (first | (with_reducible first | exact HB.out | apply below_alloc | apply pw_below_drewN | apply below_drew1) | exact HB.out))) : w.heap.size ≤ gb454)); have n3_ := Aside0.mk ((by rw [hg]; exact (below_size (by repeat (first | (with_reducible first | exact HB.out | apply below_alloc | apply pw_below_drewN | apply below_drew1) | exact HB.out))) : w.heap.size ≤ gb454)); clear HB; have HB := n0_; have BK454 := n1_; have GW454 := n2_; have GE454 := n3_; clear n0_ n1_ n2_ n3_; clear hb hbox hg) | ((with_reducible refine gate_callee (f := 36) rfl ?_); refine goesL_ (some 9) rfl rfl Tryd.func36 (by kernel_rfl) rfl #[.string a0] rfl (by (try simp only [List.map_toArray, List.map_cons, List.map_nil]); first | done | rfl | (simp only [List.length_drop, List.length_take]; rfl)) ?_; (with_reducible refine (paymasterref09_Wrong.calls k a0 t455 _ A2.out).mono ?_); rintro e w16 ⟨rfl, hb⟩; refine ⟨_, rfl, ?_⟩; have n0_ := Aside0.mk (blk_below (g := gb454) (o := .cells #[.string (⟨#[]⟩ : ByteArray), .int .u64 0, .int .u64 0] 44 (0, 0)) (by (with_reducible repeat (first | refine blk_drewN ?_ _ | refine blk_drew ?_ | refine blk_alloc ?_ _)); exact BK454.out) hb); have n1_ := Aside0.mk (below_step (by repeat (first | (with_reducible first | exact HB.out | apply below_alloc | apply pw_below_drewN | apply below_drew1 | refine below_set ?_ GE454.out) | exact HB.out)) hb); clear BK454; clear HB; have BK454 := n0_; have HB := n1_; clear n0_ n1_; (try clear hb); (try clear hb2); (try clear hk); (try clear hi); have p9 : 0 ≤ (0 : Int) := (by omega); have q9 : 0 < a0.size := (by have : (0 : Int) < (a0.size : Int) := of_decide_eq_true (by first | (with_reducible assumption) | assumption); omega); have hx9 : ∀ h : 0 < a0.size, ((a0[0]'h).toNat : Int) = bt a0 0 := bt_at a0 0; clear p9; have qi9 : (0 < (a0.size : Int)) = True := eq_true (of_decide_eq_true (by first | (with_reducible assumption) | assumption)); replace q9 := eq_true q9) | ((with_reducible refine gate_callee (f := 44) rfl ?_); refine goesL_ (some 25) rfl rfl Tryd.func44 (by kernel_rfl) rfl #[.string a0] rfl (by (try simp only [List.map_toArray, List.map_cons, List.map_nil]); first | done | rfl | (simp only [List.length_drop, List.length_take]; rfl)) ?_; (with_reducible refine (paymasterref10_Parse.calls k a0 t456 t457 t458 t459 _ A14.out).mono ?_); rintro e w17 ⟨rfl, hb⟩; refine ⟨_, rfl, ?_⟩; have n0_ := Aside0.mk (blk_below (g := gb454) (o := .cells #[.string (⟨#[]⟩ : ByteArray), .int .u64 0, .int .u64 0] 44 (0, 0)) (by (with_reducible repeat (first | refine blk_drewN ?_ _ | refine blk_drew ?_ | refine blk_alloc ?_ _)); exact BK454.out) hb); have n1_ := Aside0.mk (below_step (by repeat (first | (with_reducible first | exact HB.out | apply below_alloc | apply pw_below_drewN | apply below_drew1 | refine below_set ?_ GE454.out) | exact HB.out)) hb); clear BK454; clear HB; have BK454 := n0_; have HB := n1_; clear n0_ n1_; (try clear hb); (try clear hb2); (try clear hk); (try clear hi)) | ((with_reducible refine gate_dst (N := 6) rfl ?_); refine box_event ?hg (N := 6) ?hd (cs := #[.string (⟨#[]⟩ : ByteArray), .int .u64 0, .int .u64 0]) (t := 44) ?hr ?_; (case hd => rfl); (case hg => rfl); (case hr => first | (go_simp; done) | (go_simp; rfl)); intro gb460 hg w18 hbox hb; have n0_ := Aside0.mk (blk_below (g := gb454) (o := .cells #[.string (⟨#[]⟩ : ByteArray), .int .u64 0, .int .u64 0] 44 (0, 0)) (by (with_reducible repeat (first | refine blk_drewN ?_ _ | refine blk_drew ?_ | refine blk_alloc ?_ _)); exact BK454.out) hb); have n1_ := Aside0.mk (below_step (by repeat (first | (with_reducible first | exact HB.out | apply below_alloc | apply pw_below_drewN | apply below_drew1 | refine below_set ?_ GE454.out) | exact HB.out)) hb); have n2_ := Aside0.mk (hbox); have n3_ := Aside0.mk ((by rw [hg]; exact (below_size (by repeat (first | (with_reducible first | exact HB.out | apply below_alloc | apply pw_below_drewN | apply below_drew1 | refine below_set ?_ GE454.out) | exact HB.out))) : w.heap.size ≤ gb460)); have n4_ := Aside0.mk ((by rw [hg]; exact (below_size (by repeat (first | (with_reducible first | exact HB.out | apply below_alloc | apply pw_below_drewN | apply below_drew1 | refine below_set ?_ GE454.out) | exact HB.out))) : w.heap.size ≤ gb460)); have n5_ := Aside0.mk ((by rw [hg]; exact Nat.ne_of_lt (blk_lt (g := gb454) (o := .cells #[.string (⟨#[]⟩ : ByteArray), .int .u64 0, .int .u64 0] 44 (0, 0)) (by (with_reducible repeat (first | refine blk_drewN ?_ _ | refine blk_drew ?_ | refine blk_alloc ?_ _)); exact BK454.out)) : gb454 ≠ gb460)); have n6_ := Aside0.mk ((by rw [hg]; exact Nat.ne_of_gt (blk_lt (g := gb454) (o := .cells #[.string (⟨#[]⟩ : ByteArray), .int .u64 0, .int .u64 0] 44 (0, 0)) (by (with_reducible repeat (first | refine blk_drewN ?_ _ | refine blk_drew ?_ | refine blk_alloc ?_ _)); exact BK454.out)) : gb460 ≠ gb454)); clear BK454; clear HB; have BK454 := n0_; have HB := n1_; have BK460 := n2_; have GW460 := n3_; have GE460 := n4_; have NB454_460 := n5_; have NB460_454 := n6_; clear n0_ n1_ n2_ n3_ n4_ n5_ n6_; clear hb hbox hg; have hnb19 := NB460_454.out; have hnc19 := NB454_460.out; have hcz20_0 : w18.cell? ⟨gb460, 0, none⟩ = some (.string (⟨#[]⟩ : ByteArray)) := (blk_cell BK460.out 0).trans rfl; have hcz20_1 : w18.cell? ⟨gb460, 1, none⟩ = some (.int .u64 0) := (blk_cell BK460.out 1).trans rfl; have hcz20_2 : w18.cell? ⟨gb460, 2, none⟩ = some (.int .u64 0) := (blk_cell BK460.out 2).trans rfl; have hfz20_0 := blk_frozen BK460.out 0; have hfz20_1 := blk_frozen BK460.out 1; have hfz20_2 := blk_frozen BK460.out 2; have hcz21_0 : w18.cell? ⟨gb454, 0, none⟩ = some (.string (⟨#[]⟩ : ByteArray)) := (blk_cell BK454.out 0).trans rfl; have hcz21_1 : w18.cell? ⟨gb454, 1, none⟩ = some (.int .u64 0) := (blk_cell BK454.out 1).trans rfl; have hcz21_2 : w18.cell? ⟨gb454, 2, none⟩ = some (.int .u64 0) := (blk_cell BK454.out 2).trans rfl; have hfz21_0 := blk_frozen BK454.out 0; have hfz21_1 := blk_frozen BK454.out 1; have hfz21_2 := blk_frozen BK454.out 2))
          refine bodyPost_ret (results_ctt rfl _ _ gb454 44 #[.string t456, .int .u64 t457, .int .u64 t458] (0, 0) _ rfl (by (with_reducible repeat (first | refine blk_drewN ?_ _ | refine blk_drew ?_ | refine blk_alloc ?_ _)); refine blk_put (cs := #[.string t456, .int .u64 t457, .int .u64 0]) ?_ 2 _ rfl; (with_reducible repeat (first | refine blk_drewN ?_ _ | refine blk_drew ?_ | refine blk_alloc ?_ _)); refine blk_put (cs := #[.string t456, .int .u64 0, .int .u64 0]) ?_ 1 _ rfl; (with_reducible repeat (first | refine blk_drewN ?_ _ | refine blk_drew ?_ | refine blk_alloc ?_ _)); refine blk_put (cs := #[.string (⟨#[]⟩ : ByteArray), .int .u64 0, .int .u64 0]) ?_ 0 _ rfl; (with_reducible repeat (first | refine blk_drewN ?_ _ | refine blk_drew ?_ | refine blk_alloc ?_ _)); refine blk_far ?_ NB454_460.out _; (with_reducible repeat (first | refine blk_drewN ?_ _ | refine blk_drew ?_ | refine blk_alloc ?_ _)); refine blk_far ?_ NB454_460.out _; (with_reducible repeat (first | refine blk_drewN ?_ _ | refine blk_drew ?_ | refine blk_alloc ?_ _)); refine blk_far ?_ NB454_460.out _; (with_reducible repeat (first | refine blk_drewN ?_ _ | refine blk_drew ?_ | refine blk_alloc ?_ _)); exact BK454.out) Tryd.underlying44 rfl (by kernel_rfl)) rfl ?_
          exact ⟨by first | rfl | (simp [errW_none, errW_some] <;> rfl) | (simp [*, errW_none, errW_some] <;> rfl), by repeat (first | (with_reducible first | exact HB.out | apply below_alloc | apply pw_below_drewN | apply below_drew1 | refine below_set ?_ GE454.out | refine below_set ?_ GE460.out) | exact HB.out)⟩
      · rw [if_neg c8] at H
        exact absurd H (by simp)
  · rw [if_neg c3] at H
    have c3b0 : (t455 == 0) = false := beq_eq_false_iff_ne.mpr c3
    have c3b1 : (t455 != 0) = true := bne_iff_ne.mpr c3
    simp only [Option.some.injEq, Prod.mk.injEq] at H
    obtain ⟨rfl, rfl, rfl, rfl, rfl⟩ := H
    go_enter Tryd.func83, Tryd.ntmps83
    go_wp2_with (first | ((with_reducible refine gate_dst (N := 2) rfl ?_); refine box_event ?hg (N := 2) ?hd (cs := #[.string (⟨#[]⟩ : ByteArray), .int .u64 0, .int .u64 0]) (t := 44) ?hr ?_; (case hd => rfl); (case hg => rfl); (case hr => first | (go_simp; done) | (go_simp; rfl)); intro gb454 hg w22 hbox hb; have n0_ := Aside0.mk (below_step (by repeat (first | (with_reducible first | exact HB.out | apply below_alloc | apply pw_below_drewN | apply below_drew1) | exact HB.out)) hb); have n1_ := Aside0.mk (hbox); have n2_ := Aside0.mk ((by rw [hg]; exact (below_size (by repeat (first | (with_reducible first | exact HB.out | apply below_alloc | apply pw_below_drewN | apply below_drew1) | exact HB.out))) : w.heap.size ≤ gb454)); have n3_ := Aside0.mk ((by rw [hg]; exact (below_size (by repeat (first | (with_reducible first | exact HB.out | apply below_alloc | apply pw_below_drewN | apply below_drew1) | exact HB.out))) : w.heap.size ≤ gb454)); clear HB; have HB := n0_; have BK454 := n1_; have GW454 := n2_; have GE454 := n3_; clear n0_ n1_ n2_ n3_; clear hb hbox hg) | ((with_reducible refine gate_callee (f := 36) rfl ?_); refine goesL_ (some 9) rfl rfl Tryd.func36 (by kernel_rfl) rfl #[.string a0] rfl (by (try simp only [List.map_toArray, List.map_cons, List.map_nil]); first | done | rfl | (simp only [List.length_drop, List.length_take]; rfl)) ?_; (with_reducible refine (paymasterref09_Wrong.calls k a0 t455 _ A2.out).mono ?_); rintro e w23 ⟨rfl, hb⟩; refine ⟨_, rfl, ?_⟩; have n0_ := Aside0.mk (blk_below (g := gb454) (o := .cells #[.string (⟨#[]⟩ : ByteArray), .int .u64 0, .int .u64 0] 44 (0, 0)) (by (with_reducible repeat (first | refine blk_drewN ?_ _ | refine blk_drew ?_ | refine blk_alloc ?_ _)); exact BK454.out) hb); have n1_ := Aside0.mk (below_step (by repeat (first | (with_reducible first | exact HB.out | apply below_alloc | apply pw_below_drewN | apply below_drew1 | refine below_set ?_ GE454.out) | exact HB.out)) hb); clear BK454; clear HB; have BK454 := n0_; have HB := n1_; clear n0_ n1_; (try clear hb); (try clear hb2); (try clear hk); (try clear hi); have hcz24_0 : w23.cell? ⟨gb454, 0, none⟩ = some (.string (⟨#[]⟩ : ByteArray)) := (blk_cell BK454.out 0).trans rfl; have hcz24_1 : w23.cell? ⟨gb454, 1, none⟩ = some (.int .u64 0) := (blk_cell BK454.out 1).trans rfl; have hcz24_2 : w23.cell? ⟨gb454, 2, none⟩ = some (.int .u64 0) := (blk_cell BK454.out 2).trans rfl; have hfz24_0 := blk_frozen BK454.out 0; have hfz24_1 := blk_frozen BK454.out 1; have hfz24_2 := blk_frozen BK454.out 2))
    refine bodyPost_ret (results_ctt rfl _ _ gb454 44 #[.string (⟨#[]⟩ : ByteArray), .int .u64 0, .int .u64 0] (0, 0) _ rfl (by (with_reducible repeat (first | refine blk_drewN ?_ _ | refine blk_drew ?_ | refine blk_alloc ?_ _)); refine blk_put (cs := #[.string (⟨#[]⟩ : ByteArray), .int .u64 0, .int .u64 0]) ?_ 2 _ rfl; (with_reducible repeat (first | refine blk_drewN ?_ _ | refine blk_drew ?_ | refine blk_alloc ?_ _)); refine blk_put (cs := #[.string (⟨#[]⟩ : ByteArray), .int .u64 0, .int .u64 0]) ?_ 1 _ rfl; (with_reducible repeat (first | refine blk_drewN ?_ _ | refine blk_drew ?_ | refine blk_alloc ?_ _)); refine blk_put (cs := #[.string (⟨#[]⟩ : ByteArray), .int .u64 0, .int .u64 0]) ?_ 0 _ rfl; (with_reducible repeat (first | refine blk_drewN ?_ _ | refine blk_drew ?_ | refine blk_alloc ?_ _)); exact BK454.out) Tryd.underlying44 rfl (by kernel_rfl)) rfl ?_
    exact ⟨by first | rfl | (simp [errW_none, errW_some] <;> rfl) | (simp [*, errW_none, errW_some] <;> rfl), by repeat (first | (with_reducible first | exact HB.out | apply below_alloc | apply pw_below_drewN | apply below_drew1 | refine below_set ?_ GE454.out) | exact HB.out)⟩
def paymasterref10_All.l0 : Nat → List ByteArray → List (S44) → Int → Option ((List (S44)) × Int × Int)
  | 0, _, _, _ => none
  | k + 1, x5, x6, x7 => if x7 < (x5.length : Int) then (if 0 ≤ x7 then ((paymasterref10_One.f k (rdOf ByteArray.empty x5 x7)).bind fun bt465 => (if bt465.2.2.2.2 = 0 then (if bt465.2.2.2.1 = true then (if x6.length < 4398046511104 then (paymasterref10_All.l0 k x5 (x6 ++ [(⟨bt465.1, (⟨bt465.2.1, bt465.2.2.1⟩ : S42)⟩ : S44)]) (wrap64 (x7 + 1))) else (none)) else (paymasterref10_All.l0 k x5 x6 (wrap64 (x7 + 1)))) else (some (([] : List (S44)), wrap64 (x7 + 1), bt465.2.2.2.2)))) else (none)) else (some (x6, 0, 0))
def paymasterref10_All.f (k : Nat) (a0 : ByteArray) : Option ((List (S44)) × Int × Int) := (paymasterref09_Split.f k a0).bind fun t461 => (paymasterref10_All.l0 k t461 ([] : List (S44)) 0)
set_option maxHeartbeats 8000000 in
set_option maxRecDepth 100000 in
theorem paymasterref10_All.calls (k : Nat) (a0 : ByteArray) (r1 : List (S44)) (r2 : Int) (r3 : Int) (w : World) (h : paymasterref10_All.f k a0 = some (r1, r2, r3)) :
    Calls Tryd.prog 46 #[.string a0] w fun e w' => ∃ v0_ : Value, e = .returned (.tuple #[v0_, .int .i64 r2, .int .i64 r3]) ∧ Kd.R k44 44 w' w.heap.size (fun _ => True) v0_ r1 ∧ Below w.heap.size w w' := by
  have hu44 := Tryd.underlying44
  have HB := Aside0.mk (Below.refl w.heap.size w)
  have H : ((paymasterref09_Split.f k a0).bind fun t461 => (paymasterref10_All.l0 k t461 ([] : List (S44)) 0)) = some (r1, r2, r3) := h
  clear h
  replace H := Option.bind_eq_some_iff.mp H
  obtain ⟨t461, A20, H⟩ := H
  replace H : (paymasterref10_All.l0 k t461 ([] : List (S44)) 0) = some (r1, r2, r3) := H
  have A2 := Aside0.mk A20
  clear A20
  have H' := Aside0.mk H
  clear H
  go_enter Tryd.func46, Tryd.ntmps46
  go_wp2_with (first | ((with_reducible refine gate_callee (f := 33) rfl ?_); refine goesL_ (some 12) rfl rfl Tryd.func33 (by kernel_rfl) rfl #[.string a0] rfl (by (try simp only [List.map_toArray, List.map_cons, List.map_nil]); first | done | rfl | (simp only [List.length_drop, List.length_take]; rfl)) ?_; (with_reducible refine (paymasterref09_Split.calls k a0 t461 _ A2.out).mono ?_); rintro e w3 ⟨v462, rfl, ho0, hb⟩; refine ⟨_, rfl, ?_⟩; have n0_ := Aside0.mk (Kd.R_lower ho0 (below_size (by repeat (first | (with_reducible first | exact HB.out | apply below_alloc | apply pw_below_drewN | apply below_drew1) | exact HB.out)))); have n1_ := Aside0.mk (below_step (by repeat (first | (with_reducible first | exact HB.out | apply below_alloc | apply pw_below_drewN | apply below_drew1) | exact HB.out)) hb); clear HB; have HO463 := n0_; have HB := n1_; clear n0_ n1_; (try clear hb); (try clear hb2); (try clear hk); (try clear hi); (try clear ho0)))
  go_loopg [6, 7] k (fun kq v6 v7 w' => ∃ (x6_1 : List (S44)) (x7_1 : Int), v7 = .int .i64 x7_1 ∧ Aside0 (paymasterref10_All.l0 kq t461 x6_1 x7_1 = some (r1, r2, r3)) ∧ Aside0 (kq ≤ k) ∧ Aside0 (Kd.R Kd.string 9 w' w.heap.size (fun _ => True) v462 t461) ∧ Aside0 (Kd.R k44 44 w' w.heap.size (fun _ => True) v6 x6_1) ∧ Aside0 (Below w.heap.size w w'))
  case atStart => exact ⟨(([] : List (S44))), (0), (by first | rfl | (simp; done) | (simp [*]; done)), H', ⟨Nat.le_refl _⟩, ⟨by (with_reducible repeat (first | apply Kd.R_alloc | apply Kd.R_drewN | apply Kd.R_drew)); exact HO463.out⟩, ⟨by first | exact Kd.R_nil _ _ _ _ _ | exact Kd.N_nil _ _ _ _ _ | exact Kd.V_nil _ _ _ _ _ | exact Kd.Q_nil _ _ _ _ _ | exact Kd.S_nil _ _ _ _ _⟩, ⟨by repeat (first | (with_reducible first | exact HB.out | apply below_alloc | apply pw_below_drewN | apply below_drew1) | exact HB.out)⟩⟩
  case round =>
    clear H'
    try clear p2
    try clear c3
    obtain ⟨x6_1, x7_1, rfl, HA, HK1, HO_5, HO_6, HB⟩ := hrel
    cases gk with
    | zero => exact absurd HA.out (by simp [paymasterref10_All.l0])
    | succ k1 =>
      have H := HA.out
      clear HA
      simp only [paymasterref10_All.l0] at H
      by_cases c4 : x7_1 < (t461.length : Int)
      · rw [if_pos c4] at H
        have c4b0 : decide (x7_1 < (t461.length : Int)) = true := decide_eq_true c4
        clear c4
        by_cases c5 : 0 ≤ x7_1
        · rw [if_pos c5] at H
          have c5b0 : decide (0 ≤ x7_1) = true := decide_eq_true c5
          clear c5
          replace H := Option.bind_eq_some_iff.mp H
          obtain ⟨⟨t465, t466, t467, t468, t469⟩, A60, H⟩ := H
          replace H : (if t469 = 0 then (if t468 = true then (if x6_1.length < 4398046511104 then (paymasterref10_All.l0 k1 t461 (x6_1 ++ [(⟨t465, (⟨t466, t467⟩ : S42)⟩ : S44)]) (wrap64 (x7_1 + 1))) else (none)) else (paymasterref10_All.l0 k1 t461 x6_1 (wrap64 (x7_1 + 1)))) else (some (([] : List (S44)), wrap64 (x7_1 + 1), t469))) = some (r1, r2, r3) := H
          have A6 := Aside0.mk A60
          clear A60
          by_cases c7 : t469 = 0
          · rw [if_pos c7] at H
            have c7b0 : (t469 == 0) = true := beq_iff_eq.mpr c7
            have c7b1 : (t469 != 0) = false := bne_eq_false_iff_eq.mpr c7
            clear c7
            by_cases c8 : t468 = true
            · subst c8
              have H1 : (if x6_1.length < 4398046511104 then (paymasterref10_All.l0 k1 t461 (x6_1 ++ [(⟨t465, (⟨t466, t467⟩ : S42)⟩ : S44)]) (wrap64 (x7_1 + 1))) else (none)) = some (r1, r2, r3) := by rw [if_pos rfl] at H; exact H
              clear H
              have H := H1
              clear H1
              by_cases c9 : x6_1.length < 4398046511104
              · rw [if_pos c9] at H
                have LMc9 := Aside0.mk c9
                clear c9
                obtain ⟨y471, hy471⟩ : ∃ y_ : List (S44), y_ = (x6_1 ++ [(⟨t465, (⟨t466, t467⟩ : S42)⟩ : S44)]) := ⟨_, rfl⟩
                replace H : (paymasterref10_All.l0 k1 t461 y471 (wrap64 (x7_1 + 1))) = some (r1, r2, r3) := by first | (rw [hy471]; with_reducible exact H) | (have H2_ := (Option.bind_some _ _).symm.trans H; rw [hy471]; with_reducible exact H2_) | (have H2_ := (Option.bind_some _ _).symm.trans H; with_reducible exact H2_) | with_reducible exact H | (rw [hy471]; exact H) | exact H
                have Ny471 := Aside0.mk hy471
                clear hy471
                have H' := Aside0.mk H
                clear H
                obtain ⟨Ao10, co10, eo10⟩ := Kd.R_slice HO_5.out
                subst eo10
                have p464 : 0 ≤ (x7_1 : Int) := of_decide_eq_true (by first | (with_reducible assumption) | assumption)
                have q464 : x7_1 < (t461.length : Int) := of_decide_eq_true (by first | (with_reducible assumption) | assumption)
                obtain ⟨ad464, e464, hx464_0⟩ := Kd.at_string (Kd.R_reads' HO_5.out).2.2 x7_1 p464 q464
                cases e464
                replace p464 := eq_true p464
                replace q464 := eq_true q464
                go_wp2_with (first | ((with_reducible refine gate_callee (f := 83) rfl ?_); refine goesL_ (some 24) rfl rfl Tryd.func83 (by kernel_rfl) rfl #[.string (rdOf ByteArray.empty t461 x7_1)] rfl (by (try simp only [List.map_toArray, List.map_cons, List.map_nil]); first | done | rfl | (simp only [List.length_drop, List.length_take]; rfl)) ?_; (with_reducible refine (paymasterref10_One.calls k1 (rdOf ByteArray.empty t461 x7_1) t465 t466 t467 true t469 _ A6.out).mono ?_); rintro e w11 ⟨rfl, hb⟩; refine ⟨_, rfl, ?_⟩; have n0_ := Aside0.mk (Kd.R_below (by (with_reducible repeat (first | apply Kd.R_alloc | apply Kd.R_drewN | apply Kd.R_drew)); exact HO_5.out) hb); have n1_ := Aside0.mk (Kd.R_below (by (with_reducible repeat (first | apply Kd.R_alloc | apply Kd.R_drewN | apply Kd.R_drew)); exact HO_6.out) hb); have n2_ := Aside0.mk (below_step (by repeat (first | (with_reducible first | exact HB.out | apply below_alloc | apply pw_below_drewN | apply below_drew1) | exact HB.out)) hb); clear HO_5; clear HO_6; clear HB; have HO_5 := n0_; have HO_6 := n1_; have HB := n2_; clear n0_ n1_ n2_; (try clear hb); (try clear hb2); (try clear hk); (try clear hi)) | ((with_reducible refine gate_dst (N := 8) rfl ?_); refine box_event ?hg (N := 8) ?hd (cs := #[.string (⟨#[]⟩ : ByteArray), .int .u64 0, .int .u64 0]) (t := 44) ?hr ?_; (case hd => rfl); (case hg => rfl); (case hr => first | (go_simp; done) | (go_simp; rfl)); intro gb470 hg w12 hbox hb; have n0_ := Aside0.mk (Kd.R_below (by (with_reducible repeat (first | apply Kd.R_alloc | apply Kd.R_drewN | apply Kd.R_drew)); exact HO_5.out) hb); have n1_ := Aside0.mk (Kd.R_below (Kd.R_elderB (by (with_reducible repeat (first | apply Kd.R_alloc | apply Kd.R_drewN | apply Kd.R_drew)); exact HO_6.out) gb470 (Nat.le_of_eq hg.symm)) hb); have n2_ := Aside0.mk (below_step (by repeat (first | (with_reducible first | exact HB.out | apply below_alloc | apply pw_below_drewN | apply below_drew1) | exact HB.out)) hb); have n3_ := Aside0.mk (hbox); have n4_ := Aside0.mk ((by rw [hg]; exact (below_size (by repeat (first | (with_reducible first | exact HB.out | apply below_alloc | apply pw_below_drewN | apply below_drew1) | exact HB.out))) : w.heap.size ≤ gb470)); have n5_ := Aside0.mk ((by rw [hg]; exact (below_size (by repeat (first | (with_reducible first | exact HB.out | apply below_alloc | apply pw_below_drewN | apply below_drew1) | exact HB.out))) : w.heap.size ≤ gb470)); clear HO_5; clear HO_6; clear HB; have HO_5 := n0_; have HO_6 := n1_; have HB := n2_; have BK470 := n3_; have GW470 := n4_; have GE470 := n5_; clear n0_ n1_ n2_ n3_ n4_ n5_; clear hb hbox hg; have hcz13_0 : w12.cell? ⟨gb470, 0, none⟩ = some (.string (⟨#[]⟩ : ByteArray)) := (blk_cell BK470.out 0).trans rfl; have hcz13_1 : w12.cell? ⟨gb470, 1, none⟩ = some (.int .u64 0) := (blk_cell BK470.out 1).trans rfl; have hcz13_2 : w12.cell? ⟨gb470, 2, none⟩ = some (.int .u64 0) := (blk_cell BK470.out 2).trans rfl; have hfz13_0 := blk_frozen BK470.out 0; have hfz13_1 := blk_frozen BK470.out 1; have hfz13_2 := blk_frozen BK470.out 2) | ((with_reducible refine gate_builtin (b := .append) (xs := #[.tmp 34, .tmp 36]) rfl ?_); at_builtin; refine Kd.R_append k44 (w0 := w) w.heap.size rfl (.tmp 34) (.tmp 36) 34 44 (.agg #[(.string ⟨#[]⟩), (.int .u64 0), (.int .u64 0)]) 32 rfl Tryd.underlying34 info44 rfl (by decide) (by omega) u6 x6_1 (⟨t465, (⟨t466, t467⟩ : S42)⟩ : S44) [.string t465, .int .u64 t466, .int .u64 t467] (fun k_ => k_ ≠ gb470) (fun _ => False) rfl (by first | (go_simp; done) | (go_simp; rfl)) ?aP (fun _ hk => hk.elim) ?aF ?aO ?aB ?aS ?aL ?_; (case aP => exact k44_mkM _ _ _ (⟨t465, (⟨t466, t467⟩ : S42)⟩ : S44)); (case aB => exact (by repeat (first | (with_reducible first | exact HB.out | apply below_alloc | apply pw_below_drewN | apply below_drew1 | refine below_set ?_ GE470.out) | exact HB.out))); (case aF => exact (fun k_ hk => Kd.freshB (g := gb470) (o := .cells #[.string t465, .int .u64 t466, .int .u64 t467] 44 (0, 0)) (by (with_reducible repeat (first | refine blk_drewN ?_ _ | refine blk_drew ?_ | refine blk_alloc ?_ _)); refine blk_put (cs := #[.string t465, .int .u64 t466, .int .u64 0]) ?_ 2 _ rfl; (with_reducible repeat (first | refine blk_drewN ?_ _ | refine blk_drew ?_ | refine blk_alloc ?_ _)); refine blk_put (cs := #[.string t465, .int .u64 0, .int .u64 0]) ?_ 1 _ rfl; (with_reducible repeat (first | refine blk_drewN ?_ _ | refine blk_drew ?_ | refine blk_alloc ?_ _)); refine blk_put (cs := #[.string (⟨#[]⟩ : ByteArray), .int .u64 0, .int .u64 0]) ?_ 0 _ rfl; (with_reducible repeat (first | refine blk_drewN ?_ _ | refine blk_drew ?_ | refine blk_alloc ?_ _)); exact BK470.out) k_ hk)); (case aO => exact (by (with_reducible repeat (first | apply Kd.R_alloc | apply Kd.R_drewN | apply Kd.R_drew)); exact Kd.R_mono (Kd.R_far (p := ⟨gb470, 2, none⟩) (Kd.R_far (p := ⟨gb470, 1, none⟩) (Kd.R_far (p := ⟨gb470, 0, none⟩) (Kd.R_mono HO_6.out (fun k_ hk => (⟨hk, hk.2⟩ : _ ∧ k_ ≠ gb470))) (fun _ hk => hk.2) (.string t465)) (fun _ hk => hk.2) (.int .u64 t466)) (fun _ hk => hk.2) (.int .u64 t467)) (fun _ hk => hk.1.2))); (case aS => exact (below_size (by repeat (first | (with_reducible first | exact HB.out | apply below_alloc | apply pw_below_drewN | apply below_drew1 | refine below_set ?_ GE470.out) | exact HB.out)))); (case aL => have := LMc9.out; omega); intro v472 w14 ho hb hg hat; rw [← Ny471.out] at ho; have n0_ := Aside0.mk (Kd.R_over' (by (with_reducible repeat (first | apply Kd.R_alloc | apply Kd.R_drewN | apply Kd.R_drew)); exact (Kd.R_mono (Kd.R_far (p := ⟨gb470, 2, none⟩) (Kd.R_far (p := ⟨gb470, 1, none⟩) (Kd.R_far (p := ⟨gb470, 0, none⟩) (Kd.R_types HO_5.out BK470.out (by decide)) (fun _ hk => hk.2) (.string t465)) (fun _ hk => hk.2) (.int .u64 t466)) (fun _ hk => hk.2) (.int .u64 t467)) (fun _ h_ => h_.1))) (Kd.R_typed (by (with_reducible repeat (first | apply Kd.R_alloc | apply Kd.R_drewN | apply Kd.R_drew)); exact (Kd.R_mono (Kd.R_far (p := ⟨gb470, 2, none⟩) (Kd.R_far (p := ⟨gb470, 1, none⟩) (Kd.R_far (p := ⟨gb470, 0, none⟩) (Kd.R_mono HO_6.out (fun k_ hk => (⟨hk, hk.2⟩ : _ ∧ k_ ≠ gb470))) (fun _ hk => hk.2) (.string t465)) (fun _ hk => hk.2) (.int .u64 t466)) (fun _ hk => hk.2) (.int .u64 t467)) (fun _ h_ => h_.1)))) (by decide) hg); have n1_ := Aside0.mk (blk_grown (g := gb470) (o := .cells #[.string t465, .int .u64 t466, .int .u64 t467] 44 (0, 0)) (by (with_reducible repeat (first | refine blk_drewN ?_ _ | refine blk_drew ?_ | refine blk_alloc ?_ _)); refine blk_put (cs := #[.string t465, .int .u64 t466, .int .u64 0]) ?_ 2 _ rfl; (with_reducible repeat (first | refine blk_drewN ?_ _ | refine blk_drew ?_ | refine blk_alloc ?_ _)); refine blk_put (cs := #[.string t465, .int .u64 0, .int .u64 0]) ?_ 1 _ rfl; (with_reducible repeat (first | refine blk_drewN ?_ _ | refine blk_drew ?_ | refine blk_alloc ?_ _)); refine blk_put (cs := #[.string (⟨#[]⟩ : ByteArray), .int .u64 0, .int .u64 0]) ?_ 0 _ rfl; (with_reducible repeat (first | refine blk_drewN ?_ _ | refine blk_drew ?_ | refine blk_alloc ?_ _)); exact BK470.out) hg (Kd.R_away HO_6.out (fun _ hk => hk.2))); have n2_ := Aside0.mk (hb); have n3_ := Aside0.mk (ho); clear HO_5; clear BK470; clear HB; clear HO_6; have HO_5 := n0_; have BK470 := n1_; have HB := n2_; have HO473 := n3_; clear n0_ n1_ n2_ n3_; clear ho hb hg hat))
                go_roundg k1
                case measure => have := HK1.out; omega
                case rel => exact ⟨(y471), (wrap64 (x7_1 + 1)), (by first | rfl | (simp; done) | (simp [*]; done)), H', ⟨by have := HK1.out; omega⟩, ⟨by (with_reducible repeat (first | apply Kd.R_alloc | apply Kd.R_drewN | apply Kd.R_drew)); exact HO_5.out⟩, ⟨by (with_reducible repeat (first | apply Kd.R_alloc | apply Kd.R_drewN | apply Kd.R_drew)); exact Kd.R_mono HO473.out (fun _ hk => trivial)⟩, ⟨by repeat (first | (with_reducible first | exact HB.out | apply below_alloc | apply pw_below_drewN | apply below_drew1 | refine below_set ?_ GE470.out) | exact HB.out)⟩⟩
              · rw [if_neg c9] at H
                exact absurd H (by simp)
            · replace c8 := Bool.eq_false_iff.mpr c8
              subst c8
              have H1 : (paymasterref10_All.l0 k1 t461 x6_1 (wrap64 (x7_1 + 1))) = some (r1, r2, r3) := by rw [if_neg (show ¬ (false = true) by decide)] at H; exact H
              clear H
              have H := H1
              clear H1
              have H' := Aside0.mk H
              clear H
              obtain ⟨Ao15, co15, eo15⟩ := Kd.R_slice HO_5.out
              subst eo15
              have p464 : 0 ≤ (x7_1 : Int) := of_decide_eq_true (by first | (with_reducible assumption) | assumption)
              have q464 : x7_1 < (t461.length : Int) := of_decide_eq_true (by first | (with_reducible assumption) | assumption)
              obtain ⟨ad464, e464, hx464_0⟩ := Kd.at_string (Kd.R_reads' HO_5.out).2.2 x7_1 p464 q464
              cases e464
              replace p464 := eq_true p464
              replace q464 := eq_true q464
              go_wp2_with (first | ((with_reducible refine gate_callee (f := 83) rfl ?_); refine goesL_ (some 24) rfl rfl Tryd.func83 (by kernel_rfl) rfl #[.string (rdOf ByteArray.empty t461 x7_1)] rfl (by (try simp only [List.map_toArray, List.map_cons, List.map_nil]); first | done | rfl | (simp only [List.length_drop, List.length_take]; rfl)) ?_; (with_reducible refine (paymasterref10_One.calls k1 (rdOf ByteArray.empty t461 x7_1) t465 t466 t467 false t469 _ A6.out).mono ?_); rintro e w16 ⟨rfl, hb⟩; refine ⟨_, rfl, ?_⟩; have n0_ := Aside0.mk (Kd.R_below (by (with_reducible repeat (first | apply Kd.R_alloc | apply Kd.R_drewN | apply Kd.R_drew)); exact HO_5.out) hb); have n1_ := Aside0.mk (Kd.R_below (by (with_reducible repeat (first | apply Kd.R_alloc | apply Kd.R_drewN | apply Kd.R_drew)); exact HO_6.out) hb); have n2_ := Aside0.mk (below_step (by repeat (first | (with_reducible first | exact HB.out | apply below_alloc | apply pw_below_drewN | apply below_drew1) | exact HB.out)) hb); clear HO_5; clear HO_6; clear HB; have HO_5 := n0_; have HO_6 := n1_; have HB := n2_; clear n0_ n1_ n2_; (try clear hb); (try clear hb2); (try clear hk); (try clear hi)) | ((with_reducible refine gate_dst (N := 8) rfl ?_); refine box_event ?hg (N := 8) ?hd (cs := #[.string (⟨#[]⟩ : ByteArray), .int .u64 0, .int .u64 0]) (t := 44) ?hr ?_; (case hd => rfl); (case hg => rfl); (case hr => first | (go_simp; done) | (go_simp; rfl)); intro gb470 hg w17 hbox hb; have n0_ := Aside0.mk (Kd.R_below (by (with_reducible repeat (first | apply Kd.R_alloc | apply Kd.R_drewN | apply Kd.R_drew)); exact HO_5.out) hb); have n1_ := Aside0.mk (Kd.R_below (Kd.R_elderB (by (with_reducible repeat (first | apply Kd.R_alloc | apply Kd.R_drewN | apply Kd.R_drew)); exact HO_6.out) gb470 (Nat.le_of_eq hg.symm)) hb); have n2_ := Aside0.mk (below_step (by repeat (first | (with_reducible first | exact HB.out | apply below_alloc | apply pw_below_drewN | apply below_drew1) | exact HB.out)) hb); have n3_ := Aside0.mk (hbox); have n4_ := Aside0.mk ((by rw [hg]; exact (below_size (by repeat (first | (with_reducible first | exact HB.out | apply below_alloc | apply pw_below_drewN | apply below_drew1) | exact HB.out))) : w.heap.size ≤ gb470)); have n5_ := Aside0.mk ((by rw [hg]; exact (below_size (by repeat (first | (with_reducible first | exact HB.out | apply below_alloc | apply pw_below_drewN | apply below_drew1) | exact HB.out))) : w.heap.size ≤ gb470)); clear HO_5; clear HO_6; clear HB; have HO_5 := n0_; have HO_6 := n1_; have HB := n2_; have BK470 := n3_; have GW470 := n4_; have GE470 := n5_; clear n0_ n1_ n2_ n3_ n4_ n5_; clear hb hbox hg; have hcz18_0 : w17.cell? ⟨gb470, 0, none⟩ = some (.string (⟨#[]⟩ : ByteArray)) := (blk_cell BK470.out 0).trans rfl; have hcz18_1 : w17.cell? ⟨gb470, 1, none⟩ = some (.int .u64 0) := (blk_cell BK470.out 1).trans rfl; have hcz18_2 : w17.cell? ⟨gb470, 2, none⟩ = some (.int .u64 0) := (blk_cell BK470.out 2).trans rfl; have hfz18_0 := blk_frozen BK470.out 0; have hfz18_1 := blk_frozen BK470.out 1; have hfz18_2 := blk_frozen BK470.out 2))
              go_roundg k1
              case measure => have := HK1.out; omega
              case rel => exact ⟨(x6_1), (wrap64 (x7_1 + 1)), (by first | rfl | (simp; done) | (simp [*]; done)), H', ⟨by have := HK1.out; omega⟩, ⟨by (with_reducible repeat (first | apply Kd.R_alloc | apply Kd.R_drewN | apply Kd.R_drew)); exact Kd.R_mono (Kd.R_far (p := ⟨gb470, 2, none⟩) (Kd.R_far (p := ⟨gb470, 1, none⟩) (Kd.R_far (p := ⟨gb470, 0, none⟩) (Kd.R_types HO_5.out BK470.out (by decide)) (fun _ hk => hk.2) (.string t465)) (fun _ hk => hk.2) (.int .u64 t466)) (fun _ hk => hk.2) (.int .u64 t467)) (fun _ hk => trivial)⟩, ⟨by (with_reducible repeat (first | apply Kd.R_alloc | apply Kd.R_drewN | apply Kd.R_drew)); exact Kd.R_mono (Kd.R_far (p := ⟨gb470, 2, none⟩) (Kd.R_far (p := ⟨gb470, 1, none⟩) (Kd.R_far (p := ⟨gb470, 0, none⟩) (Kd.R_mono HO_6.out (fun k_ hk => (⟨hk, hk.2⟩ : _ ∧ k_ ≠ gb470))) (fun _ hk => hk.2) (.string t465)) (fun _ hk => hk.2) (.int .u64 t466)) (fun _ hk => hk.2) (.int .u64 t467)) (fun _ hk => trivial)⟩, ⟨by repeat (first | (with_reducible first | exact HB.out | apply below_alloc | apply pw_below_drewN | apply below_drew1 | refine below_set ?_ GE470.out) | exact HB.out)⟩⟩
          · rw [if_neg c7] at H
            have c7b0 : (t469 == 0) = false := beq_eq_false_iff_ne.mpr c7
            have c7b1 : (t469 != 0) = true := bne_iff_ne.mpr c7
            simp only [Option.some.injEq, Prod.mk.injEq] at H
            obtain ⟨rfl, rfl, rfl⟩ := H
            obtain ⟨Ao19, co19, eo19⟩ := Kd.R_slice HO_5.out
            subst eo19
            have p464 : 0 ≤ (x7_1 : Int) := of_decide_eq_true (by first | (with_reducible assumption) | assumption)
            have q464 : x7_1 < (t461.length : Int) := of_decide_eq_true (by first | (with_reducible assumption) | assumption)
            obtain ⟨ad464, e464, hx464_0⟩ := Kd.at_string (Kd.R_reads' HO_5.out).2.2 x7_1 p464 q464
            cases e464
            replace p464 := eq_true p464
            replace q464 := eq_true q464
            go_wp2_with (first | ((with_reducible refine gate_callee (f := 83) rfl ?_); refine goesL_ (some 24) rfl rfl Tryd.func83 (by kernel_rfl) rfl #[.string (rdOf ByteArray.empty t461 x7_1)] rfl (by (try simp only [List.map_toArray, List.map_cons, List.map_nil]); first | done | rfl | (simp only [List.length_drop, List.length_take]; rfl)) ?_; (with_reducible refine (paymasterref10_One.calls k1 (rdOf ByteArray.empty t461 x7_1) t465 t466 t467 t468 t469 _ A6.out).mono ?_); rintro e w20 ⟨rfl, hb⟩; refine ⟨_, rfl, ?_⟩; have n0_ := Aside0.mk (Kd.R_below (by (with_reducible repeat (first | apply Kd.R_alloc | apply Kd.R_drewN | apply Kd.R_drew)); exact HO_5.out) hb); have n1_ := Aside0.mk (Kd.R_below (by (with_reducible repeat (first | apply Kd.R_alloc | apply Kd.R_drewN | apply Kd.R_drew)); exact HO_6.out) hb); have n2_ := Aside0.mk (below_step (by repeat (first | (with_reducible first | exact HB.out | apply below_alloc | apply pw_below_drewN | apply below_drew1) | exact HB.out)) hb); clear HO_5; clear HO_6; clear HB; have HO_5 := n0_; have HO_6 := n1_; have HB := n2_; clear n0_ n1_ n2_; (try clear hb); (try clear hb2); (try clear hk); (try clear hi)) | ((with_reducible refine gate_dst (N := 8) rfl ?_); refine box_event ?hg (N := 8) ?hd (cs := #[.string (⟨#[]⟩ : ByteArray), .int .u64 0, .int .u64 0]) (t := 44) ?hr ?_; (case hd => rfl); (case hg => rfl); (case hr => first | (go_simp; done) | (go_simp; rfl)); intro gb470 hg w21 hbox hb; have n0_ := Aside0.mk (Kd.R_below (by (with_reducible repeat (first | apply Kd.R_alloc | apply Kd.R_drewN | apply Kd.R_drew)); exact HO_5.out) hb); have n1_ := Aside0.mk (Kd.R_below (Kd.R_elderB (by (with_reducible repeat (first | apply Kd.R_alloc | apply Kd.R_drewN | apply Kd.R_drew)); exact HO_6.out) gb470 (Nat.le_of_eq hg.symm)) hb); have n2_ := Aside0.mk (below_step (by repeat (first | (with_reducible first | exact HB.out | apply below_alloc | apply pw_below_drewN | apply below_drew1) | exact HB.out)) hb); have n3_ := Aside0.mk (hbox); have n4_ := Aside0.mk ((by rw [hg]; exact (below_size (by repeat (first | (with_reducible first | exact HB.out | apply below_alloc | apply pw_below_drewN | apply below_drew1) | exact HB.out))) : w.heap.size ≤ gb470)); have n5_ := Aside0.mk ((by rw [hg]; exact (below_size (by repeat (first | (with_reducible first | exact HB.out | apply below_alloc | apply pw_below_drewN | apply below_drew1) | exact HB.out))) : w.heap.size ≤ gb470)); clear HO_5; clear HO_6; clear HB; have HO_5 := n0_; have HO_6 := n1_; have HB := n2_; have BK470 := n3_; have GW470 := n4_; have GE470 := n5_; clear n0_ n1_ n2_ n3_ n4_ n5_; clear hb hbox hg; have hcz22_0 : w21.cell? ⟨gb470, 0, none⟩ = some (.string (⟨#[]⟩ : ByteArray)) := (blk_cell BK470.out 0).trans rfl; have hcz22_1 : w21.cell? ⟨gb470, 1, none⟩ = some (.int .u64 0) := (blk_cell BK470.out 1).trans rfl; have hcz22_2 : w21.cell? ⟨gb470, 2, none⟩ = some (.int .u64 0) := (blk_cell BK470.out 2).trans rfl; have hfz22_0 := blk_frozen BK470.out 0; have hfz22_1 := blk_frozen BK470.out 1; have hfz22_2 := blk_frozen BK470.out 2))
            go_ret3
            exact ⟨_, by first | rfl | (simp [errW_none, errW_some] <;> rfl) | (simp [*, errW_none, errW_some] <;> rfl), by first | exact Kd.R_nil _ _ _ _ _ | exact Kd.N_nil _ _ _ _ _ | exact Kd.V_nil _ _ _ _ _ | exact Kd.Q_nil _ _ _ _ _ | exact Kd.S_nil _ _ _ _ _, by repeat (first | (with_reducible first | exact HB.out | apply below_alloc | apply pw_below_drewN | apply below_drew1 | refine below_set ?_ GE470.out) | exact HB.out)⟩
        · rw [if_neg c5] at H
          exact absurd H (by simp)
      · rw [if_neg c4] at H
        have c4b0 : decide (x7_1 < (t461.length : Int)) = false := decide_eq_false c4
        clear c4
        simp only [Option.some.injEq, Prod.mk.injEq] at H
        obtain ⟨rfl, rfl, rfl⟩ := H
        obtain ⟨Ao23, co23, eo23⟩ := Kd.R_slice HO_5.out
        subst eo23
        go_wp2
        go_ret3
        exact ⟨_, by first | rfl | (simp [errW_none, errW_some] <;> rfl) | (simp [*, errW_none, errW_some] <;> rfl), by (with_reducible repeat (first | apply Kd.R_alloc | apply Kd.R_drewN | apply Kd.R_drew)); exact HO_6.out, by repeat (first | (with_reducible first | exact HB.out | apply below_alloc | apply pw_below_drewN | apply below_drew1) | exact HB.out)⟩
end Go.Proofs.YtpkjpiphjdpegaaDoor.P
namespace Go.Proofs.YtpkjpiphjdpegaaDoor.P
open Go.RowKit Go.Proofs.YtpkjpiphjdpegaaDoorW.PrintWords Go.Proofs.YtpkjpiphjdpegaaDoorW.PrintLast Go.Proofs.YtpkjpiphjdpegaaDoorW.PrintMore
set_option linter.unusedVariables false
set_option linter.unusedSimpArgs false
theorem tm (x : Int) (h0 : 0 ≤ x) : Int.tmod x 65536 = x % 65536 := Int.tmod_eq_emod_of_nonneg h0
theorem td (x : Int) (h0 : 0 ≤ x) : Int.tdiv x 65536 = x / 65536 := Int.tdiv_eq_ediv_of_nonneg h0
def dg (hi lo : Int) : List Int := [lo % 65536, lo / 65536 % 65536, lo / 65536 / 65536 % 65536, lo / 65536 / 65536 / 65536 % 65536, hi % 65536, hi / 65536 % 65536, hi / 65536 / 65536 % 65536, hi / 65536 / 65536 / 65536 % 65536]
theorem dg_step {k : Nat} (l : List Int) (i x y : Int) (hi : 0 ≤ i) (hi4 : i < 4) (hl : l.length < 100) (hx : 0 ≤ y) (hy : y < 18446744073709551616) :
    paymasterref01_digits.l0 (k + 1) l i x y = paymasterref01_digits.l0 k (l ++ [y % 65536]) (i + 1) x (y / 65536) := by
  simp only [paymasterref01_digits.l0]
  rw [if_pos hi4, if_pos (by omega), tm _ hx, td _ hx, wu _ (by omega) (by omega), wi _ (by omega) (by omega)]
theorem dg_step1 {k : Nat} (l : List Int) (i x y : Int) (hi : 0 ≤ i) (hi4 : i < 4) (hl : l.length < 100) (hx : 0 ≤ x) (hy : x < 18446744073709551616) :
    paymasterref01_digits.l1 (k + 1) l i x y = paymasterref01_digits.l1 k (l ++ [x % 65536]) (i + 1) (x / 65536) y := by
  simp only [paymasterref01_digits.l1]
  rw [if_pos hi4, if_pos (by omega), tm _ hx, td _ hx, wu _ (by omega) (by omega), wi _ (by omega) (by omega)]
theorem digits_is (k : Nat) (hi lo : Int) (h : U64 hi) (h' : U64 lo) : paymasterref01_digits.f (k + 10) hi lo = some (dg hi lo) := by
  unfold paymasterref01_digits.f
  rw [dg_step _ 0 _ _ (by omega) (by omega) (by simp) h'.1 h'.2, dg_step _ _ _ _ (by omega) (by omega) (by simp) (by omega) (by omega), dg_step _ _ _ _ (by omega) (by omega) (by simp) (by omega) (by omega), dg_step _ _ _ _ (by omega) (by omega) (by simp) (by omega) (by omega)]
  simp only [paymasterref01_digits.l0]
  rw [if_neg (by omega)]
  rw [dg_step1 _ 0 _ _ (by omega) (by omega) (by simp) h.1 h.2, dg_step1 _ _ _ _ (by omega) (by omega) (by simp) (by omega) (by omega), dg_step1 _ _ _ _ (by omega) (by omega) (by simp) (by omega) (by omega), dg_step1 _ _ _ _ (by omega) (by omega) (by simp) (by omega) (by omega)]
  simp only [paymasterref01_digits.l1]
  rw [if_neg (by omega)]
  rfl
def D16 (x : Int) : Prop := 0 ≤ x ∧ x < 65536
theorem num_hi {k : Nat} (l : List Int) (i j a b : Int) (hj : i = j + 1) (h4 : 4 ≤ i) (h8 : i < 8) (hl : i < l.length) (ha : 0 ≤ a) (ha' : a < 281474976710656) (hd : D16 (rd l i)) :
    paymasterref01_number.l0 (k + 3) l i a b = paymasterref01_number.l0 k l j (a * 65536 + rd l i) b := by
  obtain rfl : j = i - 1 := by omega
  obtain ⟨d0, d1⟩ := hd
  simp only [paymasterref01_number.l0, paymasterref01_number.j1, paymasterref01_number.j2]
  rw [if_pos (by omega), if_neg (by omega), if_neg (by simp), if_pos h8, if_pos (by simpa using h4), if_pos (by omega), if_pos hl, if_neg (by omega), wu (a * 65536) (by omega) (by omega), wu _ (by omega) (by omega), wi _ (by omega) (by omega)]
theorem num_lo {k : Nat} (l : List Int) (i j a b : Int) (hj : i = j + 1) (h4 : 0 ≤ i) (h8 : i < 4) (hl : i < l.length) (ha : 0 ≤ b) (ha' : b < 281474976710656) (hd : D16 (rd l i)) :
    paymasterref01_number.l0 (k + 3) l i a b = paymasterref01_number.l0 k l j a (b * 65536 + rd l i) := by
  obtain rfl : j = i - 1 := by omega
  obtain ⟨d0, d1⟩ := hd
  simp only [paymasterref01_number.l0, paymasterref01_number.j1, paymasterref01_number.j2]
  rw [if_pos (by omega), if_neg (by omega), if_neg (by simp), if_pos (by omega), if_neg (by simp; omega), if_pos (by omega), if_pos (by omega), if_pos hl, wu (b * 65536) (by omega) (by omega), wu _ (by omega) (by omega), wi _ (by omega) (by omega)]
theorem num_top {k : Nat} (l : List Int) (i a b : Int) (h8 : 8 ≤ i) (hl : i < l.length) (hb : i < 100) :
    paymasterref01_number.l0 (k + 3) l i a b = if rd l i = 0 then paymasterref01_number.l0 k l (i - 1) a b else some (0, 0, false) := by
  simp only [paymasterref01_number.l0, paymasterref01_number.j1, paymasterref01_number.j2]
  rw [if_pos (by omega), if_pos (by omega), if_pos (by omega), if_pos hl]
  by_cases h : rd l i = 0
  · rw [if_pos h, if_neg (by simp [h]), if_neg (by omega), if_neg (by simp), if_neg (by omega), wi _ (by omega) (by omega)]
  · rw [if_neg h, if_pos (by simpa using h)]
theorem num_end {k : Nat} (l : List Int) (a b : Int) : paymasterref01_number.l0 (k + 1) l (-1) a b = some (a, b, true) := by
  simp only [paymasterref01_number.l0]
  rw [if_neg (by omega)]
theorem num_body (k : Nat) (l : List Int) (a b c d e f g h : Int) (hl : 8 ≤ l.length) (e0 : rd l 0 = a) (e1 : rd l 1 = b) (e2 : rd l 2 = c) (e3 : rd l 3 = d) (e4 : rd l 4 = e) (e5 : rd l 5 = f) (e6 : rd l 6 = g) (e7 : rd l 7 = h)
    (ha : D16 a) (hb : D16 b) (hc : D16 c) (hd : D16 d) (he : D16 e) (hf_ : D16 f) (hg : D16 g) (hh : D16 h) :
    paymasterref01_number.l0 (k + 25) l 7 0 0 = some (hf e f g h, hf a b c d, true) := by
  have b0 := ha; have b1 := hb; have b2 := hc; have b3 := hd; have b4 := he; have b5 := hf_; have b6 := hg; have b7 := hh
  unfold D16 at b0 b1 b2 b3 b4 b5 b6 b7
  subst e0 e1 e2 e3 e4 e5 e6 e7
  rw [num_hi l 7 (6) _ _ rfl (by omega) (by omega) (by omega) (by omega) (by omega) hh, num_hi l 6 (5) _ _ rfl (by omega) (by omega) (by omega) (by omega) (by omega) hg, num_hi l 5 (4) _ _ rfl (by omega) (by omega) (by omega) (by omega) (by omega) hf_, num_hi l 4 (3) _ _ rfl (by omega) (by omega) (by omega) (by omega) (by omega) he, num_lo l 3 (2) _ _ rfl (by omega) (by omega) (by omega) (by omega) (by omega) hd, num_lo l 2 (1) _ _ rfl (by omega) (by omega) (by omega) (by omega) (by omega) hc, num_lo l 1 (0) _ _ rfl (by omega) (by omega) (by omega) (by omega) (by omega) hb, num_lo l 0 (-1) _ _ rfl (by omega) (by omega) (by omega) (by omega) (by omega) ha]
  refine (num_end (k := k) l _ _).trans ?_
  unfold hf
  simp only [Int.zero_mul, Int.zero_add]
theorem number9 (k : Nat) (a b c d e f g h i : Int) (ha : D16 a) (hb : D16 b) (hc : D16 c) (hd : D16 d) (he : D16 e) (hf_ : D16 f) (hg : D16 g) (hh : D16 h) :
    paymasterref01_number.f (k + 28) [a, b, c, d, e, f, g, h, i] = some (if i = 0 then (hf e f g h, hf a b c d, true) else (0, 0, false)) := by
  unfold paymasterref01_number.f
  rw [show wrap64 (([a, b, c, d, e, f, g, h, i].length : Int) - 1) = 8 from by simp [wrap64]]
  refine (num_top (k := k + 25) [a, b, c, d, e, f, g, h, i] 8 0 0 (by omega) (by simp) (by omega)).trans ?_
  have e8 : rd [a, b, c, d, e, f, g, h, i] 8 = i := rfl
  rw [e8]
  by_cases hi : i = 0
  · rw [if_pos hi, if_pos hi]
    exact num_body k _ a b c d e f g h (by simp) rfl rfl rfl rfl rfl rfl rfl rfl ha hb hc hd he hf_ hg hh
  · rw [if_neg hi, if_neg hi]
theorem split4 (x : Int) (h : U64 x) : ∃ d0 d1 d2 d3 : Int, x % 65536 = d0 ∧ x / 65536 % 65536 = d1 ∧ x / 65536 / 65536 % 65536 = d2 ∧ x / 65536 / 65536 / 65536 % 65536 = d3 ∧ D16 d0 ∧ D16 d1 ∧ D16 d2 ∧ D16 d3 ∧ x = hf d0 d1 d2 d3 := by
  obtain ⟨h0, h1⟩ := h
  refine ⟨_, _, _, _, rfl, rfl, rfl, rfl, ?_⟩
  unfold D16 hf
  obtain ⟨a, ha⟩ : ∃ a, x / 65536 = a := ⟨_, rfl⟩
  rw [ha]
  obtain ⟨b, hb⟩ : ∃ b, a / 65536 = b := ⟨_, rfl⟩
  rw [hb]
  obtain ⟨c, hc⟩ : ∃ c, b / 65536 = c := ⟨_, rfl⟩
  rw [hc]
  have e0 : x = a * 65536 + x % 65536 := by omega
  have e1 : a = b * 65536 + a % 65536 := by omega
  have e2 : b = c * 65536 + b % 65536 := by omega
  have c1 : 0 ≤ c ∧ c < 65536 := by omega
  generalize hx : x % 65536 = p at *
  generalize hy : a % 65536 = q at *
  generalize hz : b % 65536 = r at *
  have hw : c % 65536 = c := by omega
  rw [hw]
  refine ⟨by omega, by omega, by omega, by omega, ?_⟩
  clear ha hb hc hx hy hz hw h0 h1 c1
  subst e2
  subst e1
  exact e0
end Go.Proofs.YtpkjpiphjdpegaaDoor.P
namespace Go.Proofs.YtpkjpiphjdpegaaDoor.P
open Go.RowKit Go.Proofs.YtpkjpiphjdpegaaDoorW.PrintWords Go.Proofs.YtpkjpiphjdpegaaDoorW.PrintLast Go.Proofs.YtpkjpiphjdpegaaDoorW.PrintMore
set_option linter.unusedVariables false
set_option linter.unusedSimpArgs false
theorem dg_cases (hi lo : Int) (h : U64 hi) (h' : U64 lo) : ∃ d0 d1 d2 d3 d4 d5 d6 d7 : Int, dg hi lo = [d0, d1, d2, d3, d4, d5, d6, d7] ∧ D16 d0 ∧ D16 d1 ∧ D16 d2 ∧ D16 d3 ∧ D16 d4 ∧ D16 d5 ∧ D16 d6 ∧ D16 d7 ∧ hi = hf d4 d5 d6 d7 ∧ lo = hf d0 d1 d2 d3 := by
  obtain ⟨d0, d1, d2, d3, e0, e1, e2, e3, h0, h1, h2, h3, hl⟩ := split4 lo h'
  obtain ⟨d4, d5, d6, d7, e4, e5, e6, e7, h4, h5, h6, h7, hh⟩ := split4 hi h
  refine ⟨d0, d1, d2, d3, d4, d5, d6, d7, ?_, h0, h1, h2, h3, h4, h5, h6, h7, hh, hl⟩
  unfold dg
  rw [e0, e1, e2, e3, e4, e5, e6, e7]
theorem add_step {k : Nat} (X Y out : List Int) (c i j x y : Int) (hj : j = i + 1) (h0 : 0 ≤ i) (h8 : i < 8) (hX : (X.length : Int) = 8) (hY : (Y.length : Int) = 8) (hx : rd X i = x) (hy : rd Y i = y) (dx : D16 x) (dy : D16 y) (hc : 0 ≤ c) (hc1 : c ≤ 1) (hl : out.length < 100) :
    paymasterref01_Add.l0 (k + 1) X Y c out i = paymasterref01_Add.l0 k X Y ((x + y + c) / 65536) (out ++ [(x + y + c) % 65536]) j := by
  obtain ⟨x0, x1⟩ := dx
  obtain ⟨y0, y1⟩ := dy
  subst hj hx hy
  simp only [paymasterref01_Add.l0]
  rw [if_pos h8, if_pos h0, if_pos (by omega), if_pos (by omega), if_pos (by omega), wu (rd X i + rd Y i) (by omega) (by omega), wu (rd X i + rd Y i + c) (by omega) (by omega), tm _ (by omega), td _ (by omega), wu _ (by omega) (by omega), wi _ (by omega) (by omega)]
theorem sum_digits (x0 x1 x2 x3 x4 x5 x6 x7 : Int) : hf x4 x5 x6 x7 * 18446744073709551616 + hf x0 x1 x2 x3 = x0 + x1 * 65536 + x2 * 4294967296 + x3 * 281474976710656 + x4 * 18446744073709551616 + x5 * 1208925819614629174706176 + x6 * 79228162514264337593543950336 + x7 * 5192296858534827628530496329220096 := by
  unfold hf; omega
theorem hf_range (a b c d : Int) (ha : D16 a) (hb : D16 b) (hc : D16 c) (hd : D16 d) : U64 (hf a b c d) := by
  unfold D16 at *; unfold hf; constructor <;> omega
set_option maxHeartbeats 400000 in
theorem refAdd_is (k : Nat) (a b c d : Int) (ha : U64 a) (hb : U64 b) (hc : U64 c) (hd : U64 d) : paymasterref01_Add.f (k + 50) a b c d = u128_Add.f a b c d := by
  unfold paymasterref01_Add.f
  have A : paymasterref01_digits.f (k + 50) a b = some (dg a b) := digits_is (k + 40) a b ha hb
  have B : paymasterref01_digits.f (k + 50) c d = some (dg c d) := digits_is (k + 40) c d hc hd
  rw [A, B]
  clear A B
  simp only [Option.bind_some]
  obtain ⟨x0, x1, x2, x3, x4, x5, x6, x7, eX, hx0, hx1, hx2, hx3, hx4, hx5, hx6, hx7, va, vb⟩ := dg_cases a b ha hb
  obtain ⟨y0, y1, y2, y3, y4, y5, y6, y7, eY, hy0, hy1, hy2, hy3, hy4, hy5, hy6, hy7, vc, vd⟩ := dg_cases c d hc hd
  have lx : ((dg a b).length : Int) = 8 := rfl
  have ly : ((dg c d).length : Int) = 8 := rfl
  have e0 : rd (dg a b) 0 = x0 := by rw [eX]; rfl
  have e1 : rd (dg a b) 1 = x1 := by rw [eX]; rfl
  have e2 : rd (dg a b) 2 = x2 := by rw [eX]; rfl
  have e3 : rd (dg a b) 3 = x3 := by rw [eX]; rfl
  have e4 : rd (dg a b) 4 = x4 := by rw [eX]; rfl
  have e5 : rd (dg a b) 5 = x5 := by rw [eX]; rfl
  have e6 : rd (dg a b) 6 = x6 := by rw [eX]; rfl
  have e7 : rd (dg a b) 7 = x7 := by rw [eX]; rfl
  have f0 : rd (dg c d) 0 = y0 := by rw [eY]; rfl
  have f1 : rd (dg c d) 1 = y1 := by rw [eY]; rfl
  have f2 : rd (dg c d) 2 = y2 := by rw [eY]; rfl
  have f3 : rd (dg c d) 3 = y3 := by rw [eY]; rfl
  have f4 : rd (dg c d) 4 = y4 := by rw [eY]; rfl
  have f5 : rd (dg c d) 5 = y5 := by rw [eY]; rfl
  have f6 : rd (dg c d) 6 = y6 := by rw [eY]; rfl
  have f7 : rd (dg c d) 7 = y7 := by rw [eY]; rfl
  generalize dg a b = X at *
  generalize dg c d = Y at *
  have vx : val a b = x0 + x1 * 65536 + x2 * 4294967296 + x3 * 281474976710656 + x4 * 18446744073709551616 + x5 * 1208925819614629174706176 + x6 * 79228162514264337593543950336 + x7 * 5192296858534827628530496329220096 := by
    unfold val; rw [va, vb, sum_digits]
  have vy : val c d = y0 + y1 * 65536 + y2 * 4294967296 + y3 * 281474976710656 + y4 * 18446744073709551616 + y5 * 1208925819614629174706176 + y6 * 79228162514264337593543950336 + y7 * 5192296858534827628530496329220096 := by
    unfold val; rw [vc, vd, sum_digits]
  clear eX eY va vb vc vd
  have key : ∀ x y c : Int, D16 x → D16 y → 0 ≤ c → c ≤ 1 → ∃ s q : Int, (x + y + c) % 65536 = s ∧ (x + y + c) / 65536 = q ∧ D16 s ∧ 0 ≤ q ∧ q ≤ 1 ∧ x + y + c = q * 65536 + s := by
    intro x y c hx hy h0 h1
    unfold D16 at *
    exact ⟨_, _, rfl, rfl, by omega, by omega, by omega, by omega⟩
  obtain ⟨s0, c1, p0, q0, t0, g0, g0', v0⟩ := key x0 y0 0 hx0 hy0 (by omega) (by omega)
  obtain ⟨s1, c2, p1, q1, t1, g1, g1', v1⟩ := key x1 y1 c1 hx1 hy1 g0 g0'
  obtain ⟨s2, c3, p2, q2, t2, g2, g2', v2⟩ := key x2 y2 c2 hx2 hy2 g1 g1'
  obtain ⟨s3, c4, p3, q3, t3, g3, g3', v3⟩ := key x3 y3 c3 hx3 hy3 g2 g2'
  obtain ⟨s4, c5, p4, q4, t4, g4, g4', v4⟩ := key x4 y4 c4 hx4 hy4 g3 g3'
  obtain ⟨s5, c6, p5, q5, t5, g5, g5', v5⟩ := key x5 y5 c5 hx5 hy5 g4 g4'
  obtain ⟨s6, c7, p6, q6, t6, g6, g6', v6⟩ := key x6 y6 c6 hx6 hy6 g5 g5'
  obtain ⟨s7, c8, p7, q7, t7, g7, g7', v7⟩ := key x7 y7 c7 hx7 hy7 g6 g6'
  refine (add_step (k := k + 49) X Y [] 0 0 1 x0 y0 rfl (by omega) (by omega) lx ly e0 f0 hx0 hy0 (by omega) (by omega) (by simp)).trans ?_
  rw [p0, q0]
  simp only [List.nil_append]
  refine (add_step (k := k + 48) X Y [s0] c1 1 2 x1 y1 rfl (by omega) (by omega) lx ly e1 f1 hx1 hy1 g0 g0' (by simp)).trans ?_
  rw [p1, q1]
  simp only [List.cons_append, List.nil_append]
  refine (add_step (k := k + 47) X Y [s0, s1] c2 2 3 x2 y2 rfl (by omega) (by omega) lx ly e2 f2 hx2 hy2 g1 g1' (by simp)).trans ?_
  rw [p2, q2]
  simp only [List.cons_append, List.nil_append]
  refine (add_step (k := k + 46) X Y [s0, s1, s2] c3 3 4 x3 y3 rfl (by omega) (by omega) lx ly e3 f3 hx3 hy3 g2 g2' (by simp)).trans ?_
  rw [p3, q3]
  simp only [List.cons_append, List.nil_append]
  refine (add_step (k := k + 45) X Y [s0, s1, s2, s3] c4 4 5 x4 y4 rfl (by omega) (by omega) lx ly e4 f4 hx4 hy4 g3 g3' (by simp)).trans ?_
  rw [p4, q4]
  simp only [List.cons_append, List.nil_append]
  refine (add_step (k := k + 44) X Y [s0, s1, s2, s3, s4] c5 5 6 x5 y5 rfl (by omega) (by omega) lx ly e5 f5 hx5 hy5 g4 g4' (by simp)).trans ?_
  rw [p5, q5]
  simp only [List.cons_append, List.nil_append]
  refine (add_step (k := k + 43) X Y [s0, s1, s2, s3, s4, s5] c6 6 7 x6 y6 rfl (by omega) (by omega) lx ly e6 f6 hx6 hy6 g5 g5' (by simp)).trans ?_
  rw [p6, q6]
  simp only [List.cons_append, List.nil_append]
  refine (add_step (k := k + 42) X Y [s0, s1, s2, s3, s4, s5, s6] c7 7 8 x7 y7 rfl (by omega) (by omega) lx ly e7 f7 hx7 hy7 g6 g6' (by simp)).trans ?_
  rw [p7, q7]
  simp only [List.cons_append, List.nil_append]
  have fin : paymasterref01_Add.l0 (k + 42) X Y c8 [s0, s1, s2, s3, s4, s5, s6, s7] 8 = (paymasterref01_number.f (k + 41) [s0, s1, s2, s3, s4, s5, s6, s7, c8]).bind fun bt153 => (if bt153.2.2 = true then (some (bt153.1, bt153.2.1, 0)) else (some (0, 0, 10))) := by
    rw [paymasterref01_Add.l0, if_neg (by omega), if_pos (by simp)]
    rfl
  refine fin.trans ?_
  have N := number9 (k + 13) s0 s1 s2 s3 s4 s5 s6 s7 c8 t0 t1 t2 t3 t4 t5 t6 t7
  rw [show k + 13 + 28 = k + 41 from rfl] at N
  rw [N]
  clear N fin
  have sd := sum_digits s0 s1 s2 s3 s4 s5 s6 s7
  have hr := hf_range s4 s5 s6 s7 t4 t5 t6 t7
  have hr' := hf_range s0 s1 s2 s3 t0 t1 t2 t3
  have tot : val a b + val c d = c8 * 340282366920938463463374607431768211456 + (hf s4 s5 s6 s7 * 18446744073709551616 + hf s0 s1 s2 s3) := by
    rw [sd, vx, vy]
    omega
  obtain ⟨r0, r1⟩ := hr
  obtain ⟨r2, r3⟩ := hr'
  generalize hf s4 s5 s6 s7 = H at *
  generalize hf s0 s1 s2 s3 = L at *
  clear sd vx vy key
  by_cases h8 : c8 = 0
  · have hlt : val a b + val c d < m128 := by unfold m128; omega
    have hh := halves (val a b + val c d) H L ⟨r2, r3⟩ (by rw [tot, h8]; omega)
    have hA : u128_Add.f a b c d = some (H, L, 0) := by
      unfold u128_Add.f
      rw [if_pos (show U64 a ∧ U64 b ∧ U64 c ∧ U64 d from ⟨ha, hb, hc, hd⟩), if_pos hlt, hh.1, hh.2]
    rw [hA, if_pos h8]
    rfl
  · have hge : ¬ (val a b + val c d < m128) := by unfold m128; omega
    have hA : u128_Add.f a b c d = some (0, 0, 10) := by
      unfold u128_Add.f
      rw [if_pos (show U64 a ∧ U64 b ∧ U64 c ∧ U64 d from ⟨ha, hb, hc, hd⟩), if_neg hge]
    rw [hA, if_neg h8]
    rfl
end Go.Proofs.YtpkjpiphjdpegaaDoor.P
namespace Go.Proofs.YtpkjpiphjdpegaaDoor.P
open Go.RowKit Go.Proofs.YtpkjpiphjdpegaaDoorW.PrintWords Go.Proofs.YtpkjpiphjdpegaaDoorW.PrintLast Go.Proofs.YtpkjpiphjdpegaaDoorW.PrintMore
set_option linter.unusedVariables false
set_option linter.unusedSimpArgs false
theorem d16 (x : Int) (h : D16 x) : 0 ≤ x ∧ x < 65536 := h
end Go.Proofs.YtpkjpiphjdpegaaDoor.P
namespace Go.Proofs.YtpkjpiphjdpegaaDoor.P
open Go.RowKit Go.Proofs.YtpkjpiphjdpegaaDoorW.PrintWords Go.Proofs.YtpkjpiphjdpegaaDoorW.PrintLast Go.Proofs.YtpkjpiphjdpegaaDoorW.PrintMore
set_option linter.unusedVariables false
set_option linter.unusedSimpArgs false
theorem u0 : U64 0 := ⟨by omega, by omega⟩
end Go.Proofs.YtpkjpiphjdpegaaDoor.P
namespace Go.Proofs.YtpkjpiphjdpegaaDoor.P
open Go.RowKit Go.Proofs.YtpkjpiphjdpegaaDoorW.PrintWords Go.Proofs.YtpkjpiphjdpegaaDoorW.PrintLast Go.Proofs.YtpkjpiphjdpegaaDoorW.PrintMore
set_option linter.unusedVariables false
set_option linter.unusedSimpArgs false
def numL : List Int → Int
  | [] => 0
  | x :: l => x + 65536 * numL l
def Ds (l : List Int) : Prop := ∀ d, d ∈ l → D16 d
theorem numL_nonneg : ∀ (l : List Int), Ds l → 0 ≤ numL l
  | [], _ => by simp [numL]
  | x :: l, h => by
    have h0 := numL_nonneg l (fun d hd => h d (List.mem_cons_of_mem _ hd))
    have h1 := h x (List.mem_cons_self ..)
    unfold D16 at h1
    simp only [numL]
    omega
theorem numL_set : ∀ (l : List Int) (m : Nat) (v : Int), m < l.length → numL (l.set m v) = numL l + (v - l.getD m 0) * 65536 ^ m
  | x :: l, 0, v, _ => by
    simp only [List.set_cons_zero, numL, List.getD_cons_zero, Int.pow_zero]
    omega
  | x :: l, m + 1, v, h => by
    simp only [List.set_cons_succ, numL, List.getD_cons_succ, Int.pow_succ]
    rw [numL_set l m v (by simpa using h)]
    have e : (v - l.getD m 0) * (65536 ^ m * 65536) = 65536 * ((v - l.getD m 0) * 65536 ^ m) := by rw [← Int.mul_assoc, Int.mul_comm]
    rw [e]
    omega
theorem Ds_set {l : List Int} {m : Nat} {v : Int} (h : Ds l) (hv : D16 v) : Ds (l.set m v) := by
  intro d hd
  rcases List.mem_or_eq_of_mem_set hd with h1 | h1
  · exact h d h1
  · subst h1; exact hv
theorem Ds_getD {l : List Int} {m : Nat} (h : Ds l) (hm : m < l.length) : D16 (l.getD m 0) := by
  rw [List.getD_eq_getElem?_getD, List.getElem?_eq_getElem hm]
  exact h _ (List.getElem_mem hm)
theorem pow_pos' (m : Nat) : (0 : Int) < 65536 ^ m := Int.pow_pos (by omega)
theorem times_l1_mono {X Y out : List Int} {i c : Int} {r : Int × Int × Int} : ∀ (j k : Nat), paymasterref01_Times.l1 k X Y out i c = some r → paymasterref01_Times.l1 (k + j) X Y out i c = some r
  | 0, k, h => h
  | j + 1, k, h => (paymasterref01_Times.mono_l (k + j)).2.1 _ _ _ _ _ r (times_l1_mono j k h)
theorem times_l2 (X Y : List Int) (i c : Int) : ∀ (j : Nat) (out : List Int) (more : Int) (m : Nat), out.length = 17 → Ds out → m + j = 17 → 0 ≤ more → more < 4294967296 → numL out + more * 65536 ^ m < 65536 ^ 17 →
    ∃ out', out'.length = 17 ∧ Ds out' ∧ numL out' = numL out + more * 65536 ^ m ∧ ∀ k r, paymasterref01_Times.l1 k X Y out' i (wrap64 (c + 1)) = some r → paymasterref01_Times.l2 (k + (j + 1)) X Y out i c more (m : Int) = some r
  | 0, out, more, m, hl, hd, hm, h0, h1, hT => by
    obtain rfl : m = 17 := by omega
    have n0 := numL_nonneg out hd
    have z : more = 0 := by omega
    subst z
    refine ⟨out, hl, hd, by omega, fun k r h => ?_⟩
    show paymasterref01_Times.l2 (k + 1) X Y out i c 0 _ = some r
    simp only [paymasterref01_Times.l2]
    rw [if_neg (by omega)]
    exact h
  | j + 1, out, more, m, hl, hd, hm, h0, h1, hT => by
    by_cases hp : more > 0
    · have hD := Ds_getD (m := m) hd (by omega)
      have S := numL_set out m ((more + out.getD m 0) % 65536) (by omega)
      generalize e : out.getD m 0 = y at hD S
      obtain ⟨y0, y1⟩ := hD
      obtain ⟨q, hq⟩ : ∃ q, (more + y) / 65536 = q := ⟨_, rfl⟩
      obtain ⟨s, hs⟩ : ∃ s, (more + y) % 65536 = s := ⟨_, rfl⟩
      rw [hs] at S
      have hD' : D16 s := ⟨by omega, by omega⟩
      have E : numL (out.set m s) + q * 65536 ^ (m + 1) = numL out + more * 65536 ^ m := by
        rw [S, Int.pow_succ]
        have e1 : more = q * 65536 + (s - y) := by omega
        rw [e1, Int.add_mul, Int.mul_assoc q 65536, Int.mul_comm 65536 (65536 ^ m)]
        omega
      obtain ⟨out', a1, a2, a3, a4⟩ := times_l2 X Y i c j (out.set m s) q (m + 1) (by simpa using hl) (Ds_set hd hD') (by omega) (by omega) (by omega) (by rw [E]; exact hT)
      refine ⟨out', a1, a2, a3.trans E, fun k r h => ?_⟩
      have F := a4 k r h
      show paymasterref01_Times.l2 (k + (j + 1) + 1) X Y out i c more (m : Int) = some r
      simp only [paymasterref01_Times.l2]
      rw [if_pos hp, if_pos (by omega), if_pos (by rw [hl]; omega), show rd out (m : Int) = y from e, wu (more + y) (by omega) (by omega), tm _ (by omega), td _ (by omega), hs, hq, wu q (by omega) (by omega), show wrap64 ((m : Int) + 1) = ((m + 1 : Nat) : Int) from by rw [wi _ (by omega) (by omega)]; omega, Int.toNat_natCast]
      exact F
    · obtain rfl : more = 0 := by omega
      refine ⟨out, hl, hd, by omega, fun k r h => ?_⟩
      show paymasterref01_Times.l2 (k + (j + 1) + 1) X Y out i c 0 _ = some r
      simp only [paymasterref01_Times.l2]
      rw [if_neg (by omega)]
      exact times_l1_mono (j + 1) k h
theorem times_l1 (X Y out : List Int) (i c : Nat) (x y : Int) (hi : i < 8) (hc : c < 4) (lX : X.length = 8) (lY : Y.length = 8) (hx : rd X i = x) (hy : rd Y c = y) (dx : D16 x) (dy : D16 y) (hl : out.length = 17) (hd : Ds out) (hT : numL out + x * y * 65536 ^ (i + c) < 65536 ^ 17) :
    ∃ out', out'.length = 17 ∧ Ds out' ∧ numL out' = numL out + x * y * 65536 ^ (i + c) ∧ ∀ k r, paymasterref01_Times.l1 k X Y out' i ((c + 1 : Nat) : Int) = some r → paymasterref01_Times.l1 (k + 20) X Y out i (c : Int) = some r := by
  obtain ⟨x0, x1⟩ := dx
  obtain ⟨y0, y1⟩ := dy
  have p0 : 0 ≤ x * y := Int.mul_nonneg x0 y0
  have p1 : x * y ≤ 65535 * 65535 := Int.mul_le_mul (by omega) (by omega) y0 (by omega)
  obtain ⟨out', a1, a2, a3, a4⟩ := times_l2 X Y i c (17 - (i + c)) out (x * y) (i + c) hl hd (by omega) p0 (by omega) hT
  refine ⟨out', a1, a2, a3, fun k r h => ?_⟩
  rw [show wrap64 ((c : Int) + 1) = ((c + 1 : Nat) : Int) from by rw [wi _ (by omega) (by omega)]; omega] at a4
  have F := a4 (k + (18 - (17 - (i + c)))) r (times_l1_mono _ k h)
  rw [show k + (18 - (17 - (i + c))) + (17 - (i + c) + 1) = k + 19 from by omega] at F
  show paymasterref01_Times.l1 (k + 19 + 1) X Y out i (c : Int) = some r
  simp only [paymasterref01_Times.l1]
  rw [if_pos (by omega), if_pos (by omega), if_pos (by omega), if_pos (by omega), if_pos (by omega), hx, hy, wu (x * y) p0 (by omega), show wrap64 ((i : Int) + (c : Int)) = ((i + c : Nat) : Int) from by rw [wi _ (by omega) (by omega)]; omega]
  exact F
theorem times_row (X Y out : List Int) (i : Nat) (x a b c d : Int) (hi : i < 8) (lX : X.length = 8) (lY : Y.length = 8) (hx : rd X i = x) (ha : rd Y 0 = a) (hb : rd Y 1 = b) (hc : rd Y 2 = c) (hd : rd Y 3 = d) (dx : D16 x) (da : D16 a) (db : D16 b) (dc : D16 c) (dd : D16 d) (hl : out.length = 17) (hD : Ds out)
    (hT : numL out + x * 65536 ^ i * hf a b c d < 65536 ^ 17) :
    ∃ out', out'.length = 17 ∧ Ds out' ∧ numL out' = numL out + x * 65536 ^ i * hf a b c d ∧ ∀ k r, paymasterref01_Times.l0 k X Y out' ((i + 1 : Nat) : Int) = some r → paymasterref01_Times.l0 (k + 82) X Y out (i : Int) = some r := by
  have P0 := pow_pos' i
  have u : ∀ z : Int, 0 ≤ z → 0 ≤ x * z * 65536 ^ i := fun z hz => Int.mul_nonneg (Int.mul_nonneg dx.1 hz) (by omega)
  have u0 := u a da.1
  have u1 := u b db.1
  have u2 := u c dc.1
  have u3 := u d dd.1
  have sh : ∀ (z : Int) (t : Nat), x * z * 65536 ^ (i + t) = x * z * 65536 ^ i * 65536 ^ t := fun z t => by rw [Int.pow_add, ← Int.mul_assoc]
  have E : x * 65536 ^ i * hf a b c d = x * a * 65536 ^ i + x * b * 65536 ^ i * 65536 + x * c * 65536 ^ i * 4294967296 + x * d * 65536 ^ i * 281474976710656 := by
    have s : ∀ z : Int, x * z * 65536 ^ i = x * 65536 ^ i * z := fun z => Int.mul_right_comm ..
    rw [s, s, s, s]
    generalize x * 65536 ^ i = g
    unfold hf
    simp only [Int.mul_add, ← Int.mul_assoc]
    omega
  rw [E] at hT
  obtain ⟨o1, a1, a2, a3, a4⟩ := times_l1 X Y out i 0 x a hi (by omega) lX lY hx ha dx da hl hD (by rw [sh]; omega)
  rw [sh] at a3
  obtain ⟨o2, b1, b2, b3, b4⟩ := times_l1 X Y o1 i 1 x b hi (by omega) lX lY hx hb dx db a1 a2 (by rw [sh, a3]; omega)
  rw [sh] at b3
  obtain ⟨o3, c1, c2, c3, c4⟩ := times_l1 X Y o2 i 2 x c hi (by omega) lX lY hx hc dx dc b1 b2 (by rw [sh, b3, a3]; omega)
  rw [sh] at c3
  obtain ⟨o4, d1, d2, d3, d4⟩ := times_l1 X Y o3 i 3 x d hi (by omega) lX lY hx hd dx dd c1 c2 (by rw [sh, c3, b3, a3]; omega)
  rw [sh] at d3
  refine ⟨o4, d1, d2, by rw [d3, c3, b3, a3, E]; omega, fun k r h => ?_⟩
  show paymasterref01_Times.l0 (k + 81 + 1) X Y out (i : Int) = some r
  simp only [paymasterref01_Times.l0]
  rw [if_pos (by omega)]
  refine a4 (k + 61) r (b4 (k + 41) r (c4 (k + 21) r (d4 (k + 1) r ?_)))
  simp only [paymasterref01_Times.l1]
  rw [if_neg (by omega), show wrap64 ((i : Int) + 1) = ((i + 1 : Nat) : Int) from by rw [wi _ (by omega) (by omega)]; omega]
  exact h
theorem rd_drop (X : List Int) (i : Nat) (h : i < X.length) : X.drop i = rd X i :: X.drop (i + 1) := by
  rw [List.drop_eq_getElem_cons h]
  congr 1
  show X[i] = X.getD i 0
  rw [List.getD_eq_getElem?_getD, List.getElem?_eq_getElem h]
  rfl
theorem times_l0 (X Y : List Int) (a b c d : Int) (lX : X.length = 8) (lY : Y.length = 8) (dX : Ds X) (ha : rd Y 0 = a) (hb : rd Y 1 = b) (hc : rd Y 2 = c) (hd : rd Y 3 = d) (da : D16 a) (db : D16 b) (dc : D16 c) (dd : D16 d) : ∀ (t i : Nat) (out : List Int), i + t = 8 → out.length = 17 → Ds out → numL out + numL (X.drop i) * 65536 ^ i * hf a b c d < 65536 ^ 17 →
    ∃ out', out'.length = 17 ∧ Ds out' ∧ numL out' = numL out + numL (X.drop i) * 65536 ^ i * hf a b c d ∧ ∀ k r, paymasterref01_Times.l0 k X Y out' 8 = some r → paymasterref01_Times.l0 (k + 82 * t) X Y out (i : Int) = some r
  | 0, i, out, hi, hl, hD, hT => by
    obtain rfl : i = 8 := by omega
    have e : X.drop 8 = [] := List.drop_eq_nil_of_le (by omega)
    refine ⟨out, hl, hD, ?_, fun k r h => h⟩
    rw [e]
    simp [numL]
  | t + 1, i, out, hi, hl, hD, hT => by
    have hN := hf_range a b c d da db dc dd
    have dx := Ds_getD (m := i) dX (by omega)
    have e := rd_drop X i (by omega)
    have P0 := pow_pos' i
    have R0 : 0 ≤ numL (X.drop (i + 1)) := numL_nonneg _ (fun d hd => dX d (List.mem_of_mem_drop hd))
    have hx : rd X i = X.getD i 0 := rfl
    have E : numL (X.drop i) * 65536 ^ i * hf a b c d = rd X i * 65536 ^ i * hf a b c d + numL (X.drop (i + 1)) * 65536 ^ (i + 1) * hf a b c d := by
      rw [e]
      simp only [numL]
      rw [← Int.add_mul, Int.pow_succ, Int.add_mul, Int.mul_comm 65536, Int.mul_assoc (numL (X.drop (i + 1))), Int.mul_comm 65536 (65536 ^ i)]
    rw [E] at hT
    have z : 0 ≤ numL (X.drop (i + 1)) * 65536 ^ (i + 1) * hf a b c d := Int.mul_nonneg (Int.mul_nonneg R0 (Int.le_of_lt (pow_pos' _))) hN.1
    obtain ⟨o1, a1, a2, a3, a4⟩ := times_row X Y out i (rd X i) a b c d (by omega) lX lY rfl ha hb hc hd dx da db dc dd hl hD (by omega)
    obtain ⟨o2, b1, b2, b3, b4⟩ := times_l0 X Y a b c d lX lY dX ha hb hc hd da db dc dd t (i + 1) o1 (by omega) a1 a2 (by rw [a3]; omega)
    refine ⟨o2, b1, b2, by rw [b3, a3, E]; omega, fun k r h => ?_⟩
    rw [show k + 82 * (t + 1) = k + 82 * t + 82 from by omega]
    exact a4 _ r (b4 k r h)
theorem numL_dg (a b : Int) (ha : U64 a) (hb : U64 b) : numL (dg a b) = val a b ∧ Ds (dg a b) ∧ (dg a b).length = 8 := by
  obtain ⟨d0, d1, d2, d3, d4, d5, d6, d7, eX, h0, h1, h2, h3, h4, h5, h6, h7, va, vb⟩ := dg_cases a b ha hb
  rw [eX]
  refine ⟨?_, ?_, rfl⟩
  · unfold val
    rw [va, vb, sum_digits]
    simp only [numL]
    omega
  · intro d hd
    simp only [List.mem_cons, List.not_mem_nil, or_false] at hd
    rcases hd with rfl | rfl | rfl | rfl | rfl | rfl | rfl | rfl <;> assumption
theorem list_cons {α : Type} (l : List α) (n : Nat) (h : l.length = n + 1) : ∃ x t, l = x :: t ∧ t.length = n := by
  cases l with
  | nil => cases h
  | cons x t => exact ⟨x, t, rfl, by simpa using h⟩
theorem number17 (k : Nat) (l : List Int) (hl : l.length = 17) (hd : Ds l) : paymasterref01_number.f (k + 55) l = some (if numL l < m128 then (hiOf (numL l), loOf (numL l), true) else (0, 0, false)) := by
  obtain ⟨d0, l1, rfl, k1⟩ := list_cons l 16 hl
  obtain ⟨d1, l2, rfl, k2⟩ := list_cons l1 15 k1
  obtain ⟨d2, l3, rfl, k3⟩ := list_cons l2 14 k2
  obtain ⟨d3, l4, rfl, k4⟩ := list_cons l3 13 k3
  obtain ⟨d4, l5, rfl, k5⟩ := list_cons l4 12 k4
  obtain ⟨d5, l6, rfl, k6⟩ := list_cons l5 11 k5
  obtain ⟨d6, l7, rfl, k7⟩ := list_cons l6 10 k6
  obtain ⟨d7, l8, rfl, k8⟩ := list_cons l7 9 k7
  obtain ⟨d8, l9, rfl, k9⟩ := list_cons l8 8 k8
  obtain ⟨d9, l10, rfl, k10⟩ := list_cons l9 7 k9
  obtain ⟨d10, l11, rfl, k11⟩ := list_cons l10 6 k10
  obtain ⟨d11, l12, rfl, k12⟩ := list_cons l11 5 k11
  obtain ⟨d12, l13, rfl, k13⟩ := list_cons l12 4 k12
  obtain ⟨d13, l14, rfl, k14⟩ := list_cons l13 3 k13
  obtain ⟨d14, l15, rfl, k15⟩ := list_cons l14 2 k14
  obtain ⟨d15, l16, rfl, k16⟩ := list_cons l15 1 k15
  obtain ⟨d16, l17, rfl, k17⟩ := list_cons l16 0 k16
  obtain rfl := List.eq_nil_of_length_eq_zero k17
  have h0 := hd d0 (by simp)
  have h1 := hd d1 (by simp)
  have h2 := hd d2 (by simp)
  have h3 := hd d3 (by simp)
  have h4 := hd d4 (by simp)
  have h5 := hd d5 (by simp)
  have h6 := hd d6 (by simp)
  have h7 := hd d7 (by simp)
  have h8 := (hd d8 (by simp)).1
  have h9 := (hd d9 (by simp)).1
  have h10 := (hd d10 (by simp)).1
  have h11 := (hd d11 (by simp)).1
  have h12 := (hd d12 (by simp)).1
  have h13 := (hd d13 (by simp)).1
  have h14 := (hd d14 (by simp)).1
  have h15 := (hd d15 (by simp)).1
  have h16 := (hd d16 (by simp)).1
  clear hd
  have s := sum_digits d0 d1 d2 d3 d4 d5 d6 d7
  have r0 := hf_range d0 d1 d2 d3 h0 h1 h2 h3
  have r1 := hf_range d4 d5 d6 d7 h4 h5 h6 h7
  generalize eL : [d0, d1, d2, d3, d4, d5, d6, d7, d8, d9, d10, d11, d12, d13, d14, d15, d16] = L
  have B := fun k => num_body k L d0 d1 d2 d3 d4 d5 d6 d7 (by rw [← eL]; simp) (by rw [← eL]; rfl) (by rw [← eL]; rfl) (by rw [← eL]; rfl) (by rw [← eL]; rfl) (by rw [← eL]; rfl) (by rw [← eL]; rfl) (by rw [← eL]; rfl) (by rw [← eL]; rfl) h0 h1 h2 h3 h4 h5 h6 h7
  have lL : (L.length : Int) = 17 := by rw [← eL]; rfl
  have e8 : rd L 8 = d8 := by rw [← eL]; rfl
  have e9 : rd L 9 = d9 := by rw [← eL]; rfl
  have e10 : rd L 10 = d10 := by rw [← eL]; rfl
  have e11 : rd L 11 = d11 := by rw [← eL]; rfl
  have e12 : rd L 12 = d12 := by rw [← eL]; rfl
  have e13 : rd L 13 = d13 := by rw [← eL]; rfl
  have e14 : rd L 14 = d14 := by rw [← eL]; rfl
  have e15 : rd L 15 = d15 := by rw [← eL]; rfl
  have e16 : rd L 16 = d16 := by rw [← eL]; rfl
  have e : numL L = d16 * 115792089237316195423570985008687907853269984665640564039457584007913129639936 + d15 * 1766847064778384329583297500742918515827483896875618958121606201292619776 + d14 * 26959946667150639794667015087019630673637144422540572481103610249216 + d13 * 411376139330301510538742295639337626245683966408394965837152256 + d12 * 6277101735386680763835789423207666416102355444464034512896 + d11 * 95780971304118053647396689196894323976171195136475136 + d10 * 1461501637330902918203684832716283019655932542976 + d9 * 22300745198530623141535718272648361505980416 + d8 * 340282366920938463463374607431768211456 + (hf d4 d5 d6 d7 * 18446744073709551616 + hf d0 d1 d2 d3) := by
    rw [s, ← eL]; simp only [numL]; omega
  obtain ⟨q0, q1⟩ := r0
  obtain ⟨q2, q3⟩ := r1
  generalize hf d4 d5 d6 d7 = H at *
  generalize hf d0 d1 d2 d3 = J at *
  clear h0 h1 h2 h3 h4 h5 h6 h7 s eL hl
  unfold paymasterref01_number.f
  rw [lL, show wrap64 ((17 : Int) - 1) = 16 from by simp [wrap64]]
  have T := fun k i => num_top (k := k) L i 0 0
  have fin : ∀ v : Int, 0 < v → numL L = v * 340282366920938463463374607431768211456 + (H * 18446744073709551616 + J) → (some ((0 : Int), (0 : Int), false) : Option (Int × Int × Bool)) = some (if numL L < m128 then (hiOf (numL L), loOf (numL L), true) else (0, 0, false)) := by
    intro v hv he
    rw [if_neg (by unfold m128; omega)]
  rw [show k + 55 = k + 52 + 3 from rfl, T (k + 52) 16 (by omega) (by omega) (by omega), e16]
  by_cases z16 : d16 = 0
  case neg => rw [if_neg z16]; exact fin (d16 * 340282366920938463463374607431768211456 + d15 * 5192296858534827628530496329220096 + d14 * 79228162514264337593543950336 + d13 * 1208925819614629174706176 + d12 * 18446744073709551616 + d11 * 281474976710656 + d10 * 4294967296 + d9 * 65536 + d8) (by omega) (by omega)
  rw [if_pos z16, show (16 : Int) - 1 = 15 from rfl, show k + 52 = k + 49 + 3 from rfl, T (k + 49) 15 (by omega) (by omega) (by omega), e15]
  by_cases z15 : d15 = 0
  case neg => rw [if_neg z15]; exact fin (d15 * 5192296858534827628530496329220096 + d14 * 79228162514264337593543950336 + d13 * 1208925819614629174706176 + d12 * 18446744073709551616 + d11 * 281474976710656 + d10 * 4294967296 + d9 * 65536 + d8) (by omega) (by omega)
  rw [if_pos z15, show (15 : Int) - 1 = 14 from rfl, show k + 49 = k + 46 + 3 from rfl, T (k + 46) 14 (by omega) (by omega) (by omega), e14]
  by_cases z14 : d14 = 0
  case neg => rw [if_neg z14]; exact fin (d14 * 79228162514264337593543950336 + d13 * 1208925819614629174706176 + d12 * 18446744073709551616 + d11 * 281474976710656 + d10 * 4294967296 + d9 * 65536 + d8) (by omega) (by omega)
  rw [if_pos z14, show (14 : Int) - 1 = 13 from rfl, show k + 46 = k + 43 + 3 from rfl, T (k + 43) 13 (by omega) (by omega) (by omega), e13]
  by_cases z13 : d13 = 0
  case neg => rw [if_neg z13]; exact fin (d13 * 1208925819614629174706176 + d12 * 18446744073709551616 + d11 * 281474976710656 + d10 * 4294967296 + d9 * 65536 + d8) (by omega) (by omega)
  rw [if_pos z13, show (13 : Int) - 1 = 12 from rfl, show k + 43 = k + 40 + 3 from rfl, T (k + 40) 12 (by omega) (by omega) (by omega), e12]
  by_cases z12 : d12 = 0
  case neg => rw [if_neg z12]; exact fin (d12 * 18446744073709551616 + d11 * 281474976710656 + d10 * 4294967296 + d9 * 65536 + d8) (by omega) (by omega)
  rw [if_pos z12, show (12 : Int) - 1 = 11 from rfl, show k + 40 = k + 37 + 3 from rfl, T (k + 37) 11 (by omega) (by omega) (by omega), e11]
  by_cases z11 : d11 = 0
  case neg => rw [if_neg z11]; exact fin (d11 * 281474976710656 + d10 * 4294967296 + d9 * 65536 + d8) (by omega) (by omega)
  rw [if_pos z11, show (11 : Int) - 1 = 10 from rfl, show k + 37 = k + 34 + 3 from rfl, T (k + 34) 10 (by omega) (by omega) (by omega), e10]
  by_cases z10 : d10 = 0
  case neg => rw [if_neg z10]; exact fin (d10 * 4294967296 + d9 * 65536 + d8) (by omega) (by omega)
  rw [if_pos z10, show (10 : Int) - 1 = 9 from rfl, show k + 34 = k + 31 + 3 from rfl, T (k + 31) 9 (by omega) (by omega) (by omega), e9]
  by_cases z9 : d9 = 0
  case neg => rw [if_neg z9]; exact fin (d9 * 65536 + d8) (by omega) (by omega)
  rw [if_pos z9, show (9 : Int) - 1 = 8 from rfl, show k + 31 = k + 28 + 3 from rfl, T (k + 28) 8 (by omega) (by omega) (by omega), e8]
  by_cases z8 : d8 = 0
  case neg => rw [if_neg z8]; exact fin d8 (by omega) (by omega)
  rw [if_pos z8, show (8 : Int) - 1 = 7 from rfl, show k + 28 = k + 3 + 25 from rfl, B (k + 3)]
  have e' : numL L = H * 18446744073709551616 + J := by omega
  obtain ⟨w1, w2⟩ := halves (numL L) H J ⟨q0, q1⟩ e'
  rw [if_pos (by unfold m128; omega), w1, w2]
theorem refTimes_is (k : Nat) (a b n : Int) (ha : U64 a) (hb : U64 b) (hn : U64 n) : paymasterref01_Times.f (k + 720) a b n = u128_Times.f a b n := by
  rw [times_num a b n ha hb hn]
  have u0' := u0
  have A : paymasterref01_digits.f (k + 720) a b = some (dg a b) := digits_is (k + 710) a b ha hb
  have B : paymasterref01_digits.f (k + 720) 0 n = some (dg 0 n) := digits_is (k + 710) 0 n u0' hn
  unfold paymasterref01_Times.f
  rw [A, Option.bind_some, B, Option.bind_some, if_pos (by omega)]
  clear A B
  obtain ⟨vX, dX, lX⟩ := numL_dg a b ha hb
  obtain ⟨y0, y1, y2, y3, y4, y5, y6, y7, eY, g0, g1, g2, g3, g4, g5, g6, g7, vc, vd⟩ := dg_cases 0 n u0' hn
  have lY : (dg 0 n).length = 8 := rfl
  have f0 : rd (dg 0 n) 0 = y0 := by rw [eY]; rfl
  have f1 : rd (dg 0 n) 1 = y1 := by rw [eY]; rfl
  have f2 : rd (dg 0 n) 2 = y2 := by rw [eY]; rfl
  have f3 : rd (dg 0 n) 3 = y3 := by rw [eY]; rfl
  have v0 := val_range a b ha hb
  have z17 : numL (List.replicate 17 0) = 0 := by decide
  have d17 : Ds (List.replicate 17 0) := by
    intro d hd
    rw [List.eq_of_mem_replicate hd]
    exact ⟨by omega, by omega⟩
  have V : numL (List.replicate 17 0) + numL ((dg a b).drop 0) * 65536 ^ 0 * hf y0 y1 y2 y3 = val a b * n := by
    rw [z17, List.drop_zero, vX, ← vd, Int.pow_zero, Int.mul_one, Int.zero_add]
  have p0 : 0 ≤ val a b * n := Int.mul_nonneg v0.1 hn.1
  have p1 : val a b * n ≤ m128 * 18446744073709551616 := Int.mul_le_mul (by omega) (by have := hn.2; omega) hn.1 (by unfold m128; omega)
  obtain ⟨out, a1, a2, a3, a4⟩ := times_l0 (dg a b) (dg 0 n) y0 y1 y2 y3 lX lY dX f0 f1 f2 f3 g0 g1 g2 g3 8 0 (List.replicate 17 0) rfl rfl d17 (by rw [V]; unfold m128 at p1; omega)
  rw [V] at a3
  have N := number17 (k + 8) out a1 a2
  rw [a3] at N
  have L : paymasterref01_Times.l0 (k + 64) (dg a b) (dg 0 n) out 8 = if val a b * n < m128 then some (hiOf (val a b * n), loOf (val a b * n), 0) else some (0, 0, 10) := by
    rw [show k + 64 = k + 63 + 1 from rfl, paymasterref01_Times.l0, if_neg (by omega), show k + 63 = k + 8 + 55 from rfl, N, Option.bind_some]
    by_cases h : val a b * n < m128
    · rw [if_pos h, if_pos h, if_pos rfl]
    · rw [if_neg h, if_neg h, if_neg (by simp)]
  have G : ∀ r, (if val a b * n < m128 then some (hiOf (val a b * n), loOf (val a b * n), (0 : Int)) else some (0, 0, 10)) = some r → paymasterref01_Times.l0 (k + 720) (dg a b) (dg 0 n) (List.replicate 17 0) 0 = some r := by
    intro r h
    exact a4 (k + 64) r (L.trans h)
  by_cases h : val a b * n < m128
  · rw [if_pos h] at G ⊢
    exact G _ rfl
  · rw [if_neg h] at G ⊢
    exact G _ rfl
end Go.Proofs.YtpkjpiphjdpegaaDoor.P
namespace Go.Proofs.YtpkjpiphjdpegaaDoor.P
open Go.RowKit Go.Proofs.YtpkjpiphjdpegaaDoorW.PrintWords Go.Proofs.YtpkjpiphjdpegaaDoorW.PrintLast Go.Proofs.YtpkjpiphjdpegaaDoorW.PrintMore
set_option linter.unusedVariables false
set_option linter.unusedSimpArgs false
theorem u_ten : U64 10 := ⟨by omega, by omega⟩
def bad (c : Int) : Bool := decide (c < 48) || decide (c > 57)
theorem nb_drop (s : ByteArray) (i : Nat) (h : i < s.size) : (nb s).drop i = bt s (i : Int) :: (nb s).drop (i + 1) := by
  rw [List.drop_eq_getElem_cons (by rw [nb_length]; exact h), bt_nb, List.getD_eq_getElem?_getD, List.getElem?_eq_getElem (by rw [nb_length]; exact h)]
  rfl
theorem refParse_l0 (s : ByteArray) (hs : s.size ≤ 1000000000) (k : Nat) : ∀ (t i : Nat), i + t = s.size → paymasterref02_Parse.l0 (k + 1 + t) s (i : Int) 0 0 = if ((nb s).drop i).any bad = true then some (0, 0, 20) else paymasterref02_Parse.l0 (k + 1) s (s.size : Int) 0 0
  | 0, i, h => by
    obtain rfl : i = s.size := by omega
    rw [List.drop_of_length_le (by rw [nb_length]; omega)]
    rfl
  | t + 1, i, h => by
    have ih := refParse_l0 s hs k t (i + 1) (by omega)
    rw [nb_drop s i (by omega), List.any_cons]
    show paymasterref02_Parse.l0 (k + 1 + t + 1) s (i : Int) 0 0 = _
    rw [paymasterref02_Parse.l0, if_pos (by omega), if_pos (by omega)]
    by_cases h1 : bt s (i : Int) < 48
    · rw [if_pos h1, show bad (bt s (i : Int)) = true from by unfold bad; simp [h1], if_pos (by simp)]
    · rw [if_neg h1]
      by_cases h2 : bt s (i : Int) > 57
      · rw [if_pos h2, show bad (bt s (i : Int)) = true from by unfold bad; simp [h2], if_pos (by simp)]
      · rw [if_neg h2, show bad (bt s (i : Int)) = false from by unfold bad; rw [decide_eq_false h1, decide_eq_false h2]; rfl, Bool.false_or, wi _ (by omega) (by omega), show ((i : Int) + 1) = ((i + 1 : Nat) : Int) from by omega, ih]
theorem fold_ge (l : List Int) (a : Int) (ha : 0 ≤ a) (hl : Dig l) : a ≤ l.foldl (fun a d => a * 10 + d) a := by
  have h := (valD_range l hl).1
  unfold valD at h
  rw [fold_cons]
  have p := ten_pos l.length
  have : a * 1 ≤ a * 10 ^ l.length := Int.mul_le_mul_of_nonneg_left (by omega) ha
  omega
theorem refParse_l1 (s : ByteArray) (hs : s.size ≤ 1000000000) (hd : Dig (unasc (nb s))) (k : Nat) : ∀ (t i : Nat) (v : Int), i + t = s.size → 0 ≤ v → v < m128 → paymasterref02_Parse.l1 (k + 721 + t) s (i : Int) 0 0 (hiOf v) (loOf v) =
    if (unasc ((nb s).drop i)).foldl (fun a d => a * 10 + d) v < m128 then some (hiOf ((unasc ((nb s).drop i)).foldl (fun a d => a * 10 + d) v), loOf ((unasc ((nb s).drop i)).foldl (fun a d => a * 10 + d) v), 0) else some (0, 0, 10)
  | 0, i, v, h, v0, v1 => by
    rw [List.drop_of_length_le (by rw [nb_length]; omega)]
    show paymasterref02_Parse.l1 (k + 720 + 1) s (i : Int) 0 0 (hiOf v) (loOf v) = if v < m128 then _ else _
    rw [paymasterref02_Parse.l1, if_neg (by omega), if_pos v1]
    rfl
  | t + 1, i, v, h, v0, v1 => by
    have dr := nb_drop s i (by omega)
    have hd' : Dig (unasc ((nb s).drop (i + 1))) := by
      intro d h
      obtain ⟨c, hc, rfl⟩ := List.mem_map.1 h
      exact hd _ (List.mem_map.2 ⟨c, List.mem_of_mem_drop hc, rfl⟩)
    have hb : 0 ≤ bt s (i : Int) - 48 ∧ bt s (i : Int) - 48 < 10 := by
      refine hd _ (List.mem_map.2 ⟨bt s (i : Int), ?_, rfl⟩)
      refine List.mem_of_mem_drop (i := i) ?_
      rw [dr]
      exact List.mem_cons_self ..
    obtain ⟨u1, u2⟩ := u_hiOf v v0 v1
    have e : (unasc ((nb s).drop i)).foldl (fun a d => a * 10 + d) v = (unasc ((nb s).drop (i + 1))).foldl (fun a d => a * 10 + d) (v * 10 + (bt s (i : Int) - 48)) := by
      rw [dr]
      rfl
    rw [e]
    obtain ⟨D, hD⟩ : ∃ D, unasc ((nb s).drop (i + 1)) = D := ⟨_, rfl⟩
    rw [hD] at hd' ⊢
    have T := refTimes_is (k + t + 1) (hiOf v) (loOf v) 10 u1 u2 u_ten
    rw [times_num _ _ _ u1 u2 u_ten, val_halves] at T
    show paymasterref02_Parse.l1 (k + 721 + t + 1) s (i : Int) 0 0 (hiOf v) (loOf v) = _
    rw [paymasterref02_Parse.l1, if_pos (by omega), show k + 721 + t = k + t + 1 + 720 from by omega, T]
    by_cases c : v * 10 < m128
    · obtain ⟨w1, w2⟩ := u_hiOf (v * 10) (by omega) c
      have hx : U64 ((bt s (i : Int) - 48) % 256) := ⟨by omega, by omega⟩
      have A := refAdd_is (k + t + 671) (hiOf (v * 10)) (loOf (v * 10)) 0 ((bt s (i : Int) - 48) % 256) w1 w2 u0 hx
      rw [add_num _ _ _ _ w1 w2 u0 hx, val_halves, small_val, show (bt s (i : Int) - 48) % 256 = bt s (i : Int) - 48 from by omega] at A
      rw [if_pos c, Option.bind_some, if_pos rfl, if_pos (by omega), show k + t + 1 + 720 = k + t + 671 + 50 from by omega]
      simp only [show (bt s (i : Int) - 48) % 256 = bt s (i : Int) - 48 from by omega]
      rw [A]
      by_cases c2 : v * 10 + (bt s (i : Int) - 48) < m128
      · have ih := refParse_l1 s hs hd k t (i + 1) (v * 10 + (bt s (i : Int) - 48)) (by omega) (by omega) c2
        rw [if_pos c2, Option.bind_some, if_pos rfl, wi _ (by omega) (by omega), show ((i : Int) + 1) = ((i + 1 : Nat) : Int) from by omega, show k + t + 671 + 50 = k + 721 + t from by omega, ih, hD]
      · have := fold_ge D (v * 10 + (bt s (i : Int) - 48)) (by omega) hd'
        rw [if_neg c2, Option.bind_some, if_neg (by simp), if_neg (by omega)]
    · have := fold_ge D (v * 10 + (bt s (i : Int) - 48)) (by omega) hd'
      rw [if_neg c, Option.bind_some, if_neg (by simp), if_neg (by omega)]
theorem refParse_is (s : ByteArray) (hs : s.size ≤ 1000000000) (k : Nat) : paymasterref02_Parse.f (k + 2 * s.size + 723) s = decimal_Parse.f s := by
  rw [parse_num s hs]
  unfold paymasterref02_Parse.f parseOf noNum
  have e : k + 2 * s.size + 723 = (k + s.size + 723) + s.size := by omega
  have A := refParse_l0 s hs (k + s.size + 722) s.size 0 (by omega)
  rw [e]
  refine A.trans ?_
  rw [List.drop_zero]
  have hb : (nb s).any (fun c => decide (c < 48) || decide (c > 57)) = (nb s).any bad := rfl
  rw [hb]
  by_cases h1 : (nb s).any bad = true
  · rw [if_pos h1, h1, Bool.or_true, Bool.true_or, if_pos rfl]
  · have h1' : (nb s).any bad = false := by simpa using h1
    rw [if_neg h1, h1', Bool.or_false]
    have hd : Dig (unasc (nb s)) := by
      intro d hd
      obtain ⟨c, hc, rfl⟩ := List.mem_map.1 hd
      have := (List.any_eq_false.1 h1') c hc
      unfold bad at this
      simp at this
      omega
    have nl := nb_length s
    show paymasterref02_Parse.l0 (k + s.size + 722 + 1) s (s.size : Int) 0 0 = _
    rw [paymasterref02_Parse.l0, if_neg (by omega)]
    have J : ∀ fl : Bool, paymasterref02_Parse.j1 (k + s.size + 722) s fl 0 0 = if fl = true then some (0, 0, 20) else if valD (unasc (nb s)) < m128 then some (hiOf (valD (unasc (nb s))), loOf (valD (unasc (nb s))), 0) else some (0, 0, 10) := by
      intro fl
      show paymasterref02_Parse.j1 (k + s.size + 721 + 1) s fl 0 0 = _
      rw [paymasterref02_Parse.j1]
      cases fl with
      | true => rfl
      | false =>
        rw [if_neg (by simp), if_neg (by simp)]
        have L := refParse_l1 s hs hd k s.size 0 0 (by omega) (by omega) (by unfold m128; omega)
        rw [List.drop_zero] at L
        rw [show k + s.size + 721 = k + 721 + s.size from by omega]
        exact L
    have fin : ∀ fl : Bool, (if fl = true then some (0, 0, 20) else if valD (unasc (nb s)) < m128 then some (hiOf (valD (unasc (nb s))), loOf (valD (unasc (nb s))), (0 : Int)) else some (0, 0, 10)) = some (if fl = true then (0, 0, 20) else if valD (unasc (nb s)) < m128 then (hiOf (valD (unasc (nb s))), loOf (valD (unasc (nb s))), 0) else (0, 0, 10)) := by
      intro fl
      by_cases c : valD (unasc (nb s)) < m128 <;> cases fl <;> simp [c]
    by_cases h2 : (s.size : Int) = 0
    · rw [if_pos h2, J, fin]
      have : nb s = [] := List.eq_nil_of_length_eq_zero (by omega)
      rw [this]
      rfl
    · rw [if_neg h2]
      have ne : (nb s).isEmpty = false := by
        cases hn : nb s with
        | nil => rw [hn] at nl; simp at nl; omega
        | cons x t => rfl
      rw [ne, Bool.false_or]
      by_cases h3 : (s.size : Int) > 1
      · rw [if_pos h3, if_pos (by omega), J, fin, decide_eq_true (show 1 < (nb s).length by omega), Bool.true_and]
        have : (bt s 0 == 48) = ((nb s).head? == some 48) := by
          have := bt_nb s 0
          rw [show ((0 : Nat) : Int) = 0 from rfl] at this
          rw [this]
          cases hn : nb s with
          | nil => rw [hn] at nl; simp at nl; omega
          | cons x t => simp
        rw [this]
      · rw [if_neg h3, J, fin, decide_eq_false (show ¬ 1 < (nb s).length by omega), Bool.false_and]
end Go.Proofs.YtpkjpiphjdpegaaDoor.P
namespace Go.Proofs.YtpkjpiphjdpegaaDoor.P
open Go.RowKit Go.Proofs.YtpkjpiphjdpegaaDoorW.PrintWords Go.Proofs.YtpkjpiphjdpegaaDoorW.PrintLast Go.Proofs.YtpkjpiphjdpegaaDoorW.PrintMore
set_option linter.unusedVariables false
set_option linter.unusedSimpArgs false
theorem refDParse_up (s : ByteArray) (hs : s.size ≤ 1000000000) (k : Nat) (hk : 2 * s.size + 723 ≤ k) : paymasterref02_Parse.f k s = some (parseOf (nb s)) := by
  have := refParse_is s hs (k - 2 * s.size - 723)
  rw [show k - 2 * s.size - 723 + 2 * s.size + 723 = k by omega] at this
  rw [this, parse_num s hs]
theorem refRowParse_l0 (l : List UInt8) (hs : l.length ≤ 100000000) : ∀ (r p : List UInt8) (k : Nat), l = p ++ r → (∀ b ∈ p, b ≠ 32) → 2 * l.length + 1000 + r.length ≤ k →
    paymasterref10_Parse.l0 k (mk l) (p.length : Int) = some (parseRow l)
  | [], p, k, e, hp, hk => by
    obtain ⟨j, rfl⟩ : ∃ j, k = j + 1 := ⟨k - 1, by omega⟩
    rw [List.append_nil] at e
    subst e
    rw [paymasterref10_Parse.l0, mk_size, if_neg (by omega)]
    unfold parseRow
    rw [cutAt_clean 32 l hp]
  | b :: r, p, k, e, hp, hk => by
    obtain ⟨j, rfl⟩ : ∃ j, k = j + 1 := ⟨k - 1, by omega⟩
    have ll : l.length = p.length + (r.length + 1) := by rw [e, List.length_append, List.length_cons]
    have gb : l.getD p.length 0 = b := by rw [e, List.getD_eq_getElem?_getD, List.getElem?_append_right (Nat.le_refl _), Nat.sub_self]; rfl
    rw [List.length_cons] at hk
    have w1 : wrap64 ((p.length : Int) + 1) = ((p.length + 1 : Nat) : Int) := by rw [wrapI _ (by omega) (by omega)]; push_cast; rfl
    rw [paymasterref10_Parse.l0, mk_size, if_pos (by omega), if_pos (by omega), bt_mk l p.length (by omega), gb]
    by_cases c : b = 32
    · have x1 : (mk l).extract 0 p.length = mk p := by rw [extract_mk, List.drop_zero, e, List.take_left]
      have x2 : (mk l).extract (p.length + 1) l.length = mk r := by
        rw [extract_mk, List.take_length, e, show p ++ b :: r = (p ++ [b]) ++ r by simp, List.drop_left' (by simp)]
      rw [if_pos ((b32_is b).2 c), if_pos (by omega), Int.toNat_natCast, x1, refMayId_is _ (by rw [mk_size]; omega) _ (by rw [mk_size]; omega), Option.bind_some]
      have cu : cutAt 32 l = some (p, r) := by
        rw [e, cutAt_app 32 p _ hp, cutAt, if_pos c]
        simp
      unfold parseRow
      rw [cu]
      dsimp only
      by_cases m : mayId (mk p) = true
      · rw [if_pos m, if_pos m, w1, if_pos (by omega), if_pos (by omega), Int.toNat_natCast, x2, refDParse_up _ (by rw [mk_size]; omega) _ (by rw [mk_size]; omega), Option.bind_some]
        by_cases z : (parseOf (nb (mk r))).2.2 = 0
        · rw [if_pos z, if_pos z]
        · rw [if_neg z, if_neg z]
      · rw [if_neg m, if_neg m]
    · rw [if_neg (fun q => c ((b32_is b).1 q)), w1]
      have := refRowParse_l0 l hs r (p ++ [b]) j (by rw [e]; simp) (fun x hx => by
        rcases List.mem_append.1 hx with q | q
        · exact hp x q
        · rw [List.mem_singleton.1 q]; exact c) (by omega)
      rw [List.length_append, List.length_singleton] at this
      exact this
theorem refRowParse_is (l : List UInt8) (hs : l.length ≤ 100000000) (k : Nat) (hk : 3 * l.length + 1000 ≤ k) : paymasterref10_Parse.f k (mk l) = some (parseRow l) :=
  refRowParse_l0 l hs l [] k rfl (by simp) (by omega)
theorem refOne_is (h : List UInt8) (hs : h.length ≤ 100000000) (k : Nat) (hk : 3 * h.length + 1000 ≤ k) : paymasterref10_One.f k (mk h) = some (oneB h) := by
  unfold paymasterref10_One.f oneB
  rw [refWrong_is h (by omega) k (by omega), Option.bind_some]
  by_cases c : wrongOf h = 0
  · rw [if_pos c, if_pos c, mk_size]
    cases q : h with
    | nil => rfl
    | cons b l =>
      have e := bt_mk (b :: l) 0 (by simp)
      rw [show ((0 : Nat) : Int) = 0 from rfl] at e
      rw [if_neg (by simp; omega), if_pos (by simp), e]
      show (if ((b.toNat : Int)) = 35 then _ else _) = some (if (if b = 35 then (1 : Int) else 2) = 2 then _ else _)
      by_cases z : b = 35
      · rw [if_pos ((b35_is b).2 z), if_pos z, if_neg (by decide)]
      · rw [if_neg (fun e => z ((b35_is b).1 e)), if_neg z, if_pos rfl, ← q, refRowParse_is h hs k hk, Option.bind_some]
  · rw [if_neg c, if_neg c]
theorem refAll_l0 (L : List (List UInt8)) (M : Nat) (hM : M ≤ 1000000) (hl : L.length ≤ 1000000) (hs : ∀ h ∈ L, h.length ≤ M) (k : Nat) : ∀ (t i : Nat) (acc : List S44), i + t = L.length → acc.length ≤ i →
    paymasterref10_All.l0 (k + 3 * M + 1001 + t) (L.map mk) acc (i : Int) = some (rowsL ((i : Int) + 1) acc (L.drop i))
  | 0, i, acc, h, ha => by
    obtain rfl : i = L.length := by omega
    show paymasterref10_All.l0 (k + 3 * M + 1000 + 1) _ _ _ = _
    rw [paymasterref10_All.l0, List.length_map, if_neg (by omega), List.drop_length]
    rfl
  | t + 1, i, acc, h, ha => by
    have nx : L.drop i = L.getD i [] :: L.drop (i + 1) := by
      rw [List.drop_eq_getElem_cons (by omega), List.getD_eq_getElem?_getD, List.getElem?_eq_getElem (by omega)]; rfl
    have hm : L.getD i [] ∈ L := by rw [List.getD_eq_getElem?_getD, List.getElem?_eq_getElem (by omega)]; exact List.getElem_mem (by omega)
    have hb := hs _ hm
    have w1 : wrap64 ((i : Int) + 1) = ((i + 1 : Nat) : Int) := by rw [wrapI _ (by omega) (by omega)]; push_cast; rfl
    show paymasterref10_All.l0 (k + 3 * M + 1001 + t + 1) _ _ _ = _
    rw [paymasterref10_All.l0, List.length_map, if_pos (show (i : Int) < (L.length : Int) by omega), if_pos (show (0 : Int) ≤ (i : Int) by omega), rdOf_mk L i (by omega), refOne_is _ (by omega) _ (by omega), Option.bind_some, nx, rowsL, w1]
    by_cases c : (oneB (L.getD i [])).2.2.2.2 = 0
    · rw [if_pos c, if_pos c]
      by_cases z : (oneB (L.getD i [])).2.2.2.1 = true
      · rw [if_pos z, if_pos z, if_pos (by omega), refAll_l0 L M hM hl hs k t (i + 1) _ (by omega) (by rw [List.length_append, List.length_singleton]; omega)]
        push_cast
        rfl
      · rw [if_neg z, if_neg z, refAll_l0 L M hM hl hs k t (i + 1) _ (by omega) (by omega)]
        push_cast
        rfl
    · rw [if_neg c, if_neg c]
      push_cast
      rfl
theorem refAll_is (s : ByteArray) (hs : s.size ≤ 900000) (k : Nat) (hk : 5 * s.size + 2000 ≤ k) : paymasterref10_All.f k s = some (rowsL 1 [] (splitB s.data.toList)) := by
  unfold paymasterref10_All.f
  have e : s.data.toList.length = s.size := Array.length_toList
  have hl := splitB_len s.data.toList
  rw [refSplit_is s (by omega) k (by omega), Option.bind_some]
  have := refAll_l0 (splitB s.data.toList) s.size (by omega) (by omega) (fun h hh => by have := splitB_size _ h hh; omega) (k - 3 * s.size - 1001 - (splitB s.data.toList).length) (splitB s.data.toList).length 0 [] (by omega) (Nat.le_refl _)
  rw [show k - 3 * s.size - 1001 - (splitB s.data.toList).length + 3 * s.size + 1001 + (splitB s.data.toList).length = k by omega, List.drop_zero] at this
  exact this
end Go.Proofs.YtpkjpiphjdpegaaDoor.P
namespace Go.Proofs.YtpkjpiphjdpegaaDoor.P
open Go.RowKit Go.Proofs.YtpkjpiphjdpegaaDoorW.PrintWords Go.Proofs.YtpkjpiphjdpegaaDoorW.PrintLast Go.Proofs.YtpkjpiphjdpegaaDoorW.PrintMore
set_option linter.unusedVariables false
set_option linter.unusedSimpArgs false
theorem same44_l0 (l : List S44) (hl : l.length ≤ 1000000000) (k : Nat) : ∀ (t i : Nat), i + t = l.length → paymasterref10_Same.l0 (k + 1 + t) l l (i : Int) = some true
  | 0, i, h => by
    show paymasterref10_Same.l0 (k + 1) _ _ _ = _
    rw [paymasterref10_Same.l0, if_neg (by omega)]
  | t + 1, i, h => by
    have ih := same44_l0 l hl k t (i + 1) (by omega)
    show paymasterref10_Same.l0 (k + 1 + t + 1) _ _ _ = _
    rw [paymasterref10_Same.l0, if_pos (show (i : Int) < (l.length : Int) by omega), if_pos (show (0 : Int) ≤ (i : Int) by omega), if_pos (show (i : Int) < (l.length : Int) by omega), if_neg (by simp), wrapI _ (by omega) (by omega), show (i : Int) + 1 = ((i + 1 : Nat) : Int) from by omega]
    exact ih
theorem same44_is (l : List S44) (hl : l.length ≤ 1000000000) (k : Nat) (hk : l.length + 1 ≤ k) : paymasterref10_Same.f k l l = some true := by
  unfold paymasterref10_Same.f
  rw [if_pos rfl]
  have := same44_l0 l hl (k - 1 - l.length) l.length 0 (by omega)
  rw [show k - 1 - l.length + 1 + l.length = k by omega] at this
  exact this
end Go.Proofs.YtpkjpiphjdpegaaDoor.P
namespace Go.Proofs.YtpkjpiphjdpegaaDoor.P
open Go.RowKit Go.Shelf Go.Proofs.YtpkjpiphjdpegaaDoor.RF Go.Proofs.YtpkjpiphjdpegaaDoorW.PrintWords
attribute [local go_sem] Oper.semAt_some
set_option linter.unusedVariables false
set_option linter.unusedSimpArgs false
set_option maxHeartbeats 8000000 in
set_option maxRecDepth 100000 in
theorem each2_in (n : Nat) (hn : 1 ≤ n) (l Bx n₀ : Nat) (s : ByteArray) (hs : s.size ≤ 1000000000) (J Jx : List S56 → World → Prop) (W : World)
    (hJ : AbX Bx W.heap.size J) (hG : ∀ W', Below n₀ W W' → GT W') (hxB : n₀ ≤ Bx) (hlt : Bx < W.heap.size)
    (hY : ∀ pre x W, J pre W → pre.length < (allL s).length → x ∈ allL s → YieldAt Fence.wide (n - 1) Tryd.prog l #[lineV x] W fun e W' =>
      (e = .returned (.bool true) ∧ J (pre ++ [x]) W' ∧ KpE n₀ Bx W W') ∨ (e = .returned (.bool false) ∧ Jx (pre ++ [x]) W'))
    (hBx : Boxed W Bx 9 (.string s)) (h0 : J [] W) :
    CallsIn Fence.wide n Tryd.prog 73 #[.func (.yield l) #[] #[], .pointer (some ⟨Bx, 0, none⟩)] W fun e W' => (∃ v, e = .returned v) ∧
      ((∃ ys, ys = allL s ∧ J ys W') ∨ (∃ pre, pre <+: allL s ∧ Jx pre W')) := by
  refine callsIn_of_wp Tryd.func73 rfl trivial ?_ rfl
  simp only [Tryd.ntmps73, List.size_toArray, List.length_cons, List.length_nil, Nat.reduceAdd, Nat.reduceSub, Array.replicate_succ, Array.replicate_zero, List.push_toArray, List.append_toArray, List.nil_append, List.cons_append]
  gi_wp2
  gi_loopw [3] (fun p wr => ∃ (pre : List S56) (t : List UInt8), p = .int .i64 ((pre.length : Int) + 1) ∧ pre ++ linesL ((pre.length : Int) + 1) (splitB t) = allL s ∧ Boxed wr Bx 9 (.string (mk t)) ∧ t.length ≤ s.size ∧ pre.length + t.length ≤ s.size ∧ Below n₀ W wr ∧ J pre wr)
    (fun p wr => leftE Bx wr)
  case atStart =>
    exact ⟨[], s.data.toList, rfl, rfl, by rw [mk_of]; exact hBx, by simp, by simp, Below.refl _ _, h0⟩
  case round =>
    obtain ⟨pre, t, rfl, hx, hb, ht, hpt, hBel, hJs⟩ := hrel
    have hcell := hb.cell
    have hfro := hb.frozen
    have hle : n₀ ≤ wr.heap.size := by have := hb.lt; omega
    have hn64 : (pre.length : Int) + 1 ≤ 1000000001 := by omega
    have arm : ∀ (h tl : List UInt8) (mo : Bool), h.length ≤ 1000000000 → strings_Cut.f (mk t) (⟨#[10]⟩ : ByteArray) = some (mk h, mk tl, mo) → pre.length < (allL s).length → True := fun _ _ _ _ _ _ => trivial
    clear arm
    by_cases hi : Lib.indexByte t 10 = -1
    · have hsp := splitB_none hi
      have hcut := cut_none hi
      rw [hsp] at hx
      have hx' : pre ++ [lineOf ((pre.length : Int) + 1) t] = allL s := hx
      have hlen : pre.length < (allL s).length := by rw [← hx']; simp
      have hmem : lineOf ((pre.length : Int) + 1) t ∈ allL s := by rw [← hx']; simp
      have hk := kind_is t (by omega)
      have hw := wrong_is t (by omega)
      gi_wp2_with (first
        | (refine ⟨trivial, ?_⟩; gi_at_call 74; refine (callsIn_wide.2 (strings_Cut.calls (mk t) _ _ _ _ _ hcut)).mono ?_; rintro e W1 ⟨rfl, hb1⟩; have hbel1 := hBel.trans (hb1.mono hle); have hJ1 := hJ.below hJs hb1; have hbx1 := hb.kept (grown_below hb1 none) (by simp); have hs1 := hb1.size)
        | (refine ⟨trivial, ?_⟩; gi_at_call 37; refine (callsIn_wide.2 (lines_Kind.calls (mk t) _ _ hk)).mono ?_; rintro e W2 ⟨rfl, hb2⟩; have hbel2 := hbel1.trans (hb2.mono (by omega)); have hJ2 := hJ.below hJ1 hb2; have hbx2 := hbx1.kept (grown_below hb2 none) (by simp); have hs2 := hb2.size)
        | (refine ⟨trivial, ?_⟩; gi_at_call 75; refine (callsIn_wide.2 (lines_wrong.calls (mk t) _ _ (hG _ hbel2) hw)).mono ?_; rintro e W3 ⟨rfl, hb3⟩; have hbel3 := hbel2.trans (hb3.mono (by omega)); have hJ3 := hJ.below hJ2 hb3; have hbx3 := hbx2.kept (grown_below hb3 none) (by simp); obtain ⟨fn, tmps, assign, body, hy, hR⟩ := hY pre (lineOf ((pre.length : Int) + 1) t) W3 hJ3 hlen hmem; dsimp only [lineV, lineOf] at hy))
      refine hR.mono ?_
      rintro e W4 (⟨rfl, hJ4, hk4⟩ | ⟨rfl, hJx4⟩)
      · gi_wp2
        refine bodyPost_ret (results_none rfl _ _ _) rfl ?_
        exact ⟨⟨_, rfl⟩, .inl ⟨_, hx', hJ4⟩⟩
      · gi_wp2
        refine bodyPost_ret (results_none rfl _ _ _) rfl ?_
        exact ⟨⟨_, rfl⟩, .inr ⟨_, ⟨[], by rw [List.append_nil]; exact hx'⟩, hJx4⟩⟩
    · obtain ⟨i, hi⟩ : ∃ i : Nat, Lib.indexByte t 10 = (i : Int) := ⟨(Lib.indexByte t 10).toNat, by have := Lib.indexByte_ge t 10; omega⟩
      obtain ⟨hsp, hit⟩ := splitB_some hi
      have hcut := cut_some (by omega) hi
      rw [hsp] at hx
      have hx' : pre ++ (lineOf ((pre.length : Int) + 1) (t.take i) :: linesL ((pre.length : Int) + 1 + 1) (splitB (t.drop (i + 1)))) = allL s := hx
      have hlen : pre.length < (allL s).length := by rw [← hx']; simp
      have hmem : lineOf ((pre.length : Int) + 1) (t.take i) ∈ allL s := by rw [← hx']; simp
      have hli : (t.take i).length ≤ t.length := by simp; omega
      have hk := kind_is (t.take i) (by omega)
      have hw := wrong_is (t.take i) (by omega)
      gi_wp2_with (first
        | (refine ⟨trivial, ?_⟩; gi_at_call 74; refine (callsIn_wide.2 (strings_Cut.calls (mk t) _ _ _ _ _ hcut)).mono ?_; rintro e W1 ⟨rfl, hb1⟩; have hbel1 := hBel.trans (hb1.mono hle); have hJ1 := hJ.below hJs hb1; have hbx1 := hb.kept (grown_below hb1 none) (by simp); have hs1 := hb1.size)
        | (refine ⟨trivial, ?_⟩; gi_at_call 37; refine (callsIn_wide.2 (lines_Kind.calls (mk (t.take i)) _ _ hk)).mono ?_; rintro e W2 ⟨rfl, hb2⟩; have hbel2 := hbel1.trans (hb2.mono (by omega)); have hJ2 := hJ.below hJ1 hb2; have hbx2 := hbx1.kept (grown_below hb2 none) (by simp); have hs2 := hb2.size)
        | (refine ⟨trivial, ?_⟩; gi_at_call 75; refine (callsIn_wide.2 (lines_wrong.calls (mk (t.take i)) _ _ (hG _ hbel2) hw)).mono ?_; rintro e W3 ⟨rfl, hb3⟩; have hbel3 := hbel2.trans (hb3.mono (by omega)); have hJ3 := hJ.below hJ2 hb3; have hbx3 := hbx2.kept (grown_below hb3 none) (by simp); obtain ⟨fn, tmps, assign, body, hy, hR⟩ := hY pre (lineOf ((pre.length : Int) + 1) (t.take i)) W3 hJ3 hlen hmem; dsimp only [lineV, lineOf] at hy))
      refine hR.mono ?_
      rintro e W4 (⟨rfl, hJ4, hk4⟩ | ⟨rfl, hJx4⟩)
      · have hbx4 : Boxed W4 Bx 9 (.string (mk t)) := hk4.2.trans hbx3
        have hc4 := hbx4.cell
        have hf4 := hbx4.frozen
        gi_wp2
        go_roundw
        case rel =>
          refine ⟨pre ++ [lineOf ((pre.length : Int) + 1) (t.take i)], t.drop (i + 1), ?_, ?_, hbx4.set _, by simp; omega, by simp; omega, ?_, hJ.set _ hJ4⟩
          · simp
          · rw [List.append_assoc, List.length_append]; exact hx'
          · exact (hbel3.trans hk4.1).setCell (p := ⟨Bx, 0, none⟩) hxB _
        case measure =>
          have e1 := (hbx4.set (.string (mk (t.drop (i + 1))))).cell
          unfold leftE
          rw [e1, hcell]
          simp [mk_size]
          omega
      · gi_wp2
        refine bodyPost_ret (results_none rfl _ _ _) rfl ?_
        exact ⟨⟨_, rfl⟩, .inr ⟨_, ⟨linesL ((pre.length : Int) + 1 + 1) (splitB (t.drop (i + 1))), by rw [List.append_assoc]; exact hx'⟩, hJx4⟩⟩
abbrev LineIn (s : ByteArray) := {x : S56 // x ∈ allL s}
theorem each_stops2 (n : Nat) (hn : 1 ≤ n) (Bx n₀ : Nat) (s : ByteArray) (hs : s.size ≤ 1000000000) (w w0 : World) (hG : GT w0) (h0 : w0.heap.size ≤ n₀) (hb0 : Below n₀ w0 w) (hxB : n₀ ≤ Bx) (hlt : Bx < w.heap.size)
    (hBx : Boxed w Bx 9 (.string s)) :
    SeqX (α := LineIn s) Fence.wide n Tryd.prog 73 #[.pointer (some ⟨Bx, 0, none⟩)] (fun x => #[lineV x.1]) (KpE n₀ Bx) Bx (fun ys => ys.map Subtype.val = allL s) (fun pre => pre.map Subtype.val <+: allL s) (allL s).length w :=
  fun l J Jx W hW hJ hJx hY h00 => by
    refine (each2_in n hn l Bx n₀ s hs (fun p W => ∃ q : List (LineIn s), q.map Subtype.val = p ∧ J q W) (fun p W => ∃ q : List (LineIn s), q.map Subtype.val = p ∧ Jx q W) W
      (fun p A B row hp hg hr => by obtain ⟨q, e, hq⟩ := hp; exact ⟨q, e, hJ q A B row hq hg hr⟩)
      (fun W' hb' => gt_same hG h0 ((hb0.trans (hW.mono (by omega))).trans hb')) hxB (by have := hW.size; omega) ?_ (hBx.kept (grown_below hW none) (by simp)) ⟨[], rfl, h00⟩).mono ?_
    · rintro pre x W1 ⟨q, rfl, hq⟩ hl hm
      obtain ⟨fn, tmps, assign, body, hy, hR⟩ := hY q ⟨x, hm⟩ W1 hq (by simpa using hl)
      refine ⟨fn, tmps, assign, body, hy, hR.mono ?_⟩
      rintro e W' (⟨he, hj, hk⟩ | ⟨he, hj⟩)
      · exact .inl ⟨he, ⟨_, by simp, hj⟩, hk⟩
      · exact .inr ⟨he, _, by simp, hj⟩
    · rintro e W' ⟨hv, ⟨ys, rfl, q, e1, hq⟩ | ⟨pre, hp, q, rfl, hq⟩⟩
      · exact ⟨hv, .inl ⟨q, e1, hq⟩⟩
      · exact ⟨hv, .inr ⟨q, hp, hq⟩⟩
end Go.Proofs.YtpkjpiphjdpegaaDoor.P
namespace Go.Proofs.YtpkjpiphjdpegaaDoor.P
open Go.RowKit Go.Shelf Go.Proofs.YtpkjpiphjdpegaaDoor.RF Go.Proofs.YtpkjpiphjdpegaaDoorW.PrintWords
attribute [local go_sem] Oper.semAt_some
set_option linter.unusedVariables false
set_option linter.unusedSimpArgs false
def ofX (x : S56) : ByteArray × Int × Int × Bool × Int := oneB x.f1.data.toList
def rowX (x : S56) : S44 := ⟨(ofX x).1, ⟨(ofX x).2.1, (ofX x).2.2.1⟩⟩
def accX : List S56 → List S44
  | [] => []
  | x :: r => if (ofX x).2.2.2.1 = true then rowX x :: accX r else accX r
theorem accX_snoc : ∀ (p : List S56) (x : S56), accX (p ++ [x]) = if (ofX x).2.2.2.1 = true then accX p ++ [rowX x] else accX p
  | [], x => by rw [List.nil_append, accX]; rfl
  | y :: p, x => by
    rw [List.cons_append, accX, accX, accX_snoc p x]
    by_cases c : (ofX y).2.2.2.1 = true
    · rw [if_pos c, if_pos c]; split <;> rfl
    · rw [if_neg c, if_neg c]
theorem accX_len : ∀ p : List S56, (accX p).length ≤ p.length
  | [] => Nat.le_refl _
  | x :: p => by
    have := accX_len p
    rw [accX]
    split <;> simp <;> omega
theorem rowsL_ok : ∀ (L : List (List UInt8)) (n : Int) (acc : List S44), (∀ x ∈ linesL n L, (ofX x).2.2.2.2 = 0) → rowsL n acc L = (acc ++ accX (linesL n L), 0, 0)
  | [], n, acc, _ => by rw [rowsL, linesL, accX, List.append_nil]
  | h :: L, n, acc, c => by
    have c0 : (oneB h).2.2.2.2 = 0 := c (lineOf n h) (List.mem_cons_self ..)
    have ih := fun acc => rowsL_ok L (n + 1) acc fun x hx => c x (List.mem_cons_of_mem _ hx)
    rw [rowsL, linesL, accX, if_pos c0]
    have e : (ofX (lineOf n h)).2.2.2.1 = (oneB h).2.2.2.1 := rfl
    rw [e]
    by_cases q : (oneB h).2.2.2.1 = true
    · rw [if_pos q, if_pos q, ih, List.append_assoc]; rfl
    · rw [if_neg q, if_neg q, ih]
theorem rowsL_bad : ∀ (L : List (List UInt8)) (n : Int) (acc : List S44) (p : List S56) (x : S56) (r : List S56), linesL n L = p ++ x :: r → (∀ y ∈ p, (ofX y).2.2.2.2 = 0) → (ofX x).2.2.2.2 ≠ 0 → rowsL n acc L = ([], x.f0, (ofX x).2.2.2.2)
  | [], n, acc, p, x, r, e, _, _ => by rw [linesL] at e; cases p <;> cases e
  | h :: L, n, acc, p, x, r, e, hp, hx => by
    rw [linesL] at e
    cases p with
    | nil =>
      rw [List.nil_append] at e
      obtain ⟨rfl, e2⟩ := List.cons.inj e
      have c : ¬ (oneB h).2.2.2.2 = 0 := hx
      rw [rowsL, if_neg c]
      rfl
    | cons y p =>
      rw [List.cons_append] at e
      obtain ⟨rfl, e2⟩ := List.cons.inj e
      have c0 : (oneB h).2.2.2.2 = 0 := hp _ (List.mem_cons_self ..)
      have ih := fun acc => rowsL_bad L (n + 1) acc p x r e2 (fun z hz => hp z (List.mem_cons_of_mem _ hz)) hx
      rw [rowsL, if_pos c0]
      by_cases q : (oneB h).2.2.2.1 = true
      · rw [if_pos q, ih]
      · rw [if_neg q, ih]
theorem line_mem : ∀ (L : List (List UInt8)) (n : Int) (x : S56), x ∈ linesL n L → ∃ m h, h ∈ L ∧ x = lineOf m h
  | [], n, x, h => by cases h
  | h :: L, n, x, hx => by
    rw [linesL] at hx
    rcases List.mem_cons.1 hx with rfl | hx
    · exact ⟨n, h, List.mem_cons_self .., rfl⟩
    · obtain ⟨m, g, hg, e⟩ := line_mem L (n + 1) x hx
      exact ⟨m, g, List.mem_cons_of_mem _ hg, e⟩
theorem of_line (s : ByteArray) (hs : s.size ≤ 1000000000) (x : S56) (hx : x ∈ allL s) : row_Of.f x.f0 x.f1 x.f2 x.f3 = some (ofX x) := by
  obtain ⟨m, h, hh, rfl⟩ := line_mem _ _ _ hx
  have e : s.data.toList.length = s.size := Array.length_toList
  have := splitB_size _ h hh
  show row_Of.f m (mk h) (kindOf h) (wrongOf h) = some (oneB h)
  exact of_is m h (by omega)
def row_All.f (a0 : ByteArray) : Option (List S44 × Int × Int) := if a0.size ≤ 1000000000 then some (rowsL 1 [] (splitB a0.data.toList)) else none
def CoR (B Bx n₀ : Nat) (w : World) (f : List S56 → List S44) (pre : List S56) (W : World) : Prop :=
  (∃ v, Boxed W B 34 v ∧ Kd.R k44 44 W n₀ (fun k => k ≠ Bx) v (f pre)) ∧ Below n₀ w W
theorem coR_ab (B Bx n₀ : Nat) (w : World) (f : List S56 → List S44) (hn : n₀ ≤ w.heap.size) (hx : n₀ ≤ Bx) (hB : n₀ ≤ B) (hne : B ≠ Bx) (C : Nat) (hC : n₀ ≤ C) : AbX Bx C (CoR B Bx n₀ w f) := by
  rintro s W W' row ⟨⟨v, hv, hr⟩, hb⟩ hg hrow
  have key : ∀ (k : Nat) cells t, W.heap[k]? = some (.cells cells t (0, 0)) → k ≠ Bx → some k ≠ row := fun k cells t hk hkx e => by
    rcases hrow k e.symm with h | ⟨_, o, ho, hc⟩
    · exact hkx h
    · rw [hk] at ho; cases ho; cases hc
  refine ⟨⟨v, hv.kept hg (key B _ _ hv hne), Kd.R_grown2 hr rfl hg fun k e e' => ?_⟩, abX_below hn hC hx () W W' row hb hg hrow⟩
  obtain ⟨cells, hk⟩ := Kd.R_typed hr k e'.symm
  exact key k _ _ hk (hr.1 k e'.symm) e.symm
theorem res3 (tmps : Array Value) (w : World) (B B' B'' : Nat) (h1 : tmps[2]? = some (.pointer (some ⟨B, 0, none⟩))) (h2 : tmps[3]? = some (.pointer (some ⟨B', 0, none⟩))) (h3 : tmps[4]? = some (.pointer (some ⟨B'', 0, none⟩))) {x y z : Value} (q1 : Boxed w B 34 x) (q2 : Boxed w B' 3 y) (q3 : Boxed w B'' 23 z) :
    (results Tryd.f45 tmps).run Tryd.prog w = .ok (.tuple #[x, y, z]) w := by
  have hr : Tryd.f45.results = #[.cell 2 34, .cell 3 3, .cell 4 23] := rfl
  have c1 := q1.cell
  have c2 := q2.cell
  have c3 := q3.cell
  have g1 : tmps[2]?.getD undef = .pointer (some ⟨B, 0, none⟩) := by rw [h1]; rfl
  have g2 : tmps[3]?.getD undef = .pointer (some ⟨B', 0, none⟩) := by rw [h2]; rfl
  have g3 : tmps[4]?.getD undef = .pointer (some ⟨B'', 0, none⟩) := by rw [h3]; rfl
  simp [results, hr, g1, g2, g3, asAddr, go_sem, c1, c2, c3]
theorem callsIn_round {P : Program} {l n f : Nat} {args : Array Value} {w : World} {Q : Ending → World → Prop} (h : Calls P f args w Q) : CallsIn (Fence.wide.inRound l) n P f args w Q := callsIn_wide.2 h
def InvR (n0 : Nat) (w W0 : World) (pre : List S56) (W : World) : Prop :=
  ((Boxed W n0 34 (.slice none 0 0) ∧ Boxed W (n0 + 1) 3 (.int .i64 0) ∧ Boxed W (n0 + 2) 23 (.int .i64 0)) ∧ CoR (n0 + 3) (n0 + 4) n0 w accX pre W ∧ W0.heap.size ≤ W.heap.size) ∧ ∀ x ∈ pre, (ofX x).2.2.2.2 = 0
def InvX (n0 : Nat) (w : World) (c : Code) (pre : List S56) (W : World) : Prop :=
  c = .ret ∧ ∃ p x, pre = p ++ [x] ∧ (∀ y ∈ p, (ofX y).2.2.2.2 = 0) ∧ (ofX x).2.2.2.2 ≠ 0 ∧ Boxed W n0 34 (.slice none 0 0) ∧ Boxed W (n0 + 1) 3 (.int .i64 x.f0) ∧ Boxed W (n0 + 2) 23 (.int .i64 (ofX x).2.2.2.2) ∧ Below n0 w W
set_option maxHeartbeats 4000000 in
set_option maxRecDepth 100000 in
theorem rowAll_is (s : ByteArray) (hs : s.size ≤ 1000000000) (w : World) (hG : GT w) :
    CallsIn Fence.wide 5 Tryd.prog 45 #[.string s] w fun e W' => ∃ v, e = .returned (.tuple #[v, .int .i64 (rowsL 1 [] (splitB s.data.toList)).2.1, .int .i64 (rowsL 1 [] (splitB s.data.toList)).2.2]) ∧ Kd.R k44 44 W' w.heap.size (fun _ => True) v (rowsL 1 [] (splitB s.data.toList)).1 ∧ Below w.heap.size w W' := by
  have mixed : Tryd.prog.follows .mixedOrders = true := by kernel_rfl
  refine callsIn_of_wp_marks Tryd.func45 rfl trivial ?_ rfl
  simp only [Tryd.ntmps45, List.size_toArray, List.length_cons, List.length_nil, Nat.reduceAdd, Nat.reduceSub, Array.replicate_succ, Array.replicate_zero, List.push_toArray, List.append_toArray, List.nil_append, List.cons_append]
  refine wpIn_wide.2 ?_
  go_wp2
  go_step3
  go_wp2
  go_step3
  go_wp2_with (first | (go_at_call 38; (with_reducible refine (each_call s _).mono ?_); rintro e W1 ⟨rfl, rfl⟩))
  have b2 := (((((Boxed.new w 34 (.slice none 0 0)).alloc (.cells #[.int .i64 0] 3)).alloc (.cells #[.int .i64 0] 23)).alloc (.cells #[.slice none 0 0] 34)).alloc (.cells #[.string s] 9))
  have b3 := ((((Boxed.new (w.alloc (.cells #[.slice none 0 0] 34)) 3 (.int .i64 0)).alloc (.cells #[.int .i64 0] 23)).alloc (.cells #[.slice none 0 0] 34)).alloc (.cells #[.string s] 9))
  have b4 := (((Boxed.new ((w.alloc (.cells #[.slice none 0 0] 34)).alloc (.cells #[.int .i64 0] 3)) 23 (.int .i64 0)).alloc (.cells #[.slice none 0 0] 34)).alloc (.cells #[.string s] 9))
  have b5 := ((Boxed.new (((w.alloc (.cells #[.slice none 0 0] 34)).alloc (.cells #[.int .i64 0] 3)).alloc (.cells #[.int .i64 0] 23)) 34 (.slice none 0 0)).alloc (.cells #[.string s] 9))
  have bX := Boxed.new ((((w.alloc (.cells #[.slice none 0 0] 34)).alloc (.cells #[.int .i64 0] 3)).alloc (.cells #[.int .i64 0] 23)).alloc (.cells #[.slice none 0 0] 34)) 9 (.string s)
  simp only [World.size_alloc] at b3 b4 b5 bX
  have hB1 : Below w.heap.size w (((((w.alloc (.cells #[.slice none 0 0] 34)).alloc (.cells #[.int .i64 0] 3)).alloc (.cells #[.int .i64 0] 23)).alloc (.cells #[.slice none 0 0] 34)).alloc (.cells #[.string s] 9)) := below_alloc (below_alloc (below_alloc (below_alloc (below_alloc (Below.refl _ _) _) _) _) _) _
  have hsz : (((((w.alloc (.cells #[.slice none 0 0] 34)).alloc (.cells #[.int .i64 0] 3)).alloc (.cells #[.int .i64 0] 23)).alloc (.cells #[.slice none 0 0] 34)).alloc (.cells #[.string s] 9)).heap.size = w.heap.size + 5 := by simp
  obtain ⟨W0, hW0⟩ : ∃ W0, (((((w.alloc (.cells #[.slice none 0 0] 34)).alloc (.cells #[.int .i64 0] 3)).alloc (.cells #[.int .i64 0] 23)).alloc (.cells #[.slice none 0 0] 34)).alloc (.cells #[.string s] 9)) = W0 := ⟨_, rfl⟩
  rw [hW0] at b2 b3 b4 b5 bX hB1 hsz ⊢
  clear hW0
  refine (wpIn_wide (n := 5)).1 ?_
  refine range_own (Bx := w.heap.size + 4) (by omega) rfl (by omega) (gf := 73) (lb := #[.pointer (some ⟨w.heap.size + 4, 0, none⟩)]) rfl trivial (enters_of Tryd.func73 (by kernel_rfl) rfl)
    (each_stops2 4 (by omega) (w.heap.size + 4) w.heap.size s hs W0 w hG (Nat.le_refl _) hB1 (by omega) (by omega) bX)
    (fun h k => ⟨h.1.trans k.1, k.2.trans h.2⟩) (fun W l o o' hl ho hc hw => ⟨(Below.refl _ W).grown (grownBy_putObj' W l o') (by have := (Array.getElem?_eq_some_iff.1 ho).1; omega) (fun k e => by cases e; omega), World.putObj_heap_other (by omega)⟩) (Below.refl _ _) (fun _ => rfl)
    (fun pre W => InvR w.heap.size w W0 (pre.map Subtype.val) W)
    (fun c pre W => InvX w.heap.size w c (pre.map Subtype.val) W)
    (fun q => (AbX.and (AbX.and (AbX.and (boxed_ab _ _ _ _ (fun _ => .slice none 0 0) (by omega)) (AbX.and (boxed_ab _ _ _ _ (fun _ => .int .i64 0) (by omega)) (boxed_ab _ _ _ _ (fun _ => .int .i64 0) (by omega)))) (AbX.and (coR_ab _ _ _ _ _ (Nat.le_refl _) (by omega) (by omega) (by omega) _ (by omega)) (abX_size _ _ _))) (abX_pure _ _ (fun pre : List S56 => ∀ x ∈ pre, (ofX x).2.2.2.2 = 0)) : AbX (w.heap.size + 4) W0.heap.size (InvR w.heap.size w W0)) (q.map Subtype.val))
    (fun c s' W W' row hh hg hr => by
      obtain ⟨rfl, p, x, e1, e2, e3, e4, e5, e6, e7⟩ := hh
      exact ⟨rfl, p, x, e1, e2, e3, boxed_ab (β := Unit) _ W0.heap.size _ _ (fun _ => .slice none 0 0) (by omega) () W W' row e4 hg hr, boxed_ab (β := Unit) _ W0.heap.size _ _ (fun _ => .int .i64 x.f0) (by omega) () W W' row e5 hg hr,
        boxed_ab (β := Unit) _ W0.heap.size _ _ (fun _ => .int .i64 (ofX x).2.2.2.2) (by omega) () W W' row e6 hg hr, abX_below (β := Unit) (Nat.le_refl _) (by omega) (by omega) () W W' row e7 hg hr⟩)
    ⟨⟨⟨b2, b3, b4⟩, ⟨⟨_, b5, Kd.R_nil _ _ _ _ _⟩, hB1⟩, Nat.le_refl _⟩, by simp⟩
    (fun x a' W => ∃ Bv, w.heap.size + 4 < Bv ∧ W.heap[Bv]? = some (.cells (lineC x.1) 56 (0, 0)) ∧ a' = { tmps := #[.string s, undef, .pointer (some ⟨w.heap.size, 0, none⟩), .pointer (some ⟨w.heap.size + 1, 0, none⟩), .pointer (some ⟨w.heap.size + 2, 0, none⟩), .pointer (some ⟨w.heap.size + 3, 0, none⟩), .pointer (some ⟨Bv, 0, none⟩), undef, undef, undef, .string s, .func (.func 73) #[] #[.pointer (some ⟨w.heap.size + 4, 0, none⟩)], lineV x.1, undef, undef, undef, undef, undef, undef, undef, undef, undef, undef, undef, undef, undef, undef, undef, undef, undef, undef, undef, undef], defers := [] })
    (fun x a' s' W W' row hs hg hr => by
      obtain ⟨Bv, q1, q2, q3⟩ := hs
      exact ⟨Bv, q1, abX_block (β := Unit) (b := Bv) (Bx := w.heap.size + 4) (B := W0.heap.size) (fun _ => .cells (lineC x.1) 56 (0, 0)) (fun _ => rfl) (by omega) () W W' row q2 hg hr, q3⟩)
    ?assign ?body ?done ?stop
  case assign =>
    intro l pre x W K hi hK
    unfold lineV at hK ⊢
    gi_wp2
    obtain ⟨⟨⟨i1, i2, i3⟩, i5, i6⟩, i4⟩ := hi
    exact hK _ _ ((KeepsOthers.alloc _ _).from _) ⟨(Below.refl _ W).alloc (by omega) _, (World.grownBy_alloc W _ none).block (w.heap.size + 4) (by omega) (by simp)⟩
      ⟨⟨⟨i1.alloc _, i2.alloc _, i3.alloc _⟩, (coR_ab _ _ _ _ _ (Nat.le_refl _) (by omega) (by omega) (by omega) W0.heap.size (by omega)).alloc _ i5, by simp; omega⟩, i4⟩ ⟨W.heap.size, by omega, World.alloc_heap_new W _, rfl⟩
  case body =>
    rintro l pre ⟨x, hm⟩ a' W hl ⟨r, hr⟩ ⟨⟨⟨i1, i2, i3⟩, ⟨⟨v, hv, hO⟩, hBel⟩, i6⟩, i4⟩ ⟨Bv, hBv, hcv, rfl⟩ hlen
    have hOf := of_line s hs x hm
    obtain ⟨⟨r1, r2, r3, r4, r5⟩, ho⟩ : ∃ o, ofX x = o := ⟨_, rfl⟩
    rw [ho] at hOf
    have C := row_Of.calls x.f0 x.f1 x.f2 x.f3 r1 r2 r3 r4 r5 W (gt_same hG (Nat.le_refl _) hBel) hOf
    dsimp only at hcv
    have c0 : W.cell? ⟨Bv, 0, none⟩ = some (.int .i64 x.f0) := by simp [World.cell?, hcv, lineC]
    have c1 : W.cell? ⟨Bv, 1, none⟩ = some (.string x.f1) := by simp [World.cell?, hcv, lineC]
    have c2 : W.cell? ⟨Bv, 2, none⟩ = some (.int .u8 x.f2) := by simp [World.cell?, hcv, lineC]
    have c3 : W.cell? ⟨Bv, 3, none⟩ = some (.int .i64 x.f3) := by simp [World.cell?, hcv, lineC]
    dsimp only [lineV]
    have hBv' : Bv < W.heap.size := (Array.getElem?_eq_some_iff.1 hcv).1
    have hsn : ∀ f : S56 → Prop, (∀ y ∈ pre.map Subtype.val, f y) → f x → ∀ y ∈ (pre ++ [(⟨x, hm⟩ : LineIn s)]).map Subtype.val, f y := by
      intro f h1 h2 y hy
      rw [List.map_append] at hy
      rcases List.mem_append.1 hy with h | h
      · exact h1 y h
      · simp at h; rw [h]; exact h2
    by_cases z : r5 = 0
    · have z1 : (r5 != 0) = false := by simp [z]
      subst z
      cases r4 with
      | false =>
        gi_wp2_with (first | (refine ⟨trivial, ?_⟩; gi_at_call 43; refine (callsIn_round C).mono ?_; rintro e W1 ⟨rfl, hb1⟩; have k1 := (i1.kept (grown_below hb1 none) (by simp)).alloc (.cells #[.string r1, .int .u64 r2, .int .u64 r3] 44); have k2 := (i2.kept (grown_below hb1 none) (by simp)).alloc (.cells #[.string r1, .int .u64 r2, .int .u64 r3] 44); have k3 := (i3.kept (grown_below hb1 none) (by simp)).alloc (.cells #[.string r1, .int .u64 r2, .int .u64 r3] 44); have kv := (hv.kept (grown_below hb1 none) (by simp)).alloc (.cells #[.string r1, .int .u64 r2, .int .u64 r3] 44); have k1c := k1.cell; have k1f := k1.frozen; have k2c := k2.cell; have k2f := k2.frozen; have k3c := k3.cell; have k3f := k3.frozen; have kvc := kv.cell; have kvf := kv.frozen; have d0 : (W1.alloc (.cells #[.string r1, .int .u64 r2, .int .u64 r3] 44)).cell? ⟨Bv, 0, none⟩ = some (.int .i64 x.f0) := (((below_alloc hb1 _).cell (p := ⟨Bv, 0, none⟩) hBv').trans c0); have hB2 := below_alloc hb1 (.cells #[.string r1, .int .u64 r2, .int .u64 r3] 44)))
        refine ⟨((KeepsOthers.of_grownBy (grown_below hb1 none) (fun j o ej => by cases ej)).trans (KeepsOthers.alloc _ _)).from _, ⟨hB2.mono (by have := hBel.size; omega), hB2.block _ (by omega)⟩, ⟨⟨⟨k1, k2, k3⟩, ?_, by simp; have := hb1.size; omega⟩, hsn (fun y => (ofX y).2.2.2.2 = 0) i4 (by rw [ho])⟩⟩
        refine ⟨⟨v, kv, ?_⟩, hBel.trans (hB2.mono (by have := hBel.size; omega))⟩
        rw [List.map_append, List.map_cons, List.map_nil, accX_snoc, if_neg (by rw [ho]; exact Bool.false_ne_true)]
        exact Kd.R_alloc (Kd.R_below hO hb1) _
      | true =>
        obtain ⟨i0, hi, hz0, hz1, hz2⟩ := info_parts info44
        gi_wp2_with (first | (refine ⟨trivial, ?_⟩; gi_at_call 43; refine (callsIn_round C).mono ?_; rintro e W1 ⟨rfl, hb1⟩; have k1 := (i1.kept (grown_below hb1 none) (by simp)).alloc (.cells #[.string r1, .int .u64 r2, .int .u64 r3] 44); have k2 := (i2.kept (grown_below hb1 none) (by simp)).alloc (.cells #[.string r1, .int .u64 r2, .int .u64 r3] 44); have k3 := (i3.kept (grown_below hb1 none) (by simp)).alloc (.cells #[.string r1, .int .u64 r2, .int .u64 r3] 44); have kv := (hv.kept (grown_below hb1 none) (by simp)).alloc (.cells #[.string r1, .int .u64 r2, .int .u64 r3] 44); have k1c := k1.cell; have k1f := k1.frozen; have k2c := k2.cell; have k2f := k2.frozen; have k3c := k3.cell; have k3f := k3.frozen; have kvc := kv.cell; have kvf := kv.frozen; have d0 : (W1.alloc (.cells #[.string r1, .int .u64 r2, .int .u64 r3] 44)).cell? ⟨Bv, 0, none⟩ = some (.int .i64 x.f0) := (((below_alloc hb1 _).cell (p := ⟨Bv, 0, none⟩) hBv').trans c0); have hB2 := below_alloc hb1 (.cells #[.string r1, .int .u64 r2, .int .u64 r3] 44)) | (gi_at_builtin; apply Classical.byContradiction; intro hNOT))
        apply hNOT
        clear hNOT
        have hO3 := Kd.R_alloc (Kd.R_alloc (Kd.R_below hO hb1) (.cells #[.string r1, .int .u64 r2, .int .u64 r3] 44)) (.cells #[.string r1, .int .u64 r2, .int .u64 r3] 44)
        obtain ⟨h00, inner, hown, hreps⟩ := hO3
        have hcn := cells_new (W1.alloc (.cells #[.string r1, .int .u64 r2, .int .u64 r3] 44)) #[.string r1, .int .u64 r2, .int .u64 r3] 44
        simp only [World.size_alloc] at hcn
        have hal := accX_len (pre.map Subtype.val)
        rw [List.length_map] at hal
        have hlen2 : (allL s).length ≤ 1000000001 := by
          have e1 := linesL_len (splitB s.data.toList) 1
          have e2 := splitB_len s.data.toList
          have e3 : s.data.toList.length = s.size := by simp
          unfold allL
          omega
        refine wpListIn_append_own_at _ rfl _ _ 34 rfl w.heap.size 44 i0 _ 3 32 Tryd.underlying34 hi hz0 hz1 hz2 rfl (by decide) _ _ _ rfl hown ⟨W1.heap.size + 1, 0, none⟩ 1 1 _ rfl rfl hcn (by simp [Value.oneCell']) (by unfold maxLen; omega) (by omega) (by simp; have := hb1.size; omega) ?_
        intro v' w1 hown' hgrow _ hat
        obtain ⟨g', cap', rfl⟩ := ownsRow_succ hown'
        have hO3 := Kd.R_alloc (Kd.R_alloc (Kd.R_below hO hb1) (.cells #[.string r1, .int .u64 r2, .int .u64 r3] 44)) (.cells #[.string r1, .int .u64 r2, .int .u64 r3] 44)
        have kv3 := kv.alloc (.cells #[.string r1, .int .u64 r2, .int .u64 r3] 44)
        have k13 := k1.alloc (.cells #[.string r1, .int .u64 r2, .int .u64 r3] 44)
        have k23 := k2.alloc (.cells #[.string r1, .int .u64 r2, .int .u64 r3] 44)
        have k33 := k3.alloc (.cells #[.string r1, .int .u64 r2, .int .u64 r3] 44)
        have hv1' := kv3.kept hgrow (Kd.R_ne hO3 kv3 (by decide))
        have h11' := k13.kept hgrow (Kd.R_ne hO3 k13 (by decide))
        have h21' := k23.kept hgrow (Kd.R_ne hO3 k23 (by decide))
        have h31' := k33.kept hgrow (Kd.R_ne hO3 k33 (by decide))
        have hc1 := hv1'.cell
        have hfr1 := hv1'.frozen
        have hO1 : Kd.R k44 44 w1 w.heap.size (fun k => k ≠ w.heap.size + 4) _ (accX (pre.map Subtype.val) ++ [(⟨r1, ⟨r2, r3⟩⟩ : S44)]) :=
          Kd.R_appended h00 hreps (k44_mkM _ w.heap.size (fun _ => False) (⟨r1, ⟨r2, r3⟩⟩ : S44)) (fun _ hk => hk.elim) (fun k hk => by simp at hk; have := hb1.size; omega) hown' hgrow (hat.imp_right fun h => ⟨_, h, Nat.le_refl _⟩)
        have hBv2 : some (w.heap.size + 3) ≠ (Value.slice (some ⟨g', 0, none⟩) ((accX (pre.map Subtype.val)).length + 1) cap').ownBlock := Kd.R_ne hO1 hv1' (by decide)
        have hty := Kd.R_typed hO3
        have hbs := Kd.R_base hO
        have hbx : some (w.heap.size + 4) ≠ v.ownBlock := fun e => hO.1 (w.heap.size + 4) e.symm rfl
        have hsz1 := hgrow.size
        have hsz2 := hb1.size
        have hB3 : Below w.heap.size W1 (w1.setCell ⟨w.heap.size + 3, 0, none⟩ (.slice (some ⟨g', 0, none⟩) ((accX (pre.map Subtype.val)).length + 1) cap')) :=
          (((((Below.refl w.heap.size W1).alloc (by omega) _).alloc (by simp; omega) _).grown hgrow (by simp; omega) (fun j ej => hbs j ej)).setCell (p := ⟨w.heap.size + 3, 0, none⟩) (by simp) _)
        have hB4 := (hb1.mono (show w.heap.size ≤ W.heap.size by omega)).trans hB3
        gi_wp2
        refine ⟨?_, ⟨hB4, ?_⟩, ⟨⟨⟨?_, ?_, ?_⟩, ⟨⟨_, hv1'.set _, ?_⟩, hBel.trans hB4⟩, ?_⟩, hsn (fun y => (ofX y).2.2.2.2 = 0) i4 (by rw [ho])⟩⟩
        · refine (((((KeepsOthers.of_grownBy (grown_below hb1 none) (fun j o ej => by cases ej)).trans (KeepsOthers.alloc W1 _)).trans (KeepsOthers.alloc _ _)).trans (KeepsOthers.of_grownBy hgrow fun j o ej hj => ?_)).trans (KeepsOthers.setCell _ _ _)).from _
          obtain ⟨cells, hk⟩ := hty j ej
          have hj' := hk.symm.trans hj
          cases hj'
          rfl
        · rw [Below.heap_setCell _ _ _ _ (by simp), hgrow.block (w.heap.size + 4) (by simp; omega) hbx]
          exact ((World.grownBy_alloc _ _ none).block (w.heap.size + 4) (by simp; omega) (by simp)).trans (((World.grownBy_alloc W1 _ none).block (w.heap.size + 4) (by omega) (by simp)).trans (hb1.block _ (by omega)))
        · exact h11'.other (by omega) _
        · exact h21'.other (by omega) _
        · exact h31'.other (by omega) _
        · have e9 : accX ((pre ++ [(⟨x, hm⟩ : LineIn s)]).map Subtype.val) = accX (pre.map Subtype.val) ++ [(⟨r1, ⟨r2, r3⟩⟩ : S44)] := by
            rw [List.map_append, List.map_cons, List.map_nil, accX_snoc, if_pos (by rw [ho])]
            unfold rowX
            rw [ho]
          show Kd.R k44 44 _ _ _ _ (accX ((pre ++ [(⟨x, hm⟩ : LineIn s)]).map Subtype.val))
          rw [e9]
          exact Kd.R_grown2 hO1 rfl (grownBy_setCell' w1 (w.heap.size + 3) _) (fun k e => by cases e; exact hBv2)
        · simp; simp at hsz1; omega
    · have z1 : (r5 != 0) = true := by simp [z]
      gi_wp2_with (first | (refine ⟨trivial, ?_⟩; gi_at_call 43; refine (callsIn_round C).mono ?_; rintro e W1 ⟨rfl, hb1⟩; have k1 := (i1.kept (grown_below hb1 none) (by simp)).alloc (.cells #[.string r1, .int .u64 r2, .int .u64 r3] 44); have k2 := (i2.kept (grown_below hb1 none) (by simp)).alloc (.cells #[.string r1, .int .u64 r2, .int .u64 r3] 44); have k3 := (i3.kept (grown_below hb1 none) (by simp)).alloc (.cells #[.string r1, .int .u64 r2, .int .u64 r3] 44); have kv := (hv.kept (grown_below hb1 none) (by simp)).alloc (.cells #[.string r1, .int .u64 r2, .int .u64 r3] 44); have k1c := k1.cell; have k1f := k1.frozen; have k2c := k2.cell; have k2f := k2.frozen; have k3c := k3.cell; have k3f := k3.frozen; have kvc := kv.cell; have kvf := kv.frozen; have d0 : (W1.alloc (.cells #[.string r1, .int .u64 r2, .int .u64 r3] 44)).cell? ⟨Bv, 0, none⟩ = some (.int .i64 x.f0) := (((below_alloc hb1 _).cell (p := ⟨Bv, 0, none⟩) hBv').trans c0); have hB2 := below_alloc hb1 (.cells #[.string r1, .int .u64 r2, .int .u64 r3] 44)))
      gi_region_with_o fail
      all_goals gi_wp2
      all_goals exact ⟨((((((KeepsOthers.of_grownBy (grown_below hb1 none) (fun j o ej => by cases ej)).trans (KeepsOthers.alloc W1 _)).trans (KeepsOthers.setCell _ _ _)).trans (KeepsOthers.setCell _ _ _)).trans (KeepsOthers.setCell _ _ _)).trans (KeepsOthers.drew _)).from _, rfl, pre.map Subtype.val, x, by simp, i4, by rw [ho]; exact z,
        (((k1.set _).other (by omega) _).other (by omega) _), (((k2.other (by omega) _).set _).other (by omega) _), by rw [ho]; exact (((k3.other (by omega) _).other (by omega) _).set _),
        hBel.trans ((hB2.mono (by have := hBel.size; omega)).trans (((((Below.refl w.heap.size _).setCell (p := ⟨w.heap.size, 0, none⟩) (Nat.le_refl _) _).setCell (p := ⟨w.heap.size + 1, 0, none⟩) (by simp) _).setCell (p := ⟨w.heap.size + 2, 0, none⟩) (by simp) _).drew))⟩
  case done =>
    rintro D ys W hD hys ⟨⟨⟨i1, i2, i3⟩, ⟨⟨v, hv, hO⟩, hBel⟩, i6⟩, i4⟩ hK
    rw [hys] at hO i4
    have hres := rowsL_ok (splitB s.data.toList) 1 [] i4
    rw [List.nil_append] at hres
    obtain ⟨Ao, co, rfl⟩ := Kd.R_slice hO
    have j1 := i1.cell
    have j2 := i1.frozen
    have j3 := i2.cell
    have j4 := i2.frozen
    have j5 := i3.cell
    have j6 := i3.frozen
    have j7 := hv.cell
    have j8 := hv.frozen
    go_wp2
    rw [Exit.noGoto_ret]
    have k1 := (((i1.set (.slice Ao (accX (allL s)).length co)).other (B' := w.heap.size + 1) (by omega) (.int .i64 0)).other (B' := w.heap.size + 2) (by omega) (.int .i64 0))
    have k2 := (((i2.other (B' := w.heap.size) (by omega) (.slice Ao (accX (allL s)).length co)).set (.int .i64 0)).other (B' := w.heap.size + 2) (by omega) (.int .i64 0))
    have k3 := (((i3.other (B' := w.heap.size) (by omega) (.slice Ao (accX (allL s)).length co)).other (B' := w.heap.size + 1) (by omega) (.int .i64 0)).set (.int .i64 0))
    have r1 := Kd.R_grown2 hO rfl (grownBy_setCell' W w.heap.size (.slice Ao (accX (allL s)).length co)) (fun k e => by cases e; exact Kd.R_ne hO i1 (by decide))
    have m2 := (i2.other (B' := w.heap.size) (by omega) (.slice Ao (accX (allL s)).length co))
    have r2 := Kd.R_grown2 r1 rfl (grownBy_setCell' _ (w.heap.size + 1) (.int .i64 0)) (fun k e => by cases e; exact Kd.R_ne r1 m2 (by decide))
    have m3 := (i3.other (B' := w.heap.size) (by omega) (.slice Ao (accX (allL s)).length co)).other (B' := w.heap.size + 1) (by omega) (.int .i64 0)
    have r3 := Kd.R_grown2 r2 rfl (grownBy_setCell' _ (w.heap.size + 2) (.int .i64 0)) (fun k e => by cases e; exact Kd.R_ne r2 m3 (by decide))
    have hb := (((Below.refl w.heap.size W).setCell (p := ⟨w.heap.size, 0, none⟩) (Nat.le_refl _) (.slice Ao (accX (allL s)).length co)).setCell (p := ⟨w.heap.size + 1, 0, none⟩) (by simp) (.int .i64 0)).setCell (p := ⟨w.heap.size + 2, 0, none⟩) (by simp) (.int .i64 0)
    have hK2 : (((W.setCell ⟨w.heap.size, 0, none⟩ (.slice Ao (accX (allL s)).length co)).setCell ⟨w.heap.size + 1, 0, none⟩ (.int .i64 0)).setCell ⟨w.heap.size + 2, 0, none⟩ (.int .i64 0)).heap[D]? = some (.deferred (some [])) := by
      rw [Below.heap_setCell _ _ _ _ (by simp; omega), Below.heap_setCell _ _ _ _ (by simp; omega), Below.heap_setCell _ _ _ _ (by simp; omega)]; exact hK
    have q1 := k1.kept (grownBy_putObj' _ D (.deferred none)) (by simp; omega)
    have q2 := k2.kept (grownBy_putObj' _ D (.deferred none)) (by simp; omega)
    have q3 := k3.kept (grownBy_putObj' _ D (.deferred none)) (by simp; omega)
    refine ⟨by simp, .inl ⟨_, _, rfl, run_takeDeferred hK2, ?_⟩⟩
    refine ⟨_, res3 _ _ _ _ _ rfl rfl rfl q1 q2 q3, ?_⟩
    rw [hres]
    refine ⟨_, rfl, ?_, ?_⟩
    · refine Kd.R_mono (Kd.R_grown2 r3 rfl (grownBy_putObj' _ D _) fun k e e' => ?_) (fun _ _ => trivial)
      cases e
      obtain ⟨cells, hk⟩ := Kd.R_typed r3 D e'.symm
      rw [hK2] at hk
      cases hk
    · exact (hBel.trans hb).trans ((Below.refl _ _).grown (grownBy_putObj' _ D _) (by have := i1.lt; simp; omega) (fun k e => by cases e; omega))
  case stop =>
    rintro D c pre W hD hp ⟨rfl, p, x, e1, e2, e3, e4, e5, e6, e7⟩ hK
    have hres : rowsL 1 [] (splitB s.data.toList) = ([], x.f0, (ofX x).2.2.2.2) := by
      obtain ⟨r, hr⟩ := hp
      refine rowsL_bad (splitB s.data.toList) 1 [] p x r ?_ e2 e3
      show allL s = _
      rw [← hr, e1, List.append_assoc]
      rfl
    refine wpIn_wide.2 ?_
    go_wp2
    rw [Exit.noGoto_ret]
    have q1 := e4.kept (grownBy_putObj' _ D (.deferred none)) (by simp; omega)
    have q2 := e5.kept (grownBy_putObj' _ D (.deferred none)) (by simp; omega)
    have q3 := e6.kept (grownBy_putObj' _ D (.deferred none)) (by simp; omega)
    refine ⟨by simp, .inl ⟨_, _, rfl, run_takeDeferred hK, ?_⟩⟩
    refine ⟨_, res3 _ _ _ _ _ rfl rfl rfl q1 q2 q3, ?_⟩
    rw [hres]
    exact ⟨_, rfl, Kd.R_nil _ _ _ _ _, e7.trans ((Below.refl _ W).grown (grownBy_putObj' W D _) (by have := e4.lt; omega) (fun k e => by cases e; omega))⟩
theorem row_All.calls (a0 : ByteArray) (r1 : List S44) (r2 r3 : Int) (w : World) (hG : GT w) (h : row_All.f a0 = some (r1, r2, r3)) :
    Calls Tryd.prog 45 #[.string a0] w fun e w' => ∃ v0_ : Value, e = .returned (.tuple #[v0_, .int .i64 r2, .int .i64 r3]) ∧ Kd.R k44 44 w' w.heap.size (fun _ => True) v0_ r1 ∧ Below w.heap.size w w' := by
  unfold row_All.f at h
  split at h
  · rename_i hs
    have e := Option.some.inj h
    have := callsIn_wide.1 (rowAll_is a0 hs w hG)
    rw [e] at this
    exact this
  · cases h
end Go.Proofs.YtpkjpiphjdpegaaDoor.P
namespace Go.Proofs.YtpkjpiphjdpegaaDoor.P
open Go.RowKit Go.Proofs.YtpkjpiphjdpegaaDoorW.PrintWords Go.Proofs.YtpkjpiphjdpegaaDoorW.PrintLast Go.Proofs.YtpkjpiphjdpegaaDoorW.PrintMore
attribute [local go_sem] max2_int min2_int max_two min_two max_three min_three max_four min_four
set_option linter.unusedVariables false
set_option linter.unusedSimpArgs false
attribute [local go_sem high] eqA44
mutual
def paymasterlaw10_RowAll.j0 : Nat → ByteArray → Bool → Int → ByteArray → Int → Int → Option (Bool)
  | 0, _, _, _, _, _, _ => none
  | k + 1, x1, x24, x475000, x475001, x475002, x475003 => if x24 = true then (some true) else ((row_Of.f x475000 x475001 x475002 x475003).bind fun bt513 => (if x475003 = 0 then (paymasterlaw10_RowAll.j1 k x1 bt513.2.2.2.1 bt513.2.2.2.2 (x475002 != 2) x475000 x475001 x475002 x475003 bt513.1 bt513.2.1 bt513.2.2.1) else (paymasterlaw10_RowAll.j1 k x1 bt513.2.2.2.1 bt513.2.2.2.2 true x475000 x475001 x475002 x475003 bt513.1 bt513.2.1 bt513.2.2.1)))
def paymasterlaw10_RowAll.j1 : Nat → ByteArray → Bool → Int → Bool → Int → ByteArray → Int → Int → ByteArray → Int → Int → Option (Bool)
  | 0, _, _, _, _, _, _, _, _, _, _, _ => none
  | k + 1, x1, x6, x7, x38, x475000, x475001, x475002, x475003, x519000, x519001, x519002 => if x38 = true then (if (!(x519000.toList == ([] : List UInt8)) || ((!(x519001 == 0) || (!(x519002 == 0))))) = true then (none) else (if x6 = true then (none) else (if x7 = x475003 then ((row_All.f x1).bind fun bt557 => ((paymasterref10_All.f k x1).bind fun bt562 => ((paymasterref10_Same.f k bt557.1 bt562.1).bind fun t567 => (if t567 = true then (if bt557.2.1 = bt562.2.1 then (some (bt557.2.2 == bt562.2.2)) else (none)) else (none))))) else (none)))) else ((paymasterref10_Parse.f k x475001).bind fun bt568 => (if (!(x519000.toList == bt568.1.toList) || ((!(x519001 == bt568.2.1) || (!(x519002 == bt568.2.2.1))))) = true then (none) else (if (x6 != (bt568.2.2.2 == 0)) = true then (none) else (if x7 = bt568.2.2.2 then ((row_All.f x1).bind fun bt584 => ((paymasterref10_All.f k x1).bind fun bt589 => ((paymasterref10_Same.f k bt584.1 bt589.1).bind fun t594 => (if t594 = true then (if bt584.2.1 = bt589.2.1 then (some (bt584.2.2 == bt589.2.2)) else (none)) else (none))))) else (none)))))
end
def paymasterlaw10_RowAll.f (k : Nat) (a0_0 : Int) (a0_1 : ByteArray) (a0_2 : Int) (a0_3 : Int) (a1 : ByteArray) : Option (Bool) := if (a0_1.size : Int) > 300 then (paymasterlaw10_RowAll.j0 k a1 true a0_0 a0_1 a0_2 a0_3) else (paymasterlaw10_RowAll.j0 k a1 (decide ((a1.size : Int) > 3000)) a0_0 a0_1 a0_2 a0_3)
set_option maxHeartbeats 8000000 in
set_option maxRecDepth 100000 in
theorem paymasterlaw10_RowAll.calls (k : Nat) (a0_0 : Int) (a0_1 : ByteArray) (a0_2 : Int) (a0_3 : Int) (a1 : ByteArray) (r : Bool) (w : World) (hG : GT w) (h : paymasterlaw10_RowAll.f k a0_0 a0_1 a0_2 a0_3 a1 = some r) :
    Calls Tryd.prog 10 #[.agg #[.int .i64 a0_0, .string a0_1, .int .u8 a0_2, .int .i64 a0_3], .string a1] w fun e w' => e = .returned (.bool r) ∧ Below w.heap.size w w' := by
  have hu56 := Tryd.underlying56
  have hu44 := Tryd.underlying44
  have HB := Aside0.mk (Below.refl w.heap.size w)
  have H : (if (a0_1.size : Int) > 300 then (paymasterlaw10_RowAll.j0 k a1 true a0_0 a0_1 a0_2 a0_3) else (paymasterlaw10_RowAll.j0 k a1 (decide ((a1.size : Int) > 3000)) a0_0 a0_1 a0_2 a0_3)) = some r := h
  clear h
  have HC3 := Aside0.mk H
  clear H
  go_enter Tryd.func10, Tryd.ntmps10
  go_upto_region 1 with (first | ((with_reducible refine gate_dst (N := 2) rfl ?_); (try (refine gate_guard (by rfl) ?_; dsimp only)); refine box_event ?hg (N := 2) ?hd (cs := #[.int .i64 a0_0, .string a0_1, .int .u8 a0_2, .int .i64 a0_3]) (t := 56) ?hr ?_; (case hd => rfl); (case hg => rfl); (case hr => first | (go_simp; done) | (go_simp; rfl)); intro gb474 hg w4 hbox hb; have n0_ := Aside0.mk (below_step (by repeat (first | (with_reducible first | exact HB.out | apply below_alloc | apply pw_below_drewN | apply below_drew1) | exact HB.out)) hb); have n1_ := Aside0.mk (hbox); have n2_ := Aside0.mk ((by rw [hg]; exact (below_size (by repeat (first | (with_reducible first | exact HB.out | apply below_alloc | apply pw_below_drewN | apply below_drew1) | exact HB.out))) : w.heap.size ≤ gb474)); have n3_ := Aside0.mk ((by rw [hg]; exact (below_size (by repeat (first | (with_reducible first | exact HB.out | apply below_alloc | apply pw_below_drewN | apply below_drew1) | exact HB.out))) : w.heap.size ≤ gb474)); clear HB; have HB := n0_; have BK474 := n1_; have GW474 := n2_; have GE474 := n3_; clear n0_ n1_ n2_ n3_; clear hb hbox hg))
  (try simp only [Act.put, List.setIfInBounds_toArray, List.set_cons_zero, List.set_cons_succ])
  go_cut [24] (fun v24 wc => ∃ (kq : Nat) (x24_2 : Bool), v24 = .bool x24_2 ∧ Aside0 (paymasterlaw10_RowAll.j0 kq a1 x24_2 a0_0 a0_1 a0_2 a0_3 = some r) ∧ Aside0 (kq ≤ k) ∧ Aside0 (wc.heap[gb474]? = some (.cells #[.int .i64 a0_0, .string a0_1, .int .u8 a0_2, .int .i64 a0_3] 56 (0, 0))) ∧ Aside0 (Below w.heap.size w wc))
  case first =>
    have H := HC3.out
    clear HC3
    by_cases c5 : (a0_1.size : Int) > 300
    · rw [if_pos c5] at H
      have c5b0 : decide (300 < (a0_1.size : Int)) = true := decide_eq_true c5
      have c5b1 : decide (300 < a0_1.size) = true := decide_eq_true (by omega)
      clear c5
      (first | rw [c5b0] | (simp only [i64_w, i32_w]; rw [c5b0]) | skip)
      have H' := Aside0.mk H
      clear H
      have hcz6_0 : w4.cell? ⟨gb474, 0, none⟩ = some (.int .i64 a0_0) := (blk_cell BK474.out 0).trans rfl
      have hcz6_1 : w4.cell? ⟨gb474, 1, none⟩ = some (.string a0_1) := (blk_cell BK474.out 1).trans rfl
      have hcz6_2 : w4.cell? ⟨gb474, 2, none⟩ = some (.int .u8 a0_2) := (blk_cell BK474.out 2).trans rfl
      have hcz6_3 : w4.cell? ⟨gb474, 3, none⟩ = some (.int .i64 a0_3) := (blk_cell BK474.out 3).trans rfl
      have hfz6_0 := blk_frozen BK474.out 0
      have hfz6_1 := blk_frozen BK474.out 1
      have hfz6_2 := blk_frozen BK474.out 2
      have hfz6_3 := blk_frozen BK474.out 3
      go_wp2
      go_meet
      case rel => exact ⟨_, (true), (by first | rfl | (simp; done) | (simp [*]; done)), H', ⟨by first | omega | exact Nat.le_refl _⟩, ⟨by (with_reducible repeat (first | refine blk_drewN ?_ _ | refine blk_drew ?_ | refine blk_alloc ?_ _)); exact BK474.out⟩, ⟨by repeat (first | (with_reducible first | exact HB.out | apply below_alloc | apply pw_below_drewN | apply below_drew1 | refine below_set ?_ GE474.out) | exact HB.out)⟩⟩
    · rw [if_neg c5] at H
      have c5b0 : decide (300 < (a0_1.size : Int)) = false := decide_eq_false c5
      have c5b1 : decide (300 < a0_1.size) = false := decide_eq_false (by omega)
      clear c5
      (first | rw [c5b0] | (simp only [i64_w, i32_w]; rw [c5b0]) | skip)
      have H' := Aside0.mk H
      clear H
      have hcz7_0 : w4.cell? ⟨gb474, 0, none⟩ = some (.int .i64 a0_0) := (blk_cell BK474.out 0).trans rfl
      have hcz7_1 : w4.cell? ⟨gb474, 1, none⟩ = some (.string a0_1) := (blk_cell BK474.out 1).trans rfl
      have hcz7_2 : w4.cell? ⟨gb474, 2, none⟩ = some (.int .u8 a0_2) := (blk_cell BK474.out 2).trans rfl
      have hcz7_3 : w4.cell? ⟨gb474, 3, none⟩ = some (.int .i64 a0_3) := (blk_cell BK474.out 3).trans rfl
      have hfz7_0 := blk_frozen BK474.out 0
      have hfz7_1 := blk_frozen BK474.out 1
      have hfz7_2 := blk_frozen BK474.out 2
      have hfz7_3 := blk_frozen BK474.out 3
      go_wp2
      go_meet
      case rel => exact ⟨_, (decide ((a1.size : Int) > 3000)), (by first | rfl | (simp; done) | (simp [*]; done)), H', ⟨by first | omega | exact Nat.le_refl _⟩, ⟨by (with_reducible repeat (first | refine blk_drewN ?_ _ | refine blk_drew ?_ | refine blk_alloc ?_ _)); exact BK474.out⟩, ⟨by repeat (first | (with_reducible first | exact HB.out | apply below_alloc | apply pw_below_drewN | apply below_drew1 | refine below_set ?_ GE474.out) | exact HB.out)⟩⟩
  case rest =>
    clear HC3
    try clear c1
    try clear p2
    try clear c5
    try clear c5b0
    try clear c5b1
    try clear hcz6_0
    try clear hcz6_1
    try clear hcz6_2
    try clear hcz6_3
    try clear hcz7_0
    try clear hcz7_1
    try clear hcz7_2
    try clear hcz7_3
    try clear hfz6_0
    try clear hfz6_1
    try clear hfz6_2
    try clear hfz6_3
    try clear hfz7_0
    try clear hfz7_1
    try clear hfz7_2
    try clear hfz7_3
    obtain ⟨kq, x24_2, rfl, HA, HJ2, BK474, HB⟩ := hcut
    cases kq with
    | zero => exact absurd HA.out (by simp [paymasterlaw10_RowAll.j0])
    | succ kj2 =>
      have H := HA.out
      clear HA
      simp only [paymasterlaw10_RowAll.j0] at H
      by_cases c8 : x24_2 = true
      · subst c8
        have H1 : (some true) = some r := by rw [if_pos rfl] at H; exact H
        clear H
        have H := H1
        clear H1
        obtain rfl := Option.some.inj H
        go_wp2
        go_ret
        exact ⟨by first | rfl | (simp [errW_none, errW_some] <;> rfl) | (simp [*, errW_none, errW_some] <;> rfl), by repeat (first | (with_reducible first | exact HB.out | apply below_alloc | apply pw_below_drewN | apply below_drew1 | refine below_set ?_ GE474.out) | exact HB.out)⟩
      · replace c8 := Bool.eq_false_iff.mpr c8
        subst c8
        have H1 : ((row_Of.f a0_0 a0_1 a0_2 a0_3).bind fun bt513 => (if a0_3 = 0 then (paymasterlaw10_RowAll.j1 kj2 a1 bt513.2.2.2.1 bt513.2.2.2.2 (a0_2 != 2) a0_0 a0_1 a0_2 a0_3 bt513.1 bt513.2.1 bt513.2.2.1) else (paymasterlaw10_RowAll.j1 kj2 a1 bt513.2.2.2.1 bt513.2.2.2.2 true a0_0 a0_1 a0_2 a0_3 bt513.1 bt513.2.1 bt513.2.2.1))) = some r := by rw [if_neg (show ¬ (false = true) by decide)] at H; exact H
        clear H
        have H := H1
        clear H1
        replace H := Option.bind_eq_some_iff.mp H
        obtain ⟨⟨t513, t514, t515, t516, t517⟩, A90, H⟩ := H
        replace H : (if a0_3 = 0 then (paymasterlaw10_RowAll.j1 kj2 a1 t516 t517 (a0_2 != 2) a0_0 a0_1 a0_2 a0_3 t513 t514 t515) else (paymasterlaw10_RowAll.j1 kj2 a1 t516 t517 true a0_0 a0_1 a0_2 a0_3 t513 t514 t515)) = some r := H
        have A9 := Aside0.mk A90
        clear A90
        have HC10 := Aside0.mk H
        clear H
        have hcz11_0 : wc.cell? ⟨gb474, 0, none⟩ = some (.int .i64 a0_0) := (blk_cell BK474.out 0).trans rfl
        have hcz11_1 : wc.cell? ⟨gb474, 1, none⟩ = some (.string a0_1) := (blk_cell BK474.out 1).trans rfl
        have hcz11_2 : wc.cell? ⟨gb474, 2, none⟩ = some (.int .u8 a0_2) := (blk_cell BK474.out 2).trans rfl
        have hcz11_3 : wc.cell? ⟨gb474, 3, none⟩ = some (.int .i64 a0_3) := (blk_cell BK474.out 3).trans rfl
        have hfz11_0 := blk_frozen BK474.out 0
        have hfz11_1 := blk_frozen BK474.out 1
        have hfz11_2 := blk_frozen BK474.out 2
        have hfz11_3 := blk_frozen BK474.out 3
        go_upto_region 4 with (first | ((with_reducible refine gate_callee (f := 43) rfl ?_); refine goesL_ (some 27) rfl rfl Tryd.func43 (by kernel_rfl) rfl #[.agg #[.int .i64 a0_0, .string a0_1, .int .u8 a0_2, .int .i64 a0_3]] rfl (by (try simp only [List.map_toArray, List.map_cons, List.map_nil]); first | done | rfl | (simp only [List.length_drop, List.length_take]; rfl)) ?_; (with_reducible refine (row_Of.calls a0_0 a0_1 a0_2 a0_3 t513 t514 t515 t516 t517 _ ?side1 A9.out).mono ?_); (case side1 => exact gt_below hG (by repeat (first | (with_reducible first | exact HB.out | apply below_alloc | apply pw_below_drewN | apply below_drew1 | refine below_set ?_ GE474.out) | exact HB.out))); rintro e w12 ⟨rfl, hb⟩; refine ⟨_, rfl, ?_⟩; have n0_ := Aside0.mk (blk_below (g := gb474) (o := .cells #[.int .i64 a0_0, .string a0_1, .int .u8 a0_2, .int .i64 a0_3] 56 (0, 0)) (by (with_reducible repeat (first | refine blk_drewN ?_ _ | refine blk_drew ?_ | refine blk_alloc ?_ _)); exact BK474.out) hb); have n1_ := Aside0.mk (below_step (by repeat (first | (with_reducible first | exact HB.out | apply below_alloc | apply pw_below_drewN | apply below_drew1 | refine below_set ?_ GE474.out) | exact HB.out)) hb); clear BK474; clear HB; have BK474 := n0_; have HB := n1_; clear n0_ n1_; (try clear hb); (try clear hb2); (try clear hk); (try clear hi)) | ((with_reducible refine gate_dst (N := 5) rfl ?_); (try (refine gate_guard (by rfl) ?_; dsimp only)); refine box_event ?hg (N := 5) ?hd (cs := #[.string (⟨#[]⟩ : ByteArray), .int .u64 0, .int .u64 0]) (t := 44) ?hr ?_; (case hd => rfl); (case hg => rfl); (case hr => first | (go_simp; done) | (go_simp; rfl)); intro gb518 hg w13 hbox hb; have n0_ := Aside0.mk (blk_below (g := gb474) (o := .cells #[.int .i64 a0_0, .string a0_1, .int .u8 a0_2, .int .i64 a0_3] 56 (0, 0)) (by (with_reducible repeat (first | refine blk_drewN ?_ _ | refine blk_drew ?_ | refine blk_alloc ?_ _)); exact BK474.out) hb); have n1_ := Aside0.mk (below_step (by repeat (first | (with_reducible first | exact HB.out | apply below_alloc | apply pw_below_drewN | apply below_drew1 | refine below_set ?_ GE474.out) | exact HB.out)) hb); have n2_ := Aside0.mk (hbox); have n3_ := Aside0.mk ((by rw [hg]; exact (below_size (by repeat (first | (with_reducible first | exact HB.out | apply below_alloc | apply pw_below_drewN | apply below_drew1 | refine below_set ?_ GE474.out) | exact HB.out))) : w.heap.size ≤ gb518)); have n4_ := Aside0.mk ((by rw [hg]; exact (below_size (by repeat (first | (with_reducible first | exact HB.out | apply below_alloc | apply pw_below_drewN | apply below_drew1 | refine below_set ?_ GE474.out) | exact HB.out))) : w.heap.size ≤ gb518)); have n5_ := Aside0.mk ((by rw [hg]; exact Nat.ne_of_lt (blk_lt (g := gb474) (o := .cells #[.int .i64 a0_0, .string a0_1, .int .u8 a0_2, .int .i64 a0_3] 56 (0, 0)) (by (with_reducible repeat (first | refine blk_drewN ?_ _ | refine blk_drew ?_ | refine blk_alloc ?_ _)); exact BK474.out)) : gb474 ≠ gb518)); have n6_ := Aside0.mk ((by rw [hg]; exact Nat.ne_of_gt (blk_lt (g := gb474) (o := .cells #[.int .i64 a0_0, .string a0_1, .int .u8 a0_2, .int .i64 a0_3] 56 (0, 0)) (by (with_reducible repeat (first | refine blk_drewN ?_ _ | refine blk_drew ?_ | refine blk_alloc ?_ _)); exact BK474.out)) : gb518 ≠ gb474)); clear BK474; clear HB; have BK474 := n0_; have HB := n1_; have BK518 := n2_; have GW518 := n3_; have GE518 := n4_; have NB474_518 := n5_; have NB518_474 := n6_; clear n0_ n1_ n2_ n3_ n4_ n5_ n6_; clear hb hbox hg; have hnb14 := NB518_474.out; have hnc14 := NB474_518.out; have hcz15_0 : w13.cell? ⟨gb518, 0, none⟩ = some (.string (⟨#[]⟩ : ByteArray)) := (blk_cell BK518.out 0).trans rfl; have hcz15_1 : w13.cell? ⟨gb518, 1, none⟩ = some (.int .u64 0) := (blk_cell BK518.out 1).trans rfl; have hcz15_2 : w13.cell? ⟨gb518, 2, none⟩ = some (.int .u64 0) := (blk_cell BK518.out 2).trans rfl; have hfz15_0 := blk_frozen BK518.out 0; have hfz15_1 := blk_frozen BK518.out 1; have hfz15_2 := blk_frozen BK518.out 2))
        (try simp only [Act.put, List.setIfInBounds_toArray, List.set_cons_zero, List.set_cons_succ])
        go_cut [38] (fun v38 wc => ∃ (kq : Nat) (x38_9 : Bool), v38 = .bool x38_9 ∧ Aside0 (paymasterlaw10_RowAll.j1 kq a1 t516 t517 x38_9 a0_0 a0_1 a0_2 a0_3 t513 t514 t515 = some r) ∧ Aside0 (kq ≤ kj2) ∧ Aside0 (wc.heap[gb474]? = some (.cells #[.int .i64 a0_0, .string a0_1, .int .u8 a0_2, .int .i64 a0_3] 56 (0, 0))) ∧ Aside0 (wc.heap[gb518]? = some (.cells #[.string t513, .int .u64 t514, .int .u64 t515] 44 (0, 0))) ∧ Aside0 (Below w.heap.size w wc))
        case first =>
          have H := HC10.out
          clear HC10
          by_cases c16 : a0_3 = 0
          · rw [if_pos c16] at H
            have c16b0 : (a0_3 == 0) = true := beq_iff_eq.mpr c16
            have c16b1 : (a0_3 != 0) = false := bne_eq_false_iff_eq.mpr c16
            clear c16
            (first | rw [c16b0] | (simp only [i64_w, i32_w]; rw [c16b0]) | skip)
            have H' := Aside0.mk H
            clear H
            have hnb17 := NB474_518.out
            have hnc17 := NB518_474.out
            have hcz18_0 : w13.cell? ⟨gb474, 0, none⟩ = some (.int .i64 a0_0) := (blk_cell BK474.out 0).trans rfl
            have hcz18_1 : w13.cell? ⟨gb474, 1, none⟩ = some (.string a0_1) := (blk_cell BK474.out 1).trans rfl
            have hcz18_2 : w13.cell? ⟨gb474, 2, none⟩ = some (.int .u8 a0_2) := (blk_cell BK474.out 2).trans rfl
            have hcz18_3 : w13.cell? ⟨gb474, 3, none⟩ = some (.int .i64 a0_3) := (blk_cell BK474.out 3).trans rfl
            have hfz18_0 := blk_frozen BK474.out 0
            have hfz18_1 := blk_frozen BK474.out 1
            have hfz18_2 := blk_frozen BK474.out 2
            have hfz18_3 := blk_frozen BK474.out 3
            go_wp2
            go_meet
            case rel => exact ⟨_, ((a0_2 != 2)), (by first | rfl | (simp; done) | (simp [*]; done)), H', ⟨by have := HJ2.out; first | omega | exact Nat.le_refl _⟩, ⟨by (with_reducible repeat (first | refine blk_drewN ?_ _ | refine blk_drew ?_ | refine blk_alloc ?_ _)); refine blk_far ?_ NB474_518.out _; (with_reducible repeat (first | refine blk_drewN ?_ _ | refine blk_drew ?_ | refine blk_alloc ?_ _)); refine blk_far ?_ NB474_518.out _; (with_reducible repeat (first | refine blk_drewN ?_ _ | refine blk_drew ?_ | refine blk_alloc ?_ _)); refine blk_far ?_ NB474_518.out _; (with_reducible repeat (first | refine blk_drewN ?_ _ | refine blk_drew ?_ | refine blk_alloc ?_ _)); exact BK474.out⟩, ⟨by (with_reducible repeat (first | refine blk_drewN ?_ _ | refine blk_drew ?_ | refine blk_alloc ?_ _)); refine blk_put (cs := #[.string t513, .int .u64 t514, .int .u64 0]) ?_ 2 _ rfl; (with_reducible repeat (first | refine blk_drewN ?_ _ | refine blk_drew ?_ | refine blk_alloc ?_ _)); refine blk_put (cs := #[.string t513, .int .u64 0, .int .u64 0]) ?_ 1 _ rfl; (with_reducible repeat (first | refine blk_drewN ?_ _ | refine blk_drew ?_ | refine blk_alloc ?_ _)); refine blk_put (cs := #[.string (⟨#[]⟩ : ByteArray), .int .u64 0, .int .u64 0]) ?_ 0 _ rfl; (with_reducible repeat (first | refine blk_drewN ?_ _ | refine blk_drew ?_ | refine blk_alloc ?_ _)); exact BK518.out⟩, ⟨by repeat (first | (with_reducible first | exact HB.out | apply below_alloc | apply pw_below_drewN | apply below_drew1 | refine below_set ?_ GE474.out | refine below_set ?_ GE518.out) | exact HB.out)⟩⟩
          · rw [if_neg c16] at H
            have c16b0 : (a0_3 == 0) = false := beq_eq_false_iff_ne.mpr c16
            have c16b1 : (a0_3 != 0) = true := bne_iff_ne.mpr c16
            (first | rw [c16b0] | (simp only [i64_w, i32_w]; rw [c16b0]) | skip)
            have H' := Aside0.mk H
            clear H
            have hnb19 := NB474_518.out
            have hnc19 := NB518_474.out
            have hcz20_0 : w13.cell? ⟨gb474, 0, none⟩ = some (.int .i64 a0_0) := (blk_cell BK474.out 0).trans rfl
            have hcz20_1 : w13.cell? ⟨gb474, 1, none⟩ = some (.string a0_1) := (blk_cell BK474.out 1).trans rfl
            have hcz20_2 : w13.cell? ⟨gb474, 2, none⟩ = some (.int .u8 a0_2) := (blk_cell BK474.out 2).trans rfl
            have hcz20_3 : w13.cell? ⟨gb474, 3, none⟩ = some (.int .i64 a0_3) := (blk_cell BK474.out 3).trans rfl
            have hfz20_0 := blk_frozen BK474.out 0
            have hfz20_1 := blk_frozen BK474.out 1
            have hfz20_2 := blk_frozen BK474.out 2
            have hfz20_3 := blk_frozen BK474.out 3
            go_wp2
            go_meet
            case rel => exact ⟨_, (true), (by first | rfl | (simp; done) | (simp [*]; done)), H', ⟨by have := HJ2.out; first | omega | exact Nat.le_refl _⟩, ⟨by (with_reducible repeat (first | refine blk_drewN ?_ _ | refine blk_drew ?_ | refine blk_alloc ?_ _)); refine blk_far ?_ NB474_518.out _; (with_reducible repeat (first | refine blk_drewN ?_ _ | refine blk_drew ?_ | refine blk_alloc ?_ _)); refine blk_far ?_ NB474_518.out _; (with_reducible repeat (first | refine blk_drewN ?_ _ | refine blk_drew ?_ | refine blk_alloc ?_ _)); refine blk_far ?_ NB474_518.out _; (with_reducible repeat (first | refine blk_drewN ?_ _ | refine blk_drew ?_ | refine blk_alloc ?_ _)); exact BK474.out⟩, ⟨by (with_reducible repeat (first | refine blk_drewN ?_ _ | refine blk_drew ?_ | refine blk_alloc ?_ _)); refine blk_put (cs := #[.string t513, .int .u64 t514, .int .u64 0]) ?_ 2 _ rfl; (with_reducible repeat (first | refine blk_drewN ?_ _ | refine blk_drew ?_ | refine blk_alloc ?_ _)); refine blk_put (cs := #[.string t513, .int .u64 0, .int .u64 0]) ?_ 1 _ rfl; (with_reducible repeat (first | refine blk_drewN ?_ _ | refine blk_drew ?_ | refine blk_alloc ?_ _)); refine blk_put (cs := #[.string (⟨#[]⟩ : ByteArray), .int .u64 0, .int .u64 0]) ?_ 0 _ rfl; (with_reducible repeat (first | refine blk_drewN ?_ _ | refine blk_drew ?_ | refine blk_alloc ?_ _)); exact BK518.out⟩, ⟨by repeat (first | (with_reducible first | exact HB.out | apply below_alloc | apply pw_below_drewN | apply below_drew1 | refine below_set ?_ GE474.out | refine below_set ?_ GE518.out) | exact HB.out)⟩⟩
        case rest =>
          clear HC10
          try clear c1
          try clear p2
          try clear c4
          try clear c5
          try clear c5b0
          try clear c5b1
          try clear c8
          try clear c10
          try clear c14
          try clear c16
          try clear c16b0
          try clear c16b1
          try clear c17
          try clear c19
          try clear hcz11_0
          try clear hcz11_1
          try clear hcz11_2
          try clear hcz11_3
          try clear hcz15_0
          try clear hcz15_1
          try clear hcz15_2
          try clear hcz18_0
          try clear hcz18_1
          try clear hcz18_2
          try clear hcz18_3
          try clear hcz20_0
          try clear hcz20_1
          try clear hcz20_2
          try clear hcz20_3
          try clear hcz6_0
          try clear hcz6_1
          try clear hcz6_2
          try clear hcz6_3
          try clear hcz7_0
          try clear hcz7_1
          try clear hcz7_2
          try clear hcz7_3
          try clear hfz11_0
          try clear hfz11_1
          try clear hfz11_2
          try clear hfz11_3
          try clear hfz15_0
          try clear hfz15_1
          try clear hfz15_2
          try clear hfz18_0
          try clear hfz18_1
          try clear hfz18_2
          try clear hfz18_3
          try clear hfz20_0
          try clear hfz20_1
          try clear hfz20_2
          try clear hfz20_3
          try clear hfz6_0
          try clear hfz6_1
          try clear hfz6_2
          try clear hfz6_3
          try clear hfz7_0
          try clear hfz7_1
          try clear hfz7_2
          try clear hfz7_3
          try clear p2
          obtain ⟨kq, x38_9, rfl, HA, HJ9, BK474, BK518, HB⟩ := hcut
          cases kq with
          | zero => exact absurd HA.out (by simp [paymasterlaw10_RowAll.j1])
          | succ kj9 =>
            have H := HA.out
            clear HA
            simp only [paymasterlaw10_RowAll.j1] at H
            by_cases c21 : x38_9 = true
            · subst c21
              have H1 : (if (!(t513.toList == ([] : List UInt8)) || ((!(t514 == 0) || (!(t515 == 0))))) = true then (none) else (if t516 = true then (none) else (if t517 = a0_3 then ((row_All.f a1).bind fun bt557 => ((paymasterref10_All.f kj9 a1).bind fun bt562 => ((paymasterref10_Same.f kj9 bt557.1 bt562.1).bind fun t567 => (if t567 = true then (if bt557.2.1 = bt562.2.1 then (some (bt557.2.2 == bt562.2.2)) else (none)) else (none))))) else (none)))) = some r := by rw [if_pos rfl] at H; exact H
              clear H
              have H := H1
              clear H1
              by_cases c22 : (!(t513.toList == ([] : List UInt8)) || ((!(t514 == 0) || (!(t515 == 0))))) = true
              · rw [if_pos c22] at H
                exact absurd H (by simp)
              · rw [if_neg c22] at H
                have c22b0 : (!(t513.toList == ([] : List UInt8)) || ((!(t514 == 0) || (!(t515 == 0))))) = false := by simpa using c22
                try have c22b9 : (!(t513.toList.isEmpty) || ((!(t514 == 0) || (!(t515 == 0))))) = false := by have e_ := c22b0; simp only [show ∀ l_ : List UInt8, (l_ == []) = l_.isEmpty from fun l_ => by cases l_ <;> rfl] at e_; exact e_
                clear c22
                by_cases c23 : t516 = true
                · subst c23
                  have H1 : (none) = some r := by rw [if_pos rfl] at H; exact H
                  clear H
                  have H := H1
                  clear H1
                  exact absurd H (by simp)
                · replace c23 := Bool.eq_false_iff.mpr c23
                  subst c23
                  have H1 : (if t517 = a0_3 then ((row_All.f a1).bind fun bt557 => ((paymasterref10_All.f kj9 a1).bind fun bt562 => ((paymasterref10_Same.f kj9 bt557.1 bt562.1).bind fun t567 => (if t567 = true then (if bt557.2.1 = bt562.2.1 then (some (bt557.2.2 == bt562.2.2)) else (none)) else (none))))) else (none)) = some r := by rw [if_neg (show ¬ (false = true) by decide)] at H; exact H
                  clear H
                  have H := H1
                  clear H1
                  by_cases c24 : t517 = a0_3
                  · rw [if_pos c24] at H
                    have c24b0 : (t517 == a0_3) = true := beq_iff_eq.mpr c24
                    have c24b1 : (t517 != a0_3) = false := bne_eq_false_iff_eq.mpr c24
                    clear c24
                    replace H := Option.bind_eq_some_iff.mp H
                    obtain ⟨⟨t557, t558, t559⟩, A250, H⟩ := H
                    replace H : ((paymasterref10_All.f kj9 a1).bind fun bt562 => ((paymasterref10_Same.f kj9 t557 bt562.1).bind fun t567 => (if t567 = true then (if t558 = bt562.2.1 then (some (t559 == bt562.2.2)) else (none)) else (none)))) = some r := H
                    have A25 := Aside0.mk A250
                    clear A250
                    replace H := Option.bind_eq_some_iff.mp H
                    obtain ⟨⟨t562, t563, t564⟩, A260, H⟩ := H
                    replace H : ((paymasterref10_Same.f kj9 t557 t562).bind fun t567 => (if t567 = true then (if t558 = t563 then (some (t559 == t564)) else (none)) else (none))) = some r := H
                    have A26 := Aside0.mk A260
                    clear A260
                    replace H := Option.bind_eq_some_iff.mp H
                    obtain ⟨t567, A270, H⟩ := H
                    replace H : (if t567 = true then (if t558 = t563 then (some (t559 == t564)) else (none)) else (none)) = some r := H
                    have A27 := Aside0.mk A270
                    clear A270
                    by_cases c28 : t567 = true
                    · subst c28
                      have H1 : (if t558 = t563 then (some (t559 == t564)) else (none)) = some r := by rw [if_pos rfl] at H; exact H
                      clear H
                      have H := H1
                      clear H1
                      by_cases c29 : t558 = t563
                      · rw [if_pos c29] at H
                        have c29b0 : (t558 == t563) = true := beq_iff_eq.mpr c29
                        have c29b1 : (t558 != t563) = false := bne_eq_false_iff_eq.mpr c29
                        clear c29
                        obtain rfl := Option.some.inj H
                        have hnb30 := NB518_474.out
                        have hnc30 := NB474_518.out
                        have hcz31_0 : wc.cell? ⟨gb518, 0, none⟩ = some (.string t513) := (blk_cell BK518.out 0).trans rfl
                        have hcz31_1 : wc.cell? ⟨gb518, 1, none⟩ = some (.int .u64 t514) := (blk_cell BK518.out 1).trans rfl
                        have hcz31_2 : wc.cell? ⟨gb518, 2, none⟩ = some (.int .u64 t515) := (blk_cell BK518.out 2).trans rfl
                        have hfz31_0 := blk_frozen BK518.out 0
                        have hfz31_1 := blk_frozen BK518.out 1
                        have hfz31_2 := blk_frozen BK518.out 2
                        have hcz32_0 : wc.cell? ⟨gb474, 0, none⟩ = some (.int .i64 a0_0) := (blk_cell BK474.out 0).trans rfl
                        have hcz32_1 : wc.cell? ⟨gb474, 1, none⟩ = some (.string a0_1) := (blk_cell BK474.out 1).trans rfl
                        have hcz32_2 : wc.cell? ⟨gb474, 2, none⟩ = some (.int .u8 a0_2) := (blk_cell BK474.out 2).trans rfl
                        have hcz32_3 : wc.cell? ⟨gb474, 3, none⟩ = some (.int .i64 a0_3) := (blk_cell BK474.out 3).trans rfl
                        have hfz32_0 := blk_frozen BK474.out 0
                        have hfz32_1 := blk_frozen BK474.out 1
                        have hfz32_2 := blk_frozen BK474.out 2
                        have hfz32_3 := blk_frozen BK474.out 3
                        go_wp2_with (first | ((with_reducible refine gate_callee (f := 45) rfl ?_); refine goesL_ (some 73) rfl rfl Tryd.func45 (by kernel_rfl) rfl #[.string a1] rfl (by (try simp only [List.map_toArray, List.map_cons, List.map_nil]); first | done | rfl | (simp only [List.length_drop, List.length_take]; rfl)) ?_; (with_reducible refine (row_All.calls a1 t557 t558 t559 _ ?side1 A25.out).mono ?_); (case side1 => exact gt_below hG (by repeat (first | (with_reducible first | exact HB.out | apply below_alloc | apply pw_below_drewN | apply below_drew1 | refine below_set ?_ GE474.out | refine below_set ?_ GE518.out) | exact HB.out))); rintro e w33 ⟨v560, rfl, ho0, hb⟩; refine ⟨_, rfl, ?_⟩; have n0_ := Aside0.mk (Kd.R_lower (Kd.R_newB ho0 (g := gb518) (o := .cells #[.string t513, .int .u64 t514, .int .u64 t515] 44 (0, 0)) (by (with_reducible repeat (first | refine blk_drewN ?_ _ | refine blk_drew ?_ | refine blk_alloc ?_ _)); exact BK518.out)) (below_size (by repeat (first | (with_reducible first | exact HB.out | apply below_alloc | apply pw_below_drewN | apply below_drew1 | refine below_set ?_ GE474.out | refine below_set ?_ GE518.out) | exact HB.out)))); have n1_ := Aside0.mk (blk_below (g := gb474) (o := .cells #[.int .i64 a0_0, .string a0_1, .int .u8 a0_2, .int .i64 a0_3] 56 (0, 0)) (by (with_reducible repeat (first | refine blk_drewN ?_ _ | refine blk_drew ?_ | refine blk_alloc ?_ _)); exact BK474.out) hb); have n2_ := Aside0.mk (blk_below (g := gb518) (o := .cells #[.string t513, .int .u64 t514, .int .u64 t515] 44 (0, 0)) (by (with_reducible repeat (first | refine blk_drewN ?_ _ | refine blk_drew ?_ | refine blk_alloc ?_ _)); exact BK518.out) hb); have n3_ := Aside0.mk (below_step (by repeat (first | (with_reducible first | exact HB.out | apply below_alloc | apply pw_below_drewN | apply below_drew1 | refine below_set ?_ GE474.out | refine below_set ?_ GE518.out) | exact HB.out)) hb); clear BK474; clear BK518; clear HB; have HO561 := n0_; have BK474 := n1_; have BK518 := n2_; have HB := n3_; clear n0_ n1_ n2_ n3_; (try clear hb); (try clear hb2); (try clear hk); (try clear hi); (try clear ho0)) | ((with_reducible refine gate_callee (f := 46) rfl ?_); refine goesL_ (some 79) rfl rfl Tryd.func46 (by kernel_rfl) rfl #[.string a1] rfl (by (try simp only [List.map_toArray, List.map_cons, List.map_nil]); first | done | rfl | (simp only [List.length_drop, List.length_take]; rfl)) ?_; (with_reducible refine (paymasterref10_All.calls kj9 a1 t562 t563 t564 _ A26.out).mono ?_); rintro e w34 ⟨v565, rfl, ho0, hb⟩; refine ⟨_, rfl, ?_⟩; have n0_ := Aside0.mk (Kd.R_elder' (by (with_reducible repeat (first | apply Kd.R_alloc | apply Kd.R_drewN | apply Kd.R_drew)); exact HO561.out) (Kd.R_base ho0) hb); have n1_ := Aside0.mk (Kd.R_lower (Kd.R_newB (Kd.R_new' ho0 (Kd.R_lt (by (with_reducible repeat (first | apply Kd.R_alloc | apply Kd.R_drewN | apply Kd.R_drew)); exact HO561.out))) (g := gb518) (o := .cells #[.string t513, .int .u64 t514, .int .u64 t515] 44 (0, 0)) (by (with_reducible repeat (first | refine blk_drewN ?_ _ | refine blk_drew ?_ | refine blk_alloc ?_ _)); exact BK518.out)) (below_size (by repeat (first | (with_reducible first | exact HB.out | apply below_alloc | apply pw_below_drewN | apply below_drew1 | refine below_set ?_ GE474.out | refine below_set ?_ GE518.out) | exact HB.out)))); have n2_ := Aside0.mk (blk_below (g := gb474) (o := .cells #[.int .i64 a0_0, .string a0_1, .int .u8 a0_2, .int .i64 a0_3] 56 (0, 0)) (by (with_reducible repeat (first | refine blk_drewN ?_ _ | refine blk_drew ?_ | refine blk_alloc ?_ _)); exact BK474.out) hb); have n3_ := Aside0.mk (blk_below (g := gb518) (o := .cells #[.string t513, .int .u64 t514, .int .u64 t515] 44 (0, 0)) (by (with_reducible repeat (first | refine blk_drewN ?_ _ | refine blk_drew ?_ | refine blk_alloc ?_ _)); exact BK518.out) hb); have n4_ := Aside0.mk (below_step (by repeat (first | (with_reducible first | exact HB.out | apply below_alloc | apply pw_below_drewN | apply below_drew1 | refine below_set ?_ GE474.out | refine below_set ?_ GE518.out) | exact HB.out)) hb); clear HO561; clear BK474; clear BK518; clear HB; have HO561 := n0_; have HO566 := n1_; have BK474 := n2_; have BK518 := n3_; have HB := n4_; clear n0_ n1_ n2_ n3_ n4_; (try clear hb); (try clear hb2); (try clear hk); (try clear hi); (try clear ho0); obtain ⟨Ao35, co35, eo35⟩ := Kd.R_slice HO561.out; subst eo35; obtain ⟨Ao36, co36, eo36⟩ := Kd.R_slice HO566.out; subst eo36) | ((with_reducible refine gate_callee (f := 28) rfl ?_); refine goesL_ (some 85) rfl rfl Tryd.func28 (by kernel_rfl) rfl #[.slice Ao35 t557.length co35, .slice Ao36 t562.length co36] rfl (by (try simp only [List.map_toArray, List.map_cons, List.map_nil]); first | done | rfl | (simp only [List.length_drop, List.length_take]; rfl)) ?_; (with_reducible refine (paymasterref10_Same.calls kj9 _ _ t557 _ _ t562 true _ ?side1 ?side2 ?side3 ?side4 A27.out).mono ?_); (case side1 => repeat (first | exact (Kd.R_reads' HO561.out).2.2 | (with_reducible refine Kd.C_alloc ?_ _) | (with_reducible refine Kd.C_drewN ?_ _) | (with_reducible refine Kd.C_drew ?_))); (case side2 => exact (Kd.R_reads' HO561.out).2.1); (case side3 => repeat (first | exact (Kd.R_reads' HO566.out).2.2 | (with_reducible refine Kd.C_alloc ?_ _) | (with_reducible refine Kd.C_drewN ?_ _) | (with_reducible refine Kd.C_drew ?_))); (case side4 => exact (Kd.R_reads' HO566.out).2.1); rintro e w' ⟨rfl, ⟨nd, rfl⟩⟩; refine ⟨_, rfl, ?_⟩))
                        go_ret
                        exact ⟨by first | rfl | (simp [errW_none, errW_some] <;> rfl) | (simp [*, errW_none, errW_some] <;> rfl), by repeat (first | (with_reducible first | exact HB.out | apply below_alloc | apply pw_below_drewN | apply below_drew1 | refine below_set ?_ GE474.out | refine below_set ?_ GE518.out) | exact HB.out)⟩
                      · rw [if_neg c29] at H
                        exact absurd H (by simp)
                    · replace c28 := Bool.eq_false_iff.mpr c28
                      subst c28
                      have H1 : (none) = some r := by rw [if_neg (show ¬ (false = true) by decide)] at H; exact H
                      clear H
                      have H := H1
                      clear H1
                      exact absurd H (by simp)
                  · rw [if_neg c24] at H
                    exact absurd H (by simp)
            · replace c21 := Bool.eq_false_iff.mpr c21
              subst c21
              have H1 : ((paymasterref10_Parse.f kj9 a0_1).bind fun bt568 => (if (!(t513.toList == bt568.1.toList) || ((!(t514 == bt568.2.1) || (!(t515 == bt568.2.2.1))))) = true then (none) else (if (t516 != (bt568.2.2.2 == 0)) = true then (none) else (if t517 = bt568.2.2.2 then ((row_All.f a1).bind fun bt584 => ((paymasterref10_All.f kj9 a1).bind fun bt589 => ((paymasterref10_Same.f kj9 bt584.1 bt589.1).bind fun t594 => (if t594 = true then (if bt584.2.1 = bt589.2.1 then (some (bt584.2.2 == bt589.2.2)) else (none)) else (none))))) else (none))))) = some r := by rw [if_neg (show ¬ (false = true) by decide)] at H; exact H
              clear H
              have H := H1
              clear H1
              replace H := Option.bind_eq_some_iff.mp H
              obtain ⟨⟨t568, t569, t570, t571⟩, A370, H⟩ := H
              replace H : (if (!(t513.toList == t568.toList) || ((!(t514 == t569) || (!(t515 == t570))))) = true then (none) else (if (t516 != (t571 == 0)) = true then (none) else (if t517 = t571 then ((row_All.f a1).bind fun bt584 => ((paymasterref10_All.f kj9 a1).bind fun bt589 => ((paymasterref10_Same.f kj9 bt584.1 bt589.1).bind fun t594 => (if t594 = true then (if bt584.2.1 = bt589.2.1 then (some (bt584.2.2 == bt589.2.2)) else (none)) else (none))))) else (none)))) = some r := H
              have A37 := Aside0.mk A370
              clear A370
              by_cases c38 : (!(t513.toList == t568.toList) || ((!(t514 == t569) || (!(t515 == t570))))) = true
              · rw [if_pos c38] at H
                exact absurd H (by simp)
              · rw [if_neg c38] at H
                have c38b0 : (!(t513.toList == t568.toList) || ((!(t514 == t569) || (!(t515 == t570))))) = false := by simpa using c38
                clear c38
                by_cases c39 : (t516 != (t571 == 0)) = true
                · rw [if_pos c39] at H
                  exact absurd H (by simp)
                · rw [if_neg c39] at H
                  have c39b0 : (t516 != (t571 == 0)) = false := by simpa using c39
                  (try (have c39b1 : decide (t516 = (t571 == 0)) = true := by simpa using c39))
                  (try (have c39b2 : (t516 == (t571 == 0)) = true := by simpa using c39))
                  clear c39
                  by_cases c40 : t517 = t571
                  · rw [if_pos c40] at H
                    have c40b0 : (t517 == t571) = true := beq_iff_eq.mpr c40
                    have c40b1 : (t517 != t571) = false := bne_eq_false_iff_eq.mpr c40
                    clear c40
                    replace H := Option.bind_eq_some_iff.mp H
                    obtain ⟨⟨t584, t585, t586⟩, A410, H⟩ := H
                    replace H : ((paymasterref10_All.f kj9 a1).bind fun bt589 => ((paymasterref10_Same.f kj9 t584 bt589.1).bind fun t594 => (if t594 = true then (if t585 = bt589.2.1 then (some (t586 == bt589.2.2)) else (none)) else (none)))) = some r := H
                    have A41 := Aside0.mk A410
                    clear A410
                    replace H := Option.bind_eq_some_iff.mp H
                    obtain ⟨⟨t589, t590, t591⟩, A420, H⟩ := H
                    replace H : ((paymasterref10_Same.f kj9 t584 t589).bind fun t594 => (if t594 = true then (if t585 = t590 then (some (t586 == t591)) else (none)) else (none))) = some r := H
                    have A42 := Aside0.mk A420
                    clear A420
                    replace H := Option.bind_eq_some_iff.mp H
                    obtain ⟨t594, A430, H⟩ := H
                    replace H : (if t594 = true then (if t585 = t590 then (some (t586 == t591)) else (none)) else (none)) = some r := H
                    have A43 := Aside0.mk A430
                    clear A430
                    by_cases c44 : t594 = true
                    · subst c44
                      have H1 : (if t585 = t590 then (some (t586 == t591)) else (none)) = some r := by rw [if_pos rfl] at H; exact H
                      clear H
                      have H := H1
                      clear H1
                      by_cases c45 : t585 = t590
                      · rw [if_pos c45] at H
                        have c45b0 : (t585 == t590) = true := beq_iff_eq.mpr c45
                        have c45b1 : (t585 != t590) = false := bne_eq_false_iff_eq.mpr c45
                        clear c45
                        obtain rfl := Option.some.inj H
                        have hnb46 := NB474_518.out
                        have hnc46 := NB518_474.out
                        have hcz47_0 : wc.cell? ⟨gb474, 0, none⟩ = some (.int .i64 a0_0) := (blk_cell BK474.out 0).trans rfl
                        have hcz47_1 : wc.cell? ⟨gb474, 1, none⟩ = some (.string a0_1) := (blk_cell BK474.out 1).trans rfl
                        have hcz47_2 : wc.cell? ⟨gb474, 2, none⟩ = some (.int .u8 a0_2) := (blk_cell BK474.out 2).trans rfl
                        have hcz47_3 : wc.cell? ⟨gb474, 3, none⟩ = some (.int .i64 a0_3) := (blk_cell BK474.out 3).trans rfl
                        have hfz47_0 := blk_frozen BK474.out 0
                        have hfz47_1 := blk_frozen BK474.out 1
                        have hfz47_2 := blk_frozen BK474.out 2
                        have hfz47_3 := blk_frozen BK474.out 3
                        go_wp2_with (first | ((with_reducible refine gate_callee (f := 44) rfl ?_); refine goesL_ (some 54) rfl rfl Tryd.func44 (by kernel_rfl) rfl #[.string a0_1] rfl (by (try simp only [List.map_toArray, List.map_cons, List.map_nil]); first | done | rfl | (simp only [List.length_drop, List.length_take]; rfl)) ?_; (with_reducible refine (paymasterref10_Parse.calls kj9 a0_1 t568 t569 t570 t571 _ A37.out).mono ?_); rintro e w48 ⟨rfl, hb⟩; refine ⟨_, rfl, ?_⟩; have n0_ := Aside0.mk (blk_below (g := gb474) (o := .cells #[.int .i64 a0_0, .string a0_1, .int .u8 a0_2, .int .i64 a0_3] 56 (0, 0)) (by (with_reducible repeat (first | refine blk_drewN ?_ _ | refine blk_drew ?_ | refine blk_alloc ?_ _)); exact BK474.out) hb); have n1_ := Aside0.mk (blk_below (g := gb518) (o := .cells #[.string t513, .int .u64 t514, .int .u64 t515] 44 (0, 0)) (by (with_reducible repeat (first | refine blk_drewN ?_ _ | refine blk_drew ?_ | refine blk_alloc ?_ _)); exact BK518.out) hb); have n2_ := Aside0.mk (below_step (by repeat (first | (with_reducible first | exact HB.out | apply below_alloc | apply pw_below_drewN | apply below_drew1 | refine below_set ?_ GE474.out | refine below_set ?_ GE518.out) | exact HB.out)) hb); clear BK474; clear BK518; clear HB; have BK474 := n0_; have BK518 := n1_; have HB := n2_; clear n0_ n1_ n2_; (try clear hb); (try clear hb2); (try clear hk); (try clear hi)) | ((with_reducible refine gate_dst (N := 8) rfl ?_); (try (refine gate_guard (by rfl) ?_; dsimp only)); refine box_event ?hg (N := 8) ?hd (cs := #[.string (⟨#[]⟩ : ByteArray), .int .u64 0, .int .u64 0]) (t := 44) ?hr ?_; (case hd => rfl); (case hg => rfl); (case hr => first | (go_simp; done) | (go_simp; rfl)); intro gb572 hg w49 hbox hb; have n0_ := Aside0.mk (blk_below (g := gb474) (o := .cells #[.int .i64 a0_0, .string a0_1, .int .u8 a0_2, .int .i64 a0_3] 56 (0, 0)) (by (with_reducible repeat (first | refine blk_drewN ?_ _ | refine blk_drew ?_ | refine blk_alloc ?_ _)); exact BK474.out) hb); have n1_ := Aside0.mk (blk_below (g := gb518) (o := .cells #[.string t513, .int .u64 t514, .int .u64 t515] 44 (0, 0)) (by (with_reducible repeat (first | refine blk_drewN ?_ _ | refine blk_drew ?_ | refine blk_alloc ?_ _)); exact BK518.out) hb); have n2_ := Aside0.mk (below_step (by repeat (first | (with_reducible first | exact HB.out | apply below_alloc | apply pw_below_drewN | apply below_drew1 | refine below_set ?_ GE474.out | refine below_set ?_ GE518.out) | exact HB.out)) hb); have n3_ := Aside0.mk (hbox); have n4_ := Aside0.mk ((by rw [hg]; exact (below_size (by repeat (first | (with_reducible first | exact HB.out | apply below_alloc | apply pw_below_drewN | apply below_drew1 | refine below_set ?_ GE474.out | refine below_set ?_ GE518.out) | exact HB.out))) : w.heap.size ≤ gb572)); have n5_ := Aside0.mk ((by rw [hg]; exact (below_size (by repeat (first | (with_reducible first | exact HB.out | apply below_alloc | apply pw_below_drewN | apply below_drew1 | refine below_set ?_ GE474.out | refine below_set ?_ GE518.out) | exact HB.out))) : w.heap.size ≤ gb572)); have n6_ := Aside0.mk ((by rw [hg]; exact Nat.ne_of_lt (blk_lt (g := gb474) (o := .cells #[.int .i64 a0_0, .string a0_1, .int .u8 a0_2, .int .i64 a0_3] 56 (0, 0)) (by (with_reducible repeat (first | refine blk_drewN ?_ _ | refine blk_drew ?_ | refine blk_alloc ?_ _)); exact BK474.out)) : gb474 ≠ gb572)); have n7_ := Aside0.mk ((by rw [hg]; exact Nat.ne_of_gt (blk_lt (g := gb474) (o := .cells #[.int .i64 a0_0, .string a0_1, .int .u8 a0_2, .int .i64 a0_3] 56 (0, 0)) (by (with_reducible repeat (first | refine blk_drewN ?_ _ | refine blk_drew ?_ | refine blk_alloc ?_ _)); exact BK474.out)) : gb572 ≠ gb474)); have n8_ := Aside0.mk ((by rw [hg]; exact Nat.ne_of_lt (blk_lt (g := gb518) (o := .cells #[.string t513, .int .u64 t514, .int .u64 t515] 44 (0, 0)) (by (with_reducible repeat (first | refine blk_drewN ?_ _ | refine blk_drew ?_ | refine blk_alloc ?_ _)); exact BK518.out)) : gb518 ≠ gb572)); have n9_ := Aside0.mk ((by rw [hg]; exact Nat.ne_of_gt (blk_lt (g := gb518) (o := .cells #[.string t513, .int .u64 t514, .int .u64 t515] 44 (0, 0)) (by (with_reducible repeat (first | refine blk_drewN ?_ _ | refine blk_drew ?_ | refine blk_alloc ?_ _)); exact BK518.out)) : gb572 ≠ gb518)); clear BK474; clear BK518; clear HB; have BK474 := n0_; have BK518 := n1_; have HB := n2_; have BK572 := n3_; have GW572 := n4_; have GE572 := n5_; have NB474_572 := n6_; have NB572_474 := n7_; have NB518_572 := n8_; have NB572_518 := n9_; clear n0_ n1_ n2_ n3_ n4_ n5_ n6_ n7_ n8_ n9_; clear hb hbox hg; have hnb50 := NB572_474.out; have hnc50 := NB474_572.out; have hnb51 := NB572_518.out; have hnc51 := NB518_572.out; have hcz52_0 : w49.cell? ⟨gb572, 0, none⟩ = some (.string (⟨#[]⟩ : ByteArray)) := (blk_cell BK572.out 0).trans rfl; have hcz52_1 : w49.cell? ⟨gb572, 1, none⟩ = some (.int .u64 0) := (blk_cell BK572.out 1).trans rfl; have hcz52_2 : w49.cell? ⟨gb572, 2, none⟩ = some (.int .u64 0) := (blk_cell BK572.out 2).trans rfl; have hfz52_0 := blk_frozen BK572.out 0; have hfz52_1 := blk_frozen BK572.out 1; have hfz52_2 := blk_frozen BK572.out 2; have hcz53_0 : w49.cell? ⟨gb518, 0, none⟩ = some (.string t513) := (blk_cell BK518.out 0).trans rfl; have hcz53_1 : w49.cell? ⟨gb518, 1, none⟩ = some (.int .u64 t514) := (blk_cell BK518.out 1).trans rfl; have hcz53_2 : w49.cell? ⟨gb518, 2, none⟩ = some (.int .u64 t515) := (blk_cell BK518.out 2).trans rfl; have hfz53_0 := blk_frozen BK518.out 0; have hfz53_1 := blk_frozen BK518.out 1; have hfz53_2 := blk_frozen BK518.out 2) | ((with_reducible refine gate_callee (f := 45) rfl ?_); refine goesL_ (some 73) rfl rfl Tryd.func45 (by kernel_rfl) rfl #[.string a1] rfl (by (try simp only [List.map_toArray, List.map_cons, List.map_nil]); first | done | rfl | (simp only [List.length_drop, List.length_take]; rfl)) ?_; (with_reducible refine (row_All.calls a1 t584 t585 t586 _ ?side1 A41.out).mono ?_); (case side1 => exact gt_below hG (by repeat (first | (with_reducible first | exact HB.out | apply below_alloc | apply pw_below_drewN | apply below_drew1 | refine below_set ?_ GE474.out | refine below_set ?_ GE518.out | refine below_set ?_ GE572.out) | exact HB.out))); rintro e w54 ⟨v587, rfl, ho0, hb⟩; refine ⟨_, rfl, ?_⟩; have n0_ := Aside0.mk (Kd.R_lower (Kd.R_newB (Kd.R_newB ho0 (g := gb518) (o := .cells #[.string t513, .int .u64 t514, .int .u64 t515] 44 (0, 0)) (by (with_reducible repeat (first | refine blk_drewN ?_ _ | refine blk_drew ?_ | refine blk_alloc ?_ _)); refine blk_far ?_ NB518_572.out _; (with_reducible repeat (first | refine blk_drewN ?_ _ | refine blk_drew ?_ | refine blk_alloc ?_ _)); refine blk_far ?_ NB518_572.out _; (with_reducible repeat (first | refine blk_drewN ?_ _ | refine blk_drew ?_ | refine blk_alloc ?_ _)); refine blk_far ?_ NB518_572.out _; (with_reducible repeat (first | refine blk_drewN ?_ _ | refine blk_drew ?_ | refine blk_alloc ?_ _)); exact BK518.out)) (g := gb572) (o := .cells #[.string t568, .int .u64 t569, .int .u64 t570] 44 (0, 0)) (by (with_reducible repeat (first | refine blk_drewN ?_ _ | refine blk_drew ?_ | refine blk_alloc ?_ _)); refine blk_put (cs := #[.string t568, .int .u64 t569, .int .u64 0]) ?_ 2 _ rfl; (with_reducible repeat (first | refine blk_drewN ?_ _ | refine blk_drew ?_ | refine blk_alloc ?_ _)); refine blk_put (cs := #[.string t568, .int .u64 0, .int .u64 0]) ?_ 1 _ rfl; (with_reducible repeat (first | refine blk_drewN ?_ _ | refine blk_drew ?_ | refine blk_alloc ?_ _)); refine blk_put (cs := #[.string (⟨#[]⟩ : ByteArray), .int .u64 0, .int .u64 0]) ?_ 0 _ rfl; (with_reducible repeat (first | refine blk_drewN ?_ _ | refine blk_drew ?_ | refine blk_alloc ?_ _)); exact BK572.out)) (below_size (by repeat (first | (with_reducible first | exact HB.out | apply below_alloc | apply pw_below_drewN | apply below_drew1 | refine below_set ?_ GE474.out | refine below_set ?_ GE518.out | refine below_set ?_ GE572.out) | exact HB.out)))); have n1_ := Aside0.mk (blk_below (g := gb474) (o := .cells #[.int .i64 a0_0, .string a0_1, .int .u8 a0_2, .int .i64 a0_3] 56 (0, 0)) (by (with_reducible repeat (first | refine blk_drewN ?_ _ | refine blk_drew ?_ | refine blk_alloc ?_ _)); refine blk_far ?_ NB474_572.out _; (with_reducible repeat (first | refine blk_drewN ?_ _ | refine blk_drew ?_ | refine blk_alloc ?_ _)); refine blk_far ?_ NB474_572.out _; (with_reducible repeat (first | refine blk_drewN ?_ _ | refine blk_drew ?_ | refine blk_alloc ?_ _)); refine blk_far ?_ NB474_572.out _; (with_reducible repeat (first | refine blk_drewN ?_ _ | refine blk_drew ?_ | refine blk_alloc ?_ _)); exact BK474.out) hb); have n2_ := Aside0.mk (blk_below (g := gb518) (o := .cells #[.string t513, .int .u64 t514, .int .u64 t515] 44 (0, 0)) (by (with_reducible repeat (first | refine blk_drewN ?_ _ | refine blk_drew ?_ | refine blk_alloc ?_ _)); refine blk_far ?_ NB518_572.out _; (with_reducible repeat (first | refine blk_drewN ?_ _ | refine blk_drew ?_ | refine blk_alloc ?_ _)); refine blk_far ?_ NB518_572.out _; (with_reducible repeat (first | refine blk_drewN ?_ _ | refine blk_drew ?_ | refine blk_alloc ?_ _)); refine blk_far ?_ NB518_572.out _; (with_reducible repeat (first | refine blk_drewN ?_ _ | refine blk_drew ?_ | refine blk_alloc ?_ _)); exact BK518.out) hb); have n3_ := Aside0.mk (blk_below (g := gb572) (o := .cells #[.string t568, .int .u64 t569, .int .u64 t570] 44 (0, 0)) (by (with_reducible repeat (first | refine blk_drewN ?_ _ | refine blk_drew ?_ | refine blk_alloc ?_ _)); refine blk_put (cs := #[.string t568, .int .u64 t569, .int .u64 0]) ?_ 2 _ rfl; (with_reducible repeat (first | refine blk_drewN ?_ _ | refine blk_drew ?_ | refine blk_alloc ?_ _)); refine blk_put (cs := #[.string t568, .int .u64 0, .int .u64 0]) ?_ 1 _ rfl; (with_reducible repeat (first | refine blk_drewN ?_ _ | refine blk_drew ?_ | refine blk_alloc ?_ _)); refine blk_put (cs := #[.string (⟨#[]⟩ : ByteArray), .int .u64 0, .int .u64 0]) ?_ 0 _ rfl; (with_reducible repeat (first | refine blk_drewN ?_ _ | refine blk_drew ?_ | refine blk_alloc ?_ _)); exact BK572.out) hb); have n4_ := Aside0.mk (below_step (by repeat (first | (with_reducible first | exact HB.out | apply below_alloc | apply pw_below_drewN | apply below_drew1 | refine below_set ?_ GE474.out | refine below_set ?_ GE518.out | refine below_set ?_ GE572.out) | exact HB.out)) hb); clear BK474; clear BK518; clear BK572; clear HB; have HO588 := n0_; have BK474 := n1_; have BK518 := n2_; have BK572 := n3_; have HB := n4_; clear n0_ n1_ n2_ n3_ n4_; (try clear hb); (try clear hb2); (try clear hk); (try clear hi); (try clear ho0)) | ((with_reducible refine gate_callee (f := 46) rfl ?_); refine goesL_ (some 79) rfl rfl Tryd.func46 (by kernel_rfl) rfl #[.string a1] rfl (by (try simp only [List.map_toArray, List.map_cons, List.map_nil]); first | done | rfl | (simp only [List.length_drop, List.length_take]; rfl)) ?_; (with_reducible refine (paymasterref10_All.calls kj9 a1 t589 t590 t591 _ A42.out).mono ?_); rintro e w55 ⟨v592, rfl, ho0, hb⟩; refine ⟨_, rfl, ?_⟩; have n0_ := Aside0.mk (Kd.R_elder' (by (with_reducible repeat (first | apply Kd.R_alloc | apply Kd.R_drewN | apply Kd.R_drew)); exact HO588.out) (Kd.R_base ho0) hb); have n1_ := Aside0.mk (Kd.R_lower (Kd.R_newB (Kd.R_newB (Kd.R_new' ho0 (Kd.R_lt (by (with_reducible repeat (first | apply Kd.R_alloc | apply Kd.R_drewN | apply Kd.R_drew)); exact HO588.out))) (g := gb518) (o := .cells #[.string t513, .int .u64 t514, .int .u64 t515] 44 (0, 0)) (by (with_reducible repeat (first | refine blk_drewN ?_ _ | refine blk_drew ?_ | refine blk_alloc ?_ _)); exact BK518.out)) (g := gb572) (o := .cells #[.string t568, .int .u64 t569, .int .u64 t570] 44 (0, 0)) (by (with_reducible repeat (first | refine blk_drewN ?_ _ | refine blk_drew ?_ | refine blk_alloc ?_ _)); exact BK572.out)) (below_size (by repeat (first | (with_reducible first | exact HB.out | apply below_alloc | apply pw_below_drewN | apply below_drew1 | refine below_set ?_ GE474.out | refine below_set ?_ GE518.out | refine below_set ?_ GE572.out) | exact HB.out)))); have n2_ := Aside0.mk (blk_below (g := gb474) (o := .cells #[.int .i64 a0_0, .string a0_1, .int .u8 a0_2, .int .i64 a0_3] 56 (0, 0)) (by (with_reducible repeat (first | refine blk_drewN ?_ _ | refine blk_drew ?_ | refine blk_alloc ?_ _)); exact BK474.out) hb); have n3_ := Aside0.mk (blk_below (g := gb518) (o := .cells #[.string t513, .int .u64 t514, .int .u64 t515] 44 (0, 0)) (by (with_reducible repeat (first | refine blk_drewN ?_ _ | refine blk_drew ?_ | refine blk_alloc ?_ _)); exact BK518.out) hb); have n4_ := Aside0.mk (blk_below (g := gb572) (o := .cells #[.string t568, .int .u64 t569, .int .u64 t570] 44 (0, 0)) (by (with_reducible repeat (first | refine blk_drewN ?_ _ | refine blk_drew ?_ | refine blk_alloc ?_ _)); exact BK572.out) hb); have n5_ := Aside0.mk (below_step (by repeat (first | (with_reducible first | exact HB.out | apply below_alloc | apply pw_below_drewN | apply below_drew1 | refine below_set ?_ GE474.out | refine below_set ?_ GE518.out | refine below_set ?_ GE572.out) | exact HB.out)) hb); clear HO588; clear BK474; clear BK518; clear BK572; clear HB; have HO588 := n0_; have HO593 := n1_; have BK474 := n2_; have BK518 := n3_; have BK572 := n4_; have HB := n5_; clear n0_ n1_ n2_ n3_ n4_ n5_; (try clear hb); (try clear hb2); (try clear hk); (try clear hi); (try clear ho0); obtain ⟨Ao56, co56, eo56⟩ := Kd.R_slice HO588.out; subst eo56; obtain ⟨Ao57, co57, eo57⟩ := Kd.R_slice HO593.out; subst eo57) | ((with_reducible refine gate_callee (f := 28) rfl ?_); refine goesL_ (some 85) rfl rfl Tryd.func28 (by kernel_rfl) rfl #[.slice Ao56 t584.length co56, .slice Ao57 t589.length co57] rfl (by (try simp only [List.map_toArray, List.map_cons, List.map_nil]); first | done | rfl | (simp only [List.length_drop, List.length_take]; rfl)) ?_; (with_reducible refine (paymasterref10_Same.calls kj9 _ _ t584 _ _ t589 true _ ?side1 ?side2 ?side3 ?side4 A43.out).mono ?_); (case side1 => repeat (first | exact (Kd.R_reads' HO588.out).2.2 | (with_reducible refine Kd.C_alloc ?_ _) | (with_reducible refine Kd.C_drewN ?_ _) | (with_reducible refine Kd.C_drew ?_))); (case side2 => exact (Kd.R_reads' HO588.out).2.1); (case side3 => repeat (first | exact (Kd.R_reads' HO593.out).2.2 | (with_reducible refine Kd.C_alloc ?_ _) | (with_reducible refine Kd.C_drewN ?_ _) | (with_reducible refine Kd.C_drew ?_))); (case side4 => exact (Kd.R_reads' HO593.out).2.1); rintro e w' ⟨rfl, ⟨nd, rfl⟩⟩; refine ⟨_, rfl, ?_⟩))
                        go_ret
                        exact ⟨by first | rfl | (simp [errW_none, errW_some] <;> rfl) | (simp [*, errW_none, errW_some] <;> rfl), by repeat (first | (with_reducible first | exact HB.out | apply below_alloc | apply pw_below_drewN | apply below_drew1 | refine below_set ?_ GE474.out | refine below_set ?_ GE518.out | refine below_set ?_ GE572.out) | exact HB.out)⟩
                      · rw [if_neg c45] at H
                        exact absurd H (by simp)
                    · replace c44 := Bool.eq_false_iff.mpr c44
                      subst c44
                      have H1 : (none) = some r := by rw [if_neg (show ¬ (false = true) by decide)] at H; exact H
                      clear H
                      have H := H1
                      clear H1
                      exact absurd H (by simp)
                  · rw [if_neg c40] at H
                    exact absurd H (by simp)
end Go.Proofs.YtpkjpiphjdpegaaDoor.P
namespace Go.Proofs.YtpkjpiphjdpegaaDoor.P
open Go.RowKit Go.Proofs.YtpkjpiphjdpegaaDoorW.PrintWords Go.Proofs.YtpkjpiphjdpegaaDoorW.PrintLast Go.Proofs.YtpkjpiphjdpegaaDoorW.PrintMore
set_option linter.unusedVariables false
set_option linter.unusedSimpArgs false
theorem rowsL_len : ∀ (L : List (List UInt8)) (n : Int) (acc : List S44), (rowsL n acc L).1.length ≤ acc.length + L.length
  | [], n, acc => by rw [rowsL]; simp
  | h :: L, n, acc => by
    rw [rowsL]
    split
    · split
      · have := rowsL_len L (n + 1) (acc ++ [(⟨(oneB h).1, ⟨(oneB h).2.1, (oneB h).2.2.1⟩⟩ : S44)])
        simp at this ⊢; omega
      · have := rowsL_len L (n + 1) acc
        simp at this ⊢; omega
    · simp
theorem rowAll_f (s : ByteArray) (hs : s.size ≤ 1000000000) : row_All.f s = some (rowsL 1 [] (splitB s.data.toList)) := if_pos hs
theorem rowAll_tail (t : ByteArray) (ht : t.size ≤ 3000) (k : Nat) (hk : 18000 ≤ k) : ((row_All.f t).bind fun bt557 => ((paymasterref10_All.f k t).bind fun bt562 => ((paymasterref10_Same.f k bt557.1 bt562.1).bind fun t567 => (if t567 = true then (if bt557.2.1 = bt562.2.1 then (some (bt557.2.2 == bt562.2.2)) else (none)) else (none))))) = some true := by
  have e : t.data.toList.length = t.size := Array.length_toList
  have sl := splitB_len t.data.toList
  have rl := rowsL_len (splitB t.data.toList) 1 []
  rw [List.length_nil] at rl
  rw [rowAll_f t (by omega), Option.bind_some, refAll_is t (by omega) k (by omega), Option.bind_some, same44_is _ (by omega) k (by omega), Option.bind_some, if_pos rfl, if_pos rfl]
  simp
theorem rowAll_pure (l0 : Int) (l1 : ByteArray) (l2 l3 : Int) (t : ByteArray) : ∃ k, paymasterlaw10_RowAll.f k l0 l1 l2 l3 t = some true := by
  refine ⟨20002, ?_⟩
  unfold paymasterlaw10_RowAll.f
  by_cases h1 : (l1.size : Int) > 300
  · rw [if_pos h1, paymasterlaw10_RowAll.j0, if_pos rfl]
  · rw [if_neg h1, paymasterlaw10_RowAll.j0]
    by_cases h2 : (t.size : Int) > 3000
    · rw [decide_eq_true h2, if_pos rfl]
    · have T := rowAll_tail t (by omega) 20000 (by omega)
      have e : l1.data.toList.length = l1.size := Array.length_toList
      rw [decide_eq_false h2, if_neg (show ¬ (false = true) by decide)]
      by_cases c : l3 = 0
      · by_cases q : l2 = 2
        · have o : row_Of.f l0 l1 l2 l3 = some ((parseRow l1.data.toList).1, (parseRow l1.data.toList).2.1, (parseRow l1.data.toList).2.2.1, ((parseRow l1.data.toList).2.2.2 == 0), (parseRow l1.data.toList).2.2.2) := by
            have p := parse_is l1.data.toList (by omega)
            rw [mk_of] at p
            unfold row_Of.f
            rw [if_pos c, if_pos q, p, Option.bind_some]
          have p2 := refRowParse_is l1.data.toList (by omega) 20000 (by omega)
          rw [mk_of] at p2
          have qb : (l2 != 2) = false := by simp [q]
          rw [o, Option.bind_some, if_pos c, qb, paymasterlaw10_RowAll.j1, if_neg (show ¬ (false = true) by decide), p2, Option.bind_some, if_neg (by simp), if_neg (by simp), if_pos rfl]
          exact T
        · have o : row_Of.f l0 l1 l2 l3 = some ((⟨#[]⟩ : ByteArray), 0, 0, false, 0) := by
            unfold row_Of.f
            rw [if_pos c, if_neg q]
          have qb : (l2 != 2) = true := by simp [q]
          rw [o, Option.bind_some, if_pos c, qb, paymasterlaw10_RowAll.j1, if_pos rfl, if_neg (by simp [toList_eq]), if_neg (show ¬ (false = true) by decide), if_pos c.symm]
          exact T
      · have o : row_Of.f l0 l1 l2 l3 = some ((⟨#[]⟩ : ByteArray), 0, 0, false, l3) := by
          unfold row_Of.f
          rw [if_neg c]
        rw [o, Option.bind_some, if_neg c, paymasterlaw10_RowAll.j1, if_pos rfl, if_neg (by simp [toList_eq]), if_neg (show ¬ (false = true) by decide), if_pos rfl]
        exact T
theorem rowAll_walk {w : World} (a0_0 : Int) (a0_1 : ByteArray) (a0_2 a0_3 : Int) (g0_0 : (Lit.int .i64 a0_0).wf = true) (g0_1 : a0_1.size ≤ 9223372036854775807) (g0_2 : (Lit.int .u8 a0_2).wf = true) (g0_3 : (Lit.int .i64 a0_3).wf = true) (a1 : ByteArray) (g1 : a1.size ≤ 9223372036854775807) (hG : GT w) :
    Calls Tryd.prog 10 #[.agg #[.int .i64 a0_0, .string a0_1, .int .u8 a0_2, .int .i64 a0_3], .string a1] w fun e w' => e = .returned (.bool true) ∧ Below w.heap.size w w' := by
  obtain ⟨k, hk⟩ := rowAll_pure a0_0 a0_1 a0_2 a0_3 a1
  exact paymasterlaw10_RowAll.calls k a0_0 a0_1 a0_2 a0_3 a1 true w hG hk
end Go.Proofs.YtpkjpiphjdpegaaDoor.P
namespace Go.Proofs.YtpkjpiphjdpegaaDoor.rowAll
open Go.ChangeShapes Go.WideShapes Go.ChangeAt Go.RowKit Go.Proofs.YtpkjpiphjdpegaaDoor.P
open Go.ChangeMaps (open_string shut_string)
set_option linter.unusedVariables false
set_option maxRecDepth 100000 in
theorem lifted (os : Os) (started : os.Started) (H : Type) (enc : TypeId × Value → H) :
    ReturnsInHanded {} Tryd.checked os 10 .any (fun w args => (Rows.rowAllSpec.pre enc Tryd.prog Tryd.f10 Rows.rowAllRow.domain false w args ∧ laidMetH Tryd.prog laid w) ∧ sizedMet enc Tryd.prog Tryd.f10 (OpenSpec.ofChange Rows.rowAllSpec) false w args) (Rows.rowAllSpec.post enc Tryd.prog Tryd.f10 false true false false) := by
  refine returnsInHanded_of_change_and (C := Tryd.checked) (X := fun w _ => laidMetH Tryd.prog laid w) (fun _ _ _ hh h => h.of_heap hh) own started (by kernel_rfl) Tryd.func10
    (ChangeSpec.witness_shaped (enc := enc) (C := Tryd.checked) (os := os) (X := fun w _ => laidMetH Tryd.prog laid w) false (World.laidAll Tryd.prog os laid) #[.agg #[.int .i64 0, .string ByteArray.empty, .int .u8 0, .int .i64 0], .string ByteArray.empty] 8 (World.laidAll_os _ _ _) (World.shaped_of_ZipB (by kernel_rfl) (by kernel_rfl)) (by kernel_rfl) (by kernel_rfl) (by kernel_rfl) (laid_met os _)) ?_
  intro W base args ds gs before hval0 hW _ _ hL _
  have hval : ∀ (j : Nat) t v, Tryd.f10.params[j]? = some t → args[j]? = some v → Value.okWide Tryd.prog W .any base t v := hval0
  have hW' := hW
  obtain ⟨p, q, hA0, hV, rfl, hfz, hnd⟩ := hW
  have hA : DataW.TrodAll enc Tryd.prog W 0 (fun _ => true) true Tryd.f10.params.toList args.toList ds p := hA0
  rw [Tryd.params10] at hA hval
  have hAll := hA
  obtain ⟨v0, vs0, d0, ds0, p0, q0, hargs, rfl, rfl, h0, r0⟩ := trodAll_cons hA
  obtain ⟨v1, vs1, d1, ds1, p1, q1, rfl, rfl, rfl, h1, r1⟩ := trodAll_cons r0
  obtain ⟨rfl, rfl, rfl⟩ := trodAll_nil r1
  obtain rfl : args = #[v0, v1] := by cases args; simp_all
  obtain ⟨rfl, rfl⟩ := trodVars_none hV
  obtain ⟨a0_0, a0_1, a0_2, a0_3, rfl, g0_0, g0_1, g0_2, g0_3⟩ := arg_56 (hval 0 56 v0 rfl rfl) h0
  obtain ⟨a1, rfl, g1⟩ := arg_string (hval 1 9 v1 rfl rfl) h1
  clear hA0 hval0
  refine (rowAll_walk (w := W) a0_0 a0_1 a0_2 a0_3 g0_0 g0_1 g0_2 g0_3 a1 g1 (gt_of hL)).mono fun e W' ⟨he, bel⟩ => ?_
  subst he
  exact ⟨_, rfl, _, _, _, [], _, [], hW', trodAll_mk1 (shut_bool Tryd.underlying4 _), args_back laidOut bel (by kernel_rfl) hAll, rfl, bel.frame _, fun h => by cases h⟩
theorem both {a b : Bool} (h : a = true) (k : b = true) : (a && b) = true := by rw [h, k]; rfl
theorem c0 : (Rows.rowAllRow.wf (OpenSpec.ofChange Rows.rowAllSpec)) = true := by kernel_rfl
theorem c1 : (laidOutB Tryd.prog) = true := by kernel_rfl
theorem c2 : (mapsRowed Tryd.prog) = true := by kernel_rfl
theorem c3 : (Tryd.f10.params.all (Tryd.prog.readableRec ·)) = true := by kernel_rfl
theorem c4 : (namedTie Tryd.prog Rows.rowAllRow.named Rows.rowAllSpec.vars) = true := by kernel_rfl
theorem c5 : ((Rows.rowAllRow.stops == [])) = true := by kernel_rfl
theorem c6 : ((Tryd.prog.stops == [])) = true := by kernel_rfl
theorem c7 : ((Rows.rowAllRow.knobs == [])) = true := by kernel_rfl
theorem c8 : ((Tryd.prog.stopKnobs == [])) = true := by kernel_rfl
theorem c9 : ((Rows.rowAllRow.inPlace == Tryd.prog.inPlace 10)) = true := by kernel_rfl
theorem c10 : ((Rows.rowAllRow.unfollowed == Tryd.prog.unfollowed 10)) = true := by kernel_rfl
theorem c11 : ((Rows.rowAllRow.recurses == Tryd.prog.recurses 10)) = true := by kernel_rfl
theorem c12 : ((Rows.rowAllRow.named == Tryd.prog.varsNamed 10)) = true := by kernel_rfl
theorem c13 : ((Rows.rowAllRow.maps == (Tryd.f10.params.toList ++ Rows.rowAllSpec.plain.varTypes Tryd.prog).any (Tryd.prog.mapsRec ·))) = true := by kernel_rfl
theorem c14 : ((Rows.rowAllRow.ifaces == (Tryd.f10.params.toList ++ Rows.rowAllSpec.plain.varTypes Tryd.prog).any (Tryd.prog.ifacesRec ·))) = true := by kernel_rfl
theorem c15 : ((Rows.rowAllRow.mapsOut == Tryd.prog.mapsAmong Tryd.f10.resultTypes.toList)) = true := by kernel_rfl
theorem c16 : ((Rows.rowAllRow.loops == (Tryd.f10.params.toList ++ Rows.rowAllSpec.plain.varTypes Tryd.prog).any (Tryd.prog.loopsFrom ·))) = true := by kernel_rfl
theorem c17 : ((Rows.rowAllRow.wideKeys == (Tryd.f10.params.toList ++ Rows.rowAllSpec.plain.varTypes Tryd.prog ++ Tryd.f10.resultTypes.toList).any (Tryd.prog.wideKeysFrom ·))) = true := by kernel_rfl
theorem c18 : (Rows.rowAllSpec.vars.all (Tryd.prog.varReadable ·)) = true := by kernel_rfl
theorem c19 : (Tryd.f10.resultTypes.all (fun t => Tryd.prog.readableRec t && decide (t < Tryd.prog.types.size))) = true := by kernel_rfl
theorem c20 : ((Rows.rowAllRow.ifacesOut == Tryd.f10.resultTypes.toList.any (Tryd.prog.ifacesRec ·))) = true := by kernel_rfl
theorem c21 : ((Rows.rowAllRow.loopsOut == Tryd.f10.resultTypes.toList.any (Tryd.prog.loopsFrom ·))) = true := by kernel_rfl
theorem c22 : ((Rows.rowAllRow.plainKeys == Tryd.prog.plainKeys)) = true := by kernel_rfl
theorem c23 : (Rows.rowAllRow.shortTexts.isNone) = true := by kernel_rfl
theorem c24 : (Tryd.prog.stopsHeard) = true := by kernel_rfl
theorem c25 : (Tryd.prog.mayEnter) = true := Facts.mayEnter
theorem c26 : ((Rows.rowAllRow.lifted == Tryd.prog.liftsFinal)) = true := by rw [Facts.liftsFinal]; kernel_rfl
theorem c27 : ((Tryd.prog.make == some Rows.rowAllRow.make)) = true := by rw [Facts.make]; kernel_rfl
theorem c28 : ((Rows.rowAllRow.kinds == (if Rows.rowAllRow.domain.isEmpty then [] else Tryd.f10.params.toList.map fun t => match Tryd.prog.underlying t with | some (.int k) => some k | _ => none))) = true := by kernel_rfl
theorem c29 : ((Rows.rowAllRow.pinned == Rows.rowAllRow.pinnedBy)) = true := by kernel_rfl
theorem c30 : ((Rows.rowAllRow.veiled == (Tryd.f10.params.toList ++ Rows.rowAllSpec.plain.varTypes Tryd.prog ++ Tryd.f10.resultTypes.toList).any (Tryd.prog.veiledRec ·))) = true := by kernel_rfl
theorem c31 : (Rows.rowAllRow.veiledFits Tryd.prog Tryd.f10.params.toList (Tryd.f10.params.toList ++ Rows.rowAllSpec.plain.varTypes Tryd.prog ++ Tryd.f10.resultTypes.toList)) = true := by kernel_rfl
set_option maxRecDepth 100000 in
theorem closed : joinedFacts Tryd.prog 10 Tryd.f10 Rows.rowAllSpec Rows.rowAllRow = true := by
  unfold joinedFacts
  exact both (both (both (both (both (both (both (both (both (both (both (both (both (both (both (both (both (both (both (both (both (both (both (both (both (both (both (both (both (both (both (c0) c1) c2) c3) c4) c5) c6) c7) c8) c9) c10) c11) c12) c13) c14) c15) c16) c17) c18) c19) c20) c21) c22) c23) c24) c25) c26) c27) c28) c29) c30) c31
theorem over : Rows.rowAllRow.holds Tryd.pinned (OpenSpec.ofChange Rows.rowAllSpec) :=
  OpenClaim.holds_of_wide 10 Tryd.f10 rfl rfl rfl rfl rfl rfl rfl ⟨rfl, rfl, rfl, rfl, rfl⟩ rfl rfl rfl rfl rfl (by kernel_rfl) Tryd.func10 closed
    (of_decide_eq_true (by kernel_rfl)) (by unfold Func.isWrapper; first | (rw [if_pos (by decide +kernel)]; kernel_rfl) | (rw [if_neg (by decide +kernel)]; exact ⟨rfl, rfl⟩))
    (fun os started H enc _ => lifted os started H enc)
end Go.Proofs.YtpkjpiphjdpegaaDoor.rowAll
namespace Go.Proofs.YtpkjpiphjdpegaaDoor
theorem rowAll_row_holds : Rows.RowAllSaid := rowAll.over
theorem rowAll_holds : Rows.RowAllCardSaid :=
  Claim7.holds_tied_plain_at .later [] [.data, .pinned] true (true, "8ed4f517d9b640979c9642b29f1471ad540af19eb7dd2a85df80f51153cdfa49") false
    rowAll_row_holds (fun _ h => by cases h) (by kernel_rfl) (fun _ h => by cases h) rowAll_row_tie rfl ⟨rfl, rfl⟩ Facts.mainIs rfl
    (fun f fn hf hfn => by
      obtain rfl : f = 10 := Option.some.inj ((show Tryd.prog.funcNamed "paymaster/paymasterlaw10.RowAll" = some 10 by kernel_rfl).symm.trans hf) |>.symm
      obtain rfl : fn = Tryd.f10 := (Option.some.inj (Tryd.func10.symm.trans hfn)).symm
      exact ⟨by kernel_rfl, fun j t ht => by
        rw [Tryd.params10] at ht
        have hm : t ∈ [56, 9] := by simpa using Array.mem_of_getElem? ht
        have hall : ([56, 9].all fun u => !Tryd.prog.wantsStandIn u) = true := by kernel_rfl
        exact (show Tryd.prog.wantsStandIn t = false by simpa using List.all_eq_true.1 hall t hm)⟩)
    (by kernel_rfl)
end Go.Proofs.YtpkjpiphjdpegaaDoor
