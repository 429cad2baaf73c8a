/- A program of this session wrote this text out of the session's own texts. (part 4 of 5) -/
import Derived.Test.YtpkjpiphjdpegaaDoorCRowWritten3
namespace Go.Proofs.YtpkjpiphjdpegaaDoor.P
open Go.RowKit Go.Proofs.YtpkjpiphjdpegaaDoorW.PrintWords Go.Proofs.YtpkjpiphjdpegaaDoorW.PrintLast Go.Proofs.YtpkjpiphjdpegaaDoorW.PrintMore
attribute [local go_sem] max2_int min2_int max_two min_two max_three min_three max_four min_four
set_option linter.unusedVariables false
set_option linter.unusedSimpArgs false
def row_Parse.f (a0 : ByteArray) : Option (ByteArray × Int × Int × Int) := (strings_Cut.f a0 (⟨#[32]⟩ : ByteArray)).bind fun bt366 => ((decimal_Parse.f bt366.2.1).bind fun bt369 => (if bt366.2.2 = true then ((tag_MayId.f bt366.1).bind fun t373 => (if t373 = true then (if bt369.2.2 = 0 then (some (bt366.1, bt369.1, bt369.2.1, 0)) else (some ((⟨#[]⟩ : ByteArray), 0, 0, 102))) else (some ((⟨#[]⟩ : ByteArray), 0, 0, 101)))) else (some ((⟨#[]⟩ : ByteArray), 0, 0, 100))))
set_option maxHeartbeats 8000000 in
set_option maxRecDepth 100000 in
theorem row_Parse.calls (a0 : ByteArray) (r1 : ByteArray) (r2 : Int) (r3 : Int) (r4 : Int) (w : World) (hG : GT w) (h : row_Parse.f a0 = some (r1, r2, r3, r4)) :
    Calls Tryd.prog 47 #[.string a0] w fun e w' => e = .returned (.tuple #[.agg #[.string r1, .int .u64 r2, .int .u64 r3], .int .i64 r4]) ∧ Below w.heap.size w w' := by
  have hu44 := Tryd.underlying44
  have hu42 := Tryd.underlying42
  have HB := Aside0.mk (Below.refl w.heap.size w)
  have H : ((strings_Cut.f a0 (⟨#[32]⟩ : ByteArray)).bind fun bt366 => ((decimal_Parse.f bt366.2.1).bind fun bt369 => (if bt366.2.2 = true then ((tag_MayId.f bt366.1).bind fun t373 => (if t373 = true then (if bt369.2.2 = 0 then (some (bt366.1, bt369.1, bt369.2.1, 0)) else (some ((⟨#[]⟩ : ByteArray), 0, 0, 102))) else (some ((⟨#[]⟩ : ByteArray), 0, 0, 101)))) else (some ((⟨#[]⟩ : ByteArray), 0, 0, 100))))) = some (r1, r2, r3, r4) := h
  clear h
  replace H := Option.bind_eq_some_iff.mp H
  obtain ⟨⟨t366, t367, t368⟩, A20, H⟩ := H
  replace H : ((decimal_Parse.f t367).bind fun bt369 => (if t368 = true then ((tag_MayId.f t366).bind fun t373 => (if t373 = true then (if bt369.2.2 = 0 then (some (t366, bt369.1, bt369.2.1, 0)) else (some ((⟨#[]⟩ : ByteArray), 0, 0, 102))) else (some ((⟨#[]⟩ : ByteArray), 0, 0, 101)))) else (some ((⟨#[]⟩ : ByteArray), 0, 0, 100)))) = some (r1, r2, r3, r4) := H
  have A2 := Aside0.mk A20
  clear A20
  replace H := Option.bind_eq_some_iff.mp H
  obtain ⟨⟨t369, t370, t371⟩, A30, H⟩ := H
  replace H : (if t368 = true then ((tag_MayId.f t366).bind fun t373 => (if t373 = true then (if t371 = 0 then (some (t366, t369, t370, 0)) else (some ((⟨#[]⟩ : ByteArray), 0, 0, 102))) else (some ((⟨#[]⟩ : ByteArray), 0, 0, 101)))) else (some ((⟨#[]⟩ : ByteArray), 0, 0, 100))) = some (r1, r2, r3, r4) := H
  have A3 := Aside0.mk A30
  clear A30
  by_cases c4 : t368 = true
  · subst c4
    have H1 : ((tag_MayId.f t366).bind fun t373 => (if t373 = true then (if t371 = 0 then (some (t366, t369, t370, 0)) else (some ((⟨#[]⟩ : ByteArray), 0, 0, 102))) else (some ((⟨#[]⟩ : ByteArray), 0, 0, 101)))) = some (r1, r2, r3, r4) := by rw [if_pos rfl] at H; exact H
    clear H
    have H := H1
    clear H1
    replace H := Option.bind_eq_some_iff.mp H
    obtain ⟨t373, A50, H⟩ := H
    replace H : (if t373 = true then (if t371 = 0 then (some (t366, t369, t370, 0)) else (some ((⟨#[]⟩ : ByteArray), 0, 0, 102))) else (some ((⟨#[]⟩ : ByteArray), 0, 0, 101))) = some (r1, r2, r3, r4) := H
    have A5 := Aside0.mk A50
    clear A50
    by_cases c6 : t373 = true
    · subst c6
      have H1 : (if t371 = 0 then (some (t366, t369, t370, 0)) else (some ((⟨#[]⟩ : ByteArray), 0, 0, 102))) = some (r1, r2, r3, r4) := by rw [if_pos rfl] at H; exact H
      clear H
      have H := H1
      clear H1
      by_cases c7 : t371 = 0
      · rw [if_pos c7] at H
        have c7b0 : (t371 == 0) = true := beq_iff_eq.mpr c7
        have c7b1 : (t371 != 0) = false := bne_eq_false_iff_eq.mpr c7
        clear c7
        simp only [Option.some.injEq, Prod.mk.injEq] at H
        obtain ⟨rfl, rfl, rfl, rfl⟩ := H
        go_enter Tryd.func47, Tryd.ntmps47
        go_wp2_with (first | ((with_reducible refine gate_dst (N := 2) rfl ?_); refine box_event ?hg (N := 2) ?hd (cs := #[.string (⟨#[]⟩ : ByteArray), .int .u64 0, .int .u64 0]) (t := 44) ?hr ?_; (case hd => rfl); (case hg => rfl); (case hr => first | (go_simp; done) | (go_simp; rfl)); intro gb365 hg w8 hbox hb; have n0_ := Aside0.mk (below_step (by repeat (first | (with_reducible first | exact HB.out | apply below_alloc | apply pw_below_drewN | apply below_drew1) | exact HB.out)) hb); have n1_ := Aside0.mk (hbox); have n2_ := Aside0.mk ((by rw [hg]; exact (below_size (by repeat (first | (with_reducible first | exact HB.out | apply below_alloc | apply pw_below_drewN | apply below_drew1) | exact HB.out))) : w.heap.size ≤ gb365)); have n3_ := Aside0.mk ((by rw [hg]; exact (below_size (by repeat (first | (with_reducible first | exact HB.out | apply below_alloc | apply pw_below_drewN | apply below_drew1) | exact HB.out))) : w.heap.size ≤ gb365)); clear HB; have HB := n0_; have BK365 := n1_; have GW365 := n2_; have GE365 := n3_; clear n0_ n1_ n2_ n3_; clear hb hbox hg) | ((with_reducible refine gate_callee (f := 74) rfl ?_); refine goesL_ (some 11) rfl rfl Tryd.func74 (by kernel_rfl) rfl #[.string a0, .string (⟨#[32]⟩ : ByteArray)] rfl (by (try simp only [List.map_toArray, List.map_cons, List.map_nil]); first | done | rfl | (simp only [List.length_drop, List.length_take]; rfl)) ?_; (with_reducible refine (strings_Cut.calls a0 (⟨#[32]⟩ : ByteArray) t366 t367 true _ A2.out).mono ?_); rintro e w9 ⟨rfl, hb⟩; refine ⟨_, rfl, ?_⟩; have n0_ := Aside0.mk (blk_below (g := gb365) (o := .cells #[.string (⟨#[]⟩ : ByteArray), .int .u64 0, .int .u64 0] 44 (0, 0)) (by (with_reducible repeat (first | refine blk_drewN ?_ _ | refine blk_drew ?_ | refine blk_alloc ?_ _)); exact BK365.out) hb); have n1_ := Aside0.mk (below_step (by repeat (first | (with_reducible first | exact HB.out | apply below_alloc | apply pw_below_drewN | apply below_drew1 | refine below_set ?_ GE365.out) | exact HB.out)) hb); clear BK365; clear HB; have BK365 := n0_; have HB := n1_; clear n0_ n1_; (try clear hb); (try clear hb2); (try clear hk); (try clear hi)) | ((with_reducible refine gate_callee (f := 84) rfl ?_); refine goesL_ (some 17) rfl rfl Tryd.func84 (by kernel_rfl) rfl #[.string t367] rfl (by (try simp only [List.map_toArray, List.map_cons, List.map_nil]); first | done | rfl | (simp only [List.length_drop, List.length_take]; rfl)) ?_; (with_reducible refine (decimal_Parse.calls t367 t369 t370 t371 _ A3.out).mono ?_); rintro e w10 ⟨rfl, hb⟩; refine ⟨_, rfl, ?_⟩; have n0_ := Aside0.mk (blk_below (g := gb365) (o := .cells #[.string (⟨#[]⟩ : ByteArray), .int .u64 0, .int .u64 0] 44 (0, 0)) (by (with_reducible repeat (first | refine blk_drewN ?_ _ | refine blk_drew ?_ | refine blk_alloc ?_ _)); exact BK365.out) hb); have n1_ := Aside0.mk (below_step (by repeat (first | (with_reducible first | exact HB.out | apply below_alloc | apply pw_below_drewN | apply below_drew1 | refine below_set ?_ GE365.out) | exact HB.out)) hb); clear BK365; clear HB; have BK365 := n0_; have HB := n1_; clear n0_ n1_; (try clear hb); (try clear hb2); (try clear hk); (try clear hi)) | ((with_reducible refine gate_dst (N := 7) rfl ?_); refine box_event ?hg (N := 7) ?hd (cs := #[.int .u64 0, .int .u64 0]) (t := 42) ?hr ?_; (case hd => rfl); (case hg => rfl); (case hr => first | (go_simp; done) | (go_simp; rfl)); intro gb372 hg w11 hbox hb; have n0_ := Aside0.mk (blk_below (g := gb365) (o := .cells #[.string (⟨#[]⟩ : ByteArray), .int .u64 0, .int .u64 0] 44 (0, 0)) (by (with_reducible repeat (first | refine blk_drewN ?_ _ | refine blk_drew ?_ | refine blk_alloc ?_ _)); exact BK365.out) hb); have n1_ := Aside0.mk (below_step (by repeat (first | (with_reducible first | exact HB.out | apply below_alloc | apply pw_below_drewN | apply below_drew1 | refine below_set ?_ GE365.out) | exact HB.out)) hb); have n2_ := Aside0.mk (hbox); have n3_ := Aside0.mk ((by rw [hg]; exact (below_size (by repeat (first | (with_reducible first | exact HB.out | apply below_alloc | apply pw_below_drewN | apply below_drew1 | refine below_set ?_ GE365.out) | exact HB.out))) : w.heap.size ≤ gb372)); have n4_ := Aside0.mk ((by rw [hg]; exact (below_size (by repeat (first | (with_reducible first | exact HB.out | apply below_alloc | apply pw_below_drewN | apply below_drew1 | refine below_set ?_ GE365.out) | exact HB.out))) : w.heap.size ≤ gb372)); have n5_ := Aside0.mk ((by rw [hg]; exact Nat.ne_of_lt (blk_lt (g := gb365) (o := .cells #[.string (⟨#[]⟩ : ByteArray), .int .u64 0, .int .u64 0] 44 (0, 0)) (by (with_reducible repeat (first | refine blk_drewN ?_ _ | refine blk_drew ?_ | refine blk_alloc ?_ _)); exact BK365.out)) : gb365 ≠ gb372)); have n6_ := Aside0.mk ((by rw [hg]; exact Nat.ne_of_gt (blk_lt (g := gb365) (o := .cells #[.string (⟨#[]⟩ : ByteArray), .int .u64 0, .int .u64 0] 44 (0, 0)) (by (with_reducible repeat (first | refine blk_drewN ?_ _ | refine blk_drew ?_ | refine blk_alloc ?_ _)); exact BK365.out)) : gb372 ≠ gb365)); clear BK365; clear HB; have BK365 := n0_; have HB := n1_; have BK372 := n2_; have GW372 := n3_; have GE372 := n4_; have NB365_372 := n5_; have NB372_365 := n6_; clear n0_ n1_ n2_ n3_ n4_ n5_ n6_; clear hb hbox hg; have hnb12 := NB372_365.out; have hnc12 := NB365_372.out; have hcz13_0 : w11.cell? ⟨gb372, 0, none⟩ = some (.int .u64 0) := (blk_cell BK372.out 0).trans rfl; have hcz13_1 : w11.cell? ⟨gb372, 1, none⟩ = some (.int .u64 0) := (blk_cell BK372.out 1).trans rfl; have hfz13_0 := blk_frozen BK372.out 0; have hfz13_1 := blk_frozen BK372.out 1) | ((with_reducible refine gate_callee (f := 51) rfl ?_); refine goesL_ (some 26) rfl rfl Tryd.func51 (by kernel_rfl) rfl #[.string t366] rfl (by (try simp only [List.map_toArray, List.map_cons, List.map_nil]); first | done | rfl | (simp only [List.length_drop, List.length_take]; rfl)) ?_; (with_reducible refine (tag_MayId.calls t366 true _ ?side1 A5.out).mono ?_); (case side1 => exact gt_below hG (by repeat (first | (with_reducible first | exact HB.out | apply below_alloc | apply pw_below_drewN | apply below_drew1 | refine below_set ?_ GE365.out | refine below_set ?_ GE372.out) | exact HB.out))); rintro e w14 ⟨rfl, hb⟩; refine ⟨_, rfl, ?_⟩; have n0_ := Aside0.mk (blk_below (g := gb365) (o := .cells #[.string (⟨#[]⟩ : ByteArray), .int .u64 0, .int .u64 0] 44 (0, 0)) (by (with_reducible repeat (first | refine blk_drewN ?_ _ | refine blk_drew ?_ | refine blk_alloc ?_ _)); refine blk_far ?_ NB365_372.out _; (with_reducible repeat (first | refine blk_drewN ?_ _ | refine blk_drew ?_ | refine blk_alloc ?_ _)); refine blk_far ?_ NB365_372.out _; (with_reducible repeat (first | refine blk_drewN ?_ _ | refine blk_drew ?_ | refine blk_alloc ?_ _)); exact BK365.out) hb); have n1_ := Aside0.mk (blk_below (g := gb372) (o := .cells #[.int .u64 t369, .int .u64 t370] 42 (0, 0)) (by (with_reducible repeat (first | refine blk_drewN ?_ _ | refine blk_drew ?_ | refine blk_alloc ?_ _)); refine blk_put (cs := #[.int .u64 t369, .int .u64 0]) ?_ 1 _ rfl; (with_reducible repeat (first | refine blk_drewN ?_ _ | refine blk_drew ?_ | refine blk_alloc ?_ _)); refine blk_put (cs := #[.int .u64 0, .int .u64 0]) ?_ 0 _ rfl; (with_reducible repeat (first | refine blk_drewN ?_ _ | refine blk_drew ?_ | refine blk_alloc ?_ _)); exact BK372.out) hb); have n2_ := Aside0.mk (below_step (by repeat (first | (with_reducible first | exact HB.out | apply below_alloc | apply pw_below_drewN | apply below_drew1 | refine below_set ?_ GE365.out | refine below_set ?_ GE372.out) | exact HB.out)) hb); clear BK365; clear BK372; clear HB; have BK365 := n0_; have BK372 := n1_; have HB := n2_; clear n0_ n1_ n2_; (try clear hb); (try clear hb2); (try clear hk); (try clear hi); have hcz15_0 : w14.cell? ⟨gb372, 0, none⟩ = some (.int .u64 t369) := (blk_cell BK372.out 0).trans rfl; have hcz15_1 : w14.cell? ⟨gb372, 1, none⟩ = some (.int .u64 t370) := (blk_cell BK372.out 1).trans rfl; have hfz15_0 := blk_frozen BK372.out 0; have hfz15_1 := blk_frozen BK372.out 1; have hcz16_0 : w14.cell? ⟨gb365, 0, none⟩ = some (.string (⟨#[]⟩ : ByteArray)) := (blk_cell BK365.out 0).trans rfl; have hcz16_1 : w14.cell? ⟨gb365, 1, none⟩ = some (.int .u64 0) := (blk_cell BK365.out 1).trans rfl; have hcz16_2 : w14.cell? ⟨gb365, 2, none⟩ = some (.int .u64 0) := (blk_cell BK365.out 2).trans rfl; have hfz16_0 := blk_frozen BK365.out 0; have hfz16_1 := blk_frozen BK365.out 1; have hfz16_2 := blk_frozen BK365.out 2))
        refine bodyPost_ret (results_ct rfl _ _ gb365 44 #[.string t366, .int .u64 t369, .int .u64 t370] (0, 0) _ rfl (by (with_reducible repeat (first | refine blk_drewN ?_ _ | refine blk_drew ?_ | refine blk_alloc ?_ _)); refine blk_put (cs := #[.string t366, .int .u64 t369, .int .u64 0]) ?_ 2 _ rfl; (with_reducible repeat (first | refine blk_drewN ?_ _ | refine blk_drew ?_ | refine blk_alloc ?_ _)); refine blk_put (cs := #[.string t366, .int .u64 0, .int .u64 0]) ?_ 1 _ rfl; (with_reducible repeat (first | refine blk_drewN ?_ _ | refine blk_drew ?_ | refine blk_alloc ?_ _)); refine blk_put (cs := #[.string (⟨#[]⟩ : ByteArray), .int .u64 0, .int .u64 0]) ?_ 0 _ rfl; (with_reducible repeat (first | refine blk_drewN ?_ _ | refine blk_drew ?_ | refine blk_alloc ?_ _)); exact BK365.out) Tryd.underlying44 rfl (by kernel_rfl)) rfl ?_
        exact ⟨by first | rfl | (simp [errW_none, errW_some] <;> rfl) | (simp [*, errW_none, errW_some] <;> rfl), by repeat (first | (with_reducible first | exact HB.out | apply below_alloc | apply pw_below_drewN | apply below_drew1 | refine below_set ?_ GE365.out | refine below_set ?_ GE372.out) | exact HB.out)⟩
      · rw [if_neg c7] at H
        have c7b0 : (t371 == 0) = false := beq_eq_false_iff_ne.mpr c7
        have c7b1 : (t371 != 0) = true := bne_iff_ne.mpr c7
        simp only [Option.some.injEq, Prod.mk.injEq] at H
        obtain ⟨rfl, rfl, rfl, rfl⟩ := H
        go_enter Tryd.func47, Tryd.ntmps47
        go_wp2_with (first | ((with_reducible refine gate_dst (N := 2) rfl ?_); refine box_event ?hg (N := 2) ?hd (cs := #[.string (⟨#[]⟩ : ByteArray), .int .u64 0, .int .u64 0]) (t := 44) ?hr ?_; (case hd => rfl); (case hg => rfl); (case hr => first | (go_simp; done) | (go_simp; rfl)); intro gb365 hg w17 hbox hb; have n0_ := Aside0.mk (below_step (by repeat (first | (with_reducible first | exact HB.out | apply below_alloc | apply pw_below_drewN | apply below_drew1) | exact HB.out)) hb); have n1_ := Aside0.mk (hbox); have n2_ := Aside0.mk ((by rw [hg]; exact (below_size (by repeat (first | (with_reducible first | exact HB.out | apply below_alloc | apply pw_below_drewN | apply below_drew1) | exact HB.out))) : w.heap.size ≤ gb365)); have n3_ := Aside0.mk ((by rw [hg]; exact (below_size (by repeat (first | (with_reducible first | exact HB.out | apply below_alloc | apply pw_below_drewN | apply below_drew1) | exact HB.out))) : w.heap.size ≤ gb365)); clear HB; have HB := n0_; have BK365 := n1_; have GW365 := n2_; have GE365 := n3_; clear n0_ n1_ n2_ n3_; clear hb hbox hg) | ((with_reducible refine gate_callee (f := 74) rfl ?_); refine goesL_ (some 11) rfl rfl Tryd.func74 (by kernel_rfl) rfl #[.string a0, .string (⟨#[32]⟩ : ByteArray)] rfl (by (try simp only [List.map_toArray, List.map_cons, List.map_nil]); first | done | rfl | (simp only [List.length_drop, List.length_take]; rfl)) ?_; (with_reducible refine (strings_Cut.calls a0 (⟨#[32]⟩ : ByteArray) t366 t367 true _ A2.out).mono ?_); rintro e w18 ⟨rfl, hb⟩; refine ⟨_, rfl, ?_⟩; have n0_ := Aside0.mk (blk_below (g := gb365) (o := .cells #[.string (⟨#[]⟩ : ByteArray), .int .u64 0, .int .u64 0] 44 (0, 0)) (by (with_reducible repeat (first | refine blk_drewN ?_ _ | refine blk_drew ?_ | refine blk_alloc ?_ _)); exact BK365.out) hb); have n1_ := Aside0.mk (below_step (by repeat (first | (with_reducible first | exact HB.out | apply below_alloc | apply pw_below_drewN | apply below_drew1 | refine below_set ?_ GE365.out) | exact HB.out)) hb); clear BK365; clear HB; have BK365 := n0_; have HB := n1_; clear n0_ n1_; (try clear hb); (try clear hb2); (try clear hk); (try clear hi)) | ((with_reducible refine gate_callee (f := 84) rfl ?_); refine goesL_ (some 17) rfl rfl Tryd.func84 (by kernel_rfl) rfl #[.string t367] rfl (by (try simp only [List.map_toArray, List.map_cons, List.map_nil]); first | done | rfl | (simp only [List.length_drop, List.length_take]; rfl)) ?_; (with_reducible refine (decimal_Parse.calls t367 t369 t370 t371 _ A3.out).mono ?_); rintro e w19 ⟨rfl, hb⟩; refine ⟨_, rfl, ?_⟩; have n0_ := Aside0.mk (blk_below (g := gb365) (o := .cells #[.string (⟨#[]⟩ : ByteArray), .int .u64 0, .int .u64 0] 44 (0, 0)) (by (with_reducible repeat (first | refine blk_drewN ?_ _ | refine blk_drew ?_ | refine blk_alloc ?_ _)); exact BK365.out) hb); have n1_ := Aside0.mk (below_step (by repeat (first | (with_reducible first | exact HB.out | apply below_alloc | apply pw_below_drewN | apply below_drew1 | refine below_set ?_ GE365.out) | exact HB.out)) hb); clear BK365; clear HB; have BK365 := n0_; have HB := n1_; clear n0_ n1_; (try clear hb); (try clear hb2); (try clear hk); (try clear hi)) | ((with_reducible refine gate_dst (N := 7) rfl ?_); refine box_event ?hg (N := 7) ?hd (cs := #[.int .u64 0, .int .u64 0]) (t := 42) ?hr ?_; (case hd => rfl); (case hg => rfl); (case hr => first | (go_simp; done) | (go_simp; rfl)); intro gb372 hg w20 hbox hb; have n0_ := Aside0.mk (blk_below (g := gb365) (o := .cells #[.string (⟨#[]⟩ : ByteArray), .int .u64 0, .int .u64 0] 44 (0, 0)) (by (with_reducible repeat (first | refine blk_drewN ?_ _ | refine blk_drew ?_ | refine blk_alloc ?_ _)); exact BK365.out) hb); have n1_ := Aside0.mk (below_step (by repeat (first | (with_reducible first | exact HB.out | apply below_alloc | apply pw_below_drewN | apply below_drew1 | refine below_set ?_ GE365.out) | exact HB.out)) hb); have n2_ := Aside0.mk (hbox); have n3_ := Aside0.mk ((by rw [hg]; exact (below_size (by repeat (first | (with_reducible first | exact HB.out | apply below_alloc | apply pw_below_drewN | apply below_drew1 | refine below_set ?_ GE365.out) | exact HB.out))) : w.heap.size ≤ gb372)); have n4_ := Aside0.mk ((by rw [hg]; exact (below_size (by repeat (first | (with_reducible first | exact HB.out | apply below_alloc | apply pw_below_drewN | apply below_drew1 | refine below_set ?_ GE365.out) | exact HB.out))) : w.heap.size ≤ gb372)); have n5_ := Aside0.mk ((by rw [hg]; exact Nat.ne_of_lt (blk_lt (g := gb365) (o := .cells #[.string (⟨#[]⟩ : ByteArray), .int .u64 0, .int .u64 0] 44 (0, 0)) (by (with_reducible repeat (first | refine blk_drewN ?_ _ | refine blk_drew ?_ | refine blk_alloc ?_ _)); exact BK365.out)) : gb365 ≠ gb372)); have n6_ := Aside0.mk ((by rw [hg]; exact Nat.ne_of_gt (blk_lt (g := gb365) (o := .cells #[.string (⟨#[]⟩ : ByteArray), .int .u64 0, .int .u64 0] 44 (0, 0)) (by (with_reducible repeat (first | refine blk_drewN ?_ _ | refine blk_drew ?_ | refine blk_alloc ?_ _)); exact BK365.out)) : gb372 ≠ gb365)); clear BK365; clear HB; have BK365 := n0_; have HB := n1_; have BK372 := n2_; have GW372 := n3_; have GE372 := n4_; have NB365_372 := n5_; have NB372_365 := n6_; clear n0_ n1_ n2_ n3_ n4_ n5_ n6_; clear hb hbox hg; have hnb21 := NB372_365.out; have hnc21 := NB365_372.out; have hcz22_0 : w20.cell? ⟨gb372, 0, none⟩ = some (.int .u64 0) := (blk_cell BK372.out 0).trans rfl; have hcz22_1 : w20.cell? ⟨gb372, 1, none⟩ = some (.int .u64 0) := (blk_cell BK372.out 1).trans rfl; have hfz22_0 := blk_frozen BK372.out 0; have hfz22_1 := blk_frozen BK372.out 1) | ((with_reducible refine gate_callee (f := 51) rfl ?_); refine goesL_ (some 26) rfl rfl Tryd.func51 (by kernel_rfl) rfl #[.string t366] rfl (by (try simp only [List.map_toArray, List.map_cons, List.map_nil]); first | done | rfl | (simp only [List.length_drop, List.length_take]; rfl)) ?_; (with_reducible refine (tag_MayId.calls t366 true _ ?side1 A5.out).mono ?_); (case side1 => exact gt_below hG (by repeat (first | (with_reducible first | exact HB.out | apply below_alloc | apply pw_below_drewN | apply below_drew1 | refine below_set ?_ GE365.out | refine below_set ?_ GE372.out) | exact HB.out))); rintro e w23 ⟨rfl, hb⟩; refine ⟨_, rfl, ?_⟩; have n0_ := Aside0.mk (blk_below (g := gb365) (o := .cells #[.string (⟨#[]⟩ : ByteArray), .int .u64 0, .int .u64 0] 44 (0, 0)) (by (with_reducible repeat (first | refine blk_drewN ?_ _ | refine blk_drew ?_ | refine blk_alloc ?_ _)); refine blk_far ?_ NB365_372.out _; (with_reducible repeat (first | refine blk_drewN ?_ _ | refine blk_drew ?_ | refine blk_alloc ?_ _)); refine blk_far ?_ NB365_372.out _; (with_reducible repeat (first | refine blk_drewN ?_ _ | refine blk_drew ?_ | refine blk_alloc ?_ _)); exact BK365.out) hb); have n1_ := Aside0.mk (blk_below (g := gb372) (o := .cells #[.int .u64 t369, .int .u64 t370] 42 (0, 0)) (by (with_reducible repeat (first | refine blk_drewN ?_ _ | refine blk_drew ?_ | refine blk_alloc ?_ _)); refine blk_put (cs := #[.int .u64 t369, .int .u64 0]) ?_ 1 _ rfl; (with_reducible repeat (first | refine blk_drewN ?_ _ | refine blk_drew ?_ | refine blk_alloc ?_ _)); refine blk_put (cs := #[.int .u64 0, .int .u64 0]) ?_ 0 _ rfl; (with_reducible repeat (first | refine blk_drewN ?_ _ | refine blk_drew ?_ | refine blk_alloc ?_ _)); exact BK372.out) hb); have n2_ := Aside0.mk (below_step (by repeat (first | (with_reducible first | exact HB.out | apply below_alloc | apply pw_below_drewN | apply below_drew1 | refine below_set ?_ GE365.out | refine below_set ?_ GE372.out) | exact HB.out)) hb); clear BK365; clear BK372; clear HB; have BK365 := n0_; have BK372 := n1_; have HB := n2_; clear n0_ n1_ n2_; (try clear hb); (try clear hb2); (try clear hk); (try clear hi); have hcz24_0 : w23.cell? ⟨gb365, 0, none⟩ = some (.string (⟨#[]⟩ : ByteArray)) := (blk_cell BK365.out 0).trans rfl; have hcz24_1 : w23.cell? ⟨gb365, 1, none⟩ = some (.int .u64 0) := (blk_cell BK365.out 1).trans rfl; have hcz24_2 : w23.cell? ⟨gb365, 2, none⟩ = some (.int .u64 0) := (blk_cell BK365.out 2).trans rfl; have hfz24_0 := blk_frozen BK365.out 0; have hfz24_1 := blk_frozen BK365.out 1; have hfz24_2 := blk_frozen BK365.out 2))
        refine bodyPost_ret (results_ct rfl _ _ gb365 44 #[.string (⟨#[]⟩ : ByteArray), .int .u64 0, .int .u64 0] (0, 0) _ rfl (by (with_reducible repeat (first | refine blk_drewN ?_ _ | refine blk_drew ?_ | refine blk_alloc ?_ _)); refine blk_put (cs := #[.string (⟨#[]⟩ : ByteArray), .int .u64 0, .int .u64 0]) ?_ 2 _ rfl; (with_reducible repeat (first | refine blk_drewN ?_ _ | refine blk_drew ?_ | refine blk_alloc ?_ _)); refine blk_put (cs := #[.string (⟨#[]⟩ : ByteArray), .int .u64 0, .int .u64 0]) ?_ 1 _ rfl; (with_reducible repeat (first | refine blk_drewN ?_ _ | refine blk_drew ?_ | refine blk_alloc ?_ _)); refine blk_put (cs := #[.string (⟨#[]⟩ : ByteArray), .int .u64 0, .int .u64 0]) ?_ 0 _ rfl; (with_reducible repeat (first | refine blk_drewN ?_ _ | refine blk_drew ?_ | refine blk_alloc ?_ _)); exact BK365.out) Tryd.underlying44 rfl (by kernel_rfl)) rfl ?_
        exact ⟨by first | rfl | (simp [errW_none, errW_some] <;> rfl) | (simp [*, errW_none, errW_some] <;> rfl), by repeat (first | (with_reducible first | exact HB.out | apply below_alloc | apply pw_below_drewN | apply below_drew1 | refine below_set ?_ GE365.out | refine below_set ?_ GE372.out) | exact HB.out)⟩
    · replace c6 := Bool.eq_false_iff.mpr c6
      subst c6
      have H1 : (some ((⟨#[]⟩ : ByteArray), 0, 0, 101)) = some (r1, r2, r3, r4) := by rw [if_neg (show ¬ (false = true) by decide)] at H; exact H
      clear H
      have H := H1
      clear H1
      simp only [Option.some.injEq, Prod.mk.injEq] at H
      obtain ⟨rfl, rfl, rfl, rfl⟩ := H
      go_enter Tryd.func47, Tryd.ntmps47
      go_wp2_with (first | ((with_reducible refine gate_dst (N := 2) rfl ?_); refine box_event ?hg (N := 2) ?hd (cs := #[.string (⟨#[]⟩ : ByteArray), .int .u64 0, .int .u64 0]) (t := 44) ?hr ?_; (case hd => rfl); (case hg => rfl); (case hr => first | (go_simp; done) | (go_simp; rfl)); intro gb365 hg w25 hbox hb; have n0_ := Aside0.mk (below_step (by repeat (first | (with_reducible first | exact HB.out | apply below_alloc | apply pw_below_drewN | apply below_drew1) | exact HB.out)) hb); have n1_ := Aside0.mk (hbox); have n2_ := Aside0.mk ((by rw [hg]; exact (below_size (by repeat (first | (with_reducible first | exact HB.out | apply below_alloc | apply pw_below_drewN | apply below_drew1) | exact HB.out))) : w.heap.size ≤ gb365)); have n3_ := Aside0.mk ((by rw [hg]; exact (below_size (by repeat (first | (with_reducible first | exact HB.out | apply below_alloc | apply pw_below_drewN | apply below_drew1) | exact HB.out))) : w.heap.size ≤ gb365)); clear HB; have HB := n0_; have BK365 := n1_; have GW365 := n2_; have GE365 := n3_; clear n0_ n1_ n2_ n3_; clear hb hbox hg) | ((with_reducible refine gate_callee (f := 74) rfl ?_); refine goesL_ (some 11) rfl rfl Tryd.func74 (by kernel_rfl) rfl #[.string a0, .string (⟨#[32]⟩ : ByteArray)] rfl (by (try simp only [List.map_toArray, List.map_cons, List.map_nil]); first | done | rfl | (simp only [List.length_drop, List.length_take]; rfl)) ?_; (with_reducible refine (strings_Cut.calls a0 (⟨#[32]⟩ : ByteArray) t366 t367 true _ A2.out).mono ?_); rintro e w26 ⟨rfl, hb⟩; refine ⟨_, rfl, ?_⟩; have n0_ := Aside0.mk (blk_below (g := gb365) (o := .cells #[.string (⟨#[]⟩ : ByteArray), .int .u64 0, .int .u64 0] 44 (0, 0)) (by (with_reducible repeat (first | refine blk_drewN ?_ _ | refine blk_drew ?_ | refine blk_alloc ?_ _)); exact BK365.out) hb); have n1_ := Aside0.mk (below_step (by repeat (first | (with_reducible first | exact HB.out | apply below_alloc | apply pw_below_drewN | apply below_drew1 | refine below_set ?_ GE365.out) | exact HB.out)) hb); clear BK365; clear HB; have BK365 := n0_; have HB := n1_; clear n0_ n1_; (try clear hb); (try clear hb2); (try clear hk); (try clear hi)) | ((with_reducible refine gate_callee (f := 84) rfl ?_); refine goesL_ (some 17) rfl rfl Tryd.func84 (by kernel_rfl) rfl #[.string t367] rfl (by (try simp only [List.map_toArray, List.map_cons, List.map_nil]); first | done | rfl | (simp only [List.length_drop, List.length_take]; rfl)) ?_; (with_reducible refine (decimal_Parse.calls t367 t369 t370 t371 _ A3.out).mono ?_); rintro e w27 ⟨rfl, hb⟩; refine ⟨_, rfl, ?_⟩; have n0_ := Aside0.mk (blk_below (g := gb365) (o := .cells #[.string (⟨#[]⟩ : ByteArray), .int .u64 0, .int .u64 0] 44 (0, 0)) (by (with_reducible repeat (first | refine blk_drewN ?_ _ | refine blk_drew ?_ | refine blk_alloc ?_ _)); exact BK365.out) hb); have n1_ := Aside0.mk (below_step (by repeat (first | (with_reducible first | exact HB.out | apply below_alloc | apply pw_below_drewN | apply below_drew1 | refine below_set ?_ GE365.out) | exact HB.out)) hb); clear BK365; clear HB; have BK365 := n0_; have HB := n1_; clear n0_ n1_; (try clear hb); (try clear hb2); (try clear hk); (try clear hi)) | ((with_reducible refine gate_dst (N := 7) rfl ?_); refine box_event ?hg (N := 7) ?hd (cs := #[.int .u64 0, .int .u64 0]) (t := 42) ?hr ?_; (case hd => rfl); (case hg => rfl); (case hr => first | (go_simp; done) | (go_simp; rfl)); intro gb372 hg w28 hbox hb; have n0_ := Aside0.mk (blk_below (g := gb365) (o := .cells #[.string (⟨#[]⟩ : ByteArray), .int .u64 0, .int .u64 0] 44 (0, 0)) (by (with_reducible repeat (first | refine blk_drewN ?_ _ | refine blk_drew ?_ | refine blk_alloc ?_ _)); exact BK365.out) hb); have n1_ := Aside0.mk (below_step (by repeat (first | (with_reducible first | exact HB.out | apply below_alloc | apply pw_below_drewN | apply below_drew1 | refine below_set ?_ GE365.out) | exact HB.out)) hb); have n2_ := Aside0.mk (hbox); have n3_ := Aside0.mk ((by rw [hg]; exact (below_size (by repeat (first | (with_reducible first | exact HB.out | apply below_alloc | apply pw_below_drewN | apply below_drew1 | refine below_set ?_ GE365.out) | exact HB.out))) : w.heap.size ≤ gb372)); have n4_ := Aside0.mk ((by rw [hg]; exact (below_size (by repeat (first | (with_reducible first | exact HB.out | apply below_alloc | apply pw_below_drewN | apply below_drew1 | refine below_set ?_ GE365.out) | exact HB.out))) : w.heap.size ≤ gb372)); have n5_ := Aside0.mk ((by rw [hg]; exact Nat.ne_of_lt (blk_lt (g := gb365) (o := .cells #[.string (⟨#[]⟩ : ByteArray), .int .u64 0, .int .u64 0] 44 (0, 0)) (by (with_reducible repeat (first | refine blk_drewN ?_ _ | refine blk_drew ?_ | refine blk_alloc ?_ _)); exact BK365.out)) : gb365 ≠ gb372)); have n6_ := Aside0.mk ((by rw [hg]; exact Nat.ne_of_gt (blk_lt (g := gb365) (o := .cells #[.string (⟨#[]⟩ : ByteArray), .int .u64 0, .int .u64 0] 44 (0, 0)) (by (with_reducible repeat (first | refine blk_drewN ?_ _ | refine blk_drew ?_ | refine blk_alloc ?_ _)); exact BK365.out)) : gb372 ≠ gb365)); clear BK365; clear HB; have BK365 := n0_; have HB := n1_; have BK372 := n2_; have GW372 := n3_; have GE372 := n4_; have NB365_372 := n5_; have NB372_365 := n6_; clear n0_ n1_ n2_ n3_ n4_ n5_ n6_; clear hb hbox hg; have hnb29 := NB372_365.out; have hnc29 := NB365_372.out; have hcz30_0 : w28.cell? ⟨gb372, 0, none⟩ = some (.int .u64 0) := (blk_cell BK372.out 0).trans rfl; have hcz30_1 : w28.cell? ⟨gb372, 1, none⟩ = some (.int .u64 0) := (blk_cell BK372.out 1).trans rfl; have hfz30_0 := blk_frozen BK372.out 0; have hfz30_1 := blk_frozen BK372.out 1) | ((with_reducible refine gate_callee (f := 51) rfl ?_); refine goesL_ (some 26) rfl rfl Tryd.func51 (by kernel_rfl) rfl #[.string t366] rfl (by (try simp only [List.map_toArray, List.map_cons, List.map_nil]); first | done | rfl | (simp only [List.length_drop, List.length_take]; rfl)) ?_; (with_reducible refine (tag_MayId.calls t366 false _ ?side1 A5.out).mono ?_); (case side1 => exact gt_below hG (by repeat (first | (with_reducible first | exact HB.out | apply below_alloc | apply pw_below_drewN | apply below_drew1 | refine below_set ?_ GE365.out | refine below_set ?_ GE372.out) | exact HB.out))); rintro e w31 ⟨rfl, hb⟩; refine ⟨_, rfl, ?_⟩; have n0_ := Aside0.mk (blk_below (g := gb365) (o := .cells #[.string (⟨#[]⟩ : ByteArray), .int .u64 0, .int .u64 0] 44 (0, 0)) (by (with_reducible repeat (first | refine blk_drewN ?_ _ | refine blk_drew ?_ | refine blk_alloc ?_ _)); refine blk_far ?_ NB365_372.out _; (with_reducible repeat (first | refine blk_drewN ?_ _ | refine blk_drew ?_ | refine blk_alloc ?_ _)); refine blk_far ?_ NB365_372.out _; (with_reducible repeat (first | refine blk_drewN ?_ _ | refine blk_drew ?_ | refine blk_alloc ?_ _)); exact BK365.out) hb); have n1_ := Aside0.mk (blk_below (g := gb372) (o := .cells #[.int .u64 t369, .int .u64 t370] 42 (0, 0)) (by (with_reducible repeat (first | refine blk_drewN ?_ _ | refine blk_drew ?_ | refine blk_alloc ?_ _)); refine blk_put (cs := #[.int .u64 t369, .int .u64 0]) ?_ 1 _ rfl; (with_reducible repeat (first | refine blk_drewN ?_ _ | refine blk_drew ?_ | refine blk_alloc ?_ _)); refine blk_put (cs := #[.int .u64 0, .int .u64 0]) ?_ 0 _ rfl; (with_reducible repeat (first | refine blk_drewN ?_ _ | refine blk_drew ?_ | refine blk_alloc ?_ _)); exact BK372.out) hb); have n2_ := Aside0.mk (below_step (by repeat (first | (with_reducible first | exact HB.out | apply below_alloc | apply pw_below_drewN | apply below_drew1 | refine below_set ?_ GE365.out | refine below_set ?_ GE372.out) | exact HB.out)) hb); clear BK365; clear BK372; clear HB; have BK365 := n0_; have BK372 := n1_; have HB := n2_; clear n0_ n1_ n2_; (try clear hb); (try clear hb2); (try clear hk); (try clear hi); have hcz32_0 : w31.cell? ⟨gb365, 0, none⟩ = some (.string (⟨#[]⟩ : ByteArray)) := (blk_cell BK365.out 0).trans rfl; have hcz32_1 : w31.cell? ⟨gb365, 1, none⟩ = some (.int .u64 0) := (blk_cell BK365.out 1).trans rfl; have hcz32_2 : w31.cell? ⟨gb365, 2, none⟩ = some (.int .u64 0) := (blk_cell BK365.out 2).trans rfl; have hfz32_0 := blk_frozen BK365.out 0; have hfz32_1 := blk_frozen BK365.out 1; have hfz32_2 := blk_frozen BK365.out 2))
      refine bodyPost_ret (results_ct rfl _ _ gb365 44 #[.string (⟨#[]⟩ : ByteArray), .int .u64 0, .int .u64 0] (0, 0) _ rfl (by (with_reducible repeat (first | refine blk_drewN ?_ _ | refine blk_drew ?_ | refine blk_alloc ?_ _)); refine blk_put (cs := #[.string (⟨#[]⟩ : ByteArray), .int .u64 0, .int .u64 0]) ?_ 2 _ rfl; (with_reducible repeat (first | refine blk_drewN ?_ _ | refine blk_drew ?_ | refine blk_alloc ?_ _)); refine blk_put (cs := #[.string (⟨#[]⟩ : ByteArray), .int .u64 0, .int .u64 0]) ?_ 1 _ rfl; (with_reducible repeat (first | refine blk_drewN ?_ _ | refine blk_drew ?_ | refine blk_alloc ?_ _)); refine blk_put (cs := #[.string (⟨#[]⟩ : ByteArray), .int .u64 0, .int .u64 0]) ?_ 0 _ rfl; (with_reducible repeat (first | refine blk_drewN ?_ _ | refine blk_drew ?_ | refine blk_alloc ?_ _)); exact BK365.out) Tryd.underlying44 rfl (by kernel_rfl)) rfl ?_
      exact ⟨by first | rfl | (simp [errW_none, errW_some] <;> rfl) | (simp [*, errW_none, errW_some] <;> rfl), by repeat (first | (with_reducible first | exact HB.out | apply below_alloc | apply pw_below_drewN | apply below_drew1 | refine below_set ?_ GE365.out | refine below_set ?_ GE372.out) | exact HB.out)⟩
  · replace c4 := Bool.eq_false_iff.mpr c4
    subst c4
    have H1 : (some ((⟨#[]⟩ : ByteArray), 0, 0, 100)) = some (r1, r2, r3, r4) := by rw [if_neg (show ¬ (false = true) by decide)] at H; exact H
    clear H
    have H := H1
    clear H1
    simp only [Option.some.injEq, Prod.mk.injEq] at H
    obtain ⟨rfl, rfl, rfl, rfl⟩ := H
    go_enter Tryd.func47, Tryd.ntmps47
    go_wp2_with (first | ((with_reducible refine gate_dst (N := 2) rfl ?_); refine box_event ?hg (N := 2) ?hd (cs := #[.string (⟨#[]⟩ : ByteArray), .int .u64 0, .int .u64 0]) (t := 44) ?hr ?_; (case hd => rfl); (case hg => rfl); (case hr => first | (go_simp; done) | (go_simp; rfl)); intro gb365 hg w33 hbox hb; have n0_ := Aside0.mk (below_step (by repeat (first | (with_reducible first | exact HB.out | apply below_alloc | apply pw_below_drewN | apply below_drew1) | exact HB.out)) hb); have n1_ := Aside0.mk (hbox); have n2_ := Aside0.mk ((by rw [hg]; exact (below_size (by repeat (first | (with_reducible first | exact HB.out | apply below_alloc | apply pw_below_drewN | apply below_drew1) | exact HB.out))) : w.heap.size ≤ gb365)); have n3_ := Aside0.mk ((by rw [hg]; exact (below_size (by repeat (first | (with_reducible first | exact HB.out | apply below_alloc | apply pw_below_drewN | apply below_drew1) | exact HB.out))) : w.heap.size ≤ gb365)); clear HB; have HB := n0_; have BK365 := n1_; have GW365 := n2_; have GE365 := n3_; clear n0_ n1_ n2_ n3_; clear hb hbox hg) | ((with_reducible refine gate_callee (f := 74) rfl ?_); refine goesL_ (some 11) rfl rfl Tryd.func74 (by kernel_rfl) rfl #[.string a0, .string (⟨#[32]⟩ : ByteArray)] rfl (by (try simp only [List.map_toArray, List.map_cons, List.map_nil]); first | done | rfl | (simp only [List.length_drop, List.length_take]; rfl)) ?_; (with_reducible refine (strings_Cut.calls a0 (⟨#[32]⟩ : ByteArray) t366 t367 false _ A2.out).mono ?_); rintro e w34 ⟨rfl, hb⟩; refine ⟨_, rfl, ?_⟩; have n0_ := Aside0.mk (blk_below (g := gb365) (o := .cells #[.string (⟨#[]⟩ : ByteArray), .int .u64 0, .int .u64 0] 44 (0, 0)) (by (with_reducible repeat (first | refine blk_drewN ?_ _ | refine blk_drew ?_ | refine blk_alloc ?_ _)); exact BK365.out) hb); have n1_ := Aside0.mk (below_step (by repeat (first | (with_reducible first | exact HB.out | apply below_alloc | apply pw_below_drewN | apply below_drew1 | refine below_set ?_ GE365.out) | exact HB.out)) hb); clear BK365; clear HB; have BK365 := n0_; have HB := n1_; clear n0_ n1_; (try clear hb); (try clear hb2); (try clear hk); (try clear hi)) | ((with_reducible refine gate_callee (f := 84) rfl ?_); refine goesL_ (some 17) rfl rfl Tryd.func84 (by kernel_rfl) rfl #[.string t367] rfl (by (try simp only [List.map_toArray, List.map_cons, List.map_nil]); first | done | rfl | (simp only [List.length_drop, List.length_take]; rfl)) ?_; (with_reducible refine (decimal_Parse.calls t367 t369 t370 t371 _ A3.out).mono ?_); rintro e w35 ⟨rfl, hb⟩; refine ⟨_, rfl, ?_⟩; have n0_ := Aside0.mk (blk_below (g := gb365) (o := .cells #[.string (⟨#[]⟩ : ByteArray), .int .u64 0, .int .u64 0] 44 (0, 0)) (by (with_reducible repeat (first | refine blk_drewN ?_ _ | refine blk_drew ?_ | refine blk_alloc ?_ _)); exact BK365.out) hb); have n1_ := Aside0.mk (below_step (by repeat (first | (with_reducible first | exact HB.out | apply below_alloc | apply pw_below_drewN | apply below_drew1 | refine below_set ?_ GE365.out) | exact HB.out)) hb); clear BK365; clear HB; have BK365 := n0_; have HB := n1_; clear n0_ n1_; (try clear hb); (try clear hb2); (try clear hk); (try clear hi)) | ((with_reducible refine gate_dst (N := 7) rfl ?_); refine box_event ?hg (N := 7) ?hd (cs := #[.int .u64 0, .int .u64 0]) (t := 42) ?hr ?_; (case hd => rfl); (case hg => rfl); (case hr => first | (go_simp; done) | (go_simp; rfl)); intro gb372 hg w36 hbox hb; have n0_ := Aside0.mk (blk_below (g := gb365) (o := .cells #[.string (⟨#[]⟩ : ByteArray), .int .u64 0, .int .u64 0] 44 (0, 0)) (by (with_reducible repeat (first | refine blk_drewN ?_ _ | refine blk_drew ?_ | refine blk_alloc ?_ _)); exact BK365.out) hb); have n1_ := Aside0.mk (below_step (by repeat (first | (with_reducible first | exact HB.out | apply below_alloc | apply pw_below_drewN | apply below_drew1 | refine below_set ?_ GE365.out) | exact HB.out)) hb); have n2_ := Aside0.mk (hbox); have n3_ := Aside0.mk ((by rw [hg]; exact (below_size (by repeat (first | (with_reducible first | exact HB.out | apply below_alloc | apply pw_below_drewN | apply below_drew1 | refine below_set ?_ GE365.out) | exact HB.out))) : w.heap.size ≤ gb372)); have n4_ := Aside0.mk ((by rw [hg]; exact (below_size (by repeat (first | (with_reducible first | exact HB.out | apply below_alloc | apply pw_below_drewN | apply below_drew1 | refine below_set ?_ GE365.out) | exact HB.out))) : w.heap.size ≤ gb372)); have n5_ := Aside0.mk ((by rw [hg]; exact Nat.ne_of_lt (blk_lt (g := gb365) (o := .cells #[.string (⟨#[]⟩ : ByteArray), .int .u64 0, .int .u64 0] 44 (0, 0)) (by (with_reducible repeat (first | refine blk_drewN ?_ _ | refine blk_drew ?_ | refine blk_alloc ?_ _)); exact BK365.out)) : gb365 ≠ gb372)); have n6_ := Aside0.mk ((by rw [hg]; exact Nat.ne_of_gt (blk_lt (g := gb365) (o := .cells #[.string (⟨#[]⟩ : ByteArray), .int .u64 0, .int .u64 0] 44 (0, 0)) (by (with_reducible repeat (first | refine blk_drewN ?_ _ | refine blk_drew ?_ | refine blk_alloc ?_ _)); exact BK365.out)) : gb372 ≠ gb365)); clear BK365; clear HB; have BK365 := n0_; have HB := n1_; have BK372 := n2_; have GW372 := n3_; have GE372 := n4_; have NB365_372 := n5_; have NB372_365 := n6_; clear n0_ n1_ n2_ n3_ n4_ n5_ n6_; clear hb hbox hg; have hnb37 := NB372_365.out; have hnc37 := NB365_372.out; have hcz38_0 : w36.cell? ⟨gb372, 0, none⟩ = some (.int .u64 0) := (blk_cell BK372.out 0).trans rfl; have hcz38_1 : w36.cell? ⟨gb372, 1, none⟩ = some (.int .u64 0) := (blk_cell BK372.out 1).trans rfl; have hfz38_0 := blk_frozen BK372.out 0; have hfz38_1 := blk_frozen BK372.out 1; have hcz39_0 : w36.cell? ⟨gb365, 0, none⟩ = some (.string (⟨#[]⟩ : ByteArray)) := (blk_cell BK365.out 0).trans rfl; have hcz39_1 : w36.cell? ⟨gb365, 1, none⟩ = some (.int .u64 0) := (blk_cell BK365.out 1).trans rfl; have hcz39_2 : w36.cell? ⟨gb365, 2, none⟩ = some (.int .u64 0) := (blk_cell BK365.out 2).trans rfl; have hfz39_0 := blk_frozen BK365.out 0; have hfz39_1 := blk_frozen BK365.out 1; have hfz39_2 := blk_frozen BK365.out 2))
    refine bodyPost_ret (results_ct rfl _ _ gb365 44 #[.string (⟨#[]⟩ : ByteArray), .int .u64 0, .int .u64 0] (0, 0) _ rfl (by (with_reducible repeat (first | refine blk_drewN ?_ _ | refine blk_drew ?_ | refine blk_alloc ?_ _)); refine blk_put (cs := #[.string (⟨#[]⟩ : ByteArray), .int .u64 0, .int .u64 0]) ?_ 2 _ rfl; (with_reducible repeat (first | refine blk_drewN ?_ _ | refine blk_drew ?_ | refine blk_alloc ?_ _)); refine blk_put (cs := #[.string (⟨#[]⟩ : ByteArray), .int .u64 0, .int .u64 0]) ?_ 1 _ rfl; (with_reducible repeat (first | refine blk_drewN ?_ _ | refine blk_drew ?_ | refine blk_alloc ?_ _)); refine blk_put (cs := #[.string (⟨#[]⟩ : ByteArray), .int .u64 0, .int .u64 0]) ?_ 0 _ rfl; (with_reducible repeat (first | refine blk_drewN ?_ _ | refine blk_drew ?_ | refine blk_alloc ?_ _)); refine blk_far ?_ NB365_372.out _; (with_reducible repeat (first | refine blk_drewN ?_ _ | refine blk_drew ?_ | refine blk_alloc ?_ _)); refine blk_far ?_ NB365_372.out _; (with_reducible repeat (first | refine blk_drewN ?_ _ | refine blk_drew ?_ | refine blk_alloc ?_ _)); exact BK365.out) Tryd.underlying44 rfl (by kernel_rfl)) rfl ?_
    exact ⟨by first | rfl | (simp [errW_none, errW_some] <;> rfl) | (simp [*, errW_none, errW_some] <;> rfl), by repeat (first | (with_reducible first | exact HB.out | apply below_alloc | apply pw_below_drewN | apply below_drew1 | refine below_set ?_ GE365.out | refine below_set ?_ GE372.out) | exact HB.out)⟩
def row_Of.f (a0_0 : Int) (a0_1 : ByteArray) (a0_2 : Int) (a0_3 : Int) : Option (ByteArray × Int × Int × Bool × Int) := if a0_3 = 0 then (if a0_2 = 2 then ((row_Parse.f a0_1).bind fun bt376 => (some (bt376.1, bt376.2.1, bt376.2.2.1, (bt376.2.2.2 == 0), bt376.2.2.2))) else (some ((⟨#[]⟩ : ByteArray), 0, 0, false, 0))) else (some ((⟨#[]⟩ : ByteArray), 0, 0, false, a0_3))
set_option maxHeartbeats 8000000 in
set_option maxRecDepth 100000 in
theorem row_Of.calls (a0_0 : Int) (a0_1 : ByteArray) (a0_2 : Int) (a0_3 : Int) (r1 : ByteArray) (r2 : Int) (r3 : Int) (r4 : Bool) (r5 : Int) (w : World) (hG : GT w) (h : row_Of.f a0_0 a0_1 a0_2 a0_3 = some (r1, r2, r3, r4, r5)) :
    Calls Tryd.prog 43 #[.agg #[.int .i64 a0_0, .string a0_1, .int .u8 a0_2, .int .i64 a0_3]] w fun e w' => e = .returned (.tuple #[.agg #[.string r1, .int .u64 r2, .int .u64 r3], .bool r4, .int .i64 r5]) ∧ Below w.heap.size w w' := by
  have hu56 := Tryd.underlying56
  have hu44 := Tryd.underlying44
  have HB := Aside0.mk (Below.refl w.heap.size w)
  have H : (if a0_3 = 0 then (if a0_2 = 2 then ((row_Parse.f a0_1).bind fun bt376 => (some (bt376.1, bt376.2.1, bt376.2.2.1, (bt376.2.2.2 == 0), bt376.2.2.2))) else (some ((⟨#[]⟩ : ByteArray), 0, 0, false, 0))) else (some ((⟨#[]⟩ : ByteArray), 0, 0, false, a0_3))) = some (r1, r2, r3, r4, r5) := h
  clear h
  by_cases c2 : a0_3 = 0
  · rw [if_pos c2] at H
    have c2b0 : (a0_3 == 0) = true := beq_iff_eq.mpr c2
    have c2b1 : (a0_3 != 0) = false := bne_eq_false_iff_eq.mpr c2
    clear c2
    by_cases c3 : a0_2 = 2
    · rw [if_pos c3] at H
      have c3b0 : (a0_2 == 2) = true := beq_iff_eq.mpr c3
      have c3b1 : (a0_2 != 2) = false := bne_eq_false_iff_eq.mpr c3
      clear c3
      replace H := Option.bind_eq_some_iff.mp H
      obtain ⟨⟨t376, t377, t378, t379⟩, A40, H⟩ := H
      replace H : (some (t376, t377, t378, (t379 == 0), t379)) = some (r1, r2, r3, r4, r5) := H
      have A4 := Aside0.mk A40
      clear A40
      simp only [Option.some.injEq, Prod.mk.injEq] at H
      obtain ⟨rfl, rfl, rfl, rfl, rfl⟩ := H
      go_enter Tryd.func43, Tryd.ntmps43
      go_wp2_with (first | ((with_reducible refine gate_dst (N := 1) rfl ?_); refine box_event ?hg (N := 1) ?hd (cs := #[.int .i64 a0_0, .string a0_1, .int .u8 a0_2, .int .i64 a0_3]) (t := 56) ?hr ?_; (case hd => rfl); (case hg => rfl); (case hr => first | (go_simp; done) | (go_simp; rfl)); intro gb374 hg w5 hbox hb; have n0_ := Aside0.mk (below_step (by repeat (first | (with_reducible first | exact HB.out | apply below_alloc | apply pw_below_drewN | apply below_drew1) | exact HB.out)) hb); have n1_ := Aside0.mk (hbox); have n2_ := Aside0.mk ((by rw [hg]; exact (below_size (by repeat (first | (with_reducible first | exact HB.out | apply below_alloc | apply pw_below_drewN | apply below_drew1) | exact HB.out))) : w.heap.size ≤ gb374)); have n3_ := Aside0.mk ((by rw [hg]; exact (below_size (by repeat (first | (with_reducible first | exact HB.out | apply below_alloc | apply pw_below_drewN | apply below_drew1) | exact HB.out))) : w.heap.size ≤ gb374)); clear HB; have HB := n0_; have BK374 := n1_; have GW374 := n2_; have GE374 := n3_; clear n0_ n1_ n2_ n3_; clear hb hbox hg) | ((with_reducible refine gate_dst (N := 2) rfl ?_); refine box_event ?hg (N := 2) ?hd (cs := #[.string (⟨#[]⟩ : ByteArray), .int .u64 0, .int .u64 0]) (t := 44) ?hr ?_; (case hd => rfl); (case hg => rfl); (case hr => first | (go_simp; done) | (go_simp; rfl)); intro gb375 hg w6 hbox hb; have n0_ := Aside0.mk (blk_below (g := gb374) (o := .cells #[.int .i64 a0_0, .string a0_1, .int .u8 a0_2, .int .i64 a0_3] 56 (0, 0)) (by (with_reducible repeat (first | refine blk_drewN ?_ _ | refine blk_drew ?_ | refine blk_alloc ?_ _)); exact BK374.out) hb); have n1_ := Aside0.mk (below_step (by repeat (first | (with_reducible first | exact HB.out | apply below_alloc | apply pw_below_drewN | apply below_drew1 | refine below_set ?_ GE374.out) | exact HB.out)) hb); have n2_ := Aside0.mk (hbox); have n3_ := Aside0.mk ((by rw [hg]; exact (below_size (by repeat (first | (with_reducible first | exact HB.out | apply below_alloc | apply pw_below_drewN | apply below_drew1 | refine below_set ?_ GE374.out) | exact HB.out))) : w.heap.size ≤ gb375)); have n4_ := Aside0.mk ((by rw [hg]; exact (below_size (by repeat (first | (with_reducible first | exact HB.out | apply below_alloc | apply pw_below_drewN | apply below_drew1 | refine below_set ?_ GE374.out) | exact HB.out))) : w.heap.size ≤ gb375)); have n5_ := Aside0.mk ((by rw [hg]; exact Nat.ne_of_lt (blk_lt (g := gb374) (o := .cells #[.int .i64 a0_0, .string a0_1, .int .u8 a0_2, .int .i64 a0_3] 56 (0, 0)) (by (with_reducible repeat (first | refine blk_drewN ?_ _ | refine blk_drew ?_ | refine blk_alloc ?_ _)); exact BK374.out)) : gb374 ≠ gb375)); have n6_ := Aside0.mk ((by rw [hg]; exact Nat.ne_of_gt (blk_lt (g := gb374) (o := .cells #[.int .i64 a0_0, .string a0_1, .int .u8 a0_2, .int .i64 a0_3] 56 (0, 0)) (by (with_reducible repeat (first | refine blk_drewN ?_ _ | refine blk_drew ?_ | refine blk_alloc ?_ _)); exact BK374.out)) : gb375 ≠ gb374)); clear BK374; clear HB; have BK374 := n0_; have HB := n1_; have BK375 := n2_; have GW375 := n3_; have GE375 := n4_; have NB374_375 := n5_; have NB375_374 := n6_; clear n0_ n1_ n2_ n3_ n4_ n5_ n6_; clear hb hbox hg; have hnb7 := NB374_375.out; have hnc7 := NB375_374.out; have hcz8_0 : w6.cell? ⟨gb374, 0, none⟩ = some (.int .i64 a0_0) := (blk_cell BK374.out 0).trans rfl; have hcz8_1 : w6.cell? ⟨gb374, 1, none⟩ = some (.string a0_1) := (blk_cell BK374.out 1).trans rfl; have hcz8_2 : w6.cell? ⟨gb374, 2, none⟩ = some (.int .u8 a0_2) := (blk_cell BK374.out 2).trans rfl; have hcz8_3 : w6.cell? ⟨gb374, 3, none⟩ = some (.int .i64 a0_3) := (blk_cell BK374.out 3).trans rfl; have hfz8_0 := blk_frozen BK374.out 0; have hfz8_1 := blk_frozen BK374.out 1; have hfz8_2 := blk_frozen BK374.out 2; have hfz8_3 := blk_frozen BK374.out 3) | ((with_reducible refine gate_callee (f := 47) rfl ?_); refine goesL_ (some 20) rfl rfl Tryd.func47 (by kernel_rfl) rfl #[.string a0_1] rfl (by (try simp only [List.map_toArray, List.map_cons, List.map_nil]); first | done | rfl | (simp only [List.length_drop, List.length_take]; rfl)) ?_; (with_reducible refine (row_Parse.calls a0_1 t376 t377 t378 t379 _ ?side1 A4.out).mono ?_); (case side1 => exact gt_below hG (by repeat (first | (with_reducible first | exact HB.out | apply below_alloc | apply pw_below_drewN | apply below_drew1 | refine below_set ?_ GE374.out | refine below_set ?_ GE375.out) | exact HB.out))); rintro e w9 ⟨rfl, hb⟩; refine ⟨_, rfl, ?_⟩; have n0_ := Aside0.mk (blk_below (g := gb374) (o := .cells #[.int .i64 a0_0, .string a0_1, .int .u8 a0_2, .int .i64 a0_3] 56 (0, 0)) (by (with_reducible repeat (first | refine blk_drewN ?_ _ | refine blk_drew ?_ | refine blk_alloc ?_ _)); exact BK374.out) hb); have n1_ := Aside0.mk (blk_below (g := gb375) (o := .cells #[.string (⟨#[]⟩ : ByteArray), .int .u64 0, .int .u64 0] 44 (0, 0)) (by (with_reducible repeat (first | refine blk_drewN ?_ _ | refine blk_drew ?_ | refine blk_alloc ?_ _)); exact BK375.out) hb); have n2_ := Aside0.mk (below_step (by repeat (first | (with_reducible first | exact HB.out | apply below_alloc | apply pw_below_drewN | apply below_drew1 | refine below_set ?_ GE374.out | refine below_set ?_ GE375.out) | exact HB.out)) hb); clear BK374; clear BK375; clear HB; have BK374 := n0_; have BK375 := n1_; have HB := n2_; clear n0_ n1_ n2_; (try clear hb); (try clear hb2); (try clear hk); (try clear hi)) | ((with_reducible refine gate_dst (N := 5) rfl ?_); refine box_event ?hg (N := 5) ?hd (cs := #[.string (⟨#[]⟩ : ByteArray), .int .u64 0, .int .u64 0]) (t := 44) ?hr ?_; (case hd => rfl); (case hg => rfl); (case hr => first | (go_simp; done) | (go_simp; rfl)); intro gb380 hg w10 hbox hb; have n0_ := Aside0.mk (blk_below (g := gb374) (o := .cells #[.int .i64 a0_0, .string a0_1, .int .u8 a0_2, .int .i64 a0_3] 56 (0, 0)) (by (with_reducible repeat (first | refine blk_drewN ?_ _ | refine blk_drew ?_ | refine blk_alloc ?_ _)); exact BK374.out) hb); have n1_ := Aside0.mk (blk_below (g := gb375) (o := .cells #[.string (⟨#[]⟩ : ByteArray), .int .u64 0, .int .u64 0] 44 (0, 0)) (by (with_reducible repeat (first | refine blk_drewN ?_ _ | refine blk_drew ?_ | refine blk_alloc ?_ _)); exact BK375.out) hb); have n2_ := Aside0.mk (below_step (by repeat (first | (with_reducible first | exact HB.out | apply below_alloc | apply pw_below_drewN | apply below_drew1 | refine below_set ?_ GE374.out | refine below_set ?_ GE375.out) | exact HB.out)) hb); have n3_ := Aside0.mk (hbox); have n4_ := Aside0.mk ((by rw [hg]; exact (below_size (by repeat (first | (with_reducible first | exact HB.out | apply below_alloc | apply pw_below_drewN | apply below_drew1 | refine below_set ?_ GE374.out | refine below_set ?_ GE375.out) | exact HB.out))) : w.heap.size ≤ gb380)); have n5_ := Aside0.mk ((by rw [hg]; exact (below_size (by repeat (first | (with_reducible first | exact HB.out | apply below_alloc | apply pw_below_drewN | apply below_drew1 | refine below_set ?_ GE374.out | refine below_set ?_ GE375.out) | exact HB.out))) : w.heap.size ≤ gb380)); have n6_ := Aside0.mk ((by rw [hg]; exact Nat.ne_of_lt (blk_lt (g := gb374) (o := .cells #[.int .i64 a0_0, .string a0_1, .int .u8 a0_2, .int .i64 a0_3] 56 (0, 0)) (by (with_reducible repeat (first | refine blk_drewN ?_ _ | refine blk_drew ?_ | refine blk_alloc ?_ _)); exact BK374.out)) : gb374 ≠ gb380)); have n7_ := Aside0.mk ((by rw [hg]; exact Nat.ne_of_gt (blk_lt (g := gb374) (o := .cells #[.int .i64 a0_0, .string a0_1, .int .u8 a0_2, .int .i64 a0_3] 56 (0, 0)) (by (with_reducible repeat (first | refine blk_drewN ?_ _ | refine blk_drew ?_ | refine blk_alloc ?_ _)); exact BK374.out)) : gb380 ≠ gb374)); have n8_ := Aside0.mk ((by rw [hg]; exact Nat.ne_of_lt (blk_lt (g := gb375) (o := .cells #[.string (⟨#[]⟩ : ByteArray), .int .u64 0, .int .u64 0] 44 (0, 0)) (by (with_reducible repeat (first | refine blk_drewN ?_ _ | refine blk_drew ?_ | refine blk_alloc ?_ _)); exact BK375.out)) : gb375 ≠ gb380)); have n9_ := Aside0.mk ((by rw [hg]; exact Nat.ne_of_gt (blk_lt (g := gb375) (o := .cells #[.string (⟨#[]⟩ : ByteArray), .int .u64 0, .int .u64 0] 44 (0, 0)) (by (with_reducible repeat (first | refine blk_drewN ?_ _ | refine blk_drew ?_ | refine blk_alloc ?_ _)); exact BK375.out)) : gb380 ≠ gb375)); clear BK374; clear BK375; clear HB; have BK374 := n0_; have BK375 := n1_; have HB := n2_; have BK380 := n3_; have GW380 := n4_; have GE380 := n5_; have NB374_380 := n6_; have NB380_374 := n7_; have NB375_380 := n8_; have NB380_375 := n9_; clear n0_ n1_ n2_ n3_ n4_ n5_ n6_ n7_ n8_ n9_; clear hb hbox hg; have hnb11 := NB380_374.out; have hnc11 := NB374_380.out; have hnb12 := NB380_375.out; have hnc12 := NB375_380.out; have hcz13_0 : w10.cell? ⟨gb380, 0, none⟩ = some (.string (⟨#[]⟩ : ByteArray)) := (blk_cell BK380.out 0).trans rfl; have hcz13_1 : w10.cell? ⟨gb380, 1, none⟩ = some (.int .u64 0) := (blk_cell BK380.out 1).trans rfl; have hcz13_2 : w10.cell? ⟨gb380, 2, none⟩ = some (.int .u64 0) := (blk_cell BK380.out 2).trans rfl; have hfz13_0 := blk_frozen BK380.out 0; have hfz13_1 := blk_frozen BK380.out 1; have hfz13_2 := blk_frozen BK380.out 2; have hcz14_0 : w10.cell? ⟨gb375, 0, none⟩ = some (.string (⟨#[]⟩ : ByteArray)) := (blk_cell BK375.out 0).trans rfl; have hcz14_1 : w10.cell? ⟨gb375, 1, none⟩ = some (.int .u64 0) := (blk_cell BK375.out 1).trans rfl; have hcz14_2 : w10.cell? ⟨gb375, 2, none⟩ = some (.int .u64 0) := (blk_cell BK375.out 2).trans rfl; have hfz14_0 := blk_frozen BK375.out 0; have hfz14_1 := blk_frozen BK375.out 1; have hfz14_2 := blk_frozen BK375.out 2))
      refine bodyPost_ret (results_ctt rfl _ _ gb375 44 #[.string t376, .int .u64 t377, .int .u64 t378] (0, 0) _ rfl (by (with_reducible repeat (first | refine blk_drewN ?_ _ | refine blk_drew ?_ | refine blk_alloc ?_ _)); refine blk_put (cs := #[.string t376, .int .u64 t377, .int .u64 0]) ?_ 2 _ rfl; (with_reducible repeat (first | refine blk_drewN ?_ _ | refine blk_drew ?_ | refine blk_alloc ?_ _)); refine blk_put (cs := #[.string t376, .int .u64 0, .int .u64 0]) ?_ 1 _ rfl; (with_reducible repeat (first | refine blk_drewN ?_ _ | refine blk_drew ?_ | refine blk_alloc ?_ _)); refine blk_put (cs := #[.string (⟨#[]⟩ : ByteArray), .int .u64 0, .int .u64 0]) ?_ 0 _ rfl; (with_reducible repeat (first | refine blk_drewN ?_ _ | refine blk_drew ?_ | refine blk_alloc ?_ _)); refine blk_far ?_ NB375_380.out _; (with_reducible repeat (first | refine blk_drewN ?_ _ | refine blk_drew ?_ | refine blk_alloc ?_ _)); refine blk_far ?_ NB375_380.out _; (with_reducible repeat (first | refine blk_drewN ?_ _ | refine blk_drew ?_ | refine blk_alloc ?_ _)); refine blk_far ?_ NB375_380.out _; (with_reducible repeat (first | refine blk_drewN ?_ _ | refine blk_drew ?_ | refine blk_alloc ?_ _)); exact BK375.out) Tryd.underlying44 rfl (by kernel_rfl)) rfl ?_
      exact ⟨by first | rfl | (simp [errW_none, errW_some] <;> rfl) | (simp [*, errW_none, errW_some] <;> rfl), by repeat (first | (with_reducible first | exact HB.out | apply below_alloc | apply pw_below_drewN | apply below_drew1 | refine below_set ?_ GE374.out | refine below_set ?_ GE375.out | refine below_set ?_ GE380.out) | exact HB.out)⟩
    · rw [if_neg c3] at H
      have c3b0 : (a0_2 == 2) = false := beq_eq_false_iff_ne.mpr c3
      have c3b1 : (a0_2 != 2) = true := bne_iff_ne.mpr c3
      simp only [Option.some.injEq, Prod.mk.injEq] at H
      obtain ⟨rfl, rfl, rfl, rfl, rfl⟩ := H
      go_enter Tryd.func43, Tryd.ntmps43
      go_wp2_with (first | ((with_reducible refine gate_dst (N := 1) rfl ?_); refine box_event ?hg (N := 1) ?hd (cs := #[.int .i64 a0_0, .string a0_1, .int .u8 a0_2, .int .i64 a0_3]) (t := 56) ?hr ?_; (case hd => rfl); (case hg => rfl); (case hr => first | (go_simp; done) | (go_simp; rfl)); intro gb374 hg w15 hbox hb; have n0_ := Aside0.mk (below_step (by repeat (first | (with_reducible first | exact HB.out | apply below_alloc | apply pw_below_drewN | apply below_drew1) | exact HB.out)) hb); have n1_ := Aside0.mk (hbox); have n2_ := Aside0.mk ((by rw [hg]; exact (below_size (by repeat (first | (with_reducible first | exact HB.out | apply below_alloc | apply pw_below_drewN | apply below_drew1) | exact HB.out))) : w.heap.size ≤ gb374)); have n3_ := Aside0.mk ((by rw [hg]; exact (below_size (by repeat (first | (with_reducible first | exact HB.out | apply below_alloc | apply pw_below_drewN | apply below_drew1) | exact HB.out))) : w.heap.size ≤ gb374)); clear HB; have HB := n0_; have BK374 := n1_; have GW374 := n2_; have GE374 := n3_; clear n0_ n1_ n2_ n3_; clear hb hbox hg) | ((with_reducible refine gate_dst (N := 2) rfl ?_); refine box_event ?hg (N := 2) ?hd (cs := #[.string (⟨#[]⟩ : ByteArray), .int .u64 0, .int .u64 0]) (t := 44) ?hr ?_; (case hd => rfl); (case hg => rfl); (case hr => first | (go_simp; done) | (go_simp; rfl)); intro gb375 hg w16 hbox hb; have n0_ := Aside0.mk (blk_below (g := gb374) (o := .cells #[.int .i64 a0_0, .string a0_1, .int .u8 a0_2, .int .i64 a0_3] 56 (0, 0)) (by (with_reducible repeat (first | refine blk_drewN ?_ _ | refine blk_drew ?_ | refine blk_alloc ?_ _)); exact BK374.out) hb); have n1_ := Aside0.mk (below_step (by repeat (first | (with_reducible first | exact HB.out | apply below_alloc | apply pw_below_drewN | apply below_drew1 | refine below_set ?_ GE374.out) | exact HB.out)) hb); have n2_ := Aside0.mk (hbox); have n3_ := Aside0.mk ((by rw [hg]; exact (below_size (by repeat (first | (with_reducible first | exact HB.out | apply below_alloc | apply pw_below_drewN | apply below_drew1 | refine below_set ?_ GE374.out) | exact HB.out))) : w.heap.size ≤ gb375)); have n4_ := Aside0.mk ((by rw [hg]; exact (below_size (by repeat (first | (with_reducible first | exact HB.out | apply below_alloc | apply pw_below_drewN | apply below_drew1 | refine below_set ?_ GE374.out) | exact HB.out))) : w.heap.size ≤ gb375)); have n5_ := Aside0.mk ((by rw [hg]; exact Nat.ne_of_lt (blk_lt (g := gb374) (o := .cells #[.int .i64 a0_0, .string a0_1, .int .u8 a0_2, .int .i64 a0_3] 56 (0, 0)) (by (with_reducible repeat (first | refine blk_drewN ?_ _ | refine blk_drew ?_ | refine blk_alloc ?_ _)); exact BK374.out)) : gb374 ≠ gb375)); have n6_ := Aside0.mk ((by rw [hg]; exact Nat.ne_of_gt (blk_lt (g := gb374) (o := .cells #[.int .i64 a0_0, .string a0_1, .int .u8 a0_2, .int .i64 a0_3] 56 (0, 0)) (by (with_reducible repeat (first | refine blk_drewN ?_ _ | refine blk_drew ?_ | refine blk_alloc ?_ _)); exact BK374.out)) : gb375 ≠ gb374)); clear BK374; clear HB; have BK374 := n0_; have HB := n1_; have BK375 := n2_; have GW375 := n3_; have GE375 := n4_; have NB374_375 := n5_; have NB375_374 := n6_; clear n0_ n1_ n2_ n3_ n4_ n5_ n6_; clear hb hbox hg; have hnb17 := NB374_375.out; have hnc17 := NB375_374.out; have hcz18_0 : w16.cell? ⟨gb374, 0, none⟩ = some (.int .i64 a0_0) := (blk_cell BK374.out 0).trans rfl; have hcz18_1 : w16.cell? ⟨gb374, 1, none⟩ = some (.string a0_1) := (blk_cell BK374.out 1).trans rfl; have hcz18_2 : w16.cell? ⟨gb374, 2, none⟩ = some (.int .u8 a0_2) := (blk_cell BK374.out 2).trans rfl; have hcz18_3 : w16.cell? ⟨gb374, 3, none⟩ = some (.int .i64 a0_3) := (blk_cell BK374.out 3).trans rfl; have hfz18_0 := blk_frozen BK374.out 0; have hfz18_1 := blk_frozen BK374.out 1; have hfz18_2 := blk_frozen BK374.out 2; have hfz18_3 := blk_frozen BK374.out 3; have hcz19_0 : w16.cell? ⟨gb375, 0, none⟩ = some (.string (⟨#[]⟩ : ByteArray)) := (blk_cell BK375.out 0).trans rfl; have hcz19_1 : w16.cell? ⟨gb375, 1, none⟩ = some (.int .u64 0) := (blk_cell BK375.out 1).trans rfl; have hcz19_2 : w16.cell? ⟨gb375, 2, none⟩ = some (.int .u64 0) := (blk_cell BK375.out 2).trans rfl; have hfz19_0 := blk_frozen BK375.out 0; have hfz19_1 := blk_frozen BK375.out 1; have hfz19_2 := blk_frozen BK375.out 2))
      refine bodyPost_ret (results_ctt rfl _ _ gb375 44 #[.string (⟨#[]⟩ : ByteArray), .int .u64 0, .int .u64 0] (0, 0) _ rfl (by (with_reducible repeat (first | refine blk_drewN ?_ _ | refine blk_drew ?_ | refine blk_alloc ?_ _)); refine blk_put (cs := #[.string (⟨#[]⟩ : ByteArray), .int .u64 0, .int .u64 0]) ?_ 2 _ rfl; (with_reducible repeat (first | refine blk_drewN ?_ _ | refine blk_drew ?_ | refine blk_alloc ?_ _)); refine blk_put (cs := #[.string (⟨#[]⟩ : ByteArray), .int .u64 0, .int .u64 0]) ?_ 1 _ rfl; (with_reducible repeat (first | refine blk_drewN ?_ _ | refine blk_drew ?_ | refine blk_alloc ?_ _)); refine blk_put (cs := #[.string (⟨#[]⟩ : ByteArray), .int .u64 0, .int .u64 0]) ?_ 0 _ rfl; (with_reducible repeat (first | refine blk_drewN ?_ _ | refine blk_drew ?_ | refine blk_alloc ?_ _)); exact BK375.out) Tryd.underlying44 rfl (by kernel_rfl)) rfl ?_
      exact ⟨by first | rfl | (simp [errW_none, errW_some] <;> rfl) | (simp [*, errW_none, errW_some] <;> rfl), by repeat (first | (with_reducible first | exact HB.out | apply below_alloc | apply pw_below_drewN | apply below_drew1 | refine below_set ?_ GE374.out | refine below_set ?_ GE375.out) | exact HB.out)⟩
  · rw [if_neg c2] at H
    have c2b0 : (a0_3 == 0) = false := beq_eq_false_iff_ne.mpr c2
    have c2b1 : (a0_3 != 0) = true := bne_iff_ne.mpr c2
    simp only [Option.some.injEq, Prod.mk.injEq] at H
    obtain ⟨rfl, rfl, rfl, rfl, rfl⟩ := H
    go_enter Tryd.func43, Tryd.ntmps43
    try go_wp2_with (first | ((with_reducible refine gate_dst (N := 1) rfl ?_); refine box_event ?hg (N := 1) ?hd (cs := #[.int .i64 a0_0, .string a0_1, .int .u8 a0_2, .int .i64 a0_3]) (t := 56) ?hr ?_; (case hd => rfl); (case hg => rfl); (case hr => first | (go_simp; done) | (go_simp; rfl)); intro gb374 hg w20 hbox hb; have n0_ := Aside0.mk (below_step (by repeat (first | (with_reducible first | exact HB.out | apply below_alloc | apply pw_below_drewN | apply below_drew1) | exact HB.out)) hb); have n1_ := Aside0.mk (hbox); have n2_ := Aside0.mk ((by rw [hg]; exact (below_size (by repeat (first | (with_reducible first | exact HB.out | apply below_alloc | apply pw_below_drewN | apply below_drew1) | exact HB.out))) : w.heap.size ≤ gb374)); have n3_ := Aside0.mk ((by rw [hg]; exact (below_size (by repeat (first | (with_reducible first | exact HB.out | apply below_alloc | apply pw_below_drewN | apply below_drew1) | exact HB.out))) : w.heap.size ≤ gb374)); clear HB; have HB := n0_; have BK374 := n1_; have GW374 := n2_; have GE374 := n3_; clear n0_ n1_ n2_ n3_; clear hb hbox hg) | ((with_reducible refine gate_dst (N := 2) rfl ?_); refine box_event ?hg (N := 2) ?hd (cs := #[.string (⟨#[]⟩ : ByteArray), .int .u64 0, .int .u64 0]) (t := 44) ?hr ?_; (case hd => rfl); (case hg => rfl); (case hr => first | (go_simp; done) | (go_simp; rfl)); intro gb375 hg w21 hbox hb; have n0_ := Aside0.mk (blk_below (g := gb374) (o := .cells #[.int .i64 a0_0, .string a0_1, .int .u8 a0_2, .int .i64 a0_3] 56 (0, 0)) (by (with_reducible repeat (first | refine blk_drewN ?_ _ | refine blk_drew ?_ | refine blk_alloc ?_ _)); exact BK374.out) hb); have n1_ := Aside0.mk (below_step (by repeat (first | (with_reducible first | exact HB.out | apply below_alloc | apply pw_below_drewN | apply below_drew1 | refine below_set ?_ GE374.out) | exact HB.out)) hb); have n2_ := Aside0.mk (hbox); have n3_ := Aside0.mk ((by rw [hg]; exact (below_size (by repeat (first | (with_reducible first | exact HB.out | apply below_alloc | apply pw_below_drewN | apply below_drew1 | refine below_set ?_ GE374.out) | exact HB.out))) : w.heap.size ≤ gb375)); have n4_ := Aside0.mk ((by rw [hg]; exact (below_size (by repeat (first | (with_reducible first | exact HB.out | apply below_alloc | apply pw_below_drewN | apply below_drew1 | refine below_set ?_ GE374.out) | exact HB.out))) : w.heap.size ≤ gb375)); have n5_ := Aside0.mk ((by rw [hg]; exact Nat.ne_of_lt (blk_lt (g := gb374) (o := .cells #[.int .i64 a0_0, .string a0_1, .int .u8 a0_2, .int .i64 a0_3] 56 (0, 0)) (by (with_reducible repeat (first | refine blk_drewN ?_ _ | refine blk_drew ?_ | refine blk_alloc ?_ _)); exact BK374.out)) : gb374 ≠ gb375)); have n6_ := Aside0.mk ((by rw [hg]; exact Nat.ne_of_gt (blk_lt (g := gb374) (o := .cells #[.int .i64 a0_0, .string a0_1, .int .u8 a0_2, .int .i64 a0_3] 56 (0, 0)) (by (with_reducible repeat (first | refine blk_drewN ?_ _ | refine blk_drew ?_ | refine blk_alloc ?_ _)); exact BK374.out)) : gb375 ≠ gb374)); clear BK374; clear HB; have BK374 := n0_; have HB := n1_; have BK375 := n2_; have GW375 := n3_; have GE375 := n4_; have NB374_375 := n5_; have NB375_374 := n6_; clear n0_ n1_ n2_ n3_ n4_ n5_ n6_; clear hb hbox hg; have hnb22 := NB374_375.out; have hnc22 := NB375_374.out; have hcz23_0 : w21.cell? ⟨gb374, 0, none⟩ = some (.int .i64 a0_0) := (blk_cell BK374.out 0).trans rfl; have hcz23_1 : w21.cell? ⟨gb374, 1, none⟩ = some (.string a0_1) := (blk_cell BK374.out 1).trans rfl; have hcz23_2 : w21.cell? ⟨gb374, 2, none⟩ = some (.int .u8 a0_2) := (blk_cell BK374.out 2).trans rfl; have hcz23_3 : w21.cell? ⟨gb374, 3, none⟩ = some (.int .i64 a0_3) := (blk_cell BK374.out 3).trans rfl; have hfz23_0 := blk_frozen BK374.out 0; have hfz23_1 := blk_frozen BK374.out 1; have hfz23_2 := blk_frozen BK374.out 2; have hfz23_3 := blk_frozen BK374.out 3))
    have n0_ := Aside0.mk (blk_drew BK374.out)
    have n1_ := Aside0.mk (blk_drew BK375.out)
    have n2_ := Aside0.mk (below_drew1 HB.out)
    clear BK374
    clear BK375
    clear HB
    have BK374 := n0_
    have BK375 := n1_
    have HB := n2_
    clear n0_ n1_ n2_
    refine start_ (n := 6) (S := fun w' => w'.cell? ⟨gb374, 0, none⟩ = some (.int .i64 a0_0) ∧ w'.cell? ⟨gb374, 1, none⟩ = some (.string a0_1) ∧ w'.cell? ⟨gb374, 2, none⟩ = some (.int .u8 a0_2) ∧ w'.cell? ⟨gb374, 3, none⟩ = some (.int .i64 a0_3)) (ds := []) #[false, false, false, false, false, false] (by kernel_rfl) rfl rfl ⟨(blk_cell BK374.out 0).trans rfl, (blk_cell BK374.out 1).trans rfl, (blk_cell BK374.out 2).trans rfl, (blk_cell BK374.out 3).trans rfl⟩ (fun hHeld => ?_)
    generalize w21.drew = w24 at BK374 BK375 HB hHeld ⊢
    refine pure_ (i := 0) (N := some 10) (v := ?_) (a' := ?_) #[true, false, false, false, false, false] rfl rfl (by kernel_rfl) (fun _ _ _ h => h) (Or.inl ⟨by rfl, ?_⟩) ?_ ?_
    rotate_left
    · intro w'
      go_simp
      with_reducible rfl
    rotate_left
    · simp only [Act.put, List.setIfInBounds_toArray, List.set_cons_zero, List.set_cons_succ, i64_w, i32_w]
      rfl
    refine pure_ (i := 1) (N := some 11) (v := ?_) (a' := ?_) #[true, true, false, false, false, false] rfl rfl (by kernel_rfl) (fun _ _ _ h => h) (Or.inl ⟨by rfl, ?_⟩) ?_ ?_
    rotate_left
    · intro w'
      go_simp
      with_reducible rfl
    rotate_left
    · simp only [Act.put, List.setIfInBounds_toArray, List.set_cons_zero, List.set_cons_succ, i64_w, i32_w]
      rfl
    refine take_ (i := 2) (N := some 12) (v := ?_) (a' := ?_) #[true, true, true, false, false, false] rfl rfl (by kernel_rfl) (fun _ _ _ h => h) (Or.inl ⟨by rfl, ?_⟩) hHeld ?_ ?_
    rotate_left
    · rintro w' ⟨s0, s1, s2, s3⟩
      go_simp
      with_reducible rfl
    rotate_left
    · simp only [Act.put, List.setIfInBounds_toArray, List.set_cons_zero, List.set_cons_succ, i64_w, i32_w]
      rfl
    refine one_ (i := 3) (N := none) #[true, true, true, true, false, false] rfl rfl (by kernel_rfl) (by decide) (fun K hK => ?_)
    have hs25 : w24.cell? ⟨gb375, 0, none⟩ = some (.string (⟨#[]⟩ : ByteArray)) := (blk_cell BK375.out 0).trans rfl
    have hfs25 := blk_frozen BK375.out 0
    have hns25_0 := NB374_375.out
    have hms25_0 := NB375_374.out
    have hs26 : w24.cell? ⟨gb375, 1, none⟩ = some (.int .u64 0) := (blk_cell BK375.out 1).trans rfl
    have hfs26 := blk_frozen BK375.out 1
    have hns26_0 := NB374_375.out
    have hms26_0 := NB375_374.out
    have hs27 : w24.cell? ⟨gb375, 2, none⟩ = some (.int .u64 0) := (blk_cell BK375.out 2).trans rfl
    have hfs27 := blk_frozen BK375.out 2
    have hns27_0 := NB374_375.out
    have hms27_0 := NB375_374.out
    refine skip_ (w1 := ?_) (by rfl) rfl ?_ ?_
    rotate_left
    · go_simp
      rfl
    refine hK.out _ _ ⟨((cell_far (p := ⟨gb375, _, none⟩) NB374_375.out _).trans (((cell_far (p := ⟨gb375, _, none⟩) NB374_375.out _).trans (((cell_far (p := ⟨gb375, _, none⟩) NB374_375.out _).trans (hHeld.1)))))), ((cell_far (p := ⟨gb375, _, none⟩) NB374_375.out _).trans (((cell_far (p := ⟨gb375, _, none⟩) NB374_375.out _).trans (((cell_far (p := ⟨gb375, _, none⟩) NB374_375.out _).trans (hHeld.2.1)))))), ((cell_far (p := ⟨gb375, _, none⟩) NB374_375.out _).trans (((cell_far (p := ⟨gb375, _, none⟩) NB374_375.out _).trans (((cell_far (p := ⟨gb375, _, none⟩) NB374_375.out _).trans (hHeld.2.2.1)))))), ((cell_far (p := ⟨gb375, _, none⟩) NB374_375.out _).trans (((cell_far (p := ⟨gb375, _, none⟩) NB374_375.out _).trans (((cell_far (p := ⟨gb375, _, none⟩) NB374_375.out _).trans (hHeld.2.2.2))))))⟩ (fun hHeld => ?_)
    clear hK K
    refine pure_ (i := 4) (N := some 3) (v := ?_) (a' := ?_) #[true, true, true, true, true, false] rfl rfl (by kernel_rfl) (fun _ _ _ h => h) (Or.inl ⟨by rfl, ?_⟩) ?_ ?_
    rotate_left
    · intro w'
      go_simp
      with_reducible rfl
    rotate_left
    · simp only [Act.put, List.setIfInBounds_toArray, List.set_cons_zero, List.set_cons_succ, i64_w, i32_w]
      rfl
    refine pure_ (i := 5) (N := some 4) (v := ?_) (a' := ?_) #[true, true, true, true, true, true] rfl rfl (by kernel_rfl) (fun _ _ _ h => h) (Or.inl ⟨by rfl, ?_⟩) ?_ ?_
    rotate_left
    · intro w'
      go_simp
      with_reducible rfl
    rotate_left
    · simp only [Act.put, List.setIfInBounds_toArray, List.set_cons_zero, List.set_cons_succ, i64_w, i32_w]
      rfl
    refine done_ (by kernel_rfl) ?_
    try go_wp2
    refine bodyPost_ret (results_ctt rfl _ _ gb375 44 #[.string (⟨#[]⟩ : ByteArray), .int .u64 0, .int .u64 0] (0, 0) _ rfl (by (with_reducible repeat (first | refine blk_drewN ?_ _ | refine blk_drew ?_ | refine blk_alloc ?_ _)); refine blk_put (cs := #[.string (⟨#[]⟩ : ByteArray), .int .u64 0, .int .u64 0]) ?_ 2 _ rfl; (with_reducible repeat (first | refine blk_drewN ?_ _ | refine blk_drew ?_ | refine blk_alloc ?_ _)); refine blk_put (cs := #[.string (⟨#[]⟩ : ByteArray), .int .u64 0, .int .u64 0]) ?_ 1 _ rfl; (with_reducible repeat (first | refine blk_drewN ?_ _ | refine blk_drew ?_ | refine blk_alloc ?_ _)); refine blk_put (cs := #[.string (⟨#[]⟩ : ByteArray), .int .u64 0, .int .u64 0]) ?_ 0 _ rfl; (with_reducible repeat (first | refine blk_drewN ?_ _ | refine blk_drew ?_ | refine blk_alloc ?_ _)); exact BK375.out) Tryd.underlying44 rfl (by kernel_rfl)) rfl ?_
    exact ⟨by first | rfl | (simp [errW_none, errW_some] <;> rfl) | (simp [*, errW_none, errW_some] <;> rfl), by repeat (first | (with_reducible first | exact HB.out | apply below_alloc | apply pw_below_drewN | apply below_drew1 | refine below_set ?_ GE374.out | refine below_set ?_ GE375.out) | exact HB.out)⟩
end Go.Proofs.YtpkjpiphjdpegaaDoor.P
namespace Go.Proofs.YtpkjpiphjdpegaaDoor.P
open Go.RowKit Go.Proofs.YtpkjpiphjdpegaaDoorW.PrintWords Go.Proofs.YtpkjpiphjdpegaaDoorW.PrintLast Go.Proofs.YtpkjpiphjdpegaaDoorW.PrintMore
attribute [local go_sem] max2_int min2_int max_two min_two max_three min_three max_four min_four
set_option linter.unusedVariables false
set_option linter.unusedSimpArgs false
def row_Text.f (a0_0 : ByteArray) (a0_1 : Int) (a0_2 : Int) : Option (ByteArray × Int) := (tag_MayId.f a0_0).bind fun t603 => (if t603 = true then (if a0_0.size + 1 ≤ 9223372036854775807 then ((decimal_Text.f a0_1 a0_2).bind fun t604 => (if (a0_0 ++ (⟨#[32]⟩ : ByteArray)).size + t604.size ≤ 9223372036854775807 then (some ((a0_0 ++ (⟨#[32]⟩ : ByteArray)) ++ t604, 0)) else (none))) else (none)) else (some ((⟨#[]⟩ : ByteArray), 101)))
def row_Text.T3 : Bool × List (List Nat × List Nat) := (true, [([], []), ([0], [0]), ([1], [1]), ([], []), ([3], [3]), ([4], [4]), ([2, 5], [2, 5]), ([6, 5, 0, 1, 2, 3, 4, 5, 6], [6]), ([7, 0, 1, 2, 3, 4, 5, 6, 7], [])])
def row_Text.B3 : List Nat := [0, 1, 3, 0, 8, 24, 63, 127, 255]
theorem row_Text.tab3 : rtab .any (opsOf Tryd.f48 3) = row_Text.T3 := by kernel_rfl
theorem row_Text.bits3 : waitsOk row_Text.T3.2 row_Text.B3 = true := by kernel_rfl
set_option maxHeartbeats 8000000 in
set_option maxRecDepth 100000 in
theorem row_Text.calls (a0_0 : ByteArray) (a0_1 : Int) (a0_2 : Int) (r1 : ByteArray) (r2 : Int) (w : World) (hG : GT w) (h : row_Text.f a0_0 a0_1 a0_2 = some (r1, r2)) :
    Calls Tryd.prog 48 #[.agg #[.string a0_0, .int .u64 a0_1, .int .u64 a0_2]] w fun e w' => e = .returned (.tuple #[.string r1, .int .i64 r2]) ∧ Below w.heap.size w w' := by
  have hu44 := Tryd.underlying44
  have hu42 := Tryd.underlying42
  have HB := Aside0.mk (Below.refl w.heap.size w)
  have H : ((tag_MayId.f a0_0).bind fun t603 => (if t603 = true then (if a0_0.size + 1 ≤ 9223372036854775807 then ((decimal_Text.f a0_1 a0_2).bind fun t604 => (if (a0_0 ++ (⟨#[32]⟩ : ByteArray)).size + t604.size ≤ 9223372036854775807 then (some ((a0_0 ++ (⟨#[32]⟩ : ByteArray)) ++ t604, 0)) else (none))) else (none)) else (some ((⟨#[]⟩ : ByteArray), 101)))) = some (r1, r2) := h
  clear h
  replace H := Option.bind_eq_some_iff.mp H
  obtain ⟨t603, A20, H⟩ := H
  replace H : (if t603 = true then (if a0_0.size + 1 ≤ 9223372036854775807 then ((decimal_Text.f a0_1 a0_2).bind fun t604 => (if (a0_0 ++ (⟨#[32]⟩ : ByteArray)).size + t604.size ≤ 9223372036854775807 then (some ((a0_0 ++ (⟨#[32]⟩ : ByteArray)) ++ t604, 0)) else (none))) else (none)) else (some ((⟨#[]⟩ : ByteArray), 101))) = some (r1, r2) := H
  have A2 := Aside0.mk A20
  clear A20
  by_cases c3 : t603 = true
  · subst c3
    have H1 : (if a0_0.size + 1 ≤ 9223372036854775807 then ((decimal_Text.f a0_1 a0_2).bind fun t604 => (if (a0_0 ++ (⟨#[32]⟩ : ByteArray)).size + t604.size ≤ 9223372036854775807 then (some ((a0_0 ++ (⟨#[32]⟩ : ByteArray)) ++ t604, 0)) else (none))) else (none)) = some (r1, r2) := by rw [if_pos rfl] at H; exact H
    clear H
    have H := H1
    clear H1
    by_cases c4 : a0_0.size + 1 ≤ 9223372036854775807
    · rw [if_pos c4] at H
      have c4b0 := eq_true c4
      have c4b1 : decide (a0_0.size + 1 ≤ 9223372036854775807) = true := decide_eq_true c4
      try have c4b2 : (9223372036854775807 < a0_0.size + 1) = False := eq_false (Nat.not_lt.2 c4)
      replace H := Option.bind_eq_some_iff.mp H
      obtain ⟨t604, A50, H⟩ := H
      replace H : (if (a0_0 ++ (⟨#[32]⟩ : ByteArray)).size + t604.size ≤ 9223372036854775807 then (some ((a0_0 ++ (⟨#[32]⟩ : ByteArray)) ++ t604, 0)) else (none)) = some (r1, r2) := H
      have A5 := Aside0.mk A50
      clear A50
      by_cases c6 : (a0_0 ++ (⟨#[32]⟩ : ByteArray)).size + t604.size ≤ 9223372036854775807
      · rw [if_pos c6] at H
        have c6b0 := eq_true c6
        have c6b1 : decide ((a0_0 ++ (⟨#[32]⟩ : ByteArray)).size + t604.size ≤ 9223372036854775807) = true := decide_eq_true c6
        try have c6b2 : (9223372036854775807 < (a0_0 ++ (⟨#[32]⟩ : ByteArray)).size + t604.size) = False := eq_false (Nat.not_lt.2 c6)
        try have c6b3 : (9223372036854775807 < a0_0.size + 1 + t604.size) = False := eq_false (by have e_ := c6; repeat rw [ByteArray.size_append] at e_; exact Nat.not_lt.2 e_)
        simp only [Option.some.injEq, Prod.mk.injEq] at H
        obtain ⟨rfl, rfl⟩ := H
        go_enter Tryd.func48, Tryd.ntmps48
        try go_wp2_with (first | ((with_reducible refine gate_dst (N := 1) rfl ?_); refine box_event ?hg (N := 1) ?hd (cs := #[.string a0_0, .int .u64 a0_1, .int .u64 a0_2]) (t := 44) ?hr ?_; (case hd => rfl); (case hg => rfl); (case hr => first | (go_simp; done) | (go_simp; rfl)); intro gb602 hg w7 hbox hb; have n0_ := Aside0.mk (below_step (by repeat (first | (with_reducible first | exact HB.out | apply below_alloc | apply pw_below_drewN | apply below_drew1) | exact HB.out)) hb); have n1_ := Aside0.mk (hbox); have n2_ := Aside0.mk ((by rw [hg]; exact (below_size (by repeat (first | (with_reducible first | exact HB.out | apply below_alloc | apply pw_below_drewN | apply below_drew1) | exact HB.out))) : w.heap.size ≤ gb602)); have n3_ := Aside0.mk ((by rw [hg]; exact (below_size (by repeat (first | (with_reducible first | exact HB.out | apply below_alloc | apply pw_below_drewN | apply below_drew1) | exact HB.out))) : w.heap.size ≤ gb602)); clear HB; have HB := n0_; have BK602 := n1_; have GW602 := n2_; have GE602 := n3_; clear n0_ n1_ n2_ n3_; clear hb hbox hg; have hcz8_0 : w7.cell? ⟨gb602, 0, none⟩ = some (.string a0_0) := (blk_cell BK602.out 0).trans rfl; have hcz8_1 : w7.cell? ⟨gb602, 1, none⟩ = some (.int .u64 a0_1) := (blk_cell BK602.out 1).trans rfl; have hcz8_2 : w7.cell? ⟨gb602, 2, none⟩ = some (.int .u64 a0_2) := (blk_cell BK602.out 2).trans rfl; have hfz8_0 := blk_frozen BK602.out 0; have hfz8_1 := blk_frozen BK602.out 1; have hfz8_2 := blk_frozen BK602.out 2) | ((with_reducible refine gate_callee (f := 51) rfl ?_); refine goesL_ (some 6) rfl rfl Tryd.func51 (by kernel_rfl) rfl #[.string a0_0] rfl (by (try simp only [List.map_toArray, List.map_cons, List.map_nil]); first | done | rfl | (simp only [List.length_drop, List.length_take]; rfl)) ?_; (with_reducible refine (tag_MayId.calls a0_0 true _ ?side1 A2.out).mono ?_); (case side1 => exact gt_below hG (by repeat (first | (with_reducible first | exact HB.out | apply below_alloc | apply pw_below_drewN | apply below_drew1 | refine below_set ?_ GE602.out) | exact HB.out))); rintro e w9 ⟨rfl, hb⟩; refine ⟨_, rfl, ?_⟩; have n0_ := Aside0.mk (blk_below (g := gb602) (o := .cells #[.string a0_0, .int .u64 a0_1, .int .u64 a0_2] 44 (0, 0)) (by (with_reducible repeat (first | refine blk_drewN ?_ _ | refine blk_drew ?_ | refine blk_alloc ?_ _)); exact BK602.out) hb); have n1_ := Aside0.mk (below_step (by repeat (first | (with_reducible first | exact HB.out | apply below_alloc | apply pw_below_drewN | apply below_drew1 | refine below_set ?_ GE602.out) | exact HB.out)) hb); clear BK602; clear HB; have BK602 := n0_; have HB := n1_; clear n0_ n1_; (try clear hb); (try clear hb2); (try clear hk); (try clear hi)))
        have n0_ := Aside0.mk (blk_drew BK602.out)
        have n1_ := Aside0.mk (below_drew1 HB.out)
        clear BK602
        clear HB
        have BK602 := n0_
        have HB := n1_
        clear n0_ n1_
        refine start_ (n := 9) (S := fun w' => w'.cell? ⟨gb602, 0, none⟩ = some (.string a0_0) ∧ w'.cell? ⟨gb602, 1, none⟩ = some (.int .u64 a0_1) ∧ w'.cell? ⟨gb602, 2, none⟩ = some (.int .u64 a0_2)) (ds := []) #[false, false, false, false, false, false, false, false, false] (by kernel_rfl) rfl rfl ⟨(blk_cell BK602.out 0).trans rfl, (blk_cell BK602.out 1).trans rfl, (blk_cell BK602.out 2).trans rfl⟩ (fun hHeld => ?_); refine with_tabW row_Text.tab3 row_Text.bits3 (fun HT_ HW_ => ?_)
        generalize w9.drew = w10 at BK602 HB hHeld ⊢
        refine pure_ (i := 0) (N := some 8) (v := ?_) (a' := ?_) #[true, false, false, false, false, false, false, false, false] rfl rfl (any_of HT_.out (by kernel_rfl)) (fun _ _ _ h => h) (Or.inl ⟨by rfl, ?_⟩) ?_ ?_
        rotate_left
        · intro w'
          go_simp
          with_reducible rfl
        rotate_left
        · simp only [Act.put, List.setIfInBounds_toArray, List.set_cons_zero, List.set_cons_succ, i64_w, i32_w]
          rfl
        refine pure_ (i := 3) (N := some 11) (v := ?_) (a' := ?_) #[true, false, false, true, false, false, false, false, false] rfl rfl (any_of HT_.out (by kernel_rfl)) (fun _ _ _ h => h) (Or.inl ⟨by rfl, ?_⟩) ?_ ?_
        rotate_left
        · intro w'
          go_simp
          with_reducible rfl
        rotate_left
        · simp only [Act.put, List.setIfInBounds_toArray, List.set_cons_zero, List.set_cons_succ, i64_w, i32_w]
          rfl
        refine take_ (i := 1) (N := some 9) (v := ?_) (a' := ?_) #[true, true, false, true, false, false, false, false, false] rfl rfl (take_ofW HT_.out HW_.out (by kernel_rfl)) (fun _ _ _ h => h) (Or.inl ⟨by rfl, ?_⟩) hHeld ?_ ?_
        rotate_left
        · rintro w' ⟨s0, s1, s2⟩
          go_simp
          with_reducible rfl
        rotate_left
        · simp only [Act.put, List.setIfInBounds_toArray, List.set_cons_zero, List.set_cons_succ, i64_w, i32_w]
          rfl
        refine pure_ (i := 2) (N := some 10) (v := ?_) (a' := ?_) #[true, true, true, true, false, false, false, false, false] rfl rfl (any_of HT_.out (by kernel_rfl)) (fun _ _ _ h => h) (Or.inl ⟨by rfl, ?_⟩) ?_ ?_
        rotate_left
        · intro w'
          go_simp
          with_reducible rfl
        rotate_left
        · simp only [Act.put, List.setIfInBounds_toArray, List.set_cons_zero, List.set_cons_succ, i64_w, i32_w]
          rfl
        refine take_ (i := 4) (N := some 12) (v := ?_) (a' := ?_) #[true, true, true, true, true, false, false, false, false] rfl rfl (take_ofW HT_.out HW_.out (by kernel_rfl)) (fun _ _ _ h => h) (Or.inl ⟨by rfl, ?_⟩) hHeld ?_ ?_
        rotate_left
        · rintro w' ⟨s0, s1, s2⟩
          go_simp
          with_reducible rfl
        rotate_left
        · simp only [Act.put, List.setIfInBounds_toArray, List.set_cons_zero, List.set_cons_succ, i64_w, i32_w]
          rfl
        refine one_ (i := 5) (N := some 13) #[true, true, true, true, true, true, false, false, false] rfl rfl (one_of HT_.out (by kernel_rfl)) (by decide) (fun K hK => ?_)
        refine goes_ Tryd.func85 (by kernel_rfl) rfl #[.agg #[.int .u64 a0_1, .int .u64 a0_2]] (by rfl) rfl rfl (by (try simp only [List.map_toArray, List.map_cons, List.map_nil]); first | done | rfl | (simp only [List.length_drop, List.length_take]; rfl)) ?_
        with_reducible refine (decimal_Text.calls a0_1 a0_2 t604 _ A5.out).mono ?_
        rintro e w11 ⟨rfl, hb⟩
        refine ⟨_, rfl, ?_⟩
        have n0_ := Aside0.mk (blk_below (g := gb602) (o := .cells #[.string a0_0, .int .u64 a0_1, .int .u64 a0_2] 44 (0, 0)) (by (with_reducible repeat (first | refine blk_drewN ?_ _ | refine blk_drew ?_ | refine blk_alloc ?_ _)); exact BK602.out) hb)
        have n1_ := Aside0.mk (below_step (by repeat (first | (with_reducible first | exact HB.out | apply below_alloc | apply pw_below_drewN | apply below_drew1 | refine below_set ?_ GE602.out) | exact HB.out)) hb)
        clear BK602
        clear HB
        have BK602 := n0_
        have HB := n1_
        clear n0_ n1_
        (try clear hb)
        (try clear hb2)
        (try clear hk)
        (try clear hi)
        refine hK.out _ _ ⟨(blk_cell BK602.out 0).trans rfl, (blk_cell BK602.out 1).trans rfl, (blk_cell BK602.out 2).trans rfl⟩ (fun hHeld => ?_)
        clear hK K
        refine norm_ (a' := ?_) ?_ ?_
        rotate_left
        · show Act.put _ (some 13) _ = _
          simp only [Act.put, List.setIfInBounds_toArray, List.set_cons_zero, List.set_cons_succ, i64_w, i32_w]
          rfl
        refine pure_ (i := 6) (N := some 14) (v := ?_) (a' := ?_) #[true, true, true, true, true, true, true, false, false] rfl rfl (any_of HT_.out (by kernel_rfl)) (fun _ _ _ h => h) (Or.inl ⟨by rfl, ?_⟩) ?_ ?_
        rotate_left
        · intro w'
          go_simp
          with_reducible rfl
        rotate_left
        · simp only [Act.put, List.setIfInBounds_toArray, List.set_cons_zero, List.set_cons_succ, i64_w, i32_w]
          rfl
        refine pure_ (i := 7) (N := some 2) (v := ?_) (a' := ?_) #[true, true, true, true, true, true, true, true, false] rfl rfl (any_of HT_.out (by kernel_rfl)) (fun _ _ _ h => h) (Or.inl ⟨by rfl, ?_⟩) ?_ ?_
        rotate_left
        · intro w'
          go_simp
          with_reducible rfl
        rotate_left
        · simp only [Act.put, List.setIfInBounds_toArray, List.set_cons_zero, List.set_cons_succ, i64_w, i32_w]
          rfl
        refine pure_ (i := 8) (N := some 3) (v := ?_) (a' := ?_) #[true, true, true, true, true, true, true, true, true] rfl rfl (any_of HT_.out (by kernel_rfl)) (fun _ _ _ h => h) (Or.inl ⟨by rfl, ?_⟩) ?_ ?_
        rotate_left
        · intro w'
          go_simp
          with_reducible rfl
        rotate_left
        · simp only [Act.put, List.setIfInBounds_toArray, List.set_cons_zero, List.set_cons_succ, i64_w, i32_w]
          rfl
        refine done_ (done_of HT_.out (by kernel_rfl)) ?_
        try go_wp2
        go_ret2
        exact ⟨by first | rfl | (simp [errW_none, errW_some] <;> rfl) | (simp [*, errW_none, errW_some] <;> rfl), by repeat (first | (with_reducible first | exact HB.out | apply below_alloc | apply pw_below_drewN | apply below_drew1 | refine below_set ?_ GE602.out) | exact HB.out)⟩
      · rw [if_neg c6] at H
        exact absurd H (by simp)
    · rw [if_neg c4] at H
      exact absurd H (by simp)
  · replace c3 := Bool.eq_false_iff.mpr c3
    subst c3
    have H1 : (some ((⟨#[]⟩ : ByteArray), 101)) = some (r1, r2) := by rw [if_neg (show ¬ (false = true) by decide)] at H; exact H
    clear H
    have H := H1
    clear H1
    simp only [Option.some.injEq, Prod.mk.injEq] at H
    obtain ⟨rfl, rfl⟩ := H
    go_enter Tryd.func48, Tryd.ntmps48
    go_wp2_with (first | ((with_reducible refine gate_dst (N := 1) rfl ?_); refine box_event ?hg (N := 1) ?hd (cs := #[.string a0_0, .int .u64 a0_1, .int .u64 a0_2]) (t := 44) ?hr ?_; (case hd => rfl); (case hg => rfl); (case hr => first | (go_simp; done) | (go_simp; rfl)); intro gb602 hg w12 hbox hb; have n0_ := Aside0.mk (below_step (by repeat (first | (with_reducible first | exact HB.out | apply below_alloc | apply pw_below_drewN | apply below_drew1) | exact HB.out)) hb); have n1_ := Aside0.mk (hbox); have n2_ := Aside0.mk ((by rw [hg]; exact (below_size (by repeat (first | (with_reducible first | exact HB.out | apply below_alloc | apply pw_below_drewN | apply below_drew1) | exact HB.out))) : w.heap.size ≤ gb602)); have n3_ := Aside0.mk ((by rw [hg]; exact (below_size (by repeat (first | (with_reducible first | exact HB.out | apply below_alloc | apply pw_below_drewN | apply below_drew1) | exact HB.out))) : w.heap.size ≤ gb602)); clear HB; have HB := n0_; have BK602 := n1_; have GW602 := n2_; have GE602 := n3_; clear n0_ n1_ n2_ n3_; clear hb hbox hg; have hcz13_0 : w12.cell? ⟨gb602, 0, none⟩ = some (.string a0_0) := (blk_cell BK602.out 0).trans rfl; have hcz13_1 : w12.cell? ⟨gb602, 1, none⟩ = some (.int .u64 a0_1) := (blk_cell BK602.out 1).trans rfl; have hcz13_2 : w12.cell? ⟨gb602, 2, none⟩ = some (.int .u64 a0_2) := (blk_cell BK602.out 2).trans rfl; have hfz13_0 := blk_frozen BK602.out 0; have hfz13_1 := blk_frozen BK602.out 1; have hfz13_2 := blk_frozen BK602.out 2) | ((with_reducible refine gate_callee (f := 51) rfl ?_); refine goesL_ (some 6) rfl rfl Tryd.func51 (by kernel_rfl) rfl #[.string a0_0] rfl (by (try simp only [List.map_toArray, List.map_cons, List.map_nil]); first | done | rfl | (simp only [List.length_drop, List.length_take]; rfl)) ?_; (with_reducible refine (tag_MayId.calls a0_0 false _ ?side1 A2.out).mono ?_); (case side1 => exact gt_below hG (by repeat (first | (with_reducible first | exact HB.out | apply below_alloc | apply pw_below_drewN | apply below_drew1 | refine below_set ?_ GE602.out) | exact HB.out))); rintro e w14 ⟨rfl, hb⟩; refine ⟨_, rfl, ?_⟩; have n0_ := Aside0.mk (blk_below (g := gb602) (o := .cells #[.string a0_0, .int .u64 a0_1, .int .u64 a0_2] 44 (0, 0)) (by (with_reducible repeat (first | refine blk_drewN ?_ _ | refine blk_drew ?_ | refine blk_alloc ?_ _)); exact BK602.out) hb); have n1_ := Aside0.mk (below_step (by repeat (first | (with_reducible first | exact HB.out | apply below_alloc | apply pw_below_drewN | apply below_drew1 | refine below_set ?_ GE602.out) | exact HB.out)) hb); clear BK602; clear HB; have BK602 := n0_; have HB := n1_; clear n0_ n1_; (try clear hb); (try clear hb2); (try clear hk); (try clear hi)))
    go_ret2
    exact ⟨by first | rfl | (simp [errW_none, errW_some] <;> rfl) | (simp [*, errW_none, errW_some] <;> rfl), by repeat (first | (with_reducible first | exact HB.out | apply below_alloc | apply pw_below_drewN | apply below_drew1 | refine below_set ?_ GE602.out) | exact HB.out)⟩
end Go.Proofs.YtpkjpiphjdpegaaDoor.P
namespace Go.Proofs.YtpkjpiphjdpegaaDoor.P
open Go.RowKit Go.Proofs.YtpkjpiphjdpegaaDoorW.PrintWords Go.Proofs.YtpkjpiphjdpegaaDoorW.PrintLast Go.Proofs.YtpkjpiphjdpegaaDoorW.PrintMore
set_option linter.unusedVariables false
set_option linter.unusedSimpArgs false
theorem asc_byte (l : List Int) (h : Dig l) : ∀ x ∈ asc l, isByte x := by
  intro x hx
  obtain ⟨d, hd, rfl⟩ := List.mem_map.1 hx
  have := h d hd
  exact ⟨by omega, by omega⟩
end Go.Proofs.YtpkjpiphjdpegaaDoor.P
namespace Go.Proofs.YtpkjpiphjdpegaaDoor.P
open Go.RowKit Go.Proofs.YtpkjpiphjdpegaaDoorW.PrintWords Go.Proofs.YtpkjpiphjdpegaaDoorW.PrintLast Go.Proofs.YtpkjpiphjdpegaaDoorW.PrintMore
set_option linter.unusedVariables false
set_option linter.unusedSimpArgs false
def cutAt (c : UInt8) : List UInt8 → Option (List UInt8 × List UInt8)
  | [] => none
  | b :: l => if b = c then some ([], l) else (cutAt c l).map fun p => (b :: p.1, p.2)
theorem cutAt_app (c : UInt8) : ∀ (p r : List UInt8), (∀ b ∈ p, b ≠ c) → cutAt c (p ++ r) = (cutAt c r).map fun q => (p ++ q.1, q.2)
  | [], r, _ => by rw [List.nil_append]; cases cutAt c r <;> rfl
  | b :: p, r, h => by
    rw [List.cons_append, cutAt, if_neg (h b (List.mem_cons_self ..)), cutAt_app c p r fun x hx => h x (List.mem_cons_of_mem _ hx)]
    cases cutAt c r <;> rfl
theorem cutAt_some {c : UInt8} : ∀ {l h t : List UInt8}, cutAt c l = some (h, t) → l = h ++ c :: t ∧ ∀ b ∈ h, b ≠ c
  | [], h, t, e => by cases e
  | b :: l, h, t, e => by
    rw [cutAt] at e
    by_cases q : b = c
    · rw [if_pos q] at e
      cases e
      rw [q]
      exact ⟨rfl, by simp⟩
    · rw [if_neg q] at e
      cases k : cutAt c l with
      | none => rw [k] at e; cases e
      | some p =>
        rw [k] at e
        cases e
        obtain ⟨h', t'⟩ := p
        obtain ⟨e1, e2⟩ := cutAt_some k
        refine ⟨by rw [e1]; rfl, fun x hx => ?_⟩
        rcases List.mem_cons.1 hx with rfl | hx
        · exact q
        · exact e2 x hx
theorem cutAt_none {c : UInt8} : ∀ {l : List UInt8}, cutAt c l = none → ∀ b ∈ l, b ≠ c
  | [], _ => by simp
  | b :: l, e => by
    rw [cutAt] at e
    by_cases q : b = c
    · rw [if_pos q] at e; cases e
    · rw [if_neg q] at e
      cases k : cutAt c l with
      | none =>
        intro x hx
        rcases List.mem_cons.1 hx with rfl | hx
        · exact q
        · exact cutAt_none k x hx
      | some p => rw [k] at e; cases e
theorem index_clean (c : UInt8) : ∀ (l : List UInt8), (∀ b ∈ l, b ≠ c) → Lib.indexByte l c = -1
  | [], _ => rfl
  | b :: l, h => by
    have ih := index_clean c l fun x hx => h x (List.mem_cons_of_mem _ hx)
    rw [Lib.indexByte, if_neg (by simpa using h b (List.mem_cons_self ..)), ih]
    rfl
theorem index_cut (c : UInt8) : ∀ (h t : List UInt8), (∀ b ∈ h, b ≠ c) → Lib.indexByte (h ++ c :: t) c = (h.length : Int)
  | [], t, _ => by rw [List.nil_append, Lib.indexByte, if_pos (by simp)]; rfl
  | b :: h, t, k => by
    have ih := index_cut c h t fun x hx => k x (List.mem_cons_of_mem _ hx)
    rw [List.cons_append, Lib.indexByte, if_neg (by simpa using k b (List.mem_cons_self ..)), ih, if_neg (by simp), List.length_cons]
    push_cast
    rfl
theorem cut_is (l : List UInt8) (hs : l.length ≤ 1000000000) (c : UInt8) : strings_Cut.f (mk l) (⟨#[c]⟩ : ByteArray) = some (match cutAt c l with
    | none => (mk l, (⟨#[]⟩ : ByteArray), false)
    | some (h, t) => (mk h, mk t, true)) := by
  have ix : stringslite_Index.f (mk l) (⟨#[c]⟩ : ByteArray) = some (Lib.indexByte l c) := by
    unfold stringslite_Index.f
    rw [if_pos (show (⟨#[c]⟩ : ByteArray).data.toList.length = 1 from rfl), mk_list]
    rfl
  have h1 : ((⟨#[c]⟩ : ByteArray).size : Int) = 1 := rfl
  unfold strings_Cut.f stringslite_Cut.f
  rw [ix, Option.bind_some]
  cases k : cutAt c l with
  | none =>
    rw [index_clean c l (cutAt_none k), if_neg (by omega), Option.bind_some]
  | some p =>
    obtain ⟨h, t⟩ := p
    obtain ⟨e1, e2⟩ := cutAt_some k
    have ll : l.length = h.length + (t.length + 1) := by rw [e1, List.length_append, List.length_cons]
    have w1 : wrap64 ((h.length : Int) + 1) = ((h.length + 1 : Nat) : Int) := by unfold wrap64; push_cast; omega
    have ei : Lib.indexByte l c = (h.length : Int) := by rw [e1]; exact index_cut c h t e2
    rw [ei, if_pos (by omega), if_pos (by omega), mk_size, if_pos (by omega), h1, w1, if_pos (by omega), if_pos (by omega), Option.bind_some, Int.toNat_natCast, Int.toNat_natCast, extract_mk, extract_mk, List.drop_zero, List.take_length, e1]
    rw [List.take_left, show h ++ c :: t = (h ++ [c]) ++ t by simp, List.drop_left' (by simp)]
def parseRow (l : List UInt8) : ByteArray × Int × Int × Int := match cutAt 32 l with
  | none => ((⟨#[]⟩ : ByteArray), 0, 0, 100)
  | some (h, t) => if mayId (mk h) = true then (if (parseOf (nb (mk t))).2.2 = 0 then (mk h, (parseOf (nb (mk t))).1, (parseOf (nb (mk t))).2.1, 0) else ((⟨#[]⟩ : ByteArray), 0, 0, 102)) else ((⟨#[]⟩ : ByteArray), 0, 0, 101)
theorem mayId_f (s : ByteArray) (hs : s.size ≤ 1000000000) : tag_MayId.f s = some (mayId s) := if_pos hs
theorem parse_is (l : List UInt8) (hs : l.length ≤ 1000000000) : row_Parse.f (mk l) = some (parseRow l) := by
  unfold row_Parse.f parseRow
  rw [cut_is l hs, Option.bind_some]
  cases k : cutAt 32 l with
  | none =>
    dsimp only
    rw [parse_num _ (by show 0 ≤ _; omega), Option.bind_some, if_neg (by decide)]
  | some p =>
    obtain ⟨h, t⟩ := p
    obtain ⟨e1, e2⟩ := cutAt_some k
    have ll : l.length = h.length + (t.length + 1) := by rw [e1, List.length_append, List.length_cons]
    dsimp only
    rw [parse_num _ (by rw [mk_size]; omega), Option.bind_some, if_pos rfl, mayId_f _ (by rw [mk_size]; omega), Option.bind_some]
    by_cases m : mayId (mk h) = true
    · rw [if_pos m, if_pos m]
      by_cases e : (parseOf (nb (mk t))).2.2 = 0
      · rw [if_pos e, if_pos e]
      · rw [if_neg e, if_neg e]
    · rw [if_neg m, if_neg m]
def rowText (id : ByteArray) (a b : Int) : ByteArray × Int := if mayId id = true then ((id ++ (⟨#[32]⟩ : ByteArray)) ++ strOfNums (asc (dec (val a b))), 0) else ((⟨#[]⟩ : ByteArray), 101)
theorem dec_size (a b : Int) (ha : U64 a) (hb : U64 b) : (strOfNums (asc (dec (val a b)))).size ≤ 39 := by
  have v := val_range a b ha hb
  have d := (dec_facts (val a b) v.1 v.2).2.2.2
  have e : (strOfNums (asc (dec (val a b)))).size = (dec (val a b)).length := by
    rw [← nb_length, str_nb _ (asc_byte _ (dec_facts (val a b) v.1 v.2).2.1)]
    exact List.length_map ..
  omega
theorem sp_size (id : ByteArray) : (id ++ (⟨#[32]⟩ : ByteArray)).size = id.size + 1 := by rw [ByteArray.size_append]; rfl
theorem text_is (id : ByteArray) (a b : Int) (hs : id.size ≤ 1000000000) (ha : U64 a) (hb : U64 b) : row_Text.f id a b = some (rowText id a b) := by
  have d := dec_size a b ha hb
  have e := sp_size id
  unfold row_Text.f rowText
  rw [mayId_f id hs, Option.bind_some]
  by_cases m : mayId id = true
  · rw [if_pos m, if_pos m, if_pos (by omega), text_num a b ha hb, Option.bind_some, if_pos (by omega)]
  · rw [if_neg m, if_neg m]
def oneB (h : List UInt8) : ByteArray × Int × Int × Bool × Int :=
  if wrongOf h = 0 then (if kindOf h = 2 then ((parseRow h).1, (parseRow h).2.1, (parseRow h).2.2.1, ((parseRow h).2.2.2 == 0), (parseRow h).2.2.2) else ((⟨#[]⟩ : ByteArray), 0, 0, false, 0)) else ((⟨#[]⟩ : ByteArray), 0, 0, false, wrongOf h)
theorem of_is (n : Int) (h : List UInt8) (hs : h.length ≤ 1000000000) : row_Of.f n (mk h) (kindOf h) (wrongOf h) = some (oneB h) := by
  unfold row_Of.f oneB
  by_cases c : wrongOf h = 0
  · rw [if_pos c, if_pos c]
    by_cases q : kindOf h = 2
    · rw [if_pos q, if_pos q, parse_is h hs, Option.bind_some]
    · rw [if_neg q, if_neg q]
  · rw [if_neg c, if_neg c]
def rowsL : Int → List S44 → List (List UInt8) → List S44 × Int × Int
  | _, acc, [] => (acc, 0, 0)
  | n, acc, h :: r => if (oneB h).2.2.2.2 = 0 then (if (oneB h).2.2.2.1 = true then rowsL (n + 1) (acc ++ [(⟨(oneB h).1, ⟨(oneB h).2.1, (oneB h).2.2.1⟩⟩ : S44)]) r else rowsL (n + 1) acc r) else ([], n, (oneB h).2.2.2.2)
end Go.Proofs.YtpkjpiphjdpegaaDoor.P
namespace Go.Proofs.YtpkjpiphjdpegaaDoor.P
open Go.RowKit Go.Proofs.YtpkjpiphjdpegaaDoorW.PrintWords Go.Proofs.YtpkjpiphjdpegaaDoorW.PrintLast Go.Proofs.YtpkjpiphjdpegaaDoorW.PrintMore
set_option linter.unusedVariables false
set_option linter.unusedSimpArgs false
theorem nb_at (s : ByteArray) (p : Nat) (h : p < s.size) : (nb s).drop p = (nbAt s p : Int) :: (nb s).drop (p + 1) := by
  have hl : p < (nb s).length := by rw [nb_length]; exact h
  rw [List.drop_eq_getElem_cons hl]
  congr 1
  rw [← bt_nbAt s p h, bt_nb, List.getD_eq_getElem?_getD, List.getElem?_eq_getElem hl]
  rfl
theorem cont_is (s : ByteArray) (p : Nat) (h : contAt s p = true) : p < s.size ∧ nbAt s p / 64 = 2 := by
  unfold contAt at h
  simpa using h
theorem odd_false (c : Int) (h : ¬ (c < 0 ∨ c > 1114111 ∨ (c ≥ 55296 ∧ c < 57344))) : oddR c = false := by rw [odd_is, decide_eq_false h]
theorem valid_is' (c : Nat) (h : Utf8.valid (c : Int) = true) : c < 55296 ∨ (57344 ≤ c ∧ c ≤ 1114111) := by
  unfold Utf8.valid at h
  simp at h
  omega
def GoodStep (s : ByteArray) (p : Nat) (d : Nat × Nat) : Prop :=
  oddR (d.1 : Int) = false ∧ (nb s).drop p = enc (d.1 : Int) ++ (nb s).drop (p + d.2) ∧ (enc (d.1 : Int)).length = d.2
set_option maxRecDepth 10000 in
theorem dec_good (s : ByteArray) (p : Nat) (hp : p < s.size) (hb : ¬ badAt s p) : GoodStep s p (Utf8.decode s p) := by
  unfold badAt at hb
  have hlt := nbAt_lt s p
  have n1 := nbAt_lt s (p + 1); have n2 := nbAt_lt s (p + 2); have n3 := nbAt_lt s (p + 3)
  have d0 := nb_at s p hp
  rw [dec_is] at hb ⊢
  by_cases c1 : nbAt s p < 0x80
  · rw [if_pos c1]
    exact ⟨odd_false _ (by simp; omega), by rw [enc_1 _ c1, d0]; rfl, by rw [enc_1 _ c1]; rfl⟩
  · rw [if_neg c1] at hb ⊢
    by_cases c2 : (nbAt s p / 32 == 6 && contAt s (p + 1)) = true
    · rw [if_pos c2] at hb ⊢
      simp only [Bool.and_eq_true, beq_iff_eq] at c2
      obtain ⟨c2, q1⟩ := c2
      obtain ⟨l1, e1⟩ := cont_is s _ q1
      have d1 := nb_at s (p + 1) l1
      by_cases c3 : (nbAt s p % 32) * 64 + nbAt s (p + 1) % 64 ≥ 0x80
      · rw [if_pos c3]
        have e := enc_2 ((nbAt s p % 32) * 64 + nbAt s (p + 1) % 64) c3 (by omega)
        refine ⟨odd_false _ (by simp; omega), ?_, by rw [e]; rfl⟩
        rw [e, d0, d1]
        rw [show 192 + ((nbAt s p % 32) * 64 + nbAt s (p + 1) % 64) / 64 = nbAt s p by omega, show 128 + ((nbAt s p % 32) * 64 + nbAt s (p + 1) % 64) % 64 = nbAt s (p + 1) by omega]
        rfl
      · rw [if_neg c3] at hb
        exact absurd ⟨rfl, rfl⟩ hb
    · rw [if_neg c2] at hb ⊢
      by_cases c4 : (nbAt s p / 16 == 14 && contAt s (p + 1) && contAt s (p + 2)) = true
      · rw [if_pos c4] at hb ⊢
        simp only [Bool.and_eq_true, beq_iff_eq] at c4
        obtain ⟨⟨c4, q1⟩, q2⟩ := c4
        obtain ⟨l1, e1⟩ := cont_is s _ q1
        obtain ⟨l2, e2⟩ := cont_is s _ q2
        have d1 := nb_at s (p + 1) l1
        have d2 := nb_at s (p + 2) l2
        by_cases c5 : (decide ((nbAt s p % 16) * 4096 + (nbAt s (p + 1) % 64) * 64 + nbAt s (p + 2) % 64 ≥ 0x800) && Utf8.valid (((nbAt s p % 16) * 4096 + (nbAt s (p + 1) % 64) * 64 + nbAt s (p + 2) % 64 : Nat) : Int)) = true
        · rw [if_pos c5]
          simp only [Bool.and_eq_true, decide_eq_true_eq] at c5
          obtain ⟨c5, hv⟩ := c5
          have hv := valid_is' _ hv
          have e := enc_3 ((nbAt s p % 16) * 4096 + (nbAt s (p + 1) % 64) * 64 + nbAt s (p + 2) % 64) c5 (by omega) (by omega)
          refine ⟨odd_false _ (by simp; omega), ?_, by rw [e]; rfl⟩
          rw [e, d0, d1, d2]
          rw [show 224 + ((nbAt s p % 16) * 4096 + (nbAt s (p + 1) % 64) * 64 + nbAt s (p + 2) % 64) / 4096 = nbAt s p by omega, show 128 + ((nbAt s p % 16) * 4096 + (nbAt s (p + 1) % 64) * 64 + nbAt s (p + 2) % 64) / 64 % 64 = nbAt s (p + 1) by omega,
            show 128 + ((nbAt s p % 16) * 4096 + (nbAt s (p + 1) % 64) * 64 + nbAt s (p + 2) % 64) % 64 = nbAt s (p + 2) by omega]
          rfl
        · rw [if_neg c5] at hb
          exact absurd ⟨rfl, rfl⟩ hb
      · rw [if_neg c4] at hb ⊢
        by_cases c6 : (nbAt s p / 8 == 30 && contAt s (p + 1) && contAt s (p + 2) && contAt s (p + 3)) = true
        · rw [if_pos c6] at hb ⊢
          simp only [Bool.and_eq_true, beq_iff_eq] at c6
          obtain ⟨⟨⟨c6, q1⟩, q2⟩, q3⟩ := c6
          obtain ⟨l1, e1⟩ := cont_is s _ q1
          obtain ⟨l2, e2⟩ := cont_is s _ q2
          obtain ⟨l3, e3⟩ := cont_is s _ q3
          have d1 := nb_at s (p + 1) l1
          have d2 := nb_at s (p + 2) l2
          have d3 := nb_at s (p + 3) l3
          by_cases c7 : (decide ((nbAt s p % 8) * 262144 + (nbAt s (p + 1) % 64) * 4096 + (nbAt s (p + 2) % 64) * 64 + nbAt s (p + 3) % 64 ≥ 0x10000) && Utf8.valid (((nbAt s p % 8) * 262144 + (nbAt s (p + 1) % 64) * 4096 + (nbAt s (p + 2) % 64) * 64 + nbAt s (p + 3) % 64 : Nat) : Int)) = true
          · rw [if_pos c7]
            simp only [Bool.and_eq_true, decide_eq_true_eq] at c7
            obtain ⟨c7, hv⟩ := c7
            have hv := valid_is' _ hv
            have e := enc_4 ((nbAt s p % 8) * 262144 + (nbAt s (p + 1) % 64) * 4096 + (nbAt s (p + 2) % 64) * 64 + nbAt s (p + 3) % 64) c7 (by omega)
            refine ⟨odd_false _ (by simp; omega), ?_, by rw [e]; rfl⟩
            rw [e, d0, d1, d2, d3]
            rw [show 240 + ((nbAt s p % 8) * 262144 + (nbAt s (p + 1) % 64) * 4096 + (nbAt s (p + 2) % 64) * 64 + nbAt s (p + 3) % 64) / 262144 = nbAt s p by omega, show 128 + ((nbAt s p % 8) * 262144 + (nbAt s (p + 1) % 64) * 4096 + (nbAt s (p + 2) % 64) * 64 + nbAt s (p + 3) % 64) / 4096 % 64 = nbAt s (p + 1) by omega,
              show 128 + ((nbAt s p % 8) * 262144 + (nbAt s (p + 1) % 64) * 4096 + (nbAt s (p + 2) % 64) * 64 + nbAt s (p + 3) % 64) / 64 % 64 = nbAt s (p + 2) by omega, show 128 + ((nbAt s p % 8) * 262144 + (nbAt s (p + 1) % 64) * 4096 + (nbAt s (p + 2) % 64) * 64 + nbAt s (p + 3) % 64) % 64 = nbAt s (p + 3) by omega]
            rfl
          · rw [if_neg c7] at hb
            exact absurd ⟨rfl, rfl⟩ hb
        · rw [if_neg c6] at hb
          exact absurd ⟨rfl, rfl⟩ hb
theorem runes_enc (s : ByteArray) : ∀ (n p : Nat), s.size ≤ p + n → Lib.validD (s.data.toList.drop p) = true → (runesAt s n p).any oddR = false ∧ (runesAt s n p).flatMap enc = (nb s).drop p ∧ (runesAt s n p).length ≤ s.size - p ∧ s.size - p ≤ 4 * (runesAt s n p).length := by
  intro n
  induction n with
  | zero =>
    intro p h hv
    have : (nb s).drop p = [] := List.drop_eq_nil_of_le (by rw [nb_length]; omega)
    rw [this]
    exact ⟨rfl, rfl, by simp [runesAt], by simp [runesAt]; omega⟩
  | succ n ih =>
    intro p h hv
    by_cases hp : p < s.size
    · rw [valid_at s p hp] at hv
      by_cases hb : badAt s p
      · rw [if_pos hb] at hv; cases hv
      · rw [if_neg hb] at hv
        obtain ⟨g1, g2, g3⟩ := dec_good s p hp hb
        have w1 := wide_pos s p hp
        have w4 := wide_4 s p
        obtain ⟨i1, i2, i3, i4⟩ := ih (p + (Utf8.decode s p).2) (by omega) hv
        have hsz : p + (Utf8.decode s p).2 ≤ s.size := by
          have := congrArg List.length g2
          rw [List.length_drop, List.length_append, List.length_drop, nb_length, g3] at this
          omega
        rw [runesAt, if_pos hp]
        refine ⟨by rw [List.any_cons, g1, i1]; rfl, by rw [List.flatMap_cons, i2, ← g2], by simp; omega, by simp; omega⟩
    · have : (nb s).drop p = [] := List.drop_eq_nil_of_le (by rw [nb_length]; omega)
      rw [this, runesAt_end s _ p hp]
      exact ⟨rfl, rfl, by simp, by simp; omega⟩
theorem enc_bytes (c : Int) : ∀ x ∈ enc c, isByte x := nb_bytes _
theorem nbAt_str (L : List Int) (h : ∀ x ∈ L, isByte x) (p : Nat) (hp : p < L.length) : p < (strOfNums L).size ∧ (nbAt (strOfNums L) p : Int) = L.getD p 0 := by
  have hs : (strOfNums L).size = L.length := by rw [← nb_length, str_nb L h]
  refine ⟨by omega, ?_⟩
  rw [← bt_nbAt _ p (by omega), bt_nb, str_nb L h]
theorem at_enc (a b : List Int) (c : Int) (ha : ∀ x ∈ a, isByte x) (hb : ∀ x ∈ b, isByte x) (i : Nat) (x : Int) (hi : (enc c)[i]? = some x) :
    a.length + i < (strOfNums (a ++ (enc c ++ b))).size ∧ (nbAt (strOfNums (a ++ (enc c ++ b))) (a.length + i) : Int) = x := by
  have hl : i < (enc c).length := (List.getElem?_eq_some_iff.1 hi).1
  obtain ⟨h1, h2⟩ := nbAt_str (a ++ (enc c ++ b)) (fun y hy => by
    rcases List.mem_append.1 hy with h | h
    · exact ha y h
    · rcases List.mem_append.1 h with h | h
      · exact enc_bytes c y h
      · exact hb y h) (a.length + i) (by rw [List.length_append, List.length_append]; omega)
  refine ⟨h1, ?_⟩
  rw [h2, List.getD_eq_getElem?_getD, List.getElem?_append_right (by omega), Nat.add_sub_cancel_left, List.getElem?_append_left hl, hi]
  rfl
theorem cont_mk (s : ByteArray) (p : Nat) (h : p < s.size) (h' : nbAt s p / 64 = 2) : contAt s p = true := by
  unfold contAt
  simp [h, h']
set_option maxRecDepth 10000 in
theorem dec_enc (a b : List Int) (c : Nat) (ha : ∀ x ∈ a, isByte x) (hb : ∀ x ∈ b, isByte x) (ho : oddR (c : Int) = false) :
    Utf8.decode (strOfNums (a ++ (enc (c : Int) ++ b))) a.length = (c, (enc (c : Int)).length) ∧ (1 < c ∨ True) := by
  refine ⟨?_, .inr trivial⟩
  have hv : ¬ ((c : Int) < 0 ∨ (c : Int) > 1114111 ∨ ((c : Int) ≥ 55296 ∧ (c : Int) < 57344)) := by
    rw [odd_is] at ho; simpa using ho
  have key := at_enc a b (c : Int) ha hb
  obtain ⟨s, hs⟩ : ∃ s, strOfNums (a ++ (enc (c : Int) ++ b)) = s := ⟨_, rfl⟩
  rw [hs] at key ⊢
  clear hs
  rw [dec_is]
  by_cases c1 : c < 128
  · rw [enc_1 c c1] at key ⊢
    obtain ⟨l0, k0⟩ := key 0 _ rfl
    rw [Nat.add_zero] at k0
    rw [if_pos (by omega)]
    exact Prod.ext (show nbAt s a.length = c by omega) rfl
  · by_cases c2 : c < 2048
    · rw [enc_2 c (by omega) c2] at key ⊢
      obtain ⟨l0, k0⟩ := key 0 _ rfl
      obtain ⟨l1, k1⟩ := key 1 _ rfl
      rw [Nat.add_zero] at k0
      have q1 := cont_mk s _ l1 (by omega)
      rw [if_neg (by omega), if_pos (by rw [q1]; simp; omega), if_pos (by omega)]
      exact Prod.ext (show nbAt s a.length % 32 * 64 + nbAt s (a.length + 1) % 64 = c by omega) rfl
    · by_cases c3 : c < 65536
      · rw [enc_3 c (by omega) c3 (by omega)] at key ⊢
        obtain ⟨l0, k0⟩ := key 0 _ rfl
        obtain ⟨l1, k1⟩ := key 1 _ rfl
        obtain ⟨l2, k2⟩ := key 2 _ rfl
        rw [Nat.add_zero] at k0
        have q1 := cont_mk s _ l1 (by omega)
        have q2 := cont_mk s _ l2 (by omega)
        have ev : nbAt s a.length % 16 * 4096 + nbAt s (a.length + 1) % 64 * 64 + nbAt s (a.length + 2) % 64 = c := by omega
        rw [if_neg (by omega), if_neg (by simp; omega), if_pos (by rw [q1, q2]; simp; omega), ev, if_pos (by unfold Utf8.valid; simp; omega)]
        rfl
      · rw [enc_4 c (by omega) (by omega)] at key ⊢
        obtain ⟨l0, k0⟩ := key 0 _ rfl
        obtain ⟨l1, k1⟩ := key 1 _ rfl
        obtain ⟨l2, k2⟩ := key 2 _ rfl
        obtain ⟨l3, k3⟩ := key 3 _ rfl
        rw [Nat.add_zero] at k0
        have q1 := cont_mk s _ l1 (by omega)
        have q2 := cont_mk s _ l2 (by omega)
        have q3 := cont_mk s _ l3 (by omega)
        have ev : nbAt s a.length % 8 * 262144 + nbAt s (a.length + 1) % 64 * 4096 + nbAt s (a.length + 2) % 64 * 64 + nbAt s (a.length + 3) % 64 = c := by omega
        rw [if_neg (by omega), if_neg (by simp; omega), if_neg (by simp; omega), if_pos (by rw [q1, q2, q3]; simp; omega), ev, if_pos (by unfold Utf8.valid; simp; omega)]
        rfl
theorem enc_ne (c : Nat) (ho : oddR (c : Int) = false) : (enc (c : Int)).length ≥ 1 ∧ ((enc (c : Int)).length = 1 → c < 128) := by
  have hv : ¬ ((c : Int) < 0 ∨ (c : Int) > 1114111 ∨ ((c : Int) ≥ 55296 ∧ (c : Int) < 57344)) := by
    rw [odd_is] at ho; simpa using ho
  by_cases c1 : c < 128
  · rw [enc_1 c c1]; exact ⟨by simp, fun _ => c1⟩
  · by_cases c2 : c < 2048
    · rw [enc_2 c (by omega) c2]; exact ⟨by simp, fun h => by simp at h⟩
    · by_cases c3 : c < 65536
      · rw [enc_3 c (by omega) c3 (by omega)]; exact ⟨by simp, fun h => by simp at h⟩
      · rw [enc_4 c (by omega) (by omega)]; exact ⟨by simp, fun h => by simp at h⟩
set_option maxRecDepth 10000 in
theorem enc_runes : ∀ (l : List Int) (a : List Int) (n : Nat), (∀ x ∈ a, isByte x) → l.any oddR = false → (l.flatMap enc).length ≤ n →
    runesAt (strOfNums (a ++ l.flatMap enc)) n a.length = l ∧ Lib.validD ((strOfNums (a ++ l.flatMap enc)).data.toList.drop a.length) = true := by
  intro l
  induction l with
  | nil =>
    intro a n ha _ _
    have hs : ¬ a.length < (strOfNums (a ++ ([] : List Int).flatMap enc)).size := by
      rw [← nb_length, str_nb _ (by simpa using ha)]; simp
    exact ⟨runesAt_end _ _ _ hs, valid_end _ _ hs⟩
  | cons c l ih =>
    intro a n ha ho hn
    rw [List.any_cons, Bool.or_eq_false_iff] at ho
    obtain ⟨ho, hl⟩ := ho
    have hv : ¬ (c < 0 ∨ c > 1114111 ∨ (c ≥ 55296 ∧ c < 57344)) := by
      rw [odd_is] at ho; simpa using ho
    obtain ⟨z, rfl⟩ : ∃ z : Nat, c = (z : Int) := ⟨c.toNat, by omega⟩
    have hb : ∀ x ∈ l.flatMap enc, isByte x := fun x hx => by
      obtain ⟨y, _, hy⟩ := List.mem_flatMap.1 hx
      exact enc_bytes y x hy
    obtain ⟨d, _⟩ := dec_enc a (l.flatMap enc) z ha hb ho
    obtain ⟨e1, e2⟩ := enc_ne z ho
    rw [List.flatMap_cons] at hn ⊢
    rw [List.length_append] at hn
    obtain ⟨m, rfl⟩ : ∃ m, n = m + 1 := ⟨n - 1, by omega⟩
    have hall : ∀ x ∈ a ++ (enc (z : Int) ++ l.flatMap enc), isByte x := fun x hx => by
      rcases List.mem_append.1 hx with h | h
      · exact ha x h
      · rcases List.mem_append.1 h with h | h
        · exact enc_bytes _ x h
        · exact hb x h
    have hp : a.length < (strOfNums (a ++ (enc (z : Int) ++ l.flatMap enc))).size := by
      rw [← nb_length, str_nb _ hall, List.length_append, List.length_append]; omega
    have hnb : ¬ badAt (strOfNums (a ++ (enc (z : Int) ++ l.flatMap enc))) a.length := by
      unfold badAt
      rw [d]
      rintro ⟨h1, h2⟩
      simp only at h1 h2
      have := e2 h2
      omega
    have I := ih (a ++ enc (z : Int)) m (fun x hx => by
      rcases List.mem_append.1 hx with h | h
      · exact ha x h
      · exact enc_bytes _ x h) hl (by omega)
    rw [List.append_assoc, List.length_append] at I
    have V : Lib.validD ((strOfNums (a ++ (enc (z : Int) ++ l.flatMap enc))).data.toList.drop a.length) = Lib.validD ((strOfNums (a ++ (enc (z : Int) ++ l.flatMap enc))).data.toList.drop (a.length + (enc (z : Int)).length)) := by
      have V := valid_at _ _ hp
      rw [if_neg hnb, d] at V
      dsimp only at V
      exact V
    have R : runesAt (strOfNums (a ++ (enc (z : Int) ++ l.flatMap enc))) (m + 1) a.length = (z : Int) :: runesAt (strOfNums (a ++ (enc (z : Int) ++ l.flatMap enc))) m (a.length + (enc (z : Int)).length) := by rw [runesAt, if_pos hp, d]
    rw [V, R]
    exact ⟨congrArg (fun q => (z : Int) :: q) I.1, I.2⟩
end Go.Proofs.YtpkjpiphjdpegaaDoor.P
namespace Go.Proofs.YtpkjpiphjdpegaaDoor.P
open Go.RowKit Go.Proofs.YtpkjpiphjdpegaaDoorW.PrintWords Go.Proofs.YtpkjpiphjdpegaaDoorW.PrintLast Go.Proofs.YtpkjpiphjdpegaaDoorW.PrintMore
set_option linter.unusedVariables false
set_option linter.unusedSimpArgs false
theorem enc_high (c : Int) (h : 45 ≤ c) (ho : oddR c = false) : ∀ x ∈ enc c, 45 ≤ x := by
  obtain ⟨n, rfl⟩ : ∃ n : Nat, c = (n : Int) := ⟨c.toNat, by omega⟩
  have hv : ¬ ((n : Int) < 0 ∨ (n : Int) > 1114111 ∨ ((n : Int) ≥ 55296 ∧ (n : Int) < 57344)) := by
    rw [odd_is] at ho; simpa using ho
  intro x hx
  by_cases c1 : n < 128
  · rw [enc_1 n c1] at hx
    simp at hx; omega
  · by_cases c2 : n < 2048
    · rw [enc_2 n (by omega) c2] at hx
      simp at hx; omega
    · by_cases c3 : n < 65536
      · rw [enc_3 n (by omega) c3 (by omega)] at hx
        simp at hx; omega
      · rw [enc_4 n (by omega) (by omega)] at hx
        simp at hx; omega
theorem nb_mem (s : ByteArray) (b : UInt8) (h : b ∈ s.data.toList) : (b.toNat : Int) ∈ nb s := List.mem_map.2 ⟨b, h, rfl⟩
theorem mayId_facts (id : ByteArray) (m : mayId id = true) : ∃ L : List Int, L.any oddR = false ∧ L.flatMap enc = nb id ∧ (∀ c ∈ L, 45 ≤ c) ∧ 1 ≤ L.length ∧ L.length ≤ 24 := by
  unfold mayId at m
  rw [Bool.and_eq_true, Bool.and_eq_true, decide_eq_true_eq, List.all_eq_true] at m
  obtain ⟨⟨v, a⟩, l⟩ := m
  obtain ⟨h1, h2, h3, h4⟩ := runes_enc id id.size 0 (by omega) v
  refine ⟨runesAt id id.size 0, h1, h2, fun c hc => ?_, l.1, l.2⟩
  have := a c hc
  unfold withinR at this
  rw [decide_eq_true_eq] at this
  omega
theorem mayId_high (id : ByteArray) (m : mayId id = true) : ∀ b ∈ id.data.toList, 45 ≤ b.toNat := by
  obtain ⟨L, h1, h2, h3, h4, h5⟩ := mayId_facts id m
  intro b hb
  have := nb_mem id b hb
  rw [← h2, List.mem_flatMap] at this
  obtain ⟨c, hc, hx⟩ := this
  have ho : oddR c = false := by
    have := List.any_eq_false.1 h1 c hc
    simpa using this
  have := enc_high c (h3 c hc) ho _ hx
  omega
theorem mayId_one (id : ByteArray) (m : mayId id = true) : 1 ≤ id.data.toList.length ∧ id.size ≤ 96 := by
  obtain ⟨L, h1, h2, h3, h4, h5⟩ := mayId_facts id m
  have hl := nb_length id
  have e : id.data.toList.length = id.size := Array.length_toList
  have f4 : ∀ L : List Int, (L.flatMap enc).length ≤ 4 * L.length := by
    intro L
    induction L with
    | nil => simp
    | cons c L ih =>
      have := enc_len c
      rw [List.flatMap_cons, List.length_append, List.length_cons]; omega
  have f1 : ∀ L : List Int, L.any oddR = false → (∀ c ∈ L, 45 ≤ c) → L.length ≤ (L.flatMap enc).length := by
    intro L
    induction L with
    | nil => simp
    | cons c L ih =>
      intro ho hc
      rw [List.any_cons, Bool.or_eq_false_iff] at ho
      have h45 := hc c (List.mem_cons_self ..)
      have := ih ho.2 fun x hx => hc x (List.mem_cons_of_mem _ hx)
      have n1 := (enc_ne c.toNat (by rw [show ((c.toNat : Nat) : Int) = c by omega]; exact ho.1)).1
      rw [show ((c.toNat : Nat) : Int) = c by omega] at n1
      rw [List.flatMap_cons, List.length_append, List.length_cons]; omega
  have a := f4 L
  have b := f1 L h1 h3
  rw [h2, hl] at a b
  omega
def digs (a b : Int) : List Int := asc (dec (val a b))
theorem digs_is (a b : Int) (ha : U64 a) (hb : U64 b) : (∀ x ∈ digs a b, 48 ≤ x ∧ x ≤ 57) ∧ (digs a b).length ≤ 39 ∧ 1 ≤ (digs a b).length := by
  have v := val_range a b ha hb
  obtain ⟨d1, d2, d3, d4⟩ := dec_facts (val a b) v.1 v.2
  refine ⟨fun x hx => ?_, ?_, ?_⟩
  · obtain ⟨d, hd, rfl⟩ := List.mem_map.1 hx
    have := d2 d hd
    omega
  · unfold digs asc; rw [List.length_map]; exact d4
  · unfold digs asc; rw [List.length_map]; exact d3
theorem low_enc : ∀ l : List Int, (∀ x ∈ l, 0 ≤ x ∧ x < 128) → l.flatMap enc = l
  | [], _ => rfl
  | x :: l, h => by
    have hx := h x (List.mem_cons_self ..)
    have e := enc_1 x.toNat (by omega)
    rw [show ((x.toNat : Nat) : Int) = x by omega] at e
    rw [List.flatMap_cons, e, low_enc l fun y hy => h y (List.mem_cons_of_mem _ hy)]
    rfl
theorem low_odd (l : List Int) (h : ∀ x ∈ l, 0 ≤ x ∧ x < 128) : l.any oddR = false := by
  rw [List.any_eq_false]
  intro x hx
  have := h x hx
  rw [odd_is, decide_eq_true_eq]
  omega
def lineB (id : ByteArray) (a b : Int) : ByteArray := (id ++ (⟨#[32]⟩ : ByteArray)) ++ strOfNums (asc (dec (val a b)))
theorem digs_byte (a b : Int) (ha : U64 a) (hb : U64 b) : ∀ x ∈ asc (dec (val a b)), isByte x := by
  have v := val_range a b ha hb
  exact asc_byte _ (dec_facts (val a b) v.1 v.2).2.1
theorem nb_line (id : ByteArray) (a b : Int) (ha : U64 a) (hb : U64 b) : nb (lineB id a b) = nb id ++ 32 :: digs a b := by
  unfold lineB
  rw [nb_append, nb_append, str_nb _ (digs_byte a b ha hb), List.append_assoc]
  rfl
theorem line_list (id : ByteArray) (a b : Int) : (lineB id a b).data.toList = id.data.toList ++ 32 :: (strOfNums (digs a b)).data.toList := by
  unfold lineB digs
  rw [ByteArray.data_append, ByteArray.data_append, Array.toList_append, Array.toList_append, List.append_assoc]
  rfl
theorem line_runes (id : ByteArray) (a b : Int) (m : mayId id = true) (ha : U64 a) (hb : U64 b) :
    Lib.validD (lineB id a b).data.toList = true ∧ (runesAt (lineB id a b) (lineB id a b).size 0).length ≤ 64 := by
  obtain ⟨L, h1, h2, h3, h4, h5⟩ := mayId_facts id m
  obtain ⟨d1, d2, d3⟩ := digs_is a b ha hb
  have lo : ∀ x ∈ 32 :: digs a b, 0 ≤ x ∧ x < 128 := by
    intro x hx
    rcases List.mem_cons.1 hx with rfl | hx
    · omega
    · have := d1 x hx; omega
  have e : (L ++ 32 :: digs a b).flatMap enc = nb (lineB id a b) := by
    rw [List.flatMap_append, h2, low_enc _ lo, nb_line id a b ha hb]
  have o : (L ++ 32 :: digs a b).any oddR = false := by rw [List.any_append, h1, low_odd _ lo]; rfl
  have r := enc_runes (L ++ 32 :: digs a b) [] (lineB id a b).size (by simp) o (by rw [e, nb_length]; omega)
  rw [List.nil_append, e, nb_str, List.length_nil, List.drop_zero] at r
  refine ⟨r.2, ?_⟩
  rw [r.1, List.length_append, List.length_cons]
  omega
theorem line_size (id : ByteArray) (a b : Int) (m : mayId id = true) (ha : U64 a) (hb : U64 b) : (lineB id a b).size ≤ 136 := by
  have h := nb_line id a b ha hb
  have l := congrArg List.length h
  obtain ⟨d1, d2, d3⟩ := digs_is a b ha hb
  have := (mayId_one id m).2
  rw [List.length_append, List.length_cons, nb_length, nb_length] at l
  omega
theorem dig_bytes (a b : Int) (ha : U64 a) (hb : U64 b) : ∀ x ∈ (strOfNums (digs a b)).data.toList, 48 ≤ x.toNat ∧ x.toNat ≤ 57 := by
  intro x hx
  have := nb_mem _ x hx
  rw [digs, str_nb _ (digs_byte a b ha hb)] at this
  have := (digs_is a b ha hb).1 _ this
  omega
theorem line_bytes (id : ByteArray) (a b : Int) (m : mayId id = true) (ha : U64 a) (hb : U64 b) : ∀ x ∈ (lineB id a b).data.toList, x ≠ 10 := by
  intro x hx e
  subst e
  rw [line_list] at hx
  rcases List.mem_append.1 hx with h | h
  · have := mayId_high id m _ h
    exact absurd this (by decide)
  · rcases List.mem_cons.1 h with h | h
    · exact absurd h (by decide)
    · have := (dig_bytes a b ha hb _ h).1
      exact absurd this (by decide)
theorem line_cut (id : ByteArray) (a b : Int) (m : mayId id = true) (ha : U64 a) (hb : U64 b) : cutAt 32 (lineB id a b).data.toList = some (id.data.toList, (strOfNums (digs a b)).data.toList) := by
  have nx : ∀ x ∈ id.data.toList, x ≠ 32 := by
    intro x hx e
    subst e
    exact absurd (mayId_high id m _ hx) (by decide)
  rw [line_list, cutAt_app 32 _ _ nx, cutAt, if_pos rfl]
  simp
theorem line_parse (id : ByteArray) (a b : Int) (m : mayId id = true) (ha : U64 a) (hb : U64 b) : parseRow (lineB id a b).data.toList = (id, a, b, 0) := by
  have v := val_range a b ha hb
  unfold parseRow
  rw [line_cut id a b m ha hb]
  dsimp only
  rw [mk_of, mk_of, if_pos m, digs, str_nb _ (digs_byte a b ha hb), parse_text _ v.1 v.2, if_pos rfl, hiOf_val a b hb, loOf_val a b hb]
theorem line_kind (id : ByteArray) (a b : Int) (m : mayId id = true) : kindOf (lineB id a b).data.toList = 2 := by
  have h1 := (mayId_one id m).1
  have hh := mayId_high id m
  rw [line_list]
  cases q : id.data.toList with
  | nil => rw [q] at h1; simp at h1
  | cons x l =>
    have : x ≠ 35 := by
      intro e
      subst e
      exact absurd (hh 35 (by rw [q]; exact List.mem_cons_self ..)) (by decide)
    show (if x = 35 then (1 : Int) else 2) = 2
    rw [if_neg this]
theorem line_wrong (id : ByteArray) (a b : Int) (m : mayId id = true) (ha : U64 a) (hb : U64 b) : wrongOf (lineB id a b).data.toList = 0 := by
  obtain ⟨v, r⟩ := line_runes id a b m ha hb
  have e : (lineB id a b).data.toList.length = (lineB id a b).size := Array.length_toList
  unfold wrongOf
  rw [if_pos v, mk_of, e, if_neg (by omega)]
theorem line_one (id : ByteArray) (a b : Int) (m : mayId id = true) (ha : U64 a) (hb : U64 b) : oneB (lineB id a b).data.toList = (id, a, b, true, 0) := by
  unfold oneB
  rw [if_pos (line_wrong id a b m ha hb), if_pos (line_kind id a b m), line_parse id a b m ha hb]
  rfl
end Go.Proofs.YtpkjpiphjdpegaaDoor.P
namespace Go.Proofs.YtpkjpiphjdpegaaDoor.P
open Go.RowKit Go.Proofs.YtpkjpiphjdpegaaDoorW.PrintWords Go.Proofs.YtpkjpiphjdpegaaDoorW.PrintLast Go.Proofs.YtpkjpiphjdpegaaDoorW.PrintMore
set_option linter.unusedVariables false
set_option linter.unusedSimpArgs false
theorem brk_clean (h : List UInt8) : brk (mk h) = false ↔ ∀ b ∈ h, b ≠ 10 := by
  unfold brk
  rw [mk_list, ← Lib.contains_iff_indexByte]
  simp only [← Bool.not_eq_true, List.contains_iff_mem]
  exact ⟨fun q b hb e => q (e ▸ hb), fun q e => q 10 e rfl⟩
theorem joinB_cons (h : List UInt8) (r : List (List UInt8)) : Lib.join (h :: r) [10] = h ++ Lib.joinTail [10] r := Lib.join_cons ..
theorem tail_cons (y : List UInt8) (r : List (List UInt8)) : Lib.joinTail [10] (y :: r) = 10 :: (y ++ Lib.joinTail [10] r) := rfl
theorem split_join : ∀ (r : List (List UInt8)) (h : List UInt8), (∀ x ∈ h :: r, ∀ b ∈ x, b ≠ 10) → splitB (Lib.join (h :: r) [10]) = h :: r
  | [], h, c => by rw [joinB_cons]; show splitB (h ++ []) = [h]; rw [List.append_nil]; exact splitB_one h (c h (List.mem_cons_self ..))
  | y :: r, h, c => by
    rw [joinB_cons, tail_cons, splitB_app, splitB_one h (c h (List.mem_cons_self ..)), ← joinB_cons, split_join r y fun x hx => c x (List.mem_cons_of_mem _ hx)]
    rfl
theorem split_count : ∀ l : List UInt8, (splitB l).length = l.count 10 + 1
  | [] => rfl
  | x :: l => by
    have ih := split_count l
    rw [splitB, List.count_cons]
    by_cases c : x = 10
    · rw [if_pos c, List.length_cons, ih, c]; simp
    · rw [if_neg c, if_neg (by simpa using c)]
      cases q : splitB l with
      | nil => exact absurd q (splitB_ne l)
      | cons y r =>
        rw [q] at ih
        simpa using ih
theorem join_f (l : List ByteArray) (h1 : l.length ≤ 1000000) (h2 : (Lib.join (l.map (·.data.toList)) [10]).length ≤ 1000000000) : lines_Join.f l = some (if l.any brk = true then ((⟨#[]⟩ : ByteArray), 2) else (joinL l, 0)) := if_pos ⟨h1, h2⟩
end Go.Proofs.YtpkjpiphjdpegaaDoor.P
namespace Go.Proofs.YtpkjpiphjdpegaaDoor.P
open Go.RowKit Go.Proofs.YtpkjpiphjdpegaaDoorW.PrintWords Go.Proofs.YtpkjpiphjdpegaaDoorW.PrintLast Go.Proofs.YtpkjpiphjdpegaaDoorW.PrintMore
attribute [local go_sem] max2_int min2_int max_two min_two max_three min_three max_four min_four
set_option linter.unusedVariables false
set_option linter.unusedSimpArgs false
attribute [local go_sem high] eqA44
mutual
def row_Write.j0 : Nat → List (S44) → ByteArray → List ByteArray → Option (ByteArray × Int)
  | 0, _, _, _ => none
  | k + 1, x0, x1, x6 => row_Write.l0 k x1 x6 x0 (x0.length : Int) 0
def row_Write.l0 : Nat → ByteArray → List ByteArray → List (S44) → Int → Int → Option (ByteArray × Int)
  | 0, _, _, _, _, _ => none
  | k + 1, x1, x6, x21, x22, x23 => if x23 < x22 then (if 0 ≤ x23 then (if x23 < (x21.length : Int) then ((row_Text.f ((rd_T44 x21 x23).f0) ((rd_T44 x21 x23).f1.f0) ((rd_T44 x21 x23).f1.f1)).bind fun bt683 => (if bt683.2 = 0 then (if x6.length < 8796093022208 then (row_Write.l0 k x1 (x6 ++ [bt683.1]) x21 x22 (wrap64 (x23 + 1))) else (none)) else (some ((⟨#[]⟩ : ByteArray), bt683.2)))) else (none)) else (none)) else (if 2 + x1.size ≤ 9223372036854775807 then ((lines_All.f ((⟨#[35, 32]⟩ : ByteArray) ++ x1)).bind fun t688 => (if (t688.length : Int) > 1 then (some ((⟨#[]⟩ : ByteArray), 91)) else (if 0 < (t688.length : Int) then (if ((rd_T56 t688 0).f3) = 0 then (if x6.length < 8796093022208 then ((lines_Join.f (x6 ++ [(⟨#[]⟩ : ByteArray)])).bind fun bt695 => (some (bt695.1, 0))) else (none)) else (some ((⟨#[]⟩ : ByteArray), 91))) else (none)))) else (none))
end
def row_Write.f (k : Nat) (l0 : List (S44)) (a1 : ByteArray) : Option (ByteArray × Int) := if a1.toList = ([] : List UInt8) then (row_Write.j0 k l0 a1 ([] : List ByteArray)) else (if 2 + a1.size ≤ 9223372036854775807 then (if ([] : List ByteArray).length < 8796093022208 then (row_Write.j0 k l0 a1 (([] : List ByteArray) ++ [(⟨#[35, 32]⟩ : ByteArray) ++ a1])) else (none)) else (none))
theorem row_Write.mono_l : ∀ k, (∀ y0 y1 y2, LeO (row_Write.j0 k y0 y1 y2) (row_Write.j0 (k + 1) y0 y1 y2)) ∧ (∀ y0 y1 y2 y3 y4, LeO (row_Write.l0 k y0 y1 y2 y3 y4) (row_Write.l0 (k + 1) y0 y1 y2 y3 y4))
  | 0 => ⟨fun _ _ _ r h => by simp [row_Write.j0] at h, fun _ _ _ _ _ r h => by simp [row_Write.l0] at h⟩
  | k + 1 => by
    obtain ⟨ih0, ih1⟩ := row_Write.mono_l k
    refine ⟨?_, ?_⟩
    · intro y0 y1 y2
      unfold row_Write.j0
      repeat' first
      | (with_reducible exact ih0 _ _ _)
      | (with_reducible exact ih1 _ _ _ _ _)
      | (with_reducible exact LeO.refl _)
      | (with_reducible exact LeO.none _)
      | (with_reducible refine LeO.ite ?_ ?_)
      | (with_reducible refine LeO.bind ?_ (fun _ => ?_))
      | exact ih0 _ _ _
      | exact ih1 _ _ _ _ _
      | exact LeO.none _
      | refine LeO.ite ?_ ?_
      | refine LeO.bind ?_ (fun _ => ?_)
    · intro y0 y1 y2 y3 y4
      unfold row_Write.l0
      repeat' first
      | (with_reducible exact ih0 _ _ _)
      | (with_reducible exact ih1 _ _ _ _ _)
      | (with_reducible exact LeO.refl _)
      | (with_reducible exact LeO.none _)
      | (with_reducible refine LeO.ite ?_ ?_)
      | (with_reducible refine LeO.bind ?_ (fun _ => ?_))
      | exact ih0 _ _ _
      | exact ih1 _ _ _ _ _
      | exact LeO.none _
      | refine LeO.ite ?_ ?_
      | refine LeO.bind ?_ (fun _ => ?_)
theorem row_Write.mono : ∀ a0 a1 k, LeO (row_Write.f k a0 a1) (row_Write.f (k + 1) a0 a1) := by
  intro a0 a1 k
  obtain ⟨ih0, ih1⟩ := row_Write.mono_l k
  unfold row_Write.f
  repeat' first
      | (with_reducible exact ih0 _ _ _)
      | (with_reducible exact ih1 _ _ _ _ _)
      | (with_reducible exact LeO.refl _)
      | (with_reducible exact LeO.none _)
      | (with_reducible refine LeO.ite ?_ ?_)
      | (with_reducible refine LeO.bind ?_ (fun _ => ?_))
      | exact ih0 _ _ _
      | exact ih1 _ _ _ _ _
      | exact LeO.none _
      | refine LeO.ite ?_ ?_
      | refine LeO.bind ?_ (fun _ => ?_)
set_option maxHeartbeats 8000000 in
set_option maxRecDepth 100000 in
theorem row_Write.calls (k : Nat) (A0 : Option Addr) (c0 : Nat) (l0 : List (S44)) (a1 : ByteArray) (r1 : ByteArray) (r2 : Int) (w : World) (hr0 : Kd.C k44 w A0 l0.length l0) (hc0 : l0.length ≤ c0) (hG : GT w) (h : row_Write.f k l0 a1 = some (r1, r2)) :
    Calls Tryd.prog 52 #[.slice A0 l0.length c0, .string a1] w fun e w' => e = .returned (.tuple #[.string r1, .int .i64 r2]) ∧ Below w.heap.size w w' := by
  have hu44 := Tryd.underlying44
  have HR0 := Aside0.mk hr0
  have HC0 := Aside0.mk hc0
  clear hr0 hc0
  have HB := Aside0.mk (Below.refl w.heap.size w)
  have H : (if a1.toList = ([] : List UInt8) then (row_Write.j0 k l0 a1 ([] : List ByteArray)) else (if 2 + a1.size ≤ 9223372036854775807 then (if ([] : List ByteArray).length < 8796093022208 then (row_Write.j0 k l0 a1 (([] : List ByteArray) ++ [(⟨#[35, 32]⟩ : ByteArray) ++ a1])) else (none)) else (none))) = some (r1, r2) := h
  clear h
  have HC3 := Aside0.mk H
  clear H
  go_enter Tryd.func52, Tryd.ntmps52
  go_upto_if 15 with (fail)
  go_cut [6] (fun v6 wc => ∃ (kq : Nat) (x6_2 : List ByteArray), Aside0 (row_Write.j0 kq l0 a1 x6_2 = some (r1, r2)) ∧ Aside0 (kq ≤ k) ∧ Aside0 (Kd.R Kd.string 9 wc w.heap.size (fun _ => True) v6 x6_2) ∧ Aside0 (Below w.heap.size w wc))
  case first =>
    have H := HC3.out
    clear HC3
    by_cases c4 : a1.toList = ([] : List UInt8)
    · rw [if_pos c4] at H
      have c4b0 : (a1.toList == ([] : List UInt8)) = true := beq_iff_eq.mpr c4
      try have c4b9 : (a1.toList.isEmpty) = true := by have e_ := c4b0; simp only [show ∀ l_ : List UInt8, (l_ == []) = l_.isEmpty from fun l_ => by cases l_ <;> rfl] at e_; exact e_
      have c4b1 : (a1.toList != ([] : List UInt8)) = false := bne_eq_false_iff_eq.mpr c4
      clear c4
      (first | rw [c4b0] | rw [c4b9] | (simp only [i64_w, i32_w]; rw [c4b0]) | skip)
      have H' := Aside0.mk H
      clear H
      go_wp2
      go_meet
      case rel => exact ⟨_, (([] : List ByteArray)), H', ⟨by first | omega | exact Nat.le_refl _⟩, ⟨by first | exact Kd.R_nil _ _ _ _ _ | exact Kd.N_nil _ _ _ _ _ | exact Kd.V_nil _ _ _ _ _ | exact Kd.Q_nil _ _ _ _ _ | exact Kd.S_nil _ _ _ _ _⟩, ⟨by repeat (first | (with_reducible first | exact HB.out | apply below_alloc | apply pw_below_drewN | apply below_drew1) | exact HB.out)⟩⟩
    · rw [if_neg c4] at H
      have c4b0 : (a1.toList == ([] : List UInt8)) = false := beq_eq_false_iff_ne.mpr c4
      try have c4b9 : (a1.toList.isEmpty) = false := by have e_ := c4b0; simp only [show ∀ l_ : List UInt8, (l_ == []) = l_.isEmpty from fun l_ => by cases l_ <;> rfl] at e_; exact e_
      have c4b1 : (a1.toList != ([] : List UInt8)) = true := bne_iff_ne.mpr c4
      (first | rw [c4b0] | rw [c4b9] | (simp only [i64_w, i32_w]; rw [c4b0]) | skip)
      by_cases c5 : 2 + a1.size ≤ 9223372036854775807
      · rw [if_pos c5] at H
        have c5b0 := eq_true c5
        have c5b1 : decide (2 + a1.size ≤ 9223372036854775807) = true := decide_eq_true c5
        try have c5b2 : (9223372036854775807 < 2 + a1.size) = False := eq_false (Nat.not_lt.2 c5)
        by_cases c6 : ([] : List ByteArray).length < 8796093022208
        · rw [if_pos c6] at H
          have LMc6 := Aside0.mk c6
          clear c6
          obtain ⟨y678, hy678⟩ : ∃ y_ : List ByteArray, y_ = (([] : List ByteArray) ++ [(⟨#[35, 32]⟩ : ByteArray) ++ a1]) := ⟨_, rfl⟩
          replace H : (row_Write.j0 k l0 a1 y678) = some (r1, r2) := by first | (rw [hy678]; with_reducible exact H) | (have H2_ := (Option.bind_some _ _).symm.trans H; rw [hy678]; with_reducible exact H2_) | (have H2_ := (Option.bind_some _ _).symm.trans H; with_reducible exact H2_) | with_reducible exact H | (rw [hy678]; exact H) | exact H
          have Ny678 := Aside0.mk hy678
          clear hy678
          have H' := Aside0.mk H
          clear H
          go_wp2_with (first | ((with_reducible refine gate_builtin (b := .append) (xs := #[.tmp 16, .tmp 19]) rfl ?_); at_builtin; refine Kd.R_append Kd.string (w0 := w) w.heap.size rfl (.tmp 16) (.tmp 19) 51 9 (.string ⟨#[]⟩) 16 rfl Tryd.underlying51 info9 rfl (by decide) (by omega) (.slice none 0 0) ([] : List ByteArray) ((⟨#[35, 32]⟩ : ByteArray) ++ a1) [.string ((⟨#[35, 32]⟩ : ByteArray) ++ a1)] (fun _ => True) (fun _ => False) rfl rfl ?aP (fun _ hk => hk.elim) ?aF ?aO ?aB ?aS ?aL ?_; (case aP => exact rfl); (case aB => exact (by repeat (first | (with_reducible first | exact HB.out | apply below_alloc | apply pw_below_drewN | apply below_drew1) | exact HB.out))); (case aF => exact (fun _ _ => trivial)); (case aO => exact ((Kd.R_nil _ _ _ _ (fun _ => True)))); (case aS => exact (below_size (by repeat (first | (with_reducible first | exact HB.out | apply below_alloc | apply pw_below_drewN | apply below_drew1) | exact HB.out)))); (case aL => have := LMc6.out; omega); intro v679 w7 ho hb hg hat; rw [← Ny678.out] at ho; have n0_ := Aside0.mk (hb); have n1_ := Aside0.mk (ho); clear HB; have HB := n0_; have HO680 := n1_; clear n0_ n1_; clear ho hb hg hat))
          go_meet
          case rel => exact ⟨_, (y678), H', ⟨by first | omega | exact Nat.le_refl _⟩, ⟨by (with_reducible repeat (first | apply Kd.R_alloc | apply Kd.R_drewN | apply Kd.R_drew)); exact HO680.out⟩, ⟨by repeat (first | (with_reducible first | exact HB.out | apply below_alloc | apply pw_below_drewN | apply below_drew1) | exact HB.out)⟩⟩
        · rw [if_neg c6] at H
          exact absurd H (by simp)
      · rw [if_neg c5] at H
        exact absurd H (by simp)
  case rest =>
    clear HC3
    try clear p2
    try clear c4
    try clear c4b0
    try clear c4b1
    try clear c5
    try clear c5b0
    try clear c5b1
    try clear c5b2
    try clear c6
    obtain ⟨kq, x6_2, HA, HJ2, HO_6, HB⟩ := hcut
    cases kq with
    | zero => exact absurd HA.out (by simp [row_Write.j0])
    | succ kj2 =>
      have H := HA.out
      clear HA
      simp only [row_Write.j0] at H
      have H' := Aside0.mk H
      clear H
      go_wp2
      go_loopg [6, 23] kj2 (fun kq v6 v23 w' => ∃ (x6_2 : List ByteArray) (x23_2 : Int), v23 = .int .i64 x23_2 ∧ Aside0 (row_Write.l0 kq a1 x6_2 l0 (l0.length : Int) x23_2 = some (r1, r2)) ∧ Aside0 (kq ≤ kj2) ∧ Aside0 (Kd.R Kd.string 9 w' w.heap.size (fun _ => True) v6 x6_2) ∧ Aside0 (Below w.heap.size w w'))
      case atStart => exact ⟨(x6_2), (0), (by first | rfl | (simp; done) | (simp [*]; done)), H', ⟨Nat.le_refl _⟩, ⟨by (with_reducible repeat (first | apply Kd.R_alloc | apply Kd.R_drewN | apply Kd.R_drew)); exact HO_6.out⟩, ⟨by repeat (first | (with_reducible first | exact HB.out | apply below_alloc | apply pw_below_drewN | apply below_drew1) | exact HB.out)⟩⟩
      case round =>
        clear H'
        try clear p2
        try clear c4
        try clear c4b0
        try clear c4b1
        try clear c5
        try clear c5b0
        try clear c5b1
        try clear c5b2
        try clear c6
        try clear p2
        obtain ⟨x6_2, x23_2, rfl, HA, HK2, HO_6, HB⟩ := hrel
        cases gk with
        | zero => exact absurd HA.out (by simp [row_Write.l0])
        | succ k2 =>
          have H := HA.out
          clear HA
          simp only [row_Write.l0] at H
          by_cases c8 : x23_2 < (l0.length : Int)
          · rw [if_pos c8] at H
            have c8b0 : decide (x23_2 < (l0.length : Int)) = true := decide_eq_true c8
            clear c8
            by_cases c9 : 0 ≤ x23_2
            · rw [if_pos c9] at H
              have c9b0 : decide (0 ≤ x23_2) = true := decide_eq_true c9
              clear c9
              by_cases c10 : x23_2 < (l0.length : Int)
              · rw [if_pos c10] at H
                have c10b0 : decide (x23_2 < (l0.length : Int)) = true := decide_eq_true c10
                clear c10
                replace H := Option.bind_eq_some_iff.mp H
                obtain ⟨⟨t683, t684⟩, A110, H⟩ := H
                replace H : (if t684 = 0 then (if x6_2.length < 8796093022208 then (row_Write.l0 k2 a1 (x6_2 ++ [t683]) l0 (l0.length : Int) (wrap64 (x23_2 + 1))) else (none)) else (some ((⟨#[]⟩ : ByteArray), t684))) = some (r1, r2) := H
                have A11 := Aside0.mk A110
                clear A110
                by_cases c12 : t684 = 0
                · rw [if_pos c12] at H
                  have c12b0 : (t684 == 0) = true := beq_iff_eq.mpr c12
                  have c12b1 : (t684 != 0) = false := bne_eq_false_iff_eq.mpr c12
                  clear c12
                  by_cases c13 : x6_2.length < 8796093022208
                  · rw [if_pos c13] at H
                    have LMc13 := Aside0.mk c13
                    clear c13
                    obtain ⟨y685, hy685⟩ : ∃ y_ : List ByteArray, y_ = (x6_2 ++ [t683]) := ⟨_, rfl⟩
                    replace H : (row_Write.l0 k2 a1 y685 l0 (l0.length : Int) (wrap64 (x23_2 + 1))) = some (r1, r2) := by first | (rw [hy685]; with_reducible exact H) | (have H2_ := (Option.bind_some _ _).symm.trans H; rw [hy685]; with_reducible exact H2_) | (have H2_ := (Option.bind_some _ _).symm.trans H; with_reducible exact H2_) | with_reducible exact H | (rw [hy685]; exact H) | exact H
                    have Ny685 := Aside0.mk hy685
                    clear hy685
                    have H' := Aside0.mk H
                    clear H
                    have p681 : 0 ≤ (x23_2 : Int) := of_decide_eq_true (by first | (with_reducible assumption) | assumption)
                    have q681 : x23_2 < (l0.length : Int) := of_decide_eq_true (by first | (with_reducible assumption) | assumption)
                    obtain ⟨ad681, e681, hx681_0, hx681_1, hx681_2⟩ := at_T44 HR0.out x23_2 p681 q681
                    cases e681
                    replace hx681_0 := (HB.out.cell (World.block_lt_of_cell? w _ hx681_0)).trans hx681_0
                    replace hx681_1 := (HB.out.cell (World.block_lt_of_cell? w _ hx681_1)).trans hx681_1
                    replace hx681_2 := (HB.out.cell (World.block_lt_of_cell? w _ hx681_2)).trans hx681_2
                    replace p681 := eq_true p681
                    replace q681 := eq_true q681
                    go_wp2_with (first | ((with_reducible refine gate_dst (N := 8) rfl ?_); refine box_event ?hg (N := 8) ?hd (cs := #[.string (⟨#[]⟩ : ByteArray), .int .u64 0, .int .u64 0]) (t := 44) ?hr ?_; (case hd => rfl); (case hg => rfl); (case hr => first | (go_simp; done) | (go_simp; rfl)); intro gb682 hg w14 hbox hb; have n0_ := Aside0.mk (Kd.R_below (by (with_reducible repeat (first | apply Kd.R_alloc | apply Kd.R_drewN | apply Kd.R_drew)); exact HO_6.out) hb); have n1_ := Aside0.mk (below_step (by repeat (first | (with_reducible first | exact HB.out | apply below_alloc | apply pw_below_drewN | apply below_drew1) | exact HB.out)) hb); have n2_ := Aside0.mk (hbox); have n3_ := Aside0.mk ((by rw [hg]; exact (below_size (by repeat (first | (with_reducible first | exact HB.out | apply below_alloc | apply pw_below_drewN | apply below_drew1) | exact HB.out))) : w.heap.size ≤ gb682)); have n4_ := Aside0.mk ((by rw [hg]; exact (below_size (by repeat (first | (with_reducible first | exact HB.out | apply below_alloc | apply pw_below_drewN | apply below_drew1) | exact HB.out))) : w.heap.size ≤ gb682)); clear HO_6; clear HB; have HO_6 := n0_; have HB := n1_; have BK682 := n2_; have GW682 := n3_; have GE682 := n4_; clear n0_ n1_ n2_ n3_ n4_; clear hb hbox hg; have hcz15_0 : w14.cell? ⟨gb682, 0, none⟩ = some (.string (⟨#[]⟩ : ByteArray)) := (blk_cell BK682.out 0).trans rfl; have hcz15_1 : w14.cell? ⟨gb682, 1, none⟩ = some (.int .u64 0) := (blk_cell BK682.out 1).trans rfl; have hcz15_2 : w14.cell? ⟨gb682, 2, none⟩ = some (.int .u64 0) := (blk_cell BK682.out 2).trans rfl; have hfz15_0 := blk_frozen BK682.out 0; have hfz15_1 := blk_frozen BK682.out 1; have hfz15_2 := blk_frozen BK682.out 2) | ((with_reducible refine gate_callee (f := 48) rfl ?_); refine goesL_ (some 29) rfl rfl Tryd.func48 (by kernel_rfl) rfl #[.agg #[.string ((rd_T44 l0 x23_2).f0), .int .u64 ((rd_T44 l0 x23_2).f1.f0), .int .u64 ((rd_T44 l0 x23_2).f1.f1)]] rfl (by (try simp only [List.map_toArray, List.map_cons, List.map_nil]); first | done | rfl | (simp only [List.length_drop, List.length_take]; rfl)) ?_; (with_reducible refine (row_Text.calls ((rd_T44 l0 x23_2).f0) ((rd_T44 l0 x23_2).f1.f0) ((rd_T44 l0 x23_2).f1.f1) t683 t684 _ ?side1 A11.out).mono ?_); (case side1 => exact gt_below hG (by repeat (first | (with_reducible first | exact HB.out | apply below_alloc | apply pw_below_drewN | apply below_drew1 | refine below_set ?_ GE682.out) | exact HB.out))); rintro e w16 ⟨rfl, hb⟩; refine ⟨_, rfl, ?_⟩; have n0_ := Aside0.mk (Kd.R_below (by (with_reducible repeat (first | apply Kd.R_alloc | apply Kd.R_drewN | apply Kd.R_drew)); exact (Kd.R_mono (Kd.R_far (p := ⟨gb682, 2, none⟩) (Kd.R_far (p := ⟨gb682, 1, none⟩) (Kd.R_far (p := ⟨gb682, 0, none⟩) (Kd.R_types HO_6.out BK682.out (by decide)) (fun _ hk => hk.2) (.string ((rd_T44 l0 x23_2).f0))) (fun _ hk => hk.2) (.int .u64 ((rd_T44 l0 x23_2).f1.f0))) (fun _ hk => hk.2) (.int .u64 ((rd_T44 l0 x23_2).f1.f1))) (fun _ h_ => h_.1))) hb); have n1_ := Aside0.mk (blk_below (g := gb682) (o := .cells #[.string ((rd_T44 l0 x23_2).f0), .int .u64 ((rd_T44 l0 x23_2).f1.f0), .int .u64 ((rd_T44 l0 x23_2).f1.f1)] 44 (0, 0)) (by (with_reducible repeat (first | refine blk_drewN ?_ _ | refine blk_drew ?_ | refine blk_alloc ?_ _)); refine blk_put (cs := #[.string ((rd_T44 l0 x23_2).f0), .int .u64 ((rd_T44 l0 x23_2).f1.f0), .int .u64 0]) ?_ 2 _ rfl; (with_reducible repeat (first | refine blk_drewN ?_ _ | refine blk_drew ?_ | refine blk_alloc ?_ _)); refine blk_put (cs := #[.string ((rd_T44 l0 x23_2).f0), .int .u64 0, .int .u64 0]) ?_ 1 _ rfl; (with_reducible repeat (first | refine blk_drewN ?_ _ | refine blk_drew ?_ | refine blk_alloc ?_ _)); refine blk_put (cs := #[.string (⟨#[]⟩ : ByteArray), .int .u64 0, .int .u64 0]) ?_ 0 _ rfl; (with_reducible repeat (first | refine blk_drewN ?_ _ | refine blk_drew ?_ | refine blk_alloc ?_ _)); exact BK682.out) hb); have n2_ := Aside0.mk (below_step (by repeat (first | (with_reducible first | exact HB.out | apply below_alloc | apply pw_below_drewN | apply below_drew1 | refine below_set ?_ GE682.out) | exact HB.out)) hb); clear HO_6; clear BK682; clear HB; have HO_6 := n0_; have BK682 := n1_; have HB := n2_; clear n0_ n1_ n2_; (try clear hb); (try clear hb2); (try clear hk); (try clear hi)) | ((with_reducible refine gate_builtin (b := .append) (xs := #[.tmp 35, .tmp 37]) rfl ?_); at_builtin; refine Kd.R_append Kd.string (w0 := w) w.heap.size rfl (.tmp 35) (.tmp 37) 51 9 (.string ⟨#[]⟩) 16 rfl Tryd.underlying51 info9 rfl (by decide) (by omega) u6 x6_2 t683 [.string t683] (fun _ => True) (fun _ => False) rfl rfl ?aP (fun _ hk => hk.elim) ?aF ?aO ?aB ?aS ?aL ?_; (case aP => exact rfl); (case aB => exact (by repeat (first | (with_reducible first | exact HB.out | apply below_alloc | apply pw_below_drewN | apply below_drew1 | refine below_set ?_ GE682.out) | exact HB.out))); (case aF => exact (fun _ _ => trivial)); (case aO => exact (by (with_reducible repeat (first | apply Kd.R_alloc | apply Kd.R_drewN | apply Kd.R_drew)); exact HO_6.out)); (case aS => exact (below_size (by repeat (first | (with_reducible first | exact HB.out | apply below_alloc | apply pw_below_drewN | apply below_drew1 | refine below_set ?_ GE682.out) | exact HB.out)))); (case aL => have := LMc13.out; omega); intro v686 w17 ho hb hg hat; rw [← Ny685.out] at ho; have n0_ := Aside0.mk (blk_grown (g := gb682) (o := .cells #[.string ((rd_T44 l0 x23_2).f0), .int .u64 ((rd_T44 l0 x23_2).f1.f0), .int .u64 ((rd_T44 l0 x23_2).f1.f1)] 44 (0, 0)) (by (with_reducible repeat (first | refine blk_drewN ?_ _ | refine blk_drew ?_ | refine blk_alloc ?_ _)); exact BK682.out) hg (Kd.R_ne HO_6.out BK682.out (by decide))); have n1_ := Aside0.mk (hb); have n2_ := Aside0.mk (ho); clear BK682; clear HB; clear HO_6; have BK682 := n0_; have HB := n1_; have HO687 := n2_; clear n0_ n1_ n2_; clear ho hb hg hat))
                    go_roundg k2
                    case measure => have := HJ2.out; have := HK2.out; omega
                    case rel => exact ⟨(y685), (wrap64 (x23_2 + 1)), (by first | rfl | (simp; done) | (simp [*]; done)), H', ⟨by have := HJ2.out; have := HK2.out; omega⟩, ⟨by (with_reducible repeat (first | apply Kd.R_alloc | apply Kd.R_drewN | apply Kd.R_drew)); exact HO687.out⟩, ⟨by repeat (first | (with_reducible first | exact HB.out | apply below_alloc | apply pw_below_drewN | apply below_drew1 | refine below_set ?_ GE682.out) | exact HB.out)⟩⟩
                  · rw [if_neg c13] at H
                    exact absurd H (by simp)
                · rw [if_neg c12] at H
                  have c12b0 : (t684 == 0) = false := beq_eq_false_iff_ne.mpr c12
                  have c12b1 : (t684 != 0) = true := bne_iff_ne.mpr c12
                  simp only [Option.some.injEq, Prod.mk.injEq] at H
                  obtain ⟨rfl, rfl⟩ := H
                  have p681 : 0 ≤ (x23_2 : Int) := of_decide_eq_true (by first | (with_reducible assumption) | assumption)
                  have q681 : x23_2 < (l0.length : Int) := of_decide_eq_true (by first | (with_reducible assumption) | assumption)
                  obtain ⟨ad681, e681, hx681_0, hx681_1, hx681_2⟩ := at_T44 HR0.out x23_2 p681 q681
                  cases e681
                  replace hx681_0 := (HB.out.cell (World.block_lt_of_cell? w _ hx681_0)).trans hx681_0
                  replace hx681_1 := (HB.out.cell (World.block_lt_of_cell? w _ hx681_1)).trans hx681_1
                  replace hx681_2 := (HB.out.cell (World.block_lt_of_cell? w _ hx681_2)).trans hx681_2
                  replace p681 := eq_true p681
                  replace q681 := eq_true q681
                  go_wp2_with (first | ((with_reducible refine gate_dst (N := 8) rfl ?_); refine box_event ?hg (N := 8) ?hd (cs := #[.string (⟨#[]⟩ : ByteArray), .int .u64 0, .int .u64 0]) (t := 44) ?hr ?_; (case hd => rfl); (case hg => rfl); (case hr => first | (go_simp; done) | (go_simp; rfl)); intro gb682 hg w18 hbox hb; have n0_ := Aside0.mk (Kd.R_below (by (with_reducible repeat (first | apply Kd.R_alloc | apply Kd.R_drewN | apply Kd.R_drew)); exact HO_6.out) hb); have n1_ := Aside0.mk (below_step (by repeat (first | (with_reducible first | exact HB.out | apply below_alloc | apply pw_below_drewN | apply below_drew1) | exact HB.out)) hb); have n2_ := Aside0.mk (hbox); have n3_ := Aside0.mk ((by rw [hg]; exact (below_size (by repeat (first | (with_reducible first | exact HB.out | apply below_alloc | apply pw_below_drewN | apply below_drew1) | exact HB.out))) : w.heap.size ≤ gb682)); have n4_ := Aside0.mk ((by rw [hg]; exact (below_size (by repeat (first | (with_reducible first | exact HB.out | apply below_alloc | apply pw_below_drewN | apply below_drew1) | exact HB.out))) : w.heap.size ≤ gb682)); clear HO_6; clear HB; have HO_6 := n0_; have HB := n1_; have BK682 := n2_; have GW682 := n3_; have GE682 := n4_; clear n0_ n1_ n2_ n3_ n4_; clear hb hbox hg; have hcz19_0 : w18.cell? ⟨gb682, 0, none⟩ = some (.string (⟨#[]⟩ : ByteArray)) := (blk_cell BK682.out 0).trans rfl; have hcz19_1 : w18.cell? ⟨gb682, 1, none⟩ = some (.int .u64 0) := (blk_cell BK682.out 1).trans rfl; have hcz19_2 : w18.cell? ⟨gb682, 2, none⟩ = some (.int .u64 0) := (blk_cell BK682.out 2).trans rfl; have hfz19_0 := blk_frozen BK682.out 0; have hfz19_1 := blk_frozen BK682.out 1; have hfz19_2 := blk_frozen BK682.out 2) | ((with_reducible refine gate_callee (f := 48) rfl ?_); refine goesL_ (some 29) rfl rfl Tryd.func48 (by kernel_rfl) rfl #[.agg #[.string ((rd_T44 l0 x23_2).f0), .int .u64 ((rd_T44 l0 x23_2).f1.f0), .int .u64 ((rd_T44 l0 x23_2).f1.f1)]] rfl (by (try simp only [List.map_toArray, List.map_cons, List.map_nil]); first | done | rfl | (simp only [List.length_drop, List.length_take]; rfl)) ?_; (with_reducible refine (row_Text.calls ((rd_T44 l0 x23_2).f0) ((rd_T44 l0 x23_2).f1.f0) ((rd_T44 l0 x23_2).f1.f1) t683 t684 _ ?side1 A11.out).mono ?_); (case side1 => exact gt_below hG (by repeat (first | (with_reducible first | exact HB.out | apply below_alloc | apply pw_below_drewN | apply below_drew1 | refine below_set ?_ GE682.out) | exact HB.out))); rintro e w20 ⟨rfl, hb⟩; refine ⟨_, rfl, ?_⟩; have n0_ := Aside0.mk (Kd.R_below (by (with_reducible repeat (first | apply Kd.R_alloc | apply Kd.R_drewN | apply Kd.R_drew)); exact (Kd.R_mono (Kd.R_far (p := ⟨gb682, 2, none⟩) (Kd.R_far (p := ⟨gb682, 1, none⟩) (Kd.R_far (p := ⟨gb682, 0, none⟩) (Kd.R_types HO_6.out BK682.out (by decide)) (fun _ hk => hk.2) (.string ((rd_T44 l0 x23_2).f0))) (fun _ hk => hk.2) (.int .u64 ((rd_T44 l0 x23_2).f1.f0))) (fun _ hk => hk.2) (.int .u64 ((rd_T44 l0 x23_2).f1.f1))) (fun _ h_ => h_.1))) hb); have n1_ := Aside0.mk (blk_below (g := gb682) (o := .cells #[.string ((rd_T44 l0 x23_2).f0), .int .u64 ((rd_T44 l0 x23_2).f1.f0), .int .u64 ((rd_T44 l0 x23_2).f1.f1)] 44 (0, 0)) (by (with_reducible repeat (first | refine blk_drewN ?_ _ | refine blk_drew ?_ | refine blk_alloc ?_ _)); refine blk_put (cs := #[.string ((rd_T44 l0 x23_2).f0), .int .u64 ((rd_T44 l0 x23_2).f1.f0), .int .u64 0]) ?_ 2 _ rfl; (with_reducible repeat (first | refine blk_drewN ?_ _ | refine blk_drew ?_ | refine blk_alloc ?_ _)); refine blk_put (cs := #[.string ((rd_T44 l0 x23_2).f0), .int .u64 0, .int .u64 0]) ?_ 1 _ rfl; (with_reducible repeat (first | refine blk_drewN ?_ _ | refine blk_drew ?_ | refine blk_alloc ?_ _)); refine blk_put (cs := #[.string (⟨#[]⟩ : ByteArray), .int .u64 0, .int .u64 0]) ?_ 0 _ rfl; (with_reducible repeat (first | refine blk_drewN ?_ _ | refine blk_drew ?_ | refine blk_alloc ?_ _)); exact BK682.out) hb); have n2_ := Aside0.mk (below_step (by repeat (first | (with_reducible first | exact HB.out | apply below_alloc | apply pw_below_drewN | apply below_drew1 | refine below_set ?_ GE682.out) | exact HB.out)) hb); clear HO_6; clear BK682; clear HB; have HO_6 := n0_; have BK682 := n1_; have HB := n2_; clear n0_ n1_ n2_; (try clear hb); (try clear hb2); (try clear hk); (try clear hi)))
                  go_ret2
                  exact ⟨by first | rfl | (simp [errW_none, errW_some] <;> rfl) | (simp [*, errW_none, errW_some] <;> rfl), by repeat (first | (with_reducible first | exact HB.out | apply below_alloc | apply pw_below_drewN | apply below_drew1 | refine below_set ?_ GE682.out) | exact HB.out)⟩
              · rw [if_neg c10] at H
                exact absurd H (by simp)
            · rw [if_neg c9] at H
              exact absurd H (by simp)
          · rw [if_neg c8] at H
            have c8b0 : decide (x23_2 < (l0.length : Int)) = false := decide_eq_false c8
            clear c8
            by_cases c21 : 2 + a1.size ≤ 9223372036854775807
            · rw [if_pos c21] at H
              have c21b0 := eq_true c21
              have c21b1 : decide (2 + a1.size ≤ 9223372036854775807) = true := decide_eq_true c21
              try have c21b2 : (9223372036854775807 < 2 + a1.size) = False := eq_false (Nat.not_lt.2 c21)
              replace H := Option.bind_eq_some_iff.mp H
              obtain ⟨t688, A220, H⟩ := H
              replace H : (if (t688.length : Int) > 1 then (some ((⟨#[]⟩ : ByteArray), 91)) else (if 0 < (t688.length : Int) then (if ((rd_T56 t688 0).f3) = 0 then (if x6_2.length < 8796093022208 then ((lines_Join.f (x6_2 ++ [(⟨#[]⟩ : ByteArray)])).bind fun bt695 => (some (bt695.1, 0))) else (none)) else (some ((⟨#[]⟩ : ByteArray), 91))) else (none))) = some (r1, r2) := H
              have A22 := Aside0.mk A220
              clear A220
              by_cases c23 : (t688.length : Int) > 1
              · rw [if_pos c23] at H
                have c23b0 : decide (1 < (t688.length : Int)) = true := decide_eq_true c23
                have c23b1 : decide (1 < t688.length) = true := decide_eq_true (by omega)
                clear c23
                simp only [Option.some.injEq, Prod.mk.injEq] at H
                obtain ⟨rfl, rfl⟩ := H
                go_wp2_with (first | ((with_reducible refine gate_callee (f := 34) rfl ?_); refine goesL_ (some 42) rfl rfl Tryd.func34 (by kernel_rfl) rfl #[.string ((⟨#[35, 32]⟩ : ByteArray) ++ a1)] rfl (by (try simp only [List.map_toArray, List.map_cons, List.map_nil]); first | done | rfl | (simp only [List.length_drop, List.length_take]; rfl)) ?_; (with_reducible refine (lines_All.calls ((⟨#[35, 32]⟩ : ByteArray) ++ a1) t688 _ ?side1 A22.out).mono ?_); (case side1 => exact gt_below hG (by repeat (first | (with_reducible first | exact HB.out | apply below_alloc | apply pw_below_drewN | apply below_drew1) | exact HB.out))); rintro e w24 ⟨v689, rfl, ho0, hb⟩; refine ⟨_, rfl, ?_⟩; have n0_ := Aside0.mk (Kd.R_below (by (with_reducible repeat (first | apply Kd.R_alloc | apply Kd.R_drewN | apply Kd.R_drew)); exact HO_6.out) hb); have n1_ := Aside0.mk (Kd.R_lower ho0 (below_size (by repeat (first | (with_reducible first | exact HB.out | apply below_alloc | apply pw_below_drewN | apply below_drew1) | exact HB.out)))); have n2_ := Aside0.mk (below_step (by repeat (first | (with_reducible first | exact HB.out | apply below_alloc | apply pw_below_drewN | apply below_drew1) | exact HB.out)) hb); clear HO_6; clear HB; have HO_6 := n0_; have HO690 := n1_; have HB := n2_; clear n0_ n1_ n2_; (try clear hb); (try clear hb2); (try clear hk); (try clear hi); (try clear ho0); obtain ⟨Ao25, co25, eo25⟩ := Kd.R_slice HO690.out; subst eo25))
                go_ret2
                exact ⟨by first | rfl | (simp [errW_none, errW_some] <;> rfl) | (simp [*, errW_none, errW_some] <;> rfl), by repeat (first | (with_reducible first | exact HB.out | apply below_alloc | apply pw_below_drewN | apply below_drew1) | exact HB.out)⟩
              · rw [if_neg c23] at H
                have c23b0 : decide (1 < (t688.length : Int)) = false := decide_eq_false c23
                have c23b1 : decide (1 < t688.length) = false := decide_eq_false (by omega)
                clear c23
                by_cases c26 : 0 < (t688.length : Int)
                · rw [if_pos c26] at H
                  have c26b0 : decide (0 < (t688.length : Int)) = true := decide_eq_true c26
                  have c26b1 : decide (0 < t688.length) = true := decide_eq_true (by omega)
                  clear c26
                  by_cases c27 : ((rd_T56 t688 0).f3) = 0
                  · rw [if_pos c27] at H
                    have c27b0 : (((rd_T56 t688 0).f3) == 0) = true := beq_iff_eq.mpr c27
                    have c27b1 : (((rd_T56 t688 0).f3) != 0) = false := bne_eq_false_iff_eq.mpr c27
                    clear c27
                    by_cases c28 : x6_2.length < 8796093022208
                    · rw [if_pos c28] at H
                      have LMc28 := Aside0.mk c28
                      clear c28
                      obtain ⟨y692, hy692⟩ : ∃ y_ : List ByteArray, y_ = (x6_2 ++ [(⟨#[]⟩ : ByteArray)]) := ⟨_, rfl⟩
                      replace H : ((lines_Join.f y692).bind fun bt695 => (some (bt695.1, 0))) = some (r1, r2) := by first | (rw [hy692]; with_reducible exact H) | (have H2_ := (Option.bind_some _ _).symm.trans H; rw [hy692]; with_reducible exact H2_) | (have H2_ := (Option.bind_some _ _).symm.trans H; with_reducible exact H2_) | with_reducible exact H | (rw [hy692]; exact H) | exact H
                      have Ny692 := Aside0.mk hy692
                      clear hy692
                      replace H := Option.bind_eq_some_iff.mp H
                      obtain ⟨⟨t695, t696⟩, A290, H⟩ := H
                      replace H : (some (t695, 0)) = some (r1, r2) := H
                      have A29 := Aside0.mk A290
                      clear A290
                      simp only [Option.some.injEq, Prod.mk.injEq] at H
                      obtain ⟨rfl, rfl⟩ := H
                      go_wp2_with (first | ((with_reducible refine gate_callee (f := 34) rfl ?_); refine goesL_ (some 42) rfl rfl Tryd.func34 (by kernel_rfl) rfl #[.string ((⟨#[35, 32]⟩ : ByteArray) ++ a1)] rfl (by (try simp only [List.map_toArray, List.map_cons, List.map_nil]); first | done | rfl | (simp only [List.length_drop, List.length_take]; rfl)) ?_; (with_reducible refine (lines_All.calls ((⟨#[35, 32]⟩ : ByteArray) ++ a1) t688 _ ?side1 A22.out).mono ?_); (case side1 => exact gt_below hG (by repeat (first | (with_reducible first | exact HB.out | apply below_alloc | apply pw_below_drewN | apply below_drew1) | exact HB.out))); rintro e w30 ⟨v689, rfl, ho0, hb⟩; refine ⟨_, rfl, ?_⟩; have n0_ := Aside0.mk (Kd.R_below (by (with_reducible repeat (first | apply Kd.R_alloc | apply Kd.R_drewN | apply Kd.R_drew)); exact HO_6.out) hb); have n1_ := Aside0.mk (Kd.R_lower ho0 (below_size (by repeat (first | (with_reducible first | exact HB.out | apply below_alloc | apply pw_below_drewN | apply below_drew1) | exact HB.out)))); have n2_ := Aside0.mk (below_step (by repeat (first | (with_reducible first | exact HB.out | apply below_alloc | apply pw_below_drewN | apply below_drew1) | exact HB.out)) hb); clear HO_6; clear HB; have HO_6 := n0_; have HO690 := n1_; have HB := n2_; clear n0_ n1_ n2_; (try clear hb); (try clear hb2); (try clear hk); (try clear hi); (try clear ho0); obtain ⟨Ao31, co31, eo31⟩ := Kd.R_slice HO690.out; subst eo31; have p691 : 0 ≤ (0 : Int) := (by omega); have q691 : 0 < (t688.length : Int) := of_decide_eq_true (by first | (with_reducible assumption) | assumption); obtain ⟨ad691, e691, hx691_0, hx691_1, hx691_2, hx691_3⟩ := at_T56 (Kd.R_reads' HO690.out).2.2 0 p691 q691; cases e691; have qi691 : (0 < t688.length) = True := eq_true (by omega); (try rw [show ((0 : Int)).toNat = 0 from rfl] at hx691_0); (try rw [show 0 * 4 = 0 from rfl] at hx691_0); (try rw [Addr.add_zero'] at hx691_0); (try rw [show ((0 : Int)).toNat = 0 from rfl] at hx691_1); (try rw [show 0 * 4 = 0 from rfl] at hx691_1); (try rw [Addr.add_zero'] at hx691_1); (try rw [show ((0 : Int)).toNat = 0 from rfl] at hx691_2); (try rw [show 0 * 4 = 0 from rfl] at hx691_2); (try rw [Addr.add_zero'] at hx691_2); (try rw [show ((0 : Int)).toNat = 0 from rfl] at hx691_3); (try rw [show 0 * 4 = 0 from rfl] at hx691_3); (try rw [Addr.add_zero'] at hx691_3); replace p691 := eq_true p691; replace q691 := eq_true q691) | ((with_reducible refine gate_builtin (b := .append) (xs := #[.tmp 54, .tmp 55]) rfl ?_); at_builtin; refine Kd.R_append Kd.string (w0 := w) w.heap.size rfl (.tmp 54) (.tmp 55) 51 9 (.string ⟨#[]⟩) 16 rfl Tryd.underlying51 info9 rfl (by decide) (by omega) u6 x6_2 (⟨#[]⟩ : ByteArray) [.string (⟨#[]⟩ : ByteArray)] (fun _ => True) (fun _ => False) rfl rfl ?aP (fun _ hk => hk.elim) ?aF ?aO ?aB ?aS ?aL ?_; (case aP => exact rfl); (case aB => exact (by repeat (first | (with_reducible first | exact HB.out | apply below_alloc | apply pw_below_drewN | apply below_drew1) | exact HB.out))); (case aF => exact (fun _ _ => trivial)); (case aO => exact (by (with_reducible repeat (first | apply Kd.R_alloc | apply Kd.R_drewN | apply Kd.R_drew)); exact HO_6.out)); (case aS => exact (below_size (by repeat (first | (with_reducible first | exact HB.out | apply below_alloc | apply pw_below_drewN | apply below_drew1) | exact HB.out)))); (case aL => have := LMc28.out; omega); intro v693 w32 ho hb hg hat; rw [← Ny692.out] at ho; have n0_ := Aside0.mk (Kd.R_over' (by (with_reducible repeat (first | apply Kd.R_alloc | apply Kd.R_drewN | apply Kd.R_drew)); exact HO690.out) (Kd.R_typed (by (with_reducible repeat (first | apply Kd.R_alloc | apply Kd.R_drewN | apply Kd.R_drew)); exact HO_6.out)) (by decide) hg); have n1_ := Aside0.mk (hb); have n2_ := Aside0.mk (ho); clear HO690; clear HB; clear HO_6; have HO690 := n0_; have HB := n1_; have HO694 := n2_; clear n0_ n1_ n2_; clear ho hb hg hat; obtain ⟨Ao33, co33, eo33⟩ := Kd.R_slice HO694.out; subst eo33) | ((with_reducible refine gate_callee (f := 42) rfl ?_); refine goesL_ (some 57) rfl rfl Tryd.func42 (by kernel_rfl) rfl #[.slice Ao33 y692.length co33] rfl (by (try simp only [List.map_toArray, List.map_cons, List.map_nil]); first | done | rfl | (simp only [List.length_drop, List.length_take]; rfl)) ?_; (with_reducible refine (lines_Join.calls _ _ y692 t695 t696 _ ?side1 ?side2 A29.out).mono ?_); (case side1 => repeat (first | exact (Kd.R_reads' HO694.out).2.2 | (with_reducible refine Kd.C_alloc ?_ _) | (with_reducible refine Kd.C_drewN ?_ _) | (with_reducible refine Kd.C_drew ?_))); (case side2 => exact (Kd.R_reads' HO694.out).2.1); rintro e w34 ⟨rfl, hb⟩; refine ⟨_, rfl, ?_⟩; have n0_ := Aside0.mk (Kd.R_below (by (with_reducible repeat (first | apply Kd.R_alloc | apply Kd.R_drewN | apply Kd.R_drew)); exact HO690.out) hb); have n1_ := Aside0.mk (Kd.R_below (by (with_reducible repeat (first | apply Kd.R_alloc | apply Kd.R_drewN | apply Kd.R_drew)); exact HO694.out) hb); have n2_ := Aside0.mk (below_step (by repeat (first | (with_reducible first | exact HB.out | apply below_alloc | apply pw_below_drewN | apply below_drew1) | exact HB.out)) hb); clear HO690; clear HO694; clear HB; have HO690 := n0_; have HO694 := n1_; have HB := n2_; clear n0_ n1_ n2_; (try clear hb); (try clear hb2); (try clear hk); (try clear hi)))
                      go_ret2
                      exact ⟨by first | rfl | (simp [errW_none, errW_some] <;> rfl) | (simp [*, errW_none, errW_some] <;> rfl), by repeat (first | (with_reducible first | exact HB.out | apply below_alloc | apply pw_below_drewN | apply below_drew1) | exact HB.out)⟩
                    · rw [if_neg c28] at H
                      exact absurd H (by simp)
                  · rw [if_neg c27] at H
                    have c27b0 : (((rd_T56 t688 0).f3) == 0) = false := beq_eq_false_iff_ne.mpr c27
                    have c27b1 : (((rd_T56 t688 0).f3) != 0) = true := bne_iff_ne.mpr c27
                    simp only [Option.some.injEq, Prod.mk.injEq] at H
                    obtain ⟨rfl, rfl⟩ := H
                    go_wp2_with (first | ((with_reducible refine gate_callee (f := 34) rfl ?_); refine goesL_ (some 42) rfl rfl Tryd.func34 (by kernel_rfl) rfl #[.string ((⟨#[35, 32]⟩ : ByteArray) ++ a1)] rfl (by (try simp only [List.map_toArray, List.map_cons, List.map_nil]); first | done | rfl | (simp only [List.length_drop, List.length_take]; rfl)) ?_; (with_reducible refine (lines_All.calls ((⟨#[35, 32]⟩ : ByteArray) ++ a1) t688 _ ?side1 A22.out).mono ?_); (case side1 => exact gt_below hG (by repeat (first | (with_reducible first | exact HB.out | apply below_alloc | apply pw_below_drewN | apply below_drew1) | exact HB.out))); rintro e w35 ⟨v689, rfl, ho0, hb⟩; refine ⟨_, rfl, ?_⟩; have n0_ := Aside0.mk (Kd.R_below (by (with_reducible repeat (first | apply Kd.R_alloc | apply Kd.R_drewN | apply Kd.R_drew)); exact HO_6.out) hb); have n1_ := Aside0.mk (Kd.R_lower ho0 (below_size (by repeat (first | (with_reducible first | exact HB.out | apply below_alloc | apply pw_below_drewN | apply below_drew1) | exact HB.out)))); have n2_ := Aside0.mk (below_step (by repeat (first | (with_reducible first | exact HB.out | apply below_alloc | apply pw_below_drewN | apply below_drew1) | exact HB.out)) hb); clear HO_6; clear HB; have HO_6 := n0_; have HO690 := n1_; have HB := n2_; clear n0_ n1_ n2_; (try clear hb); (try clear hb2); (try clear hk); (try clear hi); (try clear ho0); obtain ⟨Ao36, co36, eo36⟩ := Kd.R_slice HO690.out; subst eo36; have p691 : 0 ≤ (0 : Int) := (by omega); have q691 : 0 < (t688.length : Int) := of_decide_eq_true (by first | (with_reducible assumption) | assumption); obtain ⟨ad691, e691, hx691_0, hx691_1, hx691_2, hx691_3⟩ := at_T56 (Kd.R_reads' HO690.out).2.2 0 p691 q691; cases e691; have qi691 : (0 < t688.length) = True := eq_true (by omega); (try rw [show ((0 : Int)).toNat = 0 from rfl] at hx691_0); (try rw [show 0 * 4 = 0 from rfl] at hx691_0); (try rw [Addr.add_zero'] at hx691_0); (try rw [show ((0 : Int)).toNat = 0 from rfl] at hx691_1); (try rw [show 0 * 4 = 0 from rfl] at hx691_1); (try rw [Addr.add_zero'] at hx691_1); (try rw [show ((0 : Int)).toNat = 0 from rfl] at hx691_2); (try rw [show 0 * 4 = 0 from rfl] at hx691_2); (try rw [Addr.add_zero'] at hx691_2); (try rw [show ((0 : Int)).toNat = 0 from rfl] at hx691_3); (try rw [show 0 * 4 = 0 from rfl] at hx691_3); (try rw [Addr.add_zero'] at hx691_3); replace p691 := eq_true p691; replace q691 := eq_true q691))
                    go_ret2
                    exact ⟨by first | rfl | (simp [errW_none, errW_some] <;> rfl) | (simp [*, errW_none, errW_some] <;> rfl), by repeat (first | (with_reducible first | exact HB.out | apply below_alloc | apply pw_below_drewN | apply below_drew1) | exact HB.out)⟩
                · rw [if_neg c26] at H
                  exact absurd H (by simp)
            · rw [if_neg c21] at H
              exact absurd H (by simp)
def paymasterlaw10_refused.f (a0 : ByteArray) (a1 : Int) : Option (Bool) := (row_Parse.f a0).bind fun bt697 => (if bt697.2.2.2 = a1 then (some (bt697.1.toList == ([] : List UInt8) && ((bt697.2.1 == 0 && (bt697.2.2.1 == 0))))) else (none))
set_option maxHeartbeats 8000000 in
set_option maxRecDepth 100000 in
theorem paymasterlaw10_refused.calls (a0 : ByteArray) (a1 : Int) (r : Bool) (w : World) (hG : GT w) (h : paymasterlaw10_refused.f a0 a1 = some r) :
    Calls Tryd.prog 63 #[.string a0, .int .i64 a1] w fun e w' => e = .returned (.bool r) ∧ Below w.heap.size w w' := by
  have hu44 := Tryd.underlying44
  have HB := Aside0.mk (Below.refl w.heap.size w)
  have H : ((row_Parse.f a0).bind fun bt697 => (if bt697.2.2.2 = a1 then (some (bt697.1.toList == ([] : List UInt8) && ((bt697.2.1 == 0 && (bt697.2.2.1 == 0))))) else (none))) = some r := h
  clear h
  replace H := Option.bind_eq_some_iff.mp H
  obtain ⟨⟨t697, t698, t699, t700⟩, A30, H⟩ := H
  replace H : (if t700 = a1 then (some (t697.toList == ([] : List UInt8) && ((t698 == 0 && (t699 == 0))))) else (none)) = some r := H
  have A3 := Aside0.mk A30
  clear A30
  by_cases c4 : t700 = a1
  · rw [if_pos c4] at H
    have c4b0 : (t700 == a1) = true := beq_iff_eq.mpr c4
    have c4b1 : (t700 != a1) = false := bne_eq_false_iff_eq.mpr c4
    clear c4
    obtain rfl := Option.some.inj H
    go_enter Tryd.func63, Tryd.ntmps63
    go_wp2_with (first | ((with_reducible refine gate_callee (f := 47) rfl ?_); refine goesL_ (some 9) rfl rfl Tryd.func47 (by kernel_rfl) rfl #[.string a0] rfl (by (try simp only [List.map_toArray, List.map_cons, List.map_nil]); first | done | rfl | (simp only [List.length_drop, List.length_take]; rfl)) ?_; (with_reducible refine (row_Parse.calls a0 t697 t698 t699 t700 _ ?side1 A3.out).mono ?_); (case side1 => exact gt_below hG (by repeat (first | (with_reducible first | exact HB.out | apply below_alloc | apply pw_below_drewN | apply below_drew1) | exact HB.out))); rintro e w5 ⟨rfl, hb⟩; refine ⟨_, rfl, ?_⟩; have n0_ := Aside0.mk (below_step (by repeat (first | (with_reducible first | exact HB.out | apply below_alloc | apply pw_below_drewN | apply below_drew1) | exact HB.out)) hb); clear HB; have HB := n0_; clear n0_; (try clear hb); (try clear hb2); (try clear hk); (try clear hi)) | ((with_reducible refine gate_dst (N := 5) rfl ?_); refine box_event ?hg (N := 5) ?hd (cs := #[.string (⟨#[]⟩ : ByteArray), .int .u64 0, .int .u64 0]) (t := 44) ?hr ?_; (case hd => rfl); (case hg => rfl); (case hr => first | (go_simp; done) | (go_simp; rfl)); intro gb701 hg w6 hbox hb; have n0_ := Aside0.mk (below_step (by repeat (first | (with_reducible first | exact HB.out | apply below_alloc | apply pw_below_drewN | apply below_drew1) | exact HB.out)) hb); have n1_ := Aside0.mk (hbox); have n2_ := Aside0.mk ((by rw [hg]; exact (below_size (by repeat (first | (with_reducible first | exact HB.out | apply below_alloc | apply pw_below_drewN | apply below_drew1) | exact HB.out))) : w.heap.size ≤ gb701)); have n3_ := Aside0.mk ((by rw [hg]; exact (below_size (by repeat (first | (with_reducible first | exact HB.out | apply below_alloc | apply pw_below_drewN | apply below_drew1) | exact HB.out))) : w.heap.size ≤ gb701)); clear HB; have HB := n0_; have BK701 := n1_; have GW701 := n2_; have GE701 := n3_; clear n0_ n1_ n2_ n3_; clear hb hbox hg; have hcz7_0 : w6.cell? ⟨gb701, 0, none⟩ = some (.string (⟨#[]⟩ : ByteArray)) := (blk_cell BK701.out 0).trans rfl; have hcz7_1 : w6.cell? ⟨gb701, 1, none⟩ = some (.int .u64 0) := (blk_cell BK701.out 1).trans rfl; have hcz7_2 : w6.cell? ⟨gb701, 2, none⟩ = some (.int .u64 0) := (blk_cell BK701.out 2).trans rfl; have hfz7_0 := blk_frozen BK701.out 0; have hfz7_1 := blk_frozen BK701.out 1; have hfz7_2 := blk_frozen BK701.out 2))
    go_ret
    exact ⟨by first | rfl | (simp [errW_none, errW_some] <;> rfl) | (simp [*, errW_none, errW_some] <;> rfl), by repeat (first | (with_reducible first | exact HB.out | apply below_alloc | apply pw_below_drewN | apply below_drew1 | refine below_set ?_ GE701.out) | exact HB.out)⟩
  · rw [if_neg c4] at H
    exact absurd H (by simp)
def paymasterlaw10_awake.f (k : Nat)  : Option (Bool) := (row_Parse.f (⟨#[97, 108, 105, 99, 101, 32, 50, 53, 48]⟩ : ByteArray)).bind fun bt702 => ((row_Write.f k (([(⟨(⟨#[98]⟩ : ByteArray), (⟨0, 7⟩ : S42)⟩ : S44)] : List (S44))) (⟨#[120]⟩ : ByteArray)).bind fun bt710 => (if bt702.2.2.2 = 0 then (if (bt702.1.toList == ([97, 108, 105, 99, 101] : List UInt8) && ((bt702.2.1 == 0 && (bt702.2.2.1 == 250)))) = true then ((paymasterlaw10_refused.f (⟨#[97, 108, 105, 99, 101]⟩ : ByteArray) 100).bind fun t712 => (if t712 = true then ((paymasterlaw10_refused.f (⟨#[97, 108, 47, 105, 99, 101, 32, 53]⟩ : ByteArray) 101).bind fun t713 => (if t713 = true then ((paymasterlaw10_refused.f (⟨#[97, 108, 105, 99, 101, 32, 48, 53]⟩ : ByteArray) 102).bind fun t714 => (if t714 = true then ((paymasterlaw10_refused.f (⟨#[97, 108, 105, 99, 101, 32, 32, 53]⟩ : ByteArray) 102).bind fun t715 => (if t715 = true then ((paymasterlaw10_refused.f (⟨#[97, 108, 105, 99, 101, 32, 53, 32]⟩ : ByteArray) 102).bind fun t716 => (if t716 = true then ((paymasterlaw10_refused.f (⟨#[32, 53]⟩ : ByteArray) 101).bind fun t717 => (if t717 = true then (if bt710.2 = 0 then (some (bt710.1.toList == ([35, 32, 120, 10, 98, 32, 55, 10] : List UInt8))) else (none)) else (none))) else (none))) else (none))) else (none))) else (none))) else (none))) else (none)) else (none)))
theorem paymasterlaw10_awake.mono : ∀ k, LeO (paymasterlaw10_awake.f k ) (paymasterlaw10_awake.f (k + 1) ) := by
  intro  k
  unfold paymasterlaw10_awake.f
  repeat' first
      | (with_reducible exact row_Write.mono _ _ _)
      | (with_reducible exact LeO.refl _)
      | (with_reducible exact LeO.none _)
      | (with_reducible refine LeO.ite ?_ ?_)
      | (with_reducible refine LeO.bind ?_ (fun _ => ?_))
      | exact row_Write.mono _ _ _
      | exact LeO.none _
      | refine LeO.ite ?_ ?_
      | refine LeO.bind ?_ (fun _ => ?_)
set_option maxHeartbeats 8000000 in
set_option maxRecDepth 100000 in
theorem paymasterlaw10_awake.calls (k : Nat)  (r : Bool) (w : World) (hG : GT w) (h : paymasterlaw10_awake.f k  = some r) :
    Calls Tryd.prog 25 #[] w fun e w' => e = .returned (.bool r) ∧ Below w.heap.size w w' := by
  have hu44 := Tryd.underlying44
  have hu42 := Tryd.underlying42
  have HB := Aside0.mk (Below.refl w.heap.size w)
  have H : ((row_Parse.f (⟨#[97, 108, 105, 99, 101, 32, 50, 53, 48]⟩ : ByteArray)).bind fun bt702 => ((row_Write.f k (([(⟨(⟨#[98]⟩ : ByteArray), (⟨0, 7⟩ : S42)⟩ : S44)] : List (S44))) (⟨#[120]⟩ : ByteArray)).bind fun bt710 => (if bt702.2.2.2 = 0 then (if (bt702.1.toList == ([97, 108, 105, 99, 101] : List UInt8) && ((bt702.2.1 == 0 && (bt702.2.2.1 == 250)))) = true then ((paymasterlaw10_refused.f (⟨#[97, 108, 105, 99, 101]⟩ : ByteArray) 100).bind fun t712 => (if t712 = true then ((paymasterlaw10_refused.f (⟨#[97, 108, 47, 105, 99, 101, 32, 53]⟩ : ByteArray) 101).bind fun t713 => (if t713 = true then ((paymasterlaw10_refused.f (⟨#[97, 108, 105, 99, 101, 32, 48, 53]⟩ : ByteArray) 102).bind fun t714 => (if t714 = true then ((paymasterlaw10_refused.f (⟨#[97, 108, 105, 99, 101, 32, 32, 53]⟩ : ByteArray) 102).bind fun t715 => (if t715 = true then ((paymasterlaw10_refused.f (⟨#[97, 108, 105, 99, 101, 32, 53, 32]⟩ : ByteArray) 102).bind fun t716 => (if t716 = true then ((paymasterlaw10_refused.f (⟨#[32, 53]⟩ : ByteArray) 101).bind fun t717 => (if t717 = true then (if bt710.2 = 0 then (some (bt710.1.toList == ([35, 32, 120, 10, 98, 32, 55, 10] : List UInt8))) else (none)) else (none))) else (none))) else (none))) else (none))) else (none))) else (none))) else (none)) else (none)))) = some r := h
  clear h
  replace H := Option.bind_eq_some_iff.mp H
  obtain ⟨⟨t702, t703, t704, t705⟩, A10, H⟩ := H
  replace H : ((row_Write.f k (([(⟨(⟨#[98]⟩ : ByteArray), (⟨0, 7⟩ : S42)⟩ : S44)] : List (S44))) (⟨#[120]⟩ : ByteArray)).bind fun bt710 => (if t705 = 0 then (if (t702.toList == ([97, 108, 105, 99, 101] : List UInt8) && ((t703 == 0 && (t704 == 250)))) = true then ((paymasterlaw10_refused.f (⟨#[97, 108, 105, 99, 101]⟩ : ByteArray) 100).bind fun t712 => (if t712 = true then ((paymasterlaw10_refused.f (⟨#[97, 108, 47, 105, 99, 101, 32, 53]⟩ : ByteArray) 101).bind fun t713 => (if t713 = true then ((paymasterlaw10_refused.f (⟨#[97, 108, 105, 99, 101, 32, 48, 53]⟩ : ByteArray) 102).bind fun t714 => (if t714 = true then ((paymasterlaw10_refused.f (⟨#[97, 108, 105, 99, 101, 32, 32, 53]⟩ : ByteArray) 102).bind fun t715 => (if t715 = true then ((paymasterlaw10_refused.f (⟨#[97, 108, 105, 99, 101, 32, 53, 32]⟩ : ByteArray) 102).bind fun t716 => (if t716 = true then ((paymasterlaw10_refused.f (⟨#[32, 53]⟩ : ByteArray) 101).bind fun t717 => (if t717 = true then (if bt710.2 = 0 then (some (bt710.1.toList == ([35, 32, 120, 10, 98, 32, 55, 10] : List UInt8))) else (none)) else (none))) else (none))) else (none))) else (none))) else (none))) else (none))) else (none)) else (none))) = some r := H
  have A1 := Aside0.mk A10
  clear A10
  obtain ⟨y707, hy707⟩ : ∃ y_ : List (S44), y_ = (([(⟨(⟨#[98]⟩ : ByteArray), (⟨0, 7⟩ : S42)⟩ : S44)] : List (S44))) := ⟨_, rfl⟩
  replace H : ((row_Write.f k y707 (⟨#[120]⟩ : ByteArray)).bind fun bt710 => (if t705 = 0 then (if (t702.toList == ([97, 108, 105, 99, 101] : List UInt8) && ((t703 == 0 && (t704 == 250)))) = true then ((paymasterlaw10_refused.f (⟨#[97, 108, 105, 99, 101]⟩ : ByteArray) 100).bind fun t712 => (if t712 = true then ((paymasterlaw10_refused.f (⟨#[97, 108, 47, 105, 99, 101, 32, 53]⟩ : ByteArray) 101).bind fun t713 => (if t713 = true then ((paymasterlaw10_refused.f (⟨#[97, 108, 105, 99, 101, 32, 48, 53]⟩ : ByteArray) 102).bind fun t714 => (if t714 = true then ((paymasterlaw10_refused.f (⟨#[97, 108, 105, 99, 101, 32, 32, 53]⟩ : ByteArray) 102).bind fun t715 => (if t715 = true then ((paymasterlaw10_refused.f (⟨#[97, 108, 105, 99, 101, 32, 53, 32]⟩ : ByteArray) 102).bind fun t716 => (if t716 = true then ((paymasterlaw10_refused.f (⟨#[32, 53]⟩ : ByteArray) 101).bind fun t717 => (if t717 = true then (if bt710.2 = 0 then (some (bt710.1.toList == ([35, 32, 120, 10, 98, 32, 55, 10] : List UInt8))) else (none)) else (none))) else (none))) else (none))) else (none))) else (none))) else (none))) else (none)) else (none))) = some r := by first | (rw [hy707]; with_reducible exact H) | (have H2_ := (Option.bind_some _ _).symm.trans H; rw [hy707]; with_reducible exact H2_) | (have H2_ := (Option.bind_some _ _).symm.trans H; with_reducible exact H2_) | with_reducible exact H | (rw [hy707]; exact H) | exact H
  have Ny707 := Aside0.mk hy707
  clear hy707
  replace H := Option.bind_eq_some_iff.mp H
  obtain ⟨⟨t710, t711⟩, A20, H⟩ := H
  replace H : (if t705 = 0 then (if (t702.toList == ([97, 108, 105, 99, 101] : List UInt8) && ((t703 == 0 && (t704 == 250)))) = true then ((paymasterlaw10_refused.f (⟨#[97, 108, 105, 99, 101]⟩ : ByteArray) 100).bind fun t712 => (if t712 = true then ((paymasterlaw10_refused.f (⟨#[97, 108, 47, 105, 99, 101, 32, 53]⟩ : ByteArray) 101).bind fun t713 => (if t713 = true then ((paymasterlaw10_refused.f (⟨#[97, 108, 105, 99, 101, 32, 48, 53]⟩ : ByteArray) 102).bind fun t714 => (if t714 = true then ((paymasterlaw10_refused.f (⟨#[97, 108, 105, 99, 101, 32, 32, 53]⟩ : ByteArray) 102).bind fun t715 => (if t715 = true then ((paymasterlaw10_refused.f (⟨#[97, 108, 105, 99, 101, 32, 53, 32]⟩ : ByteArray) 102).bind fun t716 => (if t716 = true then ((paymasterlaw10_refused.f (⟨#[32, 53]⟩ : ByteArray) 101).bind fun t717 => (if t717 = true then (if t711 = 0 then (some (t710.toList == ([35, 32, 120, 10, 98, 32, 55, 10] : List UInt8))) else (none)) else (none))) else (none))) else (none))) else (none))) else (none))) else (none))) else (none)) else (none)) = some r := H
  have A2 := Aside0.mk A20
  clear A20
  by_cases c3 : t705 = 0
  · rw [if_pos c3] at H
    have c3b0 : (t705 == 0) = true := beq_iff_eq.mpr c3
    have c3b1 : (t705 != 0) = false := bne_eq_false_iff_eq.mpr c3
    clear c3
    by_cases c4 : (t702.toList == ([97, 108, 105, 99, 101] : List UInt8) && ((t703 == 0 && (t704 == 250)))) = true
    · rw [if_pos c4] at H
      have c4b0 : (t702.toList == ([97, 108, 105, 99, 101] : List UInt8) && ((t703 == 0 && (t704 == 250)))) = true := c4
      (try (have c4b1 : decide (t702.toList = ([97, 108, 105, 99, 101] : List UInt8) && ((t703 == 0 && (t704 == 250)))) = true := by simpa using c4))
      (try (have c4b2 : (t702.toList == ([97, 108, 105, 99, 101] : List UInt8) && ((t703 == 0 && (t704 == 250)))) = true := by simpa using c4))
      clear c4
      replace H := Option.bind_eq_some_iff.mp H
      obtain ⟨t712, A50, H⟩ := H
      replace H : (if t712 = true then ((paymasterlaw10_refused.f (⟨#[97, 108, 47, 105, 99, 101, 32, 53]⟩ : ByteArray) 101).bind fun t713 => (if t713 = true then ((paymasterlaw10_refused.f (⟨#[97, 108, 105, 99, 101, 32, 48, 53]⟩ : ByteArray) 102).bind fun t714 => (if t714 = true then ((paymasterlaw10_refused.f (⟨#[97, 108, 105, 99, 101, 32, 32, 53]⟩ : ByteArray) 102).bind fun t715 => (if t715 = true then ((paymasterlaw10_refused.f (⟨#[97, 108, 105, 99, 101, 32, 53, 32]⟩ : ByteArray) 102).bind fun t716 => (if t716 = true then ((paymasterlaw10_refused.f (⟨#[32, 53]⟩ : ByteArray) 101).bind fun t717 => (if t717 = true then (if t711 = 0 then (some (t710.toList == ([35, 32, 120, 10, 98, 32, 55, 10] : List UInt8))) else (none)) else (none))) else (none))) else (none))) else (none))) else (none))) else (none)) = some r := H
      have A5 := Aside0.mk A50
      clear A50
      by_cases c6 : t712 = true
      · subst c6
        have H1 : ((paymasterlaw10_refused.f (⟨#[97, 108, 47, 105, 99, 101, 32, 53]⟩ : ByteArray) 101).bind fun t713 => (if t713 = true then ((paymasterlaw10_refused.f (⟨#[97, 108, 105, 99, 101, 32, 48, 53]⟩ : ByteArray) 102).bind fun t714 => (if t714 = true then ((paymasterlaw10_refused.f (⟨#[97, 108, 105, 99, 101, 32, 32, 53]⟩ : ByteArray) 102).bind fun t715 => (if t715 = true then ((paymasterlaw10_refused.f (⟨#[97, 108, 105, 99, 101, 32, 53, 32]⟩ : ByteArray) 102).bind fun t716 => (if t716 = true then ((paymasterlaw10_refused.f (⟨#[32, 53]⟩ : ByteArray) 101).bind fun t717 => (if t717 = true then (if t711 = 0 then (some (t710.toList == ([35, 32, 120, 10, 98, 32, 55, 10] : List UInt8))) else (none)) else (none))) else (none))) else (none))) else (none))) else (none))) = some r := by rw [if_pos rfl] at H; exact H
        clear H
        have H := H1
        clear H1
        replace H := Option.bind_eq_some_iff.mp H
        obtain ⟨t713, A70, H⟩ := H
        replace H : (if t713 = true then ((paymasterlaw10_refused.f (⟨#[97, 108, 105, 99, 101, 32, 48, 53]⟩ : ByteArray) 102).bind fun t714 => (if t714 = true then ((paymasterlaw10_refused.f (⟨#[97, 108, 105, 99, 101, 32, 32, 53]⟩ : ByteArray) 102).bind fun t715 => (if t715 = true then ((paymasterlaw10_refused.f (⟨#[97, 108, 105, 99, 101, 32, 53, 32]⟩ : ByteArray) 102).bind fun t716 => (if t716 = true then ((paymasterlaw10_refused.f (⟨#[32, 53]⟩ : ByteArray) 101).bind fun t717 => (if t717 = true then (if t711 = 0 then (some (t710.toList == ([35, 32, 120, 10, 98, 32, 55, 10] : List UInt8))) else (none)) else (none))) else (none))) else (none))) else (none))) else (none)) = some r := H
        have A7 := Aside0.mk A70
        clear A70
        by_cases c8 : t713 = true
        · subst c8
          have H1 : ((paymasterlaw10_refused.f (⟨#[97, 108, 105, 99, 101, 32, 48, 53]⟩ : ByteArray) 102).bind fun t714 => (if t714 = true then ((paymasterlaw10_refused.f (⟨#[97, 108, 105, 99, 101, 32, 32, 53]⟩ : ByteArray) 102).bind fun t715 => (if t715 = true then ((paymasterlaw10_refused.f (⟨#[97, 108, 105, 99, 101, 32, 53, 32]⟩ : ByteArray) 102).bind fun t716 => (if t716 = true then ((paymasterlaw10_refused.f (⟨#[32, 53]⟩ : ByteArray) 101).bind fun t717 => (if t717 = true then (if t711 = 0 then (some (t710.toList == ([35, 32, 120, 10, 98, 32, 55, 10] : List UInt8))) else (none)) else (none))) else (none))) else (none))) else (none))) = some r := by rw [if_pos rfl] at H; exact H
          clear H
          have H := H1
          clear H1
          replace H := Option.bind_eq_some_iff.mp H
          obtain ⟨t714, A90, H⟩ := H
          replace H : (if t714 = true then ((paymasterlaw10_refused.f (⟨#[97, 108, 105, 99, 101, 32, 32, 53]⟩ : ByteArray) 102).bind fun t715 => (if t715 = true then ((paymasterlaw10_refused.f (⟨#[97, 108, 105, 99, 101, 32, 53, 32]⟩ : ByteArray) 102).bind fun t716 => (if t716 = true then ((paymasterlaw10_refused.f (⟨#[32, 53]⟩ : ByteArray) 101).bind fun t717 => (if t717 = true then (if t711 = 0 then (some (t710.toList == ([35, 32, 120, 10, 98, 32, 55, 10] : List UInt8))) else (none)) else (none))) else (none))) else (none))) else (none)) = some r := H
          have A9 := Aside0.mk A90
          clear A90
          by_cases c10 : t714 = true
          · subst c10
            have H1 : ((paymasterlaw10_refused.f (⟨#[97, 108, 105, 99, 101, 32, 32, 53]⟩ : ByteArray) 102).bind fun t715 => (if t715 = true then ((paymasterlaw10_refused.f (⟨#[97, 108, 105, 99, 101, 32, 53, 32]⟩ : ByteArray) 102).bind fun t716 => (if t716 = true then ((paymasterlaw10_refused.f (⟨#[32, 53]⟩ : ByteArray) 101).bind fun t717 => (if t717 = true then (if t711 = 0 then (some (t710.toList == ([35, 32, 120, 10, 98, 32, 55, 10] : List UInt8))) else (none)) else (none))) else (none))) else (none))) = some r := by rw [if_pos rfl] at H; exact H
            clear H
            have H := H1
            clear H1
            replace H := Option.bind_eq_some_iff.mp H
            obtain ⟨t715, A110, H⟩ := H
            replace H : (if t715 = true then ((paymasterlaw10_refused.f (⟨#[97, 108, 105, 99, 101, 32, 53, 32]⟩ : ByteArray) 102).bind fun t716 => (if t716 = true then ((paymasterlaw10_refused.f (⟨#[32, 53]⟩ : ByteArray) 101).bind fun t717 => (if t717 = true then (if t711 = 0 then (some (t710.toList == ([35, 32, 120, 10, 98, 32, 55, 10] : List UInt8))) else (none)) else (none))) else (none))) else (none)) = some r := H
            have A11 := Aside0.mk A110
            clear A110
            by_cases c12 : t715 = true
            · subst c12
              have H1 : ((paymasterlaw10_refused.f (⟨#[97, 108, 105, 99, 101, 32, 53, 32]⟩ : ByteArray) 102).bind fun t716 => (if t716 = true then ((paymasterlaw10_refused.f (⟨#[32, 53]⟩ : ByteArray) 101).bind fun t717 => (if t717 = true then (if t711 = 0 then (some (t710.toList == ([35, 32, 120, 10, 98, 32, 55, 10] : List UInt8))) else (none)) else (none))) else (none))) = some r := by rw [if_pos rfl] at H; exact H
              clear H
              have H := H1
              clear H1
              replace H := Option.bind_eq_some_iff.mp H
              obtain ⟨t716, A130, H⟩ := H
              replace H : (if t716 = true then ((paymasterlaw10_refused.f (⟨#[32, 53]⟩ : ByteArray) 101).bind fun t717 => (if t717 = true then (if t711 = 0 then (some (t710.toList == ([35, 32, 120, 10, 98, 32, 55, 10] : List UInt8))) else (none)) else (none))) else (none)) = some r := H
              have A13 := Aside0.mk A130
              clear A130
              by_cases c14 : t716 = true
              · subst c14
                have H1 : ((paymasterlaw10_refused.f (⟨#[32, 53]⟩ : ByteArray) 101).bind fun t717 => (if t717 = true then (if t711 = 0 then (some (t710.toList == ([35, 32, 120, 10, 98, 32, 55, 10] : List UInt8))) else (none)) else (none))) = some r := by rw [if_pos rfl] at H; exact H
                clear H
                have H := H1
                clear H1
                replace H := Option.bind_eq_some_iff.mp H
                obtain ⟨t717, A150, H⟩ := H
                replace H : (if t717 = true then (if t711 = 0 then (some (t710.toList == ([35, 32, 120, 10, 98, 32, 55, 10] : List UInt8))) else (none)) else (none)) = some r := H
                have A15 := Aside0.mk A150
                clear A150
                by_cases c16 : t717 = true
                · subst c16
                  have H1 : (if t711 = 0 then (some (t710.toList == ([35, 32, 120, 10, 98, 32, 55, 10] : List UInt8))) else (none)) = some r := by rw [if_pos rfl] at H; exact H
                  clear H
                  have H := H1
                  clear H1
                  by_cases c17 : t711 = 0
                  · rw [if_pos c17] at H
                    have c17b0 : (t711 == 0) = true := beq_iff_eq.mpr c17
                    have c17b1 : (t711 != 0) = false := bne_eq_false_iff_eq.mpr c17
                    clear c17
                    obtain rfl := Option.some.inj H
                    go_enter Tryd.func25, Tryd.ntmps25
                    go_wp2_with (first | ((with_reducible refine gate_callee (f := 47) rfl ?_); refine goesL_ (some 6) rfl rfl Tryd.func47 (by kernel_rfl) rfl #[.string (⟨#[97, 108, 105, 99, 101, 32, 50, 53, 48]⟩ : ByteArray)] rfl (by (try simp only [List.map_toArray, List.map_cons, List.map_nil]); first | done | rfl | (simp only [List.length_drop, List.length_take]; rfl)) ?_; (with_reducible refine (row_Parse.calls (⟨#[97, 108, 105, 99, 101, 32, 50, 53, 48]⟩ : ByteArray) t702 t703 t704 t705 _ ?side1 A1.out).mono ?_); (case side1 => exact gt_below hG (by repeat (first | (with_reducible first | exact HB.out | apply below_alloc | apply pw_below_drewN | apply below_drew1) | exact HB.out))); rintro e w18 ⟨rfl, hb⟩; refine ⟨_, rfl, ?_⟩; have n0_ := Aside0.mk (below_step (by repeat (first | (with_reducible first | exact HB.out | apply below_alloc | apply pw_below_drewN | apply below_drew1) | exact HB.out)) hb); clear HB; have HB := n0_; clear n0_; (try clear hb); (try clear hb2); (try clear hk); (try clear hi)) | ((with_reducible refine gate_dst (N := 1) rfl ?_); refine box_event ?hg (N := 1) ?hd (cs := #[.string (⟨#[]⟩ : ByteArray), .int .u64 0, .int .u64 0]) (t := 44) ?hr ?_; (case hd => rfl); (case hg => rfl); (case hr => first | (go_simp; done) | (go_simp; rfl)); intro gb706 hg w19 hbox hb; have n0_ := Aside0.mk (below_step (by repeat (first | (with_reducible first | exact HB.out | apply below_alloc | apply pw_below_drewN | apply below_drew1) | exact HB.out)) hb); have n1_ := Aside0.mk (hbox); have n2_ := Aside0.mk ((by rw [hg]; exact (below_size (by repeat (first | (with_reducible first | exact HB.out | apply below_alloc | apply pw_below_drewN | apply below_drew1) | exact HB.out))) : w.heap.size ≤ gb706)); have n3_ := Aside0.mk ((by rw [hg]; exact (below_size (by repeat (first | (with_reducible first | exact HB.out | apply below_alloc | apply pw_below_drewN | apply below_drew1) | exact HB.out))) : w.heap.size ≤ gb706)); clear HB; have HB := n0_; have BK706 := n1_; have GW706 := n2_; have GE706 := n3_; clear n0_ n1_ n2_ n3_; clear hb hbox hg; have hcz20_0 : w19.cell? ⟨gb706, 0, none⟩ = some (.string (⟨#[]⟩ : ByteArray)) := (blk_cell BK706.out 0).trans rfl; have hcz20_1 : w19.cell? ⟨gb706, 1, none⟩ = some (.int .u64 0) := (blk_cell BK706.out 1).trans rfl; have hcz20_2 : w19.cell? ⟨gb706, 2, none⟩ = some (.int .u64 0) := (blk_cell BK706.out 2).trans rfl; have hfz20_0 := blk_frozen BK706.out 0; have hfz20_1 := blk_frozen BK706.out 1; have hfz20_2 := blk_frozen BK706.out 2) | ((with_reducible refine gate_dst (N := 12) rfl ?_); refine Kd.R_lit k44 _ 44 ?hg (N := 12) ?hd (xs := ([(⟨(⟨#[98]⟩ : ByteArray), (⟨0, 7⟩ : S42)⟩ : S44)] : List (S44))) (inner := [.string (⟨#[98]⟩ : ByteArray), .int .u64 0, .int .u64 7]) (ok := fun _ => True) (okp := fun _ => True) ?hr ?hp (fun _ hk => hk) trivial (Below.refl _ _) (Nat.le_refl _) (by simp) ?_; (case hd => rfl); (case hg => rfl); (case hr => first | (go_simp; done) | (go_simp; rfl)); (case hp => exact (Reps.c3 (show Kd.M k44 _ _ _ (⟨(⟨#[98]⟩ : ByteArray), (⟨0, 7⟩ : S42)⟩ : S44) [.string (⟨#[98]⟩ : ByteArray), .int .u64 0, .int .u64 7] from (k44_mkM _ _ _ (⟨(⟨#[98]⟩ : ByteArray), (⟨0, 7⟩ : S42)⟩ : S44) )) (Reps.none _ _))); intro v708 w21 ho22 hb hg_ hnew_; clear hg_ hnew_; (first | rw [← Ny707.out] at ho22 | (simp only [Int.reduceToNat] at ho22; rw [← Ny707.out] at ho22)); have n0_ := Aside0.mk (Kd.R_lower (Kd.R_newB ho22 (g := gb706) (o := .cells #[.string t702, .int .u64 t703, .int .u64 t704] 44 (0, 0)) (by (with_reducible repeat (first | refine blk_drewN ?_ _ | refine blk_drew ?_ | refine blk_alloc ?_ _)); refine blk_put (cs := #[.string t702, .int .u64 t703, .int .u64 0]) ?_ 2 _ rfl; (with_reducible repeat (first | refine blk_drewN ?_ _ | refine blk_drew ?_ | refine blk_alloc ?_ _)); refine blk_put (cs := #[.string t702, .int .u64 0, .int .u64 0]) ?_ 1 _ rfl; (with_reducible repeat (first | refine blk_drewN ?_ _ | refine blk_drew ?_ | refine blk_alloc ?_ _)); refine blk_put (cs := #[.string (⟨#[]⟩ : ByteArray), .int .u64 0, .int .u64 0]) ?_ 0 _ rfl; (with_reducible repeat (first | refine blk_drewN ?_ _ | refine blk_drew ?_ | refine blk_alloc ?_ _)); exact BK706.out)) (below_size (by repeat (first | (with_reducible first | exact HB.out | apply below_alloc | apply pw_below_drewN | apply below_drew1 | refine below_set ?_ GE706.out) | exact HB.out)))); have n1_ := Aside0.mk (blk_below (g := gb706) (o := .cells #[.string t702, .int .u64 t703, .int .u64 t704] 44 (0, 0)) (by (with_reducible repeat (first | refine blk_drewN ?_ _ | refine blk_drew ?_ | refine blk_alloc ?_ _)); refine blk_put (cs := #[.string t702, .int .u64 t703, .int .u64 0]) ?_ 2 _ rfl; (with_reducible repeat (first | refine blk_drewN ?_ _ | refine blk_drew ?_ | refine blk_alloc ?_ _)); refine blk_put (cs := #[.string t702, .int .u64 0, .int .u64 0]) ?_ 1 _ rfl; (with_reducible repeat (first | refine blk_drewN ?_ _ | refine blk_drew ?_ | refine blk_alloc ?_ _)); refine blk_put (cs := #[.string (⟨#[]⟩ : ByteArray), .int .u64 0, .int .u64 0]) ?_ 0 _ rfl; (with_reducible repeat (first | refine blk_drewN ?_ _ | refine blk_drew ?_ | refine blk_alloc ?_ _)); exact BK706.out) hb); have n2_ := Aside0.mk (below_step (by repeat (first | (with_reducible first | exact HB.out | apply below_alloc | apply pw_below_drewN | apply below_drew1 | refine below_set ?_ GE706.out) | exact HB.out)) hb); clear BK706; clear HB; have HO709 := n0_; have BK706 := n1_; have HB := n2_; clear n0_ n1_ n2_; clear hb ho22; obtain ⟨Ao23, co23, eo23⟩ := Kd.R_slice HO709.out; subst eo23) | ((with_reducible refine gate_callee (f := 52) rfl ?_); refine goesL_ (some 13) rfl rfl Tryd.func52 (by kernel_rfl) rfl #[.slice Ao23 y707.length co23, .string (⟨#[120]⟩ : ByteArray)] rfl (by (try simp only [List.map_toArray, List.map_cons, List.map_nil]); first | done | rfl | (simp only [List.length_drop, List.length_take]; rfl)) ?_; (with_reducible refine (row_Write.calls k _ _ y707 (⟨#[120]⟩ : ByteArray) t710 t711 _ ?side1 ?side2 ?side3 A2.out).mono ?_); (case side1 => repeat (first | exact (Kd.R_reads' HO709.out).2.2 | (with_reducible refine Kd.C_alloc ?_ _) | (with_reducible refine Kd.C_drewN ?_ _) | (with_reducible refine Kd.C_drew ?_))); (case side2 => exact (Kd.R_reads' HO709.out).2.1); (case side3 => exact gt_below hG (by repeat (first | (with_reducible first | exact HB.out | apply below_alloc | apply pw_below_drewN | apply below_drew1 | refine below_set ?_ GE706.out) | exact HB.out))); rintro e w24 ⟨rfl, hb⟩; refine ⟨_, rfl, ?_⟩; have n0_ := Aside0.mk (Kd.R_below (by (with_reducible repeat (first | apply Kd.R_alloc | apply Kd.R_drewN | apply Kd.R_drew)); exact HO709.out) hb); have n1_ := Aside0.mk (blk_below (g := gb706) (o := .cells #[.string t702, .int .u64 t703, .int .u64 t704] 44 (0, 0)) (by (with_reducible repeat (first | refine blk_drewN ?_ _ | refine blk_drew ?_ | refine blk_alloc ?_ _)); exact BK706.out) hb); have n2_ := Aside0.mk (below_step (by repeat (first | (with_reducible first | exact HB.out | apply below_alloc | apply pw_below_drewN | apply below_drew1 | refine below_set ?_ GE706.out) | exact HB.out)) hb); clear HO709; clear BK706; clear HB; have HO709 := n0_; have BK706 := n1_; have HB := n2_; clear n0_ n1_ n2_; (try clear hb); (try clear hb2); (try clear hk); (try clear hi); have hcz25_0 : w24.cell? ⟨gb706, 0, none⟩ = some (.string t702) := (blk_cell BK706.out 0).trans rfl; have hcz25_1 : w24.cell? ⟨gb706, 1, none⟩ = some (.int .u64 t703) := (blk_cell BK706.out 1).trans rfl; have hcz25_2 : w24.cell? ⟨gb706, 2, none⟩ = some (.int .u64 t704) := (blk_cell BK706.out 2).trans rfl; have hfz25_0 := blk_frozen BK706.out 0; have hfz25_1 := blk_frozen BK706.out 1; have hfz25_2 := blk_frozen BK706.out 2) | (go_at_call 63; (with_reducible refine (paymasterlaw10_refused.calls (⟨#[97, 108, 105, 99, 101]⟩ : ByteArray) 100 true _ ?side1 A5.out).mono ?_); (case side1 => exact gt_below hG (by repeat (first | (with_reducible first | exact HB.out | apply below_alloc | apply pw_below_drewN | apply below_drew1 | refine below_set ?_ GE706.out) | exact HB.out))); rintro e w26 ⟨rfl, hb⟩; have n0_ := Aside0.mk (Kd.R_below (by (with_reducible repeat (first | apply Kd.R_alloc | apply Kd.R_drewN | apply Kd.R_drew)); exact HO709.out) hb); have n1_ := Aside0.mk (blk_below (g := gb706) (o := .cells #[.string t702, .int .u64 t703, .int .u64 t704] 44 (0, 0)) (by (with_reducible repeat (first | refine blk_drewN ?_ _ | refine blk_drew ?_ | refine blk_alloc ?_ _)); exact BK706.out) hb); have n2_ := Aside0.mk (below_step (by repeat (first | (with_reducible first | exact HB.out | apply below_alloc | apply pw_below_drewN | apply below_drew1 | refine below_set ?_ GE706.out) | exact HB.out)) hb); clear HO709; clear BK706; clear HB; have HO709 := n0_; have BK706 := n1_; have HB := n2_; clear n0_ n1_ n2_; (try clear hb); (try clear hb2); (try clear hk); (try clear hi)) | (go_at_call 63; (with_reducible refine (paymasterlaw10_refused.calls (⟨#[97, 108, 47, 105, 99, 101, 32, 53]⟩ : ByteArray) 101 true _ ?side1 A7.out).mono ?_); (case side1 => exact gt_below hG (by repeat (first | (with_reducible first | exact HB.out | apply below_alloc | apply pw_below_drewN | apply below_drew1 | refine below_set ?_ GE706.out) | exact HB.out))); rintro e w27 ⟨rfl, hb⟩; have n0_ := Aside0.mk (Kd.R_below (by (with_reducible repeat (first | apply Kd.R_alloc | apply Kd.R_drewN | apply Kd.R_drew)); exact HO709.out) hb); have n1_ := Aside0.mk (blk_below (g := gb706) (o := .cells #[.string t702, .int .u64 t703, .int .u64 t704] 44 (0, 0)) (by (with_reducible repeat (first | refine blk_drewN ?_ _ | refine blk_drew ?_ | refine blk_alloc ?_ _)); exact BK706.out) hb); have n2_ := Aside0.mk (below_step (by repeat (first | (with_reducible first | exact HB.out | apply below_alloc | apply pw_below_drewN | apply below_drew1 | refine below_set ?_ GE706.out) | exact HB.out)) hb); clear HO709; clear BK706; clear HB; have HO709 := n0_; have BK706 := n1_; have HB := n2_; clear n0_ n1_ n2_; (try clear hb); (try clear hb2); (try clear hk); (try clear hi)) | (go_at_call 63; (with_reducible refine (paymasterlaw10_refused.calls (⟨#[97, 108, 105, 99, 101, 32, 48, 53]⟩ : ByteArray) 102 true _ ?side1 A9.out).mono ?_); (case side1 => exact gt_below hG (by repeat (first | (with_reducible first | exact HB.out | apply below_alloc | apply pw_below_drewN | apply below_drew1 | refine below_set ?_ GE706.out) | exact HB.out))); rintro e w28 ⟨rfl, hb⟩; have n0_ := Aside0.mk (Kd.R_below (by (with_reducible repeat (first | apply Kd.R_alloc | apply Kd.R_drewN | apply Kd.R_drew)); exact HO709.out) hb); have n1_ := Aside0.mk (blk_below (g := gb706) (o := .cells #[.string t702, .int .u64 t703, .int .u64 t704] 44 (0, 0)) (by (with_reducible repeat (first | refine blk_drewN ?_ _ | refine blk_drew ?_ | refine blk_alloc ?_ _)); exact BK706.out) hb); have n2_ := Aside0.mk (below_step (by repeat (first | (with_reducible first | exact HB.out | apply below_alloc | apply pw_below_drewN | apply below_drew1 | refine below_set ?_ GE706.out) | exact HB.out)) hb); clear HO709; clear BK706; clear HB; have HO709 := n0_; have BK706 := n1_; have HB := n2_; clear n0_ n1_ n2_; (try clear hb); (try clear hb2); (try clear hk); (try clear hi)) | (go_at_call 63; (with_reducible refine (paymasterlaw10_refused.calls (⟨#[97, 108, 105, 99, 101, 32, 32, 53]⟩ : ByteArray) 102 true _ ?side1 A11.out).mono ?_); (case side1 => exact gt_below hG (by repeat (first | (with_reducible first | exact HB.out | apply below_alloc | apply pw_below_drewN | apply below_drew1 | refine below_set ?_ GE706.out) | exact HB.out))); rintro e w29 ⟨rfl, hb⟩; have n0_ := Aside0.mk (Kd.R_below (by (with_reducible repeat (first | apply Kd.R_alloc | apply Kd.R_drewN | apply Kd.R_drew)); exact HO709.out) hb); have n1_ := Aside0.mk (blk_below (g := gb706) (o := .cells #[.string t702, .int .u64 t703, .int .u64 t704] 44 (0, 0)) (by (with_reducible repeat (first | refine blk_drewN ?_ _ | refine blk_drew ?_ | refine blk_alloc ?_ _)); exact BK706.out) hb); have n2_ := Aside0.mk (below_step (by repeat (first | (with_reducible first | exact HB.out | apply below_alloc | apply pw_below_drewN | apply below_drew1 | refine below_set ?_ GE706.out) | exact HB.out)) hb); clear HO709; clear BK706; clear HB; have HO709 := n0_; have BK706 := n1_; have HB := n2_; clear n0_ n1_ n2_; (try clear hb); (try clear hb2); (try clear hk); (try clear hi)) | (go_at_call 63; (with_reducible refine (paymasterlaw10_refused.calls (⟨#[97, 108, 105, 99, 101, 32, 53, 32]⟩ : ByteArray) 102 true _ ?side1 A13.out).mono ?_); (case side1 => exact gt_below hG (by repeat (first | (with_reducible first | exact HB.out | apply below_alloc | apply pw_below_drewN | apply below_drew1 | refine below_set ?_ GE706.out) | exact HB.out))); rintro e w30 ⟨rfl, hb⟩; have n0_ := Aside0.mk (Kd.R_below (by (with_reducible repeat (first | apply Kd.R_alloc | apply Kd.R_drewN | apply Kd.R_drew)); exact HO709.out) hb); have n1_ := Aside0.mk (blk_below (g := gb706) (o := .cells #[.string t702, .int .u64 t703, .int .u64 t704] 44 (0, 0)) (by (with_reducible repeat (first | refine blk_drewN ?_ _ | refine blk_drew ?_ | refine blk_alloc ?_ _)); exact BK706.out) hb); have n2_ := Aside0.mk (below_step (by repeat (first | (with_reducible first | exact HB.out | apply below_alloc | apply pw_below_drewN | apply below_drew1 | refine below_set ?_ GE706.out) | exact HB.out)) hb); clear HO709; clear BK706; clear HB; have HO709 := n0_; have BK706 := n1_; have HB := n2_; clear n0_ n1_ n2_; (try clear hb); (try clear hb2); (try clear hk); (try clear hi)) | (go_at_call 63; (with_reducible refine (paymasterlaw10_refused.calls (⟨#[32, 53]⟩ : ByteArray) 101 true _ ?side1 A15.out).mono ?_); (case side1 => exact gt_below hG (by repeat (first | (with_reducible first | exact HB.out | apply below_alloc | apply pw_below_drewN | apply below_drew1 | refine below_set ?_ GE706.out) | exact HB.out))); rintro e w31 ⟨rfl, hb⟩; have n0_ := Aside0.mk (Kd.R_below (by (with_reducible repeat (first | apply Kd.R_alloc | apply Kd.R_drewN | apply Kd.R_drew)); exact HO709.out) hb); have n1_ := Aside0.mk (blk_below (g := gb706) (o := .cells #[.string t702, .int .u64 t703, .int .u64 t704] 44 (0, 0)) (by (with_reducible repeat (first | refine blk_drewN ?_ _ | refine blk_drew ?_ | refine blk_alloc ?_ _)); exact BK706.out) hb); have n2_ := Aside0.mk (below_step (by repeat (first | (with_reducible first | exact HB.out | apply below_alloc | apply pw_below_drewN | apply below_drew1 | refine below_set ?_ GE706.out) | exact HB.out)) hb); clear HO709; clear BK706; clear HB; have HO709 := n0_; have BK706 := n1_; have HB := n2_; clear n0_ n1_ n2_; (try clear hb); (try clear hb2); (try clear hk); (try clear hi)))
                    go_ret
                    exact ⟨by first | rfl | (simp [errW_none, errW_some] <;> rfl) | (simp [*, errW_none, errW_some] <;> rfl), by repeat (first | (with_reducible first | exact HB.out | apply below_alloc | apply pw_below_drewN | apply below_drew1 | refine below_set ?_ GE706.out) | exact HB.out)⟩
                  · rw [if_neg c17] at H
                    exact absurd H (by simp)
                · replace c16 := Bool.eq_false_iff.mpr c16
                  subst c16
                  have H1 : (none) = some r := by rw [if_neg (show ¬ (false = true) by decide)] at H; exact H
                  clear H
                  have H := H1
                  clear H1
                  exact absurd H (by simp)
              · replace c14 := Bool.eq_false_iff.mpr c14
                subst c14
                have H1 : (none) = some r := by rw [if_neg (show ¬ (false = true) by decide)] at H; exact H
                clear H
                have H := H1
                clear H1
                exact absurd H (by simp)
            · replace c12 := Bool.eq_false_iff.mpr c12
              subst c12
              have H1 : (none) = some r := by rw [if_neg (show ¬ (false = true) by decide)] at H; exact H
              clear H
              have H := H1
              clear H1
              exact absurd H (by simp)
          · replace c10 := Bool.eq_false_iff.mpr c10
            subst c10
            have H1 : (none) = some r := by rw [if_neg (show ¬ (false = true) by decide)] at H; exact H
            clear H
            have H := H1
            clear H1
            exact absurd H (by simp)
        · replace c8 := Bool.eq_false_iff.mpr c8
          subst c8
          have H1 : (none) = some r := by rw [if_neg (show ¬ (false = true) by decide)] at H; exact H
          clear H
          have H := H1
          clear H1
          exact absurd H (by simp)
      · replace c6 := Bool.eq_false_iff.mpr c6
        subst c6
        have H1 : (none) = some r := by rw [if_neg (show ¬ (false = true) by decide)] at H; exact H
        clear H
        have H := H1
        clear H1
        exact absurd H (by simp)
    · rw [if_neg c4] at H
      exact absurd H (by simp)
  · rw [if_neg c3] at H
    exact absurd H (by simp)
end Go.Proofs.YtpkjpiphjdpegaaDoor.P
namespace Go.Proofs.YtpkjpiphjdpegaaDoor.P
open Go.RowKit Go.Proofs.YtpkjpiphjdpegaaDoorW.PrintWords Go.Proofs.YtpkjpiphjdpegaaDoorW.PrintLast Go.Proofs.YtpkjpiphjdpegaaDoorW.PrintMore
set_option linter.unusedVariables false
set_option linter.unusedSimpArgs false
theorem tail_lenN (n : Nat) : ∀ r : List ByteArray, (∀ x ∈ r, x.size ≤ n) → (Lib.joinTail [10] (r.map (·.data.toList))).length ≤ (n + 1) * r.length
  | [], _ => by simp [Lib.joinTail]
  | y :: r, h => by
    have a := tail_lenN n r fun x hx => h x (List.mem_cons_of_mem _ hx)
    have b := h y (List.mem_cons_self ..)
    have e : y.data.toList.length = y.size := Array.length_toList
    rw [List.map_cons, tail_cons, List.length_cons, List.length_append, List.length_cons, e, Nat.mul_succ]
    omega
theorem join_lenN (n : Nat) (l : List ByteArray) (h : ∀ x ∈ l, x.size ≤ n) : (Lib.join (l.map (·.data.toList)) [10]).length ≤ (n + 1) * l.length := by
  cases l with
  | nil => simp [Lib.join]
  | cons y r =>
    have a := tail_lenN n r fun x hx => h x (List.mem_cons_of_mem _ hx)
    have b := h y (List.mem_cons_self ..)
    have e : y.data.toList.length = y.size := Array.length_toList
    rw [List.map_cons, joinB_cons, List.length_append, List.length_cons, e, Nat.mul_succ]
    omega
def noId (y : S44) : Bool := !mayId y.f0
def lineR (y : S44) : ByteArray := lineB y.f0 y.f1.f0 y.f1.f1
def rowOk (y : S44) : Prop := y.f0.size ≤ 1000000 ∧ U64 y.f1.f0 ∧ U64 y.f1.f1
def remL (s : ByteArray) : List UInt8 := 35 :: 32 :: s.data.toList
def remOkB (s : ByteArray) : Bool := decide ((splitB (remL s)).length ≤ 1) && decide (wrongOf (remL s) = 0)
abbrev remOk (s : ByteArray) : Prop := remOkB s = true
theorem remOk_is {s : ByteArray} : remOk s ↔ (splitB (remL s)).length ≤ 1 ∧ wrongOf (remL s) = 0 := by
  show remOkB s = true ↔ _
  unfold remOkB
  rw [Bool.and_eq_true, decide_eq_true_eq, decide_eq_true_eq]
theorem rem_is (s : ByteArray) : (⟨#[35, 32]⟩ : ByteArray) ++ s = mk (remL s) := by
  apply ByteArray.ext
  apply Array.toList_inj.1
  rw [ByteArray.data_append, Array.toList_append]
  rfl
theorem rd44 (l : List S44) (i : Nat) (hi : i < l.length) : rd_T44 l (i : Int) = l[i] := by
  unfold rd_T44
  rw [Int.toNat_natCast, List.getD_eq_getElem?_getD, List.getElem?_eq_getElem hi]
  rfl
theorem write_l0 (s : ByteArray) (l : List S44) (hl : l.length ≤ 1000000) (hg : ∀ y ∈ l, rowOk y) (k : Nat) : ∀ (t i : Nat) (acc : List ByteArray), i + t = l.length → acc.length ≤ i + 1 →
    row_Write.l0 (k + 1 + t) s acc l (l.length : Int) (i : Int) = if (l.drop i).any noId = true then some ((⟨#[]⟩ : ByteArray), 101) else row_Write.l0 (k + 1) s (acc ++ (l.drop i).map lineR) l (l.length : Int) (l.length : Int)
  | 0, i, acc, h, ha => by
    obtain rfl : i = l.length := by omega
    rw [List.drop_length, List.any_nil, if_neg (by decide), List.map_nil, List.append_nil]
  | t + 1, i, acc, h, ha => by
    have hi : i < l.length := by omega
    have nx : l.drop i = l[i] :: l.drop (i + 1) := List.drop_eq_getElem_cons hi
    have hm : l[i] ∈ l := List.getElem_mem hi
    obtain ⟨g1, g2, g3⟩ := hg _ hm
    have w1 : wrap64 ((i : Int) + 1) = ((i + 1 : Nat) : Int) := by rw [wrapI _ (by omega) (by omega)]; push_cast; rfl
    rw [nx, List.any_cons, List.map_cons]
    conv => lhs; rw [show k + 1 + (t + 1) = (k + 1 + t) + 1 by omega, row_Write.l0, if_pos (show (i : Int) < (l.length : Int) by omega), if_pos (show (0 : Int) ≤ (i : Int) by omega), if_pos (show (i : Int) < (l.length : Int) by omega), rd44 l i hi, text_is _ _ _ (by omega) g2 g3, Option.bind_some]
    unfold rowText noId
    by_cases m : mayId l[i].f0 = true
    · rw [if_pos m, m]
      dsimp only
      rw [if_pos rfl, if_pos (by omega), w1, write_l0 s l hl hg k t (i + 1) _ (by omega) (by rw [List.length_append, List.length_singleton]; omega), List.append_assoc]
      rfl
    · have mf : mayId l[i].f0 = false := by simpa using m
      rw [if_neg m, mf]
      dsimp only
      rw [if_neg (by decide), if_pos (by simp)]
theorem split_single (l : List UInt8) (h : (splitB l).length ≤ 1) : splitB l = [l] ∧ ∀ b ∈ l, b ≠ 10 := by
  have c := split_count l
  have z : l.count 10 = 0 := by omega
  have n : ∀ b ∈ l, b ≠ 10 := by
    intro b hb e
    subst e
    have := List.count_pos_iff.2 hb
    omega
  exact ⟨splitB_one l n, n⟩
theorem write_end (s : ByteArray) (hs : s.size ≤ 1000) (A : List ByteArray) (hA : A.length ≤ 1000) (hz : ∀ x ∈ A, x.size ≤ 2000) (hc : remOk s → ∀ x ∈ A, ∀ b ∈ x.data.toList, b ≠ 10) (l : List S44) (k : Nat) :
    row_Write.l0 (k + 1) s A l (l.length : Int) (l.length : Int) = some (if remOk s then (joinL (A ++ [mk []]), 0) else ((⟨#[]⟩ : ByteArray), 91)) := by
  have e : s.data.toList.length = s.size := Array.length_toList
  have el : (remL s).length = s.size + 2 := by unfold remL; rw [List.length_cons, List.length_cons, e]
  rw [row_Write.l0, if_neg (by omega), if_pos (by omega), rem_is, all_f _ (by rw [mk_size]; omega), Option.bind_some]
  have al : allL (mk (remL s)) = linesL 1 (splitB (remL s)) := rfl
  rw [al, linesL_len]
  by_cases c1 : (splitB (remL s)).length ≤ 1
  · have sp := (split_single _ c1).1
    rw [sp]
    have r0 : rd_T56 (linesL 1 [remL s]) 0 = lineOf 1 (remL s) := rfl
    have f3 : (lineOf 1 (remL s)).f3 = wrongOf (remL s) := rfl
    rw [if_neg (by simp), if_pos (by simp), r0, f3]
    by_cases c2 : wrongOf (remL s) = 0
    · have ok : remOk s := remOk_is.2 ⟨c1, c2⟩
      have jl := join_lenN 2000 (A ++ [mk []]) (by
        intro x hx
        rcases List.mem_append.1 hx with h | h
        · exact hz x h
        · rw [List.mem_singleton.1 h, mk_size]; simp)
      rw [List.length_append, List.length_singleton] at jl
      have nb : (A ++ [mk []]).any brk = false := by
        rw [List.any_eq_false]
        intro x hx
        rw [← mk_of x, Bool.not_eq_true, brk_clean]
        rcases List.mem_append.1 hx with h | h
        · exact hc ok x h
        · rw [List.mem_singleton.1 h, mk_list]; simp
      rw [if_pos c2, if_pos (by omega), if_pos ok]
      have jf := join_f (A ++ [mk []]) (by rw [List.length_append, List.length_singleton]; omega) (by omega)
      rw [nb, if_neg (by decide)] at jf
      rw [show (⟨#[]⟩ : ByteArray) = mk [] from rfl, jf, Option.bind_some]
    · rw [if_neg c2, if_neg (fun ok => c2 (remOk_is.1 ok).2)]
  · rw [if_pos (by omega), if_neg (fun ok => c1 (remOk_is.1 ok).1)]
def preL (s : ByteArray) : List ByteArray := if s.data.toList = [] then [] else [mk (remL s)]
theorem preL_len (s : ByteArray) : (preL s).length ≤ 1 := by unfold preL; split <;> simp
def writeOf (l : List S44) (s : ByteArray) : ByteArray × Int :=
  if l.any noId = true then ((⟨#[]⟩ : ByteArray), 101) else if remOk s then (joinL ((preL s ++ l.map lineR) ++ [mk []]), 0) else ((⟨#[]⟩ : ByteArray), 91)
theorem row_ids (l : List S44) (h : ¬ l.any noId = true) : ∀ y ∈ l, mayId y.f0 = true := by
  intro y hy
  have := List.any_eq_false.1 (by simpa using h : l.any noId = false) y hy
  unfold noId at this
  simpa using this
theorem pre_facts (l : List S44) (hl : l.length ≤ 900) (hg : ∀ y ∈ l, rowOk y) (hm : ∀ y ∈ l, mayId y.f0 = true) (s : ByteArray) (hs : s.size ≤ 1000) :
    (preL s ++ l.map lineR).length ≤ 1000 ∧ (∀ x ∈ preL s ++ l.map lineR, x.size ≤ 2000) ∧ (remOk s → ∀ x ∈ preL s ++ l.map lineR, ∀ b ∈ x.data.toList, b ≠ 10) := by
  have e : s.data.toList.length = s.size := Array.length_toList
  have el : (remL s).length = s.size + 2 := by unfold remL; rw [List.length_cons, List.length_cons, e]
  have pl := preL_len s
  refine ⟨by rw [List.length_append, List.length_map]; omega, fun x hx => ?_, fun ok x hx => ?_⟩
  · rcases List.mem_append.1 hx with h | h
    · unfold preL at h
      split at h
      · simp at h
      · rw [List.mem_singleton.1 h, mk_size]; omega
    · obtain ⟨y, hy, rfl⟩ := List.mem_map.1 h
      have := line_size y.f0 y.f1.f0 y.f1.f1 (hm y hy) (hg y hy).2.1 (hg y hy).2.2
      show (lineB _ _ _).size ≤ _
      omega
  · rcases List.mem_append.1 hx with h | h
    · unfold preL at h
      split at h
      · simp at h
      · rw [List.mem_singleton.1 h, mk_list]; exact (split_single _ (remOk_is.1 ok).1).2
    · obtain ⟨y, hy, rfl⟩ := List.mem_map.1 h
      exact line_bytes y.f0 y.f1.f0 y.f1.f1 (hm y hy) (hg y hy).2.1 (hg y hy).2.2
theorem write_is (l : List S44) (hl : l.length ≤ 900) (hg : ∀ y ∈ l, rowOk y) (s : ByteArray) (hs : s.size ≤ 1000) (k : Nat) (hk : 1002 ≤ k) : row_Write.f k l s = some (writeOf l s) := by
  have J : ∀ acc : List ByteArray, acc = preL s → row_Write.j0 k l s acc = some (writeOf l s) := by
    intro acc ea
    have pl := preL_len s
    obtain ⟨j, rfl⟩ : ∃ j, k = (j + 1 + l.length) + 1 := ⟨k - 2 - l.length, by omega⟩
    have := write_l0 s l (by omega) hg j l.length 0 acc (by omega) (by rw [ea]; omega)
    rw [List.drop_zero] at this
    rw [row_Write.j0]
    refine this.trans ?_
    unfold writeOf
    by_cases c : l.any noId = true
    · rw [if_pos c, if_pos c]
    · obtain ⟨p1, p2, p3⟩ := pre_facts l hl hg (row_ids l c) s hs
      rw [if_neg c, if_neg c, ea, write_end s hs _ p1 p2 p3 l j]
  unfold row_Write.f
  by_cases c : s.data.toList = []
  · rw [if_pos (by rw [toList_eq]; exact c)]
    exact J [] (by unfold preL; rw [if_pos c])
  · rw [if_neg (by rw [toList_eq]; exact c), if_pos (by omega), if_pos (by simp), rem_is, List.nil_append]
    exact J _ (by unfold preL; rw [if_neg c])
theorem one_empty : oneB [] = ((⟨#[]⟩ : ByteArray), 0, 0, false, 0) := by
  have w : wrongOf [] = 0 := by
    unfold wrongOf
    rw [Lib.validD_nil, if_pos rfl]
    rfl
  unfold oneB
  rw [if_pos w, if_neg (by decide)]
theorem one_rem (s : ByteArray) (h : wrongOf (remL s) = 0) : oneB (remL s) = ((⟨#[]⟩ : ByteArray), 0, 0, false, 0) := by
  have k : kindOf (remL s) = 1 := by
    show (if (35 : UInt8) = 35 then (1 : Int) else 2) = 1
    rfl
  unfold oneB
  rw [if_pos h, k, if_neg (by decide)]
theorem rows_lines : ∀ (l : List S44) (n : Int) (acc : List S44), (∀ y ∈ l, rowOk y) → (∀ y ∈ l, mayId y.f0 = true) → rowsL n acc (l.map (fun y => (lineR y).data.toList) ++ [[]]) = (acc ++ l, 0, 0)
  | [], n, acc, _, _ => by
    rw [List.map_nil, List.nil_append, rowsL, one_empty]
    dsimp only
    rw [if_pos rfl, if_neg (by decide), rowsL, List.append_nil]
  | y :: l, n, acc, hg, hm => by
    obtain ⟨g1, g2, g3⟩ := hg y (List.mem_cons_self ..)
    have o := line_one y.f0 y.f1.f0 y.f1.f1 (hm y (List.mem_cons_self ..)) g2 g3
    rw [List.map_cons, List.cons_append, rowsL]
    unfold lineR
    rw [o]
    dsimp only
    rw [if_pos rfl, if_pos rfl]
    have := rows_lines l (n + 1) (acc ++ [y]) (fun z hz => hg z (List.mem_cons_of_mem _ hz)) (fun z hz => hm z (List.mem_cons_of_mem _ hz))
    rw [List.append_assoc] at this
    exact this
theorem write_split (l : List S44) (hl : l.length ≤ 900) (hg : ∀ y ∈ l, rowOk y) (hm : ∀ y ∈ l, mayId y.f0 = true) (s : ByteArray) (hs : s.size ≤ 1000) (ok : remOk s) :
    splitB (joinL ((preL s ++ l.map lineR) ++ [mk []])).data.toList = (preL s).map (·.data.toList) ++ (l.map (fun y => (lineR y).data.toList) ++ [[]]) := by
  obtain ⟨p1, p2, p3⟩ := pre_facts l hl hg hm s hs
  have c := p3 ok
  show splitB (Lib.join (((preL s ++ l.map lineR) ++ [mk []]).map (·.data.toList)) [10]) = _
  have e : ((preL s ++ l.map lineR) ++ [mk []]).map (·.data.toList) = (preL s).map (·.data.toList) ++ (l.map (fun y => (lineR y).data.toList) ++ [[]]) := by
    rw [List.map_append, List.map_append, List.map_map, List.append_assoc]
    rfl
  have cl : ∀ x ∈ ((preL s ++ l.map lineR) ++ [mk []]).map (·.data.toList), ∀ b ∈ x, b ≠ 10 := by
    intro x hx
    obtain ⟨z, hz, rfl⟩ := List.mem_map.1 hx
    rcases List.mem_append.1 hz with h | h
    · exact c z h
    · rw [List.mem_singleton.1 h, mk_list]; simp
  cases q : ((preL s ++ l.map lineR) ++ [mk []]).map (·.data.toList) with
  | nil => exact absurd (congrArg List.length q) (by simp)
  | cons y r => rw [q] at cl e; rw [split_join r y cl, e]
theorem write_rows (l : List S44) (hl : l.length ≤ 900) (hg : ∀ y ∈ l, rowOk y) (hm : ∀ y ∈ l, mayId y.f0 = true) (s : ByteArray) (hs : s.size ≤ 1000) (ok : remOk s) :
    rowsL 1 [] (splitB (joinL ((preL s ++ l.map lineR) ++ [mk []])).data.toList) = (l, 0, 0) := by
  rw [write_split l hl hg hm s hs ok]
  unfold preL
  by_cases c : s.data.toList = []
  · rw [if_pos c, List.map_nil, List.nil_append, rows_lines l 1 [] hg hm, List.nil_append]
  · rw [if_neg c, List.map_cons, List.map_nil, mk_list, List.cons_append, List.nil_append, rowsL, one_rem s (remOk_is.1 ok).2]
    dsimp only
    rw [if_pos rfl, if_neg (by decide), rows_lines l _ [] hg hm, List.nil_append]
theorem write_size (l : List S44) (hl : l.length ≤ 900) (hg : ∀ y ∈ l, rowOk y) (hm : ∀ y ∈ l, mayId y.f0 = true) (s : ByteArray) (hs : s.size ≤ 1000) : (joinL ((preL s ++ l.map lineR) ++ [mk []])).size ≤ 2010000 := by
  obtain ⟨p1, p2, p3⟩ := pre_facts l hl hg hm s hs
  have jl := join_lenN 2000 ((preL s ++ l.map lineR) ++ [mk []]) (by
    intro x hx
    rcases List.mem_append.1 hx with h | h
    · exact p2 x h
    · rw [List.mem_singleton.1 h, mk_size]; simp)
  have js := joinL_size ((preL s ++ l.map lineR) ++ [mk []])
  rw [List.length_append, List.length_singleton] at jl
  omega
end Go.Proofs.YtpkjpiphjdpegaaDoor.P
namespace Go.Proofs.YtpkjpiphjdpegaaDoor.P
set_option maxRecDepth 100000
theorem awake10 : paymasterlaw10_awake.f 100 = some true := by kernel_rfl
theorem awake10_up (k : Nat) (h : 100 ≤ k) : paymasterlaw10_awake.f k = some true := up (F := fun k => paymasterlaw10_awake.f k) paymasterlaw10_awake.mono awake10 k h
end Go.Proofs.YtpkjpiphjdpegaaDoor.P
namespace Go.Proofs.YtpkjpiphjdpegaaDoor.P
open Go.RowKit Go.Proofs.YtpkjpiphjdpegaaDoorW.PrintWords Go.Proofs.YtpkjpiphjdpegaaDoorW.PrintLast Go.Proofs.YtpkjpiphjdpegaaDoorW.PrintMore
set_option linter.unusedVariables false
set_option linter.unusedSimpArgs false
theorem same44_l0 (l : List S44) (hl : l.length ≤ 1000000000) (k : Nat) : ∀ (t i : Nat), i + t = l.length → paymasterref10_Same.l0 (k + 1 + t) l l (i : Int) = some true
  | 0, i, h => by
    show paymasterref10_Same.l0 (k + 1) _ _ _ = _
    rw [paymasterref10_Same.l0, if_neg (by omega)]
  | t + 1, i, h => by
    have ih := same44_l0 l hl k t (i + 1) (by omega)
    show paymasterref10_Same.l0 (k + 1 + t + 1) _ _ _ = _
    rw [paymasterref10_Same.l0, if_pos (show (i : Int) < (l.length : Int) by omega), if_pos (show (0 : Int) ≤ (i : Int) by omega), if_pos (show (i : Int) < (l.length : Int) by omega), if_neg (by simp), wrapI _ (by omega) (by omega), show (i : Int) + 1 = ((i + 1 : Nat) : Int) from by omega]
    exact ih
theorem same44_is (l : List S44) (hl : l.length ≤ 1000000000) (k : Nat) (hk : l.length + 1 ≤ k) : paymasterref10_Same.f k l l = some true := by
  unfold paymasterref10_Same.f
  rw [if_pos rfl]
  have := same44_l0 l hl (k - 1 - l.length) l.length 0 (by omega)
  rw [show k - 1 - l.length + 1 + l.length = k by omega] at this
  exact this
end Go.Proofs.YtpkjpiphjdpegaaDoor.P
namespace Go.Proofs.YtpkjpiphjdpegaaDoor.P
open Go.RowKit Go.Shelf Go.Proofs.YtpkjpiphjdpegaaDoor.RF Go.Proofs.YtpkjpiphjdpegaaDoorW.PrintWords
attribute [local go_sem] Oper.semAt_some
set_option linter.unusedVariables false
set_option linter.unusedSimpArgs false
set_option maxHeartbeats 8000000 in
set_option maxRecDepth 100000 in
theorem each2_in (n : Nat) (hn : 1 ≤ n) (l Bx n₀ : Nat) (s : ByteArray) (hs : s.size ≤ 1000000000) (J Jx : List S56 → World → Prop) (W : World)
    (hJ : AbX Bx W.heap.size J) (hG : ∀ W', Below n₀ W W' → GT W') (hxB : n₀ ≤ Bx) (hlt : Bx < W.heap.size)
    (hY : ∀ pre x W, J pre W → pre.length < (allL s).length → x ∈ allL s → YieldAt Fence.wide (n - 1) Tryd.prog l #[lineV x] W fun e W' =>
      (e = .returned (.bool true) ∧ J (pre ++ [x]) W' ∧ KpE n₀ Bx W W') ∨ (e = .returned (.bool false) ∧ Jx (pre ++ [x]) W'))
    (hBx : Boxed W Bx 9 (.string s)) (h0 : J [] W) :
    CallsIn Fence.wide n Tryd.prog 73 #[.func (.yield l) #[] #[], .pointer (some ⟨Bx, 0, none⟩)] W fun e W' => (∃ v, e = .returned v) ∧
      ((∃ ys, ys = allL s ∧ J ys W') ∨ (∃ pre, pre <+: allL s ∧ Jx pre W')) := by
  refine callsIn_of_wp Tryd.func73 rfl trivial ?_ rfl
  simp only [Tryd.ntmps73, List.size_toArray, List.length_cons, List.length_nil, Nat.reduceAdd, Nat.reduceSub, Array.replicate_succ, Array.replicate_zero, List.push_toArray, List.append_toArray, List.nil_append, List.cons_append]
  gi_wp2
  gi_loopw [3] (fun p wr => ∃ (pre : List S56) (t : List UInt8), p = .int .i64 ((pre.length : Int) + 1) ∧ pre ++ linesL ((pre.length : Int) + 1) (splitB t) = allL s ∧ Boxed wr Bx 9 (.string (mk t)) ∧ t.length ≤ s.size ∧ pre.length + t.length ≤ s.size ∧ Below n₀ W wr ∧ J pre wr)
    (fun p wr => leftE Bx wr)
  case atStart =>
    exact ⟨[], s.data.toList, rfl, rfl, by rw [mk_of]; exact hBx, by simp, by simp, Below.refl _ _, h0⟩
  case round =>
    obtain ⟨pre, t, rfl, hx, hb, ht, hpt, hBel, hJs⟩ := hrel
    have hcell := hb.cell
    have hfro := hb.frozen
    have hle : n₀ ≤ wr.heap.size := by have := hb.lt; omega
    have hn64 : (pre.length : Int) + 1 ≤ 1000000001 := by omega
    have arm : ∀ (h tl : List UInt8) (mo : Bool), h.length ≤ 1000000000 → strings_Cut.f (mk t) (⟨#[10]⟩ : ByteArray) = some (mk h, mk tl, mo) → pre.length < (allL s).length → True := fun _ _ _ _ _ _ => trivial
    clear arm
    by_cases hi : Lib.indexByte t 10 = -1
    · have hsp := splitB_none hi
      have hcut := cut_none hi
      rw [hsp] at hx
      have hx' : pre ++ [lineOf ((pre.length : Int) + 1) t] = allL s := hx
      have hlen : pre.length < (allL s).length := by rw [← hx']; simp
      have hmem : lineOf ((pre.length : Int) + 1) t ∈ allL s := by rw [← hx']; simp
      have hk := kind_is t (by omega)
      have hw := wrong_is t (by omega)
      gi_wp2_with (first
        | (refine ⟨trivial, ?_⟩; gi_at_call 74; refine (callsIn_wide.2 (strings_Cut.calls (mk t) _ _ _ _ _ hcut)).mono ?_; rintro e W1 ⟨rfl, hb1⟩; have hbel1 := hBel.trans (hb1.mono hle); have hJ1 := hJ.below hJs hb1; have hbx1 := hb.kept (grown_below hb1 none) (by simp); have hs1 := hb1.size)
        | (refine ⟨trivial, ?_⟩; gi_at_call 37; refine (callsIn_wide.2 (lines_Kind.calls (mk t) _ _ hk)).mono ?_; rintro e W2 ⟨rfl, hb2⟩; have hbel2 := hbel1.trans (hb2.mono (by omega)); have hJ2 := hJ.below hJ1 hb2; have hbx2 := hbx1.kept (grown_below hb2 none) (by simp); have hs2 := hb2.size)
        | (refine ⟨trivial, ?_⟩; gi_at_call 75; refine (callsIn_wide.2 (lines_wrong.calls (mk t) _ _ (hG _ hbel2) hw)).mono ?_; rintro e W3 ⟨rfl, hb3⟩; have hbel3 := hbel2.trans (hb3.mono (by omega)); have hJ3 := hJ.below hJ2 hb3; have hbx3 := hbx2.kept (grown_below hb3 none) (by simp); obtain ⟨fn, tmps, assign, body, hy, hR⟩ := hY pre (lineOf ((pre.length : Int) + 1) t) W3 hJ3 hlen hmem; dsimp only [lineV, lineOf] at hy))
      refine hR.mono ?_
      rintro e W4 (⟨rfl, hJ4, hk4⟩ | ⟨rfl, hJx4⟩)
      · gi_wp2
        refine bodyPost_ret (results_none rfl _ _ _) rfl ?_
        exact ⟨⟨_, rfl⟩, .inl ⟨_, hx', hJ4⟩⟩
      · gi_wp2
        refine bodyPost_ret (results_none rfl _ _ _) rfl ?_
        exact ⟨⟨_, rfl⟩, .inr ⟨_, ⟨[], by rw [List.append_nil]; exact hx'⟩, hJx4⟩⟩
    · obtain ⟨i, hi⟩ : ∃ i : Nat, Lib.indexByte t 10 = (i : Int) := ⟨(Lib.indexByte t 10).toNat, by have := Lib.indexByte_ge t 10; omega⟩
      obtain ⟨hsp, hit⟩ := splitB_some hi
      have hcut := cut_some (by omega) hi
      rw [hsp] at hx
      have hx' : pre ++ (lineOf ((pre.length : Int) + 1) (t.take i) :: linesL ((pre.length : Int) + 1 + 1) (splitB (t.drop (i + 1)))) = allL s := hx
      have hlen : pre.length < (allL s).length := by rw [← hx']; simp
      have hmem : lineOf ((pre.length : Int) + 1) (t.take i) ∈ allL s := by rw [← hx']; simp
      have hli : (t.take i).length ≤ t.length := by simp; omega
      have hk := kind_is (t.take i) (by omega)
      have hw := wrong_is (t.take i) (by omega)
      gi_wp2_with (first
        | (refine ⟨trivial, ?_⟩; gi_at_call 74; refine (callsIn_wide.2 (strings_Cut.calls (mk t) _ _ _ _ _ hcut)).mono ?_; rintro e W1 ⟨rfl, hb1⟩; have hbel1 := hBel.trans (hb1.mono hle); have hJ1 := hJ.below hJs hb1; have hbx1 := hb.kept (grown_below hb1 none) (by simp); have hs1 := hb1.size)
        | (refine ⟨trivial, ?_⟩; gi_at_call 37; refine (callsIn_wide.2 (lines_Kind.calls (mk (t.take i)) _ _ hk)).mono ?_; rintro e W2 ⟨rfl, hb2⟩; have hbel2 := hbel1.trans (hb2.mono (by omega)); have hJ2 := hJ.below hJ1 hb2; have hbx2 := hbx1.kept (grown_below hb2 none) (by simp); have hs2 := hb2.size)
        | (refine ⟨trivial, ?_⟩; gi_at_call 75; refine (callsIn_wide.2 (lines_wrong.calls (mk (t.take i)) _ _ (hG _ hbel2) hw)).mono ?_; rintro e W3 ⟨rfl, hb3⟩; have hbel3 := hbel2.trans (hb3.mono (by omega)); have hJ3 := hJ.below hJ2 hb3; have hbx3 := hbx2.kept (grown_below hb3 none) (by simp); obtain ⟨fn, tmps, assign, body, hy, hR⟩ := hY pre (lineOf ((pre.length : Int) + 1) (t.take i)) W3 hJ3 hlen hmem; dsimp only [lineV, lineOf] at hy))
      refine hR.mono ?_
      rintro e W4 (⟨rfl, hJ4, hk4⟩ | ⟨rfl, hJx4⟩)
      · have hbx4 : Boxed W4 Bx 9 (.string (mk t)) := hk4.2.trans hbx3
        have hc4 := hbx4.cell
        have hf4 := hbx4.frozen
        gi_wp2
        go_roundw
        case rel =>
          refine ⟨pre ++ [lineOf ((pre.length : Int) + 1) (t.take i)], t.drop (i + 1), ?_, ?_, hbx4.set _, by simp; omega, by simp; omega, ?_, hJ.set _ hJ4⟩
          · simp
          · rw [List.append_assoc, List.length_append]; exact hx'
          · exact (hbel3.trans hk4.1).setCell (p := ⟨Bx, 0, none⟩) hxB _
        case measure =>
          have e1 := (hbx4.set (.string (mk (t.drop (i + 1))))).cell
          unfold leftE
          rw [e1, hcell]
          simp [mk_size]
          omega
      · gi_wp2
        refine bodyPost_ret (results_none rfl _ _ _) rfl ?_
        exact ⟨⟨_, rfl⟩, .inr ⟨_, ⟨linesL ((pre.length : Int) + 1 + 1) (splitB (t.drop (i + 1))), by rw [List.append_assoc]; exact hx'⟩, hJx4⟩⟩
abbrev LineIn (s : ByteArray) := {x : S56 // x ∈ allL s}
theorem each_stops2 (n : Nat) (hn : 1 ≤ n) (Bx n₀ : Nat) (s : ByteArray) (hs : s.size ≤ 1000000000) (w w0 : World) (hG : GT w0) (h0 : w0.heap.size ≤ n₀) (hb0 : Below n₀ w0 w) (hxB : n₀ ≤ Bx) (hlt : Bx < w.heap.size)
    (hBx : Boxed w Bx 9 (.string s)) :
    SeqX (α := LineIn s) Fence.wide n Tryd.prog 73 #[.pointer (some ⟨Bx, 0, none⟩)] (fun x => #[lineV x.1]) (KpE n₀ Bx) Bx (fun ys => ys.map Subtype.val = allL s) (fun pre => pre.map Subtype.val <+: allL s) (allL s).length w :=
  fun l J Jx W hW hJ hJx hY h00 => by
    refine (each2_in n hn l Bx n₀ s hs (fun p W => ∃ q : List (LineIn s), q.map Subtype.val = p ∧ J q W) (fun p W => ∃ q : List (LineIn s), q.map Subtype.val = p ∧ Jx q W) W
      (fun p A B row hp hg hr => by obtain ⟨q, e, hq⟩ := hp; exact ⟨q, e, hJ q A B row hq hg hr⟩)
      (fun W' hb' => gt_same hG h0 ((hb0.trans (hW.mono (by omega))).trans hb')) hxB (by have := hW.size; omega) ?_ (hBx.kept (grown_below hW none) (by simp)) ⟨[], rfl, h00⟩).mono ?_
    · rintro pre x W1 ⟨q, rfl, hq⟩ hl hm
      obtain ⟨fn, tmps, assign, body, hy, hR⟩ := hY q ⟨x, hm⟩ W1 hq (by simpa using hl)
      refine ⟨fn, tmps, assign, body, hy, hR.mono ?_⟩
      rintro e W' (⟨he, hj, hk⟩ | ⟨he, hj⟩)
      · exact .inl ⟨he, ⟨_, by simp, hj⟩, hk⟩
      · exact .inr ⟨he, _, by simp, hj⟩
    · rintro e W' ⟨hv, ⟨ys, rfl, q, e1, hq⟩ | ⟨pre, hp, q, rfl, hq⟩⟩
      · exact ⟨hv, .inl ⟨q, e1, hq⟩⟩
      · exact ⟨hv, .inr ⟨q, hp, hq⟩⟩
end Go.Proofs.YtpkjpiphjdpegaaDoor.P
namespace Go.Proofs.YtpkjpiphjdpegaaDoor.P
open Go.RowKit Go.Shelf Go.Proofs.YtpkjpiphjdpegaaDoor.RF Go.Proofs.YtpkjpiphjdpegaaDoorW.PrintWords
attribute [local go_sem] Oper.semAt_some
set_option linter.unusedVariables false
set_option linter.unusedSimpArgs false
def ofX (x : S56) : ByteArray × Int × Int × Bool × Int := oneB x.f1.data.toList
def rowX (x : S56) : S44 := ⟨(ofX x).1, ⟨(ofX x).2.1, (ofX x).2.2.1⟩⟩
def accX : List S56 → List S44
  | [] => []
  | x :: r => if (ofX x).2.2.2.1 = true then rowX x :: accX r else accX r
theorem accX_snoc : ∀ (p : List S56) (x : S56), accX (p ++ [x]) = if (ofX x).2.2.2.1 = true then accX p ++ [rowX x] else accX p
  | [], x => by rw [List.nil_append, accX]; rfl
  | y :: p, x => by
    rw [List.cons_append, accX, accX, accX_snoc p x]
    by_cases c : (ofX y).2.2.2.1 = true
    · rw [if_pos c, if_pos c]; split <;> rfl
    · rw [if_neg c, if_neg c]
theorem accX_len : ∀ p : List S56, (accX p).length ≤ p.length
  | [] => Nat.le_refl _
  | x :: p => by
    have := accX_len p
    rw [accX]
    split <;> simp <;> omega
theorem rowsL_ok : ∀ (L : List (List UInt8)) (n : Int) (acc : List S44), (∀ x ∈ linesL n L, (ofX x).2.2.2.2 = 0) → rowsL n acc L = (acc ++ accX (linesL n L), 0, 0)
  | [], n, acc, _ => by rw [rowsL, linesL, accX, List.append_nil]
  | h :: L, n, acc, c => by
    have c0 : (oneB h).2.2.2.2 = 0 := c (lineOf n h) (List.mem_cons_self ..)
    have ih := fun acc => rowsL_ok L (n + 1) acc fun x hx => c x (List.mem_cons_of_mem _ hx)
    rw [rowsL, linesL, accX, if_pos c0]
    have e : (ofX (lineOf n h)).2.2.2.1 = (oneB h).2.2.2.1 := rfl
    rw [e]
    by_cases q : (oneB h).2.2.2.1 = true
    · rw [if_pos q, if_pos q, ih, List.append_assoc]; rfl
    · rw [if_neg q, if_neg q, ih]
theorem rowsL_bad : ∀ (L : List (List UInt8)) (n : Int) (acc : List S44) (p : List S56) (x : S56) (r : List S56), linesL n L = p ++ x :: r → (∀ y ∈ p, (ofX y).2.2.2.2 = 0) → (ofX x).2.2.2.2 ≠ 0 → rowsL n acc L = ([], x.f0, (ofX x).2.2.2.2)
  | [], n, acc, p, x, r, e, _, _ => by rw [linesL] at e; cases p <;> cases e
  | h :: L, n, acc, p, x, r, e, hp, hx => by
    rw [linesL] at e
    cases p with
    | nil =>
      rw [List.nil_append] at e
      obtain ⟨rfl, e2⟩ := List.cons.inj e
      have c : ¬ (oneB h).2.2.2.2 = 0 := hx
      rw [rowsL, if_neg c]
      rfl
    | cons y p =>
      rw [List.cons_append] at e
      obtain ⟨rfl, e2⟩ := List.cons.inj e
      have c0 : (oneB h).2.2.2.2 = 0 := hp _ (List.mem_cons_self ..)
      have ih := fun acc => rowsL_bad L (n + 1) acc p x r e2 (fun z hz => hp z (List.mem_cons_of_mem _ hz)) hx
      rw [rowsL, if_pos c0]
      by_cases q : (oneB h).2.2.2.1 = true
      · rw [if_pos q, ih]
      · rw [if_neg q, ih]
theorem line_mem : ∀ (L : List (List UInt8)) (n : Int) (x : S56), x ∈ linesL n L → ∃ m h, h ∈ L ∧ x = lineOf m h
  | [], n, x, h => by cases h
  | h :: L, n, x, hx => by
    rw [linesL] at hx
    rcases List.mem_cons.1 hx with rfl | hx
    · exact ⟨n, h, List.mem_cons_self .., rfl⟩
    · obtain ⟨m, g, hg, e⟩ := line_mem L (n + 1) x hx
      exact ⟨m, g, List.mem_cons_of_mem _ hg, e⟩
theorem of_line (s : ByteArray) (hs : s.size ≤ 1000000000) (x : S56) (hx : x ∈ allL s) : row_Of.f x.f0 x.f1 x.f2 x.f3 = some (ofX x) := by
  obtain ⟨m, h, hh, rfl⟩ := line_mem _ _ _ hx
  have e : s.data.toList.length = s.size := Array.length_toList
  have := splitB_size _ h hh
  show row_Of.f m (mk h) (kindOf h) (wrongOf h) = some (oneB h)
  exact of_is m h (by omega)
def row_All.f (a0 : ByteArray) : Option (List S44 × Int × Int) := if a0.size ≤ 1000000000 then some (rowsL 1 [] (splitB a0.data.toList)) else none
def CoR (B Bx n₀ : Nat) (w : World) (f : List S56 → List S44) (pre : List S56) (W : World) : Prop :=
  (∃ v, Boxed W B 34 v ∧ Kd.R k44 44 W n₀ (fun k => k ≠ Bx) v (f pre)) ∧ Below n₀ w W
theorem coR_ab (B Bx n₀ : Nat) (w : World) (f : List S56 → List S44) (hn : n₀ ≤ w.heap.size) (hx : n₀ ≤ Bx) (hB : n₀ ≤ B) (hne : B ≠ Bx) (C : Nat) (hC : n₀ ≤ C) : AbX Bx C (CoR B Bx n₀ w f) := by
  rintro s W W' row ⟨⟨v, hv, hr⟩, hb⟩ hg hrow
  have key : ∀ (k : Nat) cells t, W.heap[k]? = some (.cells cells t (0, 0)) → k ≠ Bx → some k ≠ row := fun k cells t hk hkx e => by
    rcases hrow k e.symm with h | ⟨_, o, ho, hc⟩
    · exact hkx h
    · rw [hk] at ho; cases ho; cases hc
  refine ⟨⟨v, hv.kept hg (key B _ _ hv hne), Kd.R_grown2 hr rfl hg fun k e e' => ?_⟩, abX_below hn hC hx () W W' row hb hg hrow⟩
  obtain ⟨cells, hk⟩ := Kd.R_typed hr k e'.symm
  exact key k _ _ hk (hr.1 k e'.symm) e.symm
theorem res3 (tmps : Array Value) (w : World) (B B' B'' : Nat) (h1 : tmps[2]? = some (.pointer (some ⟨B, 0, none⟩))) (h2 : tmps[3]? = some (.pointer (some ⟨B', 0, none⟩))) (h3 : tmps[4]? = some (.pointer (some ⟨B'', 0, none⟩))) {x y z : Value} (q1 : Boxed w B 34 x) (q2 : Boxed w B' 3 y) (q3 : Boxed w B'' 23 z) :
    (results Tryd.f45 tmps).run Tryd.prog w = .ok (.tuple #[x, y, z]) w := by
  have hr : Tryd.f45.results = #[.cell 2 34, .cell 3 3, .cell 4 23] := rfl
  have c1 := q1.cell
  have c2 := q2.cell
  have c3 := q3.cell
  have g1 : tmps[2]?.getD undef = .pointer (some ⟨B, 0, none⟩) := by rw [h1]; rfl
  have g2 : tmps[3]?.getD undef = .pointer (some ⟨B', 0, none⟩) := by rw [h2]; rfl
  have g3 : tmps[4]?.getD undef = .pointer (some ⟨B'', 0, none⟩) := by rw [h3]; rfl
  simp [results, hr, g1, g2, g3, asAddr, go_sem, c1, c2, c3]
theorem callsIn_round {P : Program} {l n f : Nat} {args : Array Value} {w : World} {Q : Ending → World → Prop} (h : Calls P f args w Q) : CallsIn (Fence.wide.inRound l) n P f args w Q := callsIn_wide.2 h
def InvR (n0 : Nat) (w W0 : World) (pre : List S56) (W : World) : Prop :=
  ((Boxed W n0 34 (.slice none 0 0) ∧ Boxed W (n0 + 1) 3 (.int .i64 0) ∧ Boxed W (n0 + 2) 23 (.int .i64 0)) ∧ CoR (n0 + 3) (n0 + 4) n0 w accX pre W ∧ W0.heap.size ≤ W.heap.size) ∧ ∀ x ∈ pre, (ofX x).2.2.2.2 = 0
def InvX (n0 : Nat) (w : World) (c : Code) (pre : List S56) (W : World) : Prop :=
  c = .ret ∧ ∃ p x, pre = p ++ [x] ∧ (∀ y ∈ p, (ofX y).2.2.2.2 = 0) ∧ (ofX x).2.2.2.2 ≠ 0 ∧ Boxed W n0 34 (.slice none 0 0) ∧ Boxed W (n0 + 1) 3 (.int .i64 x.f0) ∧ Boxed W (n0 + 2) 23 (.int .i64 (ofX x).2.2.2.2) ∧ Below n0 w W
set_option maxHeartbeats 4000000 in
set_option maxRecDepth 100000 in
theorem rowAll_is (s : ByteArray) (hs : s.size ≤ 1000000000) (w : World) (hG : GT w) :
    CallsIn Fence.wide 5 Tryd.prog 45 #[.string s] w fun e W' => ∃ v, e = .returned (.tuple #[v, .int .i64 (rowsL 1 [] (splitB s.data.toList)).2.1, .int .i64 (rowsL 1 [] (splitB s.data.toList)).2.2]) ∧ Kd.R k44 44 W' w.heap.size (fun _ => True) v (rowsL 1 [] (splitB s.data.toList)).1 ∧ Below w.heap.size w W' := by
  have mixed : Tryd.prog.follows .mixedOrders = true := by kernel_rfl
  refine callsIn_of_wp_marks Tryd.func45 rfl trivial ?_ rfl
  simp only [Tryd.ntmps45, List.size_toArray, List.length_cons, List.length_nil, Nat.reduceAdd, Nat.reduceSub, Array.replicate_succ, Array.replicate_zero, List.push_toArray, List.append_toArray, List.nil_append, List.cons_append]
  refine wpIn_wide.2 ?_
  go_wp2
  go_step3
  go_wp2
  go_step3
  go_wp2_with (first | (go_at_call 38; (with_reducible refine (each_call s _).mono ?_); rintro e W1 ⟨rfl, rfl⟩))
  have b2 := (((((Boxed.new w 34 (.slice none 0 0)).alloc (.cells #[.int .i64 0] 3)).alloc (.cells #[.int .i64 0] 23)).alloc (.cells #[.slice none 0 0] 34)).alloc (.cells #[.string s] 9))
  have b3 := ((((Boxed.new (w.alloc (.cells #[.slice none 0 0] 34)) 3 (.int .i64 0)).alloc (.cells #[.int .i64 0] 23)).alloc (.cells #[.slice none 0 0] 34)).alloc (.cells #[.string s] 9))
  have b4 := (((Boxed.new ((w.alloc (.cells #[.slice none 0 0] 34)).alloc (.cells #[.int .i64 0] 3)) 23 (.int .i64 0)).alloc (.cells #[.slice none 0 0] 34)).alloc (.cells #[.string s] 9))
  have b5 := ((Boxed.new (((w.alloc (.cells #[.slice none 0 0] 34)).alloc (.cells #[.int .i64 0] 3)).alloc (.cells #[.int .i64 0] 23)) 34 (.slice none 0 0)).alloc (.cells #[.string s] 9))
  have bX := Boxed.new ((((w.alloc (.cells #[.slice none 0 0] 34)).alloc (.cells #[.int .i64 0] 3)).alloc (.cells #[.int .i64 0] 23)).alloc (.cells #[.slice none 0 0] 34)) 9 (.string s)
  simp only [World.size_alloc] at b3 b4 b5 bX
  have hB1 : Below w.heap.size w (((((w.alloc (.cells #[.slice none 0 0] 34)).alloc (.cells #[.int .i64 0] 3)).alloc (.cells #[.int .i64 0] 23)).alloc (.cells #[.slice none 0 0] 34)).alloc (.cells #[.string s] 9)) := below_alloc (below_alloc (below_alloc (below_alloc (below_alloc (Below.refl _ _) _) _) _) _) _
  have hsz : (((((w.alloc (.cells #[.slice none 0 0] 34)).alloc (.cells #[.int .i64 0] 3)).alloc (.cells #[.int .i64 0] 23)).alloc (.cells #[.slice none 0 0] 34)).alloc (.cells #[.string s] 9)).heap.size = w.heap.size + 5 := by simp
  obtain ⟨W0, hW0⟩ : ∃ W0, (((((w.alloc (.cells #[.slice none 0 0] 34)).alloc (.cells #[.int .i64 0] 3)).alloc (.cells #[.int .i64 0] 23)).alloc (.cells #[.slice none 0 0] 34)).alloc (.cells #[.string s] 9)) = W0 := ⟨_, rfl⟩
  rw [hW0] at b2 b3 b4 b5 bX hB1 hsz ⊢
  clear hW0
  refine (wpIn_wide (n := 5)).1 ?_
  refine range_own (Bx := w.heap.size + 4) (by omega) rfl (by omega) (gf := 73) (lb := #[.pointer (some ⟨w.heap.size + 4, 0, none⟩)]) rfl trivial (enters_of Tryd.func73 (by kernel_rfl) rfl)
    (each_stops2 4 (by omega) (w.heap.size + 4) w.heap.size s hs W0 w hG (Nat.le_refl _) hB1 (by omega) (by omega) bX)
    (fun h k => ⟨h.1.trans k.1, k.2.trans h.2⟩) (fun W l o o' hl ho hc hw => ⟨(Below.refl _ W).grown (grownBy_putObj' W l o') (by have := (Array.getElem?_eq_some_iff.1 ho).1; omega) (fun k e => by cases e; omega), World.putObj_heap_other (by omega)⟩) (Below.refl _ _) (fun _ => rfl)
    (fun pre W => InvR w.heap.size w W0 (pre.map Subtype.val) W)
    (fun c pre W => InvX w.heap.size w c (pre.map Subtype.val) W)
    (fun q => (AbX.and (AbX.and (AbX.and (boxed_ab _ _ _ _ (fun _ => .slice none 0 0) (by omega)) (AbX.and (boxed_ab _ _ _ _ (fun _ => .int .i64 0) (by omega)) (boxed_ab _ _ _ _ (fun _ => .int .i64 0) (by omega)))) (AbX.and (coR_ab _ _ _ _ _ (Nat.le_refl _) (by omega) (by omega) (by omega) _ (by omega)) (abX_size _ _ _))) (abX_pure _ _ (fun pre : List S56 => ∀ x ∈ pre, (ofX x).2.2.2.2 = 0)) : AbX (w.heap.size + 4) W0.heap.size (InvR w.heap.size w W0)) (q.map Subtype.val))
    (fun c s' W W' row hh hg hr => by
      obtain ⟨rfl, p, x, e1, e2, e3, e4, e5, e6, e7⟩ := hh
      exact ⟨rfl, p, x, e1, e2, e3, boxed_ab (β := Unit) _ W0.heap.size _ _ (fun _ => .slice none 0 0) (by omega) () W W' row e4 hg hr, boxed_ab (β := Unit) _ W0.heap.size _ _ (fun _ => .int .i64 x.f0) (by omega) () W W' row e5 hg hr,
        boxed_ab (β := Unit) _ W0.heap.size _ _ (fun _ => .int .i64 (ofX x).2.2.2.2) (by omega) () W W' row e6 hg hr, abX_below (β := Unit) (Nat.le_refl _) (by omega) (by omega) () W W' row e7 hg hr⟩)
    ⟨⟨⟨b2, b3, b4⟩, ⟨⟨_, b5, Kd.R_nil _ _ _ _ _⟩, hB1⟩, Nat.le_refl _⟩, by simp⟩
    (fun x a' W => ∃ Bv, w.heap.size + 4 < Bv ∧ W.heap[Bv]? = some (.cells (lineC x.1) 56 (0, 0)) ∧ a' = { tmps := #[.string s, undef, .pointer (some ⟨w.heap.size, 0, none⟩), .pointer (some ⟨w.heap.size + 1, 0, none⟩), .pointer (some ⟨w.heap.size + 2, 0, none⟩), .pointer (some ⟨w.heap.size + 3, 0, none⟩), .pointer (some ⟨Bv, 0, none⟩), undef, undef, undef, .string s, .func (.func 73) #[] #[.pointer (some ⟨w.heap.size + 4, 0, none⟩)], lineV x.1, undef, undef, undef, undef, undef, undef, undef, undef, undef, undef, undef, undef, undef, undef, undef, undef, undef, undef, undef, undef], defers := [] })
    (fun x a' s' W W' row hs hg hr => by
      obtain ⟨Bv, q1, q2, q3⟩ := hs
      exact ⟨Bv, q1, abX_block (β := Unit) (b := Bv) (Bx := w.heap.size + 4) (B := W0.heap.size) (fun _ => .cells (lineC x.1) 56 (0, 0)) (fun _ => rfl) (by omega) () W W' row q2 hg hr, q3⟩)
    ?assign ?body ?done ?stop
  case assign =>
    intro l pre x W K hi hK
    unfold lineV at hK ⊢
    gi_wp2
    obtain ⟨⟨⟨i1, i2, i3⟩, i5, i6⟩, i4⟩ := hi
    exact hK _ _ ((KeepsOthers.alloc _ _).from _) ⟨(Below.refl _ W).alloc (by omega) _, (World.grownBy_alloc W _ none).block (w.heap.size + 4) (by omega) (by simp)⟩
      ⟨⟨⟨i1.alloc _, i2.alloc _, i3.alloc _⟩, (coR_ab _ _ _ _ _ (Nat.le_refl _) (by omega) (by omega) (by omega) W0.heap.size (by omega)).alloc _ i5, by simp; omega⟩, i4⟩ ⟨W.heap.size, by omega, World.alloc_heap_new W _, rfl⟩
  case body =>
    rintro l pre ⟨x, hm⟩ a' W hl ⟨r, hr⟩ ⟨⟨⟨i1, i2, i3⟩, ⟨⟨v, hv, hO⟩, hBel⟩, i6⟩, i4⟩ ⟨Bv, hBv, hcv, rfl⟩ hlen
    have hOf := of_line s hs x hm
    obtain ⟨⟨r1, r2, r3, r4, r5⟩, ho⟩ : ∃ o, ofX x = o := ⟨_, rfl⟩
    rw [ho] at hOf
    have C := row_Of.calls x.f0 x.f1 x.f2 x.f3 r1 r2 r3 r4 r5 W (gt_same hG (Nat.le_refl _) hBel) hOf
    dsimp only at hcv
    have c0 : W.cell? ⟨Bv, 0, none⟩ = some (.int .i64 x.f0) := by simp [World.cell?, hcv, lineC]
    have c1 : W.cell? ⟨Bv, 1, none⟩ = some (.string x.f1) := by simp [World.cell?, hcv, lineC]
    have c2 : W.cell? ⟨Bv, 2, none⟩ = some (.int .u8 x.f2) := by simp [World.cell?, hcv, lineC]
    have c3 : W.cell? ⟨Bv, 3, none⟩ = some (.int .i64 x.f3) := by simp [World.cell?, hcv, lineC]
    dsimp only [lineV]
    have hBv' : Bv < W.heap.size := (Array.getElem?_eq_some_iff.1 hcv).1
    have hsn : ∀ f : S56 → Prop, (∀ y ∈ pre.map Subtype.val, f y) → f x → ∀ y ∈ (pre ++ [(⟨x, hm⟩ : LineIn s)]).map Subtype.val, f y := by
      intro f h1 h2 y hy
      rw [List.map_append] at hy
      rcases List.mem_append.1 hy with h | h
      · exact h1 y h
      · simp at h; rw [h]; exact h2
    by_cases z : r5 = 0
    · have z1 : (r5 != 0) = false := by simp [z]
      subst z
      cases r4 with
      | false =>
        gi_wp2_with (first | (refine ⟨trivial, ?_⟩; gi_at_call 43; refine (callsIn_round C).mono ?_; rintro e W1 ⟨rfl, hb1⟩; have k1 := (i1.kept (grown_below hb1 none) (by simp)).alloc (.cells #[.string r1, .int .u64 r2, .int .u64 r3] 44); have k2 := (i2.kept (grown_below hb1 none) (by simp)).alloc (.cells #[.string r1, .int .u64 r2, .int .u64 r3] 44); have k3 := (i3.kept (grown_below hb1 none) (by simp)).alloc (.cells #[.string r1, .int .u64 r2, .int .u64 r3] 44); have kv := (hv.kept (grown_below hb1 none) (by simp)).alloc (.cells #[.string r1, .int .u64 r2, .int .u64 r3] 44); have k1c := k1.cell; have k1f := k1.frozen; have k2c := k2.cell; have k2f := k2.frozen; have k3c := k3.cell; have k3f := k3.frozen; have kvc := kv.cell; have kvf := kv.frozen; have d0 : (W1.alloc (.cells #[.string r1, .int .u64 r2, .int .u64 r3] 44)).cell? ⟨Bv, 0, none⟩ = some (.int .i64 x.f0) := (((below_alloc hb1 _).cell (p := ⟨Bv, 0, none⟩) hBv').trans c0); have hB2 := below_alloc hb1 (.cells #[.string r1, .int .u64 r2, .int .u64 r3] 44)))
        refine ⟨((KeepsOthers.of_grownBy (grown_below hb1 none) (fun j o ej => by cases ej)).trans (KeepsOthers.alloc _ _)).from _, ⟨hB2.mono (by have := hBel.size; omega), hB2.block _ (by omega)⟩, ⟨⟨⟨k1, k2, k3⟩, ?_, by simp; have := hb1.size; omega⟩, hsn (fun y => (ofX y).2.2.2.2 = 0) i4 (by rw [ho])⟩⟩
        refine ⟨⟨v, kv, ?_⟩, hBel.trans (hB2.mono (by have := hBel.size; omega))⟩
        rw [List.map_append, List.map_cons, List.map_nil, accX_snoc, if_neg (by rw [ho]; exact Bool.false_ne_true)]
        exact Kd.R_alloc (Kd.R_below hO hb1) _
      | true =>
        obtain ⟨i0, hi, hz0, hz1, hz2⟩ := info_parts info44
        gi_wp2_with (first | (refine ⟨trivial, ?_⟩; gi_at_call 43; refine (callsIn_round C).mono ?_; rintro e W1 ⟨rfl, hb1⟩; have k1 := (i1.kept (grown_below hb1 none) (by simp)).alloc (.cells #[.string r1, .int .u64 r2, .int .u64 r3] 44); have k2 := (i2.kept (grown_below hb1 none) (by simp)).alloc (.cells #[.string r1, .int .u64 r2, .int .u64 r3] 44); have k3 := (i3.kept (grown_below hb1 none) (by simp)).alloc (.cells #[.string r1, .int .u64 r2, .int .u64 r3] 44); have kv := (hv.kept (grown_below hb1 none) (by simp)).alloc (.cells #[.string r1, .int .u64 r2, .int .u64 r3] 44); have k1c := k1.cell; have k1f := k1.frozen; have k2c := k2.cell; have k2f := k2.frozen; have k3c := k3.cell; have k3f := k3.frozen; have kvc := kv.cell; have kvf := kv.frozen; have d0 : (W1.alloc (.cells #[.string r1, .int .u64 r2, .int .u64 r3] 44)).cell? ⟨Bv, 0, none⟩ = some (.int .i64 x.f0) := (((below_alloc hb1 _).cell (p := ⟨Bv, 0, none⟩) hBv').trans c0); have hB2 := below_alloc hb1 (.cells #[.string r1, .int .u64 r2, .int .u64 r3] 44)) | (gi_at_builtin; apply Classical.byContradiction; intro hNOT))
        apply hNOT
        clear hNOT
        have hO3 := Kd.R_alloc (Kd.R_alloc (Kd.R_below hO hb1) (.cells #[.string r1, .int .u64 r2, .int .u64 r3] 44)) (.cells #[.string r1, .int .u64 r2, .int .u64 r3] 44)
        obtain ⟨h00, inner, hown, hreps⟩ := hO3
        have hcn := cells_new (W1.alloc (.cells #[.string r1, .int .u64 r2, .int .u64 r3] 44)) #[.string r1, .int .u64 r2, .int .u64 r3] 44
        simp only [World.size_alloc] at hcn
        have hal := accX_len (pre.map Subtype.val)
        rw [List.length_map] at hal
        have hlen2 : (allL s).length ≤ 1000000001 := by
          have e1 := linesL_len (splitB s.data.toList) 1
          have e2 := splitB_len s.data.toList
          have e3 : s.data.toList.length = s.size := by simp
          unfold allL
          omega
        refine wpListIn_append_own_at _ rfl _ _ 34 rfl w.heap.size 44 i0 _ 3 32 Tryd.underlying34 hi hz0 hz1 hz2 rfl (by decide) _ _ _ rfl hown ⟨W1.heap.size + 1, 0, none⟩ 1 1 _ rfl rfl hcn (by simp [Value.oneCell']) (by unfold maxLen; omega) (by omega) (by simp; have := hb1.size; omega) ?_
        intro v' w1 hown' hgrow _ hat
        obtain ⟨g', cap', rfl⟩ := ownsRow_succ hown'
        have hO3 := Kd.R_alloc (Kd.R_alloc (Kd.R_below hO hb1) (.cells #[.string r1, .int .u64 r2, .int .u64 r3] 44)) (.cells #[.string r1, .int .u64 r2, .int .u64 r3] 44)
        have kv3 := kv.alloc (.cells #[.string r1, .int .u64 r2, .int .u64 r3] 44)
        have k13 := k1.alloc (.cells #[.string r1, .int .u64 r2, .int .u64 r3] 44)
        have k23 := k2.alloc (.cells #[.string r1, .int .u64 r2, .int .u64 r3] 44)
        have k33 := k3.alloc (.cells #[.string r1, .int .u64 r2, .int .u64 r3] 44)
        have hv1' := kv3.kept hgrow (Kd.R_ne hO3 kv3 (by decide))
        have h11' := k13.kept hgrow (Kd.R_ne hO3 k13 (by decide))
        have h21' := k23.kept hgrow (Kd.R_ne hO3 k23 (by decide))
        have h31' := k33.kept hgrow (Kd.R_ne hO3 k33 (by decide))
        have hc1 := hv1'.cell
        have hfr1 := hv1'.frozen
        have hO1 : Kd.R k44 44 w1 w.heap.size (fun k => k ≠ w.heap.size + 4) _ (accX (pre.map Subtype.val) ++ [(⟨r1, ⟨r2, r3⟩⟩ : S44)]) :=
          Kd.R_appended h00 hreps (k44_mkM _ w.heap.size (fun _ => False) (⟨r1, ⟨r2, r3⟩⟩ : S44)) (fun _ hk => hk.elim) (fun k hk => by simp at hk; have := hb1.size; omega) hown' hgrow (hat.imp_right fun h => ⟨_, h, Nat.le_refl _⟩)
        have hBv2 : some (w.heap.size + 3) ≠ (Value.slice (some ⟨g', 0, none⟩) ((accX (pre.map Subtype.val)).length + 1) cap').ownBlock := Kd.R_ne hO1 hv1' (by decide)
        have hty := Kd.R_typed hO3
        have hbs := Kd.R_base hO
        have hbx : some (w.heap.size + 4) ≠ v.ownBlock := fun e => hO.1 (w.heap.size + 4) e.symm rfl
        have hsz1 := hgrow.size
        have hsz2 := hb1.size
        have hB3 : Below w.heap.size W1 (w1.setCell ⟨w.heap.size + 3, 0, none⟩ (.slice (some ⟨g', 0, none⟩) ((accX (pre.map Subtype.val)).length + 1) cap')) :=
          (((((Below.refl w.heap.size W1).alloc (by omega) _).alloc (by simp; omega) _).grown hgrow (by simp; omega) (fun j ej => hbs j ej)).setCell (p := ⟨w.heap.size + 3, 0, none⟩) (by simp) _)
        have hB4 := (hb1.mono (show w.heap.size ≤ W.heap.size by omega)).trans hB3
        gi_wp2
        refine ⟨?_, ⟨hB4, ?_⟩, ⟨⟨⟨?_, ?_, ?_⟩, ⟨⟨_, hv1'.set _, ?_⟩, hBel.trans hB4⟩, ?_⟩, hsn (fun y => (ofX y).2.2.2.2 = 0) i4 (by rw [ho])⟩⟩
        · refine (((((KeepsOthers.of_grownBy (grown_below hb1 none) (fun j o ej => by cases ej)).trans (KeepsOthers.alloc W1 _)).trans (KeepsOthers.alloc _ _)).trans (KeepsOthers.of_grownBy hgrow fun j o ej hj => ?_)).trans (KeepsOthers.setCell _ _ _)).from _
          obtain ⟨cells, hk⟩ := hty j ej
          have hj' := hk.symm.trans hj
          cases hj'
          rfl
        · rw [Below.heap_setCell _ _ _ _ (by simp), hgrow.block (w.heap.size + 4) (by simp; omega) hbx]
          exact ((World.grownBy_alloc _ _ none).block (w.heap.size + 4) (by simp; omega) (by simp)).trans (((World.grownBy_alloc W1 _ none).block (w.heap.size + 4) (by omega) (by simp)).trans (hb1.block _ (by omega)))
        · exact h11'.other (by omega) _
        · exact h21'.other (by omega) _
        · exact h31'.other (by omega) _
        · have e9 : accX ((pre ++ [(⟨x, hm⟩ : LineIn s)]).map Subtype.val) = accX (pre.map Subtype.val) ++ [(⟨r1, ⟨r2, r3⟩⟩ : S44)] := by
            rw [List.map_append, List.map_cons, List.map_nil, accX_snoc, if_pos (by rw [ho])]
            unfold rowX
            rw [ho]
          show Kd.R k44 44 _ _ _ _ (accX ((pre ++ [(⟨x, hm⟩ : LineIn s)]).map Subtype.val))
          rw [e9]
          exact Kd.R_grown2 hO1 rfl (grownBy_setCell' w1 (w.heap.size + 3) _) (fun k e => by cases e; exact hBv2)
        · simp; simp at hsz1; omega
    · have z1 : (r5 != 0) = true := by simp [z]
      gi_wp2_with (first | (refine ⟨trivial, ?_⟩; gi_at_call 43; refine (callsIn_round C).mono ?_; rintro e W1 ⟨rfl, hb1⟩; have k1 := (i1.kept (grown_below hb1 none) (by simp)).alloc (.cells #[.string r1, .int .u64 r2, .int .u64 r3] 44); have k2 := (i2.kept (grown_below hb1 none) (by simp)).alloc (.cells #[.string r1, .int .u64 r2, .int .u64 r3] 44); have k3 := (i3.kept (grown_below hb1 none) (by simp)).alloc (.cells #[.string r1, .int .u64 r2, .int .u64 r3] 44); have kv := (hv.kept (grown_below hb1 none) (by simp)).alloc (.cells #[.string r1, .int .u64 r2, .int .u64 r3] 44); have k1c := k1.cell; have k1f := k1.frozen; have k2c := k2.cell; have k2f := k2.frozen; have k3c := k3.cell; have k3f := k3.frozen; have kvc := kv.cell; have kvf := kv.frozen; have d0 : (W1.alloc (.cells #[.string r1, .int .u64 r2, .int .u64 r3] 44)).cell? ⟨Bv, 0, none⟩ = some (.int .i64 x.f0) := (((below_alloc hb1 _).cell (p := ⟨Bv, 0, none⟩) hBv').trans c0); have hB2 := below_alloc hb1 (.cells #[.string r1, .int .u64 r2, .int .u64 r3] 44)))
      gi_region_with_o fail
      all_goals gi_wp2
      all_goals exact ⟨((((((KeepsOthers.of_grownBy (grown_below hb1 none) (fun j o ej => by cases ej)).trans (KeepsOthers.alloc W1 _)).trans (KeepsOthers.setCell _ _ _)).trans (KeepsOthers.setCell _ _ _)).trans (KeepsOthers.setCell _ _ _)).trans (KeepsOthers.drew _)).from _, rfl, pre.map Subtype.val, x, by simp, i4, by rw [ho]; exact z,
        (((k1.set _).other (by omega) _).other (by omega) _), (((k2.other (by omega) _).set _).other (by omega) _), by rw [ho]; exact (((k3.other (by omega) _).other (by omega) _).set _),
        hBel.trans ((hB2.mono (by have := hBel.size; omega)).trans (((((Below.refl w.heap.size _).setCell (p := ⟨w.heap.size, 0, none⟩) (Nat.le_refl _) _).setCell (p := ⟨w.heap.size + 1, 0, none⟩) (by simp) _).setCell (p := ⟨w.heap.size + 2, 0, none⟩) (by simp) _).drew))⟩
  case done =>
    rintro D ys W hD hys ⟨⟨⟨i1, i2, i3⟩, ⟨⟨v, hv, hO⟩, hBel⟩, i6⟩, i4⟩ hK
    rw [hys] at hO i4
    have hres := rowsL_ok (splitB s.data.toList) 1 [] i4
    rw [List.nil_append] at hres
    obtain ⟨Ao, co, rfl⟩ := Kd.R_slice hO
    have j1 := i1.cell
    have j2 := i1.frozen
    have j3 := i2.cell
    have j4 := i2.frozen
    have j5 := i3.cell
    have j6 := i3.frozen
    have j7 := hv.cell
    have j8 := hv.frozen
    go_wp2
    rw [Exit.noGoto_ret]
    have k1 := (((i1.set (.slice Ao (accX (allL s)).length co)).other (B' := w.heap.size + 1) (by omega) (.int .i64 0)).other (B' := w.heap.size + 2) (by omega) (.int .i64 0))
    have k2 := (((i2.other (B' := w.heap.size) (by omega) (.slice Ao (accX (allL s)).length co)).set (.int .i64 0)).other (B' := w.heap.size + 2) (by omega) (.int .i64 0))
    have k3 := (((i3.other (B' := w.heap.size) (by omega) (.slice Ao (accX (allL s)).length co)).other (B' := w.heap.size + 1) (by omega) (.int .i64 0)).set (.int .i64 0))
    have r1 := Kd.R_grown2 hO rfl (grownBy_setCell' W w.heap.size (.slice Ao (accX (allL s)).length co)) (fun k e => by cases e; exact Kd.R_ne hO i1 (by decide))
    have m2 := (i2.other (B' := w.heap.size) (by omega) (.slice Ao (accX (allL s)).length co))
    have r2 := Kd.R_grown2 r1 rfl (grownBy_setCell' _ (w.heap.size + 1) (.int .i64 0)) (fun k e => by cases e; exact Kd.R_ne r1 m2 (by decide))
    have m3 := (i3.other (B' := w.heap.size) (by omega) (.slice Ao (accX (allL s)).length co)).other (B' := w.heap.size + 1) (by omega) (.int .i64 0)
    have r3 := Kd.R_grown2 r2 rfl (grownBy_setCell' _ (w.heap.size + 2) (.int .i64 0)) (fun k e => by cases e; exact Kd.R_ne r2 m3 (by decide))
    have hb := (((Below.refl w.heap.size W).setCell (p := ⟨w.heap.size, 0, none⟩) (Nat.le_refl _) (.slice Ao (accX (allL s)).length co)).setCell (p := ⟨w.heap.size + 1, 0, none⟩) (by simp) (.int .i64 0)).setCell (p := ⟨w.heap.size + 2, 0, none⟩) (by simp) (.int .i64 0)
    have hK2 : (((W.setCell ⟨w.heap.size, 0, none⟩ (.slice Ao (accX (allL s)).length co)).setCell ⟨w.heap.size + 1, 0, none⟩ (.int .i64 0)).setCell ⟨w.heap.size + 2, 0, none⟩ (.int .i64 0)).heap[D]? = some (.deferred (some [])) := by
      rw [Below.heap_setCell _ _ _ _ (by simp; omega), Below.heap_setCell _ _ _ _ (by simp; omega), Below.heap_setCell _ _ _ _ (by simp; omega)]; exact hK
    have q1 := k1.kept (grownBy_putObj' _ D (.deferred none)) (by simp; omega)
    have q2 := k2.kept (grownBy_putObj' _ D (.deferred none)) (by simp; omega)
    have q3 := k3.kept (grownBy_putObj' _ D (.deferred none)) (by simp; omega)
    refine ⟨by simp, .inl ⟨_, _, rfl, run_takeDeferred hK2, ?_⟩⟩
    refine ⟨_, res3 _ _ _ _ _ rfl rfl rfl q1 q2 q3, ?_⟩
    rw [hres]
    refine ⟨_, rfl, ?_, ?_⟩
    · refine Kd.R_mono (Kd.R_grown2 r3 rfl (grownBy_putObj' _ D _) fun k e e' => ?_) (fun _ _ => trivial)
      cases e
      obtain ⟨cells, hk⟩ := Kd.R_typed r3 D e'.symm
      rw [hK2] at hk
      cases hk
    · exact (hBel.trans hb).trans ((Below.refl _ _).grown (grownBy_putObj' _ D _) (by have := i1.lt; simp; omega) (fun k e => by cases e; omega))
  case stop =>
    rintro D c pre W hD hp ⟨rfl, p, x, e1, e2, e3, e4, e5, e6, e7⟩ hK
    have hres : rowsL 1 [] (splitB s.data.toList) = ([], x.f0, (ofX x).2.2.2.2) := by
      obtain ⟨r, hr⟩ := hp
      refine rowsL_bad (splitB s.data.toList) 1 [] p x r ?_ e2 e3
      show allL s = _
      rw [← hr, e1, List.append_assoc]
      rfl
    refine wpIn_wide.2 ?_
    go_wp2
    rw [Exit.noGoto_ret]
    have q1 := e4.kept (grownBy_putObj' _ D (.deferred none)) (by simp; omega)
    have q2 := e5.kept (grownBy_putObj' _ D (.deferred none)) (by simp; omega)
    have q3 := e6.kept (grownBy_putObj' _ D (.deferred none)) (by simp; omega)
    refine ⟨by simp, .inl ⟨_, _, rfl, run_takeDeferred hK, ?_⟩⟩
    refine ⟨_, res3 _ _ _ _ _ rfl rfl rfl q1 q2 q3, ?_⟩
    rw [hres]
    exact ⟨_, rfl, Kd.R_nil _ _ _ _ _, e7.trans ((Below.refl _ W).grown (grownBy_putObj' W D _) (by have := e4.lt; omega) (fun k e => by cases e; omega))⟩
theorem row_All.calls (a0 : ByteArray) (r1 : List S44) (r2 r3 : Int) (w : World) (hG : GT w) (h : row_All.f a0 = some (r1, r2, r3)) :
    Calls Tryd.prog 45 #[.string a0] w fun e w' => ∃ v0_ : Value, e = .returned (.tuple #[v0_, .int .i64 r2, .int .i64 r3]) ∧ Kd.R k44 44 w' w.heap.size (fun _ => True) v0_ r1 ∧ Below w.heap.size w w' := by
  unfold row_All.f at h
  split at h
  · rename_i hs
    have e := Option.some.inj h
    have := callsIn_wide.1 (rowAll_is a0 hs w hG)
    rw [e] at this
    exact this
  · cases h
end Go.Proofs.YtpkjpiphjdpegaaDoor.P
namespace Go.Proofs.YtpkjpiphjdpegaaDoor.P
open Go.RowKit Go.Proofs.YtpkjpiphjdpegaaDoorW.PrintWords Go.Proofs.YtpkjpiphjdpegaaDoorW.PrintLast Go.Proofs.YtpkjpiphjdpegaaDoorW.PrintMore
attribute [local go_sem] max2_int min2_int max_two min_two max_three min_three max_four min_four
set_option linter.unusedVariables false
set_option linter.unusedSimpArgs false
attribute [local go_sem high] eqA44
def paymasterlaw10_Long.l0 : Nat → List (S44) → Int → Option (Bool)
  | 0, _, _ => none
  | k + 1, x0, x3 => if x3 < (x0.length : Int) then (if 0 ≤ x3 then (if (((rd_T44 x0 x3).f0).size : Int) > 200 then (some true) else (paymasterlaw10_Long.l0 k x0 (wrap64 (x3 + 1)))) else (none)) else (some false)
def paymasterlaw10_Long.f (k : Nat) (l0 : List (S44)) : Option (Bool) := if (l0.length : Int) > 200 then (some true) else (paymasterlaw10_Long.l0 k l0 0)
set_option maxHeartbeats 8000000 in
set_option maxRecDepth 100000 in
theorem paymasterlaw10_Long.calls (k : Nat) (A0 : Option Addr) (c0 : Nat) (l0 : List (S44)) (r : Bool) (w : World) (hr0 : Kd.C k44 w A0 l0.length l0) (hc0 : l0.length ≤ c0) (h : paymasterlaw10_Long.f k l0 = some r) :
    Calls Tryd.prog 26 #[.slice A0 l0.length c0] w fun e w' => e = .returned (.bool r) ∧ Drawn0 w w' := by
  have HR0 := Aside0.mk hr0
  have HC0 := Aside0.mk hc0
  clear hr0 hc0
  have H : (if (l0.length : Int) > 200 then (some true) else (paymasterlaw10_Long.l0 k l0 0)) = some r := h
  clear h
  by_cases c2 : (l0.length : Int) > 200
  · rw [if_pos c2] at H
    have c2b0 : decide (200 < (l0.length : Int)) = true := decide_eq_true c2
    have c2b1 : decide (200 < l0.length) = true := decide_eq_true (by omega)
    clear c2
    obtain rfl := Option.some.inj H
    go_enter Tryd.func26, Tryd.ntmps26
    go_wp2
    go_ret
    exact ⟨by first | rfl | (simp; done) | (simp [*]; done), by repeat (first | exact Drawn0.refl _ | apply Drawn0.step)⟩
  · rw [if_neg c2] at H
    have c2b0 : decide (200 < (l0.length : Int)) = false := decide_eq_false c2
    have c2b1 : decide (200 < l0.length) = false := decide_eq_false (by omega)
    clear c2
    have H' := Aside0.mk H
    clear H
    go_enter Tryd.func26, Tryd.ntmps26
    go_wp2
    go_loopg [3] k (fun kq v3 w' => ∃ (x3_1 : Int), v3 = .int .i64 x3_1 ∧ Aside0 (paymasterlaw10_Long.l0 kq l0 x3_1 = some r) ∧ Aside0 (kq ≤ k) ∧ Drawn0 w w')
    case atStart => exact ⟨(0), (by first | rfl | (simp; done) | (simp [*]; done)), H', ⟨Nat.le_refl _⟩, by repeat (first | exact Drawn0.refl _ | apply Drawn0.step)⟩
    case round =>
      clear H'
      try clear c2
      try clear c2b0
      try clear c2b1
      try clear p2
      obtain ⟨x3_1, rfl, HA, HK1, ⟨m1, rfl⟩⟩ := hrel
      cases gk with
      | zero => exact absurd HA.out (by simp [paymasterlaw10_Long.l0])
      | succ k1 =>
        have H := HA.out
        clear HA
        simp only [paymasterlaw10_Long.l0] at H
        by_cases c3 : x3_1 < (l0.length : Int)
        · rw [if_pos c3] at H
          have c3b0 : decide (x3_1 < (l0.length : Int)) = true := decide_eq_true c3
          clear c3
          by_cases c4 : 0 ≤ x3_1
          · rw [if_pos c4] at H
            have c4b0 : decide (0 ≤ x3_1) = true := decide_eq_true c4
            clear c4
            by_cases c5 : (((rd_T44 l0 x3_1).f0).size : Int) > 200
            · rw [if_pos c5] at H
              have c5b0 : decide (200 < (((rd_T44 l0 x3_1).f0).size : Int)) = true := decide_eq_true c5
              have c5b1 : decide (200 < ((rd_T44 l0 x3_1).f0).size) = true := decide_eq_true (by omega)
              clear c5
              obtain rfl := Option.some.inj H
              have p828 : 0 ≤ (x3_1 : Int) := of_decide_eq_true (by first | (with_reducible assumption) | assumption)
              have q828 : x3_1 < (l0.length : Int) := of_decide_eq_true (by first | (with_reducible assumption) | assumption)
              obtain ⟨ad828, e828, hx828_0, hx828_1, hx828_2⟩ := at_T44 HR0.out x3_1 p828 q828
              cases e828
              replace p828 := eq_true p828
              replace q828 := eq_true q828
              go_wp2
              go_ret
              exact ⟨by first | rfl | (simp; done) | (simp [*]; done), by repeat (first | exact Drawn0.refl _ | apply Drawn0.step)⟩
            · rw [if_neg c5] at H
              have c5b0 : decide (200 < (((rd_T44 l0 x3_1).f0).size : Int)) = false := decide_eq_false c5
              have c5b1 : decide (200 < ((rd_T44 l0 x3_1).f0).size) = false := decide_eq_false (by omega)
              clear c5
              have H' := Aside0.mk H
              clear H
              have p828 : 0 ≤ (x3_1 : Int) := of_decide_eq_true (by first | (with_reducible assumption) | assumption)
              have q828 : x3_1 < (l0.length : Int) := of_decide_eq_true (by first | (with_reducible assumption) | assumption)
              obtain ⟨ad828, e828, hx828_0, hx828_1, hx828_2⟩ := at_T44 HR0.out x3_1 p828 q828
              cases e828
              replace p828 := eq_true p828
              replace q828 := eq_true q828
              go_wp2
              go_roundg k1
              case measure => have := HK1.out; omega
              case rel => exact ⟨(wrap64 (x3_1 + 1)), (by first | rfl | (simp; done) | (simp [*]; done)), H', ⟨by have := HK1.out; omega⟩, by repeat (first | exact Drawn0.refl _ | apply Drawn0.step)⟩
          · rw [if_neg c4] at H
            exact absurd H (by simp)
        · rw [if_neg c3] at H
          have c3b0 : decide (x3_1 < (l0.length : Int)) = false := decide_eq_false c3
          clear c3
          obtain rfl := Option.some.inj H
          go_wp2
          go_ret
          exact ⟨by first | rfl | (simp; done) | (simp [*]; done), by repeat (first | exact Drawn0.refl _ | apply Drawn0.step)⟩
end Go.Proofs.YtpkjpiphjdpegaaDoor.P
