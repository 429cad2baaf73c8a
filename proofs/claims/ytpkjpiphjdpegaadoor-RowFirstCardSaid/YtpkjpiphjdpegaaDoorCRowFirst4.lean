/- A program of this session wrote this text out of the session's own texts. (part 4 of 5) -/
import Derived.Test.YtpkjpiphjdpegaaDoorCRowFirst3
namespace Go.Proofs.YtpkjpiphjdpegaaDoor.P
open Go.RowKit Go.Proofs.YtpkjpiphjdpegaaDoorW.PrintWords Go.Proofs.YtpkjpiphjdpegaaDoorW.PrintLast Go.Proofs.YtpkjpiphjdpegaaDoorW.PrintMore
attribute [local go_sem] max2_int min2_int max_two min_two max_three min_three max_four min_four
set_option linter.unusedVariables false
set_option linter.unusedSimpArgs false
def row_Parse.f (a0 : ByteArray) : Option (ByteArray × Int × Int × Int) := (strings_Cut.f a0 (⟨#[32]⟩ : ByteArray)).bind fun bt366 => ((decimal_Parse.f bt366.2.1).bind fun bt369 => (if bt366.2.2 = true then ((tag_MayId.f bt366.1).bind fun t373 => (if t373 = true then (if bt369.2.2 = 0 then (some (bt366.1, bt369.1, bt369.2.1, 0)) else (some ((⟨#[]⟩ : ByteArray), 0, 0, 102))) else (some ((⟨#[]⟩ : ByteArray), 0, 0, 101)))) else (some ((⟨#[]⟩ : ByteArray), 0, 0, 100))))
set_option maxHeartbeats 8000000 in
set_option maxRecDepth 100000 in
theorem row_Parse.calls (a0 : ByteArray) (r1 : ByteArray) (r2 : Int) (r3 : Int) (r4 : Int) (w : World) (hG : GT w) (h : row_Parse.f a0 = some (r1, r2, r3, r4)) :
    Calls Tryd.prog 47 #[.string a0] w fun e w' => e = .returned (.tuple #[.agg #[.string r1, .int .u64 r2, .int .u64 r3], .int .i64 r4]) ∧ Below w.heap.size w w' := by
  have hu44 := Tryd.underlying44
  have hu42 := Tryd.underlying42
  have HB := Aside0.mk (Below.refl w.heap.size w)
  have H : ((strings_Cut.f a0 (⟨#[32]⟩ : ByteArray)).bind fun bt366 => ((decimal_Parse.f bt366.2.1).bind fun bt369 => (if bt366.2.2 = true then ((tag_MayId.f bt366.1).bind fun t373 => (if t373 = true then (if bt369.2.2 = 0 then (some (bt366.1, bt369.1, bt369.2.1, 0)) else (some ((⟨#[]⟩ : ByteArray), 0, 0, 102))) else (some ((⟨#[]⟩ : ByteArray), 0, 0, 101)))) else (some ((⟨#[]⟩ : ByteArray), 0, 0, 100))))) = some (r1, r2, r3, r4) := h
  clear h
  replace H := Option.bind_eq_some_iff.mp H
  obtain ⟨⟨t366, t367, t368⟩, A20, H⟩ := H
  replace H : ((decimal_Parse.f t367).bind fun bt369 => (if t368 = true then ((tag_MayId.f t366).bind fun t373 => (if t373 = true then (if bt369.2.2 = 0 then (some (t366, bt369.1, bt369.2.1, 0)) else (some ((⟨#[]⟩ : ByteArray), 0, 0, 102))) else (some ((⟨#[]⟩ : ByteArray), 0, 0, 101)))) else (some ((⟨#[]⟩ : ByteArray), 0, 0, 100)))) = some (r1, r2, r3, r4) := H
  have A2 := Aside0.mk A20
  clear A20
  replace H := Option.bind_eq_some_iff.mp H
  obtain ⟨⟨t369, t370, t371⟩, A30, H⟩ := H
  replace H : (if t368 = true then ((tag_MayId.f t366).bind fun t373 => (if t373 = true then (if t371 = 0 then (some (t366, t369, t370, 0)) else (some ((⟨#[]⟩ : ByteArray), 0, 0, 102))) else (some ((⟨#[]⟩ : ByteArray), 0, 0, 101)))) else (some ((⟨#[]⟩ : ByteArray), 0, 0, 100))) = some (r1, r2, r3, r4) := H
  have A3 := Aside0.mk A30
  clear A30
  by_cases c4 : t368 = true
  · subst c4
    have H1 : ((tag_MayId.f t366).bind fun t373 => (if t373 = true then (if t371 = 0 then (some (t366, t369, t370, 0)) else (some ((⟨#[]⟩ : ByteArray), 0, 0, 102))) else (some ((⟨#[]⟩ : ByteArray), 0, 0, 101)))) = some (r1, r2, r3, r4) := by rw [if_pos rfl] at H; exact H
    clear H
    have H := H1
    clear H1
    replace H := Option.bind_eq_some_iff.mp H
    obtain ⟨t373, A50, H⟩ := H
    replace H : (if t373 = true then (if t371 = 0 then (some (t366, t369, t370, 0)) else (some ((⟨#[]⟩ : ByteArray), 0, 0, 102))) else (some ((⟨#[]⟩ : ByteArray), 0, 0, 101))) = some (r1, r2, r3, r4) := H
    have A5 := Aside0.mk A50
    clear A50
    by_cases c6 : t373 = true
    · subst c6
      have H1 : (if t371 = 0 then (some (t366, t369, t370, 0)) else (some ((⟨#[]⟩ : ByteArray), 0, 0, 102))) = some (r1, r2, r3, r4) := by rw [if_pos rfl] at H; exact H
      clear H
      have H := H1
      clear H1
      by_cases c7 : t371 = 0
      · rw [if_pos c7] at H
        have c7b0 : (t371 == 0) = true := beq_iff_eq.mpr c7
        have c7b1 : (t371 != 0) = false := bne_eq_false_iff_eq.mpr c7
        clear c7
        simp only [Option.some.injEq, Prod.mk.injEq] at H
        obtain ⟨rfl, rfl, rfl, rfl⟩ := H
        go_enter Tryd.func47, Tryd.ntmps47
        go_wp2_with (first | ((with_reducible refine gate_dst (N := 2) rfl ?_); refine box_event ?hg (N := 2) ?hd (cs := #[.string (⟨#[]⟩ : ByteArray), .int .u64 0, .int .u64 0]) (t := 44) ?hr ?_; (case hd => rfl); (case hg => rfl); (case hr => first | (go_simp; done) | (go_simp; rfl)); intro gb365 hg w8 hbox hb; have n0_ := Aside0.mk (below_step (by repeat (first | (with_reducible first | exact HB.out | apply below_alloc | apply pw_below_drewN | apply below_drew1) | exact HB.out)) hb); have n1_ := Aside0.mk (hbox); have n2_ := Aside0.mk ((by rw [hg]; exact (below_size (by repeat (first | (with_reducible first | exact HB.out | apply below_alloc | apply pw_below_drewN | apply below_drew1) | exact HB.out))) : w.heap.size ≤ gb365)); have n3_ := Aside0.mk ((by rw [hg]; exact (below_size (by repeat (first | (with_reducible first | exact HB.out | apply below_alloc | apply pw_below_drewN | apply below_drew1) | exact HB.out))) : w.heap.size ≤ gb365)); clear HB; have HB := n0_; have BK365 := n1_; have GW365 := n2_; have GE365 := n3_; clear n0_ n1_ n2_ n3_; clear hb hbox hg) | ((with_reducible refine gate_callee (f := 74) rfl ?_); refine goesL_ (some 11) rfl rfl Tryd.func74 (by kernel_rfl) rfl #[.string a0, .string (⟨#[32]⟩ : ByteArray)] rfl (by (try simp only [List.map_toArray, List.map_cons, List.map_nil]); first | done | rfl | (simp only [List.length_drop, List.length_take]; rfl)) ?_; (with_reducible refine (strings_Cut.calls a0 (⟨#[32]⟩ : ByteArray) t366 t367 true _ A2.out).mono ?_); rintro e w9 ⟨rfl, hb⟩; refine ⟨_, rfl, ?_⟩; have n0_ := Aside0.mk (blk_below (g := gb365) (o := .cells #[.string (⟨#[]⟩ : ByteArray), .int .u64 0, .int .u64 0] 44 (0, 0)) (by (with_reducible repeat (first | refine blk_drewN ?_ _ | refine blk_drew ?_ | refine blk_alloc ?_ _)); exact BK365.out) hb); have n1_ := Aside0.mk (below_step (by repeat (first | (with_reducible first | exact HB.out | apply below_alloc | apply pw_below_drewN | apply below_drew1 | refine below_set ?_ GE365.out) | exact HB.out)) hb); clear BK365; clear HB; have BK365 := n0_; have HB := n1_; clear n0_ n1_; (try clear hb); (try clear hb2); (try clear hk); (try clear hi)) | ((with_reducible refine gate_callee (f := 84) rfl ?_); refine goesL_ (some 17) rfl rfl Tryd.func84 (by kernel_rfl) rfl #[.string t367] rfl (by (try simp only [List.map_toArray, List.map_cons, List.map_nil]); first | done | rfl | (simp only [List.length_drop, List.length_take]; rfl)) ?_; (with_reducible refine (decimal_Parse.calls t367 t369 t370 t371 _ A3.out).mono ?_); rintro e w10 ⟨rfl, hb⟩; refine ⟨_, rfl, ?_⟩; have n0_ := Aside0.mk (blk_below (g := gb365) (o := .cells #[.string (⟨#[]⟩ : ByteArray), .int .u64 0, .int .u64 0] 44 (0, 0)) (by (with_reducible repeat (first | refine blk_drewN ?_ _ | refine blk_drew ?_ | refine blk_alloc ?_ _)); exact BK365.out) hb); have n1_ := Aside0.mk (below_step (by repeat (first | (with_reducible first | exact HB.out | apply below_alloc | apply pw_below_drewN | apply below_drew1 | refine below_set ?_ GE365.out) | exact HB.out)) hb); clear BK365; clear HB; have BK365 := n0_; have HB := n1_; clear n0_ n1_; (try clear hb); (try clear hb2); (try clear hk); (try clear hi)) | ((with_reducible refine gate_dst (N := 7) rfl ?_); refine box_event ?hg (N := 7) ?hd (cs := #[.int .u64 0, .int .u64 0]) (t := 42) ?hr ?_; (case hd => rfl); (case hg => rfl); (case hr => first | (go_simp; done) | (go_simp; rfl)); intro gb372 hg w11 hbox hb; have n0_ := Aside0.mk (blk_below (g := gb365) (o := .cells #[.string (⟨#[]⟩ : ByteArray), .int .u64 0, .int .u64 0] 44 (0, 0)) (by (with_reducible repeat (first | refine blk_drewN ?_ _ | refine blk_drew ?_ | refine blk_alloc ?_ _)); exact BK365.out) hb); have n1_ := Aside0.mk (below_step (by repeat (first | (with_reducible first | exact HB.out | apply below_alloc | apply pw_below_drewN | apply below_drew1 | refine below_set ?_ GE365.out) | exact HB.out)) hb); have n2_ := Aside0.mk (hbox); have n3_ := Aside0.mk ((by rw [hg]; exact (below_size (by repeat (first | (with_reducible first | exact HB.out | apply below_alloc | apply pw_below_drewN | apply below_drew1 | refine below_set ?_ GE365.out) | exact HB.out))) : w.heap.size ≤ gb372)); have n4_ := Aside0.mk ((by rw [hg]; exact (below_size (by repeat (first | (with_reducible first | exact HB.out | apply below_alloc | apply pw_below_drewN | apply below_drew1 | refine below_set ?_ GE365.out) | exact HB.out))) : w.heap.size ≤ gb372)); have n5_ := Aside0.mk ((by rw [hg]; exact Nat.ne_of_lt (blk_lt (g := gb365) (o := .cells #[.string (⟨#[]⟩ : ByteArray), .int .u64 0, .int .u64 0] 44 (0, 0)) (by (with_reducible repeat (first | refine blk_drewN ?_ _ | refine blk_drew ?_ | refine blk_alloc ?_ _)); exact BK365.out)) : gb365 ≠ gb372)); have n6_ := Aside0.mk ((by rw [hg]; exact Nat.ne_of_gt (blk_lt (g := gb365) (o := .cells #[.string (⟨#[]⟩ : ByteArray), .int .u64 0, .int .u64 0] 44 (0, 0)) (by (with_reducible repeat (first | refine blk_drewN ?_ _ | refine blk_drew ?_ | refine blk_alloc ?_ _)); exact BK365.out)) : gb372 ≠ gb365)); clear BK365; clear HB; have BK365 := n0_; have HB := n1_; have BK372 := n2_; have GW372 := n3_; have GE372 := n4_; have NB365_372 := n5_; have NB372_365 := n6_; clear n0_ n1_ n2_ n3_ n4_ n5_ n6_; clear hb hbox hg; have hnb12 := NB372_365.out; have hnc12 := NB365_372.out; have hcz13_0 : w11.cell? ⟨gb372, 0, none⟩ = some (.int .u64 0) := (blk_cell BK372.out 0).trans rfl; have hcz13_1 : w11.cell? ⟨gb372, 1, none⟩ = some (.int .u64 0) := (blk_cell BK372.out 1).trans rfl; have hfz13_0 := blk_frozen BK372.out 0; have hfz13_1 := blk_frozen BK372.out 1) | ((with_reducible refine gate_callee (f := 51) rfl ?_); refine goesL_ (some 26) rfl rfl Tryd.func51 (by kernel_rfl) rfl #[.string t366] rfl (by (try simp only [List.map_toArray, List.map_cons, List.map_nil]); first | done | rfl | (simp only [List.length_drop, List.length_take]; rfl)) ?_; (with_reducible refine (tag_MayId.calls t366 true _ ?side1 A5.out).mono ?_); (case side1 => exact gt_below hG (by repeat (first | (with_reducible first | exact HB.out | apply below_alloc | apply pw_below_drewN | apply below_drew1 | refine below_set ?_ GE365.out | refine below_set ?_ GE372.out) | exact HB.out))); rintro e w14 ⟨rfl, hb⟩; refine ⟨_, rfl, ?_⟩; have n0_ := Aside0.mk (blk_below (g := gb365) (o := .cells #[.string (⟨#[]⟩ : ByteArray), .int .u64 0, .int .u64 0] 44 (0, 0)) (by (with_reducible repeat (first | refine blk_drewN ?_ _ | refine blk_drew ?_ | refine blk_alloc ?_ _)); refine blk_far ?_ NB365_372.out _; (with_reducible repeat (first | refine blk_drewN ?_ _ | refine blk_drew ?_ | refine blk_alloc ?_ _)); refine blk_far ?_ NB365_372.out _; (with_reducible repeat (first | refine blk_drewN ?_ _ | refine blk_drew ?_ | refine blk_alloc ?_ _)); exact BK365.out) hb); have n1_ := Aside0.mk (blk_below (g := gb372) (o := .cells #[.int .u64 t369, .int .u64 t370] 42 (0, 0)) (by (with_reducible repeat (first | refine blk_drewN ?_ _ | refine blk_drew ?_ | refine blk_alloc ?_ _)); refine blk_put (cs := #[.int .u64 t369, .int .u64 0]) ?_ 1 _ rfl; (with_reducible repeat (first | refine blk_drewN ?_ _ | refine blk_drew ?_ | refine blk_alloc ?_ _)); refine blk_put (cs := #[.int .u64 0, .int .u64 0]) ?_ 0 _ rfl; (with_reducible repeat (first | refine blk_drewN ?_ _ | refine blk_drew ?_ | refine blk_alloc ?_ _)); exact BK372.out) hb); have n2_ := Aside0.mk (below_step (by repeat (first | (with_reducible first | exact HB.out | apply below_alloc | apply pw_below_drewN | apply below_drew1 | refine below_set ?_ GE365.out | refine below_set ?_ GE372.out) | exact HB.out)) hb); clear BK365; clear BK372; clear HB; have BK365 := n0_; have BK372 := n1_; have HB := n2_; clear n0_ n1_ n2_; (try clear hb); (try clear hb2); (try clear hk); (try clear hi); have hcz15_0 : w14.cell? ⟨gb372, 0, none⟩ = some (.int .u64 t369) := (blk_cell BK372.out 0).trans rfl; have hcz15_1 : w14.cell? ⟨gb372, 1, none⟩ = some (.int .u64 t370) := (blk_cell BK372.out 1).trans rfl; have hfz15_0 := blk_frozen BK372.out 0; have hfz15_1 := blk_frozen BK372.out 1; have hcz16_0 : w14.cell? ⟨gb365, 0, none⟩ = some (.string (⟨#[]⟩ : ByteArray)) := (blk_cell BK365.out 0).trans rfl; have hcz16_1 : w14.cell? ⟨gb365, 1, none⟩ = some (.int .u64 0) := (blk_cell BK365.out 1).trans rfl; have hcz16_2 : w14.cell? ⟨gb365, 2, none⟩ = some (.int .u64 0) := (blk_cell BK365.out 2).trans rfl; have hfz16_0 := blk_frozen BK365.out 0; have hfz16_1 := blk_frozen BK365.out 1; have hfz16_2 := blk_frozen BK365.out 2))
        refine bodyPost_ret (results_ct rfl _ _ gb365 44 #[.string t366, .int .u64 t369, .int .u64 t370] (0, 0) _ rfl (by (with_reducible repeat (first | refine blk_drewN ?_ _ | refine blk_drew ?_ | refine blk_alloc ?_ _)); refine blk_put (cs := #[.string t366, .int .u64 t369, .int .u64 0]) ?_ 2 _ rfl; (with_reducible repeat (first | refine blk_drewN ?_ _ | refine blk_drew ?_ | refine blk_alloc ?_ _)); refine blk_put (cs := #[.string t366, .int .u64 0, .int .u64 0]) ?_ 1 _ rfl; (with_reducible repeat (first | refine blk_drewN ?_ _ | refine blk_drew ?_ | refine blk_alloc ?_ _)); refine blk_put (cs := #[.string (⟨#[]⟩ : ByteArray), .int .u64 0, .int .u64 0]) ?_ 0 _ rfl; (with_reducible repeat (first | refine blk_drewN ?_ _ | refine blk_drew ?_ | refine blk_alloc ?_ _)); exact BK365.out) Tryd.underlying44 rfl (by kernel_rfl)) rfl ?_
        exact ⟨by first | rfl | (simp [errW_none, errW_some] <;> rfl) | (simp [*, errW_none, errW_some] <;> rfl), by repeat (first | (with_reducible first | exact HB.out | apply below_alloc | apply pw_below_drewN | apply below_drew1 | refine below_set ?_ GE365.out | refine below_set ?_ GE372.out) | exact HB.out)⟩
      · rw [if_neg c7] at H
        have c7b0 : (t371 == 0) = false := beq_eq_false_iff_ne.mpr c7
        have c7b1 : (t371 != 0) = true := bne_iff_ne.mpr c7
        simp only [Option.some.injEq, Prod.mk.injEq] at H
        obtain ⟨rfl, rfl, rfl, rfl⟩ := H
        go_enter Tryd.func47, Tryd.ntmps47
        go_wp2_with (first | ((with_reducible refine gate_dst (N := 2) rfl ?_); refine box_event ?hg (N := 2) ?hd (cs := #[.string (⟨#[]⟩ : ByteArray), .int .u64 0, .int .u64 0]) (t := 44) ?hr ?_; (case hd => rfl); (case hg => rfl); (case hr => first | (go_simp; done) | (go_simp; rfl)); intro gb365 hg w17 hbox hb; have n0_ := Aside0.mk (below_step (by repeat (first | (with_reducible first | exact HB.out | apply below_alloc | apply pw_below_drewN | apply below_drew1) | exact HB.out)) hb); have n1_ := Aside0.mk (hbox); have n2_ := Aside0.mk ((by rw [hg]; exact (below_size (by repeat (first | (with_reducible first | exact HB.out | apply below_alloc | apply pw_below_drewN | apply below_drew1) | exact HB.out))) : w.heap.size ≤ gb365)); have n3_ := Aside0.mk ((by rw [hg]; exact (below_size (by repeat (first | (with_reducible first | exact HB.out | apply below_alloc | apply pw_below_drewN | apply below_drew1) | exact HB.out))) : w.heap.size ≤ gb365)); clear HB; have HB := n0_; have BK365 := n1_; have GW365 := n2_; have GE365 := n3_; clear n0_ n1_ n2_ n3_; clear hb hbox hg) | ((with_reducible refine gate_callee (f := 74) rfl ?_); refine goesL_ (some 11) rfl rfl Tryd.func74 (by kernel_rfl) rfl #[.string a0, .string (⟨#[32]⟩ : ByteArray)] rfl (by (try simp only [List.map_toArray, List.map_cons, List.map_nil]); first | done | rfl | (simp only [List.length_drop, List.length_take]; rfl)) ?_; (with_reducible refine (strings_Cut.calls a0 (⟨#[32]⟩ : ByteArray) t366 t367 true _ A2.out).mono ?_); rintro e w18 ⟨rfl, hb⟩; refine ⟨_, rfl, ?_⟩; have n0_ := Aside0.mk (blk_below (g := gb365) (o := .cells #[.string (⟨#[]⟩ : ByteArray), .int .u64 0, .int .u64 0] 44 (0, 0)) (by (with_reducible repeat (first | refine blk_drewN ?_ _ | refine blk_drew ?_ | refine blk_alloc ?_ _)); exact BK365.out) hb); have n1_ := Aside0.mk (below_step (by repeat (first | (with_reducible first | exact HB.out | apply below_alloc | apply pw_below_drewN | apply below_drew1 | refine below_set ?_ GE365.out) | exact HB.out)) hb); clear BK365; clear HB; have BK365 := n0_; have HB := n1_; clear n0_ n1_; (try clear hb); (try clear hb2); (try clear hk); (try clear hi)) | ((with_reducible refine gate_callee (f := 84) rfl ?_); refine goesL_ (some 17) rfl rfl Tryd.func84 (by kernel_rfl) rfl #[.string t367] rfl (by (try simp only [List.map_toArray, List.map_cons, List.map_nil]); first | done | rfl | (simp only [List.length_drop, List.length_take]; rfl)) ?_; (with_reducible refine (decimal_Parse.calls t367 t369 t370 t371 _ A3.out).mono ?_); rintro e w19 ⟨rfl, hb⟩; refine ⟨_, rfl, ?_⟩; have n0_ := Aside0.mk (blk_below (g := gb365) (o := .cells #[.string (⟨#[]⟩ : ByteArray), .int .u64 0, .int .u64 0] 44 (0, 0)) (by (with_reducible repeat (first | refine blk_drewN ?_ _ | refine blk_drew ?_ | refine blk_alloc ?_ _)); exact BK365.out) hb); have n1_ := Aside0.mk (below_step (by repeat (first | (with_reducible first | exact HB.out | apply below_alloc | apply pw_below_drewN | apply below_drew1 | refine below_set ?_ GE365.out) | exact HB.out)) hb); clear BK365; clear HB; have BK365 := n0_; have HB := n1_; clear n0_ n1_; (try clear hb); (try clear hb2); (try clear hk); (try clear hi)) | ((with_reducible refine gate_dst (N := 7) rfl ?_); refine box_event ?hg (N := 7) ?hd (cs := #[.int .u64 0, .int .u64 0]) (t := 42) ?hr ?_; (case hd => rfl); (case hg => rfl); (case hr => first | (go_simp; done) | (go_simp; rfl)); intro gb372 hg w20 hbox hb; have n0_ := Aside0.mk (blk_below (g := gb365) (o := .cells #[.string (⟨#[]⟩ : ByteArray), .int .u64 0, .int .u64 0] 44 (0, 0)) (by (with_reducible repeat (first | refine blk_drewN ?_ _ | refine blk_drew ?_ | refine blk_alloc ?_ _)); exact BK365.out) hb); have n1_ := Aside0.mk (below_step (by repeat (first | (with_reducible first | exact HB.out | apply below_alloc | apply pw_below_drewN | apply below_drew1 | refine below_set ?_ GE365.out) | exact HB.out)) hb); have n2_ := Aside0.mk (hbox); have n3_ := Aside0.mk ((by rw [hg]; exact (below_size (by repeat (first | (with_reducible first | exact HB.out | apply below_alloc | apply pw_below_drewN | apply below_drew1 | refine below_set ?_ GE365.out) | exact HB.out))) : w.heap.size ≤ gb372)); have n4_ := Aside0.mk ((by rw [hg]; exact (below_size (by repeat (first | (with_reducible first | exact HB.out | apply below_alloc | apply pw_below_drewN | apply below_drew1 | refine below_set ?_ GE365.out) | exact HB.out))) : w.heap.size ≤ gb372)); have n5_ := Aside0.mk ((by rw [hg]; exact Nat.ne_of_lt (blk_lt (g := gb365) (o := .cells #[.string (⟨#[]⟩ : ByteArray), .int .u64 0, .int .u64 0] 44 (0, 0)) (by (with_reducible repeat (first | refine blk_drewN ?_ _ | refine blk_drew ?_ | refine blk_alloc ?_ _)); exact BK365.out)) : gb365 ≠ gb372)); have n6_ := Aside0.mk ((by rw [hg]; exact Nat.ne_of_gt (blk_lt (g := gb365) (o := .cells #[.string (⟨#[]⟩ : ByteArray), .int .u64 0, .int .u64 0] 44 (0, 0)) (by (with_reducible repeat (first | refine blk_drewN ?_ _ | refine blk_drew ?_ | refine blk_alloc ?_ _)); exact BK365.out)) : gb372 ≠ gb365)); clear BK365; clear HB; have BK365 := n0_; have HB := n1_; have BK372 := n2_; have GW372 := n3_; have GE372 := n4_; have NB365_372 := n5_; have NB372_365 := n6_; clear n0_ n1_ n2_ n3_ n4_ n5_ n6_; clear hb hbox hg; have hnb21 := NB372_365.out; have hnc21 := NB365_372.out; have hcz22_0 : w20.cell? ⟨gb372, 0, none⟩ = some (.int .u64 0) := (blk_cell BK372.out 0).trans rfl; have hcz22_1 : w20.cell? ⟨gb372, 1, none⟩ = some (.int .u64 0) := (blk_cell BK372.out 1).trans rfl; have hfz22_0 := blk_frozen BK372.out 0; have hfz22_1 := blk_frozen BK372.out 1) | ((with_reducible refine gate_callee (f := 51) rfl ?_); refine goesL_ (some 26) rfl rfl Tryd.func51 (by kernel_rfl) rfl #[.string t366] rfl (by (try simp only [List.map_toArray, List.map_cons, List.map_nil]); first | done | rfl | (simp only [List.length_drop, List.length_take]; rfl)) ?_; (with_reducible refine (tag_MayId.calls t366 true _ ?side1 A5.out).mono ?_); (case side1 => exact gt_below hG (by repeat (first | (with_reducible first | exact HB.out | apply below_alloc | apply pw_below_drewN | apply below_drew1 | refine below_set ?_ GE365.out | refine below_set ?_ GE372.out) | exact HB.out))); rintro e w23 ⟨rfl, hb⟩; refine ⟨_, rfl, ?_⟩; have n0_ := Aside0.mk (blk_below (g := gb365) (o := .cells #[.string (⟨#[]⟩ : ByteArray), .int .u64 0, .int .u64 0] 44 (0, 0)) (by (with_reducible repeat (first | refine blk_drewN ?_ _ | refine blk_drew ?_ | refine blk_alloc ?_ _)); refine blk_far ?_ NB365_372.out _; (with_reducible repeat (first | refine blk_drewN ?_ _ | refine blk_drew ?_ | refine blk_alloc ?_ _)); refine blk_far ?_ NB365_372.out _; (with_reducible repeat (first | refine blk_drewN ?_ _ | refine blk_drew ?_ | refine blk_alloc ?_ _)); exact BK365.out) hb); have n1_ := Aside0.mk (blk_below (g := gb372) (o := .cells #[.int .u64 t369, .int .u64 t370] 42 (0, 0)) (by (with_reducible repeat (first | refine blk_drewN ?_ _ | refine blk_drew ?_ | refine blk_alloc ?_ _)); refine blk_put (cs := #[.int .u64 t369, .int .u64 0]) ?_ 1 _ rfl; (with_reducible repeat (first | refine blk_drewN ?_ _ | refine blk_drew ?_ | refine blk_alloc ?_ _)); refine blk_put (cs := #[.int .u64 0, .int .u64 0]) ?_ 0 _ rfl; (with_reducible repeat (first | refine blk_drewN ?_ _ | refine blk_drew ?_ | refine blk_alloc ?_ _)); exact BK372.out) hb); have n2_ := Aside0.mk (below_step (by repeat (first | (with_reducible first | exact HB.out | apply below_alloc | apply pw_below_drewN | apply below_drew1 | refine below_set ?_ GE365.out | refine below_set ?_ GE372.out) | exact HB.out)) hb); clear BK365; clear BK372; clear HB; have BK365 := n0_; have BK372 := n1_; have HB := n2_; clear n0_ n1_ n2_; (try clear hb); (try clear hb2); (try clear hk); (try clear hi); have hcz24_0 : w23.cell? ⟨gb365, 0, none⟩ = some (.string (⟨#[]⟩ : ByteArray)) := (blk_cell BK365.out 0).trans rfl; have hcz24_1 : w23.cell? ⟨gb365, 1, none⟩ = some (.int .u64 0) := (blk_cell BK365.out 1).trans rfl; have hcz24_2 : w23.cell? ⟨gb365, 2, none⟩ = some (.int .u64 0) := (blk_cell BK365.out 2).trans rfl; have hfz24_0 := blk_frozen BK365.out 0; have hfz24_1 := blk_frozen BK365.out 1; have hfz24_2 := blk_frozen BK365.out 2))
        refine bodyPost_ret (results_ct rfl _ _ gb365 44 #[.string (⟨#[]⟩ : ByteArray), .int .u64 0, .int .u64 0] (0, 0) _ rfl (by (with_reducible repeat (first | refine blk_drewN ?_ _ | refine blk_drew ?_ | refine blk_alloc ?_ _)); refine blk_put (cs := #[.string (⟨#[]⟩ : ByteArray), .int .u64 0, .int .u64 0]) ?_ 2 _ rfl; (with_reducible repeat (first | refine blk_drewN ?_ _ | refine blk_drew ?_ | refine blk_alloc ?_ _)); refine blk_put (cs := #[.string (⟨#[]⟩ : ByteArray), .int .u64 0, .int .u64 0]) ?_ 1 _ rfl; (with_reducible repeat (first | refine blk_drewN ?_ _ | refine blk_drew ?_ | refine blk_alloc ?_ _)); refine blk_put (cs := #[.string (⟨#[]⟩ : ByteArray), .int .u64 0, .int .u64 0]) ?_ 0 _ rfl; (with_reducible repeat (first | refine blk_drewN ?_ _ | refine blk_drew ?_ | refine blk_alloc ?_ _)); exact BK365.out) Tryd.underlying44 rfl (by kernel_rfl)) rfl ?_
        exact ⟨by first | rfl | (simp [errW_none, errW_some] <;> rfl) | (simp [*, errW_none, errW_some] <;> rfl), by repeat (first | (with_reducible first | exact HB.out | apply below_alloc | apply pw_below_drewN | apply below_drew1 | refine below_set ?_ GE365.out | refine below_set ?_ GE372.out) | exact HB.out)⟩
    · replace c6 := Bool.eq_false_iff.mpr c6
      subst c6
      have H1 : (some ((⟨#[]⟩ : ByteArray), 0, 0, 101)) = some (r1, r2, r3, r4) := by rw [if_neg (show ¬ (false = true) by decide)] at H; exact H
      clear H
      have H := H1
      clear H1
      simp only [Option.some.injEq, Prod.mk.injEq] at H
      obtain ⟨rfl, rfl, rfl, rfl⟩ := H
      go_enter Tryd.func47, Tryd.ntmps47
      go_wp2_with (first | ((with_reducible refine gate_dst (N := 2) rfl ?_); refine box_event ?hg (N := 2) ?hd (cs := #[.string (⟨#[]⟩ : ByteArray), .int .u64 0, .int .u64 0]) (t := 44) ?hr ?_; (case hd => rfl); (case hg => rfl); (case hr => first | (go_simp; done) | (go_simp; rfl)); intro gb365 hg w25 hbox hb; have n0_ := Aside0.mk (below_step (by repeat (first | (with_reducible first | exact HB.out | apply below_alloc | apply pw_below_drewN | apply below_drew1) | exact HB.out)) hb); have n1_ := Aside0.mk (hbox); have n2_ := Aside0.mk ((by rw [hg]; exact (below_size (by repeat (first | (with_reducible first | exact HB.out | apply below_alloc | apply pw_below_drewN | apply below_drew1) | exact HB.out))) : w.heap.size ≤ gb365)); have n3_ := Aside0.mk ((by rw [hg]; exact (below_size (by repeat (first | (with_reducible first | exact HB.out | apply below_alloc | apply pw_below_drewN | apply below_drew1) | exact HB.out))) : w.heap.size ≤ gb365)); clear HB; have HB := n0_; have BK365 := n1_; have GW365 := n2_; have GE365 := n3_; clear n0_ n1_ n2_ n3_; clear hb hbox hg) | ((with_reducible refine gate_callee (f := 74) rfl ?_); refine goesL_ (some 11) rfl rfl Tryd.func74 (by kernel_rfl) rfl #[.string a0, .string (⟨#[32]⟩ : ByteArray)] rfl (by (try simp only [List.map_toArray, List.map_cons, List.map_nil]); first | done | rfl | (simp only [List.length_drop, List.length_take]; rfl)) ?_; (with_reducible refine (strings_Cut.calls a0 (⟨#[32]⟩ : ByteArray) t366 t367 true _ A2.out).mono ?_); rintro e w26 ⟨rfl, hb⟩; refine ⟨_, rfl, ?_⟩; have n0_ := Aside0.mk (blk_below (g := gb365) (o := .cells #[.string (⟨#[]⟩ : ByteArray), .int .u64 0, .int .u64 0] 44 (0, 0)) (by (with_reducible repeat (first | refine blk_drewN ?_ _ | refine blk_drew ?_ | refine blk_alloc ?_ _)); exact BK365.out) hb); have n1_ := Aside0.mk (below_step (by repeat (first | (with_reducible first | exact HB.out | apply below_alloc | apply pw_below_drewN | apply below_drew1 | refine below_set ?_ GE365.out) | exact HB.out)) hb); clear BK365; clear HB; have BK365 := n0_; have HB := n1_; clear n0_ n1_; (try clear hb); (try clear hb2); (try clear hk); (try clear hi)) | ((with_reducible refine gate_callee (f := 84) rfl ?_); refine goesL_ (some 17) rfl rfl Tryd.func84 (by kernel_rfl) rfl #[.string t367] rfl (by (try simp only [List.map_toArray, List.map_cons, List.map_nil]); first | done | rfl | (simp only [List.length_drop, List.length_take]; rfl)) ?_; (with_reducible refine (decimal_Parse.calls t367 t369 t370 t371 _ A3.out).mono ?_); rintro e w27 ⟨rfl, hb⟩; refine ⟨_, rfl, ?_⟩; have n0_ := Aside0.mk (blk_below (g := gb365) (o := .cells #[.string (⟨#[]⟩ : ByteArray), .int .u64 0, .int .u64 0] 44 (0, 0)) (by (with_reducible repeat (first | refine blk_drewN ?_ _ | refine blk_drew ?_ | refine blk_alloc ?_ _)); exact BK365.out) hb); have n1_ := Aside0.mk (below_step (by repeat (first | (with_reducible first | exact HB.out | apply below_alloc | apply pw_below_drewN | apply below_drew1 | refine below_set ?_ GE365.out) | exact HB.out)) hb); clear BK365; clear HB; have BK365 := n0_; have HB := n1_; clear n0_ n1_; (try clear hb); (try clear hb2); (try clear hk); (try clear hi)) | ((with_reducible refine gate_dst (N := 7) rfl ?_); refine box_event ?hg (N := 7) ?hd (cs := #[.int .u64 0, .int .u64 0]) (t := 42) ?hr ?_; (case hd => rfl); (case hg => rfl); (case hr => first | (go_simp; done) | (go_simp; rfl)); intro gb372 hg w28 hbox hb; have n0_ := Aside0.mk (blk_below (g := gb365) (o := .cells #[.string (⟨#[]⟩ : ByteArray), .int .u64 0, .int .u64 0] 44 (0, 0)) (by (with_reducible repeat (first | refine blk_drewN ?_ _ | refine blk_drew ?_ | refine blk_alloc ?_ _)); exact BK365.out) hb); have n1_ := Aside0.mk (below_step (by repeat (first | (with_reducible first | exact HB.out | apply below_alloc | apply pw_below_drewN | apply below_drew1 | refine below_set ?_ GE365.out) | exact HB.out)) hb); have n2_ := Aside0.mk (hbox); have n3_ := Aside0.mk ((by rw [hg]; exact (below_size (by repeat (first | (with_reducible first | exact HB.out | apply below_alloc | apply pw_below_drewN | apply below_drew1 | refine below_set ?_ GE365.out) | exact HB.out))) : w.heap.size ≤ gb372)); have n4_ := Aside0.mk ((by rw [hg]; exact (below_size (by repeat (first | (with_reducible first | exact HB.out | apply below_alloc | apply pw_below_drewN | apply below_drew1 | refine below_set ?_ GE365.out) | exact HB.out))) : w.heap.size ≤ gb372)); have n5_ := Aside0.mk ((by rw [hg]; exact Nat.ne_of_lt (blk_lt (g := gb365) (o := .cells #[.string (⟨#[]⟩ : ByteArray), .int .u64 0, .int .u64 0] 44 (0, 0)) (by (with_reducible repeat (first | refine blk_drewN ?_ _ | refine blk_drew ?_ | refine blk_alloc ?_ _)); exact BK365.out)) : gb365 ≠ gb372)); have n6_ := Aside0.mk ((by rw [hg]; exact Nat.ne_of_gt (blk_lt (g := gb365) (o := .cells #[.string (⟨#[]⟩ : ByteArray), .int .u64 0, .int .u64 0] 44 (0, 0)) (by (with_reducible repeat (first | refine blk_drewN ?_ _ | refine blk_drew ?_ | refine blk_alloc ?_ _)); exact BK365.out)) : gb372 ≠ gb365)); clear BK365; clear HB; have BK365 := n0_; have HB := n1_; have BK372 := n2_; have GW372 := n3_; have GE372 := n4_; have NB365_372 := n5_; have NB372_365 := n6_; clear n0_ n1_ n2_ n3_ n4_ n5_ n6_; clear hb hbox hg; have hnb29 := NB372_365.out; have hnc29 := NB365_372.out; have hcz30_0 : w28.cell? ⟨gb372, 0, none⟩ = some (.int .u64 0) := (blk_cell BK372.out 0).trans rfl; have hcz30_1 : w28.cell? ⟨gb372, 1, none⟩ = some (.int .u64 0) := (blk_cell BK372.out 1).trans rfl; have hfz30_0 := blk_frozen BK372.out 0; have hfz30_1 := blk_frozen BK372.out 1) | ((with_reducible refine gate_callee (f := 51) rfl ?_); refine goesL_ (some 26) rfl rfl Tryd.func51 (by kernel_rfl) rfl #[.string t366] rfl (by (try simp only [List.map_toArray, List.map_cons, List.map_nil]); first | done | rfl | (simp only [List.length_drop, List.length_take]; rfl)) ?_; (with_reducible refine (tag_MayId.calls t366 false _ ?side1 A5.out).mono ?_); (case side1 => exact gt_below hG (by repeat (first | (with_reducible first | exact HB.out | apply below_alloc | apply pw_below_drewN | apply below_drew1 | refine below_set ?_ GE365.out | refine below_set ?_ GE372.out) | exact HB.out))); rintro e w31 ⟨rfl, hb⟩; refine ⟨_, rfl, ?_⟩; have n0_ := Aside0.mk (blk_below (g := gb365) (o := .cells #[.string (⟨#[]⟩ : ByteArray), .int .u64 0, .int .u64 0] 44 (0, 0)) (by (with_reducible repeat (first | refine blk_drewN ?_ _ | refine blk_drew ?_ | refine blk_alloc ?_ _)); refine blk_far ?_ NB365_372.out _; (with_reducible repeat (first | refine blk_drewN ?_ _ | refine blk_drew ?_ | refine blk_alloc ?_ _)); refine blk_far ?_ NB365_372.out _; (with_reducible repeat (first | refine blk_drewN ?_ _ | refine blk_drew ?_ | refine blk_alloc ?_ _)); exact BK365.out) hb); have n1_ := Aside0.mk (blk_below (g := gb372) (o := .cells #[.int .u64 t369, .int .u64 t370] 42 (0, 0)) (by (with_reducible repeat (first | refine blk_drewN ?_ _ | refine blk_drew ?_ | refine blk_alloc ?_ _)); refine blk_put (cs := #[.int .u64 t369, .int .u64 0]) ?_ 1 _ rfl; (with_reducible repeat (first | refine blk_drewN ?_ _ | refine blk_drew ?_ | refine blk_alloc ?_ _)); refine blk_put (cs := #[.int .u64 0, .int .u64 0]) ?_ 0 _ rfl; (with_reducible repeat (first | refine blk_drewN ?_ _ | refine blk_drew ?_ | refine blk_alloc ?_ _)); exact BK372.out) hb); have n2_ := Aside0.mk (below_step (by repeat (first | (with_reducible first | exact HB.out | apply below_alloc | apply pw_below_drewN | apply below_drew1 | refine below_set ?_ GE365.out | refine below_set ?_ GE372.out) | exact HB.out)) hb); clear BK365; clear BK372; clear HB; have BK365 := n0_; have BK372 := n1_; have HB := n2_; clear n0_ n1_ n2_; (try clear hb); (try clear hb2); (try clear hk); (try clear hi); have hcz32_0 : w31.cell? ⟨gb365, 0, none⟩ = some (.string (⟨#[]⟩ : ByteArray)) := (blk_cell BK365.out 0).trans rfl; have hcz32_1 : w31.cell? ⟨gb365, 1, none⟩ = some (.int .u64 0) := (blk_cell BK365.out 1).trans rfl; have hcz32_2 : w31.cell? ⟨gb365, 2, none⟩ = some (.int .u64 0) := (blk_cell BK365.out 2).trans rfl; have hfz32_0 := blk_frozen BK365.out 0; have hfz32_1 := blk_frozen BK365.out 1; have hfz32_2 := blk_frozen BK365.out 2))
      refine bodyPost_ret (results_ct rfl _ _ gb365 44 #[.string (⟨#[]⟩ : ByteArray), .int .u64 0, .int .u64 0] (0, 0) _ rfl (by (with_reducible repeat (first | refine blk_drewN ?_ _ | refine blk_drew ?_ | refine blk_alloc ?_ _)); refine blk_put (cs := #[.string (⟨#[]⟩ : ByteArray), .int .u64 0, .int .u64 0]) ?_ 2 _ rfl; (with_reducible repeat (first | refine blk_drewN ?_ _ | refine blk_drew ?_ | refine blk_alloc ?_ _)); refine blk_put (cs := #[.string (⟨#[]⟩ : ByteArray), .int .u64 0, .int .u64 0]) ?_ 1 _ rfl; (with_reducible repeat (first | refine blk_drewN ?_ _ | refine blk_drew ?_ | refine blk_alloc ?_ _)); refine blk_put (cs := #[.string (⟨#[]⟩ : ByteArray), .int .u64 0, .int .u64 0]) ?_ 0 _ rfl; (with_reducible repeat (first | refine blk_drewN ?_ _ | refine blk_drew ?_ | refine blk_alloc ?_ _)); exact BK365.out) Tryd.underlying44 rfl (by kernel_rfl)) rfl ?_
      exact ⟨by first | rfl | (simp [errW_none, errW_some] <;> rfl) | (simp [*, errW_none, errW_some] <;> rfl), by repeat (first | (with_reducible first | exact HB.out | apply below_alloc | apply pw_below_drewN | apply below_drew1 | refine below_set ?_ GE365.out | refine below_set ?_ GE372.out) | exact HB.out)⟩
  · replace c4 := Bool.eq_false_iff.mpr c4
    subst c4
    have H1 : (some ((⟨#[]⟩ : ByteArray), 0, 0, 100)) = some (r1, r2, r3, r4) := by rw [if_neg (show ¬ (false = true) by decide)] at H; exact H
    clear H
    have H := H1
    clear H1
    simp only [Option.some.injEq, Prod.mk.injEq] at H
    obtain ⟨rfl, rfl, rfl, rfl⟩ := H
    go_enter Tryd.func47, Tryd.ntmps47
    go_wp2_with (first | ((with_reducible refine gate_dst (N := 2) rfl ?_); refine box_event ?hg (N := 2) ?hd (cs := #[.string (⟨#[]⟩ : ByteArray), .int .u64 0, .int .u64 0]) (t := 44) ?hr ?_; (case hd => rfl); (case hg => rfl); (case hr => first | (go_simp; done) | (go_simp; rfl)); intro gb365 hg w33 hbox hb; have n0_ := Aside0.mk (below_step (by repeat (first | (with_reducible first | exact HB.out | apply below_alloc | apply pw_below_drewN | apply below_drew1) | exact HB.out)) hb); have n1_ := Aside0.mk (hbox); have n2_ := Aside0.mk ((by rw [hg]; exact (below_size (by repeat (first | (with_reducible first | exact HB.out | apply below_alloc | apply pw_below_drewN | apply below_drew1) | exact HB.out))) : w.heap.size ≤ gb365)); have n3_ := Aside0.mk ((by rw [hg]; exact (below_size (by repeat (first | (with_reducible first | exact HB.out | apply below_alloc | apply pw_below_drewN | apply below_drew1) | exact HB.out))) : w.heap.size ≤ gb365)); clear HB; have HB := n0_; have BK365 := n1_; have GW365 := n2_; have GE365 := n3_; clear n0_ n1_ n2_ n3_; clear hb hbox hg) | ((with_reducible refine gate_callee (f := 74) rfl ?_); refine goesL_ (some 11) rfl rfl Tryd.func74 (by kernel_rfl) rfl #[.string a0, .string (⟨#[32]⟩ : ByteArray)] rfl (by (try simp only [List.map_toArray, List.map_cons, List.map_nil]); first | done | rfl | (simp only [List.length_drop, List.length_take]; rfl)) ?_; (with_reducible refine (strings_Cut.calls a0 (⟨#[32]⟩ : ByteArray) t366 t367 false _ A2.out).mono ?_); rintro e w34 ⟨rfl, hb⟩; refine ⟨_, rfl, ?_⟩; have n0_ := Aside0.mk (blk_below (g := gb365) (o := .cells #[.string (⟨#[]⟩ : ByteArray), .int .u64 0, .int .u64 0] 44 (0, 0)) (by (with_reducible repeat (first | refine blk_drewN ?_ _ | refine blk_drew ?_ | refine blk_alloc ?_ _)); exact BK365.out) hb); have n1_ := Aside0.mk (below_step (by repeat (first | (with_reducible first | exact HB.out | apply below_alloc | apply pw_below_drewN | apply below_drew1 | refine below_set ?_ GE365.out) | exact HB.out)) hb); clear BK365; clear HB; have BK365 := n0_; have HB := n1_; clear n0_ n1_; (try clear hb); (try clear hb2); (try clear hk); (try clear hi)) | ((with_reducible refine gate_callee (f := 84) rfl ?_); refine goesL_ (some 17) rfl rfl Tryd.func84 (by kernel_rfl) rfl #[.string t367] rfl (by (try simp only [List.map_toArray, List.map_cons, List.map_nil]); first | done | rfl | (simp only [List.length_drop, List.length_take]; rfl)) ?_; (with_reducible refine (decimal_Parse.calls t367 t369 t370 t371 _ A3.out).mono ?_); rintro e w35 ⟨rfl, hb⟩; refine ⟨_, rfl, ?_⟩; have n0_ := Aside0.mk (blk_below (g := gb365) (o := .cells #[.string (⟨#[]⟩ : ByteArray), .int .u64 0, .int .u64 0] 44 (0, 0)) (by (with_reducible repeat (first | refine blk_drewN ?_ _ | refine blk_drew ?_ | refine blk_alloc ?_ _)); exact BK365.out) hb); have n1_ := Aside0.mk (below_step (by repeat (first | (with_reducible first | exact HB.out | apply below_alloc | apply pw_below_drewN | apply below_drew1 | refine below_set ?_ GE365.out) | exact HB.out)) hb); clear BK365; clear HB; have BK365 := n0_; have HB := n1_; clear n0_ n1_; (try clear hb); (try clear hb2); (try clear hk); (try clear hi)) | ((with_reducible refine gate_dst (N := 7) rfl ?_); refine box_event ?hg (N := 7) ?hd (cs := #[.int .u64 0, .int .u64 0]) (t := 42) ?hr ?_; (case hd => rfl); (case hg => rfl); (case hr => first | (go_simp; done) | (go_simp; rfl)); intro gb372 hg w36 hbox hb; have n0_ := Aside0.mk (blk_below (g := gb365) (o := .cells #[.string (⟨#[]⟩ : ByteArray), .int .u64 0, .int .u64 0] 44 (0, 0)) (by (with_reducible repeat (first | refine blk_drewN ?_ _ | refine blk_drew ?_ | refine blk_alloc ?_ _)); exact BK365.out) hb); have n1_ := Aside0.mk (below_step (by repeat (first | (with_reducible first | exact HB.out | apply below_alloc | apply pw_below_drewN | apply below_drew1 | refine below_set ?_ GE365.out) | exact HB.out)) hb); have n2_ := Aside0.mk (hbox); have n3_ := Aside0.mk ((by rw [hg]; exact (below_size (by repeat (first | (with_reducible first | exact HB.out | apply below_alloc | apply pw_below_drewN | apply below_drew1 | refine below_set ?_ GE365.out) | exact HB.out))) : w.heap.size ≤ gb372)); have n4_ := Aside0.mk ((by rw [hg]; exact (below_size (by repeat (first | (with_reducible first | exact HB.out | apply below_alloc | apply pw_below_drewN | apply below_drew1 | refine below_set ?_ GE365.out) | exact HB.out))) : w.heap.size ≤ gb372)); have n5_ := Aside0.mk ((by rw [hg]; exact Nat.ne_of_lt (blk_lt (g := gb365) (o := .cells #[.string (⟨#[]⟩ : ByteArray), .int .u64 0, .int .u64 0] 44 (0, 0)) (by (with_reducible repeat (first | refine blk_drewN ?_ _ | refine blk_drew ?_ | refine blk_alloc ?_ _)); exact BK365.out)) : gb365 ≠ gb372)); have n6_ := Aside0.mk ((by rw [hg]; exact Nat.ne_of_gt (blk_lt (g := gb365) (o := .cells #[.string (⟨#[]⟩ : ByteArray), .int .u64 0, .int .u64 0] 44 (0, 0)) (by (with_reducible repeat (first | refine blk_drewN ?_ _ | refine blk_drew ?_ | refine blk_alloc ?_ _)); exact BK365.out)) : gb372 ≠ gb365)); clear BK365; clear HB; have BK365 := n0_; have HB := n1_; have BK372 := n2_; have GW372 := n3_; have GE372 := n4_; have NB365_372 := n5_; have NB372_365 := n6_; clear n0_ n1_ n2_ n3_ n4_ n5_ n6_; clear hb hbox hg; have hnb37 := NB372_365.out; have hnc37 := NB365_372.out; have hcz38_0 : w36.cell? ⟨gb372, 0, none⟩ = some (.int .u64 0) := (blk_cell BK372.out 0).trans rfl; have hcz38_1 : w36.cell? ⟨gb372, 1, none⟩ = some (.int .u64 0) := (blk_cell BK372.out 1).trans rfl; have hfz38_0 := blk_frozen BK372.out 0; have hfz38_1 := blk_frozen BK372.out 1; have hcz39_0 : w36.cell? ⟨gb365, 0, none⟩ = some (.string (⟨#[]⟩ : ByteArray)) := (blk_cell BK365.out 0).trans rfl; have hcz39_1 : w36.cell? ⟨gb365, 1, none⟩ = some (.int .u64 0) := (blk_cell BK365.out 1).trans rfl; have hcz39_2 : w36.cell? ⟨gb365, 2, none⟩ = some (.int .u64 0) := (blk_cell BK365.out 2).trans rfl; have hfz39_0 := blk_frozen BK365.out 0; have hfz39_1 := blk_frozen BK365.out 1; have hfz39_2 := blk_frozen BK365.out 2))
    refine bodyPost_ret (results_ct rfl _ _ gb365 44 #[.string (⟨#[]⟩ : ByteArray), .int .u64 0, .int .u64 0] (0, 0) _ rfl (by (with_reducible repeat (first | refine blk_drewN ?_ _ | refine blk_drew ?_ | refine blk_alloc ?_ _)); refine blk_put (cs := #[.string (⟨#[]⟩ : ByteArray), .int .u64 0, .int .u64 0]) ?_ 2 _ rfl; (with_reducible repeat (first | refine blk_drewN ?_ _ | refine blk_drew ?_ | refine blk_alloc ?_ _)); refine blk_put (cs := #[.string (⟨#[]⟩ : ByteArray), .int .u64 0, .int .u64 0]) ?_ 1 _ rfl; (with_reducible repeat (first | refine blk_drewN ?_ _ | refine blk_drew ?_ | refine blk_alloc ?_ _)); refine blk_put (cs := #[.string (⟨#[]⟩ : ByteArray), .int .u64 0, .int .u64 0]) ?_ 0 _ rfl; (with_reducible repeat (first | refine blk_drewN ?_ _ | refine blk_drew ?_ | refine blk_alloc ?_ _)); refine blk_far ?_ NB365_372.out _; (with_reducible repeat (first | refine blk_drewN ?_ _ | refine blk_drew ?_ | refine blk_alloc ?_ _)); refine blk_far ?_ NB365_372.out _; (with_reducible repeat (first | refine blk_drewN ?_ _ | refine blk_drew ?_ | refine blk_alloc ?_ _)); exact BK365.out) Tryd.underlying44 rfl (by kernel_rfl)) rfl ?_
    exact ⟨by first | rfl | (simp [errW_none, errW_some] <;> rfl) | (simp [*, errW_none, errW_some] <;> rfl), by repeat (first | (with_reducible first | exact HB.out | apply below_alloc | apply pw_below_drewN | apply below_drew1 | refine below_set ?_ GE365.out | refine below_set ?_ GE372.out) | exact HB.out)⟩
def row_Of.f (a0_0 : Int) (a0_1 : ByteArray) (a0_2 : Int) (a0_3 : Int) : Option (ByteArray × Int × Int × Bool × Int) := if a0_3 = 0 then (if a0_2 = 2 then ((row_Parse.f a0_1).bind fun bt376 => (some (bt376.1, bt376.2.1, bt376.2.2.1, (bt376.2.2.2 == 0), bt376.2.2.2))) else (some ((⟨#[]⟩ : ByteArray), 0, 0, false, 0))) else (some ((⟨#[]⟩ : ByteArray), 0, 0, false, a0_3))
set_option maxHeartbeats 8000000 in
set_option maxRecDepth 100000 in
theorem row_Of.calls (a0_0 : Int) (a0_1 : ByteArray) (a0_2 : Int) (a0_3 : Int) (r1 : ByteArray) (r2 : Int) (r3 : Int) (r4 : Bool) (r5 : Int) (w : World) (hG : GT w) (h : row_Of.f a0_0 a0_1 a0_2 a0_3 = some (r1, r2, r3, r4, r5)) :
    Calls Tryd.prog 43 #[.agg #[.int .i64 a0_0, .string a0_1, .int .u8 a0_2, .int .i64 a0_3]] w fun e w' => e = .returned (.tuple #[.agg #[.string r1, .int .u64 r2, .int .u64 r3], .bool r4, .int .i64 r5]) ∧ Below w.heap.size w w' := by
  have hu56 := Tryd.underlying56
  have hu44 := Tryd.underlying44
  have HB := Aside0.mk (Below.refl w.heap.size w)
  have H : (if a0_3 = 0 then (if a0_2 = 2 then ((row_Parse.f a0_1).bind fun bt376 => (some (bt376.1, bt376.2.1, bt376.2.2.1, (bt376.2.2.2 == 0), bt376.2.2.2))) else (some ((⟨#[]⟩ : ByteArray), 0, 0, false, 0))) else (some ((⟨#[]⟩ : ByteArray), 0, 0, false, a0_3))) = some (r1, r2, r3, r4, r5) := h
  clear h
  by_cases c2 : a0_3 = 0
  · rw [if_pos c2] at H
    have c2b0 : (a0_3 == 0) = true := beq_iff_eq.mpr c2
    have c2b1 : (a0_3 != 0) = false := bne_eq_false_iff_eq.mpr c2
    clear c2
    by_cases c3 : a0_2 = 2
    · rw [if_pos c3] at H
      have c3b0 : (a0_2 == 2) = true := beq_iff_eq.mpr c3
      have c3b1 : (a0_2 != 2) = false := bne_eq_false_iff_eq.mpr c3
      clear c3
      replace H := Option.bind_eq_some_iff.mp H
      obtain ⟨⟨t376, t377, t378, t379⟩, A40, H⟩ := H
      replace H : (some (t376, t377, t378, (t379 == 0), t379)) = some (r1, r2, r3, r4, r5) := H
      have A4 := Aside0.mk A40
      clear A40
      simp only [Option.some.injEq, Prod.mk.injEq] at H
      obtain ⟨rfl, rfl, rfl, rfl, rfl⟩ := H
      go_enter Tryd.func43, Tryd.ntmps43
      go_wp2_with (first | ((with_reducible refine gate_dst (N := 1) rfl ?_); refine box_event ?hg (N := 1) ?hd (cs := #[.int .i64 a0_0, .string a0_1, .int .u8 a0_2, .int .i64 a0_3]) (t := 56) ?hr ?_; (case hd => rfl); (case hg => rfl); (case hr => first | (go_simp; done) | (go_simp; rfl)); intro gb374 hg w5 hbox hb; have n0_ := Aside0.mk (below_step (by repeat (first | (with_reducible first | exact HB.out | apply below_alloc | apply pw_below_drewN | apply below_drew1) | exact HB.out)) hb); have n1_ := Aside0.mk (hbox); have n2_ := Aside0.mk ((by rw [hg]; exact (below_size (by repeat (first | (with_reducible first | exact HB.out | apply below_alloc | apply pw_below_drewN | apply below_drew1) | exact HB.out))) : w.heap.size ≤ gb374)); have n3_ := Aside0.mk ((by rw [hg]; exact (below_size (by repeat (first | (with_reducible first | exact HB.out | apply below_alloc | apply pw_below_drewN | apply below_drew1) | exact HB.out))) : w.heap.size ≤ gb374)); clear HB; have HB := n0_; have BK374 := n1_; have GW374 := n2_; have GE374 := n3_; clear n0_ n1_ n2_ n3_; clear hb hbox hg) | ((with_reducible refine gate_dst (N := 2) rfl ?_); refine box_event ?hg (N := 2) ?hd (cs := #[.string (⟨#[]⟩ : ByteArray), .int .u64 0, .int .u64 0]) (t := 44) ?hr ?_; (case hd => rfl); (case hg => rfl); (case hr => first | (go_simp; done) | (go_simp; rfl)); intro gb375 hg w6 hbox hb; have n0_ := Aside0.mk (blk_below (g := gb374) (o := .cells #[.int .i64 a0_0, .string a0_1, .int .u8 a0_2, .int .i64 a0_3] 56 (0, 0)) (by (with_reducible repeat (first | refine blk_drewN ?_ _ | refine blk_drew ?_ | refine blk_alloc ?_ _)); exact BK374.out) hb); have n1_ := Aside0.mk (below_step (by repeat (first | (with_reducible first | exact HB.out | apply below_alloc | apply pw_below_drewN | apply below_drew1 | refine below_set ?_ GE374.out) | exact HB.out)) hb); have n2_ := Aside0.mk (hbox); have n3_ := Aside0.mk ((by rw [hg]; exact (below_size (by repeat (first | (with_reducible first | exact HB.out | apply below_alloc | apply pw_below_drewN | apply below_drew1 | refine below_set ?_ GE374.out) | exact HB.out))) : w.heap.size ≤ gb375)); have n4_ := Aside0.mk ((by rw [hg]; exact (below_size (by repeat (first | (with_reducible first | exact HB.out | apply below_alloc | apply pw_below_drewN | apply below_drew1 | refine below_set ?_ GE374.out) | exact HB.out))) : w.heap.size ≤ gb375)); have n5_ := Aside0.mk ((by rw [hg]; exact Nat.ne_of_lt (blk_lt (g := gb374) (o := .cells #[.int .i64 a0_0, .string a0_1, .int .u8 a0_2, .int .i64 a0_3] 56 (0, 0)) (by (with_reducible repeat (first | refine blk_drewN ?_ _ | refine blk_drew ?_ | refine blk_alloc ?_ _)); exact BK374.out)) : gb374 ≠ gb375)); have n6_ := Aside0.mk ((by rw [hg]; exact Nat.ne_of_gt (blk_lt (g := gb374) (o := .cells #[.int .i64 a0_0, .string a0_1, .int .u8 a0_2, .int .i64 a0_3] 56 (0, 0)) (by (with_reducible repeat (first | refine blk_drewN ?_ _ | refine blk_drew ?_ | refine blk_alloc ?_ _)); exact BK374.out)) : gb375 ≠ gb374)); clear BK374; clear HB; have BK374 := n0_; have HB := n1_; have BK375 := n2_; have GW375 := n3_; have GE375 := n4_; have NB374_375 := n5_; have NB375_374 := n6_; clear n0_ n1_ n2_ n3_ n4_ n5_ n6_; clear hb hbox hg; have hnb7 := NB374_375.out; have hnc7 := NB375_374.out; have hcz8_0 : w6.cell? ⟨gb374, 0, none⟩ = some (.int .i64 a0_0) := (blk_cell BK374.out 0).trans rfl; have hcz8_1 : w6.cell? ⟨gb374, 1, none⟩ = some (.string a0_1) := (blk_cell BK374.out 1).trans rfl; have hcz8_2 : w6.cell? ⟨gb374, 2, none⟩ = some (.int .u8 a0_2) := (blk_cell BK374.out 2).trans rfl; have hcz8_3 : w6.cell? ⟨gb374, 3, none⟩ = some (.int .i64 a0_3) := (blk_cell BK374.out 3).trans rfl; have hfz8_0 := blk_frozen BK374.out 0; have hfz8_1 := blk_frozen BK374.out 1; have hfz8_2 := blk_frozen BK374.out 2; have hfz8_3 := blk_frozen BK374.out 3) | ((with_reducible refine gate_callee (f := 47) rfl ?_); refine goesL_ (some 20) rfl rfl Tryd.func47 (by kernel_rfl) rfl #[.string a0_1] rfl (by (try simp only [List.map_toArray, List.map_cons, List.map_nil]); first | done | rfl | (simp only [List.length_drop, List.length_take]; rfl)) ?_; (with_reducible refine (row_Parse.calls a0_1 t376 t377 t378 t379 _ ?side1 A4.out).mono ?_); (case side1 => exact gt_below hG (by repeat (first | (with_reducible first | exact HB.out | apply below_alloc | apply pw_below_drewN | apply below_drew1 | refine below_set ?_ GE374.out | refine below_set ?_ GE375.out) | exact HB.out))); rintro e w9 ⟨rfl, hb⟩; refine ⟨_, rfl, ?_⟩; have n0_ := Aside0.mk (blk_below (g := gb374) (o := .cells #[.int .i64 a0_0, .string a0_1, .int .u8 a0_2, .int .i64 a0_3] 56 (0, 0)) (by (with_reducible repeat (first | refine blk_drewN ?_ _ | refine blk_drew ?_ | refine blk_alloc ?_ _)); exact BK374.out) hb); have n1_ := Aside0.mk (blk_below (g := gb375) (o := .cells #[.string (⟨#[]⟩ : ByteArray), .int .u64 0, .int .u64 0] 44 (0, 0)) (by (with_reducible repeat (first | refine blk_drewN ?_ _ | refine blk_drew ?_ | refine blk_alloc ?_ _)); exact BK375.out) hb); have n2_ := Aside0.mk (below_step (by repeat (first | (with_reducible first | exact HB.out | apply below_alloc | apply pw_below_drewN | apply below_drew1 | refine below_set ?_ GE374.out | refine below_set ?_ GE375.out) | exact HB.out)) hb); clear BK374; clear BK375; clear HB; have BK374 := n0_; have BK375 := n1_; have HB := n2_; clear n0_ n1_ n2_; (try clear hb); (try clear hb2); (try clear hk); (try clear hi)) | ((with_reducible refine gate_dst (N := 5) rfl ?_); refine box_event ?hg (N := 5) ?hd (cs := #[.string (⟨#[]⟩ : ByteArray), .int .u64 0, .int .u64 0]) (t := 44) ?hr ?_; (case hd => rfl); (case hg => rfl); (case hr => first | (go_simp; done) | (go_simp; rfl)); intro gb380 hg w10 hbox hb; have n0_ := Aside0.mk (blk_below (g := gb374) (o := .cells #[.int .i64 a0_0, .string a0_1, .int .u8 a0_2, .int .i64 a0_3] 56 (0, 0)) (by (with_reducible repeat (first | refine blk_drewN ?_ _ | refine blk_drew ?_ | refine blk_alloc ?_ _)); exact BK374.out) hb); have n1_ := Aside0.mk (blk_below (g := gb375) (o := .cells #[.string (⟨#[]⟩ : ByteArray), .int .u64 0, .int .u64 0] 44 (0, 0)) (by (with_reducible repeat (first | refine blk_drewN ?_ _ | refine blk_drew ?_ | refine blk_alloc ?_ _)); exact BK375.out) hb); have n2_ := Aside0.mk (below_step (by repeat (first | (with_reducible first | exact HB.out | apply below_alloc | apply pw_below_drewN | apply below_drew1 | refine below_set ?_ GE374.out | refine below_set ?_ GE375.out) | exact HB.out)) hb); have n3_ := Aside0.mk (hbox); have n4_ := Aside0.mk ((by rw [hg]; exact (below_size (by repeat (first | (with_reducible first | exact HB.out | apply below_alloc | apply pw_below_drewN | apply below_drew1 | refine below_set ?_ GE374.out | refine below_set ?_ GE375.out) | exact HB.out))) : w.heap.size ≤ gb380)); have n5_ := Aside0.mk ((by rw [hg]; exact (below_size (by repeat (first | (with_reducible first | exact HB.out | apply below_alloc | apply pw_below_drewN | apply below_drew1 | refine below_set ?_ GE374.out | refine below_set ?_ GE375.out) | exact HB.out))) : w.heap.size ≤ gb380)); have n6_ := Aside0.mk ((by rw [hg]; exact Nat.ne_of_lt (blk_lt (g := gb374) (o := .cells #[.int .i64 a0_0, .string a0_1, .int .u8 a0_2, .int .i64 a0_3] 56 (0, 0)) (by (with_reducible repeat (first | refine blk_drewN ?_ _ | refine blk_drew ?_ | refine blk_alloc ?_ _)); exact BK374.out)) : gb374 ≠ gb380)); have n7_ := Aside0.mk ((by rw [hg]; exact Nat.ne_of_gt (blk_lt (g := gb374) (o := .cells #[.int .i64 a0_0, .string a0_1, .int .u8 a0_2, .int .i64 a0_3] 56 (0, 0)) (by (with_reducible repeat (first | refine blk_drewN ?_ _ | refine blk_drew ?_ | refine blk_alloc ?_ _)); exact BK374.out)) : gb380 ≠ gb374)); have n8_ := Aside0.mk ((by rw [hg]; exact Nat.ne_of_lt (blk_lt (g := gb375) (o := .cells #[.string (⟨#[]⟩ : ByteArray), .int .u64 0, .int .u64 0] 44 (0, 0)) (by (with_reducible repeat (first | refine blk_drewN ?_ _ | refine blk_drew ?_ | refine blk_alloc ?_ _)); exact BK375.out)) : gb375 ≠ gb380)); have n9_ := Aside0.mk ((by rw [hg]; exact Nat.ne_of_gt (blk_lt (g := gb375) (o := .cells #[.string (⟨#[]⟩ : ByteArray), .int .u64 0, .int .u64 0] 44 (0, 0)) (by (with_reducible repeat (first | refine blk_drewN ?_ _ | refine blk_drew ?_ | refine blk_alloc ?_ _)); exact BK375.out)) : gb380 ≠ gb375)); clear BK374; clear BK375; clear HB; have BK374 := n0_; have BK375 := n1_; have HB := n2_; have BK380 := n3_; have GW380 := n4_; have GE380 := n5_; have NB374_380 := n6_; have NB380_374 := n7_; have NB375_380 := n8_; have NB380_375 := n9_; clear n0_ n1_ n2_ n3_ n4_ n5_ n6_ n7_ n8_ n9_; clear hb hbox hg; have hnb11 := NB380_374.out; have hnc11 := NB374_380.out; have hnb12 := NB380_375.out; have hnc12 := NB375_380.out; have hcz13_0 : w10.cell? ⟨gb380, 0, none⟩ = some (.string (⟨#[]⟩ : ByteArray)) := (blk_cell BK380.out 0).trans rfl; have hcz13_1 : w10.cell? ⟨gb380, 1, none⟩ = some (.int .u64 0) := (blk_cell BK380.out 1).trans rfl; have hcz13_2 : w10.cell? ⟨gb380, 2, none⟩ = some (.int .u64 0) := (blk_cell BK380.out 2).trans rfl; have hfz13_0 := blk_frozen BK380.out 0; have hfz13_1 := blk_frozen BK380.out 1; have hfz13_2 := blk_frozen BK380.out 2; have hcz14_0 : w10.cell? ⟨gb375, 0, none⟩ = some (.string (⟨#[]⟩ : ByteArray)) := (blk_cell BK375.out 0).trans rfl; have hcz14_1 : w10.cell? ⟨gb375, 1, none⟩ = some (.int .u64 0) := (blk_cell BK375.out 1).trans rfl; have hcz14_2 : w10.cell? ⟨gb375, 2, none⟩ = some (.int .u64 0) := (blk_cell BK375.out 2).trans rfl; have hfz14_0 := blk_frozen BK375.out 0; have hfz14_1 := blk_frozen BK375.out 1; have hfz14_2 := blk_frozen BK375.out 2))
      refine bodyPost_ret (results_ctt rfl _ _ gb375 44 #[.string t376, .int .u64 t377, .int .u64 t378] (0, 0) _ rfl (by (with_reducible repeat (first | refine blk_drewN ?_ _ | refine blk_drew ?_ | refine blk_alloc ?_ _)); refine blk_put (cs := #[.string t376, .int .u64 t377, .int .u64 0]) ?_ 2 _ rfl; (with_reducible repeat (first | refine blk_drewN ?_ _ | refine blk_drew ?_ | refine blk_alloc ?_ _)); refine blk_put (cs := #[.string t376, .int .u64 0, .int .u64 0]) ?_ 1 _ rfl; (with_reducible repeat (first | refine blk_drewN ?_ _ | refine blk_drew ?_ | refine blk_alloc ?_ _)); refine blk_put (cs := #[.string (⟨#[]⟩ : ByteArray), .int .u64 0, .int .u64 0]) ?_ 0 _ rfl; (with_reducible repeat (first | refine blk_drewN ?_ _ | refine blk_drew ?_ | refine blk_alloc ?_ _)); refine blk_far ?_ NB375_380.out _; (with_reducible repeat (first | refine blk_drewN ?_ _ | refine blk_drew ?_ | refine blk_alloc ?_ _)); refine blk_far ?_ NB375_380.out _; (with_reducible repeat (first | refine blk_drewN ?_ _ | refine blk_drew ?_ | refine blk_alloc ?_ _)); refine blk_far ?_ NB375_380.out _; (with_reducible repeat (first | refine blk_drewN ?_ _ | refine blk_drew ?_ | refine blk_alloc ?_ _)); exact BK375.out) Tryd.underlying44 rfl (by kernel_rfl)) rfl ?_
      exact ⟨by first | rfl | (simp [errW_none, errW_some] <;> rfl) | (simp [*, errW_none, errW_some] <;> rfl), by repeat (first | (with_reducible first | exact HB.out | apply below_alloc | apply pw_below_drewN | apply below_drew1 | refine below_set ?_ GE374.out | refine below_set ?_ GE375.out | refine below_set ?_ GE380.out) | exact HB.out)⟩
    · rw [if_neg c3] at H
      have c3b0 : (a0_2 == 2) = false := beq_eq_false_iff_ne.mpr c3
      have c3b1 : (a0_2 != 2) = true := bne_iff_ne.mpr c3
      simp only [Option.some.injEq, Prod.mk.injEq] at H
      obtain ⟨rfl, rfl, rfl, rfl, rfl⟩ := H
      go_enter Tryd.func43, Tryd.ntmps43
      go_wp2_with (first | ((with_reducible refine gate_dst (N := 1) rfl ?_); refine box_event ?hg (N := 1) ?hd (cs := #[.int .i64 a0_0, .string a0_1, .int .u8 a0_2, .int .i64 a0_3]) (t := 56) ?hr ?_; (case hd => rfl); (case hg => rfl); (case hr => first | (go_simp; done) | (go_simp; rfl)); intro gb374 hg w15 hbox hb; have n0_ := Aside0.mk (below_step (by repeat (first | (with_reducible first | exact HB.out | apply below_alloc | apply pw_below_drewN | apply below_drew1) | exact HB.out)) hb); have n1_ := Aside0.mk (hbox); have n2_ := Aside0.mk ((by rw [hg]; exact (below_size (by repeat (first | (with_reducible first | exact HB.out | apply below_alloc | apply pw_below_drewN | apply below_drew1) | exact HB.out))) : w.heap.size ≤ gb374)); have n3_ := Aside0.mk ((by rw [hg]; exact (below_size (by repeat (first | (with_reducible first | exact HB.out | apply below_alloc | apply pw_below_drewN | apply below_drew1) | exact HB.out))) : w.heap.size ≤ gb374)); clear HB; have HB := n0_; have BK374 := n1_; have GW374 := n2_; have GE374 := n3_; clear n0_ n1_ n2_ n3_; clear hb hbox hg) | ((with_reducible refine gate_dst (N := 2) rfl ?_); refine box_event ?hg (N := 2) ?hd (cs := #[.string (⟨#[]⟩ : ByteArray), .int .u64 0, .int .u64 0]) (t := 44) ?hr ?_; (case hd => rfl); (case hg => rfl); (case hr => first | (go_simp; done) | (go_simp; rfl)); intro gb375 hg w16 hbox hb; have n0_ := Aside0.mk (blk_below (g := gb374) (o := .cells #[.int .i64 a0_0, .string a0_1, .int .u8 a0_2, .int .i64 a0_3] 56 (0, 0)) (by (with_reducible repeat (first | refine blk_drewN ?_ _ | refine blk_drew ?_ | refine blk_alloc ?_ _)); exact BK374.out) hb); have n1_ := Aside0.mk (below_step (by repeat (first | (with_reducible first | exact HB.out | apply below_alloc | apply pw_below_drewN | apply below_drew1 | refine below_set ?_ GE374.out) | exact HB.out)) hb); have n2_ := Aside0.mk (hbox); have n3_ := Aside0.mk ((by rw [hg]; exact (below_size (by repeat (first | (with_reducible first | exact HB.out | apply below_alloc | apply pw_below_drewN | apply below_drew1 | refine below_set ?_ GE374.out) | exact HB.out))) : w.heap.size ≤ gb375)); have n4_ := Aside0.mk ((by rw [hg]; exact (below_size (by repeat (first | (with_reducible first | exact HB.out | apply below_alloc | apply pw_below_drewN | apply below_drew1 | refine below_set ?_ GE374.out) | exact HB.out))) : w.heap.size ≤ gb375)); have n5_ := Aside0.mk ((by rw [hg]; exact Nat.ne_of_lt (blk_lt (g := gb374) (o := .cells #[.int .i64 a0_0, .string a0_1, .int .u8 a0_2, .int .i64 a0_3] 56 (0, 0)) (by (with_reducible repeat (first | refine blk_drewN ?_ _ | refine blk_drew ?_ | refine blk_alloc ?_ _)); exact BK374.out)) : gb374 ≠ gb375)); have n6_ := Aside0.mk ((by rw [hg]; exact Nat.ne_of_gt (blk_lt (g := gb374) (o := .cells #[.int .i64 a0_0, .string a0_1, .int .u8 a0_2, .int .i64 a0_3] 56 (0, 0)) (by (with_reducible repeat (first | refine blk_drewN ?_ _ | refine blk_drew ?_ | refine blk_alloc ?_ _)); exact BK374.out)) : gb375 ≠ gb374)); clear BK374; clear HB; have BK374 := n0_; have HB := n1_; have BK375 := n2_; have GW375 := n3_; have GE375 := n4_; have NB374_375 := n5_; have NB375_374 := n6_; clear n0_ n1_ n2_ n3_ n4_ n5_ n6_; clear hb hbox hg; have hnb17 := NB374_375.out; have hnc17 := NB375_374.out; have hcz18_0 : w16.cell? ⟨gb374, 0, none⟩ = some (.int .i64 a0_0) := (blk_cell BK374.out 0).trans rfl; have hcz18_1 : w16.cell? ⟨gb374, 1, none⟩ = some (.string a0_1) := (blk_cell BK374.out 1).trans rfl; have hcz18_2 : w16.cell? ⟨gb374, 2, none⟩ = some (.int .u8 a0_2) := (blk_cell BK374.out 2).trans rfl; have hcz18_3 : w16.cell? ⟨gb374, 3, none⟩ = some (.int .i64 a0_3) := (blk_cell BK374.out 3).trans rfl; have hfz18_0 := blk_frozen BK374.out 0; have hfz18_1 := blk_frozen BK374.out 1; have hfz18_2 := blk_frozen BK374.out 2; have hfz18_3 := blk_frozen BK374.out 3; have hcz19_0 : w16.cell? ⟨gb375, 0, none⟩ = some (.string (⟨#[]⟩ : ByteArray)) := (blk_cell BK375.out 0).trans rfl; have hcz19_1 : w16.cell? ⟨gb375, 1, none⟩ = some (.int .u64 0) := (blk_cell BK375.out 1).trans rfl; have hcz19_2 : w16.cell? ⟨gb375, 2, none⟩ = some (.int .u64 0) := (blk_cell BK375.out 2).trans rfl; have hfz19_0 := blk_frozen BK375.out 0; have hfz19_1 := blk_frozen BK375.out 1; have hfz19_2 := blk_frozen BK375.out 2))
      refine bodyPost_ret (results_ctt rfl _ _ gb375 44 #[.string (⟨#[]⟩ : ByteArray), .int .u64 0, .int .u64 0] (0, 0) _ rfl (by (with_reducible repeat (first | refine blk_drewN ?_ _ | refine blk_drew ?_ | refine blk_alloc ?_ _)); refine blk_put (cs := #[.string (⟨#[]⟩ : ByteArray), .int .u64 0, .int .u64 0]) ?_ 2 _ rfl; (with_reducible repeat (first | refine blk_drewN ?_ _ | refine blk_drew ?_ | refine blk_alloc ?_ _)); refine blk_put (cs := #[.string (⟨#[]⟩ : ByteArray), .int .u64 0, .int .u64 0]) ?_ 1 _ rfl; (with_reducible repeat (first | refine blk_drewN ?_ _ | refine blk_drew ?_ | refine blk_alloc ?_ _)); refine blk_put (cs := #[.string (⟨#[]⟩ : ByteArray), .int .u64 0, .int .u64 0]) ?_ 0 _ rfl; (with_reducible repeat (first | refine blk_drewN ?_ _ | refine blk_drew ?_ | refine blk_alloc ?_ _)); exact BK375.out) Tryd.underlying44 rfl (by kernel_rfl)) rfl ?_
      exact ⟨by first | rfl | (simp [errW_none, errW_some] <;> rfl) | (simp [*, errW_none, errW_some] <;> rfl), by repeat (first | (with_reducible first | exact HB.out | apply below_alloc | apply pw_below_drewN | apply below_drew1 | refine below_set ?_ GE374.out | refine below_set ?_ GE375.out) | exact HB.out)⟩
  · rw [if_neg c2] at H
    have c2b0 : (a0_3 == 0) = false := beq_eq_false_iff_ne.mpr c2
    have c2b1 : (a0_3 != 0) = true := bne_iff_ne.mpr c2
    simp only [Option.some.injEq, Prod.mk.injEq] at H
    obtain ⟨rfl, rfl, rfl, rfl, rfl⟩ := H
    go_enter Tryd.func43, Tryd.ntmps43
    try go_wp2_with (first | ((with_reducible refine gate_dst (N := 1) rfl ?_); refine box_event ?hg (N := 1) ?hd (cs := #[.int .i64 a0_0, .string a0_1, .int .u8 a0_2, .int .i64 a0_3]) (t := 56) ?hr ?_; (case hd => rfl); (case hg => rfl); (case hr => first | (go_simp; done) | (go_simp; rfl)); intro gb374 hg w20 hbox hb; have n0_ := Aside0.mk (below_step (by repeat (first | (with_reducible first | exact HB.out | apply below_alloc | apply pw_below_drewN | apply below_drew1) | exact HB.out)) hb); have n1_ := Aside0.mk (hbox); have n2_ := Aside0.mk ((by rw [hg]; exact (below_size (by repeat (first | (with_reducible first | exact HB.out | apply below_alloc | apply pw_below_drewN | apply below_drew1) | exact HB.out))) : w.heap.size ≤ gb374)); have n3_ := Aside0.mk ((by rw [hg]; exact (below_size (by repeat (first | (with_reducible first | exact HB.out | apply below_alloc | apply pw_below_drewN | apply below_drew1) | exact HB.out))) : w.heap.size ≤ gb374)); clear HB; have HB := n0_; have BK374 := n1_; have GW374 := n2_; have GE374 := n3_; clear n0_ n1_ n2_ n3_; clear hb hbox hg) | ((with_reducible refine gate_dst (N := 2) rfl ?_); refine box_event ?hg (N := 2) ?hd (cs := #[.string (⟨#[]⟩ : ByteArray), .int .u64 0, .int .u64 0]) (t := 44) ?hr ?_; (case hd => rfl); (case hg => rfl); (case hr => first | (go_simp; done) | (go_simp; rfl)); intro gb375 hg w21 hbox hb; have n0_ := Aside0.mk (blk_below (g := gb374) (o := .cells #[.int .i64 a0_0, .string a0_1, .int .u8 a0_2, .int .i64 a0_3] 56 (0, 0)) (by (with_reducible repeat (first | refine blk_drewN ?_ _ | refine blk_drew ?_ | refine blk_alloc ?_ _)); exact BK374.out) hb); have n1_ := Aside0.mk (below_step (by repeat (first | (with_reducible first | exact HB.out | apply below_alloc | apply pw_below_drewN | apply below_drew1 | refine below_set ?_ GE374.out) | exact HB.out)) hb); have n2_ := Aside0.mk (hbox); have n3_ := Aside0.mk ((by rw [hg]; exact (below_size (by repeat (first | (with_reducible first | exact HB.out | apply below_alloc | apply pw_below_drewN | apply below_drew1 | refine below_set ?_ GE374.out) | exact HB.out))) : w.heap.size ≤ gb375)); have n4_ := Aside0.mk ((by rw [hg]; exact (below_size (by repeat (first | (with_reducible first | exact HB.out | apply below_alloc | apply pw_below_drewN | apply below_drew1 | refine below_set ?_ GE374.out) | exact HB.out))) : w.heap.size ≤ gb375)); have n5_ := Aside0.mk ((by rw [hg]; exact Nat.ne_of_lt (blk_lt (g := gb374) (o := .cells #[.int .i64 a0_0, .string a0_1, .int .u8 a0_2, .int .i64 a0_3] 56 (0, 0)) (by (with_reducible repeat (first | refine blk_drewN ?_ _ | refine blk_drew ?_ | refine blk_alloc ?_ _)); exact BK374.out)) : gb374 ≠ gb375)); have n6_ := Aside0.mk ((by rw [hg]; exact Nat.ne_of_gt (blk_lt (g := gb374) (o := .cells #[.int .i64 a0_0, .string a0_1, .int .u8 a0_2, .int .i64 a0_3] 56 (0, 0)) (by (with_reducible repeat (first | refine blk_drewN ?_ _ | refine blk_drew ?_ | refine blk_alloc ?_ _)); exact BK374.out)) : gb375 ≠ gb374)); clear BK374; clear HB; have BK374 := n0_; have HB := n1_; have BK375 := n2_; have GW375 := n3_; have GE375 := n4_; have NB374_375 := n5_; have NB375_374 := n6_; clear n0_ n1_ n2_ n3_ n4_ n5_ n6_; clear hb hbox hg; have hnb22 := NB374_375.out; have hnc22 := NB375_374.out; have hcz23_0 : w21.cell? ⟨gb374, 0, none⟩ = some (.int .i64 a0_0) := (blk_cell BK374.out 0).trans rfl; have hcz23_1 : w21.cell? ⟨gb374, 1, none⟩ = some (.string a0_1) := (blk_cell BK374.out 1).trans rfl; have hcz23_2 : w21.cell? ⟨gb374, 2, none⟩ = some (.int .u8 a0_2) := (blk_cell BK374.out 2).trans rfl; have hcz23_3 : w21.cell? ⟨gb374, 3, none⟩ = some (.int .i64 a0_3) := (blk_cell BK374.out 3).trans rfl; have hfz23_0 := blk_frozen BK374.out 0; have hfz23_1 := blk_frozen BK374.out 1; have hfz23_2 := blk_frozen BK374.out 2; have hfz23_3 := blk_frozen BK374.out 3))
    have n0_ := Aside0.mk (blk_drew BK374.out)
    have n1_ := Aside0.mk (blk_drew BK375.out)
    have n2_ := Aside0.mk (below_drew1 HB.out)
    clear BK374
    clear BK375
    clear HB
    have BK374 := n0_
    have BK375 := n1_
    have HB := n2_
    clear n0_ n1_ n2_
    refine start_ (n := 6) (S := fun w' => w'.cell? ⟨gb374, 0, none⟩ = some (.int .i64 a0_0) ∧ w'.cell? ⟨gb374, 1, none⟩ = some (.string a0_1) ∧ w'.cell? ⟨gb374, 2, none⟩ = some (.int .u8 a0_2) ∧ w'.cell? ⟨gb374, 3, none⟩ = some (.int .i64 a0_3)) (ds := []) #[false, false, false, false, false, false] (by kernel_rfl) rfl rfl ⟨(blk_cell BK374.out 0).trans rfl, (blk_cell BK374.out 1).trans rfl, (blk_cell BK374.out 2).trans rfl, (blk_cell BK374.out 3).trans rfl⟩ (fun hHeld => ?_)
    generalize w21.drew = w24 at BK374 BK375 HB hHeld ⊢
    refine pure_ (i := 0) (N := some 10) (v := ?_) (a' := ?_) #[true, false, false, false, false, false] rfl rfl (by kernel_rfl) (fun _ _ _ h => h) (Or.inl ⟨by rfl, ?_⟩) ?_ ?_
    rotate_left
    · intro w'
      go_simp
      with_reducible rfl
    rotate_left
    · simp only [Act.put, List.setIfInBounds_toArray, List.set_cons_zero, List.set_cons_succ, i64_w, i32_w]
      rfl
    refine pure_ (i := 1) (N := some 11) (v := ?_) (a' := ?_) #[true, true, false, false, false, false] rfl rfl (by kernel_rfl) (fun _ _ _ h => h) (Or.inl ⟨by rfl, ?_⟩) ?_ ?_
    rotate_left
    · intro w'
      go_simp
      with_reducible rfl
    rotate_left
    · simp only [Act.put, List.setIfInBounds_toArray, List.set_cons_zero, List.set_cons_succ, i64_w, i32_w]
      rfl
    refine take_ (i := 2) (N := some 12) (v := ?_) (a' := ?_) #[true, true, true, false, false, false] rfl rfl (by kernel_rfl) (fun _ _ _ h => h) (Or.inl ⟨by rfl, ?_⟩) hHeld ?_ ?_
    rotate_left
    · rintro w' ⟨s0, s1, s2, s3⟩
      go_simp
      with_reducible rfl
    rotate_left
    · simp only [Act.put, List.setIfInBounds_toArray, List.set_cons_zero, List.set_cons_succ, i64_w, i32_w]
      rfl
    refine one_ (i := 3) (N := none) #[true, true, true, true, false, false] rfl rfl (by kernel_rfl) (by decide) (fun K hK => ?_)
    have hs25 : w24.cell? ⟨gb375, 0, none⟩ = some (.string (⟨#[]⟩ : ByteArray)) := (blk_cell BK375.out 0).trans rfl
    have hfs25 := blk_frozen BK375.out 0
    have hns25_0 := NB374_375.out
    have hms25_0 := NB375_374.out
    have hs26 : w24.cell? ⟨gb375, 1, none⟩ = some (.int .u64 0) := (blk_cell BK375.out 1).trans rfl
    have hfs26 := blk_frozen BK375.out 1
    have hns26_0 := NB374_375.out
    have hms26_0 := NB375_374.out
    have hs27 : w24.cell? ⟨gb375, 2, none⟩ = some (.int .u64 0) := (blk_cell BK375.out 2).trans rfl
    have hfs27 := blk_frozen BK375.out 2
    have hns27_0 := NB374_375.out
    have hms27_0 := NB375_374.out
    refine skip_ (w1 := ?_) (by rfl) rfl ?_ ?_
    rotate_left
    · go_simp
      rfl
    refine hK.out _ _ ⟨((cell_far (p := ⟨gb375, _, none⟩) NB374_375.out _).trans (((cell_far (p := ⟨gb375, _, none⟩) NB374_375.out _).trans (((cell_far (p := ⟨gb375, _, none⟩) NB374_375.out _).trans (hHeld.1)))))), ((cell_far (p := ⟨gb375, _, none⟩) NB374_375.out _).trans (((cell_far (p := ⟨gb375, _, none⟩) NB374_375.out _).trans (((cell_far (p := ⟨gb375, _, none⟩) NB374_375.out _).trans (hHeld.2.1)))))), ((cell_far (p := ⟨gb375, _, none⟩) NB374_375.out _).trans (((cell_far (p := ⟨gb375, _, none⟩) NB374_375.out _).trans (((cell_far (p := ⟨gb375, _, none⟩) NB374_375.out _).trans (hHeld.2.2.1)))))), ((cell_far (p := ⟨gb375, _, none⟩) NB374_375.out _).trans (((cell_far (p := ⟨gb375, _, none⟩) NB374_375.out _).trans (((cell_far (p := ⟨gb375, _, none⟩) NB374_375.out _).trans (hHeld.2.2.2))))))⟩ (fun hHeld => ?_)
    clear hK K
    refine pure_ (i := 4) (N := some 3) (v := ?_) (a' := ?_) #[true, true, true, true, true, false] rfl rfl (by kernel_rfl) (fun _ _ _ h => h) (Or.inl ⟨by rfl, ?_⟩) ?_ ?_
    rotate_left
    · intro w'
      go_simp
      with_reducible rfl
    rotate_left
    · simp only [Act.put, List.setIfInBounds_toArray, List.set_cons_zero, List.set_cons_succ, i64_w, i32_w]
      rfl
    refine pure_ (i := 5) (N := some 4) (v := ?_) (a' := ?_) #[true, true, true, true, true, true] rfl rfl (by kernel_rfl) (fun _ _ _ h => h) (Or.inl ⟨by rfl, ?_⟩) ?_ ?_
    rotate_left
    · intro w'
      go_simp
      with_reducible rfl
    rotate_left
    · simp only [Act.put, List.setIfInBounds_toArray, List.set_cons_zero, List.set_cons_succ, i64_w, i32_w]
      rfl
    refine done_ (by kernel_rfl) ?_
    try go_wp2
    refine bodyPost_ret (results_ctt rfl _ _ gb375 44 #[.string (⟨#[]⟩ : ByteArray), .int .u64 0, .int .u64 0] (0, 0) _ rfl (by (with_reducible repeat (first | refine blk_drewN ?_ _ | refine blk_drew ?_ | refine blk_alloc ?_ _)); refine blk_put (cs := #[.string (⟨#[]⟩ : ByteArray), .int .u64 0, .int .u64 0]) ?_ 2 _ rfl; (with_reducible repeat (first | refine blk_drewN ?_ _ | refine blk_drew ?_ | refine blk_alloc ?_ _)); refine blk_put (cs := #[.string (⟨#[]⟩ : ByteArray), .int .u64 0, .int .u64 0]) ?_ 1 _ rfl; (with_reducible repeat (first | refine blk_drewN ?_ _ | refine blk_drew ?_ | refine blk_alloc ?_ _)); refine blk_put (cs := #[.string (⟨#[]⟩ : ByteArray), .int .u64 0, .int .u64 0]) ?_ 0 _ rfl; (with_reducible repeat (first | refine blk_drewN ?_ _ | refine blk_drew ?_ | refine blk_alloc ?_ _)); exact BK375.out) Tryd.underlying44 rfl (by kernel_rfl)) rfl ?_
    exact ⟨by first | rfl | (simp [errW_none, errW_some] <;> rfl) | (simp [*, errW_none, errW_some] <;> rfl), by repeat (first | (with_reducible first | exact HB.out | apply below_alloc | apply pw_below_drewN | apply below_drew1 | refine below_set ?_ GE374.out | refine below_set ?_ GE375.out) | exact HB.out)⟩
end Go.Proofs.YtpkjpiphjdpegaaDoor.P
namespace Go.Proofs.YtpkjpiphjdpegaaDoor.P
open Go.RowKit Go.Proofs.YtpkjpiphjdpegaaDoorW.PrintWords Go.Proofs.YtpkjpiphjdpegaaDoorW.PrintLast Go.Proofs.YtpkjpiphjdpegaaDoorW.PrintMore
attribute [local go_sem] max2_int min2_int max_two min_two max_three min_three max_four min_four
set_option linter.unusedVariables false
set_option linter.unusedSimpArgs false
def row_Text.f (a0_0 : ByteArray) (a0_1 : Int) (a0_2 : Int) : Option (ByteArray × Int) := (tag_MayId.f a0_0).bind fun t603 => (if t603 = true then (if a0_0.size + 1 ≤ 9223372036854775807 then ((decimal_Text.f a0_1 a0_2).bind fun t604 => (if (a0_0 ++ (⟨#[32]⟩ : ByteArray)).size + t604.size ≤ 9223372036854775807 then (some ((a0_0 ++ (⟨#[32]⟩ : ByteArray)) ++ t604, 0)) else (none))) else (none)) else (some ((⟨#[]⟩ : ByteArray), 101)))
def row_Text.T3 : Bool × List (List Nat × List Nat) := (true, [([], []), ([0], [0]), ([1], [1]), ([], []), ([3], [3]), ([4], [4]), ([2, 5], [2, 5]), ([6, 5, 0, 1, 2, 3, 4, 5, 6], [6]), ([7, 0, 1, 2, 3, 4, 5, 6, 7], [])])
def row_Text.B3 : List Nat := [0, 1, 3, 0, 8, 24, 63, 127, 255]
theorem row_Text.tab3 : rtab .any (opsOf Tryd.f48 3) = row_Text.T3 := by kernel_rfl
theorem row_Text.bits3 : waitsOk row_Text.T3.2 row_Text.B3 = true := by kernel_rfl
set_option maxHeartbeats 8000000 in
set_option maxRecDepth 100000 in
theorem row_Text.calls (a0_0 : ByteArray) (a0_1 : Int) (a0_2 : Int) (r1 : ByteArray) (r2 : Int) (w : World) (hG : GT w) (h : row_Text.f a0_0 a0_1 a0_2 = some (r1, r2)) :
    Calls Tryd.prog 48 #[.agg #[.string a0_0, .int .u64 a0_1, .int .u64 a0_2]] w fun e w' => e = .returned (.tuple #[.string r1, .int .i64 r2]) ∧ Below w.heap.size w w' := by
  have hu44 := Tryd.underlying44
  have hu42 := Tryd.underlying42
  have HB := Aside0.mk (Below.refl w.heap.size w)
  have H : ((tag_MayId.f a0_0).bind fun t603 => (if t603 = true then (if a0_0.size + 1 ≤ 9223372036854775807 then ((decimal_Text.f a0_1 a0_2).bind fun t604 => (if (a0_0 ++ (⟨#[32]⟩ : ByteArray)).size + t604.size ≤ 9223372036854775807 then (some ((a0_0 ++ (⟨#[32]⟩ : ByteArray)) ++ t604, 0)) else (none))) else (none)) else (some ((⟨#[]⟩ : ByteArray), 101)))) = some (r1, r2) := h
  clear h
  replace H := Option.bind_eq_some_iff.mp H
  obtain ⟨t603, A20, H⟩ := H
  replace H : (if t603 = true then (if a0_0.size + 1 ≤ 9223372036854775807 then ((decimal_Text.f a0_1 a0_2).bind fun t604 => (if (a0_0 ++ (⟨#[32]⟩ : ByteArray)).size + t604.size ≤ 9223372036854775807 then (some ((a0_0 ++ (⟨#[32]⟩ : ByteArray)) ++ t604, 0)) else (none))) else (none)) else (some ((⟨#[]⟩ : ByteArray), 101))) = some (r1, r2) := H
  have A2 := Aside0.mk A20
  clear A20
  by_cases c3 : t603 = true
  · subst c3
    have H1 : (if a0_0.size + 1 ≤ 9223372036854775807 then ((decimal_Text.f a0_1 a0_2).bind fun t604 => (if (a0_0 ++ (⟨#[32]⟩ : ByteArray)).size + t604.size ≤ 9223372036854775807 then (some ((a0_0 ++ (⟨#[32]⟩ : ByteArray)) ++ t604, 0)) else (none))) else (none)) = some (r1, r2) := by rw [if_pos rfl] at H; exact H
    clear H
    have H := H1
    clear H1
    by_cases c4 : a0_0.size + 1 ≤ 9223372036854775807
    · rw [if_pos c4] at H
      have c4b0 := eq_true c4
      have c4b1 : decide (a0_0.size + 1 ≤ 9223372036854775807) = true := decide_eq_true c4
      try have c4b2 : (9223372036854775807 < a0_0.size + 1) = False := eq_false (Nat.not_lt.2 c4)
      replace H := Option.bind_eq_some_iff.mp H
      obtain ⟨t604, A50, H⟩ := H
      replace H : (if (a0_0 ++ (⟨#[32]⟩ : ByteArray)).size + t604.size ≤ 9223372036854775807 then (some ((a0_0 ++ (⟨#[32]⟩ : ByteArray)) ++ t604, 0)) else (none)) = some (r1, r2) := H
      have A5 := Aside0.mk A50
      clear A50
      by_cases c6 : (a0_0 ++ (⟨#[32]⟩ : ByteArray)).size + t604.size ≤ 9223372036854775807
      · rw [if_pos c6] at H
        have c6b0 := eq_true c6
        have c6b1 : decide ((a0_0 ++ (⟨#[32]⟩ : ByteArray)).size + t604.size ≤ 9223372036854775807) = true := decide_eq_true c6
        try have c6b2 : (9223372036854775807 < (a0_0 ++ (⟨#[32]⟩ : ByteArray)).size + t604.size) = False := eq_false (Nat.not_lt.2 c6)
        try have c6b3 : (9223372036854775807 < a0_0.size + 1 + t604.size) = False := eq_false (by have e_ := c6; repeat rw [ByteArray.size_append] at e_; exact Nat.not_lt.2 e_)
        simp only [Option.some.injEq, Prod.mk.injEq] at H
        obtain ⟨rfl, rfl⟩ := H
        go_enter Tryd.func48, Tryd.ntmps48
        try go_wp2_with (first | ((with_reducible refine gate_dst (N := 1) rfl ?_); refine box_event ?hg (N := 1) ?hd (cs := #[.string a0_0, .int .u64 a0_1, .int .u64 a0_2]) (t := 44) ?hr ?_; (case hd => rfl); (case hg => rfl); (case hr => first | (go_simp; done) | (go_simp; rfl)); intro gb602 hg w7 hbox hb; have n0_ := Aside0.mk (below_step (by repeat (first | (with_reducible first | exact HB.out | apply below_alloc | apply pw_below_drewN | apply below_drew1) | exact HB.out)) hb); have n1_ := Aside0.mk (hbox); have n2_ := Aside0.mk ((by rw [hg]; exact (below_size (by repeat (first | (with_reducible first | exact HB.out | apply below_alloc | apply pw_below_drewN | apply below_drew1) | exact HB.out))) : w.heap.size ≤ gb602)); have n3_ := Aside0.mk ((by rw [hg]; exact (below_size (by repeat (first | (with_reducible first | exact HB.out | apply below_alloc | apply pw_below_drewN | apply below_drew1) | exact HB.out))) : w.heap.size ≤ gb602)); clear HB; have HB := n0_; have BK602 := n1_; have GW602 := n2_; have GE602 := n3_; clear n0_ n1_ n2_ n3_; clear hb hbox hg; have hcz8_0 : w7.cell? ⟨gb602, 0, none⟩ = some (.string a0_0) := (blk_cell BK602.out 0).trans rfl; have hcz8_1 : w7.cell? ⟨gb602, 1, none⟩ = some (.int .u64 a0_1) := (blk_cell BK602.out 1).trans rfl; have hcz8_2 : w7.cell? ⟨gb602, 2, none⟩ = some (.int .u64 a0_2) := (blk_cell BK602.out 2).trans rfl; have hfz8_0 := blk_frozen BK602.out 0; have hfz8_1 := blk_frozen BK602.out 1; have hfz8_2 := blk_frozen BK602.out 2) | ((with_reducible refine gate_callee (f := 51) rfl ?_); refine goesL_ (some 6) rfl rfl Tryd.func51 (by kernel_rfl) rfl #[.string a0_0] rfl (by (try simp only [List.map_toArray, List.map_cons, List.map_nil]); first | done | rfl | (simp only [List.length_drop, List.length_take]; rfl)) ?_; (with_reducible refine (tag_MayId.calls a0_0 true _ ?side1 A2.out).mono ?_); (case side1 => exact gt_below hG (by repeat (first | (with_reducible first | exact HB.out | apply below_alloc | apply pw_below_drewN | apply below_drew1 | refine below_set ?_ GE602.out) | exact HB.out))); rintro e w9 ⟨rfl, hb⟩; refine ⟨_, rfl, ?_⟩; have n0_ := Aside0.mk (blk_below (g := gb602) (o := .cells #[.string a0_0, .int .u64 a0_1, .int .u64 a0_2] 44 (0, 0)) (by (with_reducible repeat (first | refine blk_drewN ?_ _ | refine blk_drew ?_ | refine blk_alloc ?_ _)); exact BK602.out) hb); have n1_ := Aside0.mk (below_step (by repeat (first | (with_reducible first | exact HB.out | apply below_alloc | apply pw_below_drewN | apply below_drew1 | refine below_set ?_ GE602.out) | exact HB.out)) hb); clear BK602; clear HB; have BK602 := n0_; have HB := n1_; clear n0_ n1_; (try clear hb); (try clear hb2); (try clear hk); (try clear hi)))
        have n0_ := Aside0.mk (blk_drew BK602.out)
        have n1_ := Aside0.mk (below_drew1 HB.out)
        clear BK602
        clear HB
        have BK602 := n0_
        have HB := n1_
        clear n0_ n1_
        refine start_ (n := 9) (S := fun w' => w'.cell? ⟨gb602, 0, none⟩ = some (.string a0_0) ∧ w'.cell? ⟨gb602, 1, none⟩ = some (.int .u64 a0_1) ∧ w'.cell? ⟨gb602, 2, none⟩ = some (.int .u64 a0_2)) (ds := []) #[false, false, false, false, false, false, false, false, false] (by kernel_rfl) rfl rfl ⟨(blk_cell BK602.out 0).trans rfl, (blk_cell BK602.out 1).trans rfl, (blk_cell BK602.out 2).trans rfl⟩ (fun hHeld => ?_); refine with_tabW row_Text.tab3 row_Text.bits3 (fun HT_ HW_ => ?_)
        generalize w9.drew = w10 at BK602 HB hHeld ⊢
        refine pure_ (i := 0) (N := some 8) (v := ?_) (a' := ?_) #[true, false, false, false, false, false, false, false, false] rfl rfl (any_of HT_.out (by kernel_rfl)) (fun _ _ _ h => h) (Or.inl ⟨by rfl, ?_⟩) ?_ ?_
        rotate_left
        · intro w'
          go_simp
          with_reducible rfl
        rotate_left
        · simp only [Act.put, List.setIfInBounds_toArray, List.set_cons_zero, List.set_cons_succ, i64_w, i32_w]
          rfl
        refine pure_ (i := 3) (N := some 11) (v := ?_) (a' := ?_) #[true, false, false, true, false, false, false, false, false] rfl rfl (any_of HT_.out (by kernel_rfl)) (fun _ _ _ h => h) (Or.inl ⟨by rfl, ?_⟩) ?_ ?_
        rotate_left
        · intro w'
          go_simp
          with_reducible rfl
        rotate_left
        · simp only [Act.put, List.setIfInBounds_toArray, List.set_cons_zero, List.set_cons_succ, i64_w, i32_w]
          rfl
        refine take_ (i := 1) (N := some 9) (v := ?_) (a' := ?_) #[true, true, false, true, false, false, false, false, false] rfl rfl (take_ofW HT_.out HW_.out (by kernel_rfl)) (fun _ _ _ h => h) (Or.inl ⟨by rfl, ?_⟩) hHeld ?_ ?_
        rotate_left
        · rintro w' ⟨s0, s1, s2⟩
          go_simp
          with_reducible rfl
        rotate_left
        · simp only [Act.put, List.setIfInBounds_toArray, List.set_cons_zero, List.set_cons_succ, i64_w, i32_w]
          rfl
        refine pure_ (i := 2) (N := some 10) (v := ?_) (a' := ?_) #[true, true, true, true, false, false, false, false, false] rfl rfl (any_of HT_.out (by kernel_rfl)) (fun _ _ _ h => h) (Or.inl ⟨by rfl, ?_⟩) ?_ ?_
        rotate_left
        · intro w'
          go_simp
          with_reducible rfl
        rotate_left
        · simp only [Act.put, List.setIfInBounds_toArray, List.set_cons_zero, List.set_cons_succ, i64_w, i32_w]
          rfl
        refine take_ (i := 4) (N := some 12) (v := ?_) (a' := ?_) #[true, true, true, true, true, false, false, false, false] rfl rfl (take_ofW HT_.out HW_.out (by kernel_rfl)) (fun _ _ _ h => h) (Or.inl ⟨by rfl, ?_⟩) hHeld ?_ ?_
        rotate_left
        · rintro w' ⟨s0, s1, s2⟩
          go_simp
          with_reducible rfl
        rotate_left
        · simp only [Act.put, List.setIfInBounds_toArray, List.set_cons_zero, List.set_cons_succ, i64_w, i32_w]
          rfl
        refine one_ (i := 5) (N := some 13) #[true, true, true, true, true, true, false, false, false] rfl rfl (one_of HT_.out (by kernel_rfl)) (by decide) (fun K hK => ?_)
        refine goes_ Tryd.func85 (by kernel_rfl) rfl #[.agg #[.int .u64 a0_1, .int .u64 a0_2]] (by rfl) rfl rfl (by (try simp only [List.map_toArray, List.map_cons, List.map_nil]); first | done | rfl | (simp only [List.length_drop, List.length_take]; rfl)) ?_
        with_reducible refine (decimal_Text.calls a0_1 a0_2 t604 _ A5.out).mono ?_
        rintro e w11 ⟨rfl, hb⟩
        refine ⟨_, rfl, ?_⟩
        have n0_ := Aside0.mk (blk_below (g := gb602) (o := .cells #[.string a0_0, .int .u64 a0_1, .int .u64 a0_2] 44 (0, 0)) (by (with_reducible repeat (first | refine blk_drewN ?_ _ | refine blk_drew ?_ | refine blk_alloc ?_ _)); exact BK602.out) hb)
        have n1_ := Aside0.mk (below_step (by repeat (first | (with_reducible first | exact HB.out | apply below_alloc | apply pw_below_drewN | apply below_drew1 | refine below_set ?_ GE602.out) | exact HB.out)) hb)
        clear BK602
        clear HB
        have BK602 := n0_
        have HB := n1_
        clear n0_ n1_
        (try clear hb)
        (try clear hb2)
        (try clear hk)
        (try clear hi)
        refine hK.out _ _ ⟨(blk_cell BK602.out 0).trans rfl, (blk_cell BK602.out 1).trans rfl, (blk_cell BK602.out 2).trans rfl⟩ (fun hHeld => ?_)
        clear hK K
        refine norm_ (a' := ?_) ?_ ?_
        rotate_left
        · show Act.put _ (some 13) _ = _
          simp only [Act.put, List.setIfInBounds_toArray, List.set_cons_zero, List.set_cons_succ, i64_w, i32_w]
          rfl
        refine pure_ (i := 6) (N := some 14) (v := ?_) (a' := ?_) #[true, true, true, true, true, true, true, false, false] rfl rfl (any_of HT_.out (by kernel_rfl)) (fun _ _ _ h => h) (Or.inl ⟨by rfl, ?_⟩) ?_ ?_
        rotate_left
        · intro w'
          go_simp
          with_reducible rfl
        rotate_left
        · simp only [Act.put, List.setIfInBounds_toArray, List.set_cons_zero, List.set_cons_succ, i64_w, i32_w]
          rfl
        refine pure_ (i := 7) (N := some 2) (v := ?_) (a' := ?_) #[true, true, true, true, true, true, true, true, false] rfl rfl (any_of HT_.out (by kernel_rfl)) (fun _ _ _ h => h) (Or.inl ⟨by rfl, ?_⟩) ?_ ?_
        rotate_left
        · intro w'
          go_simp
          with_reducible rfl
        rotate_left
        · simp only [Act.put, List.setIfInBounds_toArray, List.set_cons_zero, List.set_cons_succ, i64_w, i32_w]
          rfl
        refine pure_ (i := 8) (N := some 3) (v := ?_) (a' := ?_) #[true, true, true, true, true, true, true, true, true] rfl rfl (any_of HT_.out (by kernel_rfl)) (fun _ _ _ h => h) (Or.inl ⟨by rfl, ?_⟩) ?_ ?_
        rotate_left
        · intro w'
          go_simp
          with_reducible rfl
        rotate_left
        · simp only [Act.put, List.setIfInBounds_toArray, List.set_cons_zero, List.set_cons_succ, i64_w, i32_w]
          rfl
        refine done_ (done_of HT_.out (by kernel_rfl)) ?_
        try go_wp2
        go_ret2
        exact ⟨by first | rfl | (simp [errW_none, errW_some] <;> rfl) | (simp [*, errW_none, errW_some] <;> rfl), by repeat (first | (with_reducible first | exact HB.out | apply below_alloc | apply pw_below_drewN | apply below_drew1 | refine below_set ?_ GE602.out) | exact HB.out)⟩
      · rw [if_neg c6] at H
        exact absurd H (by simp)
    · rw [if_neg c4] at H
      exact absurd H (by simp)
  · replace c3 := Bool.eq_false_iff.mpr c3
    subst c3
    have H1 : (some ((⟨#[]⟩ : ByteArray), 101)) = some (r1, r2) := by rw [if_neg (show ¬ (false = true) by decide)] at H; exact H
    clear H
    have H := H1
    clear H1
    simp only [Option.some.injEq, Prod.mk.injEq] at H
    obtain ⟨rfl, rfl⟩ := H
    go_enter Tryd.func48, Tryd.ntmps48
    go_wp2_with (first | ((with_reducible refine gate_dst (N := 1) rfl ?_); refine box_event ?hg (N := 1) ?hd (cs := #[.string a0_0, .int .u64 a0_1, .int .u64 a0_2]) (t := 44) ?hr ?_; (case hd => rfl); (case hg => rfl); (case hr => first | (go_simp; done) | (go_simp; rfl)); intro gb602 hg w12 hbox hb; have n0_ := Aside0.mk (below_step (by repeat (first | (with_reducible first | exact HB.out | apply below_alloc | apply pw_below_drewN | apply below_drew1) | exact HB.out)) hb); have n1_ := Aside0.mk (hbox); have n2_ := Aside0.mk ((by rw [hg]; exact (below_size (by repeat (first | (with_reducible first | exact HB.out | apply below_alloc | apply pw_below_drewN | apply below_drew1) | exact HB.out))) : w.heap.size ≤ gb602)); have n3_ := Aside0.mk ((by rw [hg]; exact (below_size (by repeat (first | (with_reducible first | exact HB.out | apply below_alloc | apply pw_below_drewN | apply below_drew1) | exact HB.out))) : w.heap.size ≤ gb602)); clear HB; have HB := n0_; have BK602 := n1_; have GW602 := n2_; have GE602 := n3_; clear n0_ n1_ n2_ n3_; clear hb hbox hg; have hcz13_0 : w12.cell? ⟨gb602, 0, none⟩ = some (.string a0_0) := (blk_cell BK602.out 0).trans rfl; have hcz13_1 : w12.cell? ⟨gb602, 1, none⟩ = some (.int .u64 a0_1) := (blk_cell BK602.out 1).trans rfl; have hcz13_2 : w12.cell? ⟨gb602, 2, none⟩ = some (.int .u64 a0_2) := (blk_cell BK602.out 2).trans rfl; have hfz13_0 := blk_frozen BK602.out 0; have hfz13_1 := blk_frozen BK602.out 1; have hfz13_2 := blk_frozen BK602.out 2) | ((with_reducible refine gate_callee (f := 51) rfl ?_); refine goesL_ (some 6) rfl rfl Tryd.func51 (by kernel_rfl) rfl #[.string a0_0] rfl (by (try simp only [List.map_toArray, List.map_cons, List.map_nil]); first | done | rfl | (simp only [List.length_drop, List.length_take]; rfl)) ?_; (with_reducible refine (tag_MayId.calls a0_0 false _ ?side1 A2.out).mono ?_); (case side1 => exact gt_below hG (by repeat (first | (with_reducible first | exact HB.out | apply below_alloc | apply pw_below_drewN | apply below_drew1 | refine below_set ?_ GE602.out) | exact HB.out))); rintro e w14 ⟨rfl, hb⟩; refine ⟨_, rfl, ?_⟩; have n0_ := Aside0.mk (blk_below (g := gb602) (o := .cells #[.string a0_0, .int .u64 a0_1, .int .u64 a0_2] 44 (0, 0)) (by (with_reducible repeat (first | refine blk_drewN ?_ _ | refine blk_drew ?_ | refine blk_alloc ?_ _)); exact BK602.out) hb); have n1_ := Aside0.mk (below_step (by repeat (first | (with_reducible first | exact HB.out | apply below_alloc | apply pw_below_drewN | apply below_drew1 | refine below_set ?_ GE602.out) | exact HB.out)) hb); clear BK602; clear HB; have BK602 := n0_; have HB := n1_; clear n0_ n1_; (try clear hb); (try clear hb2); (try clear hk); (try clear hi)))
    go_ret2
    exact ⟨by first | rfl | (simp [errW_none, errW_some] <;> rfl) | (simp [*, errW_none, errW_some] <;> rfl), by repeat (first | (with_reducible first | exact HB.out | apply below_alloc | apply pw_below_drewN | apply below_drew1 | refine below_set ?_ GE602.out) | exact HB.out)⟩
end Go.Proofs.YtpkjpiphjdpegaaDoor.P
namespace Go.Proofs.YtpkjpiphjdpegaaDoor.P
open Go.RowKit Go.Proofs.YtpkjpiphjdpegaaDoorW.PrintWords Go.Proofs.YtpkjpiphjdpegaaDoorW.PrintLast Go.Proofs.YtpkjpiphjdpegaaDoorW.PrintMore
set_option linter.unusedVariables false
set_option linter.unusedSimpArgs false
def cutAt (c : UInt8) : List UInt8 → Option (List UInt8 × List UInt8)
  | [] => none
  | b :: l => if b = c then some ([], l) else (cutAt c l).map fun p => (b :: p.1, p.2)
theorem cutAt_some {c : UInt8} : ∀ {l h t : List UInt8}, cutAt c l = some (h, t) → l = h ++ c :: t ∧ ∀ b ∈ h, b ≠ c
  | [], h, t, e => by cases e
  | b :: l, h, t, e => by
    rw [cutAt] at e
    by_cases q : b = c
    · rw [if_pos q] at e
      cases e
      rw [q]
      exact ⟨rfl, by simp⟩
    · rw [if_neg q] at e
      cases k : cutAt c l with
      | none => rw [k] at e; cases e
      | some p =>
        rw [k] at e
        cases e
        obtain ⟨h', t'⟩ := p
        obtain ⟨e1, e2⟩ := cutAt_some k
        refine ⟨by rw [e1]; rfl, fun x hx => ?_⟩
        rcases List.mem_cons.1 hx with rfl | hx
        · exact q
        · exact e2 x hx
theorem cutAt_none {c : UInt8} : ∀ {l : List UInt8}, cutAt c l = none → ∀ b ∈ l, b ≠ c
  | [], _ => by simp
  | b :: l, e => by
    rw [cutAt] at e
    by_cases q : b = c
    · rw [if_pos q] at e; cases e
    · rw [if_neg q] at e
      cases k : cutAt c l with
      | none =>
        intro x hx
        rcases List.mem_cons.1 hx with rfl | hx
        · exact q
        · exact cutAt_none k x hx
      | some p => rw [k] at e; cases e
theorem index_clean (c : UInt8) : ∀ (l : List UInt8), (∀ b ∈ l, b ≠ c) → Lib.indexByte l c = -1
  | [], _ => rfl
  | b :: l, h => by
    have ih := index_clean c l fun x hx => h x (List.mem_cons_of_mem _ hx)
    rw [Lib.indexByte, if_neg (by simpa using h b (List.mem_cons_self ..)), ih]
    rfl
theorem index_cut (c : UInt8) : ∀ (h t : List UInt8), (∀ b ∈ h, b ≠ c) → Lib.indexByte (h ++ c :: t) c = (h.length : Int)
  | [], t, _ => by rw [List.nil_append, Lib.indexByte, if_pos (by simp)]; rfl
  | b :: h, t, k => by
    have ih := index_cut c h t fun x hx => k x (List.mem_cons_of_mem _ hx)
    rw [List.cons_append, Lib.indexByte, if_neg (by simpa using k b (List.mem_cons_self ..)), ih, if_neg (by simp), List.length_cons]
    push_cast
    rfl
theorem cut_is (l : List UInt8) (hs : l.length ≤ 1000000000) (c : UInt8) : strings_Cut.f (mk l) (⟨#[c]⟩ : ByteArray) = some (match cutAt c l with
    | none => (mk l, (⟨#[]⟩ : ByteArray), false)
    | some (h, t) => (mk h, mk t, true)) := by
  have ix : stringslite_Index.f (mk l) (⟨#[c]⟩ : ByteArray) = some (Lib.indexByte l c) := by
    unfold stringslite_Index.f
    rw [if_pos (show (⟨#[c]⟩ : ByteArray).data.toList.length = 1 from rfl), mk_list]
    rfl
  have h1 : ((⟨#[c]⟩ : ByteArray).size : Int) = 1 := rfl
  unfold strings_Cut.f stringslite_Cut.f
  rw [ix, Option.bind_some]
  cases k : cutAt c l with
  | none =>
    rw [index_clean c l (cutAt_none k), if_neg (by omega), Option.bind_some]
  | some p =>
    obtain ⟨h, t⟩ := p
    obtain ⟨e1, e2⟩ := cutAt_some k
    have ll : l.length = h.length + (t.length + 1) := by rw [e1, List.length_append, List.length_cons]
    have w1 : wrap64 ((h.length : Int) + 1) = ((h.length + 1 : Nat) : Int) := by unfold wrap64; push_cast; omega
    have ei : Lib.indexByte l c = (h.length : Int) := by rw [e1]; exact index_cut c h t e2
    rw [ei, if_pos (by omega), if_pos (by omega), mk_size, if_pos (by omega), h1, w1, if_pos (by omega), if_pos (by omega), Option.bind_some, Int.toNat_natCast, Int.toNat_natCast, extract_mk, extract_mk, List.drop_zero, List.take_length, e1]
    rw [List.take_left, show h ++ c :: t = (h ++ [c]) ++ t by simp, List.drop_left' (by simp)]
def parseRow (l : List UInt8) : ByteArray × Int × Int × Int := match cutAt 32 l with
  | none => ((⟨#[]⟩ : ByteArray), 0, 0, 100)
  | some (h, t) => if mayId (mk h) = true then (if (parseOf (nb (mk t))).2.2 = 0 then (mk h, (parseOf (nb (mk t))).1, (parseOf (nb (mk t))).2.1, 0) else ((⟨#[]⟩ : ByteArray), 0, 0, 102)) else ((⟨#[]⟩ : ByteArray), 0, 0, 101)
theorem mayId_f (s : ByteArray) (hs : s.size ≤ 1000000000) : tag_MayId.f s = some (mayId s) := if_pos hs
theorem parse_is (l : List UInt8) (hs : l.length ≤ 1000000000) : row_Parse.f (mk l) = some (parseRow l) := by
  unfold row_Parse.f parseRow
  rw [cut_is l hs, Option.bind_some]
  cases k : cutAt 32 l with
  | none =>
    dsimp only
    rw [parse_num _ (by show 0 ≤ _; omega), Option.bind_some, if_neg (by decide)]
  | some p =>
    obtain ⟨h, t⟩ := p
    obtain ⟨e1, e2⟩ := cutAt_some k
    have ll : l.length = h.length + (t.length + 1) := by rw [e1, List.length_append, List.length_cons]
    dsimp only
    rw [parse_num _ (by rw [mk_size]; omega), Option.bind_some, if_pos rfl, mayId_f _ (by rw [mk_size]; omega), Option.bind_some]
    by_cases m : mayId (mk h) = true
    · rw [if_pos m, if_pos m]
      by_cases e : (parseOf (nb (mk t))).2.2 = 0
      · rw [if_pos e, if_pos e]
      · rw [if_neg e, if_neg e]
    · rw [if_neg m, if_neg m]
def oneB (h : List UInt8) : ByteArray × Int × Int × Bool × Int :=
  if wrongOf h = 0 then (if kindOf h = 2 then ((parseRow h).1, (parseRow h).2.1, (parseRow h).2.2.1, ((parseRow h).2.2.2 == 0), (parseRow h).2.2.2) else ((⟨#[]⟩ : ByteArray), 0, 0, false, 0)) else ((⟨#[]⟩ : ByteArray), 0, 0, false, wrongOf h)
theorem of_is (n : Int) (h : List UInt8) (hs : h.length ≤ 1000000000) : row_Of.f n (mk h) (kindOf h) (wrongOf h) = some (oneB h) := by
  unfold row_Of.f oneB
  by_cases c : wrongOf h = 0
  · rw [if_pos c, if_pos c]
    by_cases q : kindOf h = 2
    · rw [if_pos q, if_pos q, parse_is h hs, Option.bind_some]
    · rw [if_neg q, if_neg q]
  · rw [if_neg c, if_neg c]
def rowsL : Int → List S44 → List (List UInt8) → List S44 × Int × Int
  | _, acc, [] => (acc, 0, 0)
  | n, acc, h :: r => if (oneB h).2.2.2.2 = 0 then (if (oneB h).2.2.2.1 = true then rowsL (n + 1) (acc ++ [(⟨(oneB h).1, ⟨(oneB h).2.1, (oneB h).2.2.1⟩⟩ : S44)]) r else rowsL (n + 1) acc r) else ([], n, (oneB h).2.2.2.2)
end Go.Proofs.YtpkjpiphjdpegaaDoor.P
namespace Go.Proofs.YtpkjpiphjdpegaaDoor.P
open Go.RowKit Go.Proofs.YtpkjpiphjdpegaaDoorW.PrintWords Go.Proofs.YtpkjpiphjdpegaaDoorW.PrintLast Go.Proofs.YtpkjpiphjdpegaaDoorW.PrintMore
set_option linter.unusedVariables false
set_option linter.unusedSimpArgs false
theorem brk_clean (h : List UInt8) : brk (mk h) = false ↔ ∀ b ∈ h, b ≠ 10 := by
  unfold brk
  rw [mk_list, ← Lib.contains_iff_indexByte]
  simp only [← Bool.not_eq_true, List.contains_iff_mem]
  exact ⟨fun q b hb e => q (e ▸ hb), fun q e => q 10 e rfl⟩
theorem joinB_cons (h : List UInt8) (r : List (List UInt8)) : Lib.join (h :: r) [10] = h ++ Lib.joinTail [10] r := Lib.join_cons ..
theorem tail_cons (y : List UInt8) (r : List (List UInt8)) : Lib.joinTail [10] (y :: r) = 10 :: (y ++ Lib.joinTail [10] r) := rfl
theorem split_join : ∀ (r : List (List UInt8)) (h : List UInt8), (∀ x ∈ h :: r, ∀ b ∈ x, b ≠ 10) → splitB (Lib.join (h :: r) [10]) = h :: r
  | [], h, c => by rw [joinB_cons]; show splitB (h ++ []) = [h]; rw [List.append_nil]; exact splitB_one h (c h (List.mem_cons_self ..))
  | y :: r, h, c => by
    rw [joinB_cons, tail_cons, splitB_app, splitB_one h (c h (List.mem_cons_self ..)), ← joinB_cons, split_join r y fun x hx => c x (List.mem_cons_of_mem _ hx)]
    rfl
theorem texts_mk (L : List (List UInt8)) : (L.map mk).map (·.data.toList) = L := by
  rw [List.map_map]
  exact (List.map_congr_left fun x _ => mk_list x).trans (List.map_id _)
theorem joinL_mk (L : List (List UInt8)) : joinL (L.map mk) = mk (Lib.join L [10]) := by unfold joinL; rw [texts_mk]; rfl
theorem join_f (l : List ByteArray) (h1 : l.length ≤ 1000000) (h2 : (Lib.join (l.map (·.data.toList)) [10]).length ≤ 1000000000) : lines_Join.f l = some (if l.any brk = true then ((⟨#[]⟩ : ByteArray), 2) else (joinL l, 0)) := if_pos ⟨h1, h2⟩
end Go.Proofs.YtpkjpiphjdpegaaDoor.P
namespace Go.Proofs.YtpkjpiphjdpegaaDoor.P
open Go.RowKit Go.Proofs.YtpkjpiphjdpegaaDoorW.PrintWords Go.Proofs.YtpkjpiphjdpegaaDoorW.PrintLast Go.Proofs.YtpkjpiphjdpegaaDoorW.PrintMore
attribute [local go_sem] max2_int min2_int max_two min_two max_three min_three max_four min_four
set_option linter.unusedVariables false
set_option linter.unusedSimpArgs false
attribute [local go_sem high] eqA44
mutual
def row_Write.j0 : Nat → List (S44) → ByteArray → List ByteArray → Option (ByteArray × Int)
  | 0, _, _, _ => none
  | k + 1, x0, x1, x6 => row_Write.l0 k x1 x6 x0 (x0.length : Int) 0
def row_Write.l0 : Nat → ByteArray → List ByteArray → List (S44) → Int → Int → Option (ByteArray × Int)
  | 0, _, _, _, _, _ => none
  | k + 1, x1, x6, x21, x22, x23 => if x23 < x22 then (if 0 ≤ x23 then (if x23 < (x21.length : Int) then ((row_Text.f ((rd_T44 x21 x23).f0) ((rd_T44 x21 x23).f1.f0) ((rd_T44 x21 x23).f1.f1)).bind fun bt683 => (if bt683.2 = 0 then (if x6.length < 8796093022208 then (row_Write.l0 k x1 (x6 ++ [bt683.1]) x21 x22 (wrap64 (x23 + 1))) else (none)) else (some ((⟨#[]⟩ : ByteArray), bt683.2)))) else (none)) else (none)) else (if 2 + x1.size ≤ 9223372036854775807 then ((lines_All.f ((⟨#[35, 32]⟩ : ByteArray) ++ x1)).bind fun t688 => (if (t688.length : Int) > 1 then (some ((⟨#[]⟩ : ByteArray), 91)) else (if 0 < (t688.length : Int) then (if ((rd_T56 t688 0).f3) = 0 then (if x6.length < 8796093022208 then ((lines_Join.f (x6 ++ [(⟨#[]⟩ : ByteArray)])).bind fun bt695 => (some (bt695.1, 0))) else (none)) else (some ((⟨#[]⟩ : ByteArray), 91))) else (none)))) else (none))
end
def row_Write.f (k : Nat) (l0 : List (S44)) (a1 : ByteArray) : Option (ByteArray × Int) := if a1.toList = ([] : List UInt8) then (row_Write.j0 k l0 a1 ([] : List ByteArray)) else (if 2 + a1.size ≤ 9223372036854775807 then (if ([] : List ByteArray).length < 8796093022208 then (row_Write.j0 k l0 a1 (([] : List ByteArray) ++ [(⟨#[35, 32]⟩ : ByteArray) ++ a1])) else (none)) else (none))
theorem row_Write.mono_l : ∀ k, (∀ y0 y1 y2, LeO (row_Write.j0 k y0 y1 y2) (row_Write.j0 (k + 1) y0 y1 y2)) ∧ (∀ y0 y1 y2 y3 y4, LeO (row_Write.l0 k y0 y1 y2 y3 y4) (row_Write.l0 (k + 1) y0 y1 y2 y3 y4))
  | 0 => ⟨fun _ _ _ r h => by simp [row_Write.j0] at h, fun _ _ _ _ _ r h => by simp [row_Write.l0] at h⟩
  | k + 1 => by
    obtain ⟨ih0, ih1⟩ := row_Write.mono_l k
    refine ⟨?_, ?_⟩
    · intro y0 y1 y2
      unfold row_Write.j0
      repeat' first
      | (with_reducible exact ih0 _ _ _)
      | (with_reducible exact ih1 _ _ _ _ _)
      | (with_reducible exact LeO.refl _)
      | (with_reducible exact LeO.none _)
      | (with_reducible refine LeO.ite ?_ ?_)
      | (with_reducible refine LeO.bind ?_ (fun _ => ?_))
      | exact ih0 _ _ _
      | exact ih1 _ _ _ _ _
      | exact LeO.none _
      | refine LeO.ite ?_ ?_
      | refine LeO.bind ?_ (fun _ => ?_)
    · intro y0 y1 y2 y3 y4
      unfold row_Write.l0
      repeat' first
      | (with_reducible exact ih0 _ _ _)
      | (with_reducible exact ih1 _ _ _ _ _)
      | (with_reducible exact LeO.refl _)
      | (with_reducible exact LeO.none _)
      | (with_reducible refine LeO.ite ?_ ?_)
      | (with_reducible refine LeO.bind ?_ (fun _ => ?_))
      | exact ih0 _ _ _
      | exact ih1 _ _ _ _ _
      | exact LeO.none _
      | refine LeO.ite ?_ ?_
      | refine LeO.bind ?_ (fun _ => ?_)
theorem row_Write.mono : ∀ a0 a1 k, LeO (row_Write.f k a0 a1) (row_Write.f (k + 1) a0 a1) := by
  intro a0 a1 k
  obtain ⟨ih0, ih1⟩ := row_Write.mono_l k
  unfold row_Write.f
  repeat' first
      | (with_reducible exact ih0 _ _ _)
      | (with_reducible exact ih1 _ _ _ _ _)
      | (with_reducible exact LeO.refl _)
      | (with_reducible exact LeO.none _)
      | (with_reducible refine LeO.ite ?_ ?_)
      | (with_reducible refine LeO.bind ?_ (fun _ => ?_))
      | exact ih0 _ _ _
      | exact ih1 _ _ _ _ _
      | exact LeO.none _
      | refine LeO.ite ?_ ?_
      | refine LeO.bind ?_ (fun _ => ?_)
set_option maxHeartbeats 8000000 in
set_option maxRecDepth 100000 in
theorem row_Write.calls (k : Nat) (A0 : Option Addr) (c0 : Nat) (l0 : List (S44)) (a1 : ByteArray) (r1 : ByteArray) (r2 : Int) (w : World) (hr0 : Kd.C k44 w A0 l0.length l0) (hc0 : l0.length ≤ c0) (hG : GT w) (h : row_Write.f k l0 a1 = some (r1, r2)) :
    Calls Tryd.prog 52 #[.slice A0 l0.length c0, .string a1] w fun e w' => e = .returned (.tuple #[.string r1, .int .i64 r2]) ∧ Below w.heap.size w w' := by
  have hu44 := Tryd.underlying44
  have HR0 := Aside0.mk hr0
  have HC0 := Aside0.mk hc0
  clear hr0 hc0
  have HB := Aside0.mk (Below.refl w.heap.size w)
  have H : (if a1.toList = ([] : List UInt8) then (row_Write.j0 k l0 a1 ([] : List ByteArray)) else (if 2 + a1.size ≤ 9223372036854775807 then (if ([] : List ByteArray).length < 8796093022208 then (row_Write.j0 k l0 a1 (([] : List ByteArray) ++ [(⟨#[35, 32]⟩ : ByteArray) ++ a1])) else (none)) else (none))) = some (r1, r2) := h
  clear h
  have HC3 := Aside0.mk H
  clear H
  go_enter Tryd.func52, Tryd.ntmps52
  go_upto_if 15 with (fail)
  go_cut [6] (fun v6 wc => ∃ (kq : Nat) (x6_2 : List ByteArray), Aside0 (row_Write.j0 kq l0 a1 x6_2 = some (r1, r2)) ∧ Aside0 (kq ≤ k) ∧ Aside0 (Kd.R Kd.string 9 wc w.heap.size (fun _ => True) v6 x6_2) ∧ Aside0 (Below w.heap.size w wc))
  case first =>
    have H := HC3.out
    clear HC3
    by_cases c4 : a1.toList = ([] : List UInt8)
    · rw [if_pos c4] at H
      have c4b0 : (a1.toList == ([] : List UInt8)) = true := beq_iff_eq.mpr c4
      try have c4b9 : (a1.toList.isEmpty) = true := by have e_ := c4b0; simp only [show ∀ l_ : List UInt8, (l_ == []) = l_.isEmpty from fun l_ => by cases l_ <;> rfl] at e_; exact e_
      have c4b1 : (a1.toList != ([] : List UInt8)) = false := bne_eq_false_iff_eq.mpr c4
      clear c4
      (first | rw [c4b0] | rw [c4b9] | (simp only [i64_w, i32_w]; rw [c4b0]) | skip)
      have H' := Aside0.mk H
      clear H
      go_wp2
      go_meet
      case rel => exact ⟨_, (([] : List ByteArray)), H', ⟨by first | omega | exact Nat.le_refl _⟩, ⟨by first | exact Kd.R_nil _ _ _ _ _ | exact Kd.N_nil _ _ _ _ _ | exact Kd.V_nil _ _ _ _ _ | exact Kd.Q_nil _ _ _ _ _ | exact Kd.S_nil _ _ _ _ _⟩, ⟨by repeat (first | (with_reducible first | exact HB.out | apply below_alloc | apply pw_below_drewN | apply below_drew1) | exact HB.out)⟩⟩
    · rw [if_neg c4] at H
      have c4b0 : (a1.toList == ([] : List UInt8)) = false := beq_eq_false_iff_ne.mpr c4
      try have c4b9 : (a1.toList.isEmpty) = false := by have e_ := c4b0; simp only [show ∀ l_ : List UInt8, (l_ == []) = l_.isEmpty from fun l_ => by cases l_ <;> rfl] at e_; exact e_
      have c4b1 : (a1.toList != ([] : List UInt8)) = true := bne_iff_ne.mpr c4
      (first | rw [c4b0] | rw [c4b9] | (simp only [i64_w, i32_w]; rw [c4b0]) | skip)
      by_cases c5 : 2 + a1.size ≤ 9223372036854775807
      · rw [if_pos c5] at H
        have c5b0 := eq_true c5
        have c5b1 : decide (2 + a1.size ≤ 9223372036854775807) = true := decide_eq_true c5
        try have c5b2 : (9223372036854775807 < 2 + a1.size) = False := eq_false (Nat.not_lt.2 c5)
        by_cases c6 : ([] : List ByteArray).length < 8796093022208
        · rw [if_pos c6] at H
          have LMc6 := Aside0.mk c6
          clear c6
          obtain ⟨y678, hy678⟩ : ∃ y_ : List ByteArray, y_ = (([] : List ByteArray) ++ [(⟨#[35, 32]⟩ : ByteArray) ++ a1]) := ⟨_, rfl⟩
          replace H : (row_Write.j0 k l0 a1 y678) = some (r1, r2) := by first | (rw [hy678]; with_reducible exact H) | (have H2_ := (Option.bind_some _ _).symm.trans H; rw [hy678]; with_reducible exact H2_) | (have H2_ := (Option.bind_some _ _).symm.trans H; with_reducible exact H2_) | with_reducible exact H | (rw [hy678]; exact H) | exact H
          have Ny678 := Aside0.mk hy678
          clear hy678
          have H' := Aside0.mk H
          clear H
          go_wp2_with (first | ((with_reducible refine gate_builtin (b := .append) (xs := #[.tmp 16, .tmp 19]) rfl ?_); at_builtin; refine Kd.R_append Kd.string (w0 := w) w.heap.size rfl (.tmp 16) (.tmp 19) 51 9 (.string ⟨#[]⟩) 16 rfl Tryd.underlying51 info9 rfl (by decide) (by omega) (.slice none 0 0) ([] : List ByteArray) ((⟨#[35, 32]⟩ : ByteArray) ++ a1) [.string ((⟨#[35, 32]⟩ : ByteArray) ++ a1)] (fun _ => True) (fun _ => False) rfl rfl ?aP (fun _ hk => hk.elim) ?aF ?aO ?aB ?aS ?aL ?_; (case aP => exact rfl); (case aB => exact (by repeat (first | (with_reducible first | exact HB.out | apply below_alloc | apply pw_below_drewN | apply below_drew1) | exact HB.out))); (case aF => exact (fun _ _ => trivial)); (case aO => exact ((Kd.R_nil _ _ _ _ (fun _ => True)))); (case aS => exact (below_size (by repeat (first | (with_reducible first | exact HB.out | apply below_alloc | apply pw_below_drewN | apply below_drew1) | exact HB.out)))); (case aL => have := LMc6.out; omega); intro v679 w7 ho hb hg hat; rw [← Ny678.out] at ho; have n0_ := Aside0.mk (hb); have n1_ := Aside0.mk (ho); clear HB; have HB := n0_; have HO680 := n1_; clear n0_ n1_; clear ho hb hg hat))
          go_meet
          case rel => exact ⟨_, (y678), H', ⟨by first | omega | exact Nat.le_refl _⟩, ⟨by (with_reducible repeat (first | apply Kd.R_alloc | apply Kd.R_drewN | apply Kd.R_drew)); exact HO680.out⟩, ⟨by repeat (first | (with_reducible first | exact HB.out | apply below_alloc | apply pw_below_drewN | apply below_drew1) | exact HB.out)⟩⟩
        · rw [if_neg c6] at H
          exact absurd H (by simp)
      · rw [if_neg c5] at H
        exact absurd H (by simp)
  case rest =>
    clear HC3
    try clear p2
    try clear c4
    try clear c4b0
    try clear c4b1
    try clear c5
    try clear c5b0
    try clear c5b1
    try clear c5b2
    try clear c6
    obtain ⟨kq, x6_2, HA, HJ2, HO_6, HB⟩ := hcut
    cases kq with
    | zero => exact absurd HA.out (by simp [row_Write.j0])
    | succ kj2 =>
      have H := HA.out
      clear HA
      simp only [row_Write.j0] at H
      have H' := Aside0.mk H
      clear H
      go_wp2
      go_loopg [6, 23] kj2 (fun kq v6 v23 w' => ∃ (x6_2 : List ByteArray) (x23_2 : Int), v23 = .int .i64 x23_2 ∧ Aside0 (row_Write.l0 kq a1 x6_2 l0 (l0.length : Int) x23_2 = some (r1, r2)) ∧ Aside0 (kq ≤ kj2) ∧ Aside0 (Kd.R Kd.string 9 w' w.heap.size (fun _ => True) v6 x6_2) ∧ Aside0 (Below w.heap.size w w'))
      case atStart => exact ⟨(x6_2), (0), (by first | rfl | (simp; done) | (simp [*]; done)), H', ⟨Nat.le_refl _⟩, ⟨by (with_reducible repeat (first | apply Kd.R_alloc | apply Kd.R_drewN | apply Kd.R_drew)); exact HO_6.out⟩, ⟨by repeat (first | (with_reducible first | exact HB.out | apply below_alloc | apply pw_below_drewN | apply below_drew1) | exact HB.out)⟩⟩
      case round =>
        clear H'
        try clear p2
        try clear c4
        try clear c4b0
        try clear c4b1
        try clear c5
        try clear c5b0
        try clear c5b1
        try clear c5b2
        try clear c6
        try clear p2
        obtain ⟨x6_2, x23_2, rfl, HA, HK2, HO_6, HB⟩ := hrel
        cases gk with
        | zero => exact absurd HA.out (by simp [row_Write.l0])
        | succ k2 =>
          have H := HA.out
          clear HA
          simp only [row_Write.l0] at H
          by_cases c8 : x23_2 < (l0.length : Int)
          · rw [if_pos c8] at H
            have c8b0 : decide (x23_2 < (l0.length : Int)) = true := decide_eq_true c8
            clear c8
            by_cases c9 : 0 ≤ x23_2
            · rw [if_pos c9] at H
              have c9b0 : decide (0 ≤ x23_2) = true := decide_eq_true c9
              clear c9
              by_cases c10 : x23_2 < (l0.length : Int)
              · rw [if_pos c10] at H
                have c10b0 : decide (x23_2 < (l0.length : Int)) = true := decide_eq_true c10
                clear c10
                replace H := Option.bind_eq_some_iff.mp H
                obtain ⟨⟨t683, t684⟩, A110, H⟩ := H
                replace H : (if t684 = 0 then (if x6_2.length < 8796093022208 then (row_Write.l0 k2 a1 (x6_2 ++ [t683]) l0 (l0.length : Int) (wrap64 (x23_2 + 1))) else (none)) else (some ((⟨#[]⟩ : ByteArray), t684))) = some (r1, r2) := H
                have A11 := Aside0.mk A110
                clear A110
                by_cases c12 : t684 = 0
                · rw [if_pos c12] at H
                  have c12b0 : (t684 == 0) = true := beq_iff_eq.mpr c12
                  have c12b1 : (t684 != 0) = false := bne_eq_false_iff_eq.mpr c12
                  clear c12
                  by_cases c13 : x6_2.length < 8796093022208
                  · rw [if_pos c13] at H
                    have LMc13 := Aside0.mk c13
                    clear c13
                    obtain ⟨y685, hy685⟩ : ∃ y_ : List ByteArray, y_ = (x6_2 ++ [t683]) := ⟨_, rfl⟩
                    replace H : (row_Write.l0 k2 a1 y685 l0 (l0.length : Int) (wrap64 (x23_2 + 1))) = some (r1, r2) := by first | (rw [hy685]; with_reducible exact H) | (have H2_ := (Option.bind_some _ _).symm.trans H; rw [hy685]; with_reducible exact H2_) | (have H2_ := (Option.bind_some _ _).symm.trans H; with_reducible exact H2_) | with_reducible exact H | (rw [hy685]; exact H) | exact H
                    have Ny685 := Aside0.mk hy685
                    clear hy685
                    have H' := Aside0.mk H
                    clear H
                    have p681 : 0 ≤ (x23_2 : Int) := of_decide_eq_true (by first | (with_reducible assumption) | assumption)
                    have q681 : x23_2 < (l0.length : Int) := of_decide_eq_true (by first | (with_reducible assumption) | assumption)
                    obtain ⟨ad681, e681, hx681_0, hx681_1, hx681_2⟩ := at_T44 HR0.out x23_2 p681 q681
                    cases e681
                    replace hx681_0 := (HB.out.cell (World.block_lt_of_cell? w _ hx681_0)).trans hx681_0
                    replace hx681_1 := (HB.out.cell (World.block_lt_of_cell? w _ hx681_1)).trans hx681_1
                    replace hx681_2 := (HB.out.cell (World.block_lt_of_cell? w _ hx681_2)).trans hx681_2
                    replace p681 := eq_true p681
                    replace q681 := eq_true q681
                    go_wp2_with (first | ((with_reducible refine gate_dst (N := 8) rfl ?_); refine box_event ?hg (N := 8) ?hd (cs := #[.string (⟨#[]⟩ : ByteArray), .int .u64 0, .int .u64 0]) (t := 44) ?hr ?_; (case hd => rfl); (case hg => rfl); (case hr => first | (go_simp; done) | (go_simp; rfl)); intro gb682 hg w14 hbox hb; have n0_ := Aside0.mk (Kd.R_below (by (with_reducible repeat (first | apply Kd.R_alloc | apply Kd.R_drewN | apply Kd.R_drew)); exact HO_6.out) hb); have n1_ := Aside0.mk (below_step (by repeat (first | (with_reducible first | exact HB.out | apply below_alloc | apply pw_below_drewN | apply below_drew1) | exact HB.out)) hb); have n2_ := Aside0.mk (hbox); have n3_ := Aside0.mk ((by rw [hg]; exact (below_size (by repeat (first | (with_reducible first | exact HB.out | apply below_alloc | apply pw_below_drewN | apply below_drew1) | exact HB.out))) : w.heap.size ≤ gb682)); have n4_ := Aside0.mk ((by rw [hg]; exact (below_size (by repeat (first | (with_reducible first | exact HB.out | apply below_alloc | apply pw_below_drewN | apply below_drew1) | exact HB.out))) : w.heap.size ≤ gb682)); clear HO_6; clear HB; have HO_6 := n0_; have HB := n1_; have BK682 := n2_; have GW682 := n3_; have GE682 := n4_; clear n0_ n1_ n2_ n3_ n4_; clear hb hbox hg; have hcz15_0 : w14.cell? ⟨gb682, 0, none⟩ = some (.string (⟨#[]⟩ : ByteArray)) := (blk_cell BK682.out 0).trans rfl; have hcz15_1 : w14.cell? ⟨gb682, 1, none⟩ = some (.int .u64 0) := (blk_cell BK682.out 1).trans rfl; have hcz15_2 : w14.cell? ⟨gb682, 2, none⟩ = some (.int .u64 0) := (blk_cell BK682.out 2).trans rfl; have hfz15_0 := blk_frozen BK682.out 0; have hfz15_1 := blk_frozen BK682.out 1; have hfz15_2 := blk_frozen BK682.out 2) | ((with_reducible refine gate_callee (f := 48) rfl ?_); refine goesL_ (some 29) rfl rfl Tryd.func48 (by kernel_rfl) rfl #[.agg #[.string ((rd_T44 l0 x23_2).f0), .int .u64 ((rd_T44 l0 x23_2).f1.f0), .int .u64 ((rd_T44 l0 x23_2).f1.f1)]] rfl (by (try simp only [List.map_toArray, List.map_cons, List.map_nil]); first | done | rfl | (simp only [List.length_drop, List.length_take]; rfl)) ?_; (with_reducible refine (row_Text.calls ((rd_T44 l0 x23_2).f0) ((rd_T44 l0 x23_2).f1.f0) ((rd_T44 l0 x23_2).f1.f1) t683 t684 _ ?side1 A11.out).mono ?_); (case side1 => exact gt_below hG (by repeat (first | (with_reducible first | exact HB.out | apply below_alloc | apply pw_below_drewN | apply below_drew1 | refine below_set ?_ GE682.out) | exact HB.out))); rintro e w16 ⟨rfl, hb⟩; refine ⟨_, rfl, ?_⟩; have n0_ := Aside0.mk (Kd.R_below (by (with_reducible repeat (first | apply Kd.R_alloc | apply Kd.R_drewN | apply Kd.R_drew)); exact (Kd.R_mono (Kd.R_far (p := ⟨gb682, 2, none⟩) (Kd.R_far (p := ⟨gb682, 1, none⟩) (Kd.R_far (p := ⟨gb682, 0, none⟩) (Kd.R_types HO_6.out BK682.out (by decide)) (fun _ hk => hk.2) (.string ((rd_T44 l0 x23_2).f0))) (fun _ hk => hk.2) (.int .u64 ((rd_T44 l0 x23_2).f1.f0))) (fun _ hk => hk.2) (.int .u64 ((rd_T44 l0 x23_2).f1.f1))) (fun _ h_ => h_.1))) hb); have n1_ := Aside0.mk (blk_below (g := gb682) (o := .cells #[.string ((rd_T44 l0 x23_2).f0), .int .u64 ((rd_T44 l0 x23_2).f1.f0), .int .u64 ((rd_T44 l0 x23_2).f1.f1)] 44 (0, 0)) (by (with_reducible repeat (first | refine blk_drewN ?_ _ | refine blk_drew ?_ | refine blk_alloc ?_ _)); refine blk_put (cs := #[.string ((rd_T44 l0 x23_2).f0), .int .u64 ((rd_T44 l0 x23_2).f1.f0), .int .u64 0]) ?_ 2 _ rfl; (with_reducible repeat (first | refine blk_drewN ?_ _ | refine blk_drew ?_ | refine blk_alloc ?_ _)); refine blk_put (cs := #[.string ((rd_T44 l0 x23_2).f0), .int .u64 0, .int .u64 0]) ?_ 1 _ rfl; (with_reducible repeat (first | refine blk_drewN ?_ _ | refine blk_drew ?_ | refine blk_alloc ?_ _)); refine blk_put (cs := #[.string (⟨#[]⟩ : ByteArray), .int .u64 0, .int .u64 0]) ?_ 0 _ rfl; (with_reducible repeat (first | refine blk_drewN ?_ _ | refine blk_drew ?_ | refine blk_alloc ?_ _)); exact BK682.out) hb); have n2_ := Aside0.mk (below_step (by repeat (first | (with_reducible first | exact HB.out | apply below_alloc | apply pw_below_drewN | apply below_drew1 | refine below_set ?_ GE682.out) | exact HB.out)) hb); clear HO_6; clear BK682; clear HB; have HO_6 := n0_; have BK682 := n1_; have HB := n2_; clear n0_ n1_ n2_; (try clear hb); (try clear hb2); (try clear hk); (try clear hi)) | ((with_reducible refine gate_builtin (b := .append) (xs := #[.tmp 35, .tmp 37]) rfl ?_); at_builtin; refine Kd.R_append Kd.string (w0 := w) w.heap.size rfl (.tmp 35) (.tmp 37) 51 9 (.string ⟨#[]⟩) 16 rfl Tryd.underlying51 info9 rfl (by decide) (by omega) u6 x6_2 t683 [.string t683] (fun _ => True) (fun _ => False) rfl rfl ?aP (fun _ hk => hk.elim) ?aF ?aO ?aB ?aS ?aL ?_; (case aP => exact rfl); (case aB => exact (by repeat (first | (with_reducible first | exact HB.out | apply below_alloc | apply pw_below_drewN | apply below_drew1 | refine below_set ?_ GE682.out) | exact HB.out))); (case aF => exact (fun _ _ => trivial)); (case aO => exact (by (with_reducible repeat (first | apply Kd.R_alloc | apply Kd.R_drewN | apply Kd.R_drew)); exact HO_6.out)); (case aS => exact (below_size (by repeat (first | (with_reducible first | exact HB.out | apply below_alloc | apply pw_below_drewN | apply below_drew1 | refine below_set ?_ GE682.out) | exact HB.out)))); (case aL => have := LMc13.out; omega); intro v686 w17 ho hb hg hat; rw [← Ny685.out] at ho; have n0_ := Aside0.mk (blk_grown (g := gb682) (o := .cells #[.string ((rd_T44 l0 x23_2).f0), .int .u64 ((rd_T44 l0 x23_2).f1.f0), .int .u64 ((rd_T44 l0 x23_2).f1.f1)] 44 (0, 0)) (by (with_reducible repeat (first | refine blk_drewN ?_ _ | refine blk_drew ?_ | refine blk_alloc ?_ _)); exact BK682.out) hg (Kd.R_ne HO_6.out BK682.out (by decide))); have n1_ := Aside0.mk (hb); have n2_ := Aside0.mk (ho); clear BK682; clear HB; clear HO_6; have BK682 := n0_; have HB := n1_; have HO687 := n2_; clear n0_ n1_ n2_; clear ho hb hg hat))
                    go_roundg k2
                    case measure => have := HJ2.out; have := HK2.out; omega
                    case rel => exact ⟨(y685), (wrap64 (x23_2 + 1)), (by first | rfl | (simp; done) | (simp [*]; done)), H', ⟨by have := HJ2.out; have := HK2.out; omega⟩, ⟨by (with_reducible repeat (first | apply Kd.R_alloc | apply Kd.R_drewN | apply Kd.R_drew)); exact HO687.out⟩, ⟨by repeat (first | (with_reducible first | exact HB.out | apply below_alloc | apply pw_below_drewN | apply below_drew1 | refine below_set ?_ GE682.out) | exact HB.out)⟩⟩
                  · rw [if_neg c13] at H
                    exact absurd H (by simp)
                · rw [if_neg c12] at H
                  have c12b0 : (t684 == 0) = false := beq_eq_false_iff_ne.mpr c12
                  have c12b1 : (t684 != 0) = true := bne_iff_ne.mpr c12
                  simp only [Option.some.injEq, Prod.mk.injEq] at H
                  obtain ⟨rfl, rfl⟩ := H
                  have p681 : 0 ≤ (x23_2 : Int) := of_decide_eq_true (by first | (with_reducible assumption) | assumption)
                  have q681 : x23_2 < (l0.length : Int) := of_decide_eq_true (by first | (with_reducible assumption) | assumption)
                  obtain ⟨ad681, e681, hx681_0, hx681_1, hx681_2⟩ := at_T44 HR0.out x23_2 p681 q681
                  cases e681
                  replace hx681_0 := (HB.out.cell (World.block_lt_of_cell? w _ hx681_0)).trans hx681_0
                  replace hx681_1 := (HB.out.cell (World.block_lt_of_cell? w _ hx681_1)).trans hx681_1
                  replace hx681_2 := (HB.out.cell (World.block_lt_of_cell? w _ hx681_2)).trans hx681_2
                  replace p681 := eq_true p681
                  replace q681 := eq_true q681
                  go_wp2_with (first | ((with_reducible refine gate_dst (N := 8) rfl ?_); refine box_event ?hg (N := 8) ?hd (cs := #[.string (⟨#[]⟩ : ByteArray), .int .u64 0, .int .u64 0]) (t := 44) ?hr ?_; (case hd => rfl); (case hg => rfl); (case hr => first | (go_simp; done) | (go_simp; rfl)); intro gb682 hg w18 hbox hb; have n0_ := Aside0.mk (Kd.R_below (by (with_reducible repeat (first | apply Kd.R_alloc | apply Kd.R_drewN | apply Kd.R_drew)); exact HO_6.out) hb); have n1_ := Aside0.mk (below_step (by repeat (first | (with_reducible first | exact HB.out | apply below_alloc | apply pw_below_drewN | apply below_drew1) | exact HB.out)) hb); have n2_ := Aside0.mk (hbox); have n3_ := Aside0.mk ((by rw [hg]; exact (below_size (by repeat (first | (with_reducible first | exact HB.out | apply below_alloc | apply pw_below_drewN | apply below_drew1) | exact HB.out))) : w.heap.size ≤ gb682)); have n4_ := Aside0.mk ((by rw [hg]; exact (below_size (by repeat (first | (with_reducible first | exact HB.out | apply below_alloc | apply pw_below_drewN | apply below_drew1) | exact HB.out))) : w.heap.size ≤ gb682)); clear HO_6; clear HB; have HO_6 := n0_; have HB := n1_; have BK682 := n2_; have GW682 := n3_; have GE682 := n4_; clear n0_ n1_ n2_ n3_ n4_; clear hb hbox hg; have hcz19_0 : w18.cell? ⟨gb682, 0, none⟩ = some (.string (⟨#[]⟩ : ByteArray)) := (blk_cell BK682.out 0).trans rfl; have hcz19_1 : w18.cell? ⟨gb682, 1, none⟩ = some (.int .u64 0) := (blk_cell BK682.out 1).trans rfl; have hcz19_2 : w18.cell? ⟨gb682, 2, none⟩ = some (.int .u64 0) := (blk_cell BK682.out 2).trans rfl; have hfz19_0 := blk_frozen BK682.out 0; have hfz19_1 := blk_frozen BK682.out 1; have hfz19_2 := blk_frozen BK682.out 2) | ((with_reducible refine gate_callee (f := 48) rfl ?_); refine goesL_ (some 29) rfl rfl Tryd.func48 (by kernel_rfl) rfl #[.agg #[.string ((rd_T44 l0 x23_2).f0), .int .u64 ((rd_T44 l0 x23_2).f1.f0), .int .u64 ((rd_T44 l0 x23_2).f1.f1)]] rfl (by (try simp only [List.map_toArray, List.map_cons, List.map_nil]); first | done | rfl | (simp only [List.length_drop, List.length_take]; rfl)) ?_; (with_reducible refine (row_Text.calls ((rd_T44 l0 x23_2).f0) ((rd_T44 l0 x23_2).f1.f0) ((rd_T44 l0 x23_2).f1.f1) t683 t684 _ ?side1 A11.out).mono ?_); (case side1 => exact gt_below hG (by repeat (first | (with_reducible first | exact HB.out | apply below_alloc | apply pw_below_drewN | apply below_drew1 | refine below_set ?_ GE682.out) | exact HB.out))); rintro e w20 ⟨rfl, hb⟩; refine ⟨_, rfl, ?_⟩; have n0_ := Aside0.mk (Kd.R_below (by (with_reducible repeat (first | apply Kd.R_alloc | apply Kd.R_drewN | apply Kd.R_drew)); exact (Kd.R_mono (Kd.R_far (p := ⟨gb682, 2, none⟩) (Kd.R_far (p := ⟨gb682, 1, none⟩) (Kd.R_far (p := ⟨gb682, 0, none⟩) (Kd.R_types HO_6.out BK682.out (by decide)) (fun _ hk => hk.2) (.string ((rd_T44 l0 x23_2).f0))) (fun _ hk => hk.2) (.int .u64 ((rd_T44 l0 x23_2).f1.f0))) (fun _ hk => hk.2) (.int .u64 ((rd_T44 l0 x23_2).f1.f1))) (fun _ h_ => h_.1))) hb); have n1_ := Aside0.mk (blk_below (g := gb682) (o := .cells #[.string ((rd_T44 l0 x23_2).f0), .int .u64 ((rd_T44 l0 x23_2).f1.f0), .int .u64 ((rd_T44 l0 x23_2).f1.f1)] 44 (0, 0)) (by (with_reducible repeat (first | refine blk_drewN ?_ _ | refine blk_drew ?_ | refine blk_alloc ?_ _)); refine blk_put (cs := #[.string ((rd_T44 l0 x23_2).f0), .int .u64 ((rd_T44 l0 x23_2).f1.f0), .int .u64 0]) ?_ 2 _ rfl; (with_reducible repeat (first | refine blk_drewN ?_ _ | refine blk_drew ?_ | refine blk_alloc ?_ _)); refine blk_put (cs := #[.string ((rd_T44 l0 x23_2).f0), .int .u64 0, .int .u64 0]) ?_ 1 _ rfl; (with_reducible repeat (first | refine blk_drewN ?_ _ | refine blk_drew ?_ | refine blk_alloc ?_ _)); refine blk_put (cs := #[.string (⟨#[]⟩ : ByteArray), .int .u64 0, .int .u64 0]) ?_ 0 _ rfl; (with_reducible repeat (first | refine blk_drewN ?_ _ | refine blk_drew ?_ | refine blk_alloc ?_ _)); exact BK682.out) hb); have n2_ := Aside0.mk (below_step (by repeat (first | (with_reducible first | exact HB.out | apply below_alloc | apply pw_below_drewN | apply below_drew1 | refine below_set ?_ GE682.out) | exact HB.out)) hb); clear HO_6; clear BK682; clear HB; have HO_6 := n0_; have BK682 := n1_; have HB := n2_; clear n0_ n1_ n2_; (try clear hb); (try clear hb2); (try clear hk); (try clear hi)))
                  go_ret2
                  exact ⟨by first | rfl | (simp [errW_none, errW_some] <;> rfl) | (simp [*, errW_none, errW_some] <;> rfl), by repeat (first | (with_reducible first | exact HB.out | apply below_alloc | apply pw_below_drewN | apply below_drew1 | refine below_set ?_ GE682.out) | exact HB.out)⟩
              · rw [if_neg c10] at H
                exact absurd H (by simp)
            · rw [if_neg c9] at H
              exact absurd H (by simp)
          · rw [if_neg c8] at H
            have c8b0 : decide (x23_2 < (l0.length : Int)) = false := decide_eq_false c8
            clear c8
            by_cases c21 : 2 + a1.size ≤ 9223372036854775807
            · rw [if_pos c21] at H
              have c21b0 := eq_true c21
              have c21b1 : decide (2 + a1.size ≤ 9223372036854775807) = true := decide_eq_true c21
              try have c21b2 : (9223372036854775807 < 2 + a1.size) = False := eq_false (Nat.not_lt.2 c21)
              replace H := Option.bind_eq_some_iff.mp H
              obtain ⟨t688, A220, H⟩ := H
              replace H : (if (t688.length : Int) > 1 then (some ((⟨#[]⟩ : ByteArray), 91)) else (if 0 < (t688.length : Int) then (if ((rd_T56 t688 0).f3) = 0 then (if x6_2.length < 8796093022208 then ((lines_Join.f (x6_2 ++ [(⟨#[]⟩ : ByteArray)])).bind fun bt695 => (some (bt695.1, 0))) else (none)) else (some ((⟨#[]⟩ : ByteArray), 91))) else (none))) = some (r1, r2) := H
              have A22 := Aside0.mk A220
              clear A220
              by_cases c23 : (t688.length : Int) > 1
              · rw [if_pos c23] at H
                have c23b0 : decide (1 < (t688.length : Int)) = true := decide_eq_true c23
                have c23b1 : decide (1 < t688.length) = true := decide_eq_true (by omega)
                clear c23
                simp only [Option.some.injEq, Prod.mk.injEq] at H
                obtain ⟨rfl, rfl⟩ := H
                go_wp2_with (first | ((with_reducible refine gate_callee (f := 34) rfl ?_); refine goesL_ (some 42) rfl rfl Tryd.func34 (by kernel_rfl) rfl #[.string ((⟨#[35, 32]⟩ : ByteArray) ++ a1)] rfl (by (try simp only [List.map_toArray, List.map_cons, List.map_nil]); first | done | rfl | (simp only [List.length_drop, List.length_take]; rfl)) ?_; (with_reducible refine (lines_All.calls ((⟨#[35, 32]⟩ : ByteArray) ++ a1) t688 _ ?side1 A22.out).mono ?_); (case side1 => exact gt_below hG (by repeat (first | (with_reducible first | exact HB.out | apply below_alloc | apply pw_below_drewN | apply below_drew1) | exact HB.out))); rintro e w24 ⟨v689, rfl, ho0, hb⟩; refine ⟨_, rfl, ?_⟩; have n0_ := Aside0.mk (Kd.R_below (by (with_reducible repeat (first | apply Kd.R_alloc | apply Kd.R_drewN | apply Kd.R_drew)); exact HO_6.out) hb); have n1_ := Aside0.mk (Kd.R_lower ho0 (below_size (by repeat (first | (with_reducible first | exact HB.out | apply below_alloc | apply pw_below_drewN | apply below_drew1) | exact HB.out)))); have n2_ := Aside0.mk (below_step (by repeat (first | (with_reducible first | exact HB.out | apply below_alloc | apply pw_below_drewN | apply below_drew1) | exact HB.out)) hb); clear HO_6; clear HB; have HO_6 := n0_; have HO690 := n1_; have HB := n2_; clear n0_ n1_ n2_; (try clear hb); (try clear hb2); (try clear hk); (try clear hi); (try clear ho0); obtain ⟨Ao25, co25, eo25⟩ := Kd.R_slice HO690.out; subst eo25))
                go_ret2
                exact ⟨by first | rfl | (simp [errW_none, errW_some] <;> rfl) | (simp [*, errW_none, errW_some] <;> rfl), by repeat (first | (with_reducible first | exact HB.out | apply below_alloc | apply pw_below_drewN | apply below_drew1) | exact HB.out)⟩
              · rw [if_neg c23] at H
                have c23b0 : decide (1 < (t688.length : Int)) = false := decide_eq_false c23
                have c23b1 : decide (1 < t688.length) = false := decide_eq_false (by omega)
                clear c23
                by_cases c26 : 0 < (t688.length : Int)
                · rw [if_pos c26] at H
                  have c26b0 : decide (0 < (t688.length : Int)) = true := decide_eq_true c26
                  have c26b1 : decide (0 < t688.length) = true := decide_eq_true (by omega)
                  clear c26
                  by_cases c27 : ((rd_T56 t688 0).f3) = 0
                  · rw [if_pos c27] at H
                    have c27b0 : (((rd_T56 t688 0).f3) == 0) = true := beq_iff_eq.mpr c27
                    have c27b1 : (((rd_T56 t688 0).f3) != 0) = false := bne_eq_false_iff_eq.mpr c27
                    clear c27
                    by_cases c28 : x6_2.length < 8796093022208
                    · rw [if_pos c28] at H
                      have LMc28 := Aside0.mk c28
                      clear c28
                      obtain ⟨y692, hy692⟩ : ∃ y_ : List ByteArray, y_ = (x6_2 ++ [(⟨#[]⟩ : ByteArray)]) := ⟨_, rfl⟩
                      replace H : ((lines_Join.f y692).bind fun bt695 => (some (bt695.1, 0))) = some (r1, r2) := by first | (rw [hy692]; with_reducible exact H) | (have H2_ := (Option.bind_some _ _).symm.trans H; rw [hy692]; with_reducible exact H2_) | (have H2_ := (Option.bind_some _ _).symm.trans H; with_reducible exact H2_) | with_reducible exact H | (rw [hy692]; exact H) | exact H
                      have Ny692 := Aside0.mk hy692
                      clear hy692
                      replace H := Option.bind_eq_some_iff.mp H
                      obtain ⟨⟨t695, t696⟩, A290, H⟩ := H
                      replace H : (some (t695, 0)) = some (r1, r2) := H
                      have A29 := Aside0.mk A290
                      clear A290
                      simp only [Option.some.injEq, Prod.mk.injEq] at H
                      obtain ⟨rfl, rfl⟩ := H
                      go_wp2_with (first | ((with_reducible refine gate_callee (f := 34) rfl ?_); refine goesL_ (some 42) rfl rfl Tryd.func34 (by kernel_rfl) rfl #[.string ((⟨#[35, 32]⟩ : ByteArray) ++ a1)] rfl (by (try simp only [List.map_toArray, List.map_cons, List.map_nil]); first | done | rfl | (simp only [List.length_drop, List.length_take]; rfl)) ?_; (with_reducible refine (lines_All.calls ((⟨#[35, 32]⟩ : ByteArray) ++ a1) t688 _ ?side1 A22.out).mono ?_); (case side1 => exact gt_below hG (by repeat (first | (with_reducible first | exact HB.out | apply below_alloc | apply pw_below_drewN | apply below_drew1) | exact HB.out))); rintro e w30 ⟨v689, rfl, ho0, hb⟩; refine ⟨_, rfl, ?_⟩; have n0_ := Aside0.mk (Kd.R_below (by (with_reducible repeat (first | apply Kd.R_alloc | apply Kd.R_drewN | apply Kd.R_drew)); exact HO_6.out) hb); have n1_ := Aside0.mk (Kd.R_lower ho0 (below_size (by repeat (first | (with_reducible first | exact HB.out | apply below_alloc | apply pw_below_drewN | apply below_drew1) | exact HB.out)))); have n2_ := Aside0.mk (below_step (by repeat (first | (with_reducible first | exact HB.out | apply below_alloc | apply pw_below_drewN | apply below_drew1) | exact HB.out)) hb); clear HO_6; clear HB; have HO_6 := n0_; have HO690 := n1_; have HB := n2_; clear n0_ n1_ n2_; (try clear hb); (try clear hb2); (try clear hk); (try clear hi); (try clear ho0); obtain ⟨Ao31, co31, eo31⟩ := Kd.R_slice HO690.out; subst eo31; have p691 : 0 ≤ (0 : Int) := (by omega); have q691 : 0 < (t688.length : Int) := of_decide_eq_true (by first | (with_reducible assumption) | assumption); obtain ⟨ad691, e691, hx691_0, hx691_1, hx691_2, hx691_3⟩ := at_T56 (Kd.R_reads' HO690.out).2.2 0 p691 q691; cases e691; have qi691 : (0 < t688.length) = True := eq_true (by omega); (try rw [show ((0 : Int)).toNat = 0 from rfl] at hx691_0); (try rw [show 0 * 4 = 0 from rfl] at hx691_0); (try rw [Addr.add_zero'] at hx691_0); (try rw [show ((0 : Int)).toNat = 0 from rfl] at hx691_1); (try rw [show 0 * 4 = 0 from rfl] at hx691_1); (try rw [Addr.add_zero'] at hx691_1); (try rw [show ((0 : Int)).toNat = 0 from rfl] at hx691_2); (try rw [show 0 * 4 = 0 from rfl] at hx691_2); (try rw [Addr.add_zero'] at hx691_2); (try rw [show ((0 : Int)).toNat = 0 from rfl] at hx691_3); (try rw [show 0 * 4 = 0 from rfl] at hx691_3); (try rw [Addr.add_zero'] at hx691_3); replace p691 := eq_true p691; replace q691 := eq_true q691) | ((with_reducible refine gate_builtin (b := .append) (xs := #[.tmp 54, .tmp 55]) rfl ?_); at_builtin; refine Kd.R_append Kd.string (w0 := w) w.heap.size rfl (.tmp 54) (.tmp 55) 51 9 (.string ⟨#[]⟩) 16 rfl Tryd.underlying51 info9 rfl (by decide) (by omega) u6 x6_2 (⟨#[]⟩ : ByteArray) [.string (⟨#[]⟩ : ByteArray)] (fun _ => True) (fun _ => False) rfl rfl ?aP (fun _ hk => hk.elim) ?aF ?aO ?aB ?aS ?aL ?_; (case aP => exact rfl); (case aB => exact (by repeat (first | (with_reducible first | exact HB.out | apply below_alloc | apply pw_below_drewN | apply below_drew1) | exact HB.out))); (case aF => exact (fun _ _ => trivial)); (case aO => exact (by (with_reducible repeat (first | apply Kd.R_alloc | apply Kd.R_drewN | apply Kd.R_drew)); exact HO_6.out)); (case aS => exact (below_size (by repeat (first | (with_reducible first | exact HB.out | apply below_alloc | apply pw_below_drewN | apply below_drew1) | exact HB.out)))); (case aL => have := LMc28.out; omega); intro v693 w32 ho hb hg hat; rw [← Ny692.out] at ho; have n0_ := Aside0.mk (Kd.R_over' (by (with_reducible repeat (first | apply Kd.R_alloc | apply Kd.R_drewN | apply Kd.R_drew)); exact HO690.out) (Kd.R_typed (by (with_reducible repeat (first | apply Kd.R_alloc | apply Kd.R_drewN | apply Kd.R_drew)); exact HO_6.out)) (by decide) hg); have n1_ := Aside0.mk (hb); have n2_ := Aside0.mk (ho); clear HO690; clear HB; clear HO_6; have HO690 := n0_; have HB := n1_; have HO694 := n2_; clear n0_ n1_ n2_; clear ho hb hg hat; obtain ⟨Ao33, co33, eo33⟩ := Kd.R_slice HO694.out; subst eo33) | ((with_reducible refine gate_callee (f := 42) rfl ?_); refine goesL_ (some 57) rfl rfl Tryd.func42 (by kernel_rfl) rfl #[.slice Ao33 y692.length co33] rfl (by (try simp only [List.map_toArray, List.map_cons, List.map_nil]); first | done | rfl | (simp only [List.length_drop, List.length_take]; rfl)) ?_; (with_reducible refine (lines_Join.calls _ _ y692 t695 t696 _ ?side1 ?side2 A29.out).mono ?_); (case side1 => repeat (first | exact (Kd.R_reads' HO694.out).2.2 | (with_reducible refine Kd.C_alloc ?_ _) | (with_reducible refine Kd.C_drewN ?_ _) | (with_reducible refine Kd.C_drew ?_))); (case side2 => exact (Kd.R_reads' HO694.out).2.1); rintro e w34 ⟨rfl, hb⟩; refine ⟨_, rfl, ?_⟩; have n0_ := Aside0.mk (Kd.R_below (by (with_reducible repeat (first | apply Kd.R_alloc | apply Kd.R_drewN | apply Kd.R_drew)); exact HO690.out) hb); have n1_ := Aside0.mk (Kd.R_below (by (with_reducible repeat (first | apply Kd.R_alloc | apply Kd.R_drewN | apply Kd.R_drew)); exact HO694.out) hb); have n2_ := Aside0.mk (below_step (by repeat (first | (with_reducible first | exact HB.out | apply below_alloc | apply pw_below_drewN | apply below_drew1) | exact HB.out)) hb); clear HO690; clear HO694; clear HB; have HO690 := n0_; have HO694 := n1_; have HB := n2_; clear n0_ n1_ n2_; (try clear hb); (try clear hb2); (try clear hk); (try clear hi)))
                      go_ret2
                      exact ⟨by first | rfl | (simp [errW_none, errW_some] <;> rfl) | (simp [*, errW_none, errW_some] <;> rfl), by repeat (first | (with_reducible first | exact HB.out | apply below_alloc | apply pw_below_drewN | apply below_drew1) | exact HB.out)⟩
                    · rw [if_neg c28] at H
                      exact absurd H (by simp)
                  · rw [if_neg c27] at H
                    have c27b0 : (((rd_T56 t688 0).f3) == 0) = false := beq_eq_false_iff_ne.mpr c27
                    have c27b1 : (((rd_T56 t688 0).f3) != 0) = true := bne_iff_ne.mpr c27
                    simp only [Option.some.injEq, Prod.mk.injEq] at H
                    obtain ⟨rfl, rfl⟩ := H
                    go_wp2_with (first | ((with_reducible refine gate_callee (f := 34) rfl ?_); refine goesL_ (some 42) rfl rfl Tryd.func34 (by kernel_rfl) rfl #[.string ((⟨#[35, 32]⟩ : ByteArray) ++ a1)] rfl (by (try simp only [List.map_toArray, List.map_cons, List.map_nil]); first | done | rfl | (simp only [List.length_drop, List.length_take]; rfl)) ?_; (with_reducible refine (lines_All.calls ((⟨#[35, 32]⟩ : ByteArray) ++ a1) t688 _ ?side1 A22.out).mono ?_); (case side1 => exact gt_below hG (by repeat (first | (with_reducible first | exact HB.out | apply below_alloc | apply pw_below_drewN | apply below_drew1) | exact HB.out))); rintro e w35 ⟨v689, rfl, ho0, hb⟩; refine ⟨_, rfl, ?_⟩; have n0_ := Aside0.mk (Kd.R_below (by (with_reducible repeat (first | apply Kd.R_alloc | apply Kd.R_drewN | apply Kd.R_drew)); exact HO_6.out) hb); have n1_ := Aside0.mk (Kd.R_lower ho0 (below_size (by repeat (first | (with_reducible first | exact HB.out | apply below_alloc | apply pw_below_drewN | apply below_drew1) | exact HB.out)))); have n2_ := Aside0.mk (below_step (by repeat (first | (with_reducible first | exact HB.out | apply below_alloc | apply pw_below_drewN | apply below_drew1) | exact HB.out)) hb); clear HO_6; clear HB; have HO_6 := n0_; have HO690 := n1_; have HB := n2_; clear n0_ n1_ n2_; (try clear hb); (try clear hb2); (try clear hk); (try clear hi); (try clear ho0); obtain ⟨Ao36, co36, eo36⟩ := Kd.R_slice HO690.out; subst eo36; have p691 : 0 ≤ (0 : Int) := (by omega); have q691 : 0 < (t688.length : Int) := of_decide_eq_true (by first | (with_reducible assumption) | assumption); obtain ⟨ad691, e691, hx691_0, hx691_1, hx691_2, hx691_3⟩ := at_T56 (Kd.R_reads' HO690.out).2.2 0 p691 q691; cases e691; have qi691 : (0 < t688.length) = True := eq_true (by omega); (try rw [show ((0 : Int)).toNat = 0 from rfl] at hx691_0); (try rw [show 0 * 4 = 0 from rfl] at hx691_0); (try rw [Addr.add_zero'] at hx691_0); (try rw [show ((0 : Int)).toNat = 0 from rfl] at hx691_1); (try rw [show 0 * 4 = 0 from rfl] at hx691_1); (try rw [Addr.add_zero'] at hx691_1); (try rw [show ((0 : Int)).toNat = 0 from rfl] at hx691_2); (try rw [show 0 * 4 = 0 from rfl] at hx691_2); (try rw [Addr.add_zero'] at hx691_2); (try rw [show ((0 : Int)).toNat = 0 from rfl] at hx691_3); (try rw [show 0 * 4 = 0 from rfl] at hx691_3); (try rw [Addr.add_zero'] at hx691_3); replace p691 := eq_true p691; replace q691 := eq_true q691))
                    go_ret2
                    exact ⟨by first | rfl | (simp [errW_none, errW_some] <;> rfl) | (simp [*, errW_none, errW_some] <;> rfl), by repeat (first | (with_reducible first | exact HB.out | apply below_alloc | apply pw_below_drewN | apply below_drew1) | exact HB.out)⟩
                · rw [if_neg c26] at H
                  exact absurd H (by simp)
            · rw [if_neg c21] at H
              exact absurd H (by simp)
def paymasterlaw10_refused.f (a0 : ByteArray) (a1 : Int) : Option (Bool) := (row_Parse.f a0).bind fun bt697 => (if bt697.2.2.2 = a1 then (some (bt697.1.toList == ([] : List UInt8) && ((bt697.2.1 == 0 && (bt697.2.2.1 == 0))))) else (none))
set_option maxHeartbeats 8000000 in
set_option maxRecDepth 100000 in
theorem paymasterlaw10_refused.calls (a0 : ByteArray) (a1 : Int) (r : Bool) (w : World) (hG : GT w) (h : paymasterlaw10_refused.f a0 a1 = some r) :
    Calls Tryd.prog 63 #[.string a0, .int .i64 a1] w fun e w' => e = .returned (.bool r) ∧ Below w.heap.size w w' := by
  have hu44 := Tryd.underlying44
  have HB := Aside0.mk (Below.refl w.heap.size w)
  have H : ((row_Parse.f a0).bind fun bt697 => (if bt697.2.2.2 = a1 then (some (bt697.1.toList == ([] : List UInt8) && ((bt697.2.1 == 0 && (bt697.2.2.1 == 0))))) else (none))) = some r := h
  clear h
  replace H := Option.bind_eq_some_iff.mp H
  obtain ⟨⟨t697, t698, t699, t700⟩, A30, H⟩ := H
  replace H : (if t700 = a1 then (some (t697.toList == ([] : List UInt8) && ((t698 == 0 && (t699 == 0))))) else (none)) = some r := H
  have A3 := Aside0.mk A30
  clear A30
  by_cases c4 : t700 = a1
  · rw [if_pos c4] at H
    have c4b0 : (t700 == a1) = true := beq_iff_eq.mpr c4
    have c4b1 : (t700 != a1) = false := bne_eq_false_iff_eq.mpr c4
    clear c4
    obtain rfl := Option.some.inj H
    go_enter Tryd.func63, Tryd.ntmps63
    go_wp2_with (first | ((with_reducible refine gate_callee (f := 47) rfl ?_); refine goesL_ (some 9) rfl rfl Tryd.func47 (by kernel_rfl) rfl #[.string a0] rfl (by (try simp only [List.map_toArray, List.map_cons, List.map_nil]); first | done | rfl | (simp only [List.length_drop, List.length_take]; rfl)) ?_; (with_reducible refine (row_Parse.calls a0 t697 t698 t699 t700 _ ?side1 A3.out).mono ?_); (case side1 => exact gt_below hG (by repeat (first | (with_reducible first | exact HB.out | apply below_alloc | apply pw_below_drewN | apply below_drew1) | exact HB.out))); rintro e w5 ⟨rfl, hb⟩; refine ⟨_, rfl, ?_⟩; have n0_ := Aside0.mk (below_step (by repeat (first | (with_reducible first | exact HB.out | apply below_alloc | apply pw_below_drewN | apply below_drew1) | exact HB.out)) hb); clear HB; have HB := n0_; clear n0_; (try clear hb); (try clear hb2); (try clear hk); (try clear hi)) | ((with_reducible refine gate_dst (N := 5) rfl ?_); refine box_event ?hg (N := 5) ?hd (cs := #[.string (⟨#[]⟩ : ByteArray), .int .u64 0, .int .u64 0]) (t := 44) ?hr ?_; (case hd => rfl); (case hg => rfl); (case hr => first | (go_simp; done) | (go_simp; rfl)); intro gb701 hg w6 hbox hb; have n0_ := Aside0.mk (below_step (by repeat (first | (with_reducible first | exact HB.out | apply below_alloc | apply pw_below_drewN | apply below_drew1) | exact HB.out)) hb); have n1_ := Aside0.mk (hbox); have n2_ := Aside0.mk ((by rw [hg]; exact (below_size (by repeat (first | (with_reducible first | exact HB.out | apply below_alloc | apply pw_below_drewN | apply below_drew1) | exact HB.out))) : w.heap.size ≤ gb701)); have n3_ := Aside0.mk ((by rw [hg]; exact (below_size (by repeat (first | (with_reducible first | exact HB.out | apply below_alloc | apply pw_below_drewN | apply below_drew1) | exact HB.out))) : w.heap.size ≤ gb701)); clear HB; have HB := n0_; have BK701 := n1_; have GW701 := n2_; have GE701 := n3_; clear n0_ n1_ n2_ n3_; clear hb hbox hg; have hcz7_0 : w6.cell? ⟨gb701, 0, none⟩ = some (.string (⟨#[]⟩ : ByteArray)) := (blk_cell BK701.out 0).trans rfl; have hcz7_1 : w6.cell? ⟨gb701, 1, none⟩ = some (.int .u64 0) := (blk_cell BK701.out 1).trans rfl; have hcz7_2 : w6.cell? ⟨gb701, 2, none⟩ = some (.int .u64 0) := (blk_cell BK701.out 2).trans rfl; have hfz7_0 := blk_frozen BK701.out 0; have hfz7_1 := blk_frozen BK701.out 1; have hfz7_2 := blk_frozen BK701.out 2))
    go_ret
    exact ⟨by first | rfl | (simp [errW_none, errW_some] <;> rfl) | (simp [*, errW_none, errW_some] <;> rfl), by repeat (first | (with_reducible first | exact HB.out | apply below_alloc | apply pw_below_drewN | apply below_drew1 | refine below_set ?_ GE701.out) | exact HB.out)⟩
  · rw [if_neg c4] at H
    exact absurd H (by simp)
def paymasterlaw10_awake.f (k : Nat)  : Option (Bool) := (row_Parse.f (⟨#[97, 108, 105, 99, 101, 32, 50, 53, 48]⟩ : ByteArray)).bind fun bt702 => ((row_Write.f k (([(⟨(⟨#[98]⟩ : ByteArray), (⟨0, 7⟩ : S42)⟩ : S44)] : List (S44))) (⟨#[120]⟩ : ByteArray)).bind fun bt710 => (if bt702.2.2.2 = 0 then (if (bt702.1.toList == ([97, 108, 105, 99, 101] : List UInt8) && ((bt702.2.1 == 0 && (bt702.2.2.1 == 250)))) = true then ((paymasterlaw10_refused.f (⟨#[97, 108, 105, 99, 101]⟩ : ByteArray) 100).bind fun t712 => (if t712 = true then ((paymasterlaw10_refused.f (⟨#[97, 108, 47, 105, 99, 101, 32, 53]⟩ : ByteArray) 101).bind fun t713 => (if t713 = true then ((paymasterlaw10_refused.f (⟨#[97, 108, 105, 99, 101, 32, 48, 53]⟩ : ByteArray) 102).bind fun t714 => (if t714 = true then ((paymasterlaw10_refused.f (⟨#[97, 108, 105, 99, 101, 32, 32, 53]⟩ : ByteArray) 102).bind fun t715 => (if t715 = true then ((paymasterlaw10_refused.f (⟨#[97, 108, 105, 99, 101, 32, 53, 32]⟩ : ByteArray) 102).bind fun t716 => (if t716 = true then ((paymasterlaw10_refused.f (⟨#[32, 53]⟩ : ByteArray) 101).bind fun t717 => (if t717 = true then (if bt710.2 = 0 then (some (bt710.1.toList == ([35, 32, 120, 10, 98, 32, 55, 10] : List UInt8))) else (none)) else (none))) else (none))) else (none))) else (none))) else (none))) else (none))) else (none)) else (none)))
theorem paymasterlaw10_awake.mono : ∀ k, LeO (paymasterlaw10_awake.f k ) (paymasterlaw10_awake.f (k + 1) ) := by
  intro  k
  unfold paymasterlaw10_awake.f
  repeat' first
      | (with_reducible exact row_Write.mono _ _ _)
      | (with_reducible exact LeO.refl _)
      | (with_reducible exact LeO.none _)
      | (with_reducible refine LeO.ite ?_ ?_)
      | (with_reducible refine LeO.bind ?_ (fun _ => ?_))
      | exact row_Write.mono _ _ _
      | exact LeO.none _
      | refine LeO.ite ?_ ?_
      | refine LeO.bind ?_ (fun _ => ?_)
set_option maxHeartbeats 8000000 in
set_option maxRecDepth 100000 in
theorem paymasterlaw10_awake.calls (k : Nat)  (r : Bool) (w : World) (hG : GT w) (h : paymasterlaw10_awake.f k  = some r) :
    Calls Tryd.prog 25 #[] w fun e w' => e = .returned (.bool r) ∧ Below w.heap.size w w' := by
  have hu44 := Tryd.underlying44
  have hu42 := Tryd.underlying42
  have HB := Aside0.mk (Below.refl w.heap.size w)
  have H : ((row_Parse.f (⟨#[97, 108, 105, 99, 101, 32, 50, 53, 48]⟩ : ByteArray)).bind fun bt702 => ((row_Write.f k (([(⟨(⟨#[98]⟩ : ByteArray), (⟨0, 7⟩ : S42)⟩ : S44)] : List (S44))) (⟨#[120]⟩ : ByteArray)).bind fun bt710 => (if bt702.2.2.2 = 0 then (if (bt702.1.toList == ([97, 108, 105, 99, 101] : List UInt8) && ((bt702.2.1 == 0 && (bt702.2.2.1 == 250)))) = true then ((paymasterlaw10_refused.f (⟨#[97, 108, 105, 99, 101]⟩ : ByteArray) 100).bind fun t712 => (if t712 = true then ((paymasterlaw10_refused.f (⟨#[97, 108, 47, 105, 99, 101, 32, 53]⟩ : ByteArray) 101).bind fun t713 => (if t713 = true then ((paymasterlaw10_refused.f (⟨#[97, 108, 105, 99, 101, 32, 48, 53]⟩ : ByteArray) 102).bind fun t714 => (if t714 = true then ((paymasterlaw10_refused.f (⟨#[97, 108, 105, 99, 101, 32, 32, 53]⟩ : ByteArray) 102).bind fun t715 => (if t715 = true then ((paymasterlaw10_refused.f (⟨#[97, 108, 105, 99, 101, 32, 53, 32]⟩ : ByteArray) 102).bind fun t716 => (if t716 = true then ((paymasterlaw10_refused.f (⟨#[32, 53]⟩ : ByteArray) 101).bind fun t717 => (if t717 = true then (if bt710.2 = 0 then (some (bt710.1.toList == ([35, 32, 120, 10, 98, 32, 55, 10] : List UInt8))) else (none)) else (none))) else (none))) else (none))) else (none))) else (none))) else (none))) else (none)) else (none)))) = some r := h
  clear h
  replace H := Option.bind_eq_some_iff.mp H
  obtain ⟨⟨t702, t703, t704, t705⟩, A10, H⟩ := H
  replace H : ((row_Write.f k (([(⟨(⟨#[98]⟩ : ByteArray), (⟨0, 7⟩ : S42)⟩ : S44)] : List (S44))) (⟨#[120]⟩ : ByteArray)).bind fun bt710 => (if t705 = 0 then (if (t702.toList == ([97, 108, 105, 99, 101] : List UInt8) && ((t703 == 0 && (t704 == 250)))) = true then ((paymasterlaw10_refused.f (⟨#[97, 108, 105, 99, 101]⟩ : ByteArray) 100).bind fun t712 => (if t712 = true then ((paymasterlaw10_refused.f (⟨#[97, 108, 47, 105, 99, 101, 32, 53]⟩ : ByteArray) 101).bind fun t713 => (if t713 = true then ((paymasterlaw10_refused.f (⟨#[97, 108, 105, 99, 101, 32, 48, 53]⟩ : ByteArray) 102).bind fun t714 => (if t714 = true then ((paymasterlaw10_refused.f (⟨#[97, 108, 105, 99, 101, 32, 32, 53]⟩ : ByteArray) 102).bind fun t715 => (if t715 = true then ((paymasterlaw10_refused.f (⟨#[97, 108, 105, 99, 101, 32, 53, 32]⟩ : ByteArray) 102).bind fun t716 => (if t716 = true then ((paymasterlaw10_refused.f (⟨#[32, 53]⟩ : ByteArray) 101).bind fun t717 => (if t717 = true then (if bt710.2 = 0 then (some (bt710.1.toList == ([35, 32, 120, 10, 98, 32, 55, 10] : List UInt8))) else (none)) else (none))) else (none))) else (none))) else (none))) else (none))) else (none))) else (none)) else (none))) = some r := H
  have A1 := Aside0.mk A10
  clear A10
  obtain ⟨y707, hy707⟩ : ∃ y_ : List (S44), y_ = (([(⟨(⟨#[98]⟩ : ByteArray), (⟨0, 7⟩ : S42)⟩ : S44)] : List (S44))) := ⟨_, rfl⟩
  replace H : ((row_Write.f k y707 (⟨#[120]⟩ : ByteArray)).bind fun bt710 => (if t705 = 0 then (if (t702.toList == ([97, 108, 105, 99, 101] : List UInt8) && ((t703 == 0 && (t704 == 250)))) = true then ((paymasterlaw10_refused.f (⟨#[97, 108, 105, 99, 101]⟩ : ByteArray) 100).bind fun t712 => (if t712 = true then ((paymasterlaw10_refused.f (⟨#[97, 108, 47, 105, 99, 101, 32, 53]⟩ : ByteArray) 101).bind fun t713 => (if t713 = true then ((paymasterlaw10_refused.f (⟨#[97, 108, 105, 99, 101, 32, 48, 53]⟩ : ByteArray) 102).bind fun t714 => (if t714 = true then ((paymasterlaw10_refused.f (⟨#[97, 108, 105, 99, 101, 32, 32, 53]⟩ : ByteArray) 102).bind fun t715 => (if t715 = true then ((paymasterlaw10_refused.f (⟨#[97, 108, 105, 99, 101, 32, 53, 32]⟩ : ByteArray) 102).bind fun t716 => (if t716 = true then ((paymasterlaw10_refused.f (⟨#[32, 53]⟩ : ByteArray) 101).bind fun t717 => (if t717 = true then (if bt710.2 = 0 then (some (bt710.1.toList == ([35, 32, 120, 10, 98, 32, 55, 10] : List UInt8))) else (none)) else (none))) else (none))) else (none))) else (none))) else (none))) else (none))) else (none)) else (none))) = some r := by first | (rw [hy707]; with_reducible exact H) | (have H2_ := (Option.bind_some _ _).symm.trans H; rw [hy707]; with_reducible exact H2_) | (have H2_ := (Option.bind_some _ _).symm.trans H; with_reducible exact H2_) | with_reducible exact H | (rw [hy707]; exact H) | exact H
  have Ny707 := Aside0.mk hy707
  clear hy707
  replace H := Option.bind_eq_some_iff.mp H
  obtain ⟨⟨t710, t711⟩, A20, H⟩ := H
  replace H : (if t705 = 0 then (if (t702.toList == ([97, 108, 105, 99, 101] : List UInt8) && ((t703 == 0 && (t704 == 250)))) = true then ((paymasterlaw10_refused.f (⟨#[97, 108, 105, 99, 101]⟩ : ByteArray) 100).bind fun t712 => (if t712 = true then ((paymasterlaw10_refused.f (⟨#[97, 108, 47, 105, 99, 101, 32, 53]⟩ : ByteArray) 101).bind fun t713 => (if t713 = true then ((paymasterlaw10_refused.f (⟨#[97, 108, 105, 99, 101, 32, 48, 53]⟩ : ByteArray) 102).bind fun t714 => (if t714 = true then ((paymasterlaw10_refused.f (⟨#[97, 108, 105, 99, 101, 32, 32, 53]⟩ : ByteArray) 102).bind fun t715 => (if t715 = true then ((paymasterlaw10_refused.f (⟨#[97, 108, 105, 99, 101, 32, 53, 32]⟩ : ByteArray) 102).bind fun t716 => (if t716 = true then ((paymasterlaw10_refused.f (⟨#[32, 53]⟩ : ByteArray) 101).bind fun t717 => (if t717 = true then (if t711 = 0 then (some (t710.toList == ([35, 32, 120, 10, 98, 32, 55, 10] : List UInt8))) else (none)) else (none))) else (none))) else (none))) else (none))) else (none))) else (none))) else (none)) else (none)) = some r := H
  have A2 := Aside0.mk A20
  clear A20
  by_cases c3 : t705 = 0
  · rw [if_pos c3] at H
    have c3b0 : (t705 == 0) = true := beq_iff_eq.mpr c3
    have c3b1 : (t705 != 0) = false := bne_eq_false_iff_eq.mpr c3
    clear c3
    by_cases c4 : (t702.toList == ([97, 108, 105, 99, 101] : List UInt8) && ((t703 == 0 && (t704 == 250)))) = true
    · rw [if_pos c4] at H
      have c4b0 : (t702.toList == ([97, 108, 105, 99, 101] : List UInt8) && ((t703 == 0 && (t704 == 250)))) = true := c4
      (try (have c4b1 : decide (t702.toList = ([97, 108, 105, 99, 101] : List UInt8) && ((t703 == 0 && (t704 == 250)))) = true := by simpa using c4))
      (try (have c4b2 : (t702.toList == ([97, 108, 105, 99, 101] : List UInt8) && ((t703 == 0 && (t704 == 250)))) = true := by simpa using c4))
      clear c4
      replace H := Option.bind_eq_some_iff.mp H
      obtain ⟨t712, A50, H⟩ := H
      replace H : (if t712 = true then ((paymasterlaw10_refused.f (⟨#[97, 108, 47, 105, 99, 101, 32, 53]⟩ : ByteArray) 101).bind fun t713 => (if t713 = true then ((paymasterlaw10_refused.f (⟨#[97, 108, 105, 99, 101, 32, 48, 53]⟩ : ByteArray) 102).bind fun t714 => (if t714 = true then ((paymasterlaw10_refused.f (⟨#[97, 108, 105, 99, 101, 32, 32, 53]⟩ : ByteArray) 102).bind fun t715 => (if t715 = true then ((paymasterlaw10_refused.f (⟨#[97, 108, 105, 99, 101, 32, 53, 32]⟩ : ByteArray) 102).bind fun t716 => (if t716 = true then ((paymasterlaw10_refused.f (⟨#[32, 53]⟩ : ByteArray) 101).bind fun t717 => (if t717 = true then (if t711 = 0 then (some (t710.toList == ([35, 32, 120, 10, 98, 32, 55, 10] : List UInt8))) else (none)) else (none))) else (none))) else (none))) else (none))) else (none))) else (none)) = some r := H
      have A5 := Aside0.mk A50
      clear A50
      by_cases c6 : t712 = true
      · subst c6
        have H1 : ((paymasterlaw10_refused.f (⟨#[97, 108, 47, 105, 99, 101, 32, 53]⟩ : ByteArray) 101).bind fun t713 => (if t713 = true then ((paymasterlaw10_refused.f (⟨#[97, 108, 105, 99, 101, 32, 48, 53]⟩ : ByteArray) 102).bind fun t714 => (if t714 = true then ((paymasterlaw10_refused.f (⟨#[97, 108, 105, 99, 101, 32, 32, 53]⟩ : ByteArray) 102).bind fun t715 => (if t715 = true then ((paymasterlaw10_refused.f (⟨#[97, 108, 105, 99, 101, 32, 53, 32]⟩ : ByteArray) 102).bind fun t716 => (if t716 = true then ((paymasterlaw10_refused.f (⟨#[32, 53]⟩ : ByteArray) 101).bind fun t717 => (if t717 = true then (if t711 = 0 then (some (t710.toList == ([35, 32, 120, 10, 98, 32, 55, 10] : List UInt8))) else (none)) else (none))) else (none))) else (none))) else (none))) else (none))) = some r := by rw [if_pos rfl] at H; exact H
        clear H
        have H := H1
        clear H1
        replace H := Option.bind_eq_some_iff.mp H
        obtain ⟨t713, A70, H⟩ := H
        replace H : (if t713 = true then ((paymasterlaw10_refused.f (⟨#[97, 108, 105, 99, 101, 32, 48, 53]⟩ : ByteArray) 102).bind fun t714 => (if t714 = true then ((paymasterlaw10_refused.f (⟨#[97, 108, 105, 99, 101, 32, 32, 53]⟩ : ByteArray) 102).bind fun t715 => (if t715 = true then ((paymasterlaw10_refused.f (⟨#[97, 108, 105, 99, 101, 32, 53, 32]⟩ : ByteArray) 102).bind fun t716 => (if t716 = true then ((paymasterlaw10_refused.f (⟨#[32, 53]⟩ : ByteArray) 101).bind fun t717 => (if t717 = true then (if t711 = 0 then (some (t710.toList == ([35, 32, 120, 10, 98, 32, 55, 10] : List UInt8))) else (none)) else (none))) else (none))) else (none))) else (none))) else (none)) = some r := H
        have A7 := Aside0.mk A70
        clear A70
        by_cases c8 : t713 = true
        · subst c8
          have H1 : ((paymasterlaw10_refused.f (⟨#[97, 108, 105, 99, 101, 32, 48, 53]⟩ : ByteArray) 102).bind fun t714 => (if t714 = true then ((paymasterlaw10_refused.f (⟨#[97, 108, 105, 99, 101, 32, 32, 53]⟩ : ByteArray) 102).bind fun t715 => (if t715 = true then ((paymasterlaw10_refused.f (⟨#[97, 108, 105, 99, 101, 32, 53, 32]⟩ : ByteArray) 102).bind fun t716 => (if t716 = true then ((paymasterlaw10_refused.f (⟨#[32, 53]⟩ : ByteArray) 101).bind fun t717 => (if t717 = true then (if t711 = 0 then (some (t710.toList == ([35, 32, 120, 10, 98, 32, 55, 10] : List UInt8))) else (none)) else (none))) else (none))) else (none))) else (none))) = some r := by rw [if_pos rfl] at H; exact H
          clear H
          have H := H1
          clear H1
          replace H := Option.bind_eq_some_iff.mp H
          obtain ⟨t714, A90, H⟩ := H
          replace H : (if t714 = true then ((paymasterlaw10_refused.f (⟨#[97, 108, 105, 99, 101, 32, 32, 53]⟩ : ByteArray) 102).bind fun t715 => (if t715 = true then ((paymasterlaw10_refused.f (⟨#[97, 108, 105, 99, 101, 32, 53, 32]⟩ : ByteArray) 102).bind fun t716 => (if t716 = true then ((paymasterlaw10_refused.f (⟨#[32, 53]⟩ : ByteArray) 101).bind fun t717 => (if t717 = true then (if t711 = 0 then (some (t710.toList == ([35, 32, 120, 10, 98, 32, 55, 10] : List UInt8))) else (none)) else (none))) else (none))) else (none))) else (none)) = some r := H
          have A9 := Aside0.mk A90
          clear A90
          by_cases c10 : t714 = true
          · subst c10
            have H1 : ((paymasterlaw10_refused.f (⟨#[97, 108, 105, 99, 101, 32, 32, 53]⟩ : ByteArray) 102).bind fun t715 => (if t715 = true then ((paymasterlaw10_refused.f (⟨#[97, 108, 105, 99, 101, 32, 53, 32]⟩ : ByteArray) 102).bind fun t716 => (if t716 = true then ((paymasterlaw10_refused.f (⟨#[32, 53]⟩ : ByteArray) 101).bind fun t717 => (if t717 = true then (if t711 = 0 then (some (t710.toList == ([35, 32, 120, 10, 98, 32, 55, 10] : List UInt8))) else (none)) else (none))) else (none))) else (none))) = some r := by rw [if_pos rfl] at H; exact H
            clear H
            have H := H1
            clear H1
            replace H := Option.bind_eq_some_iff.mp H
            obtain ⟨t715, A110, H⟩ := H
            replace H : (if t715 = true then ((paymasterlaw10_refused.f (⟨#[97, 108, 105, 99, 101, 32, 53, 32]⟩ : ByteArray) 102).bind fun t716 => (if t716 = true then ((paymasterlaw10_refused.f (⟨#[32, 53]⟩ : ByteArray) 101).bind fun t717 => (if t717 = true then (if t711 = 0 then (some (t710.toList == ([35, 32, 120, 10, 98, 32, 55, 10] : List UInt8))) else (none)) else (none))) else (none))) else (none)) = some r := H
            have A11 := Aside0.mk A110
            clear A110
            by_cases c12 : t715 = true
            · subst c12
              have H1 : ((paymasterlaw10_refused.f (⟨#[97, 108, 105, 99, 101, 32, 53, 32]⟩ : ByteArray) 102).bind fun t716 => (if t716 = true then ((paymasterlaw10_refused.f (⟨#[32, 53]⟩ : ByteArray) 101).bind fun t717 => (if t717 = true then (if t711 = 0 then (some (t710.toList == ([35, 32, 120, 10, 98, 32, 55, 10] : List UInt8))) else (none)) else (none))) else (none))) = some r := by rw [if_pos rfl] at H; exact H
              clear H
              have H := H1
              clear H1
              replace H := Option.bind_eq_some_iff.mp H
              obtain ⟨t716, A130, H⟩ := H
              replace H : (if t716 = true then ((paymasterlaw10_refused.f (⟨#[32, 53]⟩ : ByteArray) 101).bind fun t717 => (if t717 = true then (if t711 = 0 then (some (t710.toList == ([35, 32, 120, 10, 98, 32, 55, 10] : List UInt8))) else (none)) else (none))) else (none)) = some r := H
              have A13 := Aside0.mk A130
              clear A130
              by_cases c14 : t716 = true
              · subst c14
                have H1 : ((paymasterlaw10_refused.f (⟨#[32, 53]⟩ : ByteArray) 101).bind fun t717 => (if t717 = true then (if t711 = 0 then (some (t710.toList == ([35, 32, 120, 10, 98, 32, 55, 10] : List UInt8))) else (none)) else (none))) = some r := by rw [if_pos rfl] at H; exact H
                clear H
                have H := H1
                clear H1
                replace H := Option.bind_eq_some_iff.mp H
                obtain ⟨t717, A150, H⟩ := H
                replace H : (if t717 = true then (if t711 = 0 then (some (t710.toList == ([35, 32, 120, 10, 98, 32, 55, 10] : List UInt8))) else (none)) else (none)) = some r := H
                have A15 := Aside0.mk A150
                clear A150
                by_cases c16 : t717 = true
                · subst c16
                  have H1 : (if t711 = 0 then (some (t710.toList == ([35, 32, 120, 10, 98, 32, 55, 10] : List UInt8))) else (none)) = some r := by rw [if_pos rfl] at H; exact H
                  clear H
                  have H := H1
                  clear H1
                  by_cases c17 : t711 = 0
                  · rw [if_pos c17] at H
                    have c17b0 : (t711 == 0) = true := beq_iff_eq.mpr c17
                    have c17b1 : (t711 != 0) = false := bne_eq_false_iff_eq.mpr c17
                    clear c17
                    obtain rfl := Option.some.inj H
                    go_enter Tryd.func25, Tryd.ntmps25
                    go_wp2_with (first | ((with_reducible refine gate_callee (f := 47) rfl ?_); refine goesL_ (some 6) rfl rfl Tryd.func47 (by kernel_rfl) rfl #[.string (⟨#[97, 108, 105, 99, 101, 32, 50, 53, 48]⟩ : ByteArray)] rfl (by (try simp only [List.map_toArray, List.map_cons, List.map_nil]); first | done | rfl | (simp only [List.length_drop, List.length_take]; rfl)) ?_; (with_reducible refine (row_Parse.calls (⟨#[97, 108, 105, 99, 101, 32, 50, 53, 48]⟩ : ByteArray) t702 t703 t704 t705 _ ?side1 A1.out).mono ?_); (case side1 => exact gt_below hG (by repeat (first | (with_reducible first | exact HB.out | apply below_alloc | apply pw_below_drewN | apply below_drew1) | exact HB.out))); rintro e w18 ⟨rfl, hb⟩; refine ⟨_, rfl, ?_⟩; have n0_ := Aside0.mk (below_step (by repeat (first | (with_reducible first | exact HB.out | apply below_alloc | apply pw_below_drewN | apply below_drew1) | exact HB.out)) hb); clear HB; have HB := n0_; clear n0_; (try clear hb); (try clear hb2); (try clear hk); (try clear hi)) | ((with_reducible refine gate_dst (N := 1) rfl ?_); refine box_event ?hg (N := 1) ?hd (cs := #[.string (⟨#[]⟩ : ByteArray), .int .u64 0, .int .u64 0]) (t := 44) ?hr ?_; (case hd => rfl); (case hg => rfl); (case hr => first | (go_simp; done) | (go_simp; rfl)); intro gb706 hg w19 hbox hb; have n0_ := Aside0.mk (below_step (by repeat (first | (with_reducible first | exact HB.out | apply below_alloc | apply pw_below_drewN | apply below_drew1) | exact HB.out)) hb); have n1_ := Aside0.mk (hbox); have n2_ := Aside0.mk ((by rw [hg]; exact (below_size (by repeat (first | (with_reducible first | exact HB.out | apply below_alloc | apply pw_below_drewN | apply below_drew1) | exact HB.out))) : w.heap.size ≤ gb706)); have n3_ := Aside0.mk ((by rw [hg]; exact (below_size (by repeat (first | (with_reducible first | exact HB.out | apply below_alloc | apply pw_below_drewN | apply below_drew1) | exact HB.out))) : w.heap.size ≤ gb706)); clear HB; have HB := n0_; have BK706 := n1_; have GW706 := n2_; have GE706 := n3_; clear n0_ n1_ n2_ n3_; clear hb hbox hg; have hcz20_0 : w19.cell? ⟨gb706, 0, none⟩ = some (.string (⟨#[]⟩ : ByteArray)) := (blk_cell BK706.out 0).trans rfl; have hcz20_1 : w19.cell? ⟨gb706, 1, none⟩ = some (.int .u64 0) := (blk_cell BK706.out 1).trans rfl; have hcz20_2 : w19.cell? ⟨gb706, 2, none⟩ = some (.int .u64 0) := (blk_cell BK706.out 2).trans rfl; have hfz20_0 := blk_frozen BK706.out 0; have hfz20_1 := blk_frozen BK706.out 1; have hfz20_2 := blk_frozen BK706.out 2) | ((with_reducible refine gate_dst (N := 12) rfl ?_); refine Kd.R_lit k44 _ 44 ?hg (N := 12) ?hd (xs := ([(⟨(⟨#[98]⟩ : ByteArray), (⟨0, 7⟩ : S42)⟩ : S44)] : List (S44))) (inner := [.string (⟨#[98]⟩ : ByteArray), .int .u64 0, .int .u64 7]) (ok := fun _ => True) (okp := fun _ => True) ?hr ?hp (fun _ hk => hk) trivial (Below.refl _ _) (Nat.le_refl _) (by simp) ?_; (case hd => rfl); (case hg => rfl); (case hr => first | (go_simp; done) | (go_simp; rfl)); (case hp => exact (Reps.c3 (show Kd.M k44 _ _ _ (⟨(⟨#[98]⟩ : ByteArray), (⟨0, 7⟩ : S42)⟩ : S44) [.string (⟨#[98]⟩ : ByteArray), .int .u64 0, .int .u64 7] from (k44_mkM _ _ _ (⟨(⟨#[98]⟩ : ByteArray), (⟨0, 7⟩ : S42)⟩ : S44) )) (Reps.none _ _))); intro v708 w21 ho22 hb hg_ hnew_; clear hg_ hnew_; (first | rw [← Ny707.out] at ho22 | (simp only [Int.reduceToNat] at ho22; rw [← Ny707.out] at ho22)); have n0_ := Aside0.mk (Kd.R_lower (Kd.R_newB ho22 (g := gb706) (o := .cells #[.string t702, .int .u64 t703, .int .u64 t704] 44 (0, 0)) (by (with_reducible repeat (first | refine blk_drewN ?_ _ | refine blk_drew ?_ | refine blk_alloc ?_ _)); refine blk_put (cs := #[.string t702, .int .u64 t703, .int .u64 0]) ?_ 2 _ rfl; (with_reducible repeat (first | refine blk_drewN ?_ _ | refine blk_drew ?_ | refine blk_alloc ?_ _)); refine blk_put (cs := #[.string t702, .int .u64 0, .int .u64 0]) ?_ 1 _ rfl; (with_reducible repeat (first | refine blk_drewN ?_ _ | refine blk_drew ?_ | refine blk_alloc ?_ _)); refine blk_put (cs := #[.string (⟨#[]⟩ : ByteArray), .int .u64 0, .int .u64 0]) ?_ 0 _ rfl; (with_reducible repeat (first | refine blk_drewN ?_ _ | refine blk_drew ?_ | refine blk_alloc ?_ _)); exact BK706.out)) (below_size (by repeat (first | (with_reducible first | exact HB.out | apply below_alloc | apply pw_below_drewN | apply below_drew1 | refine below_set ?_ GE706.out) | exact HB.out)))); have n1_ := Aside0.mk (blk_below (g := gb706) (o := .cells #[.string t702, .int .u64 t703, .int .u64 t704] 44 (0, 0)) (by (with_reducible repeat (first | refine blk_drewN ?_ _ | refine blk_drew ?_ | refine blk_alloc ?_ _)); refine blk_put (cs := #[.string t702, .int .u64 t703, .int .u64 0]) ?_ 2 _ rfl; (with_reducible repeat (first | refine blk_drewN ?_ _ | refine blk_drew ?_ | refine blk_alloc ?_ _)); refine blk_put (cs := #[.string t702, .int .u64 0, .int .u64 0]) ?_ 1 _ rfl; (with_reducible repeat (first | refine blk_drewN ?_ _ | refine blk_drew ?_ | refine blk_alloc ?_ _)); refine blk_put (cs := #[.string (⟨#[]⟩ : ByteArray), .int .u64 0, .int .u64 0]) ?_ 0 _ rfl; (with_reducible repeat (first | refine blk_drewN ?_ _ | refine blk_drew ?_ | refine blk_alloc ?_ _)); exact BK706.out) hb); have n2_ := Aside0.mk (below_step (by repeat (first | (with_reducible first | exact HB.out | apply below_alloc | apply pw_below_drewN | apply below_drew1 | refine below_set ?_ GE706.out) | exact HB.out)) hb); clear BK706; clear HB; have HO709 := n0_; have BK706 := n1_; have HB := n2_; clear n0_ n1_ n2_; clear hb ho22; obtain ⟨Ao23, co23, eo23⟩ := Kd.R_slice HO709.out; subst eo23) | ((with_reducible refine gate_callee (f := 52) rfl ?_); refine goesL_ (some 13) rfl rfl Tryd.func52 (by kernel_rfl) rfl #[.slice Ao23 y707.length co23, .string (⟨#[120]⟩ : ByteArray)] rfl (by (try simp only [List.map_toArray, List.map_cons, List.map_nil]); first | done | rfl | (simp only [List.length_drop, List.length_take]; rfl)) ?_; (with_reducible refine (row_Write.calls k _ _ y707 (⟨#[120]⟩ : ByteArray) t710 t711 _ ?side1 ?side2 ?side3 A2.out).mono ?_); (case side1 => repeat (first | exact (Kd.R_reads' HO709.out).2.2 | (with_reducible refine Kd.C_alloc ?_ _) | (with_reducible refine Kd.C_drewN ?_ _) | (with_reducible refine Kd.C_drew ?_))); (case side2 => exact (Kd.R_reads' HO709.out).2.1); (case side3 => exact gt_below hG (by repeat (first | (with_reducible first | exact HB.out | apply below_alloc | apply pw_below_drewN | apply below_drew1 | refine below_set ?_ GE706.out) | exact HB.out))); rintro e w24 ⟨rfl, hb⟩; refine ⟨_, rfl, ?_⟩; have n0_ := Aside0.mk (Kd.R_below (by (with_reducible repeat (first | apply Kd.R_alloc | apply Kd.R_drewN | apply Kd.R_drew)); exact HO709.out) hb); have n1_ := Aside0.mk (blk_below (g := gb706) (o := .cells #[.string t702, .int .u64 t703, .int .u64 t704] 44 (0, 0)) (by (with_reducible repeat (first | refine blk_drewN ?_ _ | refine blk_drew ?_ | refine blk_alloc ?_ _)); exact BK706.out) hb); have n2_ := Aside0.mk (below_step (by repeat (first | (with_reducible first | exact HB.out | apply below_alloc | apply pw_below_drewN | apply below_drew1 | refine below_set ?_ GE706.out) | exact HB.out)) hb); clear HO709; clear BK706; clear HB; have HO709 := n0_; have BK706 := n1_; have HB := n2_; clear n0_ n1_ n2_; (try clear hb); (try clear hb2); (try clear hk); (try clear hi); have hcz25_0 : w24.cell? ⟨gb706, 0, none⟩ = some (.string t702) := (blk_cell BK706.out 0).trans rfl; have hcz25_1 : w24.cell? ⟨gb706, 1, none⟩ = some (.int .u64 t703) := (blk_cell BK706.out 1).trans rfl; have hcz25_2 : w24.cell? ⟨gb706, 2, none⟩ = some (.int .u64 t704) := (blk_cell BK706.out 2).trans rfl; have hfz25_0 := blk_frozen BK706.out 0; have hfz25_1 := blk_frozen BK706.out 1; have hfz25_2 := blk_frozen BK706.out 2) | (go_at_call 63; (with_reducible refine (paymasterlaw10_refused.calls (⟨#[97, 108, 105, 99, 101]⟩ : ByteArray) 100 true _ ?side1 A5.out).mono ?_); (case side1 => exact gt_below hG (by repeat (first | (with_reducible first | exact HB.out | apply below_alloc | apply pw_below_drewN | apply below_drew1 | refine below_set ?_ GE706.out) | exact HB.out))); rintro e w26 ⟨rfl, hb⟩; have n0_ := Aside0.mk (Kd.R_below (by (with_reducible repeat (first | apply Kd.R_alloc | apply Kd.R_drewN | apply Kd.R_drew)); exact HO709.out) hb); have n1_ := Aside0.mk (blk_below (g := gb706) (o := .cells #[.string t702, .int .u64 t703, .int .u64 t704] 44 (0, 0)) (by (with_reducible repeat (first | refine blk_drewN ?_ _ | refine blk_drew ?_ | refine blk_alloc ?_ _)); exact BK706.out) hb); have n2_ := Aside0.mk (below_step (by repeat (first | (with_reducible first | exact HB.out | apply below_alloc | apply pw_below_drewN | apply below_drew1 | refine below_set ?_ GE706.out) | exact HB.out)) hb); clear HO709; clear BK706; clear HB; have HO709 := n0_; have BK706 := n1_; have HB := n2_; clear n0_ n1_ n2_; (try clear hb); (try clear hb2); (try clear hk); (try clear hi)) | (go_at_call 63; (with_reducible refine (paymasterlaw10_refused.calls (⟨#[97, 108, 47, 105, 99, 101, 32, 53]⟩ : ByteArray) 101 true _ ?side1 A7.out).mono ?_); (case side1 => exact gt_below hG (by repeat (first | (with_reducible first | exact HB.out | apply below_alloc | apply pw_below_drewN | apply below_drew1 | refine below_set ?_ GE706.out) | exact HB.out))); rintro e w27 ⟨rfl, hb⟩; have n0_ := Aside0.mk (Kd.R_below (by (with_reducible repeat (first | apply Kd.R_alloc | apply Kd.R_drewN | apply Kd.R_drew)); exact HO709.out) hb); have n1_ := Aside0.mk (blk_below (g := gb706) (o := .cells #[.string t702, .int .u64 t703, .int .u64 t704] 44 (0, 0)) (by (with_reducible repeat (first | refine blk_drewN ?_ _ | refine blk_drew ?_ | refine blk_alloc ?_ _)); exact BK706.out) hb); have n2_ := Aside0.mk (below_step (by repeat (first | (with_reducible first | exact HB.out | apply below_alloc | apply pw_below_drewN | apply below_drew1 | refine below_set ?_ GE706.out) | exact HB.out)) hb); clear HO709; clear BK706; clear HB; have HO709 := n0_; have BK706 := n1_; have HB := n2_; clear n0_ n1_ n2_; (try clear hb); (try clear hb2); (try clear hk); (try clear hi)) | (go_at_call 63; (with_reducible refine (paymasterlaw10_refused.calls (⟨#[97, 108, 105, 99, 101, 32, 48, 53]⟩ : ByteArray) 102 true _ ?side1 A9.out).mono ?_); (case side1 => exact gt_below hG (by repeat (first | (with_reducible first | exact HB.out | apply below_alloc | apply pw_below_drewN | apply below_drew1 | refine below_set ?_ GE706.out) | exact HB.out))); rintro e w28 ⟨rfl, hb⟩; have n0_ := Aside0.mk (Kd.R_below (by (with_reducible repeat (first | apply Kd.R_alloc | apply Kd.R_drewN | apply Kd.R_drew)); exact HO709.out) hb); have n1_ := Aside0.mk (blk_below (g := gb706) (o := .cells #[.string t702, .int .u64 t703, .int .u64 t704] 44 (0, 0)) (by (with_reducible repeat (first | refine blk_drewN ?_ _ | refine blk_drew ?_ | refine blk_alloc ?_ _)); exact BK706.out) hb); have n2_ := Aside0.mk (below_step (by repeat (first | (with_reducible first | exact HB.out | apply below_alloc | apply pw_below_drewN | apply below_drew1 | refine below_set ?_ GE706.out) | exact HB.out)) hb); clear HO709; clear BK706; clear HB; have HO709 := n0_; have BK706 := n1_; have HB := n2_; clear n0_ n1_ n2_; (try clear hb); (try clear hb2); (try clear hk); (try clear hi)) | (go_at_call 63; (with_reducible refine (paymasterlaw10_refused.calls (⟨#[97, 108, 105, 99, 101, 32, 32, 53]⟩ : ByteArray) 102 true _ ?side1 A11.out).mono ?_); (case side1 => exact gt_below hG (by repeat (first | (with_reducible first | exact HB.out | apply below_alloc | apply pw_below_drewN | apply below_drew1 | refine below_set ?_ GE706.out) | exact HB.out))); rintro e w29 ⟨rfl, hb⟩; have n0_ := Aside0.mk (Kd.R_below (by (with_reducible repeat (first | apply Kd.R_alloc | apply Kd.R_drewN | apply Kd.R_drew)); exact HO709.out) hb); have n1_ := Aside0.mk (blk_below (g := gb706) (o := .cells #[.string t702, .int .u64 t703, .int .u64 t704] 44 (0, 0)) (by (with_reducible repeat (first | refine blk_drewN ?_ _ | refine blk_drew ?_ | refine blk_alloc ?_ _)); exact BK706.out) hb); have n2_ := Aside0.mk (below_step (by repeat (first | (with_reducible first | exact HB.out | apply below_alloc | apply pw_below_drewN | apply below_drew1 | refine below_set ?_ GE706.out) | exact HB.out)) hb); clear HO709; clear BK706; clear HB; have HO709 := n0_; have BK706 := n1_; have HB := n2_; clear n0_ n1_ n2_; (try clear hb); (try clear hb2); (try clear hk); (try clear hi)) | (go_at_call 63; (with_reducible refine (paymasterlaw10_refused.calls (⟨#[97, 108, 105, 99, 101, 32, 53, 32]⟩ : ByteArray) 102 true _ ?side1 A13.out).mono ?_); (case side1 => exact gt_below hG (by repeat (first | (with_reducible first | exact HB.out | apply below_alloc | apply pw_below_drewN | apply below_drew1 | refine below_set ?_ GE706.out) | exact HB.out))); rintro e w30 ⟨rfl, hb⟩; have n0_ := Aside0.mk (Kd.R_below (by (with_reducible repeat (first | apply Kd.R_alloc | apply Kd.R_drewN | apply Kd.R_drew)); exact HO709.out) hb); have n1_ := Aside0.mk (blk_below (g := gb706) (o := .cells #[.string t702, .int .u64 t703, .int .u64 t704] 44 (0, 0)) (by (with_reducible repeat (first | refine blk_drewN ?_ _ | refine blk_drew ?_ | refine blk_alloc ?_ _)); exact BK706.out) hb); have n2_ := Aside0.mk (below_step (by repeat (first | (with_reducible first | exact HB.out | apply below_alloc | apply pw_below_drewN | apply below_drew1 | refine below_set ?_ GE706.out) | exact HB.out)) hb); clear HO709; clear BK706; clear HB; have HO709 := n0_; have BK706 := n1_; have HB := n2_; clear n0_ n1_ n2_; (try clear hb); (try clear hb2); (try clear hk); (try clear hi)) | (go_at_call 63; (with_reducible refine (paymasterlaw10_refused.calls (⟨#[32, 53]⟩ : ByteArray) 101 true _ ?side1 A15.out).mono ?_); (case side1 => exact gt_below hG (by repeat (first | (with_reducible first | exact HB.out | apply below_alloc | apply pw_below_drewN | apply below_drew1 | refine below_set ?_ GE706.out) | exact HB.out))); rintro e w31 ⟨rfl, hb⟩; have n0_ := Aside0.mk (Kd.R_below (by (with_reducible repeat (first | apply Kd.R_alloc | apply Kd.R_drewN | apply Kd.R_drew)); exact HO709.out) hb); have n1_ := Aside0.mk (blk_below (g := gb706) (o := .cells #[.string t702, .int .u64 t703, .int .u64 t704] 44 (0, 0)) (by (with_reducible repeat (first | refine blk_drewN ?_ _ | refine blk_drew ?_ | refine blk_alloc ?_ _)); exact BK706.out) hb); have n2_ := Aside0.mk (below_step (by repeat (first | (with_reducible first | exact HB.out | apply below_alloc | apply pw_below_drewN | apply below_drew1 | refine below_set ?_ GE706.out) | exact HB.out)) hb); clear HO709; clear BK706; clear HB; have HO709 := n0_; have BK706 := n1_; have HB := n2_; clear n0_ n1_ n2_; (try clear hb); (try clear hb2); (try clear hk); (try clear hi)))
                    go_ret
                    exact ⟨by first | rfl | (simp [errW_none, errW_some] <;> rfl) | (simp [*, errW_none, errW_some] <;> rfl), by repeat (first | (with_reducible first | exact HB.out | apply below_alloc | apply pw_below_drewN | apply below_drew1 | refine below_set ?_ GE706.out) | exact HB.out)⟩
                  · rw [if_neg c17] at H
                    exact absurd H (by simp)
                · replace c16 := Bool.eq_false_iff.mpr c16
                  subst c16
                  have H1 : (none) = some r := by rw [if_neg (show ¬ (false = true) by decide)] at H; exact H
                  clear H
                  have H := H1
                  clear H1
                  exact absurd H (by simp)
              · replace c14 := Bool.eq_false_iff.mpr c14
                subst c14
                have H1 : (none) = some r := by rw [if_neg (show ¬ (false = true) by decide)] at H; exact H
                clear H
                have H := H1
                clear H1
                exact absurd H (by simp)
            · replace c12 := Bool.eq_false_iff.mpr c12
              subst c12
              have H1 : (none) = some r := by rw [if_neg (show ¬ (false = true) by decide)] at H; exact H
              clear H
              have H := H1
              clear H1
              exact absurd H (by simp)
          · replace c10 := Bool.eq_false_iff.mpr c10
            subst c10
            have H1 : (none) = some r := by rw [if_neg (show ¬ (false = true) by decide)] at H; exact H
            clear H
            have H := H1
            clear H1
            exact absurd H (by simp)
        · replace c8 := Bool.eq_false_iff.mpr c8
          subst c8
          have H1 : (none) = some r := by rw [if_neg (show ¬ (false = true) by decide)] at H; exact H
          clear H
          have H := H1
          clear H1
          exact absurd H (by simp)
      · replace c6 := Bool.eq_false_iff.mpr c6
        subst c6
        have H1 : (none) = some r := by rw [if_neg (show ¬ (false = true) by decide)] at H; exact H
        clear H
        have H := H1
        clear H1
        exact absurd H (by simp)
    · rw [if_neg c4] at H
      exact absurd H (by simp)
  · rw [if_neg c3] at H
    exact absurd H (by simp)
end Go.Proofs.YtpkjpiphjdpegaaDoor.P
namespace Go.Proofs.YtpkjpiphjdpegaaDoor.P
open Go.RowKit Go.Proofs.YtpkjpiphjdpegaaDoorW.PrintWords Go.Proofs.YtpkjpiphjdpegaaDoorW.PrintLast Go.Proofs.YtpkjpiphjdpegaaDoorW.PrintMore
set_option linter.unusedVariables false
set_option linter.unusedSimpArgs false
theorem tail_lenN (n : Nat) : ∀ r : List ByteArray, (∀ x ∈ r, x.size ≤ n) → (Lib.joinTail [10] (r.map (·.data.toList))).length ≤ (n + 1) * r.length
  | [], _ => by simp [Lib.joinTail]
  | y :: r, h => by
    have a := tail_lenN n r fun x hx => h x (List.mem_cons_of_mem _ hx)
    have b := h y (List.mem_cons_self ..)
    have e : y.data.toList.length = y.size := Array.length_toList
    rw [List.map_cons, tail_cons, List.length_cons, List.length_append, List.length_cons, e, Nat.mul_succ]
    omega
theorem join_lenN (n : Nat) (l : List ByteArray) (h : ∀ x ∈ l, x.size ≤ n) : (Lib.join (l.map (·.data.toList)) [10]).length ≤ (n + 1) * l.length := by
  cases l with
  | nil => simp [Lib.join]
  | cons y r =>
    have a := tail_lenN n r fun x hx => h x (List.mem_cons_of_mem _ hx)
    have b := h y (List.mem_cons_self ..)
    have e : y.data.toList.length = y.size := Array.length_toList
    rw [List.map_cons, joinB_cons, List.length_append, List.length_cons, e, Nat.mul_succ]
    omega
theorem one_empty : oneB [] = ((⟨#[]⟩ : ByteArray), 0, 0, false, 0) := by
  have w : wrongOf [] = 0 := by
    unfold wrongOf
    rw [Lib.validD_nil, if_pos rfl]
    rfl
  unfold oneB
  rw [if_pos w, if_neg (by decide)]
end Go.Proofs.YtpkjpiphjdpegaaDoor.P
namespace Go.Proofs.YtpkjpiphjdpegaaDoor.P
set_option maxRecDepth 100000
theorem awake10 : paymasterlaw10_awake.f 100 = some true := by kernel_rfl
theorem awake10_up (k : Nat) (h : 100 ≤ k) : paymasterlaw10_awake.f k = some true := up (F := fun k => paymasterlaw10_awake.f k) paymasterlaw10_awake.mono awake10 k h
end Go.Proofs.YtpkjpiphjdpegaaDoor.P
namespace Go.Proofs.YtpkjpiphjdpegaaDoor.P
open Go.RowKit Go.Proofs.YtpkjpiphjdpegaaDoorW.PrintWords Go.Proofs.YtpkjpiphjdpegaaDoorW.PrintLast Go.Proofs.YtpkjpiphjdpegaaDoorW.PrintMore
set_option linter.unusedVariables false
set_option linter.unusedSimpArgs false
theorem same44_l0 (l : List S44) (hl : l.length ≤ 1000000000) (k : Nat) : ∀ (t i : Nat), i + t = l.length → paymasterref10_Same.l0 (k + 1 + t) l l (i : Int) = some true
  | 0, i, h => by
    show paymasterref10_Same.l0 (k + 1) _ _ _ = _
    rw [paymasterref10_Same.l0, if_neg (by omega)]
  | t + 1, i, h => by
    have ih := same44_l0 l hl k t (i + 1) (by omega)
    show paymasterref10_Same.l0 (k + 1 + t + 1) _ _ _ = _
    rw [paymasterref10_Same.l0, if_pos (show (i : Int) < (l.length : Int) by omega), if_pos (show (0 : Int) ≤ (i : Int) by omega), if_pos (show (i : Int) < (l.length : Int) by omega), if_neg (by simp), wrapI _ (by omega) (by omega), show (i : Int) + 1 = ((i + 1 : Nat) : Int) from by omega]
    exact ih
theorem same44_is (l : List S44) (hl : l.length ≤ 1000000000) (k : Nat) (hk : l.length + 1 ≤ k) : paymasterref10_Same.f k l l = some true := by
  unfold paymasterref10_Same.f
  rw [if_pos rfl]
  have := same44_l0 l hl (k - 1 - l.length) l.length 0 (by omega)
  rw [show k - 1 - l.length + 1 + l.length = k by omega] at this
  exact this
end Go.Proofs.YtpkjpiphjdpegaaDoor.P
namespace Go.Proofs.YtpkjpiphjdpegaaDoor.P
open Go.RowKit Go.Shelf Go.Proofs.YtpkjpiphjdpegaaDoor.RF Go.Proofs.YtpkjpiphjdpegaaDoorW.PrintWords
attribute [local go_sem] Oper.semAt_some
set_option linter.unusedVariables false
set_option linter.unusedSimpArgs false
set_option maxHeartbeats 8000000 in
set_option maxRecDepth 100000 in
theorem each2_in (n : Nat) (hn : 1 ≤ n) (l Bx n₀ : Nat) (s : ByteArray) (hs : s.size ≤ 1000000000) (J Jx : List S56 → World → Prop) (W : World)
    (hJ : AbX Bx W.heap.size J) (hG : ∀ W', Below n₀ W W' → GT W') (hxB : n₀ ≤ Bx) (hlt : Bx < W.heap.size)
    (hY : ∀ pre x W, J pre W → pre.length < (allL s).length → x ∈ allL s → YieldAt Fence.wide (n - 1) Tryd.prog l #[lineV x] W fun e W' =>
      (e = .returned (.bool true) ∧ J (pre ++ [x]) W' ∧ KpE n₀ Bx W W') ∨ (e = .returned (.bool false) ∧ Jx (pre ++ [x]) W'))
    (hBx : Boxed W Bx 9 (.string s)) (h0 : J [] W) :
    CallsIn Fence.wide n Tryd.prog 73 #[.func (.yield l) #[] #[], .pointer (some ⟨Bx, 0, none⟩)] W fun e W' => (∃ v, e = .returned v) ∧
      ((∃ ys, ys = allL s ∧ J ys W') ∨ (∃ pre, pre <+: allL s ∧ Jx pre W')) := by
  refine callsIn_of_wp Tryd.func73 rfl trivial ?_ rfl
  simp only [Tryd.ntmps73, List.size_toArray, List.length_cons, List.length_nil, Nat.reduceAdd, Nat.reduceSub, Array.replicate_succ, Array.replicate_zero, List.push_toArray, List.append_toArray, List.nil_append, List.cons_append]
  gi_wp2
  gi_loopw [3] (fun p wr => ∃ (pre : List S56) (t : List UInt8), p = .int .i64 ((pre.length : Int) + 1) ∧ pre ++ linesL ((pre.length : Int) + 1) (splitB t) = allL s ∧ Boxed wr Bx 9 (.string (mk t)) ∧ t.length ≤ s.size ∧ pre.length + t.length ≤ s.size ∧ Below n₀ W wr ∧ J pre wr)
    (fun p wr => leftE Bx wr)
  case atStart =>
    exact ⟨[], s.data.toList, rfl, rfl, by rw [mk_of]; exact hBx, by simp, by simp, Below.refl _ _, h0⟩
  case round =>
    obtain ⟨pre, t, rfl, hx, hb, ht, hpt, hBel, hJs⟩ := hrel
    have hcell := hb.cell
    have hfro := hb.frozen
    have hle : n₀ ≤ wr.heap.size := by have := hb.lt; omega
    have hn64 : (pre.length : Int) + 1 ≤ 1000000001 := by omega
    have arm : ∀ (h tl : List UInt8) (mo : Bool), h.length ≤ 1000000000 → strings_Cut.f (mk t) (⟨#[10]⟩ : ByteArray) = some (mk h, mk tl, mo) → pre.length < (allL s).length → True := fun _ _ _ _ _ _ => trivial
    clear arm
    by_cases hi : Lib.indexByte t 10 = -1
    · have hsp := splitB_none hi
      have hcut := cut_none hi
      rw [hsp] at hx
      have hx' : pre ++ [lineOf ((pre.length : Int) + 1) t] = allL s := hx
      have hlen : pre.length < (allL s).length := by rw [← hx']; simp
      have hmem : lineOf ((pre.length : Int) + 1) t ∈ allL s := by rw [← hx']; simp
      have hk := kind_is t (by omega)
      have hw := wrong_is t (by omega)
      gi_wp2_with (first
        | (refine ⟨trivial, ?_⟩; gi_at_call 74; refine (callsIn_wide.2 (strings_Cut.calls (mk t) _ _ _ _ _ hcut)).mono ?_; rintro e W1 ⟨rfl, hb1⟩; have hbel1 := hBel.trans (hb1.mono hle); have hJ1 := hJ.below hJs hb1; have hbx1 := hb.kept (grown_below hb1 none) (by simp); have hs1 := hb1.size)
        | (refine ⟨trivial, ?_⟩; gi_at_call 37; refine (callsIn_wide.2 (lines_Kind.calls (mk t) _ _ hk)).mono ?_; rintro e W2 ⟨rfl, hb2⟩; have hbel2 := hbel1.trans (hb2.mono (by omega)); have hJ2 := hJ.below hJ1 hb2; have hbx2 := hbx1.kept (grown_below hb2 none) (by simp); have hs2 := hb2.size)
        | (refine ⟨trivial, ?_⟩; gi_at_call 75; refine (callsIn_wide.2 (lines_wrong.calls (mk t) _ _ (hG _ hbel2) hw)).mono ?_; rintro e W3 ⟨rfl, hb3⟩; have hbel3 := hbel2.trans (hb3.mono (by omega)); have hJ3 := hJ.below hJ2 hb3; have hbx3 := hbx2.kept (grown_below hb3 none) (by simp); obtain ⟨fn, tmps, assign, body, hy, hR⟩ := hY pre (lineOf ((pre.length : Int) + 1) t) W3 hJ3 hlen hmem; dsimp only [lineV, lineOf] at hy))
      refine hR.mono ?_
      rintro e W4 (⟨rfl, hJ4, hk4⟩ | ⟨rfl, hJx4⟩)
      · gi_wp2
        refine bodyPost_ret (results_none rfl _ _ _) rfl ?_
        exact ⟨⟨_, rfl⟩, .inl ⟨_, hx', hJ4⟩⟩
      · gi_wp2
        refine bodyPost_ret (results_none rfl _ _ _) rfl ?_
        exact ⟨⟨_, rfl⟩, .inr ⟨_, ⟨[], by rw [List.append_nil]; exact hx'⟩, hJx4⟩⟩
    · obtain ⟨i, hi⟩ : ∃ i : Nat, Lib.indexByte t 10 = (i : Int) := ⟨(Lib.indexByte t 10).toNat, by have := Lib.indexByte_ge t 10; omega⟩
      obtain ⟨hsp, hit⟩ := splitB_some hi
      have hcut := cut_some (by omega) hi
      rw [hsp] at hx
      have hx' : pre ++ (lineOf ((pre.length : Int) + 1) (t.take i) :: linesL ((pre.length : Int) + 1 + 1) (splitB (t.drop (i + 1)))) = allL s := hx
      have hlen : pre.length < (allL s).length := by rw [← hx']; simp
      have hmem : lineOf ((pre.length : Int) + 1) (t.take i) ∈ allL s := by rw [← hx']; simp
      have hli : (t.take i).length ≤ t.length := by simp; omega
      have hk := kind_is (t.take i) (by omega)
      have hw := wrong_is (t.take i) (by omega)
      gi_wp2_with (first
        | (refine ⟨trivial, ?_⟩; gi_at_call 74; refine (callsIn_wide.2 (strings_Cut.calls (mk t) _ _ _ _ _ hcut)).mono ?_; rintro e W1 ⟨rfl, hb1⟩; have hbel1 := hBel.trans (hb1.mono hle); have hJ1 := hJ.below hJs hb1; have hbx1 := hb.kept (grown_below hb1 none) (by simp); have hs1 := hb1.size)
        | (refine ⟨trivial, ?_⟩; gi_at_call 37; refine (callsIn_wide.2 (lines_Kind.calls (mk (t.take i)) _ _ hk)).mono ?_; rintro e W2 ⟨rfl, hb2⟩; have hbel2 := hbel1.trans (hb2.mono (by omega)); have hJ2 := hJ.below hJ1 hb2; have hbx2 := hbx1.kept (grown_below hb2 none) (by simp); have hs2 := hb2.size)
        | (refine ⟨trivial, ?_⟩; gi_at_call 75; refine (callsIn_wide.2 (lines_wrong.calls (mk (t.take i)) _ _ (hG _ hbel2) hw)).mono ?_; rintro e W3 ⟨rfl, hb3⟩; have hbel3 := hbel2.trans (hb3.mono (by omega)); have hJ3 := hJ.below hJ2 hb3; have hbx3 := hbx2.kept (grown_below hb3 none) (by simp); obtain ⟨fn, tmps, assign, body, hy, hR⟩ := hY pre (lineOf ((pre.length : Int) + 1) (t.take i)) W3 hJ3 hlen hmem; dsimp only [lineV, lineOf] at hy))
      refine hR.mono ?_
      rintro e W4 (⟨rfl, hJ4, hk4⟩ | ⟨rfl, hJx4⟩)
      · have hbx4 : Boxed W4 Bx 9 (.string (mk t)) := hk4.2.trans hbx3
        have hc4 := hbx4.cell
        have hf4 := hbx4.frozen
        gi_wp2
        go_roundw
        case rel =>
          refine ⟨pre ++ [lineOf ((pre.length : Int) + 1) (t.take i)], t.drop (i + 1), ?_, ?_, hbx4.set _, by simp; omega, by simp; omega, ?_, hJ.set _ hJ4⟩
          · simp
          · rw [List.append_assoc, List.length_append]; exact hx'
          · exact (hbel3.trans hk4.1).setCell (p := ⟨Bx, 0, none⟩) hxB _
        case measure =>
          have e1 := (hbx4.set (.string (mk (t.drop (i + 1))))).cell
          unfold leftE
          rw [e1, hcell]
          simp [mk_size]
          omega
      · gi_wp2
        refine bodyPost_ret (results_none rfl _ _ _) rfl ?_
        exact ⟨⟨_, rfl⟩, .inr ⟨_, ⟨linesL ((pre.length : Int) + 1 + 1) (splitB (t.drop (i + 1))), by rw [List.append_assoc]; exact hx'⟩, hJx4⟩⟩
abbrev LineIn (s : ByteArray) := {x : S56 // x ∈ allL s}
theorem each_stops2 (n : Nat) (hn : 1 ≤ n) (Bx n₀ : Nat) (s : ByteArray) (hs : s.size ≤ 1000000000) (w w0 : World) (hG : GT w0) (h0 : w0.heap.size ≤ n₀) (hb0 : Below n₀ w0 w) (hxB : n₀ ≤ Bx) (hlt : Bx < w.heap.size)
    (hBx : Boxed w Bx 9 (.string s)) :
    SeqX (α := LineIn s) Fence.wide n Tryd.prog 73 #[.pointer (some ⟨Bx, 0, none⟩)] (fun x => #[lineV x.1]) (KpE n₀ Bx) Bx (fun ys => ys.map Subtype.val = allL s) (fun pre => pre.map Subtype.val <+: allL s) (allL s).length w :=
  fun l J Jx W hW hJ hJx hY h00 => by
    refine (each2_in n hn l Bx n₀ s hs (fun p W => ∃ q : List (LineIn s), q.map Subtype.val = p ∧ J q W) (fun p W => ∃ q : List (LineIn s), q.map Subtype.val = p ∧ Jx q W) W
      (fun p A B row hp hg hr => by obtain ⟨q, e, hq⟩ := hp; exact ⟨q, e, hJ q A B row hq hg hr⟩)
      (fun W' hb' => gt_same hG h0 ((hb0.trans (hW.mono (by omega))).trans hb')) hxB (by have := hW.size; omega) ?_ (hBx.kept (grown_below hW none) (by simp)) ⟨[], rfl, h00⟩).mono ?_
    · rintro pre x W1 ⟨q, rfl, hq⟩ hl hm
      obtain ⟨fn, tmps, assign, body, hy, hR⟩ := hY q ⟨x, hm⟩ W1 hq (by simpa using hl)
      refine ⟨fn, tmps, assign, body, hy, hR.mono ?_⟩
      rintro e W' (⟨he, hj, hk⟩ | ⟨he, hj⟩)
      · exact .inl ⟨he, ⟨_, by simp, hj⟩, hk⟩
      · exact .inr ⟨he, _, by simp, hj⟩
    · rintro e W' ⟨hv, ⟨ys, rfl, q, e1, hq⟩ | ⟨pre, hp, q, rfl, hq⟩⟩
      · exact ⟨hv, .inl ⟨q, e1, hq⟩⟩
      · exact ⟨hv, .inr ⟨q, hp, hq⟩⟩
end Go.Proofs.YtpkjpiphjdpegaaDoor.P
namespace Go.Proofs.YtpkjpiphjdpegaaDoor.P
open Go.RowKit Go.Shelf Go.Proofs.YtpkjpiphjdpegaaDoor.RF Go.Proofs.YtpkjpiphjdpegaaDoorW.PrintWords
attribute [local go_sem] Oper.semAt_some
set_option linter.unusedVariables false
set_option linter.unusedSimpArgs false
def ofX (x : S56) : ByteArray × Int × Int × Bool × Int := oneB x.f1.data.toList
def rowX (x : S56) : S44 := ⟨(ofX x).1, ⟨(ofX x).2.1, (ofX x).2.2.1⟩⟩
def accX : List S56 → List S44
  | [] => []
  | x :: r => if (ofX x).2.2.2.1 = true then rowX x :: accX r else accX r
theorem accX_snoc : ∀ (p : List S56) (x : S56), accX (p ++ [x]) = if (ofX x).2.2.2.1 = true then accX p ++ [rowX x] else accX p
  | [], x => by rw [List.nil_append, accX]; rfl
  | y :: p, x => by
    rw [List.cons_append, accX, accX, accX_snoc p x]
    by_cases c : (ofX y).2.2.2.1 = true
    · rw [if_pos c, if_pos c]; split <;> rfl
    · rw [if_neg c, if_neg c]
theorem accX_len : ∀ p : List S56, (accX p).length ≤ p.length
  | [] => Nat.le_refl _
  | x :: p => by
    have := accX_len p
    rw [accX]
    split <;> simp <;> omega
theorem rowsL_ok : ∀ (L : List (List UInt8)) (n : Int) (acc : List S44), (∀ x ∈ linesL n L, (ofX x).2.2.2.2 = 0) → rowsL n acc L = (acc ++ accX (linesL n L), 0, 0)
  | [], n, acc, _ => by rw [rowsL, linesL, accX, List.append_nil]
  | h :: L, n, acc, c => by
    have c0 : (oneB h).2.2.2.2 = 0 := c (lineOf n h) (List.mem_cons_self ..)
    have ih := fun acc => rowsL_ok L (n + 1) acc fun x hx => c x (List.mem_cons_of_mem _ hx)
    rw [rowsL, linesL, accX, if_pos c0]
    have e : (ofX (lineOf n h)).2.2.2.1 = (oneB h).2.2.2.1 := rfl
    rw [e]
    by_cases q : (oneB h).2.2.2.1 = true
    · rw [if_pos q, if_pos q, ih, List.append_assoc]; rfl
    · rw [if_neg q, if_neg q, ih]
theorem rowsL_bad : ∀ (L : List (List UInt8)) (n : Int) (acc : List S44) (p : List S56) (x : S56) (r : List S56), linesL n L = p ++ x :: r → (∀ y ∈ p, (ofX y).2.2.2.2 = 0) → (ofX x).2.2.2.2 ≠ 0 → rowsL n acc L = ([], x.f0, (ofX x).2.2.2.2)
  | [], n, acc, p, x, r, e, _, _ => by rw [linesL] at e; cases p <;> cases e
  | h :: L, n, acc, p, x, r, e, hp, hx => by
    rw [linesL] at e
    cases p with
    | nil =>
      rw [List.nil_append] at e
      obtain ⟨rfl, e2⟩ := List.cons.inj e
      have c : ¬ (oneB h).2.2.2.2 = 0 := hx
      rw [rowsL, if_neg c]
      rfl
    | cons y p =>
      rw [List.cons_append] at e
      obtain ⟨rfl, e2⟩ := List.cons.inj e
      have c0 : (oneB h).2.2.2.2 = 0 := hp _ (List.mem_cons_self ..)
      have ih := fun acc => rowsL_bad L (n + 1) acc p x r e2 (fun z hz => hp z (List.mem_cons_of_mem _ hz)) hx
      rw [rowsL, if_pos c0]
      by_cases q : (oneB h).2.2.2.1 = true
      · rw [if_pos q, ih]
      · rw [if_neg q, ih]
theorem line_mem : ∀ (L : List (List UInt8)) (n : Int) (x : S56), x ∈ linesL n L → ∃ m h, h ∈ L ∧ x = lineOf m h
  | [], n, x, h => by cases h
  | h :: L, n, x, hx => by
    rw [linesL] at hx
    rcases List.mem_cons.1 hx with rfl | hx
    · exact ⟨n, h, List.mem_cons_self .., rfl⟩
    · obtain ⟨m, g, hg, e⟩ := line_mem L (n + 1) x hx
      exact ⟨m, g, List.mem_cons_of_mem _ hg, e⟩
theorem of_line (s : ByteArray) (hs : s.size ≤ 1000000000) (x : S56) (hx : x ∈ allL s) : row_Of.f x.f0 x.f1 x.f2 x.f3 = some (ofX x) := by
  obtain ⟨m, h, hh, rfl⟩ := line_mem _ _ _ hx
  have e : s.data.toList.length = s.size := Array.length_toList
  have := splitB_size _ h hh
  show row_Of.f m (mk h) (kindOf h) (wrongOf h) = some (oneB h)
  exact of_is m h (by omega)
def row_All.f (a0 : ByteArray) : Option (List S44 × Int × Int) := if a0.size ≤ 1000000000 then some (rowsL 1 [] (splitB a0.data.toList)) else none
def CoR (B Bx n₀ : Nat) (w : World) (f : List S56 → List S44) (pre : List S56) (W : World) : Prop :=
  (∃ v, Boxed W B 34 v ∧ Kd.R k44 44 W n₀ (fun k => k ≠ Bx) v (f pre)) ∧ Below n₀ w W
theorem coR_ab (B Bx n₀ : Nat) (w : World) (f : List S56 → List S44) (hn : n₀ ≤ w.heap.size) (hx : n₀ ≤ Bx) (hB : n₀ ≤ B) (hne : B ≠ Bx) (C : Nat) (hC : n₀ ≤ C) : AbX Bx C (CoR B Bx n₀ w f) := by
  rintro s W W' row ⟨⟨v, hv, hr⟩, hb⟩ hg hrow
  have key : ∀ (k : Nat) cells t, W.heap[k]? = some (.cells cells t (0, 0)) → k ≠ Bx → some k ≠ row := fun k cells t hk hkx e => by
    rcases hrow k e.symm with h | ⟨_, o, ho, hc⟩
    · exact hkx h
    · rw [hk] at ho; cases ho; cases hc
  refine ⟨⟨v, hv.kept hg (key B _ _ hv hne), Kd.R_grown2 hr rfl hg fun k e e' => ?_⟩, abX_below hn hC hx () W W' row hb hg hrow⟩
  obtain ⟨cells, hk⟩ := Kd.R_typed hr k e'.symm
  exact key k _ _ hk (hr.1 k e'.symm) e.symm
theorem res3 (tmps : Array Value) (w : World) (B B' B'' : Nat) (h1 : tmps[2]? = some (.pointer (some ⟨B, 0, none⟩))) (h2 : tmps[3]? = some (.pointer (some ⟨B', 0, none⟩))) (h3 : tmps[4]? = some (.pointer (some ⟨B'', 0, none⟩))) {x y z : Value} (q1 : Boxed w B 34 x) (q2 : Boxed w B' 3 y) (q3 : Boxed w B'' 23 z) :
    (results Tryd.f45 tmps).run Tryd.prog w = .ok (.tuple #[x, y, z]) w := by
  have hr : Tryd.f45.results = #[.cell 2 34, .cell 3 3, .cell 4 23] := rfl
  have c1 := q1.cell
  have c2 := q2.cell
  have c3 := q3.cell
  have g1 : tmps[2]?.getD undef = .pointer (some ⟨B, 0, none⟩) := by rw [h1]; rfl
  have g2 : tmps[3]?.getD undef = .pointer (some ⟨B', 0, none⟩) := by rw [h2]; rfl
  have g3 : tmps[4]?.getD undef = .pointer (some ⟨B'', 0, none⟩) := by rw [h3]; rfl
  simp [results, hr, g1, g2, g3, asAddr, go_sem, c1, c2, c3]
theorem callsIn_round {P : Program} {l n f : Nat} {args : Array Value} {w : World} {Q : Ending → World → Prop} (h : Calls P f args w Q) : CallsIn (Fence.wide.inRound l) n P f args w Q := callsIn_wide.2 h
def InvR (n0 : Nat) (w W0 : World) (pre : List S56) (W : World) : Prop :=
  ((Boxed W n0 34 (.slice none 0 0) ∧ Boxed W (n0 + 1) 3 (.int .i64 0) ∧ Boxed W (n0 + 2) 23 (.int .i64 0)) ∧ CoR (n0 + 3) (n0 + 4) n0 w accX pre W ∧ W0.heap.size ≤ W.heap.size) ∧ ∀ x ∈ pre, (ofX x).2.2.2.2 = 0
def InvX (n0 : Nat) (w : World) (c : Code) (pre : List S56) (W : World) : Prop :=
  c = .ret ∧ ∃ p x, pre = p ++ [x] ∧ (∀ y ∈ p, (ofX y).2.2.2.2 = 0) ∧ (ofX x).2.2.2.2 ≠ 0 ∧ Boxed W n0 34 (.slice none 0 0) ∧ Boxed W (n0 + 1) 3 (.int .i64 x.f0) ∧ Boxed W (n0 + 2) 23 (.int .i64 (ofX x).2.2.2.2) ∧ Below n0 w W
set_option maxHeartbeats 4000000 in
set_option maxRecDepth 100000 in
theorem rowAll_is (s : ByteArray) (hs : s.size ≤ 1000000000) (w : World) (hG : GT w) :
    CallsIn Fence.wide 5 Tryd.prog 45 #[.string s] w fun e W' => ∃ v, e = .returned (.tuple #[v, .int .i64 (rowsL 1 [] (splitB s.data.toList)).2.1, .int .i64 (rowsL 1 [] (splitB s.data.toList)).2.2]) ∧ Kd.R k44 44 W' w.heap.size (fun _ => True) v (rowsL 1 [] (splitB s.data.toList)).1 ∧ Below w.heap.size w W' := by
  have mixed : Tryd.prog.follows .mixedOrders = true := by kernel_rfl
  refine callsIn_of_wp_marks Tryd.func45 rfl trivial ?_ rfl
  simp only [Tryd.ntmps45, List.size_toArray, List.length_cons, List.length_nil, Nat.reduceAdd, Nat.reduceSub, Array.replicate_succ, Array.replicate_zero, List.push_toArray, List.append_toArray, List.nil_append, List.cons_append]
  refine wpIn_wide.2 ?_
  go_wp2
  go_step3
  go_wp2
  go_step3
  go_wp2_with (first | (go_at_call 38; (with_reducible refine (each_call s _).mono ?_); rintro e W1 ⟨rfl, rfl⟩))
  have b2 := (((((Boxed.new w 34 (.slice none 0 0)).alloc (.cells #[.int .i64 0] 3)).alloc (.cells #[.int .i64 0] 23)).alloc (.cells #[.slice none 0 0] 34)).alloc (.cells #[.string s] 9))
  have b3 := ((((Boxed.new (w.alloc (.cells #[.slice none 0 0] 34)) 3 (.int .i64 0)).alloc (.cells #[.int .i64 0] 23)).alloc (.cells #[.slice none 0 0] 34)).alloc (.cells #[.string s] 9))
  have b4 := (((Boxed.new ((w.alloc (.cells #[.slice none 0 0] 34)).alloc (.cells #[.int .i64 0] 3)) 23 (.int .i64 0)).alloc (.cells #[.slice none 0 0] 34)).alloc (.cells #[.string s] 9))
  have b5 := ((Boxed.new (((w.alloc (.cells #[.slice none 0 0] 34)).alloc (.cells #[.int .i64 0] 3)).alloc (.cells #[.int .i64 0] 23)) 34 (.slice none 0 0)).alloc (.cells #[.string s] 9))
  have bX := Boxed.new ((((w.alloc (.cells #[.slice none 0 0] 34)).alloc (.cells #[.int .i64 0] 3)).alloc (.cells #[.int .i64 0] 23)).alloc (.cells #[.slice none 0 0] 34)) 9 (.string s)
  simp only [World.size_alloc] at b3 b4 b5 bX
  have hB1 : Below w.heap.size w (((((w.alloc (.cells #[.slice none 0 0] 34)).alloc (.cells #[.int .i64 0] 3)).alloc (.cells #[.int .i64 0] 23)).alloc (.cells #[.slice none 0 0] 34)).alloc (.cells #[.string s] 9)) := below_alloc (below_alloc (below_alloc (below_alloc (below_alloc (Below.refl _ _) _) _) _) _) _
  have hsz : (((((w.alloc (.cells #[.slice none 0 0] 34)).alloc (.cells #[.int .i64 0] 3)).alloc (.cells #[.int .i64 0] 23)).alloc (.cells #[.slice none 0 0] 34)).alloc (.cells #[.string s] 9)).heap.size = w.heap.size + 5 := by simp
  obtain ⟨W0, hW0⟩ : ∃ W0, (((((w.alloc (.cells #[.slice none 0 0] 34)).alloc (.cells #[.int .i64 0] 3)).alloc (.cells #[.int .i64 0] 23)).alloc (.cells #[.slice none 0 0] 34)).alloc (.cells #[.string s] 9)) = W0 := ⟨_, rfl⟩
  rw [hW0] at b2 b3 b4 b5 bX hB1 hsz ⊢
  clear hW0
  refine (wpIn_wide (n := 5)).1 ?_
  refine range_own (Bx := w.heap.size + 4) (by omega) rfl (by omega) (gf := 73) (lb := #[.pointer (some ⟨w.heap.size + 4, 0, none⟩)]) rfl trivial (enters_of Tryd.func73 (by kernel_rfl) rfl)
    (each_stops2 4 (by omega) (w.heap.size + 4) w.heap.size s hs W0 w hG (Nat.le_refl _) hB1 (by omega) (by omega) bX)
    (fun h k => ⟨h.1.trans k.1, k.2.trans h.2⟩) (fun W l o o' hl ho hc hw => ⟨(Below.refl _ W).grown (grownBy_putObj' W l o') (by have := (Array.getElem?_eq_some_iff.1 ho).1; omega) (fun k e => by cases e; omega), World.putObj_heap_other (by omega)⟩) (Below.refl _ _) (fun _ => rfl)
    (fun pre W => InvR w.heap.size w W0 (pre.map Subtype.val) W)
    (fun c pre W => InvX w.heap.size w c (pre.map Subtype.val) W)
    (fun q => (AbX.and (AbX.and (AbX.and (boxed_ab _ _ _ _ (fun _ => .slice none 0 0) (by omega)) (AbX.and (boxed_ab _ _ _ _ (fun _ => .int .i64 0) (by omega)) (boxed_ab _ _ _ _ (fun _ => .int .i64 0) (by omega)))) (AbX.and (coR_ab _ _ _ _ _ (Nat.le_refl _) (by omega) (by omega) (by omega) _ (by omega)) (abX_size _ _ _))) (abX_pure _ _ (fun pre : List S56 => ∀ x ∈ pre, (ofX x).2.2.2.2 = 0)) : AbX (w.heap.size + 4) W0.heap.size (InvR w.heap.size w W0)) (q.map Subtype.val))
    (fun c s' W W' row hh hg hr => by
      obtain ⟨rfl, p, x, e1, e2, e3, e4, e5, e6, e7⟩ := hh
      exact ⟨rfl, p, x, e1, e2, e3, boxed_ab (β := Unit) _ W0.heap.size _ _ (fun _ => .slice none 0 0) (by omega) () W W' row e4 hg hr, boxed_ab (β := Unit) _ W0.heap.size _ _ (fun _ => .int .i64 x.f0) (by omega) () W W' row e5 hg hr,
        boxed_ab (β := Unit) _ W0.heap.size _ _ (fun _ => .int .i64 (ofX x).2.2.2.2) (by omega) () W W' row e6 hg hr, abX_below (β := Unit) (Nat.le_refl _) (by omega) (by omega) () W W' row e7 hg hr⟩)
    ⟨⟨⟨b2, b3, b4⟩, ⟨⟨_, b5, Kd.R_nil _ _ _ _ _⟩, hB1⟩, Nat.le_refl _⟩, by simp⟩
    (fun x a' W => ∃ Bv, w.heap.size + 4 < Bv ∧ W.heap[Bv]? = some (.cells (lineC x.1) 56 (0, 0)) ∧ a' = { tmps := #[.string s, undef, .pointer (some ⟨w.heap.size, 0, none⟩), .pointer (some ⟨w.heap.size + 1, 0, none⟩), .pointer (some ⟨w.heap.size + 2, 0, none⟩), .pointer (some ⟨w.heap.size + 3, 0, none⟩), .pointer (some ⟨Bv, 0, none⟩), undef, undef, undef, .string s, .func (.func 73) #[] #[.pointer (some ⟨w.heap.size + 4, 0, none⟩)], lineV x.1, undef, undef, undef, undef, undef, undef, undef, undef, undef, undef, undef, undef, undef, undef, undef, undef, undef, undef, undef, undef], defers := [] })
    (fun x a' s' W W' row hs hg hr => by
      obtain ⟨Bv, q1, q2, q3⟩ := hs
      exact ⟨Bv, q1, abX_block (β := Unit) (b := Bv) (Bx := w.heap.size + 4) (B := W0.heap.size) (fun _ => .cells (lineC x.1) 56 (0, 0)) (fun _ => rfl) (by omega) () W W' row q2 hg hr, q3⟩)
    ?assign ?body ?done ?stop
  case assign =>
    intro l pre x W K hi hK
    unfold lineV at hK ⊢
    gi_wp2
    obtain ⟨⟨⟨i1, i2, i3⟩, i5, i6⟩, i4⟩ := hi
    exact hK _ _ ((KeepsOthers.alloc _ _).from _) ⟨(Below.refl _ W).alloc (by omega) _, (World.grownBy_alloc W _ none).block (w.heap.size + 4) (by omega) (by simp)⟩
      ⟨⟨⟨i1.alloc _, i2.alloc _, i3.alloc _⟩, (coR_ab _ _ _ _ _ (Nat.le_refl _) (by omega) (by omega) (by omega) W0.heap.size (by omega)).alloc _ i5, by simp; omega⟩, i4⟩ ⟨W.heap.size, by omega, World.alloc_heap_new W _, rfl⟩
  case body =>
    rintro l pre ⟨x, hm⟩ a' W hl ⟨r, hr⟩ ⟨⟨⟨i1, i2, i3⟩, ⟨⟨v, hv, hO⟩, hBel⟩, i6⟩, i4⟩ ⟨Bv, hBv, hcv, rfl⟩ hlen
    have hOf := of_line s hs x hm
    obtain ⟨⟨r1, r2, r3, r4, r5⟩, ho⟩ : ∃ o, ofX x = o := ⟨_, rfl⟩
    rw [ho] at hOf
    have C := row_Of.calls x.f0 x.f1 x.f2 x.f3 r1 r2 r3 r4 r5 W (gt_same hG (Nat.le_refl _) hBel) hOf
    dsimp only at hcv
    have c0 : W.cell? ⟨Bv, 0, none⟩ = some (.int .i64 x.f0) := by simp [World.cell?, hcv, lineC]
    have c1 : W.cell? ⟨Bv, 1, none⟩ = some (.string x.f1) := by simp [World.cell?, hcv, lineC]
    have c2 : W.cell? ⟨Bv, 2, none⟩ = some (.int .u8 x.f2) := by simp [World.cell?, hcv, lineC]
    have c3 : W.cell? ⟨Bv, 3, none⟩ = some (.int .i64 x.f3) := by simp [World.cell?, hcv, lineC]
    dsimp only [lineV]
    have hBv' : Bv < W.heap.size := (Array.getElem?_eq_some_iff.1 hcv).1
    have hsn : ∀ f : S56 → Prop, (∀ y ∈ pre.map Subtype.val, f y) → f x → ∀ y ∈ (pre ++ [(⟨x, hm⟩ : LineIn s)]).map Subtype.val, f y := by
      intro f h1 h2 y hy
      rw [List.map_append] at hy
      rcases List.mem_append.1 hy with h | h
      · exact h1 y h
      · simp at h; rw [h]; exact h2
    by_cases z : r5 = 0
    · have z1 : (r5 != 0) = false := by simp [z]
      subst z
      cases r4 with
      | false =>
        gi_wp2_with (first | (refine ⟨trivial, ?_⟩; gi_at_call 43; refine (callsIn_round C).mono ?_; rintro e W1 ⟨rfl, hb1⟩; have k1 := (i1.kept (grown_below hb1 none) (by simp)).alloc (.cells #[.string r1, .int .u64 r2, .int .u64 r3] 44); have k2 := (i2.kept (grown_below hb1 none) (by simp)).alloc (.cells #[.string r1, .int .u64 r2, .int .u64 r3] 44); have k3 := (i3.kept (grown_below hb1 none) (by simp)).alloc (.cells #[.string r1, .int .u64 r2, .int .u64 r3] 44); have kv := (hv.kept (grown_below hb1 none) (by simp)).alloc (.cells #[.string r1, .int .u64 r2, .int .u64 r3] 44); have k1c := k1.cell; have k1f := k1.frozen; have k2c := k2.cell; have k2f := k2.frozen; have k3c := k3.cell; have k3f := k3.frozen; have kvc := kv.cell; have kvf := kv.frozen; have d0 : (W1.alloc (.cells #[.string r1, .int .u64 r2, .int .u64 r3] 44)).cell? ⟨Bv, 0, none⟩ = some (.int .i64 x.f0) := (((below_alloc hb1 _).cell (p := ⟨Bv, 0, none⟩) hBv').trans c0); have hB2 := below_alloc hb1 (.cells #[.string r1, .int .u64 r2, .int .u64 r3] 44)))
        refine ⟨((KeepsOthers.of_grownBy (grown_below hb1 none) (fun j o ej => by cases ej)).trans (KeepsOthers.alloc _ _)).from _, ⟨hB2.mono (by have := hBel.size; omega), hB2.block _ (by omega)⟩, ⟨⟨⟨k1, k2, k3⟩, ?_, by simp; have := hb1.size; omega⟩, hsn (fun y => (ofX y).2.2.2.2 = 0) i4 (by rw [ho])⟩⟩
        refine ⟨⟨v, kv, ?_⟩, hBel.trans (hB2.mono (by have := hBel.size; omega))⟩
        rw [List.map_append, List.map_cons, List.map_nil, accX_snoc, if_neg (by rw [ho]; exact Bool.false_ne_true)]
        exact Kd.R_alloc (Kd.R_below hO hb1) _
      | true =>
        obtain ⟨i0, hi, hz0, hz1, hz2⟩ := info_parts info44
        gi_wp2_with (first | (refine ⟨trivial, ?_⟩; gi_at_call 43; refine (callsIn_round C).mono ?_; rintro e W1 ⟨rfl, hb1⟩; have k1 := (i1.kept (grown_below hb1 none) (by simp)).alloc (.cells #[.string r1, .int .u64 r2, .int .u64 r3] 44); have k2 := (i2.kept (grown_below hb1 none) (by simp)).alloc (.cells #[.string r1, .int .u64 r2, .int .u64 r3] 44); have k3 := (i3.kept (grown_below hb1 none) (by simp)).alloc (.cells #[.string r1, .int .u64 r2, .int .u64 r3] 44); have kv := (hv.kept (grown_below hb1 none) (by simp)).alloc (.cells #[.string r1, .int .u64 r2, .int .u64 r3] 44); have k1c := k1.cell; have k1f := k1.frozen; have k2c := k2.cell; have k2f := k2.frozen; have k3c := k3.cell; have k3f := k3.frozen; have kvc := kv.cell; have kvf := kv.frozen; have d0 : (W1.alloc (.cells #[.string r1, .int .u64 r2, .int .u64 r3] 44)).cell? ⟨Bv, 0, none⟩ = some (.int .i64 x.f0) := (((below_alloc hb1 _).cell (p := ⟨Bv, 0, none⟩) hBv').trans c0); have hB2 := below_alloc hb1 (.cells #[.string r1, .int .u64 r2, .int .u64 r3] 44)) | (gi_at_builtin; apply Classical.byContradiction; intro hNOT))
        apply hNOT
        clear hNOT
        have hO3 := Kd.R_alloc (Kd.R_alloc (Kd.R_below hO hb1) (.cells #[.string r1, .int .u64 r2, .int .u64 r3] 44)) (.cells #[.string r1, .int .u64 r2, .int .u64 r3] 44)
        obtain ⟨h00, inner, hown, hreps⟩ := hO3
        have hcn := cells_new (W1.alloc (.cells #[.string r1, .int .u64 r2, .int .u64 r3] 44)) #[.string r1, .int .u64 r2, .int .u64 r3] 44
        simp only [World.size_alloc] at hcn
        have hal := accX_len (pre.map Subtype.val)
        rw [List.length_map] at hal
        have hlen2 : (allL s).length ≤ 1000000001 := by
          have e1 := linesL_len (splitB s.data.toList) 1
          have e2 := splitB_len s.data.toList
          have e3 : s.data.toList.length = s.size := by simp
          unfold allL
          omega
        refine wpListIn_append_own_at _ rfl _ _ 34 rfl w.heap.size 44 i0 _ 3 32 Tryd.underlying34 hi hz0 hz1 hz2 rfl (by decide) _ _ _ rfl hown ⟨W1.heap.size + 1, 0, none⟩ 1 1 _ rfl rfl hcn (by simp [Value.oneCell']) (by unfold maxLen; omega) (by omega) (by simp; have := hb1.size; omega) ?_
        intro v' w1 hown' hgrow _ hat
        obtain ⟨g', cap', rfl⟩ := ownsRow_succ hown'
        have hO3 := Kd.R_alloc (Kd.R_alloc (Kd.R_below hO hb1) (.cells #[.string r1, .int .u64 r2, .int .u64 r3] 44)) (.cells #[.string r1, .int .u64 r2, .int .u64 r3] 44)
        have kv3 := kv.alloc (.cells #[.string r1, .int .u64 r2, .int .u64 r3] 44)
        have k13 := k1.alloc (.cells #[.string r1, .int .u64 r2, .int .u64 r3] 44)
        have k23 := k2.alloc (.cells #[.string r1, .int .u64 r2, .int .u64 r3] 44)
        have k33 := k3.alloc (.cells #[.string r1, .int .u64 r2, .int .u64 r3] 44)
        have hv1' := kv3.kept hgrow (Kd.R_ne hO3 kv3 (by decide))
        have h11' := k13.kept hgrow (Kd.R_ne hO3 k13 (by decide))
        have h21' := k23.kept hgrow (Kd.R_ne hO3 k23 (by decide))
        have h31' := k33.kept hgrow (Kd.R_ne hO3 k33 (by decide))
        have hc1 := hv1'.cell
        have hfr1 := hv1'.frozen
        have hO1 : Kd.R k44 44 w1 w.heap.size (fun k => k ≠ w.heap.size + 4) _ (accX (pre.map Subtype.val) ++ [(⟨r1, ⟨r2, r3⟩⟩ : S44)]) :=
          Kd.R_appended h00 hreps (k44_mkM _ w.heap.size (fun _ => False) (⟨r1, ⟨r2, r3⟩⟩ : S44)) (fun _ hk => hk.elim) (fun k hk => by simp at hk; have := hb1.size; omega) hown' hgrow (hat.imp_right fun h => ⟨_, h, Nat.le_refl _⟩)
        have hBv2 : some (w.heap.size + 3) ≠ (Value.slice (some ⟨g', 0, none⟩) ((accX (pre.map Subtype.val)).length + 1) cap').ownBlock := Kd.R_ne hO1 hv1' (by decide)
        have hty := Kd.R_typed hO3
        have hbs := Kd.R_base hO
        have hbx : some (w.heap.size + 4) ≠ v.ownBlock := fun e => hO.1 (w.heap.size + 4) e.symm rfl
        have hsz1 := hgrow.size
        have hsz2 := hb1.size
        have hB3 : Below w.heap.size W1 (w1.setCell ⟨w.heap.size + 3, 0, none⟩ (.slice (some ⟨g', 0, none⟩) ((accX (pre.map Subtype.val)).length + 1) cap')) :=
          (((((Below.refl w.heap.size W1).alloc (by omega) _).alloc (by simp; omega) _).grown hgrow (by simp; omega) (fun j ej => hbs j ej)).setCell (p := ⟨w.heap.size + 3, 0, none⟩) (by simp) _)
        have hB4 := (hb1.mono (show w.heap.size ≤ W.heap.size by omega)).trans hB3
        gi_wp2
        refine ⟨?_, ⟨hB4, ?_⟩, ⟨⟨⟨?_, ?_, ?_⟩, ⟨⟨_, hv1'.set _, ?_⟩, hBel.trans hB4⟩, ?_⟩, hsn (fun y => (ofX y).2.2.2.2 = 0) i4 (by rw [ho])⟩⟩
        · refine (((((KeepsOthers.of_grownBy (grown_below hb1 none) (fun j o ej => by cases ej)).trans (KeepsOthers.alloc W1 _)).trans (KeepsOthers.alloc _ _)).trans (KeepsOthers.of_grownBy hgrow fun j o ej hj => ?_)).trans (KeepsOthers.setCell _ _ _)).from _
          obtain ⟨cells, hk⟩ := hty j ej
          have hj' := hk.symm.trans hj
          cases hj'
          rfl
        · rw [Below.heap_setCell _ _ _ _ (by simp), hgrow.block (w.heap.size + 4) (by simp; omega) hbx]
          exact ((World.grownBy_alloc _ _ none).block (w.heap.size + 4) (by simp; omega) (by simp)).trans (((World.grownBy_alloc W1 _ none).block (w.heap.size + 4) (by omega) (by simp)).trans (hb1.block _ (by omega)))
        · exact h11'.other (by omega) _
        · exact h21'.other (by omega) _
        · exact h31'.other (by omega) _
        · have e9 : accX ((pre ++ [(⟨x, hm⟩ : LineIn s)]).map Subtype.val) = accX (pre.map Subtype.val) ++ [(⟨r1, ⟨r2, r3⟩⟩ : S44)] := by
            rw [List.map_append, List.map_cons, List.map_nil, accX_snoc, if_pos (by rw [ho])]
            unfold rowX
            rw [ho]
          show Kd.R k44 44 _ _ _ _ (accX ((pre ++ [(⟨x, hm⟩ : LineIn s)]).map Subtype.val))
          rw [e9]
          exact Kd.R_grown2 hO1 rfl (grownBy_setCell' w1 (w.heap.size + 3) _) (fun k e => by cases e; exact hBv2)
        · simp; simp at hsz1; omega
    · have z1 : (r5 != 0) = true := by simp [z]
      gi_wp2_with (first | (refine ⟨trivial, ?_⟩; gi_at_call 43; refine (callsIn_round C).mono ?_; rintro e W1 ⟨rfl, hb1⟩; have k1 := (i1.kept (grown_below hb1 none) (by simp)).alloc (.cells #[.string r1, .int .u64 r2, .int .u64 r3] 44); have k2 := (i2.kept (grown_below hb1 none) (by simp)).alloc (.cells #[.string r1, .int .u64 r2, .int .u64 r3] 44); have k3 := (i3.kept (grown_below hb1 none) (by simp)).alloc (.cells #[.string r1, .int .u64 r2, .int .u64 r3] 44); have kv := (hv.kept (grown_below hb1 none) (by simp)).alloc (.cells #[.string r1, .int .u64 r2, .int .u64 r3] 44); have k1c := k1.cell; have k1f := k1.frozen; have k2c := k2.cell; have k2f := k2.frozen; have k3c := k3.cell; have k3f := k3.frozen; have kvc := kv.cell; have kvf := kv.frozen; have d0 : (W1.alloc (.cells #[.string r1, .int .u64 r2, .int .u64 r3] 44)).cell? ⟨Bv, 0, none⟩ = some (.int .i64 x.f0) := (((below_alloc hb1 _).cell (p := ⟨Bv, 0, none⟩) hBv').trans c0); have hB2 := below_alloc hb1 (.cells #[.string r1, .int .u64 r2, .int .u64 r3] 44)))
      gi_region_with_o fail
      all_goals gi_wp2
      all_goals exact ⟨((((((KeepsOthers.of_grownBy (grown_below hb1 none) (fun j o ej => by cases ej)).trans (KeepsOthers.alloc W1 _)).trans (KeepsOthers.setCell _ _ _)).trans (KeepsOthers.setCell _ _ _)).trans (KeepsOthers.setCell _ _ _)).trans (KeepsOthers.drew _)).from _, rfl, pre.map Subtype.val, x, by simp, i4, by rw [ho]; exact z,
        (((k1.set _).other (by omega) _).other (by omega) _), (((k2.other (by omega) _).set _).other (by omega) _), by rw [ho]; exact (((k3.other (by omega) _).other (by omega) _).set _),
        hBel.trans ((hB2.mono (by have := hBel.size; omega)).trans (((((Below.refl w.heap.size _).setCell (p := ⟨w.heap.size, 0, none⟩) (Nat.le_refl _) _).setCell (p := ⟨w.heap.size + 1, 0, none⟩) (by simp) _).setCell (p := ⟨w.heap.size + 2, 0, none⟩) (by simp) _).drew))⟩
  case done =>
    rintro D ys W hD hys ⟨⟨⟨i1, i2, i3⟩, ⟨⟨v, hv, hO⟩, hBel⟩, i6⟩, i4⟩ hK
    rw [hys] at hO i4
    have hres := rowsL_ok (splitB s.data.toList) 1 [] i4
    rw [List.nil_append] at hres
    obtain ⟨Ao, co, rfl⟩ := Kd.R_slice hO
    have j1 := i1.cell
    have j2 := i1.frozen
    have j3 := i2.cell
    have j4 := i2.frozen
    have j5 := i3.cell
    have j6 := i3.frozen
    have j7 := hv.cell
    have j8 := hv.frozen
    go_wp2
    rw [Exit.noGoto_ret]
    have k1 := (((i1.set (.slice Ao (accX (allL s)).length co)).other (B' := w.heap.size + 1) (by omega) (.int .i64 0)).other (B' := w.heap.size + 2) (by omega) (.int .i64 0))
    have k2 := (((i2.other (B' := w.heap.size) (by omega) (.slice Ao (accX (allL s)).length co)).set (.int .i64 0)).other (B' := w.heap.size + 2) (by omega) (.int .i64 0))
    have k3 := (((i3.other (B' := w.heap.size) (by omega) (.slice Ao (accX (allL s)).length co)).other (B' := w.heap.size + 1) (by omega) (.int .i64 0)).set (.int .i64 0))
    have r1 := Kd.R_grown2 hO rfl (grownBy_setCell' W w.heap.size (.slice Ao (accX (allL s)).length co)) (fun k e => by cases e; exact Kd.R_ne hO i1 (by decide))
    have m2 := (i2.other (B' := w.heap.size) (by omega) (.slice Ao (accX (allL s)).length co))
    have r2 := Kd.R_grown2 r1 rfl (grownBy_setCell' _ (w.heap.size + 1) (.int .i64 0)) (fun k e => by cases e; exact Kd.R_ne r1 m2 (by decide))
    have m3 := (i3.other (B' := w.heap.size) (by omega) (.slice Ao (accX (allL s)).length co)).other (B' := w.heap.size + 1) (by omega) (.int .i64 0)
    have r3 := Kd.R_grown2 r2 rfl (grownBy_setCell' _ (w.heap.size + 2) (.int .i64 0)) (fun k e => by cases e; exact Kd.R_ne r2 m3 (by decide))
    have hb := (((Below.refl w.heap.size W).setCell (p := ⟨w.heap.size, 0, none⟩) (Nat.le_refl _) (.slice Ao (accX (allL s)).length co)).setCell (p := ⟨w.heap.size + 1, 0, none⟩) (by simp) (.int .i64 0)).setCell (p := ⟨w.heap.size + 2, 0, none⟩) (by simp) (.int .i64 0)
    have hK2 : (((W.setCell ⟨w.heap.size, 0, none⟩ (.slice Ao (accX (allL s)).length co)).setCell ⟨w.heap.size + 1, 0, none⟩ (.int .i64 0)).setCell ⟨w.heap.size + 2, 0, none⟩ (.int .i64 0)).heap[D]? = some (.deferred (some [])) := by
      rw [Below.heap_setCell _ _ _ _ (by simp; omega), Below.heap_setCell _ _ _ _ (by simp; omega), Below.heap_setCell _ _ _ _ (by simp; omega)]; exact hK
    have q1 := k1.kept (grownBy_putObj' _ D (.deferred none)) (by simp; omega)
    have q2 := k2.kept (grownBy_putObj' _ D (.deferred none)) (by simp; omega)
    have q3 := k3.kept (grownBy_putObj' _ D (.deferred none)) (by simp; omega)
    refine ⟨by simp, .inl ⟨_, _, rfl, run_takeDeferred hK2, ?_⟩⟩
    refine ⟨_, res3 _ _ _ _ _ rfl rfl rfl q1 q2 q3, ?_⟩
    rw [hres]
    refine ⟨_, rfl, ?_, ?_⟩
    · refine Kd.R_mono (Kd.R_grown2 r3 rfl (grownBy_putObj' _ D _) fun k e e' => ?_) (fun _ _ => trivial)
      cases e
      obtain ⟨cells, hk⟩ := Kd.R_typed r3 D e'.symm
      rw [hK2] at hk
      cases hk
    · exact (hBel.trans hb).trans ((Below.refl _ _).grown (grownBy_putObj' _ D _) (by have := i1.lt; simp; omega) (fun k e => by cases e; omega))
  case stop =>
    rintro D c pre W hD hp ⟨rfl, p, x, e1, e2, e3, e4, e5, e6, e7⟩ hK
    have hres : rowsL 1 [] (splitB s.data.toList) = ([], x.f0, (ofX x).2.2.2.2) := by
      obtain ⟨r, hr⟩ := hp
      refine rowsL_bad (splitB s.data.toList) 1 [] p x r ?_ e2 e3
      show allL s = _
      rw [← hr, e1, List.append_assoc]
      rfl
    refine wpIn_wide.2 ?_
    go_wp2
    rw [Exit.noGoto_ret]
    have q1 := e4.kept (grownBy_putObj' _ D (.deferred none)) (by simp; omega)
    have q2 := e5.kept (grownBy_putObj' _ D (.deferred none)) (by simp; omega)
    have q3 := e6.kept (grownBy_putObj' _ D (.deferred none)) (by simp; omega)
    refine ⟨by simp, .inl ⟨_, _, rfl, run_takeDeferred hK, ?_⟩⟩
    refine ⟨_, res3 _ _ _ _ _ rfl rfl rfl q1 q2 q3, ?_⟩
    rw [hres]
    exact ⟨_, rfl, Kd.R_nil _ _ _ _ _, e7.trans ((Below.refl _ W).grown (grownBy_putObj' W D _) (by have := e4.lt; omega) (fun k e => by cases e; omega))⟩
theorem row_All.calls (a0 : ByteArray) (r1 : List S44) (r2 r3 : Int) (w : World) (hG : GT w) (h : row_All.f a0 = some (r1, r2, r3)) :
    Calls Tryd.prog 45 #[.string a0] w fun e w' => ∃ v0_ : Value, e = .returned (.tuple #[v0_, .int .i64 r2, .int .i64 r3]) ∧ Kd.R k44 44 w' w.heap.size (fun _ => True) v0_ r1 ∧ Below w.heap.size w w' := by
  unfold row_All.f at h
  split at h
  · rename_i hs
    have e := Option.some.inj h
    have := callsIn_wide.1 (rowAll_is a0 hs w hG)
    rw [e] at this
    exact this
  · cases h
end Go.Proofs.YtpkjpiphjdpegaaDoor.P
namespace Go.Proofs.YtpkjpiphjdpegaaDoor.P
open Go.RowKit Go.Proofs.YtpkjpiphjdpegaaDoorW.PrintWords Go.Proofs.YtpkjpiphjdpegaaDoorW.PrintLast Go.Proofs.YtpkjpiphjdpegaaDoorW.PrintMore
attribute [local go_sem] max2_int min2_int max_two min_two max_three min_three max_four min_four
set_option linter.unusedVariables false
set_option linter.unusedSimpArgs false
mutual
def paymasterlaw10_RowFirst.l0 : Nat → ByteArray → List ByteArray → List (S44) → Int → Int → List (S56) → Int → Option (Bool)
  | 0, _, _, _, _, _, _, _ => none
  | k + 1, x0, x3, x4, x5, x6, x7, x8 => if x8 < (x7.length : Int) then (if 0 ≤ x8 then ((row_Of.f ((rd_T56 x7 x8).f0) ((rd_T56 x7 x8).f1) ((rd_T56 x7 x8).f2) ((rd_T56 x7 x8).f3)).bind fun bt910 => (if bt910.2.2.2.2 = 0 then (paymasterlaw10_RowFirst.j1 k x0 x3 x4 x5 x6 x7 x8 bt910.2.2.2.1 bt910.2.2.2.2 false bt910.1 bt910.2.1 bt910.2.2.1) else (paymasterlaw10_RowFirst.j1 k x0 x3 x4 x5 x6 x7 x8 bt910.2.2.2.1 bt910.2.2.2.2 (x5 == 0) bt910.1 bt910.2.1 bt910.2.2.1))) else (none)) else ((row_All.f x0).bind fun bt963 => (if bt963.2.1 = x5 then (if bt963.2.2 = x6 then (if bt963.2.2 = 0 then (paymasterlaw10_RowFirst.j3 k x3 x4 false) else (paymasterlaw10_RowFirst.j3 k x3 x4 ((bt963.1.length : Int) != 0))) else (none)) else (none)))
def paymasterlaw10_RowFirst.j1 : Nat → ByteArray → List ByteArray → List (S44) → Int → Int → List (S56) → Int → Bool → Int → Bool → ByteArray → Int → Int → Option (Bool)
  | 0, _, _, _, _, _, _, _, _, _, _, _, _, _ => none
  | k + 1, x0, x3, x4, x5, x6, x7, x8, x10, x11, x47, x916000, x916001, x916002 => if x47 = true then (paymasterlaw10_RowFirst.j2 k x0 x3 x4 (wrap64 (x8 + 1)) x11 x7 x8 x10 x11 x916000 x916001 x916002) else (paymasterlaw10_RowFirst.j2 k x0 x3 x4 x5 x6 x7 x8 x10 x11 x916000 x916001 x916002)
def paymasterlaw10_RowFirst.j2 : Nat → ByteArray → List ByteArray → List (S44) → Int → Int → List (S56) → Int → Bool → Int → ByteArray → Int → Int → Option (Bool)
  | 0, _, _, _, _, _, _, _, _, _, _, _, _ => none
  | k + 1, x0, x3, x4, x5, x6, x7, x8, x10, x11, x916000, x916001, x916002 => if x11 = 0 then (if 0 ≤ x8 then (if x8 < (x7.length : Int) then (if x3.length < 8796093022208 then ((some (x3 ++ [(rd_T56 x7 x8).f1] : List ByteArray)).bind fun y954 => (if x10 = true then (if x4.length < 4398046511104 then (paymasterlaw10_RowFirst.l0 k x0 y954 (x4 ++ [(⟨x916000, (⟨x916001, x916002⟩ : S42)⟩ : S44)]) x5 x6 x7 (wrap64 (x8 + 1))) else (none)) else (paymasterlaw10_RowFirst.l0 k x0 y954 x4 x5 x6 x7 (wrap64 (x8 + 1))))) else (none)) else (none)) else (none)) else (if x10 = true then (if x4.length < 4398046511104 then (paymasterlaw10_RowFirst.l0 k x0 x3 (x4 ++ [(⟨x916000, (⟨x916001, x916002⟩ : S42)⟩ : S44)]) x5 x6 x7 (wrap64 (x8 + 1))) else (none)) else (paymasterlaw10_RowFirst.l0 k x0 x3 x4 x5 x6 x7 (wrap64 (x8 + 1))))
def paymasterlaw10_RowFirst.j3 : Nat → List ByteArray → List (S44) → Bool → Option (Bool)
  | 0, _, _, _ => none
  | k + 1, x3, x4, x88 => if x88 = true then (none) else ((lines_Join.f x3).bind fun bt984 => ((row_All.f bt984.1).bind fun bt986 => (if bt984.2 = 0 then (if bt986.2.1 = 0 then (if bt986.2.2 = 0 then ((paymasterref10_Same.f k bt986.1 x4).bind fun t991 => (some t991)) else (none)) else (none)) else (none))))
end
def paymasterlaw10_RowFirst.f (k : Nat) (a0 : ByteArray) : Option (Bool) := (paymasterlaw10_awake.f k).bind fun t869 => (if t869 = true then (if (a0.size : Int) > 2000 then (some true) else ((lines_All.f a0).bind fun t876 => (paymasterlaw10_RowFirst.l0 k a0 ([] : List ByteArray) ([] : List (S44)) 0 0 t876 0))) else (none))
set_option maxHeartbeats 8000000 in
set_option maxRecDepth 100000 in
theorem paymasterlaw10_RowFirst.calls (k : Nat) (a0 : ByteArray) (r : Bool) (w : World) (hG : GT w) (h : paymasterlaw10_RowFirst.f k a0 = some r) :
    Calls Tryd.prog 15 #[.string a0] w fun e w' => e = .returned (.bool r) ∧ Below w.heap.size w w' := by
  have hu56 := Tryd.underlying56
  have hu44 := Tryd.underlying44
  have HB := Aside0.mk (Below.refl w.heap.size w)
  have H : ((paymasterlaw10_awake.f k).bind fun t869 => (if t869 = true then (if (a0.size : Int) > 2000 then (some true) else ((lines_All.f a0).bind fun t876 => (paymasterlaw10_RowFirst.l0 k a0 ([] : List ByteArray) ([] : List (S44)) 0 0 t876 0))) else (none))) = some r := h
  clear h
  replace H := Option.bind_eq_some_iff.mp H
  obtain ⟨t869, A20, H⟩ := H
  replace H : (if t869 = true then (if (a0.size : Int) > 2000 then (some true) else ((lines_All.f a0).bind fun t876 => (paymasterlaw10_RowFirst.l0 k a0 ([] : List ByteArray) ([] : List (S44)) 0 0 t876 0))) else (none)) = some r := H
  have A2 := Aside0.mk A20
  clear A20
  by_cases c3 : t869 = true
  · subst c3
    have H1 : (if (a0.size : Int) > 2000 then (some true) else ((lines_All.f a0).bind fun t876 => (paymasterlaw10_RowFirst.l0 k a0 ([] : List ByteArray) ([] : List (S44)) 0 0 t876 0))) = some r := by rw [if_pos rfl] at H; exact H
    clear H
    have H := H1
    clear H1
    by_cases c4 : (a0.size : Int) > 2000
    · rw [if_pos c4] at H
      have c4b0 : decide (2000 < (a0.size : Int)) = true := decide_eq_true c4
      have c4b1 : decide (2000 < a0.size) = true := decide_eq_true (by omega)
      clear c4
      obtain rfl := Option.some.inj H
      go_enter Tryd.func15, Tryd.ntmps15
      go_wp2_with (first | ((with_reducible refine gate_callee (f := 25) rfl ?_); refine goesL_ (some 20) rfl rfl Tryd.func25 (by kernel_rfl) rfl #[] rfl (by (try simp only [List.map_toArray, List.map_cons, List.map_nil]); first | done | rfl | (simp only [List.length_drop, List.length_take]; rfl)) ?_; (with_reducible refine (paymasterlaw10_awake.calls k  true _ ?side1 A2.out).mono ?_); (case side1 => exact gt_below hG (by repeat (first | (with_reducible first | exact HB.out | apply below_alloc | apply pw_below_drewN | apply below_drew1) | exact HB.out))); rintro e w5 ⟨rfl, hb⟩; refine ⟨_, rfl, ?_⟩; have n0_ := Aside0.mk (below_step (by repeat (first | (with_reducible first | exact HB.out | apply below_alloc | apply pw_below_drewN | apply below_drew1) | exact HB.out)) hb); clear HB; have HB := n0_; clear n0_; (try clear hb); (try clear hb2); (try clear hk); (try clear hi)))
      go_ret
      exact ⟨by first | rfl | (simp [errW_none, errW_some] <;> rfl) | (simp [*, errW_none, errW_some] <;> rfl), by repeat (first | (with_reducible first | exact HB.out | apply below_alloc | apply pw_below_drewN | apply below_drew1) | exact HB.out)⟩
    · rw [if_neg c4] at H
      have c4b0 : decide (2000 < (a0.size : Int)) = false := decide_eq_false c4
      have c4b1 : decide (2000 < a0.size) = false := decide_eq_false (by omega)
      clear c4
      replace H := Option.bind_eq_some_iff.mp H
      obtain ⟨t876, A60, H⟩ := H
      replace H : (paymasterlaw10_RowFirst.l0 k a0 ([] : List ByteArray) ([] : List (S44)) 0 0 t876 0) = some r := H
      have A6 := Aside0.mk A60
      clear A60
      have H' := Aside0.mk H
      clear H
      go_enter Tryd.func15, Tryd.ntmps15
      go_wp2_with (first | ((with_reducible refine gate_callee (f := 25) rfl ?_); refine goesL_ (some 20) rfl rfl Tryd.func25 (by kernel_rfl) rfl #[] rfl (by (try simp only [List.map_toArray, List.map_cons, List.map_nil]); first | done | rfl | (simp only [List.length_drop, List.length_take]; rfl)) ?_; (with_reducible refine (paymasterlaw10_awake.calls k  true _ ?side1 A2.out).mono ?_); (case side1 => exact gt_below hG (by repeat (first | (with_reducible first | exact HB.out | apply below_alloc | apply pw_below_drewN | apply below_drew1) | exact HB.out))); rintro e w7 ⟨rfl, hb⟩; refine ⟨_, rfl, ?_⟩; have n0_ := Aside0.mk (below_step (by repeat (first | (with_reducible first | exact HB.out | apply below_alloc | apply pw_below_drewN | apply below_drew1) | exact HB.out)) hb); clear HB; have HB := n0_; clear n0_; (try clear hb); (try clear hb2); (try clear hk); (try clear hi)) | ((with_reducible refine gate_callee (f := 34) rfl ?_); refine goesL_ (some 26) rfl rfl Tryd.func34 (by kernel_rfl) rfl #[.string a0] rfl (by (try simp only [List.map_toArray, List.map_cons, List.map_nil]); first | done | rfl | (simp only [List.length_drop, List.length_take]; rfl)) ?_; (with_reducible refine (lines_All.calls a0 t876 _ ?side1 A6.out).mono ?_); (case side1 => exact gt_below hG (by repeat (first | (with_reducible first | exact HB.out | apply below_alloc | apply pw_below_drewN | apply below_drew1) | exact HB.out))); rintro e w8 ⟨v877, rfl, ho0, hb⟩; refine ⟨_, rfl, ?_⟩; have n0_ := Aside0.mk (Kd.R_lower ho0 (below_size (by repeat (first | (with_reducible first | exact HB.out | apply below_alloc | apply pw_below_drewN | apply below_drew1) | exact HB.out)))); have n1_ := Aside0.mk (below_step (by repeat (first | (with_reducible first | exact HB.out | apply below_alloc | apply pw_below_drewN | apply below_drew1) | exact HB.out)) hb); clear HB; have HO878 := n0_; have HB := n1_; clear n0_ n1_; (try clear hb); (try clear hb2); (try clear hk); (try clear hi); (try clear ho0)))
      go_loopg [3, 4, 5, 6, 8] k (fun kq v3 v4 v5 v6 v8 w' => ∃ (x3_1 : List ByteArray) (x4_1 : List (S44)) (x5_1 : Int) (x6_1 : Int) (x8_1 : Int), v5 = .int .i64 x5_1 ∧ v6 = .int .i64 x6_1 ∧ v8 = .int .i64 x8_1 ∧ Aside0 (paymasterlaw10_RowFirst.l0 kq a0 x3_1 x4_1 x5_1 x6_1 t876 x8_1 = some r) ∧ Aside0 (kq ≤ k) ∧ Aside0 (Kd.R Kd.string 9 w' w.heap.size (fun _ => True) v3 x3_1) ∧ Aside0 (Kd.R k44 44 w' w.heap.size (fun _ => True) v4 x4_1) ∧ Aside0 (Kd.R k56 56 w' w.heap.size (fun _ => True) v877 t876) ∧ Aside0 (Below w.heap.size w w'))
      case atStart => exact ⟨(([] : List ByteArray)), (([] : List (S44))), (0), (0), (0), (by first | rfl | (simp; done) | (simp [*]; done)), (by first | rfl | (simp; done) | (simp [*]; done)), (by first | rfl | (simp; done) | (simp [*]; done)), H', ⟨Nat.le_refl _⟩, ⟨by first | exact Kd.R_nil _ _ _ _ _ | exact Kd.N_nil _ _ _ _ _ | exact Kd.V_nil _ _ _ _ _ | exact Kd.Q_nil _ _ _ _ _ | exact Kd.S_nil _ _ _ _ _⟩, ⟨by first | exact Kd.R_nil _ _ _ _ _ | exact Kd.N_nil _ _ _ _ _ | exact Kd.V_nil _ _ _ _ _ | exact Kd.Q_nil _ _ _ _ _ | exact Kd.S_nil _ _ _ _ _⟩, ⟨by (with_reducible repeat (first | apply Kd.R_alloc | apply Kd.R_drewN | apply Kd.R_drew)); exact HO878.out⟩, ⟨by repeat (first | (with_reducible first | exact HB.out | apply below_alloc | apply pw_below_drewN | apply below_drew1) | exact HB.out)⟩⟩
      case round =>
        clear H'
        try clear c1
        try clear c2
        try clear p2
        try clear c3
        try clear c4
        try clear c4b0
        try clear c4b1
        obtain ⟨x3_1, x4_1, x5_1, x6_1, x8_1, rfl, rfl, rfl, HA, HK1, HO_3, HO_4, HO_7, HB⟩ := hrel
        cases gk with
        | zero => exact absurd HA.out (by simp [paymasterlaw10_RowFirst.l0])
        | succ k1 =>
          have H := HA.out
          clear HA
          simp only [paymasterlaw10_RowFirst.l0] at H
          by_cases c9 : x8_1 < (t876.length : Int)
          · rw [if_pos c9] at H
            have c9b0 : decide (x8_1 < (t876.length : Int)) = true := decide_eq_true c9
            clear c9
            by_cases c10 : 0 ≤ x8_1
            · rw [if_pos c10] at H
              have c10b0 : decide (0 ≤ x8_1) = true := decide_eq_true c10
              clear c10
              replace H := Option.bind_eq_some_iff.mp H
              obtain ⟨⟨t910, t911, t912, t913, t914⟩, A110, H⟩ := H
              replace H : (if t914 = 0 then (paymasterlaw10_RowFirst.j1 k1 a0 x3_1 x4_1 x5_1 x6_1 t876 x8_1 t913 t914 false t910 t911 t912) else (paymasterlaw10_RowFirst.j1 k1 a0 x3_1 x4_1 x5_1 x6_1 t876 x8_1 t913 t914 (x5_1 == 0) t910 t911 t912)) = some r := H
              have A11 := Aside0.mk A110
              clear A110
              have HC12 := Aside0.mk H
              clear H
              obtain ⟨Ao13, co13, eo13⟩ := Kd.R_slice HO_7.out
              subst eo13
              have p909 : 0 ≤ (x8_1 : Int) := of_decide_eq_true (by first | (with_reducible assumption) | assumption)
              have q909 : x8_1 < (t876.length : Int) := of_decide_eq_true (by first | (with_reducible assumption) | assumption)
              obtain ⟨ad909, e909, hx909_0, hx909_1, hx909_2, hx909_3⟩ := at_T56 (Kd.R_reads' HO_7.out).2.2 x8_1 p909 q909
              cases e909
              replace p909 := eq_true p909
              replace q909 := eq_true q909
              go_upto_region 14 with (first | ((with_reducible refine gate_callee (f := 43) rfl ?_); refine goesL_ (some 38) rfl rfl Tryd.func43 (by kernel_rfl) rfl #[.agg #[.int .i64 ((rd_T56 t876 x8_1).f0), .string ((rd_T56 t876 x8_1).f1), .int .u8 ((rd_T56 t876 x8_1).f2), .int .i64 ((rd_T56 t876 x8_1).f3)]] rfl (by (try simp only [List.map_toArray, List.map_cons, List.map_nil]); first | done | rfl | (simp only [List.length_drop, List.length_take]; rfl)) ?_; (with_reducible refine (row_Of.calls ((rd_T56 t876 x8_1).f0) ((rd_T56 t876 x8_1).f1) ((rd_T56 t876 x8_1).f2) ((rd_T56 t876 x8_1).f3) t910 t911 t912 t913 t914 _ ?side1 A11.out).mono ?_); (case side1 => exact gt_below hG (by repeat (first | (with_reducible first | exact HB.out | apply below_alloc | apply pw_below_drewN | apply below_drew1) | exact HB.out))); rintro e w14 ⟨rfl, hb⟩; refine ⟨_, rfl, ?_⟩; have n0_ := Aside0.mk (Kd.R_below (by (with_reducible repeat (first | apply Kd.R_alloc | apply Kd.R_drewN | apply Kd.R_drew)); exact HO_3.out) hb); have n1_ := Aside0.mk (Kd.R_below (by (with_reducible repeat (first | apply Kd.R_alloc | apply Kd.R_drewN | apply Kd.R_drew)); exact HO_4.out) hb); have n2_ := Aside0.mk (Kd.R_below (by (with_reducible repeat (first | apply Kd.R_alloc | apply Kd.R_drewN | apply Kd.R_drew)); exact HO_7.out) hb); have n3_ := Aside0.mk (below_step (by repeat (first | (with_reducible first | exact HB.out | apply below_alloc | apply pw_below_drewN | apply below_drew1) | exact HB.out)) hb); clear HO_3; clear HO_4; clear HO_7; clear HB; have HO_3 := n0_; have HO_4 := n1_; have HO_7 := n2_; have HB := n3_; clear n0_ n1_ n2_ n3_; (try clear hb); (try clear hb2); (try clear hk); (try clear hi)) | ((with_reducible refine gate_dst (N := 9) rfl ?_); (try (refine gate_guard (by rfl) ?_; dsimp only)); refine box_event ?hg (N := 9) ?hd (cs := #[.string (⟨#[]⟩ : ByteArray), .int .u64 0, .int .u64 0]) (t := 44) ?hr ?_; (case hd => rfl); (case hg => rfl); (case hr => first | (go_simp; done) | (go_simp; rfl)); intro gb915 hg w15 hbox hb; have n0_ := Aside0.mk (Kd.R_below (by (with_reducible repeat (first | apply Kd.R_alloc | apply Kd.R_drewN | apply Kd.R_drew)); exact HO_3.out) hb); have n1_ := Aside0.mk (Kd.R_below (Kd.R_elderB (by (with_reducible repeat (first | apply Kd.R_alloc | apply Kd.R_drewN | apply Kd.R_drew)); exact HO_4.out) gb915 (Nat.le_of_eq hg.symm)) hb); have n2_ := Aside0.mk (Kd.R_below (by (with_reducible repeat (first | apply Kd.R_alloc | apply Kd.R_drewN | apply Kd.R_drew)); exact HO_7.out) hb); have n3_ := Aside0.mk (below_step (by repeat (first | (with_reducible first | exact HB.out | apply below_alloc | apply pw_below_drewN | apply below_drew1) | exact HB.out)) hb); have n4_ := Aside0.mk (hbox); have n5_ := Aside0.mk ((by rw [hg]; exact (below_size (by repeat (first | (with_reducible first | exact HB.out | apply below_alloc | apply pw_below_drewN | apply below_drew1) | exact HB.out))) : w.heap.size ≤ gb915)); have n6_ := Aside0.mk ((by rw [hg]; exact (below_size (by repeat (first | (with_reducible first | exact HB.out | apply below_alloc | apply pw_below_drewN | apply below_drew1) | exact HB.out))) : w.heap.size ≤ gb915)); clear HO_3; clear HO_4; clear HO_7; clear HB; have HO_3 := n0_; have HO_4 := n1_; have HO_7 := n2_; have HB := n3_; have BK915 := n4_; have GW915 := n5_; have GE915 := n6_; clear n0_ n1_ n2_ n3_ n4_ n5_ n6_; clear hb hbox hg; have hcz16_0 : w15.cell? ⟨gb915, 0, none⟩ = some (.string (⟨#[]⟩ : ByteArray)) := (blk_cell BK915.out 0).trans rfl; have hcz16_1 : w15.cell? ⟨gb915, 1, none⟩ = some (.int .u64 0) := (blk_cell BK915.out 1).trans rfl; have hcz16_2 : w15.cell? ⟨gb915, 2, none⟩ = some (.int .u64 0) := (blk_cell BK915.out 2).trans rfl; have hfz16_0 := blk_frozen BK915.out 0; have hfz16_1 := blk_frozen BK915.out 1; have hfz16_2 := blk_frozen BK915.out 2))
              (try simp only [Act.put, List.setIfInBounds_toArray, List.set_cons_zero, List.set_cons_succ])
              go_cut [47] (fun v47 wc => ∃ (kq : Nat) (x47_11 : Bool), v47 = .bool x47_11 ∧ Aside0 (paymasterlaw10_RowFirst.j1 kq a0 x3_1 x4_1 x5_1 x6_1 t876 x8_1 t913 t914 x47_11 t910 t911 t912 = some r) ∧ Aside0 (kq ≤ k1) ∧ Aside0 (Kd.R Kd.string 9 wc w.heap.size (fun _ => True) u3 x3_1) ∧ Aside0 (Kd.R k44 44 wc w.heap.size (fun k_ => k_ ≠ gb915) u4 x4_1) ∧ Aside0 (Kd.R k56 56 wc w.heap.size (fun _ => True) (.slice (some ad909) t876.length co13) t876) ∧ Aside0 (wc.heap[gb915]? = some (.cells #[.string t910, .int .u64 t911, .int .u64 t912] 44 (0, 0))) ∧ Aside0 (Below w.heap.size w wc))
              case first =>
                have H := HC12.out
                clear HC12
                by_cases c17 : t914 = 0
                · rw [if_pos c17] at H
                  have c17b0 : (t914 == 0) = true := beq_iff_eq.mpr c17
                  have c17b1 : (t914 != 0) = false := bne_eq_false_iff_eq.mpr c17
                  clear c17
                  (first | rw [c17b0] | (simp only [i64_w, i32_w]; rw [c17b0]) | skip)
                  have H' := Aside0.mk H
                  clear H
                  go_wp2
                  go_meet
                  case rel => exact ⟨_, (false), (by first | rfl | (simp; done) | (simp [*]; done)), H', ⟨by have := HK1.out; first | omega | exact Nat.le_refl _⟩, ⟨by (with_reducible repeat (first | apply Kd.R_alloc | apply Kd.R_drewN | apply Kd.R_drew)); exact Kd.R_mono (Kd.R_far (p := ⟨gb915, 2, none⟩) (Kd.R_far (p := ⟨gb915, 1, none⟩) (Kd.R_far (p := ⟨gb915, 0, none⟩) (Kd.R_types HO_3.out BK915.out (by decide)) (fun _ hk => hk.2) (.string t910)) (fun _ hk => hk.2) (.int .u64 t911)) (fun _ hk => hk.2) (.int .u64 t912)) (fun _ hk => trivial)⟩, ⟨by (with_reducible repeat (first | apply Kd.R_alloc | apply Kd.R_drewN | apply Kd.R_drew)); exact Kd.R_mono (Kd.R_far (p := ⟨gb915, 2, none⟩) (Kd.R_far (p := ⟨gb915, 1, none⟩) (Kd.R_far (p := ⟨gb915, 0, none⟩) (Kd.R_mono HO_4.out (fun k_ hk => (⟨hk, hk.2⟩ : _ ∧ k_ ≠ gb915))) (fun _ hk => hk.2) (.string t910)) (fun _ hk => hk.2) (.int .u64 t911)) (fun _ hk => hk.2) (.int .u64 t912)) (fun _ hk => hk.1.2)⟩, ⟨by (with_reducible repeat (first | apply Kd.R_alloc | apply Kd.R_drewN | apply Kd.R_drew)); exact Kd.R_mono (Kd.R_far (p := ⟨gb915, 2, none⟩) (Kd.R_far (p := ⟨gb915, 1, none⟩) (Kd.R_far (p := ⟨gb915, 0, none⟩) (Kd.R_types HO_7.out BK915.out (by decide)) (fun _ hk => hk.2) (.string t910)) (fun _ hk => hk.2) (.int .u64 t911)) (fun _ hk => hk.2) (.int .u64 t912)) (fun _ hk => trivial)⟩, ⟨by (with_reducible repeat (first | refine blk_drewN ?_ _ | refine blk_drew ?_ | refine blk_alloc ?_ _)); refine blk_put (cs := #[.string t910, .int .u64 t911, .int .u64 0]) ?_ 2 _ rfl; (with_reducible repeat (first | refine blk_drewN ?_ _ | refine blk_drew ?_ | refine blk_alloc ?_ _)); refine blk_put (cs := #[.string t910, .int .u64 0, .int .u64 0]) ?_ 1 _ rfl; (with_reducible repeat (first | refine blk_drewN ?_ _ | refine blk_drew ?_ | refine blk_alloc ?_ _)); refine blk_put (cs := #[.string (⟨#[]⟩ : ByteArray), .int .u64 0, .int .u64 0]) ?_ 0 _ rfl; (with_reducible repeat (first | refine blk_drewN ?_ _ | refine blk_drew ?_ | refine blk_alloc ?_ _)); exact BK915.out⟩, ⟨by repeat (first | (with_reducible first | exact HB.out | apply below_alloc | apply pw_below_drewN | apply below_drew1 | refine below_set ?_ GE915.out) | exact HB.out)⟩⟩
                · rw [if_neg c17] at H
                  have c17b0 : (t914 == 0) = false := beq_eq_false_iff_ne.mpr c17
                  have c17b1 : (t914 != 0) = true := bne_iff_ne.mpr c17
                  (first | rw [c17b0] | (simp only [i64_w, i32_w]; rw [c17b0]) | skip)
                  have H' := Aside0.mk H
                  clear H
                  go_wp2
                  go_meet
                  case rel => exact ⟨_, ((x5_1 == 0)), (by first | rfl | (simp; done) | (simp [*]; done)), H', ⟨by have := HK1.out; first | omega | exact Nat.le_refl _⟩, ⟨by (with_reducible repeat (first | apply Kd.R_alloc | apply Kd.R_drewN | apply Kd.R_drew)); exact Kd.R_mono (Kd.R_far (p := ⟨gb915, 2, none⟩) (Kd.R_far (p := ⟨gb915, 1, none⟩) (Kd.R_far (p := ⟨gb915, 0, none⟩) (Kd.R_types HO_3.out BK915.out (by decide)) (fun _ hk => hk.2) (.string t910)) (fun _ hk => hk.2) (.int .u64 t911)) (fun _ hk => hk.2) (.int .u64 t912)) (fun _ hk => trivial)⟩, ⟨by (with_reducible repeat (first | apply Kd.R_alloc | apply Kd.R_drewN | apply Kd.R_drew)); exact Kd.R_mono (Kd.R_far (p := ⟨gb915, 2, none⟩) (Kd.R_far (p := ⟨gb915, 1, none⟩) (Kd.R_far (p := ⟨gb915, 0, none⟩) (Kd.R_mono HO_4.out (fun k_ hk => (⟨hk, hk.2⟩ : _ ∧ k_ ≠ gb915))) (fun _ hk => hk.2) (.string t910)) (fun _ hk => hk.2) (.int .u64 t911)) (fun _ hk => hk.2) (.int .u64 t912)) (fun _ hk => hk.1.2)⟩, ⟨by (with_reducible repeat (first | apply Kd.R_alloc | apply Kd.R_drewN | apply Kd.R_drew)); exact Kd.R_mono (Kd.R_far (p := ⟨gb915, 2, none⟩) (Kd.R_far (p := ⟨gb915, 1, none⟩) (Kd.R_far (p := ⟨gb915, 0, none⟩) (Kd.R_types HO_7.out BK915.out (by decide)) (fun _ hk => hk.2) (.string t910)) (fun _ hk => hk.2) (.int .u64 t911)) (fun _ hk => hk.2) (.int .u64 t912)) (fun _ hk => trivial)⟩, ⟨by (with_reducible repeat (first | refine blk_drewN ?_ _ | refine blk_drew ?_ | refine blk_alloc ?_ _)); refine blk_put (cs := #[.string t910, .int .u64 t911, .int .u64 0]) ?_ 2 _ rfl; (with_reducible repeat (first | refine blk_drewN ?_ _ | refine blk_drew ?_ | refine blk_alloc ?_ _)); refine blk_put (cs := #[.string t910, .int .u64 0, .int .u64 0]) ?_ 1 _ rfl; (with_reducible repeat (first | refine blk_drewN ?_ _ | refine blk_drew ?_ | refine blk_alloc ?_ _)); refine blk_put (cs := #[.string (⟨#[]⟩ : ByteArray), .int .u64 0, .int .u64 0]) ?_ 0 _ rfl; (with_reducible repeat (first | refine blk_drewN ?_ _ | refine blk_drew ?_ | refine blk_alloc ?_ _)); exact BK915.out⟩, ⟨by repeat (first | (with_reducible first | exact HB.out | apply below_alloc | apply pw_below_drewN | apply below_drew1 | refine below_set ?_ GE915.out) | exact HB.out)⟩⟩
              case rest =>
                clear HC12
                try clear c1
                try clear c2
                try clear p2
                try clear c3
                try clear c4
                try clear c4b0
                try clear c4b1
                try clear c9
                try clear c9b0
                try clear p9
                try clear q9
                try clear hx9
                try clear c10
                try clear c10b0
                try clear c15
                try clear c17
                try clear c17b0
                try clear c17b1
                try clear hcz16_0
                try clear hcz16_1
                try clear hcz16_2
                try clear hfz16_0
                try clear hfz16_1
                try clear hfz16_2
                try clear hx909_0
                try clear hx909_1
                try clear hx909_2
                try clear hx909_3
                try clear p2
                try clear p909
                try clear q909
                obtain ⟨kq, x47_11, rfl, HA, HJ11, HO_3, HO_4, HO_7, BK915, HB⟩ := hcut
                cases kq with
                | zero => exact absurd HA.out (by simp [paymasterlaw10_RowFirst.j1])
                | succ kj11 =>
                  have H := HA.out
                  clear HA
                  simp only [paymasterlaw10_RowFirst.j1] at H
                  have HC18 := Aside0.mk H
                  clear H
                  go_upto_if 47 with (fail)
                  go_cut [5, 6] (fun v5 v6 wc => ∃ (kq : Nat) (x5_17 : Int) (x6_17 : Int), v5 = .int .i64 x5_17 ∧ v6 = .int .i64 x6_17 ∧ Aside0 (paymasterlaw10_RowFirst.j2 kq a0 x3_1 x4_1 x5_17 x6_17 t876 x8_1 t913 t914 t910 t911 t912 = some r) ∧ Aside0 (kq ≤ kj11) ∧ Aside0 (Kd.R Kd.string 9 wc w.heap.size (fun _ => True) u3 x3_1) ∧ Aside0 (Kd.R k44 44 wc w.heap.size (fun k_ => k_ ≠ gb915) u4 x4_1) ∧ Aside0 (Kd.R k56 56 wc w.heap.size (fun _ => True) (.slice (some ad909) t876.length co13) t876) ∧ Aside0 (wc.heap[gb915]? = some (.cells #[.string t910, .int .u64 t911, .int .u64 t912] 44 (0, 0))) ∧ Aside0 (Below w.heap.size w wc))
                  case first =>
                    have H := HC18.out
                    clear HC18
                    by_cases c19 : x47_11 = true
                    · subst c19
                      have H1 : (paymasterlaw10_RowFirst.j2 kj11 a0 x3_1 x4_1 (wrap64 (x8_1 + 1)) t914 t876 x8_1 t913 t914 t910 t911 t912) = some r := by rw [if_pos rfl] at H; exact H
                      clear H
                      have H := H1
                      clear H1
                      have H' := Aside0.mk H
                      clear H
                      go_wp2
                      go_meet
                      case rel => exact ⟨_, (wrap64 (x8_1 + 1)), (t914), (by first | rfl | (simp; done) | (simp [*]; done)), (by first | rfl | (simp; done) | (simp [*]; done)), H', ⟨by have := HK1.out; have := HJ11.out; first | omega | exact Nat.le_refl _⟩, ⟨by (with_reducible repeat (first | apply Kd.R_alloc | apply Kd.R_drewN | apply Kd.R_drew)); exact HO_3.out⟩, ⟨by (with_reducible repeat (first | apply Kd.R_alloc | apply Kd.R_drewN | apply Kd.R_drew)); exact HO_4.out⟩, ⟨by (with_reducible repeat (first | apply Kd.R_alloc | apply Kd.R_drewN | apply Kd.R_drew)); exact HO_7.out⟩, ⟨by (with_reducible repeat (first | refine blk_drewN ?_ _ | refine blk_drew ?_ | refine blk_alloc ?_ _)); exact BK915.out⟩, ⟨by repeat (first | (with_reducible first | exact HB.out | apply below_alloc | apply pw_below_drewN | apply below_drew1 | refine below_set ?_ GE915.out) | exact HB.out)⟩⟩
                    · replace c19 := Bool.eq_false_iff.mpr c19
                      subst c19
                      have H1 : (paymasterlaw10_RowFirst.j2 kj11 a0 x3_1 x4_1 x5_1 x6_1 t876 x8_1 t913 t914 t910 t911 t912) = some r := by rw [if_neg (show ¬ (false = true) by decide)] at H; exact H
                      clear H
                      have H := H1
                      clear H1
                      have H' := Aside0.mk H
                      clear H
                      go_wp2
                      go_meet
                      case rel => exact ⟨_, (x5_1), (x6_1), (by first | rfl | (simp; done) | (simp [*]; done)), (by first | rfl | (simp; done) | (simp [*]; done)), H', ⟨by have := HK1.out; have := HJ11.out; first | omega | exact Nat.le_refl _⟩, ⟨by (with_reducible repeat (first | apply Kd.R_alloc | apply Kd.R_drewN | apply Kd.R_drew)); exact HO_3.out⟩, ⟨by (with_reducible repeat (first | apply Kd.R_alloc | apply Kd.R_drewN | apply Kd.R_drew)); exact HO_4.out⟩, ⟨by (with_reducible repeat (first | apply Kd.R_alloc | apply Kd.R_drewN | apply Kd.R_drew)); exact HO_7.out⟩, ⟨by (with_reducible repeat (first | refine blk_drewN ?_ _ | refine blk_drew ?_ | refine blk_alloc ?_ _)); exact BK915.out⟩, ⟨by repeat (first | (with_reducible first | exact HB.out | apply below_alloc | apply pw_below_drewN | apply below_drew1 | refine below_set ?_ GE915.out) | exact HB.out)⟩⟩
                  case rest =>
                    clear HC18
                    try clear c1
                    try clear c2
                    try clear p2
                    try clear c3
                    try clear c4
                    try clear c4b0
                    try clear c4b1
                    try clear p6
                    try clear c9
                    try clear c9b0
                    try clear p9
                    try clear q9
                    try clear hx9
                    try clear c10
                    try clear c10b0
                    try clear c15
                    try clear c17
                    try clear c17b0
                    try clear c17b1
                    try clear c19
                    try clear hcz16_0
                    try clear hcz16_1
                    try clear hcz16_2
                    try clear hfz16_0
                    try clear hfz16_1
                    try clear hfz16_2
                    try clear hx909_0
                    try clear hx909_1
                    try clear hx909_2
                    try clear hx909_3
                    try clear p2
                    try clear p9
                    try clear p909
                    try clear q9
                    try clear q909
                    obtain ⟨kq, x5_17, x6_17, rfl, rfl, HA, HJ17, HO_3, HO_4, HO_7, BK915, HB⟩ := hcut
                    cases kq with
                    | zero => exact absurd HA.out (by simp [paymasterlaw10_RowFirst.j2])
                    | succ kj17 =>
                      have H := HA.out
                      clear HA
                      simp only [paymasterlaw10_RowFirst.j2] at H
                      by_cases c20 : t914 = 0
                      · rw [if_pos c20] at H
                        have c20b0 : (t914 == 0) = true := beq_iff_eq.mpr c20
                        have c20b1 : (t914 != 0) = false := bne_eq_false_iff_eq.mpr c20
                        clear c20
                        by_cases c21 : 0 ≤ x8_1
                        · rw [if_pos c21] at H
                          have c21b0 : decide (0 ≤ x8_1) = true := decide_eq_true c21
                          clear c21
                          by_cases c22 : x8_1 < (t876.length : Int)
                          · rw [if_pos c22] at H
                            have c22b0 : decide (x8_1 < (t876.length : Int)) = true := decide_eq_true c22
                            clear c22
                            by_cases c23 : x3_1.length < 8796093022208
                            · rw [if_pos c23] at H
                              have LMc23 := Aside0.mk c23
                              clear c23
                              obtain ⟨y954, hy954⟩ : ∃ y_ : List ByteArray, y_ = (x3_1 ++ [(rd_T56 t876 x8_1).f1]) := ⟨_, rfl⟩
                              replace H : (if t913 = true then (if x4_1.length < 4398046511104 then (paymasterlaw10_RowFirst.l0 kj17 a0 y954 (x4_1 ++ [(⟨t910, (⟨t911, t912⟩ : S42)⟩ : S44)]) x5_17 x6_17 t876 (wrap64 (x8_1 + 1))) else (none)) else (paymasterlaw10_RowFirst.l0 kj17 a0 y954 x4_1 x5_17 x6_17 t876 (wrap64 (x8_1 + 1)))) = some r := by first | (rw [hy954]; with_reducible exact H) | (have H2_ := (Option.bind_some _ _).symm.trans H; rw [hy954]; with_reducible exact H2_) | (have H2_ := (Option.bind_some _ _).symm.trans H; with_reducible exact H2_) | with_reducible exact H | (rw [hy954]; exact H) | exact H
                              have Ny954 := Aside0.mk hy954
                              clear hy954
                              by_cases c24 : t913 = true
                              · subst c24
                                have H1 : (if x4_1.length < 4398046511104 then (paymasterlaw10_RowFirst.l0 kj17 a0 y954 (x4_1 ++ [(⟨t910, (⟨t911, t912⟩ : S42)⟩ : S44)]) x5_17 x6_17 t876 (wrap64 (x8_1 + 1))) else (none)) = some r := by rw [if_pos rfl] at H; exact H
                                clear H
                                have H := H1
                                clear H1
                                by_cases c25 : x4_1.length < 4398046511104
                                · rw [if_pos c25] at H
                                  have LMc25 := Aside0.mk c25
                                  clear c25
                                  obtain ⟨y957, hy957⟩ : ∃ y_ : List (S44), y_ = (x4_1 ++ [(⟨t910, (⟨t911, t912⟩ : S42)⟩ : S44)]) := ⟨_, rfl⟩
                                  replace H : (paymasterlaw10_RowFirst.l0 kj17 a0 y954 y957 x5_17 x6_17 t876 (wrap64 (x8_1 + 1))) = some r := by first | (rw [hy957]; with_reducible exact H) | (have H2_ := (Option.bind_some _ _).symm.trans H; rw [hy957]; with_reducible exact H2_) | (have H2_ := (Option.bind_some _ _).symm.trans H; with_reducible exact H2_) | with_reducible exact H | (rw [hy957]; exact H) | exact H
                                  have Ny957 := Aside0.mk hy957
                                  clear hy957
                                  have H' := Aside0.mk H
                                  clear H
                                  have p953 : 0 ≤ (x8_1 : Int) := of_decide_eq_true (by first | (with_reducible assumption) | assumption)
                                  have q953 : x8_1 < (t876.length : Int) := of_decide_eq_true (by first | (with_reducible assumption) | assumption)
                                  obtain ⟨ad953, e953, hx953_0, hx953_1, hx953_2, hx953_3⟩ := at_T56 (Kd.R_reads' HO_7.out).2.2 x8_1 p953 q953
                                  obtain rfl : ad909 = ad953 := (by injection e953)
                                  replace p953 := eq_true p953
                                  replace q953 := eq_true q953
                                  go_wp2_with (first | ((with_reducible refine gate_builtin (b := .append) (xs := #[.tmp 53, .tmp 59]) rfl ?_); (try (refine gate_guard (by rfl) ?_; dsimp only)); at_builtin; refine Kd.R_append Kd.string (w0 := w) w.heap.size rfl (.tmp 53) (.tmp 59) 51 9 (.string ⟨#[]⟩) 16 rfl Tryd.underlying51 info9 rfl (by decide) (by omega) u3 x3_1 ((rd_T56 t876 x8_1).f1) [.string ((rd_T56 t876 x8_1).f1)] (fun _ => True) (fun _ => False) rfl rfl ?aP (fun _ hk => hk.elim) ?aF ?aO ?aB ?aS ?aL ?_; (case aP => exact rfl); (case aB => exact (by repeat (first | (with_reducible first | exact HB.out | apply below_alloc | apply pw_below_drewN | apply below_drew1 | refine below_set ?_ GE915.out) | exact HB.out))); (case aF => exact (fun _ _ => trivial)); (case aO => exact (by (with_reducible repeat (first | apply Kd.R_alloc | apply Kd.R_drewN | apply Kd.R_drew)); exact HO_3.out)); (case aS => exact (below_size (by repeat (first | (with_reducible first | exact HB.out | apply below_alloc | apply pw_below_drewN | apply below_drew1 | refine below_set ?_ GE915.out) | exact HB.out)))); (case aL => have := LMc23.out; omega); intro v955 w26 ho hb hg hat; rw [← Ny954.out] at ho; have n0_ := Aside0.mk (Kd.R_over' (by (with_reducible repeat (first | apply Kd.R_alloc | apply Kd.R_drewN | apply Kd.R_drew)); exact HO_4.out) (Kd.R_typed (by (with_reducible repeat (first | apply Kd.R_alloc | apply Kd.R_drewN | apply Kd.R_drew)); exact HO_3.out)) (by decide) hg); have n1_ := Aside0.mk (Kd.R_over' (by (with_reducible repeat (first | apply Kd.R_alloc | apply Kd.R_drewN | apply Kd.R_drew)); exact HO_7.out) (Kd.R_typed (by (with_reducible repeat (first | apply Kd.R_alloc | apply Kd.R_drewN | apply Kd.R_drew)); exact HO_3.out)) (by decide) hg); have n2_ := Aside0.mk (blk_grown (g := gb915) (o := .cells #[.string t910, .int .u64 t911, .int .u64 t912] 44 (0, 0)) (by (with_reducible repeat (first | refine blk_drewN ?_ _ | refine blk_drew ?_ | refine blk_alloc ?_ _)); exact BK915.out) hg (Kd.R_ne HO_3.out BK915.out (by decide))); have n3_ := Aside0.mk (hb); have n4_ := Aside0.mk (ho); clear HO_4; clear HO_7; clear BK915; clear HB; clear HO_3; have HO_4 := n0_; have HO_7 := n1_; have BK915 := n2_; have HB := n3_; have HO956 := n4_; clear n0_ n1_ n2_ n3_ n4_; clear ho hb hg hat; have hcz27_0 : w26.cell? ⟨gb915, 0, none⟩ = some (.string t910) := (blk_cell BK915.out 0).trans rfl; have hcz27_1 : w26.cell? ⟨gb915, 1, none⟩ = some (.int .u64 t911) := (blk_cell BK915.out 1).trans rfl; have hcz27_2 : w26.cell? ⟨gb915, 2, none⟩ = some (.int .u64 t912) := (blk_cell BK915.out 2).trans rfl; have hfz27_0 := blk_frozen BK915.out 0; have hfz27_1 := blk_frozen BK915.out 1; have hfz27_2 := blk_frozen BK915.out 2) | ((with_reducible refine gate_builtin (b := .append) (xs := #[.tmp 62, .tmp 64]) rfl ?_); (try (refine gate_guard (by rfl) ?_; dsimp only)); at_builtin; refine Kd.R_append k44 (w0 := w) w.heap.size rfl (.tmp 62) (.tmp 64) 34 44 (.agg #[(.string ⟨#[]⟩), (.int .u64 0), (.int .u64 0)]) 32 rfl Tryd.underlying34 info44 rfl (by decide) (by omega) u4 x4_1 (⟨t910, (⟨t911, t912⟩ : S42)⟩ : S44) [.string t910, .int .u64 t911, .int .u64 t912] (fun k_ => k_ ≠ gb915) (fun _ => False) rfl rfl ?aP (fun _ hk => hk.elim) ?aF ?aO ?aB ?aS ?aL ?_; (case aP => exact k44_mkM _ _ _ (⟨t910, (⟨t911, t912⟩ : S42)⟩ : S44)); (case aB => exact (by repeat (first | (with_reducible first | exact HB.out | apply below_alloc | apply pw_below_drewN | apply below_drew1 | refine below_set ?_ GE915.out) | exact HB.out))); (case aF => exact (fun k_ hk => Kd.freshB (g := gb915) (o := .cells #[.string t910, .int .u64 t911, .int .u64 t912] 44 (0, 0)) (by (with_reducible repeat (first | refine blk_drewN ?_ _ | refine blk_drew ?_ | refine blk_alloc ?_ _)); exact BK915.out) k_ hk)); (case aO => exact (by (with_reducible repeat (first | apply Kd.R_alloc | apply Kd.R_drewN | apply Kd.R_drew)); exact HO_4.out)); (case aS => exact (below_size (by repeat (first | (with_reducible first | exact HB.out | apply below_alloc | apply pw_below_drewN | apply below_drew1 | refine below_set ?_ GE915.out) | exact HB.out)))); (case aL => have := LMc25.out; omega); intro v958 w28 ho hb hg hat; rw [← Ny957.out] at ho; have n0_ := Aside0.mk (Kd.R_over' (by (with_reducible repeat (first | apply Kd.R_alloc | apply Kd.R_drewN | apply Kd.R_drew)); exact HO_7.out) (Kd.R_typed (by (with_reducible repeat (first | apply Kd.R_alloc | apply Kd.R_drewN | apply Kd.R_drew)); exact HO_4.out)) (by decide) hg); have n1_ := Aside0.mk (blk_grown (g := gb915) (o := .cells #[.string t910, .int .u64 t911, .int .u64 t912] 44 (0, 0)) (by (with_reducible repeat (first | refine blk_drewN ?_ _ | refine blk_drew ?_ | refine blk_alloc ?_ _)); exact BK915.out) hg (Kd.R_away HO_4.out (fun _ hk => hk))); have n2_ := Aside0.mk (Kd.R_over' (by (with_reducible repeat (first | apply Kd.R_alloc | apply Kd.R_drewN | apply Kd.R_drew)); exact HO956.out) (Kd.R_typed (by (with_reducible repeat (first | apply Kd.R_alloc | apply Kd.R_drewN | apply Kd.R_drew)); exact HO_4.out)) (by decide) hg); have n3_ := Aside0.mk (hb); have n4_ := Aside0.mk (ho); clear HO_7; clear BK915; clear HO956; clear HB; clear HO_4; have HO_7 := n0_; have BK915 := n1_; have HO956 := n2_; have HB := n3_; have HO959 := n4_; clear n0_ n1_ n2_ n3_ n4_; clear ho hb hg hat))
                                  go_roundg kj17
                                  case measure => have := HK1.out; have := HJ11.out; have := HJ17.out; omega
                                  case rel => exact ⟨(y954), (y957), (x5_17), (x6_17), (wrap64 (x8_1 + 1)), (by first | rfl | (simp; done) | (simp [*]; done)), (by first | rfl | (simp; done) | (simp [*]; done)), (by first | rfl | (simp; done) | (simp [*]; done)), H', ⟨by have := HK1.out; have := HJ11.out; have := HJ17.out; omega⟩, ⟨by (with_reducible repeat (first | apply Kd.R_alloc | apply Kd.R_drewN | apply Kd.R_drew)); exact HO956.out⟩, ⟨by (with_reducible repeat (first | apply Kd.R_alloc | apply Kd.R_drewN | apply Kd.R_drew)); exact Kd.R_mono HO959.out (fun _ hk => trivial)⟩, ⟨by (with_reducible repeat (first | apply Kd.R_alloc | apply Kd.R_drewN | apply Kd.R_drew)); exact HO_7.out⟩, ⟨by repeat (first | (with_reducible first | exact HB.out | apply below_alloc | apply pw_below_drewN | apply below_drew1 | refine below_set ?_ GE915.out) | exact HB.out)⟩⟩
                                · rw [if_neg c25] at H
                                  exact absurd H (by simp)
                              · replace c24 := Bool.eq_false_iff.mpr c24
                                subst c24
                                have H1 : (paymasterlaw10_RowFirst.l0 kj17 a0 y954 x4_1 x5_17 x6_17 t876 (wrap64 (x8_1 + 1))) = some r := by rw [if_neg (show ¬ (false = true) by decide)] at H; exact H
                                clear H
                                have H := H1
                                clear H1
                                have H' := Aside0.mk H
                                clear H
                                have p953 : 0 ≤ (x8_1 : Int) := of_decide_eq_true (by first | (with_reducible assumption) | assumption)
                                have q953 : x8_1 < (t876.length : Int) := of_decide_eq_true (by first | (with_reducible assumption) | assumption)
                                obtain ⟨ad953, e953, hx953_0, hx953_1, hx953_2, hx953_3⟩ := at_T56 (Kd.R_reads' HO_7.out).2.2 x8_1 p953 q953
                                obtain rfl : ad909 = ad953 := (by injection e953)
                                replace p953 := eq_true p953
                                replace q953 := eq_true q953
                                go_wp2_with (first | ((with_reducible refine gate_builtin (b := .append) (xs := #[.tmp 53, .tmp 59]) rfl ?_); (try (refine gate_guard (by rfl) ?_; dsimp only)); at_builtin; refine Kd.R_append Kd.string (w0 := w) w.heap.size rfl (.tmp 53) (.tmp 59) 51 9 (.string ⟨#[]⟩) 16 rfl Tryd.underlying51 info9 rfl (by decide) (by omega) u3 x3_1 ((rd_T56 t876 x8_1).f1) [.string ((rd_T56 t876 x8_1).f1)] (fun _ => True) (fun _ => False) rfl rfl ?aP (fun _ hk => hk.elim) ?aF ?aO ?aB ?aS ?aL ?_; (case aP => exact rfl); (case aB => exact (by repeat (first | (with_reducible first | exact HB.out | apply below_alloc | apply pw_below_drewN | apply below_drew1 | refine below_set ?_ GE915.out) | exact HB.out))); (case aF => exact (fun _ _ => trivial)); (case aO => exact (by (with_reducible repeat (first | apply Kd.R_alloc | apply Kd.R_drewN | apply Kd.R_drew)); exact HO_3.out)); (case aS => exact (below_size (by repeat (first | (with_reducible first | exact HB.out | apply below_alloc | apply pw_below_drewN | apply below_drew1 | refine below_set ?_ GE915.out) | exact HB.out)))); (case aL => have := LMc23.out; omega); intro v955 w29 ho hb hg hat; rw [← Ny954.out] at ho; have n0_ := Aside0.mk (Kd.R_over' (by (with_reducible repeat (first | apply Kd.R_alloc | apply Kd.R_drewN | apply Kd.R_drew)); exact HO_4.out) (Kd.R_typed (by (with_reducible repeat (first | apply Kd.R_alloc | apply Kd.R_drewN | apply Kd.R_drew)); exact HO_3.out)) (by decide) hg); have n1_ := Aside0.mk (Kd.R_over' (by (with_reducible repeat (first | apply Kd.R_alloc | apply Kd.R_drewN | apply Kd.R_drew)); exact HO_7.out) (Kd.R_typed (by (with_reducible repeat (first | apply Kd.R_alloc | apply Kd.R_drewN | apply Kd.R_drew)); exact HO_3.out)) (by decide) hg); have n2_ := Aside0.mk (blk_grown (g := gb915) (o := .cells #[.string t910, .int .u64 t911, .int .u64 t912] 44 (0, 0)) (by (with_reducible repeat (first | refine blk_drewN ?_ _ | refine blk_drew ?_ | refine blk_alloc ?_ _)); exact BK915.out) hg (Kd.R_ne HO_3.out BK915.out (by decide))); have n3_ := Aside0.mk (hb); have n4_ := Aside0.mk (ho); clear HO_4; clear HO_7; clear BK915; clear HB; clear HO_3; have HO_4 := n0_; have HO_7 := n1_; have BK915 := n2_; have HB := n3_; have HO956 := n4_; clear n0_ n1_ n2_ n3_ n4_; clear ho hb hg hat))
                                go_roundg kj17
                                case measure => have := HK1.out; have := HJ11.out; have := HJ17.out; omega
                                case rel => exact ⟨(y954), (x4_1), (x5_17), (x6_17), (wrap64 (x8_1 + 1)), (by first | rfl | (simp; done) | (simp [*]; done)), (by first | rfl | (simp; done) | (simp [*]; done)), (by first | rfl | (simp; done) | (simp [*]; done)), H', ⟨by have := HK1.out; have := HJ11.out; have := HJ17.out; omega⟩, ⟨by (with_reducible repeat (first | apply Kd.R_alloc | apply Kd.R_drewN | apply Kd.R_drew)); exact HO956.out⟩, ⟨by (with_reducible repeat (first | apply Kd.R_alloc | apply Kd.R_drewN | apply Kd.R_drew)); exact Kd.R_mono HO_4.out (fun _ hk => trivial)⟩, ⟨by (with_reducible repeat (first | apply Kd.R_alloc | apply Kd.R_drewN | apply Kd.R_drew)); exact HO_7.out⟩, ⟨by repeat (first | (with_reducible first | exact HB.out | apply below_alloc | apply pw_below_drewN | apply below_drew1 | refine below_set ?_ GE915.out) | exact HB.out)⟩⟩
                            · rw [if_neg c23] at H
                              exact absurd H (by simp)
                          · rw [if_neg c22] at H
                            exact absurd H (by simp)
                        · rw [if_neg c21] at H
                          exact absurd H (by simp)
                      · rw [if_neg c20] at H
                        have c20b0 : (t914 == 0) = false := beq_eq_false_iff_ne.mpr c20
                        have c20b1 : (t914 != 0) = true := bne_iff_ne.mpr c20
                        by_cases c30 : t913 = true
                        · subst c30
                          have H1 : (if x4_1.length < 4398046511104 then (paymasterlaw10_RowFirst.l0 kj17 a0 x3_1 (x4_1 ++ [(⟨t910, (⟨t911, t912⟩ : S42)⟩ : S44)]) x5_17 x6_17 t876 (wrap64 (x8_1 + 1))) else (none)) = some r := by rw [if_pos rfl] at H; exact H
                          clear H
                          have H := H1
                          clear H1
                          by_cases c31 : x4_1.length < 4398046511104
                          · rw [if_pos c31] at H
                            have LMc31 := Aside0.mk c31
                            clear c31
                            obtain ⟨y960, hy960⟩ : ∃ y_ : List (S44), y_ = (x4_1 ++ [(⟨t910, (⟨t911, t912⟩ : S42)⟩ : S44)]) := ⟨_, rfl⟩
                            replace H : (paymasterlaw10_RowFirst.l0 kj17 a0 x3_1 y960 x5_17 x6_17 t876 (wrap64 (x8_1 + 1))) = some r := by first | (rw [hy960]; with_reducible exact H) | (have H2_ := (Option.bind_some _ _).symm.trans H; rw [hy960]; with_reducible exact H2_) | (have H2_ := (Option.bind_some _ _).symm.trans H; with_reducible exact H2_) | with_reducible exact H | (rw [hy960]; exact H) | exact H
                            have Ny960 := Aside0.mk hy960
                            clear hy960
                            have H' := Aside0.mk H
                            clear H
                            have hcz32_0 : wc.cell? ⟨gb915, 0, none⟩ = some (.string t910) := (blk_cell BK915.out 0).trans rfl
                            have hcz32_1 : wc.cell? ⟨gb915, 1, none⟩ = some (.int .u64 t911) := (blk_cell BK915.out 1).trans rfl
                            have hcz32_2 : wc.cell? ⟨gb915, 2, none⟩ = some (.int .u64 t912) := (blk_cell BK915.out 2).trans rfl
                            have hfz32_0 := blk_frozen BK915.out 0
                            have hfz32_1 := blk_frozen BK915.out 1
                            have hfz32_2 := blk_frozen BK915.out 2
                            go_wp2_with (first | ((with_reducible refine gate_builtin (b := .append) (xs := #[.tmp 62, .tmp 64]) rfl ?_); (try (refine gate_guard (by rfl) ?_; dsimp only)); at_builtin; refine Kd.R_append k44 (w0 := w) w.heap.size rfl (.tmp 62) (.tmp 64) 34 44 (.agg #[(.string ⟨#[]⟩), (.int .u64 0), (.int .u64 0)]) 32 rfl Tryd.underlying34 info44 rfl (by decide) (by omega) u4 x4_1 (⟨t910, (⟨t911, t912⟩ : S42)⟩ : S44) [.string t910, .int .u64 t911, .int .u64 t912] (fun k_ => k_ ≠ gb915) (fun _ => False) rfl rfl ?aP (fun _ hk => hk.elim) ?aF ?aO ?aB ?aS ?aL ?_; (case aP => exact k44_mkM _ _ _ (⟨t910, (⟨t911, t912⟩ : S42)⟩ : S44)); (case aB => exact (by repeat (first | (with_reducible first | exact HB.out | apply below_alloc | apply pw_below_drewN | apply below_drew1 | refine below_set ?_ GE915.out) | exact HB.out))); (case aF => exact (fun k_ hk => Kd.freshB (g := gb915) (o := .cells #[.string t910, .int .u64 t911, .int .u64 t912] 44 (0, 0)) (by (with_reducible repeat (first | refine blk_drewN ?_ _ | refine blk_drew ?_ | refine blk_alloc ?_ _)); exact BK915.out) k_ hk)); (case aO => exact (by (with_reducible repeat (first | apply Kd.R_alloc | apply Kd.R_drewN | apply Kd.R_drew)); exact HO_4.out)); (case aS => exact (below_size (by repeat (first | (with_reducible first | exact HB.out | apply below_alloc | apply pw_below_drewN | apply below_drew1 | refine below_set ?_ GE915.out) | exact HB.out)))); (case aL => have := LMc31.out; omega); intro v961 w33 ho hb hg hat; rw [← Ny960.out] at ho; have n0_ := Aside0.mk (Kd.R_over' (by (with_reducible repeat (first | apply Kd.R_alloc | apply Kd.R_drewN | apply Kd.R_drew)); exact HO_3.out) (Kd.R_typed (by (with_reducible repeat (first | apply Kd.R_alloc | apply Kd.R_drewN | apply Kd.R_drew)); exact HO_4.out)) (by decide) hg); have n1_ := Aside0.mk (Kd.R_over' (by (with_reducible repeat (first | apply Kd.R_alloc | apply Kd.R_drewN | apply Kd.R_drew)); exact HO_7.out) (Kd.R_typed (by (with_reducible repeat (first | apply Kd.R_alloc | apply Kd.R_drewN | apply Kd.R_drew)); exact HO_4.out)) (by decide) hg); have n2_ := Aside0.mk (blk_grown (g := gb915) (o := .cells #[.string t910, .int .u64 t911, .int .u64 t912] 44 (0, 0)) (by (with_reducible repeat (first | refine blk_drewN ?_ _ | refine blk_drew ?_ | refine blk_alloc ?_ _)); exact BK915.out) hg (Kd.R_away HO_4.out (fun _ hk => hk))); have n3_ := Aside0.mk (hb); have n4_ := Aside0.mk (ho); clear HO_3; clear HO_7; clear BK915; clear HB; clear HO_4; have HO_3 := n0_; have HO_7 := n1_; have BK915 := n2_; have HB := n3_; have HO962 := n4_; clear n0_ n1_ n2_ n3_ n4_; clear ho hb hg hat))
                            go_roundg kj17
                            case measure => have := HK1.out; have := HJ11.out; have := HJ17.out; omega
                            case rel => exact ⟨(x3_1), (y960), (x5_17), (x6_17), (wrap64 (x8_1 + 1)), (by first | rfl | (simp; done) | (simp [*]; done)), (by first | rfl | (simp; done) | (simp [*]; done)), (by first | rfl | (simp; done) | (simp [*]; done)), H', ⟨by have := HK1.out; have := HJ11.out; have := HJ17.out; omega⟩, ⟨by (with_reducible repeat (first | apply Kd.R_alloc | apply Kd.R_drewN | apply Kd.R_drew)); exact HO_3.out⟩, ⟨by (with_reducible repeat (first | apply Kd.R_alloc | apply Kd.R_drewN | apply Kd.R_drew)); exact Kd.R_mono HO962.out (fun _ hk => trivial)⟩, ⟨by (with_reducible repeat (first | apply Kd.R_alloc | apply Kd.R_drewN | apply Kd.R_drew)); exact HO_7.out⟩, ⟨by repeat (first | (with_reducible first | exact HB.out | apply below_alloc | apply pw_below_drewN | apply below_drew1 | refine below_set ?_ GE915.out) | exact HB.out)⟩⟩
                          · rw [if_neg c31] at H
                            exact absurd H (by simp)
                        · replace c30 := Bool.eq_false_iff.mpr c30
                          subst c30
                          have H1 : (paymasterlaw10_RowFirst.l0 kj17 a0 x3_1 x4_1 x5_17 x6_17 t876 (wrap64 (x8_1 + 1))) = some r := by rw [if_neg (show ¬ (false = true) by decide)] at H; exact H
                          clear H
                          have H := H1
                          clear H1
                          have H' := Aside0.mk H
                          clear H
                          go_wp2
                          go_roundg kj17
                          case measure => have := HK1.out; have := HJ11.out; have := HJ17.out; omega
                          case rel => exact ⟨(x3_1), (x4_1), (x5_17), (x6_17), (wrap64 (x8_1 + 1)), (by first | rfl | (simp; done) | (simp [*]; done)), (by first | rfl | (simp; done) | (simp [*]; done)), (by first | rfl | (simp; done) | (simp [*]; done)), H', ⟨by have := HK1.out; have := HJ11.out; have := HJ17.out; omega⟩, ⟨by (with_reducible repeat (first | apply Kd.R_alloc | apply Kd.R_drewN | apply Kd.R_drew)); exact HO_3.out⟩, ⟨by (with_reducible repeat (first | apply Kd.R_alloc | apply Kd.R_drewN | apply Kd.R_drew)); exact Kd.R_mono HO_4.out (fun _ hk => trivial)⟩, ⟨by (with_reducible repeat (first | apply Kd.R_alloc | apply Kd.R_drewN | apply Kd.R_drew)); exact HO_7.out⟩, ⟨by repeat (first | (with_reducible first | exact HB.out | apply below_alloc | apply pw_below_drewN | apply below_drew1 | refine below_set ?_ GE915.out) | exact HB.out)⟩⟩
            · rw [if_neg c10] at H
              exact absurd H (by simp)
          · rw [if_neg c9] at H
            have c9b0 : decide (x8_1 < (t876.length : Int)) = false := decide_eq_false c9
            clear c9
            replace H := Option.bind_eq_some_iff.mp H
            obtain ⟨⟨t963, t964, t965⟩, A340, H⟩ := H
            replace H : (if t964 = x5_1 then (if t965 = x6_1 then (if t965 = 0 then (paymasterlaw10_RowFirst.j3 k1 x3_1 x4_1 false) else (paymasterlaw10_RowFirst.j3 k1 x3_1 x4_1 ((t963.length : Int) != 0))) else (none)) else (none)) = some r := H
            have A34 := Aside0.mk A340
            clear A340
            have HC35 := Aside0.mk H
            clear H
            obtain ⟨Ao36, co36, eo36⟩ := Kd.R_slice HO_7.out
            subst eo36
            go_upto_region 21 with (first | ((with_reducible refine gate_callee (f := 45) rfl ?_); refine goesL_ (some 68) rfl rfl Tryd.func45 (by kernel_rfl) rfl #[.string a0] rfl (by (try simp only [List.map_toArray, List.map_cons, List.map_nil]); first | done | rfl | (simp only [List.length_drop, List.length_take]; rfl)) ?_; (with_reducible refine (row_All.calls a0 t963 t964 t965 _ ?side1 A34.out).mono ?_); (case side1 => exact gt_below hG (by repeat (first | (with_reducible first | exact HB.out | apply below_alloc | apply pw_below_drewN | apply below_drew1) | exact HB.out))); rintro e w37 ⟨v966, rfl, ho0, hb⟩; refine ⟨_, rfl, ?_⟩; have n0_ := Aside0.mk (Kd.R_below (by (with_reducible repeat (first | apply Kd.R_alloc | apply Kd.R_drewN | apply Kd.R_drew)); exact HO_3.out) hb); have n1_ := Aside0.mk (Kd.R_elder' (by (with_reducible repeat (first | apply Kd.R_alloc | apply Kd.R_drewN | apply Kd.R_drew)); exact HO_4.out) (Kd.R_base ho0) hb); have n2_ := Aside0.mk (Kd.R_below (by (with_reducible repeat (first | apply Kd.R_alloc | apply Kd.R_drewN | apply Kd.R_drew)); exact HO_7.out) hb); have n3_ := Aside0.mk (Kd.R_lower (Kd.R_new' ho0 (Kd.R_lt (by (with_reducible repeat (first | apply Kd.R_alloc | apply Kd.R_drewN | apply Kd.R_drew)); exact HO_4.out))) (below_size (by repeat (first | (with_reducible first | exact HB.out | apply below_alloc | apply pw_below_drewN | apply below_drew1) | exact HB.out)))); have n4_ := Aside0.mk (below_step (by repeat (first | (with_reducible first | exact HB.out | apply below_alloc | apply pw_below_drewN | apply below_drew1) | exact HB.out)) hb); clear HO_3; clear HO_4; clear HO_7; clear HB; have HO_3 := n0_; have HO_4 := n1_; have HO_7 := n2_; have HO967 := n3_; have HB := n4_; clear n0_ n1_ n2_ n3_ n4_; (try clear hb); (try clear hb2); (try clear hk); (try clear hi); (try clear ho0)))
            (try simp only [Act.put, List.setIfInBounds_toArray, List.set_cons_zero, List.set_cons_succ])
            go_cut [88] (fun v88 wc => ∃ (kq : Nat) (x88_34 : Bool), v88 = .bool x88_34 ∧ Aside0 (paymasterlaw10_RowFirst.j3 kq x3_1 x4_1 x88_34 = some r) ∧ Aside0 (kq ≤ k1) ∧ Aside0 (Kd.R Kd.string 9 wc w.heap.size (fun _ => True) u3 x3_1) ∧ Aside0 (Kd.R k44 44 wc w.heap.size (fun _ => True) u4 x4_1) ∧ Aside0 (Below w.heap.size w wc))
            case first =>
              have H := HC35.out
              clear HC35
              by_cases c38 : t964 = x5_1
              · rw [if_pos c38] at H
                have c38b0 : (t964 == x5_1) = true := beq_iff_eq.mpr c38
                have c38b1 : (t964 != x5_1) = false := bne_eq_false_iff_eq.mpr c38
                clear c38
                (first | rw [c38b0] | (simp only [i64_w, i32_w]; rw [c38b0]) | skip)
                by_cases c39 : t965 = x6_1
                · rw [if_pos c39] at H
                  have c39b0 : (t965 == x6_1) = true := beq_iff_eq.mpr c39
                  have c39b1 : (t965 != x6_1) = false := bne_eq_false_iff_eq.mpr c39
                  clear c39
                  by_cases c40 : t965 = 0
                  · rw [if_pos c40] at H
                    have c40b0 : (t965 == 0) = true := beq_iff_eq.mpr c40
                    have c40b1 : (t965 != 0) = false := bne_eq_false_iff_eq.mpr c40
                    clear c40
                    have H' := Aside0.mk H
                    clear H
                    go_wp2
                    go_meet
                    case rel => exact ⟨_, (false), (by first | rfl | (simp; done) | (simp [*]; done)), H', ⟨by have := HK1.out; first | omega | exact Nat.le_refl _⟩, ⟨by (with_reducible repeat (first | apply Kd.R_alloc | apply Kd.R_drewN | apply Kd.R_drew)); exact HO_3.out⟩, ⟨by (with_reducible repeat (first | apply Kd.R_alloc | apply Kd.R_drewN | apply Kd.R_drew)); exact Kd.R_mono HO_4.out (fun _ hk => trivial)⟩, ⟨by repeat (first | (with_reducible first | exact HB.out | apply below_alloc | apply pw_below_drewN | apply below_drew1) | exact HB.out)⟩⟩
                  · rw [if_neg c40] at H
                    have c40b0 : (t965 == 0) = false := beq_eq_false_iff_ne.mpr c40
                    have c40b1 : (t965 != 0) = true := bne_iff_ne.mpr c40
                    have H' := Aside0.mk H
                    clear H
                    obtain ⟨Ao41, co41, eo41⟩ := Kd.R_slice HO967.out
                    subst eo41
                    go_wp2
                    go_meet
                    case rel => exact ⟨_, (((t963.length : Int) != 0)), (by first | rfl | (simp; done) | (simp [*]; done)), H', ⟨by have := HK1.out; first | omega | exact Nat.le_refl _⟩, ⟨by (with_reducible repeat (first | apply Kd.R_alloc | apply Kd.R_drewN | apply Kd.R_drew)); exact HO_3.out⟩, ⟨by (with_reducible repeat (first | apply Kd.R_alloc | apply Kd.R_drewN | apply Kd.R_drew)); exact Kd.R_mono HO_4.out (fun _ hk => trivial)⟩, ⟨by repeat (first | (with_reducible first | exact HB.out | apply below_alloc | apply pw_below_drewN | apply below_drew1) | exact HB.out)⟩⟩
                · rw [if_neg c39] at H
                  exact absurd H (by simp)
              · rw [if_neg c38] at H
                exact absurd H (by simp)
            case rest =>
              clear HC35
              try clear c1
              try clear c2
              try clear p2
              try clear c3
              try clear c4
              try clear c4b0
              try clear c4b1
              try clear p6
              try clear c9
              try clear c9b0
              try clear p9
              try clear q9
              try clear hx9
              try clear c10
              try clear c10b0
              try clear c15
              try clear c17
              try clear c17b0
              try clear c17b1
              try clear c19
              try clear c20
              try clear c20b0
              try clear c20b1
              try clear c21
              try clear c21b0
              try clear c22
              try clear c22b0
              try clear c23
              try clear c24
              try clear c25
              try clear c30
              try clear c31
              try clear c34
              try clear c38
              try clear c38b0
              try clear c38b1
              try clear c39
              try clear c39b0
              try clear c39b1
              try clear c40
              try clear c40b0
              try clear c40b1
              try clear hcz16_0
              try clear hcz16_1
              try clear hcz16_2
              try clear hcz27_0
              try clear hcz27_1
              try clear hcz27_2
              try clear hcz32_0
              try clear hcz32_1
              try clear hcz32_2
              try clear hfz16_0
              try clear hfz16_1
              try clear hfz16_2
              try clear hfz27_0
              try clear hfz27_1
              try clear hfz27_2
              try clear hfz32_0
              try clear hfz32_1
              try clear hfz32_2
              try clear hx909_0
              try clear hx909_1
              try clear hx909_2
              try clear hx909_3
              try clear hx953_0
              try clear hx953_1
              try clear hx953_2
              try clear hx953_3
              try clear p2
              try clear p6
              try clear p9
              try clear p909
              try clear p953
              try clear q9
              try clear q909
              try clear q953
              obtain ⟨kq, x88_34, rfl, HA, HJ34, HO_3, HO_4, HB⟩ := hcut
              cases kq with
              | zero => exact absurd HA.out (by simp [paymasterlaw10_RowFirst.j3])
              | succ kj34 =>
                have H := HA.out
                clear HA
                simp only [paymasterlaw10_RowFirst.j3] at H
                by_cases c42 : x88_34 = true
                · subst c42
                  have H1 : (none) = some r := by rw [if_pos rfl] at H; exact H
                  clear H
                  have H := H1
                  clear H1
                  exact absurd H (by simp)
                · replace c42 := Bool.eq_false_iff.mpr c42
                  subst c42
                  have H1 : ((lines_Join.f x3_1).bind fun bt984 => ((row_All.f bt984.1).bind fun bt986 => (if bt984.2 = 0 then (if bt986.2.1 = 0 then (if bt986.2.2 = 0 then ((paymasterref10_Same.f kj34 bt986.1 x4_1).bind fun t991 => (some t991)) else (none)) else (none)) else (none)))) = some r := by rw [if_neg (show ¬ (false = true) by decide)] at H; exact H
                  clear H
                  have H := H1
                  clear H1
                  replace H := Option.bind_eq_some_iff.mp H
                  obtain ⟨⟨t984, t985⟩, A430, H⟩ := H
                  replace H : ((row_All.f t984).bind fun bt986 => (if t985 = 0 then (if bt986.2.1 = 0 then (if bt986.2.2 = 0 then ((paymasterref10_Same.f kj34 bt986.1 x4_1).bind fun t991 => (some t991)) else (none)) else (none)) else (none))) = some r := H
                  have A43 := Aside0.mk A430
                  clear A430
                  replace H := Option.bind_eq_some_iff.mp H
                  obtain ⟨⟨t986, t987, t988⟩, A440, H⟩ := H
                  replace H : (if t985 = 0 then (if t987 = 0 then (if t988 = 0 then ((paymasterref10_Same.f kj34 t986 x4_1).bind fun t991 => (some t991)) else (none)) else (none)) else (none)) = some r := H
                  have A44 := Aside0.mk A440
                  clear A440
                  by_cases c45 : t985 = 0
                  · rw [if_pos c45] at H
                    have c45b0 : (t985 == 0) = true := beq_iff_eq.mpr c45
                    have c45b1 : (t985 != 0) = false := bne_eq_false_iff_eq.mpr c45
                    clear c45
                    by_cases c46 : t987 = 0
                    · rw [if_pos c46] at H
                      have c46b0 : (t987 == 0) = true := beq_iff_eq.mpr c46
                      have c46b1 : (t987 != 0) = false := bne_eq_false_iff_eq.mpr c46
                      clear c46
                      by_cases c47 : t988 = 0
                      · rw [if_pos c47] at H
                        have c47b0 : (t988 == 0) = true := beq_iff_eq.mpr c47
                        have c47b1 : (t988 != 0) = false := bne_eq_false_iff_eq.mpr c47
                        clear c47
                        replace H := Option.bind_eq_some_iff.mp H
                        obtain ⟨t991, A480, H⟩ := H
                        replace H : (some t991) = some r := H
                        have A48 := Aside0.mk A480
                        clear A480
                        obtain rfl := Option.some.inj H
                        obtain ⟨Ao49, co49, eo49⟩ := Kd.R_slice HO_3.out
                        subst eo49
                        go_wp2_with (first | ((with_reducible refine gate_callee (f := 42) rfl ?_); refine goesL_ (some 91) rfl rfl Tryd.func42 (by kernel_rfl) rfl #[.slice Ao49 x3_1.length co49] rfl (by (try simp only [List.map_toArray, List.map_cons, List.map_nil]); first | done | rfl | (simp only [List.length_drop, List.length_take]; rfl)) ?_; (with_reducible refine (lines_Join.calls _ _ x3_1 t984 t985 _ ?side1 ?side2 A43.out).mono ?_); (case side1 => repeat (first | exact (Kd.R_reads' HO_3.out).2.2 | (with_reducible refine Kd.C_alloc ?_ _) | (with_reducible refine Kd.C_drewN ?_ _) | (with_reducible refine Kd.C_drew ?_))); (case side2 => exact (Kd.R_reads' HO_3.out).2.1); rintro e w50 ⟨rfl, hb⟩; refine ⟨_, rfl, ?_⟩; have n0_ := Aside0.mk (Kd.R_below (by (with_reducible repeat (first | apply Kd.R_alloc | apply Kd.R_drewN | apply Kd.R_drew)); exact HO_3.out) hb); have n1_ := Aside0.mk (Kd.R_below (by (with_reducible repeat (first | apply Kd.R_alloc | apply Kd.R_drewN | apply Kd.R_drew)); exact HO_4.out) hb); have n2_ := Aside0.mk (below_step (by repeat (first | (with_reducible first | exact HB.out | apply below_alloc | apply pw_below_drewN | apply below_drew1) | exact HB.out)) hb); clear HO_3; clear HO_4; clear HB; have HO_3 := n0_; have HO_4 := n1_; have HB := n2_; clear n0_ n1_ n2_; (try clear hb); (try clear hb2); (try clear hk); (try clear hi)) | ((with_reducible refine gate_callee (f := 45) rfl ?_); refine goesL_ (some 96) rfl rfl Tryd.func45 (by kernel_rfl) rfl #[.string t984] rfl (by (try simp only [List.map_toArray, List.map_cons, List.map_nil]); first | done | rfl | (simp only [List.length_drop, List.length_take]; rfl)) ?_; (with_reducible refine (row_All.calls t984 t986 t987 t988 _ ?side1 A44.out).mono ?_); (case side1 => exact gt_below hG (by repeat (first | (with_reducible first | exact HB.out | apply below_alloc | apply pw_below_drewN | apply below_drew1) | exact HB.out))); rintro e w51 ⟨v989, rfl, ho0, hb⟩; refine ⟨_, rfl, ?_⟩; have n0_ := Aside0.mk (Kd.R_below (by (with_reducible repeat (first | apply Kd.R_alloc | apply Kd.R_drewN | apply Kd.R_drew)); exact HO_3.out) hb); have n1_ := Aside0.mk (Kd.R_elder' (by (with_reducible repeat (first | apply Kd.R_alloc | apply Kd.R_drewN | apply Kd.R_drew)); exact HO_4.out) (Kd.R_base ho0) hb); have n2_ := Aside0.mk (Kd.R_lower (Kd.R_new' ho0 (Kd.R_lt (by (with_reducible repeat (first | apply Kd.R_alloc | apply Kd.R_drewN | apply Kd.R_drew)); exact HO_4.out))) (below_size (by repeat (first | (with_reducible first | exact HB.out | apply below_alloc | apply pw_below_drewN | apply below_drew1) | exact HB.out)))); have n3_ := Aside0.mk (below_step (by repeat (first | (with_reducible first | exact HB.out | apply below_alloc | apply pw_below_drewN | apply below_drew1) | exact HB.out)) hb); clear HO_3; clear HO_4; clear HB; have HO_3 := n0_; have HO_4 := n1_; have HO990 := n2_; have HB := n3_; clear n0_ n1_ n2_ n3_; (try clear hb); (try clear hb2); (try clear hk); (try clear hi); (try clear ho0); obtain ⟨Ao52, co52, eo52⟩ := Kd.R_slice HO990.out; subst eo52; obtain ⟨Ao53, co53, eo53⟩ := Kd.R_slice HO_4.out; subst eo53) | (go_at_call 28; (with_reducible refine (paymasterref10_Same.calls kj34 _ _ t986 _ _ x4_1 t991 _ ?side1 ?side2 ?side3 ?side4 A48.out).mono ?_); (case side1 => repeat (first | exact (Kd.R_reads' HO990.out).2.2 | (with_reducible refine Kd.C_alloc ?_ _) | (with_reducible refine Kd.C_drewN ?_ _) | (with_reducible refine Kd.C_drew ?_))); (case side2 => exact (Kd.R_reads' HO990.out).2.1); (case side3 => repeat (first | exact (Kd.R_reads' HO_4.out).2.2 | (with_reducible refine Kd.C_alloc ?_ _) | (with_reducible refine Kd.C_drewN ?_ _) | (with_reducible refine Kd.C_drew ?_))); (case side4 => exact (Kd.R_reads' HO_4.out).2.1); rintro e w' ⟨rfl, ⟨nd, rfl⟩⟩))
                        go_ret
                        exact ⟨by first | rfl | (simp [errW_none, errW_some] <;> rfl) | (simp [*, errW_none, errW_some] <;> rfl), by repeat (first | (with_reducible first | exact HB.out | apply below_alloc | apply pw_below_drewN | apply below_drew1) | exact HB.out)⟩
                      · rw [if_neg c47] at H
                        exact absurd H (by simp)
                    · rw [if_neg c46] at H
                      exact absurd H (by simp)
                  · rw [if_neg c45] at H
                    exact absurd H (by simp)
  · replace c3 := Bool.eq_false_iff.mpr c3
    subst c3
    have H1 : (none) = some r := by rw [if_neg (show ¬ (false = true) by decide)] at H; exact H
    clear H
    have H := H1
    clear H1
    exact absurd H (by simp)
end Go.Proofs.YtpkjpiphjdpegaaDoor.P
