/- A program of this session wrote this text out of the session's own texts. (part 6 of 7) -/
import Derived.Test.YtpkjpiphjdpegaaDoorCRowSorted5
namespace Go.Proofs.YtpkjpiphjdpegaaDoor.P
open Go.RowKit Go.Proofs.YtpkjpiphjdpegaaDoorW.PrintWords Go.Proofs.YtpkjpiphjdpegaaDoorW.PrintLast Go.Proofs.YtpkjpiphjdpegaaDoorW.PrintMore
attribute [local go_sem] max2_int min2_int max_two min_two max_three min_three max_four min_four
set_option linter.unusedVariables false
set_option linter.unusedSimpArgs false
def row_Parse.f (a0 : ByteArray) : Option (ByteArray × Int × Int × Int) := (strings_Cut.f a0 (⟨#[32]⟩ : ByteArray)).bind fun bt366 => ((decimal_Parse.f bt366.2.1).bind fun bt369 => (if bt366.2.2 = true then ((tag_MayId.f bt366.1).bind fun t373 => (if t373 = true then (if bt369.2.2 = 0 then (some (bt366.1, bt369.1, bt369.2.1, 0)) else (some ((⟨#[]⟩ : ByteArray), 0, 0, 102))) else (some ((⟨#[]⟩ : ByteArray), 0, 0, 101)))) else (some ((⟨#[]⟩ : ByteArray), 0, 0, 100))))
set_option maxHeartbeats 8000000 in
set_option maxRecDepth 100000 in
theorem row_Parse.calls (a0 : ByteArray) (r1 : ByteArray) (r2 : Int) (r3 : Int) (r4 : Int) (w : World) (hG : GT w) (h : row_Parse.f a0 = some (r1, r2, r3, r4)) :
    Calls Tryd.prog 47 #[.string a0] w fun e w' => e = .returned (.tuple #[.agg #[.string r1, .int .u64 r2, .int .u64 r3], .int .i64 r4]) ∧ Below w.heap.size w w' := by
  have hu44 := Tryd.underlying44
  have hu42 := Tryd.underlying42
  have HB := Aside0.mk (Below.refl w.heap.size w)
  have H : ((strings_Cut.f a0 (⟨#[32]⟩ : ByteArray)).bind fun bt366 => ((decimal_Parse.f bt366.2.1).bind fun bt369 => (if bt366.2.2 = true then ((tag_MayId.f bt366.1).bind fun t373 => (if t373 = true then (if bt369.2.2 = 0 then (some (bt366.1, bt369.1, bt369.2.1, 0)) else (some ((⟨#[]⟩ : ByteArray), 0, 0, 102))) else (some ((⟨#[]⟩ : ByteArray), 0, 0, 101)))) else (some ((⟨#[]⟩ : ByteArray), 0, 0, 100))))) = some (r1, r2, r3, r4) := h
  clear h
  replace H := Option.bind_eq_some_iff.mp H
  obtain ⟨⟨t366, t367, t368⟩, A20, H⟩ := H
  replace H : ((decimal_Parse.f t367).bind fun bt369 => (if t368 = true then ((tag_MayId.f t366).bind fun t373 => (if t373 = true then (if bt369.2.2 = 0 then (some (t366, bt369.1, bt369.2.1, 0)) else (some ((⟨#[]⟩ : ByteArray), 0, 0, 102))) else (some ((⟨#[]⟩ : ByteArray), 0, 0, 101)))) else (some ((⟨#[]⟩ : ByteArray), 0, 0, 100)))) = some (r1, r2, r3, r4) := H
  have A2 := Aside0.mk A20
  clear A20
  replace H := Option.bind_eq_some_iff.mp H
  obtain ⟨⟨t369, t370, t371⟩, A30, H⟩ := H
  replace H : (if t368 = true then ((tag_MayId.f t366).bind fun t373 => (if t373 = true then (if t371 = 0 then (some (t366, t369, t370, 0)) else (some ((⟨#[]⟩ : ByteArray), 0, 0, 102))) else (some ((⟨#[]⟩ : ByteArray), 0, 0, 101)))) else (some ((⟨#[]⟩ : ByteArray), 0, 0, 100))) = some (r1, r2, r3, r4) := H
  have A3 := Aside0.mk A30
  clear A30
  by_cases c4 : t368 = true
  · subst c4
    have H1 : ((tag_MayId.f t366).bind fun t373 => (if t373 = true then (if t371 = 0 then (some (t366, t369, t370, 0)) else (some ((⟨#[]⟩ : ByteArray), 0, 0, 102))) else (some ((⟨#[]⟩ : ByteArray), 0, 0, 101)))) = some (r1, r2, r3, r4) := by rw [if_pos rfl] at H; exact H
    clear H
    have H := H1
    clear H1
    replace H := Option.bind_eq_some_iff.mp H
    obtain ⟨t373, A50, H⟩ := H
    replace H : (if t373 = true then (if t371 = 0 then (some (t366, t369, t370, 0)) else (some ((⟨#[]⟩ : ByteArray), 0, 0, 102))) else (some ((⟨#[]⟩ : ByteArray), 0, 0, 101))) = some (r1, r2, r3, r4) := H
    have A5 := Aside0.mk A50
    clear A50
    by_cases c6 : t373 = true
    · subst c6
      have H1 : (if t371 = 0 then (some (t366, t369, t370, 0)) else (some ((⟨#[]⟩ : ByteArray), 0, 0, 102))) = some (r1, r2, r3, r4) := by rw [if_pos rfl] at H; exact H
      clear H
      have H := H1
      clear H1
      by_cases c7 : t371 = 0
      · rw [if_pos c7] at H
        have c7b0 : (t371 == 0) = true := beq_iff_eq.mpr c7
        have c7b1 : (t371 != 0) = false := bne_eq_false_iff_eq.mpr c7
        clear c7
        simp only [Option.some.injEq, Prod.mk.injEq] at H
        obtain ⟨rfl, rfl, rfl, rfl⟩ := H
        go_enter Tryd.func47, Tryd.ntmps47
        go_wp2_with (first | ((with_reducible refine gate_dst (N := 2) rfl ?_); refine box_event ?hg (N := 2) ?hd (cs := #[.string (⟨#[]⟩ : ByteArray), .int .u64 0, .int .u64 0]) (t := 44) ?hr ?_; (case hd => rfl); (case hg => rfl); (case hr => first | (go_simp; done) | (go_simp; rfl)); intro gb365 hg w8 hbox hb; have n0_ := Aside0.mk (below_step (by repeat (first | (with_reducible first | exact HB.out | apply below_alloc | apply pw_below_drewN | apply below_drew1) | exact HB.out)) hb); have n1_ := Aside0.mk (hbox); have n2_ := Aside0.mk ((by rw [hg]; exact (below_size (by repeat (first | (with_reducible first | exact HB.out | apply below_alloc | apply pw_below_drewN | apply below_drew1) | exact HB.out))) : w.heap.size ≤ gb365)); have n3_ := Aside0.mk ((by rw [hg]; exact (below_size (by repeat (first | (with_reducible first | exact HB.out | apply below_alloc | apply pw_below_drewN | apply below_drew1) | exact HB.out))) : w.heap.size ≤ gb365)); clear HB; have HB := n0_; have BK365 := n1_; have GW365 := n2_; have GE365 := n3_; clear n0_ n1_ n2_ n3_; clear hb hbox hg) | ((with_reducible refine gate_callee (f := 74) rfl ?_); refine goesL_ (some 11) rfl rfl Tryd.func74 (by kernel_rfl) rfl #[.string a0, .string (⟨#[32]⟩ : ByteArray)] rfl (by (try simp only [List.map_toArray, List.map_cons, List.map_nil]); first | done | rfl | (simp only [List.length_drop, List.length_take]; rfl)) ?_; (with_reducible refine (strings_Cut.calls a0 (⟨#[32]⟩ : ByteArray) t366 t367 true _ A2.out).mono ?_); rintro e w9 ⟨rfl, hb⟩; refine ⟨_, rfl, ?_⟩; have n0_ := Aside0.mk (blk_below (g := gb365) (o := .cells #[.string (⟨#[]⟩ : ByteArray), .int .u64 0, .int .u64 0] 44 (0, 0)) (by (with_reducible repeat (first | refine blk_drewN ?_ _ | refine blk_drew ?_ | refine blk_alloc ?_ _)); exact BK365.out) hb); have n1_ := Aside0.mk (below_step (by repeat (first | (with_reducible first | exact HB.out | apply below_alloc | apply pw_below_drewN | apply below_drew1 | refine below_set ?_ GE365.out) | exact HB.out)) hb); clear BK365; clear HB; have BK365 := n0_; have HB := n1_; clear n0_ n1_; (try clear hb); (try clear hb2); (try clear hk); (try clear hi)) | ((with_reducible refine gate_callee (f := 84) rfl ?_); refine goesL_ (some 17) rfl rfl Tryd.func84 (by kernel_rfl) rfl #[.string t367] rfl (by (try simp only [List.map_toArray, List.map_cons, List.map_nil]); first | done | rfl | (simp only [List.length_drop, List.length_take]; rfl)) ?_; (with_reducible refine (decimal_Parse.calls t367 t369 t370 t371 _ A3.out).mono ?_); rintro e w10 ⟨rfl, hb⟩; refine ⟨_, rfl, ?_⟩; have n0_ := Aside0.mk (blk_below (g := gb365) (o := .cells #[.string (⟨#[]⟩ : ByteArray), .int .u64 0, .int .u64 0] 44 (0, 0)) (by (with_reducible repeat (first | refine blk_drewN ?_ _ | refine blk_drew ?_ | refine blk_alloc ?_ _)); exact BK365.out) hb); have n1_ := Aside0.mk (below_step (by repeat (first | (with_reducible first | exact HB.out | apply below_alloc | apply pw_below_drewN | apply below_drew1 | refine below_set ?_ GE365.out) | exact HB.out)) hb); clear BK365; clear HB; have BK365 := n0_; have HB := n1_; clear n0_ n1_; (try clear hb); (try clear hb2); (try clear hk); (try clear hi)) | ((with_reducible refine gate_dst (N := 7) rfl ?_); refine box_event ?hg (N := 7) ?hd (cs := #[.int .u64 0, .int .u64 0]) (t := 42) ?hr ?_; (case hd => rfl); (case hg => rfl); (case hr => first | (go_simp; done) | (go_simp; rfl)); intro gb372 hg w11 hbox hb; have n0_ := Aside0.mk (blk_below (g := gb365) (o := .cells #[.string (⟨#[]⟩ : ByteArray), .int .u64 0, .int .u64 0] 44 (0, 0)) (by (with_reducible repeat (first | refine blk_drewN ?_ _ | refine blk_drew ?_ | refine blk_alloc ?_ _)); exact BK365.out) hb); have n1_ := Aside0.mk (below_step (by repeat (first | (with_reducible first | exact HB.out | apply below_alloc | apply pw_below_drewN | apply below_drew1 | refine below_set ?_ GE365.out) | exact HB.out)) hb); have n2_ := Aside0.mk (hbox); have n3_ := Aside0.mk ((by rw [hg]; exact (below_size (by repeat (first | (with_reducible first | exact HB.out | apply below_alloc | apply pw_below_drewN | apply below_drew1 | refine below_set ?_ GE365.out) | exact HB.out))) : w.heap.size ≤ gb372)); have n4_ := Aside0.mk ((by rw [hg]; exact (below_size (by repeat (first | (with_reducible first | exact HB.out | apply below_alloc | apply pw_below_drewN | apply below_drew1 | refine below_set ?_ GE365.out) | exact HB.out))) : w.heap.size ≤ gb372)); have n5_ := Aside0.mk ((by rw [hg]; exact Nat.ne_of_lt (blk_lt (g := gb365) (o := .cells #[.string (⟨#[]⟩ : ByteArray), .int .u64 0, .int .u64 0] 44 (0, 0)) (by (with_reducible repeat (first | refine blk_drewN ?_ _ | refine blk_drew ?_ | refine blk_alloc ?_ _)); exact BK365.out)) : gb365 ≠ gb372)); have n6_ := Aside0.mk ((by rw [hg]; exact Nat.ne_of_gt (blk_lt (g := gb365) (o := .cells #[.string (⟨#[]⟩ : ByteArray), .int .u64 0, .int .u64 0] 44 (0, 0)) (by (with_reducible repeat (first | refine blk_drewN ?_ _ | refine blk_drew ?_ | refine blk_alloc ?_ _)); exact BK365.out)) : gb372 ≠ gb365)); clear BK365; clear HB; have BK365 := n0_; have HB := n1_; have BK372 := n2_; have GW372 := n3_; have GE372 := n4_; have NB365_372 := n5_; have NB372_365 := n6_; clear n0_ n1_ n2_ n3_ n4_ n5_ n6_; clear hb hbox hg; have hnb12 := NB372_365.out; have hnc12 := NB365_372.out; have hcz13_0 : w11.cell? ⟨gb372, 0, none⟩ = some (.int .u64 0) := (blk_cell BK372.out 0).trans rfl; have hcz13_1 : w11.cell? ⟨gb372, 1, none⟩ = some (.int .u64 0) := (blk_cell BK372.out 1).trans rfl; have hfz13_0 := blk_frozen BK372.out 0; have hfz13_1 := blk_frozen BK372.out 1) | ((with_reducible refine gate_callee (f := 51) rfl ?_); refine goesL_ (some 26) rfl rfl Tryd.func51 (by kernel_rfl) rfl #[.string t366] rfl (by (try simp only [List.map_toArray, List.map_cons, List.map_nil]); first | done | rfl | (simp only [List.length_drop, List.length_take]; rfl)) ?_; (with_reducible refine (tag_MayId.calls t366 true _ ?side1 A5.out).mono ?_); (case side1 => exact gt_below hG (by repeat (first | (with_reducible first | exact HB.out | apply below_alloc | apply pw_below_drewN | apply below_drew1 | refine below_set ?_ GE365.out | refine below_set ?_ GE372.out) | exact HB.out))); rintro e w14 ⟨rfl, hb⟩; refine ⟨_, rfl, ?_⟩; have n0_ := Aside0.mk (blk_below (g := gb365) (o := .cells #[.string (⟨#[]⟩ : ByteArray), .int .u64 0, .int .u64 0] 44 (0, 0)) (by (with_reducible repeat (first | refine blk_drewN ?_ _ | refine blk_drew ?_ | refine blk_alloc ?_ _)); refine blk_far ?_ NB365_372.out _; (with_reducible repeat (first | refine blk_drewN ?_ _ | refine blk_drew ?_ | refine blk_alloc ?_ _)); refine blk_far ?_ NB365_372.out _; (with_reducible repeat (first | refine blk_drewN ?_ _ | refine blk_drew ?_ | refine blk_alloc ?_ _)); exact BK365.out) hb); have n1_ := Aside0.mk (blk_below (g := gb372) (o := .cells #[.int .u64 t369, .int .u64 t370] 42 (0, 0)) (by (with_reducible repeat (first | refine blk_drewN ?_ _ | refine blk_drew ?_ | refine blk_alloc ?_ _)); refine blk_put (cs := #[.int .u64 t369, .int .u64 0]) ?_ 1 _ rfl; (with_reducible repeat (first | refine blk_drewN ?_ _ | refine blk_drew ?_ | refine blk_alloc ?_ _)); refine blk_put (cs := #[.int .u64 0, .int .u64 0]) ?_ 0 _ rfl; (with_reducible repeat (first | refine blk_drewN ?_ _ | refine blk_drew ?_ | refine blk_alloc ?_ _)); exact BK372.out) hb); have n2_ := Aside0.mk (below_step (by repeat (first | (with_reducible first | exact HB.out | apply below_alloc | apply pw_below_drewN | apply below_drew1 | refine below_set ?_ GE365.out | refine below_set ?_ GE372.out) | exact HB.out)) hb); clear BK365; clear BK372; clear HB; have BK365 := n0_; have BK372 := n1_; have HB := n2_; clear n0_ n1_ n2_; (try clear hb); (try clear hb2); (try clear hk); (try clear hi); have hcz15_0 : w14.cell? ⟨gb372, 0, none⟩ = some (.int .u64 t369) := (blk_cell BK372.out 0).trans rfl; have hcz15_1 : w14.cell? ⟨gb372, 1, none⟩ = some (.int .u64 t370) := (blk_cell BK372.out 1).trans rfl; have hfz15_0 := blk_frozen BK372.out 0; have hfz15_1 := blk_frozen BK372.out 1; have hcz16_0 : w14.cell? ⟨gb365, 0, none⟩ = some (.string (⟨#[]⟩ : ByteArray)) := (blk_cell BK365.out 0).trans rfl; have hcz16_1 : w14.cell? ⟨gb365, 1, none⟩ = some (.int .u64 0) := (blk_cell BK365.out 1).trans rfl; have hcz16_2 : w14.cell? ⟨gb365, 2, none⟩ = some (.int .u64 0) := (blk_cell BK365.out 2).trans rfl; have hfz16_0 := blk_frozen BK365.out 0; have hfz16_1 := blk_frozen BK365.out 1; have hfz16_2 := blk_frozen BK365.out 2))
        refine bodyPost_ret (results_ct rfl _ _ gb365 44 #[.string t366, .int .u64 t369, .int .u64 t370] (0, 0) _ rfl (by (with_reducible repeat (first | refine blk_drewN ?_ _ | refine blk_drew ?_ | refine blk_alloc ?_ _)); refine blk_put (cs := #[.string t366, .int .u64 t369, .int .u64 0]) ?_ 2 _ rfl; (with_reducible repeat (first | refine blk_drewN ?_ _ | refine blk_drew ?_ | refine blk_alloc ?_ _)); refine blk_put (cs := #[.string t366, .int .u64 0, .int .u64 0]) ?_ 1 _ rfl; (with_reducible repeat (first | refine blk_drewN ?_ _ | refine blk_drew ?_ | refine blk_alloc ?_ _)); refine blk_put (cs := #[.string (⟨#[]⟩ : ByteArray), .int .u64 0, .int .u64 0]) ?_ 0 _ rfl; (with_reducible repeat (first | refine blk_drewN ?_ _ | refine blk_drew ?_ | refine blk_alloc ?_ _)); exact BK365.out) Tryd.underlying44 rfl (by kernel_rfl)) rfl ?_
        exact ⟨by first | rfl | (simp [errW_none, errW_some] <;> rfl) | (simp [*, errW_none, errW_some] <;> rfl), by repeat (first | (with_reducible first | exact HB.out | apply below_alloc | apply pw_below_drewN | apply below_drew1 | refine below_set ?_ GE365.out | refine below_set ?_ GE372.out) | exact HB.out)⟩
      · rw [if_neg c7] at H
        have c7b0 : (t371 == 0) = false := beq_eq_false_iff_ne.mpr c7
        have c7b1 : (t371 != 0) = true := bne_iff_ne.mpr c7
        simp only [Option.some.injEq, Prod.mk.injEq] at H
        obtain ⟨rfl, rfl, rfl, rfl⟩ := H
        go_enter Tryd.func47, Tryd.ntmps47
        go_wp2_with (first | ((with_reducible refine gate_dst (N := 2) rfl ?_); refine box_event ?hg (N := 2) ?hd (cs := #[.string (⟨#[]⟩ : ByteArray), .int .u64 0, .int .u64 0]) (t := 44) ?hr ?_; (case hd => rfl); (case hg => rfl); (case hr => first | (go_simp; done) | (go_simp; rfl)); intro gb365 hg w17 hbox hb; have n0_ := Aside0.mk (below_step (by repeat (first | (with_reducible first | exact HB.out | apply below_alloc | apply pw_below_drewN | apply below_drew1) | exact HB.out)) hb); have n1_ := Aside0.mk (hbox); have n2_ := Aside0.mk ((by rw [hg]; exact (below_size (by repeat (first | (with_reducible first | exact HB.out | apply below_alloc | apply pw_below_drewN | apply below_drew1) | exact HB.out))) : w.heap.size ≤ gb365)); have n3_ := Aside0.mk ((by rw [hg]; exact (below_size (by repeat (first | (with_reducible first | exact HB.out | apply below_alloc | apply pw_below_drewN | apply below_drew1) | exact HB.out))) : w.heap.size ≤ gb365)); clear HB; have HB := n0_; have BK365 := n1_; have GW365 := n2_; have GE365 := n3_; clear n0_ n1_ n2_ n3_; clear hb hbox hg) | ((with_reducible refine gate_callee (f := 74) rfl ?_); refine goesL_ (some 11) rfl rfl Tryd.func74 (by kernel_rfl) rfl #[.string a0, .string (⟨#[32]⟩ : ByteArray)] rfl (by (try simp only [List.map_toArray, List.map_cons, List.map_nil]); first | done | rfl | (simp only [List.length_drop, List.length_take]; rfl)) ?_; (with_reducible refine (strings_Cut.calls a0 (⟨#[32]⟩ : ByteArray) t366 t367 true _ A2.out).mono ?_); rintro e w18 ⟨rfl, hb⟩; refine ⟨_, rfl, ?_⟩; have n0_ := Aside0.mk (blk_below (g := gb365) (o := .cells #[.string (⟨#[]⟩ : ByteArray), .int .u64 0, .int .u64 0] 44 (0, 0)) (by (with_reducible repeat (first | refine blk_drewN ?_ _ | refine blk_drew ?_ | refine blk_alloc ?_ _)); exact BK365.out) hb); have n1_ := Aside0.mk (below_step (by repeat (first | (with_reducible first | exact HB.out | apply below_alloc | apply pw_below_drewN | apply below_drew1 | refine below_set ?_ GE365.out) | exact HB.out)) hb); clear BK365; clear HB; have BK365 := n0_; have HB := n1_; clear n0_ n1_; (try clear hb); (try clear hb2); (try clear hk); (try clear hi)) | ((with_reducible refine gate_callee (f := 84) rfl ?_); refine goesL_ (some 17) rfl rfl Tryd.func84 (by kernel_rfl) rfl #[.string t367] rfl (by (try simp only [List.map_toArray, List.map_cons, List.map_nil]); first | done | rfl | (simp only [List.length_drop, List.length_take]; rfl)) ?_; (with_reducible refine (decimal_Parse.calls t367 t369 t370 t371 _ A3.out).mono ?_); rintro e w19 ⟨rfl, hb⟩; refine ⟨_, rfl, ?_⟩; have n0_ := Aside0.mk (blk_below (g := gb365) (o := .cells #[.string (⟨#[]⟩ : ByteArray), .int .u64 0, .int .u64 0] 44 (0, 0)) (by (with_reducible repeat (first | refine blk_drewN ?_ _ | refine blk_drew ?_ | refine blk_alloc ?_ _)); exact BK365.out) hb); have n1_ := Aside0.mk (below_step (by repeat (first | (with_reducible first | exact HB.out | apply below_alloc | apply pw_below_drewN | apply below_drew1 | refine below_set ?_ GE365.out) | exact HB.out)) hb); clear BK365; clear HB; have BK365 := n0_; have HB := n1_; clear n0_ n1_; (try clear hb); (try clear hb2); (try clear hk); (try clear hi)) | ((with_reducible refine gate_dst (N := 7) rfl ?_); refine box_event ?hg (N := 7) ?hd (cs := #[.int .u64 0, .int .u64 0]) (t := 42) ?hr ?_; (case hd => rfl); (case hg => rfl); (case hr => first | (go_simp; done) | (go_simp; rfl)); intro gb372 hg w20 hbox hb; have n0_ := Aside0.mk (blk_below (g := gb365) (o := .cells #[.string (⟨#[]⟩ : ByteArray), .int .u64 0, .int .u64 0] 44 (0, 0)) (by (with_reducible repeat (first | refine blk_drewN ?_ _ | refine blk_drew ?_ | refine blk_alloc ?_ _)); exact BK365.out) hb); have n1_ := Aside0.mk (below_step (by repeat (first | (with_reducible first | exact HB.out | apply below_alloc | apply pw_below_drewN | apply below_drew1 | refine below_set ?_ GE365.out) | exact HB.out)) hb); have n2_ := Aside0.mk (hbox); have n3_ := Aside0.mk ((by rw [hg]; exact (below_size (by repeat (first | (with_reducible first | exact HB.out | apply below_alloc | apply pw_below_drewN | apply below_drew1 | refine below_set ?_ GE365.out) | exact HB.out))) : w.heap.size ≤ gb372)); have n4_ := Aside0.mk ((by rw [hg]; exact (below_size (by repeat (first | (with_reducible first | exact HB.out | apply below_alloc | apply pw_below_drewN | apply below_drew1 | refine below_set ?_ GE365.out) | exact HB.out))) : w.heap.size ≤ gb372)); have n5_ := Aside0.mk ((by rw [hg]; exact Nat.ne_of_lt (blk_lt (g := gb365) (o := .cells #[.string (⟨#[]⟩ : ByteArray), .int .u64 0, .int .u64 0] 44 (0, 0)) (by (with_reducible repeat (first | refine blk_drewN ?_ _ | refine blk_drew ?_ | refine blk_alloc ?_ _)); exact BK365.out)) : gb365 ≠ gb372)); have n6_ := Aside0.mk ((by rw [hg]; exact Nat.ne_of_gt (blk_lt (g := gb365) (o := .cells #[.string (⟨#[]⟩ : ByteArray), .int .u64 0, .int .u64 0] 44 (0, 0)) (by (with_reducible repeat (first | refine blk_drewN ?_ _ | refine blk_drew ?_ | refine blk_alloc ?_ _)); exact BK365.out)) : gb372 ≠ gb365)); clear BK365; clear HB; have BK365 := n0_; have HB := n1_; have BK372 := n2_; have GW372 := n3_; have GE372 := n4_; have NB365_372 := n5_; have NB372_365 := n6_; clear n0_ n1_ n2_ n3_ n4_ n5_ n6_; clear hb hbox hg; have hnb21 := NB372_365.out; have hnc21 := NB365_372.out; have hcz22_0 : w20.cell? ⟨gb372, 0, none⟩ = some (.int .u64 0) := (blk_cell BK372.out 0).trans rfl; have hcz22_1 : w20.cell? ⟨gb372, 1, none⟩ = some (.int .u64 0) := (blk_cell BK372.out 1).trans rfl; have hfz22_0 := blk_frozen BK372.out 0; have hfz22_1 := blk_frozen BK372.out 1) | ((with_reducible refine gate_callee (f := 51) rfl ?_); refine goesL_ (some 26) rfl rfl Tryd.func51 (by kernel_rfl) rfl #[.string t366] rfl (by (try simp only [List.map_toArray, List.map_cons, List.map_nil]); first | done | rfl | (simp only [List.length_drop, List.length_take]; rfl)) ?_; (with_reducible refine (tag_MayId.calls t366 true _ ?side1 A5.out).mono ?_); (case side1 => exact gt_below hG (by repeat (first | (with_reducible first | exact HB.out | apply below_alloc | apply pw_below_drewN | apply below_drew1 | refine below_set ?_ GE365.out | refine below_set ?_ GE372.out) | exact HB.out))); rintro e w23 ⟨rfl, hb⟩; refine ⟨_, rfl, ?_⟩; have n0_ := Aside0.mk (blk_below (g := gb365) (o := .cells #[.string (⟨#[]⟩ : ByteArray), .int .u64 0, .int .u64 0] 44 (0, 0)) (by (with_reducible repeat (first | refine blk_drewN ?_ _ | refine blk_drew ?_ | refine blk_alloc ?_ _)); refine blk_far ?_ NB365_372.out _; (with_reducible repeat (first | refine blk_drewN ?_ _ | refine blk_drew ?_ | refine blk_alloc ?_ _)); refine blk_far ?_ NB365_372.out _; (with_reducible repeat (first | refine blk_drewN ?_ _ | refine blk_drew ?_ | refine blk_alloc ?_ _)); exact BK365.out) hb); have n1_ := Aside0.mk (blk_below (g := gb372) (o := .cells #[.int .u64 t369, .int .u64 t370] 42 (0, 0)) (by (with_reducible repeat (first | refine blk_drewN ?_ _ | refine blk_drew ?_ | refine blk_alloc ?_ _)); refine blk_put (cs := #[.int .u64 t369, .int .u64 0]) ?_ 1 _ rfl; (with_reducible repeat (first | refine blk_drewN ?_ _ | refine blk_drew ?_ | refine blk_alloc ?_ _)); refine blk_put (cs := #[.int .u64 0, .int .u64 0]) ?_ 0 _ rfl; (with_reducible repeat (first | refine blk_drewN ?_ _ | refine blk_drew ?_ | refine blk_alloc ?_ _)); exact BK372.out) hb); have n2_ := Aside0.mk (below_step (by repeat (first | (with_reducible first | exact HB.out | apply below_alloc | apply pw_below_drewN | apply below_drew1 | refine below_set ?_ GE365.out | refine below_set ?_ GE372.out) | exact HB.out)) hb); clear BK365; clear BK372; clear HB; have BK365 := n0_; have BK372 := n1_; have HB := n2_; clear n0_ n1_ n2_; (try clear hb); (try clear hb2); (try clear hk); (try clear hi); have hcz24_0 : w23.cell? ⟨gb365, 0, none⟩ = some (.string (⟨#[]⟩ : ByteArray)) := (blk_cell BK365.out 0).trans rfl; have hcz24_1 : w23.cell? ⟨gb365, 1, none⟩ = some (.int .u64 0) := (blk_cell BK365.out 1).trans rfl; have hcz24_2 : w23.cell? ⟨gb365, 2, none⟩ = some (.int .u64 0) := (blk_cell BK365.out 2).trans rfl; have hfz24_0 := blk_frozen BK365.out 0; have hfz24_1 := blk_frozen BK365.out 1; have hfz24_2 := blk_frozen BK365.out 2))
        refine bodyPost_ret (results_ct rfl _ _ gb365 44 #[.string (⟨#[]⟩ : ByteArray), .int .u64 0, .int .u64 0] (0, 0) _ rfl (by (with_reducible repeat (first | refine blk_drewN ?_ _ | refine blk_drew ?_ | refine blk_alloc ?_ _)); refine blk_put (cs := #[.string (⟨#[]⟩ : ByteArray), .int .u64 0, .int .u64 0]) ?_ 2 _ rfl; (with_reducible repeat (first | refine blk_drewN ?_ _ | refine blk_drew ?_ | refine blk_alloc ?_ _)); refine blk_put (cs := #[.string (⟨#[]⟩ : ByteArray), .int .u64 0, .int .u64 0]) ?_ 1 _ rfl; (with_reducible repeat (first | refine blk_drewN ?_ _ | refine blk_drew ?_ | refine blk_alloc ?_ _)); refine blk_put (cs := #[.string (⟨#[]⟩ : ByteArray), .int .u64 0, .int .u64 0]) ?_ 0 _ rfl; (with_reducible repeat (first | refine blk_drewN ?_ _ | refine blk_drew ?_ | refine blk_alloc ?_ _)); exact BK365.out) Tryd.underlying44 rfl (by kernel_rfl)) rfl ?_
        exact ⟨by first | rfl | (simp [errW_none, errW_some] <;> rfl) | (simp [*, errW_none, errW_some] <;> rfl), by repeat (first | (with_reducible first | exact HB.out | apply below_alloc | apply pw_below_drewN | apply below_drew1 | refine below_set ?_ GE365.out | refine below_set ?_ GE372.out) | exact HB.out)⟩
    · replace c6 := Bool.eq_false_iff.mpr c6
      subst c6
      have H1 : (some ((⟨#[]⟩ : ByteArray), 0, 0, 101)) = some (r1, r2, r3, r4) := by rw [if_neg (show ¬ (false = true) by decide)] at H; exact H
      clear H
      have H := H1
      clear H1
      simp only [Option.some.injEq, Prod.mk.injEq] at H
      obtain ⟨rfl, rfl, rfl, rfl⟩ := H
      go_enter Tryd.func47, Tryd.ntmps47
      go_wp2_with (first | ((with_reducible refine gate_dst (N := 2) rfl ?_); refine box_event ?hg (N := 2) ?hd (cs := #[.string (⟨#[]⟩ : ByteArray), .int .u64 0, .int .u64 0]) (t := 44) ?hr ?_; (case hd => rfl); (case hg => rfl); (case hr => first | (go_simp; done) | (go_simp; rfl)); intro gb365 hg w25 hbox hb; have n0_ := Aside0.mk (below_step (by repeat (first | (with_reducible first | exact HB.out | apply below_alloc | apply pw_below_drewN | apply below_drew1) | exact HB.out)) hb); have n1_ := Aside0.mk (hbox); have n2_ := Aside0.mk ((by rw [hg]; exact (below_size (by repeat (first | (with_reducible first | exact HB.out | apply below_alloc | apply pw_below_drewN | apply below_drew1) | exact HB.out))) : w.heap.size ≤ gb365)); have n3_ := Aside0.mk ((by rw [hg]; exact (below_size (by repeat (first | (with_reducible first | exact HB.out | apply below_alloc | apply pw_below_drewN | apply below_drew1) | exact HB.out))) : w.heap.size ≤ gb365)); clear HB; have HB := n0_; have BK365 := n1_; have GW365 := n2_; have GE365 := n3_; clear n0_ n1_ n2_ n3_; clear hb hbox hg) | ((with_reducible refine gate_callee (f := 74) rfl ?_); refine goesL_ (some 11) rfl rfl Tryd.func74 (by kernel_rfl) rfl #[.string a0, .string (⟨#[32]⟩ : ByteArray)] rfl (by (try simp only [List.map_toArray, List.map_cons, List.map_nil]); first | done | rfl | (simp only [List.length_drop, List.length_take]; rfl)) ?_; (with_reducible refine (strings_Cut.calls a0 (⟨#[32]⟩ : ByteArray) t366 t367 true _ A2.out).mono ?_); rintro e w26 ⟨rfl, hb⟩; refine ⟨_, rfl, ?_⟩; have n0_ := Aside0.mk (blk_below (g := gb365) (o := .cells #[.string (⟨#[]⟩ : ByteArray), .int .u64 0, .int .u64 0] 44 (0, 0)) (by (with_reducible repeat (first | refine blk_drewN ?_ _ | refine blk_drew ?_ | refine blk_alloc ?_ _)); exact BK365.out) hb); have n1_ := Aside0.mk (below_step (by repeat (first | (with_reducible first | exact HB.out | apply below_alloc | apply pw_below_drewN | apply below_drew1 | refine below_set ?_ GE365.out) | exact HB.out)) hb); clear BK365; clear HB; have BK365 := n0_; have HB := n1_; clear n0_ n1_; (try clear hb); (try clear hb2); (try clear hk); (try clear hi)) | ((with_reducible refine gate_callee (f := 84) rfl ?_); refine goesL_ (some 17) rfl rfl Tryd.func84 (by kernel_rfl) rfl #[.string t367] rfl (by (try simp only [List.map_toArray, List.map_cons, List.map_nil]); first | done | rfl | (simp only [List.length_drop, List.length_take]; rfl)) ?_; (with_reducible refine (decimal_Parse.calls t367 t369 t370 t371 _ A3.out).mono ?_); rintro e w27 ⟨rfl, hb⟩; refine ⟨_, rfl, ?_⟩; have n0_ := Aside0.mk (blk_below (g := gb365) (o := .cells #[.string (⟨#[]⟩ : ByteArray), .int .u64 0, .int .u64 0] 44 (0, 0)) (by (with_reducible repeat (first | refine blk_drewN ?_ _ | refine blk_drew ?_ | refine blk_alloc ?_ _)); exact BK365.out) hb); have n1_ := Aside0.mk (below_step (by repeat (first | (with_reducible first | exact HB.out | apply below_alloc | apply pw_below_drewN | apply below_drew1 | refine below_set ?_ GE365.out) | exact HB.out)) hb); clear BK365; clear HB; have BK365 := n0_; have HB := n1_; clear n0_ n1_; (try clear hb); (try clear hb2); (try clear hk); (try clear hi)) | ((with_reducible refine gate_dst (N := 7) rfl ?_); refine box_event ?hg (N := 7) ?hd (cs := #[.int .u64 0, .int .u64 0]) (t := 42) ?hr ?_; (case hd => rfl); (case hg => rfl); (case hr => first | (go_simp; done) | (go_simp; rfl)); intro gb372 hg w28 hbox hb; have n0_ := Aside0.mk (blk_below (g := gb365) (o := .cells #[.string (⟨#[]⟩ : ByteArray), .int .u64 0, .int .u64 0] 44 (0, 0)) (by (with_reducible repeat (first | refine blk_drewN ?_ _ | refine blk_drew ?_ | refine blk_alloc ?_ _)); exact BK365.out) hb); have n1_ := Aside0.mk (below_step (by repeat (first | (with_reducible first | exact HB.out | apply below_alloc | apply pw_below_drewN | apply below_drew1 | refine below_set ?_ GE365.out) | exact HB.out)) hb); have n2_ := Aside0.mk (hbox); have n3_ := Aside0.mk ((by rw [hg]; exact (below_size (by repeat (first | (with_reducible first | exact HB.out | apply below_alloc | apply pw_below_drewN | apply below_drew1 | refine below_set ?_ GE365.out) | exact HB.out))) : w.heap.size ≤ gb372)); have n4_ := Aside0.mk ((by rw [hg]; exact (below_size (by repeat (first | (with_reducible first | exact HB.out | apply below_alloc | apply pw_below_drewN | apply below_drew1 | refine below_set ?_ GE365.out) | exact HB.out))) : w.heap.size ≤ gb372)); have n5_ := Aside0.mk ((by rw [hg]; exact Nat.ne_of_lt (blk_lt (g := gb365) (o := .cells #[.string (⟨#[]⟩ : ByteArray), .int .u64 0, .int .u64 0] 44 (0, 0)) (by (with_reducible repeat (first | refine blk_drewN ?_ _ | refine blk_drew ?_ | refine blk_alloc ?_ _)); exact BK365.out)) : gb365 ≠ gb372)); have n6_ := Aside0.mk ((by rw [hg]; exact Nat.ne_of_gt (blk_lt (g := gb365) (o := .cells #[.string (⟨#[]⟩ : ByteArray), .int .u64 0, .int .u64 0] 44 (0, 0)) (by (with_reducible repeat (first | refine blk_drewN ?_ _ | refine blk_drew ?_ | refine blk_alloc ?_ _)); exact BK365.out)) : gb372 ≠ gb365)); clear BK365; clear HB; have BK365 := n0_; have HB := n1_; have BK372 := n2_; have GW372 := n3_; have GE372 := n4_; have NB365_372 := n5_; have NB372_365 := n6_; clear n0_ n1_ n2_ n3_ n4_ n5_ n6_; clear hb hbox hg; have hnb29 := NB372_365.out; have hnc29 := NB365_372.out; have hcz30_0 : w28.cell? ⟨gb372, 0, none⟩ = some (.int .u64 0) := (blk_cell BK372.out 0).trans rfl; have hcz30_1 : w28.cell? ⟨gb372, 1, none⟩ = some (.int .u64 0) := (blk_cell BK372.out 1).trans rfl; have hfz30_0 := blk_frozen BK372.out 0; have hfz30_1 := blk_frozen BK372.out 1) | ((with_reducible refine gate_callee (f := 51) rfl ?_); refine goesL_ (some 26) rfl rfl Tryd.func51 (by kernel_rfl) rfl #[.string t366] rfl (by (try simp only [List.map_toArray, List.map_cons, List.map_nil]); first | done | rfl | (simp only [List.length_drop, List.length_take]; rfl)) ?_; (with_reducible refine (tag_MayId.calls t366 false _ ?side1 A5.out).mono ?_); (case side1 => exact gt_below hG (by repeat (first | (with_reducible first | exact HB.out | apply below_alloc | apply pw_below_drewN | apply below_drew1 | refine below_set ?_ GE365.out | refine below_set ?_ GE372.out) | exact HB.out))); rintro e w31 ⟨rfl, hb⟩; refine ⟨_, rfl, ?_⟩; have n0_ := Aside0.mk (blk_below (g := gb365) (o := .cells #[.string (⟨#[]⟩ : ByteArray), .int .u64 0, .int .u64 0] 44 (0, 0)) (by (with_reducible repeat (first | refine blk_drewN ?_ _ | refine blk_drew ?_ | refine blk_alloc ?_ _)); refine blk_far ?_ NB365_372.out _; (with_reducible repeat (first | refine blk_drewN ?_ _ | refine blk_drew ?_ | refine blk_alloc ?_ _)); refine blk_far ?_ NB365_372.out _; (with_reducible repeat (first | refine blk_drewN ?_ _ | refine blk_drew ?_ | refine blk_alloc ?_ _)); exact BK365.out) hb); have n1_ := Aside0.mk (blk_below (g := gb372) (o := .cells #[.int .u64 t369, .int .u64 t370] 42 (0, 0)) (by (with_reducible repeat (first | refine blk_drewN ?_ _ | refine blk_drew ?_ | refine blk_alloc ?_ _)); refine blk_put (cs := #[.int .u64 t369, .int .u64 0]) ?_ 1 _ rfl; (with_reducible repeat (first | refine blk_drewN ?_ _ | refine blk_drew ?_ | refine blk_alloc ?_ _)); refine blk_put (cs := #[.int .u64 0, .int .u64 0]) ?_ 0 _ rfl; (with_reducible repeat (first | refine blk_drewN ?_ _ | refine blk_drew ?_ | refine blk_alloc ?_ _)); exact BK372.out) hb); have n2_ := Aside0.mk (below_step (by repeat (first | (with_reducible first | exact HB.out | apply below_alloc | apply pw_below_drewN | apply below_drew1 | refine below_set ?_ GE365.out | refine below_set ?_ GE372.out) | exact HB.out)) hb); clear BK365; clear BK372; clear HB; have BK365 := n0_; have BK372 := n1_; have HB := n2_; clear n0_ n1_ n2_; (try clear hb); (try clear hb2); (try clear hk); (try clear hi); have hcz32_0 : w31.cell? ⟨gb365, 0, none⟩ = some (.string (⟨#[]⟩ : ByteArray)) := (blk_cell BK365.out 0).trans rfl; have hcz32_1 : w31.cell? ⟨gb365, 1, none⟩ = some (.int .u64 0) := (blk_cell BK365.out 1).trans rfl; have hcz32_2 : w31.cell? ⟨gb365, 2, none⟩ = some (.int .u64 0) := (blk_cell BK365.out 2).trans rfl; have hfz32_0 := blk_frozen BK365.out 0; have hfz32_1 := blk_frozen BK365.out 1; have hfz32_2 := blk_frozen BK365.out 2))
      refine bodyPost_ret (results_ct rfl _ _ gb365 44 #[.string (⟨#[]⟩ : ByteArray), .int .u64 0, .int .u64 0] (0, 0) _ rfl (by (with_reducible repeat (first | refine blk_drewN ?_ _ | refine blk_drew ?_ | refine blk_alloc ?_ _)); refine blk_put (cs := #[.string (⟨#[]⟩ : ByteArray), .int .u64 0, .int .u64 0]) ?_ 2 _ rfl; (with_reducible repeat (first | refine blk_drewN ?_ _ | refine blk_drew ?_ | refine blk_alloc ?_ _)); refine blk_put (cs := #[.string (⟨#[]⟩ : ByteArray), .int .u64 0, .int .u64 0]) ?_ 1 _ rfl; (with_reducible repeat (first | refine blk_drewN ?_ _ | refine blk_drew ?_ | refine blk_alloc ?_ _)); refine blk_put (cs := #[.string (⟨#[]⟩ : ByteArray), .int .u64 0, .int .u64 0]) ?_ 0 _ rfl; (with_reducible repeat (first | refine blk_drewN ?_ _ | refine blk_drew ?_ | refine blk_alloc ?_ _)); exact BK365.out) Tryd.underlying44 rfl (by kernel_rfl)) rfl ?_
      exact ⟨by first | rfl | (simp [errW_none, errW_some] <;> rfl) | (simp [*, errW_none, errW_some] <;> rfl), by repeat (first | (with_reducible first | exact HB.out | apply below_alloc | apply pw_below_drewN | apply below_drew1 | refine below_set ?_ GE365.out | refine below_set ?_ GE372.out) | exact HB.out)⟩
  · replace c4 := Bool.eq_false_iff.mpr c4
    subst c4
    have H1 : (some ((⟨#[]⟩ : ByteArray), 0, 0, 100)) = some (r1, r2, r3, r4) := by rw [if_neg (show ¬ (false = true) by decide)] at H; exact H
    clear H
    have H := H1
    clear H1
    simp only [Option.some.injEq, Prod.mk.injEq] at H
    obtain ⟨rfl, rfl, rfl, rfl⟩ := H
    go_enter Tryd.func47, Tryd.ntmps47
    go_wp2_with (first | ((with_reducible refine gate_dst (N := 2) rfl ?_); refine box_event ?hg (N := 2) ?hd (cs := #[.string (⟨#[]⟩ : ByteArray), .int .u64 0, .int .u64 0]) (t := 44) ?hr ?_; (case hd => rfl); (case hg => rfl); (case hr => first | (go_simp; done) | (go_simp; rfl)); intro gb365 hg w33 hbox hb; have n0_ := Aside0.mk (below_step (by repeat (first | (with_reducible first | exact HB.out | apply below_alloc | apply pw_below_drewN | apply below_drew1) | exact HB.out)) hb); have n1_ := Aside0.mk (hbox); have n2_ := Aside0.mk ((by rw [hg]; exact (below_size (by repeat (first | (with_reducible first | exact HB.out | apply below_alloc | apply pw_below_drewN | apply below_drew1) | exact HB.out))) : w.heap.size ≤ gb365)); have n3_ := Aside0.mk ((by rw [hg]; exact (below_size (by repeat (first | (with_reducible first | exact HB.out | apply below_alloc | apply pw_below_drewN | apply below_drew1) | exact HB.out))) : w.heap.size ≤ gb365)); clear HB; have HB := n0_; have BK365 := n1_; have GW365 := n2_; have GE365 := n3_; clear n0_ n1_ n2_ n3_; clear hb hbox hg) | ((with_reducible refine gate_callee (f := 74) rfl ?_); refine goesL_ (some 11) rfl rfl Tryd.func74 (by kernel_rfl) rfl #[.string a0, .string (⟨#[32]⟩ : ByteArray)] rfl (by (try simp only [List.map_toArray, List.map_cons, List.map_nil]); first | done | rfl | (simp only [List.length_drop, List.length_take]; rfl)) ?_; (with_reducible refine (strings_Cut.calls a0 (⟨#[32]⟩ : ByteArray) t366 t367 false _ A2.out).mono ?_); rintro e w34 ⟨rfl, hb⟩; refine ⟨_, rfl, ?_⟩; have n0_ := Aside0.mk (blk_below (g := gb365) (o := .cells #[.string (⟨#[]⟩ : ByteArray), .int .u64 0, .int .u64 0] 44 (0, 0)) (by (with_reducible repeat (first | refine blk_drewN ?_ _ | refine blk_drew ?_ | refine blk_alloc ?_ _)); exact BK365.out) hb); have n1_ := Aside0.mk (below_step (by repeat (first | (with_reducible first | exact HB.out | apply below_alloc | apply pw_below_drewN | apply below_drew1 | refine below_set ?_ GE365.out) | exact HB.out)) hb); clear BK365; clear HB; have BK365 := n0_; have HB := n1_; clear n0_ n1_; (try clear hb); (try clear hb2); (try clear hk); (try clear hi)) | ((with_reducible refine gate_callee (f := 84) rfl ?_); refine goesL_ (some 17) rfl rfl Tryd.func84 (by kernel_rfl) rfl #[.string t367] rfl (by (try simp only [List.map_toArray, List.map_cons, List.map_nil]); first | done | rfl | (simp only [List.length_drop, List.length_take]; rfl)) ?_; (with_reducible refine (decimal_Parse.calls t367 t369 t370 t371 _ A3.out).mono ?_); rintro e w35 ⟨rfl, hb⟩; refine ⟨_, rfl, ?_⟩; have n0_ := Aside0.mk (blk_below (g := gb365) (o := .cells #[.string (⟨#[]⟩ : ByteArray), .int .u64 0, .int .u64 0] 44 (0, 0)) (by (with_reducible repeat (first | refine blk_drewN ?_ _ | refine blk_drew ?_ | refine blk_alloc ?_ _)); exact BK365.out) hb); have n1_ := Aside0.mk (below_step (by repeat (first | (with_reducible first | exact HB.out | apply below_alloc | apply pw_below_drewN | apply below_drew1 | refine below_set ?_ GE365.out) | exact HB.out)) hb); clear BK365; clear HB; have BK365 := n0_; have HB := n1_; clear n0_ n1_; (try clear hb); (try clear hb2); (try clear hk); (try clear hi)) | ((with_reducible refine gate_dst (N := 7) rfl ?_); refine box_event ?hg (N := 7) ?hd (cs := #[.int .u64 0, .int .u64 0]) (t := 42) ?hr ?_; (case hd => rfl); (case hg => rfl); (case hr => first | (go_simp; done) | (go_simp; rfl)); intro gb372 hg w36 hbox hb; have n0_ := Aside0.mk (blk_below (g := gb365) (o := .cells #[.string (⟨#[]⟩ : ByteArray), .int .u64 0, .int .u64 0] 44 (0, 0)) (by (with_reducible repeat (first | refine blk_drewN ?_ _ | refine blk_drew ?_ | refine blk_alloc ?_ _)); exact BK365.out) hb); have n1_ := Aside0.mk (below_step (by repeat (first | (with_reducible first | exact HB.out | apply below_alloc | apply pw_below_drewN | apply below_drew1 | refine below_set ?_ GE365.out) | exact HB.out)) hb); have n2_ := Aside0.mk (hbox); have n3_ := Aside0.mk ((by rw [hg]; exact (below_size (by repeat (first | (with_reducible first | exact HB.out | apply below_alloc | apply pw_below_drewN | apply below_drew1 | refine below_set ?_ GE365.out) | exact HB.out))) : w.heap.size ≤ gb372)); have n4_ := Aside0.mk ((by rw [hg]; exact (below_size (by repeat (first | (with_reducible first | exact HB.out | apply below_alloc | apply pw_below_drewN | apply below_drew1 | refine below_set ?_ GE365.out) | exact HB.out))) : w.heap.size ≤ gb372)); have n5_ := Aside0.mk ((by rw [hg]; exact Nat.ne_of_lt (blk_lt (g := gb365) (o := .cells #[.string (⟨#[]⟩ : ByteArray), .int .u64 0, .int .u64 0] 44 (0, 0)) (by (with_reducible repeat (first | refine blk_drewN ?_ _ | refine blk_drew ?_ | refine blk_alloc ?_ _)); exact BK365.out)) : gb365 ≠ gb372)); have n6_ := Aside0.mk ((by rw [hg]; exact Nat.ne_of_gt (blk_lt (g := gb365) (o := .cells #[.string (⟨#[]⟩ : ByteArray), .int .u64 0, .int .u64 0] 44 (0, 0)) (by (with_reducible repeat (first | refine blk_drewN ?_ _ | refine blk_drew ?_ | refine blk_alloc ?_ _)); exact BK365.out)) : gb372 ≠ gb365)); clear BK365; clear HB; have BK365 := n0_; have HB := n1_; have BK372 := n2_; have GW372 := n3_; have GE372 := n4_; have NB365_372 := n5_; have NB372_365 := n6_; clear n0_ n1_ n2_ n3_ n4_ n5_ n6_; clear hb hbox hg; have hnb37 := NB372_365.out; have hnc37 := NB365_372.out; have hcz38_0 : w36.cell? ⟨gb372, 0, none⟩ = some (.int .u64 0) := (blk_cell BK372.out 0).trans rfl; have hcz38_1 : w36.cell? ⟨gb372, 1, none⟩ = some (.int .u64 0) := (blk_cell BK372.out 1).trans rfl; have hfz38_0 := blk_frozen BK372.out 0; have hfz38_1 := blk_frozen BK372.out 1; have hcz39_0 : w36.cell? ⟨gb365, 0, none⟩ = some (.string (⟨#[]⟩ : ByteArray)) := (blk_cell BK365.out 0).trans rfl; have hcz39_1 : w36.cell? ⟨gb365, 1, none⟩ = some (.int .u64 0) := (blk_cell BK365.out 1).trans rfl; have hcz39_2 : w36.cell? ⟨gb365, 2, none⟩ = some (.int .u64 0) := (blk_cell BK365.out 2).trans rfl; have hfz39_0 := blk_frozen BK365.out 0; have hfz39_1 := blk_frozen BK365.out 1; have hfz39_2 := blk_frozen BK365.out 2))
    refine bodyPost_ret (results_ct rfl _ _ gb365 44 #[.string (⟨#[]⟩ : ByteArray), .int .u64 0, .int .u64 0] (0, 0) _ rfl (by (with_reducible repeat (first | refine blk_drewN ?_ _ | refine blk_drew ?_ | refine blk_alloc ?_ _)); refine blk_put (cs := #[.string (⟨#[]⟩ : ByteArray), .int .u64 0, .int .u64 0]) ?_ 2 _ rfl; (with_reducible repeat (first | refine blk_drewN ?_ _ | refine blk_drew ?_ | refine blk_alloc ?_ _)); refine blk_put (cs := #[.string (⟨#[]⟩ : ByteArray), .int .u64 0, .int .u64 0]) ?_ 1 _ rfl; (with_reducible repeat (first | refine blk_drewN ?_ _ | refine blk_drew ?_ | refine blk_alloc ?_ _)); refine blk_put (cs := #[.string (⟨#[]⟩ : ByteArray), .int .u64 0, .int .u64 0]) ?_ 0 _ rfl; (with_reducible repeat (first | refine blk_drewN ?_ _ | refine blk_drew ?_ | refine blk_alloc ?_ _)); refine blk_far ?_ NB365_372.out _; (with_reducible repeat (first | refine blk_drewN ?_ _ | refine blk_drew ?_ | refine blk_alloc ?_ _)); refine blk_far ?_ NB365_372.out _; (with_reducible repeat (first | refine blk_drewN ?_ _ | refine blk_drew ?_ | refine blk_alloc ?_ _)); exact BK365.out) Tryd.underlying44 rfl (by kernel_rfl)) rfl ?_
    exact ⟨by first | rfl | (simp [errW_none, errW_some] <;> rfl) | (simp [*, errW_none, errW_some] <;> rfl), by repeat (first | (with_reducible first | exact HB.out | apply below_alloc | apply pw_below_drewN | apply below_drew1 | refine below_set ?_ GE365.out | refine below_set ?_ GE372.out) | exact HB.out)⟩
end Go.Proofs.YtpkjpiphjdpegaaDoor.P
namespace Go.Proofs.YtpkjpiphjdpegaaDoor.P
open Go.RowKit Go.Proofs.YtpkjpiphjdpegaaDoorW.PrintWords Go.Proofs.YtpkjpiphjdpegaaDoorW.PrintLast Go.Proofs.YtpkjpiphjdpegaaDoorW.PrintMore
attribute [local go_sem] max2_int min2_int max_two min_two max_three min_three max_four min_four
set_option linter.unusedVariables false
set_option linter.unusedSimpArgs false
def row_Text.f (a0_0 : ByteArray) (a0_1 : Int) (a0_2 : Int) : Option (ByteArray × Int) := (tag_MayId.f a0_0).bind fun t603 => (if t603 = true then (if a0_0.size + 1 ≤ 9223372036854775807 then ((decimal_Text.f a0_1 a0_2).bind fun t604 => (if (a0_0 ++ (⟨#[32]⟩ : ByteArray)).size + t604.size ≤ 9223372036854775807 then (some ((a0_0 ++ (⟨#[32]⟩ : ByteArray)) ++ t604, 0)) else (none))) else (none)) else (some ((⟨#[]⟩ : ByteArray), 101)))
def row_Text.T3 : Bool × List (List Nat × List Nat) := (true, [([], []), ([0], [0]), ([1], [1]), ([], []), ([3], [3]), ([4], [4]), ([2, 5], [2, 5]), ([6, 5, 0, 1, 2, 3, 4, 5, 6], [6]), ([7, 0, 1, 2, 3, 4, 5, 6, 7], [])])
def row_Text.B3 : List Nat := [0, 1, 3, 0, 8, 24, 63, 127, 255]
theorem row_Text.tab3 : rtab .any (opsOf Tryd.f48 3) = row_Text.T3 := by kernel_rfl
theorem row_Text.bits3 : waitsOk row_Text.T3.2 row_Text.B3 = true := by kernel_rfl
set_option maxHeartbeats 8000000 in
set_option maxRecDepth 100000 in
theorem row_Text.calls (a0_0 : ByteArray) (a0_1 : Int) (a0_2 : Int) (r1 : ByteArray) (r2 : Int) (w : World) (hG : GT w) (h : row_Text.f a0_0 a0_1 a0_2 = some (r1, r2)) :
    Calls Tryd.prog 48 #[.agg #[.string a0_0, .int .u64 a0_1, .int .u64 a0_2]] w fun e w' => e = .returned (.tuple #[.string r1, .int .i64 r2]) ∧ Below w.heap.size w w' := by
  have hu44 := Tryd.underlying44
  have hu42 := Tryd.underlying42
  have HB := Aside0.mk (Below.refl w.heap.size w)
  have H : ((tag_MayId.f a0_0).bind fun t603 => (if t603 = true then (if a0_0.size + 1 ≤ 9223372036854775807 then ((decimal_Text.f a0_1 a0_2).bind fun t604 => (if (a0_0 ++ (⟨#[32]⟩ : ByteArray)).size + t604.size ≤ 9223372036854775807 then (some ((a0_0 ++ (⟨#[32]⟩ : ByteArray)) ++ t604, 0)) else (none))) else (none)) else (some ((⟨#[]⟩ : ByteArray), 101)))) = some (r1, r2) := h
  clear h
  replace H := Option.bind_eq_some_iff.mp H
  obtain ⟨t603, A20, H⟩ := H
  replace H : (if t603 = true then (if a0_0.size + 1 ≤ 9223372036854775807 then ((decimal_Text.f a0_1 a0_2).bind fun t604 => (if (a0_0 ++ (⟨#[32]⟩ : ByteArray)).size + t604.size ≤ 9223372036854775807 then (some ((a0_0 ++ (⟨#[32]⟩ : ByteArray)) ++ t604, 0)) else (none))) else (none)) else (some ((⟨#[]⟩ : ByteArray), 101))) = some (r1, r2) := H
  have A2 := Aside0.mk A20
  clear A20
  by_cases c3 : t603 = true
  · subst c3
    have H1 : (if a0_0.size + 1 ≤ 9223372036854775807 then ((decimal_Text.f a0_1 a0_2).bind fun t604 => (if (a0_0 ++ (⟨#[32]⟩ : ByteArray)).size + t604.size ≤ 9223372036854775807 then (some ((a0_0 ++ (⟨#[32]⟩ : ByteArray)) ++ t604, 0)) else (none))) else (none)) = some (r1, r2) := by rw [if_pos rfl] at H; exact H
    clear H
    have H := H1
    clear H1
    by_cases c4 : a0_0.size + 1 ≤ 9223372036854775807
    · rw [if_pos c4] at H
      have c4b0 := eq_true c4
      have c4b1 : decide (a0_0.size + 1 ≤ 9223372036854775807) = true := decide_eq_true c4
      try have c4b2 : (9223372036854775807 < a0_0.size + 1) = False := eq_false (Nat.not_lt.2 c4)
      replace H := Option.bind_eq_some_iff.mp H
      obtain ⟨t604, A50, H⟩ := H
      replace H : (if (a0_0 ++ (⟨#[32]⟩ : ByteArray)).size + t604.size ≤ 9223372036854775807 then (some ((a0_0 ++ (⟨#[32]⟩ : ByteArray)) ++ t604, 0)) else (none)) = some (r1, r2) := H
      have A5 := Aside0.mk A50
      clear A50
      by_cases c6 : (a0_0 ++ (⟨#[32]⟩ : ByteArray)).size + t604.size ≤ 9223372036854775807
      · rw [if_pos c6] at H
        have c6b0 := eq_true c6
        have c6b1 : decide ((a0_0 ++ (⟨#[32]⟩ : ByteArray)).size + t604.size ≤ 9223372036854775807) = true := decide_eq_true c6
        try have c6b2 : (9223372036854775807 < (a0_0 ++ (⟨#[32]⟩ : ByteArray)).size + t604.size) = False := eq_false (Nat.not_lt.2 c6)
        try have c6b3 : (9223372036854775807 < a0_0.size + 1 + t604.size) = False := eq_false (by have e_ := c6; repeat rw [ByteArray.size_append] at e_; exact Nat.not_lt.2 e_)
        simp only [Option.some.injEq, Prod.mk.injEq] at H
        obtain ⟨rfl, rfl⟩ := H
        go_enter Tryd.func48, Tryd.ntmps48
        try go_wp2_with (first | ((with_reducible refine gate_dst (N := 1) rfl ?_); refine box_event ?hg (N := 1) ?hd (cs := #[.string a0_0, .int .u64 a0_1, .int .u64 a0_2]) (t := 44) ?hr ?_; (case hd => rfl); (case hg => rfl); (case hr => first | (go_simp; done) | (go_simp; rfl)); intro gb602 hg w7 hbox hb; have n0_ := Aside0.mk (below_step (by repeat (first | (with_reducible first | exact HB.out | apply below_alloc | apply pw_below_drewN | apply below_drew1) | exact HB.out)) hb); have n1_ := Aside0.mk (hbox); have n2_ := Aside0.mk ((by rw [hg]; exact (below_size (by repeat (first | (with_reducible first | exact HB.out | apply below_alloc | apply pw_below_drewN | apply below_drew1) | exact HB.out))) : w.heap.size ≤ gb602)); have n3_ := Aside0.mk ((by rw [hg]; exact (below_size (by repeat (first | (with_reducible first | exact HB.out | apply below_alloc | apply pw_below_drewN | apply below_drew1) | exact HB.out))) : w.heap.size ≤ gb602)); clear HB; have HB := n0_; have BK602 := n1_; have GW602 := n2_; have GE602 := n3_; clear n0_ n1_ n2_ n3_; clear hb hbox hg; have hcz8_0 : w7.cell? ⟨gb602, 0, none⟩ = some (.string a0_0) := (blk_cell BK602.out 0).trans rfl; have hcz8_1 : w7.cell? ⟨gb602, 1, none⟩ = some (.int .u64 a0_1) := (blk_cell BK602.out 1).trans rfl; have hcz8_2 : w7.cell? ⟨gb602, 2, none⟩ = some (.int .u64 a0_2) := (blk_cell BK602.out 2).trans rfl; have hfz8_0 := blk_frozen BK602.out 0; have hfz8_1 := blk_frozen BK602.out 1; have hfz8_2 := blk_frozen BK602.out 2) | ((with_reducible refine gate_callee (f := 51) rfl ?_); refine goesL_ (some 6) rfl rfl Tryd.func51 (by kernel_rfl) rfl #[.string a0_0] rfl (by (try simp only [List.map_toArray, List.map_cons, List.map_nil]); first | done | rfl | (simp only [List.length_drop, List.length_take]; rfl)) ?_; (with_reducible refine (tag_MayId.calls a0_0 true _ ?side1 A2.out).mono ?_); (case side1 => exact gt_below hG (by repeat (first | (with_reducible first | exact HB.out | apply below_alloc | apply pw_below_drewN | apply below_drew1 | refine below_set ?_ GE602.out) | exact HB.out))); rintro e w9 ⟨rfl, hb⟩; refine ⟨_, rfl, ?_⟩; have n0_ := Aside0.mk (blk_below (g := gb602) (o := .cells #[.string a0_0, .int .u64 a0_1, .int .u64 a0_2] 44 (0, 0)) (by (with_reducible repeat (first | refine blk_drewN ?_ _ | refine blk_drew ?_ | refine blk_alloc ?_ _)); exact BK602.out) hb); have n1_ := Aside0.mk (below_step (by repeat (first | (with_reducible first | exact HB.out | apply below_alloc | apply pw_below_drewN | apply below_drew1 | refine below_set ?_ GE602.out) | exact HB.out)) hb); clear BK602; clear HB; have BK602 := n0_; have HB := n1_; clear n0_ n1_; (try clear hb); (try clear hb2); (try clear hk); (try clear hi)))
        have n0_ := Aside0.mk (blk_drew BK602.out)
        have n1_ := Aside0.mk (below_drew1 HB.out)
        clear BK602
        clear HB
        have BK602 := n0_
        have HB := n1_
        clear n0_ n1_
        refine start_ (n := 9) (S := fun w' => w'.cell? ⟨gb602, 0, none⟩ = some (.string a0_0) ∧ w'.cell? ⟨gb602, 1, none⟩ = some (.int .u64 a0_1) ∧ w'.cell? ⟨gb602, 2, none⟩ = some (.int .u64 a0_2)) (ds := []) #[false, false, false, false, false, false, false, false, false] (by kernel_rfl) rfl rfl ⟨(blk_cell BK602.out 0).trans rfl, (blk_cell BK602.out 1).trans rfl, (blk_cell BK602.out 2).trans rfl⟩ (fun hHeld => ?_); refine with_tabW row_Text.tab3 row_Text.bits3 (fun HT_ HW_ => ?_)
        generalize w9.drew = w10 at BK602 HB hHeld ⊢
        refine pure_ (i := 0) (N := some 8) (v := ?_) (a' := ?_) #[true, false, false, false, false, false, false, false, false] rfl rfl (any_of HT_.out (by kernel_rfl)) (fun _ _ _ h => h) (Or.inl ⟨by rfl, ?_⟩) ?_ ?_
        rotate_left
        · intro w'
          go_simp
          with_reducible rfl
        rotate_left
        · simp only [Act.put, List.setIfInBounds_toArray, List.set_cons_zero, List.set_cons_succ, i64_w, i32_w]
          rfl
        refine pure_ (i := 3) (N := some 11) (v := ?_) (a' := ?_) #[true, false, false, true, false, false, false, false, false] rfl rfl (any_of HT_.out (by kernel_rfl)) (fun _ _ _ h => h) (Or.inl ⟨by rfl, ?_⟩) ?_ ?_
        rotate_left
        · intro w'
          go_simp
          with_reducible rfl
        rotate_left
        · simp only [Act.put, List.setIfInBounds_toArray, List.set_cons_zero, List.set_cons_succ, i64_w, i32_w]
          rfl
        refine take_ (i := 1) (N := some 9) (v := ?_) (a' := ?_) #[true, true, false, true, false, false, false, false, false] rfl rfl (take_ofW HT_.out HW_.out (by kernel_rfl)) (fun _ _ _ h => h) (Or.inl ⟨by rfl, ?_⟩) hHeld ?_ ?_
        rotate_left
        · rintro w' ⟨s0, s1, s2⟩
          go_simp
          with_reducible rfl
        rotate_left
        · simp only [Act.put, List.setIfInBounds_toArray, List.set_cons_zero, List.set_cons_succ, i64_w, i32_w]
          rfl
        refine pure_ (i := 2) (N := some 10) (v := ?_) (a' := ?_) #[true, true, true, true, false, false, false, false, false] rfl rfl (any_of HT_.out (by kernel_rfl)) (fun _ _ _ h => h) (Or.inl ⟨by rfl, ?_⟩) ?_ ?_
        rotate_left
        · intro w'
          go_simp
          with_reducible rfl
        rotate_left
        · simp only [Act.put, List.setIfInBounds_toArray, List.set_cons_zero, List.set_cons_succ, i64_w, i32_w]
          rfl
        refine take_ (i := 4) (N := some 12) (v := ?_) (a' := ?_) #[true, true, true, true, true, false, false, false, false] rfl rfl (take_ofW HT_.out HW_.out (by kernel_rfl)) (fun _ _ _ h => h) (Or.inl ⟨by rfl, ?_⟩) hHeld ?_ ?_
        rotate_left
        · rintro w' ⟨s0, s1, s2⟩
          go_simp
          with_reducible rfl
        rotate_left
        · simp only [Act.put, List.setIfInBounds_toArray, List.set_cons_zero, List.set_cons_succ, i64_w, i32_w]
          rfl
        refine one_ (i := 5) (N := some 13) #[true, true, true, true, true, true, false, false, false] rfl rfl (one_of HT_.out (by kernel_rfl)) (by decide) (fun K hK => ?_)
        refine goes_ Tryd.func85 (by kernel_rfl) rfl #[.agg #[.int .u64 a0_1, .int .u64 a0_2]] (by rfl) rfl rfl (by (try simp only [List.map_toArray, List.map_cons, List.map_nil]); first | done | rfl | (simp only [List.length_drop, List.length_take]; rfl)) ?_
        with_reducible refine (decimal_Text.calls a0_1 a0_2 t604 _ A5.out).mono ?_
        rintro e w11 ⟨rfl, hb⟩
        refine ⟨_, rfl, ?_⟩
        have n0_ := Aside0.mk (blk_below (g := gb602) (o := .cells #[.string a0_0, .int .u64 a0_1, .int .u64 a0_2] 44 (0, 0)) (by (with_reducible repeat (first | refine blk_drewN ?_ _ | refine blk_drew ?_ | refine blk_alloc ?_ _)); exact BK602.out) hb)
        have n1_ := Aside0.mk (below_step (by repeat (first | (with_reducible first | exact HB.out | apply below_alloc | apply pw_below_drewN | apply below_drew1 | refine below_set ?_ GE602.out) | exact HB.out)) hb)
        clear BK602
        clear HB
        have BK602 := n0_
        have HB := n1_
        clear n0_ n1_
        (try clear hb)
        (try clear hb2)
        (try clear hk)
        (try clear hi)
        refine hK.out _ _ ⟨(blk_cell BK602.out 0).trans rfl, (blk_cell BK602.out 1).trans rfl, (blk_cell BK602.out 2).trans rfl⟩ (fun hHeld => ?_)
        clear hK K
        refine norm_ (a' := ?_) ?_ ?_
        rotate_left
        · show Act.put _ (some 13) _ = _
          simp only [Act.put, List.setIfInBounds_toArray, List.set_cons_zero, List.set_cons_succ, i64_w, i32_w]
          rfl
        refine pure_ (i := 6) (N := some 14) (v := ?_) (a' := ?_) #[true, true, true, true, true, true, true, false, false] rfl rfl (any_of HT_.out (by kernel_rfl)) (fun _ _ _ h => h) (Or.inl ⟨by rfl, ?_⟩) ?_ ?_
        rotate_left
        · intro w'
          go_simp
          with_reducible rfl
        rotate_left
        · simp only [Act.put, List.setIfInBounds_toArray, List.set_cons_zero, List.set_cons_succ, i64_w, i32_w]
          rfl
        refine pure_ (i := 7) (N := some 2) (v := ?_) (a' := ?_) #[true, true, true, true, true, true, true, true, false] rfl rfl (any_of HT_.out (by kernel_rfl)) (fun _ _ _ h => h) (Or.inl ⟨by rfl, ?_⟩) ?_ ?_
        rotate_left
        · intro w'
          go_simp
          with_reducible rfl
        rotate_left
        · simp only [Act.put, List.setIfInBounds_toArray, List.set_cons_zero, List.set_cons_succ, i64_w, i32_w]
          rfl
        refine pure_ (i := 8) (N := some 3) (v := ?_) (a' := ?_) #[true, true, true, true, true, true, true, true, true] rfl rfl (any_of HT_.out (by kernel_rfl)) (fun _ _ _ h => h) (Or.inl ⟨by rfl, ?_⟩) ?_ ?_
        rotate_left
        · intro w'
          go_simp
          with_reducible rfl
        rotate_left
        · simp only [Act.put, List.setIfInBounds_toArray, List.set_cons_zero, List.set_cons_succ, i64_w, i32_w]
          rfl
        refine done_ (done_of HT_.out (by kernel_rfl)) ?_
        try go_wp2
        go_ret2
        exact ⟨by first | rfl | (simp [errW_none, errW_some] <;> rfl) | (simp [*, errW_none, errW_some] <;> rfl), by repeat (first | (with_reducible first | exact HB.out | apply below_alloc | apply pw_below_drewN | apply below_drew1 | refine below_set ?_ GE602.out) | exact HB.out)⟩
      · rw [if_neg c6] at H
        exact absurd H (by simp)
    · rw [if_neg c4] at H
      exact absurd H (by simp)
  · replace c3 := Bool.eq_false_iff.mpr c3
    subst c3
    have H1 : (some ((⟨#[]⟩ : ByteArray), 101)) = some (r1, r2) := by rw [if_neg (show ¬ (false = true) by decide)] at H; exact H
    clear H
    have H := H1
    clear H1
    simp only [Option.some.injEq, Prod.mk.injEq] at H
    obtain ⟨rfl, rfl⟩ := H
    go_enter Tryd.func48, Tryd.ntmps48
    go_wp2_with (first | ((with_reducible refine gate_dst (N := 1) rfl ?_); refine box_event ?hg (N := 1) ?hd (cs := #[.string a0_0, .int .u64 a0_1, .int .u64 a0_2]) (t := 44) ?hr ?_; (case hd => rfl); (case hg => rfl); (case hr => first | (go_simp; done) | (go_simp; rfl)); intro gb602 hg w12 hbox hb; have n0_ := Aside0.mk (below_step (by repeat (first | (with_reducible first | exact HB.out | apply below_alloc | apply pw_below_drewN | apply below_drew1) | exact HB.out)) hb); have n1_ := Aside0.mk (hbox); have n2_ := Aside0.mk ((by rw [hg]; exact (below_size (by repeat (first | (with_reducible first | exact HB.out | apply below_alloc | apply pw_below_drewN | apply below_drew1) | exact HB.out))) : w.heap.size ≤ gb602)); have n3_ := Aside0.mk ((by rw [hg]; exact (below_size (by repeat (first | (with_reducible first | exact HB.out | apply below_alloc | apply pw_below_drewN | apply below_drew1) | exact HB.out))) : w.heap.size ≤ gb602)); clear HB; have HB := n0_; have BK602 := n1_; have GW602 := n2_; have GE602 := n3_; clear n0_ n1_ n2_ n3_; clear hb hbox hg; have hcz13_0 : w12.cell? ⟨gb602, 0, none⟩ = some (.string a0_0) := (blk_cell BK602.out 0).trans rfl; have hcz13_1 : w12.cell? ⟨gb602, 1, none⟩ = some (.int .u64 a0_1) := (blk_cell BK602.out 1).trans rfl; have hcz13_2 : w12.cell? ⟨gb602, 2, none⟩ = some (.int .u64 a0_2) := (blk_cell BK602.out 2).trans rfl; have hfz13_0 := blk_frozen BK602.out 0; have hfz13_1 := blk_frozen BK602.out 1; have hfz13_2 := blk_frozen BK602.out 2) | ((with_reducible refine gate_callee (f := 51) rfl ?_); refine goesL_ (some 6) rfl rfl Tryd.func51 (by kernel_rfl) rfl #[.string a0_0] rfl (by (try simp only [List.map_toArray, List.map_cons, List.map_nil]); first | done | rfl | (simp only [List.length_drop, List.length_take]; rfl)) ?_; (with_reducible refine (tag_MayId.calls a0_0 false _ ?side1 A2.out).mono ?_); (case side1 => exact gt_below hG (by repeat (first | (with_reducible first | exact HB.out | apply below_alloc | apply pw_below_drewN | apply below_drew1 | refine below_set ?_ GE602.out) | exact HB.out))); rintro e w14 ⟨rfl, hb⟩; refine ⟨_, rfl, ?_⟩; have n0_ := Aside0.mk (blk_below (g := gb602) (o := .cells #[.string a0_0, .int .u64 a0_1, .int .u64 a0_2] 44 (0, 0)) (by (with_reducible repeat (first | refine blk_drewN ?_ _ | refine blk_drew ?_ | refine blk_alloc ?_ _)); exact BK602.out) hb); have n1_ := Aside0.mk (below_step (by repeat (first | (with_reducible first | exact HB.out | apply below_alloc | apply pw_below_drewN | apply below_drew1 | refine below_set ?_ GE602.out) | exact HB.out)) hb); clear BK602; clear HB; have BK602 := n0_; have HB := n1_; clear n0_ n1_; (try clear hb); (try clear hb2); (try clear hk); (try clear hi)))
    go_ret2
    exact ⟨by first | rfl | (simp [errW_none, errW_some] <;> rfl) | (simp [*, errW_none, errW_some] <;> rfl), by repeat (first | (with_reducible first | exact HB.out | apply below_alloc | apply pw_below_drewN | apply below_drew1 | refine below_set ?_ GE602.out) | exact HB.out)⟩
end Go.Proofs.YtpkjpiphjdpegaaDoor.P
namespace Go.Proofs.YtpkjpiphjdpegaaDoor.P
open Go.RowKit Go.Proofs.YtpkjpiphjdpegaaDoorW.PrintWords Go.Proofs.YtpkjpiphjdpegaaDoorW.PrintLast Go.Proofs.YtpkjpiphjdpegaaDoorW.PrintMore
attribute [local go_sem] max2_int min2_int max_two min_two max_three min_three max_four min_four
set_option linter.unusedVariables false
set_option linter.unusedSimpArgs false
attribute [local go_sem high] eqA44
mutual
def row_Write.j0 : Nat → List (S44) → ByteArray → List ByteArray → Option (ByteArray × Int)
  | 0, _, _, _ => none
  | k + 1, x0, x1, x6 => row_Write.l0 k x1 x6 x0 (x0.length : Int) 0
def row_Write.l0 : Nat → ByteArray → List ByteArray → List (S44) → Int → Int → Option (ByteArray × Int)
  | 0, _, _, _, _, _ => none
  | k + 1, x1, x6, x21, x22, x23 => if x23 < x22 then (if 0 ≤ x23 then (if x23 < (x21.length : Int) then ((row_Text.f ((rd_T44 x21 x23).f0) ((rd_T44 x21 x23).f1.f0) ((rd_T44 x21 x23).f1.f1)).bind fun bt683 => (if bt683.2 = 0 then (if x6.length < 8796093022208 then (row_Write.l0 k x1 (x6 ++ [bt683.1]) x21 x22 (wrap64 (x23 + 1))) else (none)) else (some ((⟨#[]⟩ : ByteArray), bt683.2)))) else (none)) else (none)) else (if 2 + x1.size ≤ 9223372036854775807 then ((lines_All.f ((⟨#[35, 32]⟩ : ByteArray) ++ x1)).bind fun t688 => (if (t688.length : Int) > 1 then (some ((⟨#[]⟩ : ByteArray), 91)) else (if 0 < (t688.length : Int) then (if ((rd_T56 t688 0).f3) = 0 then (if x6.length < 8796093022208 then ((lines_Join.f (x6 ++ [(⟨#[]⟩ : ByteArray)])).bind fun bt695 => (some (bt695.1, 0))) else (none)) else (some ((⟨#[]⟩ : ByteArray), 91))) else (none)))) else (none))
end
def row_Write.f (k : Nat) (l0 : List (S44)) (a1 : ByteArray) : Option (ByteArray × Int) := if a1.toList = ([] : List UInt8) then (row_Write.j0 k l0 a1 ([] : List ByteArray)) else (if 2 + a1.size ≤ 9223372036854775807 then (if ([] : List ByteArray).length < 8796093022208 then (row_Write.j0 k l0 a1 (([] : List ByteArray) ++ [(⟨#[35, 32]⟩ : ByteArray) ++ a1])) else (none)) else (none))
theorem row_Write.mono_l : ∀ k, (∀ y0 y1 y2, LeO (row_Write.j0 k y0 y1 y2) (row_Write.j0 (k + 1) y0 y1 y2)) ∧ (∀ y0 y1 y2 y3 y4, LeO (row_Write.l0 k y0 y1 y2 y3 y4) (row_Write.l0 (k + 1) y0 y1 y2 y3 y4))
  | 0 => ⟨fun _ _ _ r h => by simp [row_Write.j0] at h, fun _ _ _ _ _ r h => by simp [row_Write.l0] at h⟩
  | k + 1 => by
    obtain ⟨ih0, ih1⟩ := row_Write.mono_l k
    refine ⟨?_, ?_⟩
    · intro y0 y1 y2
      unfold row_Write.j0
      repeat' first
      | (with_reducible exact ih0 _ _ _)
      | (with_reducible exact ih1 _ _ _ _ _)
      | (with_reducible exact LeO.refl _)
      | (with_reducible exact LeO.none _)
      | (with_reducible refine LeO.ite ?_ ?_)
      | (with_reducible refine LeO.bind ?_ (fun _ => ?_))
      | exact ih0 _ _ _
      | exact ih1 _ _ _ _ _
      | exact LeO.none _
      | refine LeO.ite ?_ ?_
      | refine LeO.bind ?_ (fun _ => ?_)
    · intro y0 y1 y2 y3 y4
      unfold row_Write.l0
      repeat' first
      | (with_reducible exact ih0 _ _ _)
      | (with_reducible exact ih1 _ _ _ _ _)
      | (with_reducible exact LeO.refl _)
      | (with_reducible exact LeO.none _)
      | (with_reducible refine LeO.ite ?_ ?_)
      | (with_reducible refine LeO.bind ?_ (fun _ => ?_))
      | exact ih0 _ _ _
      | exact ih1 _ _ _ _ _
      | exact LeO.none _
      | refine LeO.ite ?_ ?_
      | refine LeO.bind ?_ (fun _ => ?_)
theorem row_Write.mono : ∀ a0 a1 k, LeO (row_Write.f k a0 a1) (row_Write.f (k + 1) a0 a1) := by
  intro a0 a1 k
  obtain ⟨ih0, ih1⟩ := row_Write.mono_l k
  unfold row_Write.f
  repeat' first
      | (with_reducible exact ih0 _ _ _)
      | (with_reducible exact ih1 _ _ _ _ _)
      | (with_reducible exact LeO.refl _)
      | (with_reducible exact LeO.none _)
      | (with_reducible refine LeO.ite ?_ ?_)
      | (with_reducible refine LeO.bind ?_ (fun _ => ?_))
      | exact ih0 _ _ _
      | exact ih1 _ _ _ _ _
      | exact LeO.none _
      | refine LeO.ite ?_ ?_
      | refine LeO.bind ?_ (fun _ => ?_)
set_option maxHeartbeats 8000000 in
set_option maxRecDepth 100000 in
theorem row_Write.calls (k : Nat) (A0 : Option Addr) (c0 : Nat) (l0 : List (S44)) (a1 : ByteArray) (r1 : ByteArray) (r2 : Int) (w : World) (hr0 : Kd.C k44 w A0 l0.length l0) (hc0 : l0.length ≤ c0) (hG : GT w) (h : row_Write.f k l0 a1 = some (r1, r2)) :
    Calls Tryd.prog 52 #[.slice A0 l0.length c0, .string a1] w fun e w' => e = .returned (.tuple #[.string r1, .int .i64 r2]) ∧ Below w.heap.size w w' := by
  have hu44 := Tryd.underlying44
  have HR0 := Aside0.mk hr0
  have HC0 := Aside0.mk hc0
  clear hr0 hc0
  have HB := Aside0.mk (Below.refl w.heap.size w)
  have H : (if a1.toList = ([] : List UInt8) then (row_Write.j0 k l0 a1 ([] : List ByteArray)) else (if 2 + a1.size ≤ 9223372036854775807 then (if ([] : List ByteArray).length < 8796093022208 then (row_Write.j0 k l0 a1 (([] : List ByteArray) ++ [(⟨#[35, 32]⟩ : ByteArray) ++ a1])) else (none)) else (none))) = some (r1, r2) := h
  clear h
  have HC3 := Aside0.mk H
  clear H
  go_enter Tryd.func52, Tryd.ntmps52
  go_upto_if 15 with (fail)
  go_cut [6] (fun v6 wc => ∃ (kq : Nat) (x6_2 : List ByteArray), Aside0 (row_Write.j0 kq l0 a1 x6_2 = some (r1, r2)) ∧ Aside0 (kq ≤ k) ∧ Aside0 (Kd.R Kd.string 9 wc w.heap.size (fun _ => True) v6 x6_2) ∧ Aside0 (Below w.heap.size w wc))
  case first =>
    have H := HC3.out
    clear HC3
    by_cases c4 : a1.toList = ([] : List UInt8)
    · rw [if_pos c4] at H
      have c4b0 : (a1.toList == ([] : List UInt8)) = true := beq_iff_eq.mpr c4
      try have c4b9 : (a1.toList.isEmpty) = true := by have e_ := c4b0; simp only [show ∀ l_ : List UInt8, (l_ == []) = l_.isEmpty from fun l_ => by cases l_ <;> rfl] at e_; exact e_
      have c4b1 : (a1.toList != ([] : List UInt8)) = false := bne_eq_false_iff_eq.mpr c4
      clear c4
      (first | rw [c4b0] | rw [c4b9] | (simp only [i64_w, i32_w]; rw [c4b0]) | skip)
      have H' := Aside0.mk H
      clear H
      go_wp2
      go_meet
      case rel => exact ⟨_, (([] : List ByteArray)), H', ⟨by first | omega | exact Nat.le_refl _⟩, ⟨by first | exact Kd.R_nil _ _ _ _ _ | exact Kd.N_nil _ _ _ _ _ | exact Kd.V_nil _ _ _ _ _ | exact Kd.Q_nil _ _ _ _ _ | exact Kd.S_nil _ _ _ _ _⟩, ⟨by repeat (first | (with_reducible first | exact HB.out | apply below_alloc | apply pw_below_drewN | apply below_drew1) | exact HB.out)⟩⟩
    · rw [if_neg c4] at H
      have c4b0 : (a1.toList == ([] : List UInt8)) = false := beq_eq_false_iff_ne.mpr c4
      try have c4b9 : (a1.toList.isEmpty) = false := by have e_ := c4b0; simp only [show ∀ l_ : List UInt8, (l_ == []) = l_.isEmpty from fun l_ => by cases l_ <;> rfl] at e_; exact e_
      have c4b1 : (a1.toList != ([] : List UInt8)) = true := bne_iff_ne.mpr c4
      (first | rw [c4b0] | rw [c4b9] | (simp only [i64_w, i32_w]; rw [c4b0]) | skip)
      by_cases c5 : 2 + a1.size ≤ 9223372036854775807
      · rw [if_pos c5] at H
        have c5b0 := eq_true c5
        have c5b1 : decide (2 + a1.size ≤ 9223372036854775807) = true := decide_eq_true c5
        try have c5b2 : (9223372036854775807 < 2 + a1.size) = False := eq_false (Nat.not_lt.2 c5)
        by_cases c6 : ([] : List ByteArray).length < 8796093022208
        · rw [if_pos c6] at H
          have LMc6 := Aside0.mk c6
          clear c6
          obtain ⟨y678, hy678⟩ : ∃ y_ : List ByteArray, y_ = (([] : List ByteArray) ++ [(⟨#[35, 32]⟩ : ByteArray) ++ a1]) := ⟨_, rfl⟩
          replace H : (row_Write.j0 k l0 a1 y678) = some (r1, r2) := by first | (rw [hy678]; with_reducible exact H) | (have H2_ := (Option.bind_some _ _).symm.trans H; rw [hy678]; with_reducible exact H2_) | (have H2_ := (Option.bind_some _ _).symm.trans H; with_reducible exact H2_) | with_reducible exact H | (rw [hy678]; exact H) | exact H
          have Ny678 := Aside0.mk hy678
          clear hy678
          have H' := Aside0.mk H
          clear H
          go_wp2_with (first | ((with_reducible refine gate_builtin (b := .append) (xs := #[.tmp 16, .tmp 19]) rfl ?_); at_builtin; refine Kd.R_append Kd.string (w0 := w) w.heap.size rfl (.tmp 16) (.tmp 19) 51 9 (.string ⟨#[]⟩) 16 rfl Tryd.underlying51 info9 rfl (by decide) (by omega) (.slice none 0 0) ([] : List ByteArray) ((⟨#[35, 32]⟩ : ByteArray) ++ a1) [.string ((⟨#[35, 32]⟩ : ByteArray) ++ a1)] (fun _ => True) (fun _ => False) rfl rfl ?aP (fun _ hk => hk.elim) ?aF ?aO ?aB ?aS ?aL ?_; (case aP => exact rfl); (case aB => exact (by repeat (first | (with_reducible first | exact HB.out | apply below_alloc | apply pw_below_drewN | apply below_drew1) | exact HB.out))); (case aF => exact (fun _ _ => trivial)); (case aO => exact ((Kd.R_nil _ _ _ _ (fun _ => True)))); (case aS => exact (below_size (by repeat (first | (with_reducible first | exact HB.out | apply below_alloc | apply pw_below_drewN | apply below_drew1) | exact HB.out)))); (case aL => have := LMc6.out; omega); intro v679 w7 ho hb hg hat; rw [← Ny678.out] at ho; have n0_ := Aside0.mk (hb); have n1_ := Aside0.mk (ho); clear HB; have HB := n0_; have HO680 := n1_; clear n0_ n1_; clear ho hb hg hat))
          go_meet
          case rel => exact ⟨_, (y678), H', ⟨by first | omega | exact Nat.le_refl _⟩, ⟨by (with_reducible repeat (first | apply Kd.R_alloc | apply Kd.R_drewN | apply Kd.R_drew)); exact HO680.out⟩, ⟨by repeat (first | (with_reducible first | exact HB.out | apply below_alloc | apply pw_below_drewN | apply below_drew1) | exact HB.out)⟩⟩
        · rw [if_neg c6] at H
          exact absurd H (by simp)
      · rw [if_neg c5] at H
        exact absurd H (by simp)
  case rest =>
    clear HC3
    try clear p2
    try clear c4
    try clear c4b0
    try clear c4b1
    try clear c5
    try clear c5b0
    try clear c5b1
    try clear c5b2
    try clear c6
    obtain ⟨kq, x6_2, HA, HJ2, HO_6, HB⟩ := hcut
    cases kq with
    | zero => exact absurd HA.out (by simp [row_Write.j0])
    | succ kj2 =>
      have H := HA.out
      clear HA
      simp only [row_Write.j0] at H
      have H' := Aside0.mk H
      clear H
      go_wp2
      go_loopg [6, 23] kj2 (fun kq v6 v23 w' => ∃ (x6_2 : List ByteArray) (x23_2 : Int), v23 = .int .i64 x23_2 ∧ Aside0 (row_Write.l0 kq a1 x6_2 l0 (l0.length : Int) x23_2 = some (r1, r2)) ∧ Aside0 (kq ≤ kj2) ∧ Aside0 (Kd.R Kd.string 9 w' w.heap.size (fun _ => True) v6 x6_2) ∧ Aside0 (Below w.heap.size w w'))
      case atStart => exact ⟨(x6_2), (0), (by first | rfl | (simp; done) | (simp [*]; done)), H', ⟨Nat.le_refl _⟩, ⟨by (with_reducible repeat (first | apply Kd.R_alloc | apply Kd.R_drewN | apply Kd.R_drew)); exact HO_6.out⟩, ⟨by repeat (first | (with_reducible first | exact HB.out | apply below_alloc | apply pw_below_drewN | apply below_drew1) | exact HB.out)⟩⟩
      case round =>
        clear H'
        try clear p2
        try clear c4
        try clear c4b0
        try clear c4b1
        try clear c5
        try clear c5b0
        try clear c5b1
        try clear c5b2
        try clear c6
        try clear p2
        obtain ⟨x6_2, x23_2, rfl, HA, HK2, HO_6, HB⟩ := hrel
        cases gk with
        | zero => exact absurd HA.out (by simp [row_Write.l0])
        | succ k2 =>
          have H := HA.out
          clear HA
          simp only [row_Write.l0] at H
          by_cases c8 : x23_2 < (l0.length : Int)
          · rw [if_pos c8] at H
            have c8b0 : decide (x23_2 < (l0.length : Int)) = true := decide_eq_true c8
            clear c8
            by_cases c9 : 0 ≤ x23_2
            · rw [if_pos c9] at H
              have c9b0 : decide (0 ≤ x23_2) = true := decide_eq_true c9
              clear c9
              by_cases c10 : x23_2 < (l0.length : Int)
              · rw [if_pos c10] at H
                have c10b0 : decide (x23_2 < (l0.length : Int)) = true := decide_eq_true c10
                clear c10
                replace H := Option.bind_eq_some_iff.mp H
                obtain ⟨⟨t683, t684⟩, A110, H⟩ := H
                replace H : (if t684 = 0 then (if x6_2.length < 8796093022208 then (row_Write.l0 k2 a1 (x6_2 ++ [t683]) l0 (l0.length : Int) (wrap64 (x23_2 + 1))) else (none)) else (some ((⟨#[]⟩ : ByteArray), t684))) = some (r1, r2) := H
                have A11 := Aside0.mk A110
                clear A110
                by_cases c12 : t684 = 0
                · rw [if_pos c12] at H
                  have c12b0 : (t684 == 0) = true := beq_iff_eq.mpr c12
                  have c12b1 : (t684 != 0) = false := bne_eq_false_iff_eq.mpr c12
                  clear c12
                  by_cases c13 : x6_2.length < 8796093022208
                  · rw [if_pos c13] at H
                    have LMc13 := Aside0.mk c13
                    clear c13
                    obtain ⟨y685, hy685⟩ : ∃ y_ : List ByteArray, y_ = (x6_2 ++ [t683]) := ⟨_, rfl⟩
                    replace H : (row_Write.l0 k2 a1 y685 l0 (l0.length : Int) (wrap64 (x23_2 + 1))) = some (r1, r2) := by first | (rw [hy685]; with_reducible exact H) | (have H2_ := (Option.bind_some _ _).symm.trans H; rw [hy685]; with_reducible exact H2_) | (have H2_ := (Option.bind_some _ _).symm.trans H; with_reducible exact H2_) | with_reducible exact H | (rw [hy685]; exact H) | exact H
                    have Ny685 := Aside0.mk hy685
                    clear hy685
                    have H' := Aside0.mk H
                    clear H
                    have p681 : 0 ≤ (x23_2 : Int) := of_decide_eq_true (by first | (with_reducible assumption) | assumption)
                    have q681 : x23_2 < (l0.length : Int) := of_decide_eq_true (by first | (with_reducible assumption) | assumption)
                    obtain ⟨ad681, e681, hx681_0, hx681_1, hx681_2⟩ := at_T44 HR0.out x23_2 p681 q681
                    cases e681
                    replace hx681_0 := (HB.out.cell (World.block_lt_of_cell? w _ hx681_0)).trans hx681_0
                    replace hx681_1 := (HB.out.cell (World.block_lt_of_cell? w _ hx681_1)).trans hx681_1
                    replace hx681_2 := (HB.out.cell (World.block_lt_of_cell? w _ hx681_2)).trans hx681_2
                    replace p681 := eq_true p681
                    replace q681 := eq_true q681
                    go_wp2_with (first | ((with_reducible refine gate_dst (N := 8) rfl ?_); refine box_event ?hg (N := 8) ?hd (cs := #[.string (⟨#[]⟩ : ByteArray), .int .u64 0, .int .u64 0]) (t := 44) ?hr ?_; (case hd => rfl); (case hg => rfl); (case hr => first | (go_simp; done) | (go_simp; rfl)); intro gb682 hg w14 hbox hb; have n0_ := Aside0.mk (Kd.R_below (by (with_reducible repeat (first | apply Kd.R_alloc | apply Kd.R_drewN | apply Kd.R_drew)); exact HO_6.out) hb); have n1_ := Aside0.mk (below_step (by repeat (first | (with_reducible first | exact HB.out | apply below_alloc | apply pw_below_drewN | apply below_drew1) | exact HB.out)) hb); have n2_ := Aside0.mk (hbox); have n3_ := Aside0.mk ((by rw [hg]; exact (below_size (by repeat (first | (with_reducible first | exact HB.out | apply below_alloc | apply pw_below_drewN | apply below_drew1) | exact HB.out))) : w.heap.size ≤ gb682)); have n4_ := Aside0.mk ((by rw [hg]; exact (below_size (by repeat (first | (with_reducible first | exact HB.out | apply below_alloc | apply pw_below_drewN | apply below_drew1) | exact HB.out))) : w.heap.size ≤ gb682)); clear HO_6; clear HB; have HO_6 := n0_; have HB := n1_; have BK682 := n2_; have GW682 := n3_; have GE682 := n4_; clear n0_ n1_ n2_ n3_ n4_; clear hb hbox hg; have hcz15_0 : w14.cell? ⟨gb682, 0, none⟩ = some (.string (⟨#[]⟩ : ByteArray)) := (blk_cell BK682.out 0).trans rfl; have hcz15_1 : w14.cell? ⟨gb682, 1, none⟩ = some (.int .u64 0) := (blk_cell BK682.out 1).trans rfl; have hcz15_2 : w14.cell? ⟨gb682, 2, none⟩ = some (.int .u64 0) := (blk_cell BK682.out 2).trans rfl; have hfz15_0 := blk_frozen BK682.out 0; have hfz15_1 := blk_frozen BK682.out 1; have hfz15_2 := blk_frozen BK682.out 2) | ((with_reducible refine gate_callee (f := 48) rfl ?_); refine goesL_ (some 29) rfl rfl Tryd.func48 (by kernel_rfl) rfl #[.agg #[.string ((rd_T44 l0 x23_2).f0), .int .u64 ((rd_T44 l0 x23_2).f1.f0), .int .u64 ((rd_T44 l0 x23_2).f1.f1)]] rfl (by (try simp only [List.map_toArray, List.map_cons, List.map_nil]); first | done | rfl | (simp only [List.length_drop, List.length_take]; rfl)) ?_; (with_reducible refine (row_Text.calls ((rd_T44 l0 x23_2).f0) ((rd_T44 l0 x23_2).f1.f0) ((rd_T44 l0 x23_2).f1.f1) t683 t684 _ ?side1 A11.out).mono ?_); (case side1 => exact gt_below hG (by repeat (first | (with_reducible first | exact HB.out | apply below_alloc | apply pw_below_drewN | apply below_drew1 | refine below_set ?_ GE682.out) | exact HB.out))); rintro e w16 ⟨rfl, hb⟩; refine ⟨_, rfl, ?_⟩; have n0_ := Aside0.mk (Kd.R_below (by (with_reducible repeat (first | apply Kd.R_alloc | apply Kd.R_drewN | apply Kd.R_drew)); exact (Kd.R_mono (Kd.R_far (p := ⟨gb682, 2, none⟩) (Kd.R_far (p := ⟨gb682, 1, none⟩) (Kd.R_far (p := ⟨gb682, 0, none⟩) (Kd.R_types HO_6.out BK682.out (by decide)) (fun _ hk => hk.2) (.string ((rd_T44 l0 x23_2).f0))) (fun _ hk => hk.2) (.int .u64 ((rd_T44 l0 x23_2).f1.f0))) (fun _ hk => hk.2) (.int .u64 ((rd_T44 l0 x23_2).f1.f1))) (fun _ h_ => h_.1))) hb); have n1_ := Aside0.mk (blk_below (g := gb682) (o := .cells #[.string ((rd_T44 l0 x23_2).f0), .int .u64 ((rd_T44 l0 x23_2).f1.f0), .int .u64 ((rd_T44 l0 x23_2).f1.f1)] 44 (0, 0)) (by (with_reducible repeat (first | refine blk_drewN ?_ _ | refine blk_drew ?_ | refine blk_alloc ?_ _)); refine blk_put (cs := #[.string ((rd_T44 l0 x23_2).f0), .int .u64 ((rd_T44 l0 x23_2).f1.f0), .int .u64 0]) ?_ 2 _ rfl; (with_reducible repeat (first | refine blk_drewN ?_ _ | refine blk_drew ?_ | refine blk_alloc ?_ _)); refine blk_put (cs := #[.string ((rd_T44 l0 x23_2).f0), .int .u64 0, .int .u64 0]) ?_ 1 _ rfl; (with_reducible repeat (first | refine blk_drewN ?_ _ | refine blk_drew ?_ | refine blk_alloc ?_ _)); refine blk_put (cs := #[.string (⟨#[]⟩ : ByteArray), .int .u64 0, .int .u64 0]) ?_ 0 _ rfl; (with_reducible repeat (first | refine blk_drewN ?_ _ | refine blk_drew ?_ | refine blk_alloc ?_ _)); exact BK682.out) hb); have n2_ := Aside0.mk (below_step (by repeat (first | (with_reducible first | exact HB.out | apply below_alloc | apply pw_below_drewN | apply below_drew1 | refine below_set ?_ GE682.out) | exact HB.out)) hb); clear HO_6; clear BK682; clear HB; have HO_6 := n0_; have BK682 := n1_; have HB := n2_; clear n0_ n1_ n2_; (try clear hb); (try clear hb2); (try clear hk); (try clear hi)) | ((with_reducible refine gate_builtin (b := .append) (xs := #[.tmp 35, .tmp 37]) rfl ?_); at_builtin; refine Kd.R_append Kd.string (w0 := w) w.heap.size rfl (.tmp 35) (.tmp 37) 51 9 (.string ⟨#[]⟩) 16 rfl Tryd.underlying51 info9 rfl (by decide) (by omega) u6 x6_2 t683 [.string t683] (fun _ => True) (fun _ => False) rfl rfl ?aP (fun _ hk => hk.elim) ?aF ?aO ?aB ?aS ?aL ?_; (case aP => exact rfl); (case aB => exact (by repeat (first | (with_reducible first | exact HB.out | apply below_alloc | apply pw_below_drewN | apply below_drew1 | refine below_set ?_ GE682.out) | exact HB.out))); (case aF => exact (fun _ _ => trivial)); (case aO => exact (by (with_reducible repeat (first | apply Kd.R_alloc | apply Kd.R_drewN | apply Kd.R_drew)); exact HO_6.out)); (case aS => exact (below_size (by repeat (first | (with_reducible first | exact HB.out | apply below_alloc | apply pw_below_drewN | apply below_drew1 | refine below_set ?_ GE682.out) | exact HB.out)))); (case aL => have := LMc13.out; omega); intro v686 w17 ho hb hg hat; rw [← Ny685.out] at ho; have n0_ := Aside0.mk (blk_grown (g := gb682) (o := .cells #[.string ((rd_T44 l0 x23_2).f0), .int .u64 ((rd_T44 l0 x23_2).f1.f0), .int .u64 ((rd_T44 l0 x23_2).f1.f1)] 44 (0, 0)) (by (with_reducible repeat (first | refine blk_drewN ?_ _ | refine blk_drew ?_ | refine blk_alloc ?_ _)); exact BK682.out) hg (Kd.R_ne HO_6.out BK682.out (by decide))); have n1_ := Aside0.mk (hb); have n2_ := Aside0.mk (ho); clear BK682; clear HB; clear HO_6; have BK682 := n0_; have HB := n1_; have HO687 := n2_; clear n0_ n1_ n2_; clear ho hb hg hat))
                    go_roundg k2
                    case measure => have := HJ2.out; have := HK2.out; omega
                    case rel => exact ⟨(y685), (wrap64 (x23_2 + 1)), (by first | rfl | (simp; done) | (simp [*]; done)), H', ⟨by have := HJ2.out; have := HK2.out; omega⟩, ⟨by (with_reducible repeat (first | apply Kd.R_alloc | apply Kd.R_drewN | apply Kd.R_drew)); exact HO687.out⟩, ⟨by repeat (first | (with_reducible first | exact HB.out | apply below_alloc | apply pw_below_drewN | apply below_drew1 | refine below_set ?_ GE682.out) | exact HB.out)⟩⟩
                  · rw [if_neg c13] at H
                    exact absurd H (by simp)
                · rw [if_neg c12] at H
                  have c12b0 : (t684 == 0) = false := beq_eq_false_iff_ne.mpr c12
                  have c12b1 : (t684 != 0) = true := bne_iff_ne.mpr c12
                  simp only [Option.some.injEq, Prod.mk.injEq] at H
                  obtain ⟨rfl, rfl⟩ := H
                  have p681 : 0 ≤ (x23_2 : Int) := of_decide_eq_true (by first | (with_reducible assumption) | assumption)
                  have q681 : x23_2 < (l0.length : Int) := of_decide_eq_true (by first | (with_reducible assumption) | assumption)
                  obtain ⟨ad681, e681, hx681_0, hx681_1, hx681_2⟩ := at_T44 HR0.out x23_2 p681 q681
                  cases e681
                  replace hx681_0 := (HB.out.cell (World.block_lt_of_cell? w _ hx681_0)).trans hx681_0
                  replace hx681_1 := (HB.out.cell (World.block_lt_of_cell? w _ hx681_1)).trans hx681_1
                  replace hx681_2 := (HB.out.cell (World.block_lt_of_cell? w _ hx681_2)).trans hx681_2
                  replace p681 := eq_true p681
                  replace q681 := eq_true q681
                  go_wp2_with (first | ((with_reducible refine gate_dst (N := 8) rfl ?_); refine box_event ?hg (N := 8) ?hd (cs := #[.string (⟨#[]⟩ : ByteArray), .int .u64 0, .int .u64 0]) (t := 44) ?hr ?_; (case hd => rfl); (case hg => rfl); (case hr => first | (go_simp; done) | (go_simp; rfl)); intro gb682 hg w18 hbox hb; have n0_ := Aside0.mk (Kd.R_below (by (with_reducible repeat (first | apply Kd.R_alloc | apply Kd.R_drewN | apply Kd.R_drew)); exact HO_6.out) hb); have n1_ := Aside0.mk (below_step (by repeat (first | (with_reducible first | exact HB.out | apply below_alloc | apply pw_below_drewN | apply below_drew1) | exact HB.out)) hb); have n2_ := Aside0.mk (hbox); have n3_ := Aside0.mk ((by rw [hg]; exact (below_size (by repeat (first | (with_reducible first | exact HB.out | apply below_alloc | apply pw_below_drewN | apply below_drew1) | exact HB.out))) : w.heap.size ≤ gb682)); have n4_ := Aside0.mk ((by rw [hg]; exact (below_size (by repeat (first | (with_reducible first | exact HB.out | apply below_alloc | apply pw_below_drewN | apply below_drew1) | exact HB.out))) : w.heap.size ≤ gb682)); clear HO_6; clear HB; have HO_6 := n0_; have HB := n1_; have BK682 := n2_; have GW682 := n3_; have GE682 := n4_; clear n0_ n1_ n2_ n3_ n4_; clear hb hbox hg; have hcz19_0 : w18.cell? ⟨gb682, 0, none⟩ = some (.string (⟨#[]⟩ : ByteArray)) := (blk_cell BK682.out 0).trans rfl; have hcz19_1 : w18.cell? ⟨gb682, 1, none⟩ = some (.int .u64 0) := (blk_cell BK682.out 1).trans rfl; have hcz19_2 : w18.cell? ⟨gb682, 2, none⟩ = some (.int .u64 0) := (blk_cell BK682.out 2).trans rfl; have hfz19_0 := blk_frozen BK682.out 0; have hfz19_1 := blk_frozen BK682.out 1; have hfz19_2 := blk_frozen BK682.out 2) | ((with_reducible refine gate_callee (f := 48) rfl ?_); refine goesL_ (some 29) rfl rfl Tryd.func48 (by kernel_rfl) rfl #[.agg #[.string ((rd_T44 l0 x23_2).f0), .int .u64 ((rd_T44 l0 x23_2).f1.f0), .int .u64 ((rd_T44 l0 x23_2).f1.f1)]] rfl (by (try simp only [List.map_toArray, List.map_cons, List.map_nil]); first | done | rfl | (simp only [List.length_drop, List.length_take]; rfl)) ?_; (with_reducible refine (row_Text.calls ((rd_T44 l0 x23_2).f0) ((rd_T44 l0 x23_2).f1.f0) ((rd_T44 l0 x23_2).f1.f1) t683 t684 _ ?side1 A11.out).mono ?_); (case side1 => exact gt_below hG (by repeat (first | (with_reducible first | exact HB.out | apply below_alloc | apply pw_below_drewN | apply below_drew1 | refine below_set ?_ GE682.out) | exact HB.out))); rintro e w20 ⟨rfl, hb⟩; refine ⟨_, rfl, ?_⟩; have n0_ := Aside0.mk (Kd.R_below (by (with_reducible repeat (first | apply Kd.R_alloc | apply Kd.R_drewN | apply Kd.R_drew)); exact (Kd.R_mono (Kd.R_far (p := ⟨gb682, 2, none⟩) (Kd.R_far (p := ⟨gb682, 1, none⟩) (Kd.R_far (p := ⟨gb682, 0, none⟩) (Kd.R_types HO_6.out BK682.out (by decide)) (fun _ hk => hk.2) (.string ((rd_T44 l0 x23_2).f0))) (fun _ hk => hk.2) (.int .u64 ((rd_T44 l0 x23_2).f1.f0))) (fun _ hk => hk.2) (.int .u64 ((rd_T44 l0 x23_2).f1.f1))) (fun _ h_ => h_.1))) hb); have n1_ := Aside0.mk (blk_below (g := gb682) (o := .cells #[.string ((rd_T44 l0 x23_2).f0), .int .u64 ((rd_T44 l0 x23_2).f1.f0), .int .u64 ((rd_T44 l0 x23_2).f1.f1)] 44 (0, 0)) (by (with_reducible repeat (first | refine blk_drewN ?_ _ | refine blk_drew ?_ | refine blk_alloc ?_ _)); refine blk_put (cs := #[.string ((rd_T44 l0 x23_2).f0), .int .u64 ((rd_T44 l0 x23_2).f1.f0), .int .u64 0]) ?_ 2 _ rfl; (with_reducible repeat (first | refine blk_drewN ?_ _ | refine blk_drew ?_ | refine blk_alloc ?_ _)); refine blk_put (cs := #[.string ((rd_T44 l0 x23_2).f0), .int .u64 0, .int .u64 0]) ?_ 1 _ rfl; (with_reducible repeat (first | refine blk_drewN ?_ _ | refine blk_drew ?_ | refine blk_alloc ?_ _)); refine blk_put (cs := #[.string (⟨#[]⟩ : ByteArray), .int .u64 0, .int .u64 0]) ?_ 0 _ rfl; (with_reducible repeat (first | refine blk_drewN ?_ _ | refine blk_drew ?_ | refine blk_alloc ?_ _)); exact BK682.out) hb); have n2_ := Aside0.mk (below_step (by repeat (first | (with_reducible first | exact HB.out | apply below_alloc | apply pw_below_drewN | apply below_drew1 | refine below_set ?_ GE682.out) | exact HB.out)) hb); clear HO_6; clear BK682; clear HB; have HO_6 := n0_; have BK682 := n1_; have HB := n2_; clear n0_ n1_ n2_; (try clear hb); (try clear hb2); (try clear hk); (try clear hi)))
                  go_ret2
                  exact ⟨by first | rfl | (simp [errW_none, errW_some] <;> rfl) | (simp [*, errW_none, errW_some] <;> rfl), by repeat (first | (with_reducible first | exact HB.out | apply below_alloc | apply pw_below_drewN | apply below_drew1 | refine below_set ?_ GE682.out) | exact HB.out)⟩
              · rw [if_neg c10] at H
                exact absurd H (by simp)
            · rw [if_neg c9] at H
              exact absurd H (by simp)
          · rw [if_neg c8] at H
            have c8b0 : decide (x23_2 < (l0.length : Int)) = false := decide_eq_false c8
            clear c8
            by_cases c21 : 2 + a1.size ≤ 9223372036854775807
            · rw [if_pos c21] at H
              have c21b0 := eq_true c21
              have c21b1 : decide (2 + a1.size ≤ 9223372036854775807) = true := decide_eq_true c21
              try have c21b2 : (9223372036854775807 < 2 + a1.size) = False := eq_false (Nat.not_lt.2 c21)
              replace H := Option.bind_eq_some_iff.mp H
              obtain ⟨t688, A220, H⟩ := H
              replace H : (if (t688.length : Int) > 1 then (some ((⟨#[]⟩ : ByteArray), 91)) else (if 0 < (t688.length : Int) then (if ((rd_T56 t688 0).f3) = 0 then (if x6_2.length < 8796093022208 then ((lines_Join.f (x6_2 ++ [(⟨#[]⟩ : ByteArray)])).bind fun bt695 => (some (bt695.1, 0))) else (none)) else (some ((⟨#[]⟩ : ByteArray), 91))) else (none))) = some (r1, r2) := H
              have A22 := Aside0.mk A220
              clear A220
              by_cases c23 : (t688.length : Int) > 1
              · rw [if_pos c23] at H
                have c23b0 : decide (1 < (t688.length : Int)) = true := decide_eq_true c23
                have c23b1 : decide (1 < t688.length) = true := decide_eq_true (by omega)
                clear c23
                simp only [Option.some.injEq, Prod.mk.injEq] at H
                obtain ⟨rfl, rfl⟩ := H
                go_wp2_with (first | ((with_reducible refine gate_callee (f := 34) rfl ?_); refine goesL_ (some 42) rfl rfl Tryd.func34 (by kernel_rfl) rfl #[.string ((⟨#[35, 32]⟩ : ByteArray) ++ a1)] rfl (by (try simp only [List.map_toArray, List.map_cons, List.map_nil]); first | done | rfl | (simp only [List.length_drop, List.length_take]; rfl)) ?_; (with_reducible refine (lines_All.calls ((⟨#[35, 32]⟩ : ByteArray) ++ a1) t688 _ ?side1 A22.out).mono ?_); (case side1 => exact gt_below hG (by repeat (first | (with_reducible first | exact HB.out | apply below_alloc | apply pw_below_drewN | apply below_drew1) | exact HB.out))); rintro e w24 ⟨v689, rfl, ho0, hb⟩; refine ⟨_, rfl, ?_⟩; have n0_ := Aside0.mk (Kd.R_below (by (with_reducible repeat (first | apply Kd.R_alloc | apply Kd.R_drewN | apply Kd.R_drew)); exact HO_6.out) hb); have n1_ := Aside0.mk (Kd.R_lower ho0 (below_size (by repeat (first | (with_reducible first | exact HB.out | apply below_alloc | apply pw_below_drewN | apply below_drew1) | exact HB.out)))); have n2_ := Aside0.mk (below_step (by repeat (first | (with_reducible first | exact HB.out | apply below_alloc | apply pw_below_drewN | apply below_drew1) | exact HB.out)) hb); clear HO_6; clear HB; have HO_6 := n0_; have HO690 := n1_; have HB := n2_; clear n0_ n1_ n2_; (try clear hb); (try clear hb2); (try clear hk); (try clear hi); (try clear ho0); obtain ⟨Ao25, co25, eo25⟩ := Kd.R_slice HO690.out; subst eo25))
                go_ret2
                exact ⟨by first | rfl | (simp [errW_none, errW_some] <;> rfl) | (simp [*, errW_none, errW_some] <;> rfl), by repeat (first | (with_reducible first | exact HB.out | apply below_alloc | apply pw_below_drewN | apply below_drew1) | exact HB.out)⟩
              · rw [if_neg c23] at H
                have c23b0 : decide (1 < (t688.length : Int)) = false := decide_eq_false c23
                have c23b1 : decide (1 < t688.length) = false := decide_eq_false (by omega)
                clear c23
                by_cases c26 : 0 < (t688.length : Int)
                · rw [if_pos c26] at H
                  have c26b0 : decide (0 < (t688.length : Int)) = true := decide_eq_true c26
                  have c26b1 : decide (0 < t688.length) = true := decide_eq_true (by omega)
                  clear c26
                  by_cases c27 : ((rd_T56 t688 0).f3) = 0
                  · rw [if_pos c27] at H
                    have c27b0 : (((rd_T56 t688 0).f3) == 0) = true := beq_iff_eq.mpr c27
                    have c27b1 : (((rd_T56 t688 0).f3) != 0) = false := bne_eq_false_iff_eq.mpr c27
                    clear c27
                    by_cases c28 : x6_2.length < 8796093022208
                    · rw [if_pos c28] at H
                      have LMc28 := Aside0.mk c28
                      clear c28
                      obtain ⟨y692, hy692⟩ : ∃ y_ : List ByteArray, y_ = (x6_2 ++ [(⟨#[]⟩ : ByteArray)]) := ⟨_, rfl⟩
                      replace H : ((lines_Join.f y692).bind fun bt695 => (some (bt695.1, 0))) = some (r1, r2) := by first | (rw [hy692]; with_reducible exact H) | (have H2_ := (Option.bind_some _ _).symm.trans H; rw [hy692]; with_reducible exact H2_) | (have H2_ := (Option.bind_some _ _).symm.trans H; with_reducible exact H2_) | with_reducible exact H | (rw [hy692]; exact H) | exact H
                      have Ny692 := Aside0.mk hy692
                      clear hy692
                      replace H := Option.bind_eq_some_iff.mp H
                      obtain ⟨⟨t695, t696⟩, A290, H⟩ := H
                      replace H : (some (t695, 0)) = some (r1, r2) := H
                      have A29 := Aside0.mk A290
                      clear A290
                      simp only [Option.some.injEq, Prod.mk.injEq] at H
                      obtain ⟨rfl, rfl⟩ := H
                      go_wp2_with (first | ((with_reducible refine gate_callee (f := 34) rfl ?_); refine goesL_ (some 42) rfl rfl Tryd.func34 (by kernel_rfl) rfl #[.string ((⟨#[35, 32]⟩ : ByteArray) ++ a1)] rfl (by (try simp only [List.map_toArray, List.map_cons, List.map_nil]); first | done | rfl | (simp only [List.length_drop, List.length_take]; rfl)) ?_; (with_reducible refine (lines_All.calls ((⟨#[35, 32]⟩ : ByteArray) ++ a1) t688 _ ?side1 A22.out).mono ?_); (case side1 => exact gt_below hG (by repeat (first | (with_reducible first | exact HB.out | apply below_alloc | apply pw_below_drewN | apply below_drew1) | exact HB.out))); rintro e w30 ⟨v689, rfl, ho0, hb⟩; refine ⟨_, rfl, ?_⟩; have n0_ := Aside0.mk (Kd.R_below (by (with_reducible repeat (first | apply Kd.R_alloc | apply Kd.R_drewN | apply Kd.R_drew)); exact HO_6.out) hb); have n1_ := Aside0.mk (Kd.R_lower ho0 (below_size (by repeat (first | (with_reducible first | exact HB.out | apply below_alloc | apply pw_below_drewN | apply below_drew1) | exact HB.out)))); have n2_ := Aside0.mk (below_step (by repeat (first | (with_reducible first | exact HB.out | apply below_alloc | apply pw_below_drewN | apply below_drew1) | exact HB.out)) hb); clear HO_6; clear HB; have HO_6 := n0_; have HO690 := n1_; have HB := n2_; clear n0_ n1_ n2_; (try clear hb); (try clear hb2); (try clear hk); (try clear hi); (try clear ho0); obtain ⟨Ao31, co31, eo31⟩ := Kd.R_slice HO690.out; subst eo31; have p691 : 0 ≤ (0 : Int) := (by omega); have q691 : 0 < (t688.length : Int) := of_decide_eq_true (by first | (with_reducible assumption) | assumption); obtain ⟨ad691, e691, hx691_0, hx691_1, hx691_2, hx691_3⟩ := at_T56 (Kd.R_reads' HO690.out).2.2 0 p691 q691; cases e691; have qi691 : (0 < t688.length) = True := eq_true (by omega); (try rw [show ((0 : Int)).toNat = 0 from rfl] at hx691_0); (try rw [show 0 * 4 = 0 from rfl] at hx691_0); (try rw [Addr.add_zero'] at hx691_0); (try rw [show ((0 : Int)).toNat = 0 from rfl] at hx691_1); (try rw [show 0 * 4 = 0 from rfl] at hx691_1); (try rw [Addr.add_zero'] at hx691_1); (try rw [show ((0 : Int)).toNat = 0 from rfl] at hx691_2); (try rw [show 0 * 4 = 0 from rfl] at hx691_2); (try rw [Addr.add_zero'] at hx691_2); (try rw [show ((0 : Int)).toNat = 0 from rfl] at hx691_3); (try rw [show 0 * 4 = 0 from rfl] at hx691_3); (try rw [Addr.add_zero'] at hx691_3); replace p691 := eq_true p691; replace q691 := eq_true q691) | ((with_reducible refine gate_builtin (b := .append) (xs := #[.tmp 54, .tmp 55]) rfl ?_); at_builtin; refine Kd.R_append Kd.string (w0 := w) w.heap.size rfl (.tmp 54) (.tmp 55) 51 9 (.string ⟨#[]⟩) 16 rfl Tryd.underlying51 info9 rfl (by decide) (by omega) u6 x6_2 (⟨#[]⟩ : ByteArray) [.string (⟨#[]⟩ : ByteArray)] (fun _ => True) (fun _ => False) rfl rfl ?aP (fun _ hk => hk.elim) ?aF ?aO ?aB ?aS ?aL ?_; (case aP => exact rfl); (case aB => exact (by repeat (first | (with_reducible first | exact HB.out | apply below_alloc | apply pw_below_drewN | apply below_drew1) | exact HB.out))); (case aF => exact (fun _ _ => trivial)); (case aO => exact (by (with_reducible repeat (first | apply Kd.R_alloc | apply Kd.R_drewN | apply Kd.R_drew)); exact HO_6.out)); (case aS => exact (below_size (by repeat (first | (with_reducible first | exact HB.out | apply below_alloc | apply pw_below_drewN | apply below_drew1) | exact HB.out)))); (case aL => have := LMc28.out; omega); intro v693 w32 ho hb hg hat; rw [← Ny692.out] at ho; have n0_ := Aside0.mk (Kd.R_over' (by (with_reducible repeat (first | apply Kd.R_alloc | apply Kd.R_drewN | apply Kd.R_drew)); exact HO690.out) (Kd.R_typed (by (with_reducible repeat (first | apply Kd.R_alloc | apply Kd.R_drewN | apply Kd.R_drew)); exact HO_6.out)) (by decide) hg); have n1_ := Aside0.mk (hb); have n2_ := Aside0.mk (ho); clear HO690; clear HB; clear HO_6; have HO690 := n0_; have HB := n1_; have HO694 := n2_; clear n0_ n1_ n2_; clear ho hb hg hat; obtain ⟨Ao33, co33, eo33⟩ := Kd.R_slice HO694.out; subst eo33) | ((with_reducible refine gate_callee (f := 42) rfl ?_); refine goesL_ (some 57) rfl rfl Tryd.func42 (by kernel_rfl) rfl #[.slice Ao33 y692.length co33] rfl (by (try simp only [List.map_toArray, List.map_cons, List.map_nil]); first | done | rfl | (simp only [List.length_drop, List.length_take]; rfl)) ?_; (with_reducible refine (lines_Join.calls _ _ y692 t695 t696 _ ?side1 ?side2 A29.out).mono ?_); (case side1 => repeat (first | exact (Kd.R_reads' HO694.out).2.2 | (with_reducible refine Kd.C_alloc ?_ _) | (with_reducible refine Kd.C_drewN ?_ _) | (with_reducible refine Kd.C_drew ?_))); (case side2 => exact (Kd.R_reads' HO694.out).2.1); rintro e w34 ⟨rfl, hb⟩; refine ⟨_, rfl, ?_⟩; have n0_ := Aside0.mk (Kd.R_below (by (with_reducible repeat (first | apply Kd.R_alloc | apply Kd.R_drewN | apply Kd.R_drew)); exact HO690.out) hb); have n1_ := Aside0.mk (Kd.R_below (by (with_reducible repeat (first | apply Kd.R_alloc | apply Kd.R_drewN | apply Kd.R_drew)); exact HO694.out) hb); have n2_ := Aside0.mk (below_step (by repeat (first | (with_reducible first | exact HB.out | apply below_alloc | apply pw_below_drewN | apply below_drew1) | exact HB.out)) hb); clear HO690; clear HO694; clear HB; have HO690 := n0_; have HO694 := n1_; have HB := n2_; clear n0_ n1_ n2_; (try clear hb); (try clear hb2); (try clear hk); (try clear hi)))
                      go_ret2
                      exact ⟨by first | rfl | (simp [errW_none, errW_some] <;> rfl) | (simp [*, errW_none, errW_some] <;> rfl), by repeat (first | (with_reducible first | exact HB.out | apply below_alloc | apply pw_below_drewN | apply below_drew1) | exact HB.out)⟩
                    · rw [if_neg c28] at H
                      exact absurd H (by simp)
                  · rw [if_neg c27] at H
                    have c27b0 : (((rd_T56 t688 0).f3) == 0) = false := beq_eq_false_iff_ne.mpr c27
                    have c27b1 : (((rd_T56 t688 0).f3) != 0) = true := bne_iff_ne.mpr c27
                    simp only [Option.some.injEq, Prod.mk.injEq] at H
                    obtain ⟨rfl, rfl⟩ := H
                    go_wp2_with (first | ((with_reducible refine gate_callee (f := 34) rfl ?_); refine goesL_ (some 42) rfl rfl Tryd.func34 (by kernel_rfl) rfl #[.string ((⟨#[35, 32]⟩ : ByteArray) ++ a1)] rfl (by (try simp only [List.map_toArray, List.map_cons, List.map_nil]); first | done | rfl | (simp only [List.length_drop, List.length_take]; rfl)) ?_; (with_reducible refine (lines_All.calls ((⟨#[35, 32]⟩ : ByteArray) ++ a1) t688 _ ?side1 A22.out).mono ?_); (case side1 => exact gt_below hG (by repeat (first | (with_reducible first | exact HB.out | apply below_alloc | apply pw_below_drewN | apply below_drew1) | exact HB.out))); rintro e w35 ⟨v689, rfl, ho0, hb⟩; refine ⟨_, rfl, ?_⟩; have n0_ := Aside0.mk (Kd.R_below (by (with_reducible repeat (first | apply Kd.R_alloc | apply Kd.R_drewN | apply Kd.R_drew)); exact HO_6.out) hb); have n1_ := Aside0.mk (Kd.R_lower ho0 (below_size (by repeat (first | (with_reducible first | exact HB.out | apply below_alloc | apply pw_below_drewN | apply below_drew1) | exact HB.out)))); have n2_ := Aside0.mk (below_step (by repeat (first | (with_reducible first | exact HB.out | apply below_alloc | apply pw_below_drewN | apply below_drew1) | exact HB.out)) hb); clear HO_6; clear HB; have HO_6 := n0_; have HO690 := n1_; have HB := n2_; clear n0_ n1_ n2_; (try clear hb); (try clear hb2); (try clear hk); (try clear hi); (try clear ho0); obtain ⟨Ao36, co36, eo36⟩ := Kd.R_slice HO690.out; subst eo36; have p691 : 0 ≤ (0 : Int) := (by omega); have q691 : 0 < (t688.length : Int) := of_decide_eq_true (by first | (with_reducible assumption) | assumption); obtain ⟨ad691, e691, hx691_0, hx691_1, hx691_2, hx691_3⟩ := at_T56 (Kd.R_reads' HO690.out).2.2 0 p691 q691; cases e691; have qi691 : (0 < t688.length) = True := eq_true (by omega); (try rw [show ((0 : Int)).toNat = 0 from rfl] at hx691_0); (try rw [show 0 * 4 = 0 from rfl] at hx691_0); (try rw [Addr.add_zero'] at hx691_0); (try rw [show ((0 : Int)).toNat = 0 from rfl] at hx691_1); (try rw [show 0 * 4 = 0 from rfl] at hx691_1); (try rw [Addr.add_zero'] at hx691_1); (try rw [show ((0 : Int)).toNat = 0 from rfl] at hx691_2); (try rw [show 0 * 4 = 0 from rfl] at hx691_2); (try rw [Addr.add_zero'] at hx691_2); (try rw [show ((0 : Int)).toNat = 0 from rfl] at hx691_3); (try rw [show 0 * 4 = 0 from rfl] at hx691_3); (try rw [Addr.add_zero'] at hx691_3); replace p691 := eq_true p691; replace q691 := eq_true q691))
                    go_ret2
                    exact ⟨by first | rfl | (simp [errW_none, errW_some] <;> rfl) | (simp [*, errW_none, errW_some] <;> rfl), by repeat (first | (with_reducible first | exact HB.out | apply below_alloc | apply pw_below_drewN | apply below_drew1) | exact HB.out)⟩
                · rw [if_neg c26] at H
                  exact absurd H (by simp)
            · rw [if_neg c21] at H
              exact absurd H (by simp)
def paymasterlaw10_refused.f (a0 : ByteArray) (a1 : Int) : Option (Bool) := (row_Parse.f a0).bind fun bt697 => (if bt697.2.2.2 = a1 then (some (bt697.1.toList == ([] : List UInt8) && ((bt697.2.1 == 0 && (bt697.2.2.1 == 0))))) else (none))
set_option maxHeartbeats 8000000 in
set_option maxRecDepth 100000 in
theorem paymasterlaw10_refused.calls (a0 : ByteArray) (a1 : Int) (r : Bool) (w : World) (hG : GT w) (h : paymasterlaw10_refused.f a0 a1 = some r) :
    Calls Tryd.prog 63 #[.string a0, .int .i64 a1] w fun e w' => e = .returned (.bool r) ∧ Below w.heap.size w w' := by
  have hu44 := Tryd.underlying44
  have HB := Aside0.mk (Below.refl w.heap.size w)
  have H : ((row_Parse.f a0).bind fun bt697 => (if bt697.2.2.2 = a1 then (some (bt697.1.toList == ([] : List UInt8) && ((bt697.2.1 == 0 && (bt697.2.2.1 == 0))))) else (none))) = some r := h
  clear h
  replace H := Option.bind_eq_some_iff.mp H
  obtain ⟨⟨t697, t698, t699, t700⟩, A30, H⟩ := H
  replace H : (if t700 = a1 then (some (t697.toList == ([] : List UInt8) && ((t698 == 0 && (t699 == 0))))) else (none)) = some r := H
  have A3 := Aside0.mk A30
  clear A30
  by_cases c4 : t700 = a1
  · rw [if_pos c4] at H
    have c4b0 : (t700 == a1) = true := beq_iff_eq.mpr c4
    have c4b1 : (t700 != a1) = false := bne_eq_false_iff_eq.mpr c4
    clear c4
    obtain rfl := Option.some.inj H
    go_enter Tryd.func63, Tryd.ntmps63
    go_wp2_with (first | ((with_reducible refine gate_callee (f := 47) rfl ?_); refine goesL_ (some 9) rfl rfl Tryd.func47 (by kernel_rfl) rfl #[.string a0] rfl (by (try simp only [List.map_toArray, List.map_cons, List.map_nil]); first | done | rfl | (simp only [List.length_drop, List.length_take]; rfl)) ?_; (with_reducible refine (row_Parse.calls a0 t697 t698 t699 t700 _ ?side1 A3.out).mono ?_); (case side1 => exact gt_below hG (by repeat (first | (with_reducible first | exact HB.out | apply below_alloc | apply pw_below_drewN | apply below_drew1) | exact HB.out))); rintro e w5 ⟨rfl, hb⟩; refine ⟨_, rfl, ?_⟩; have n0_ := Aside0.mk (below_step (by repeat (first | (with_reducible first | exact HB.out | apply below_alloc | apply pw_below_drewN | apply below_drew1) | exact HB.out)) hb); clear HB; have HB := n0_; clear n0_; (try clear hb); (try clear hb2); (try clear hk); (try clear hi)) | ((with_reducible refine gate_dst (N := 5) rfl ?_); refine box_event ?hg (N := 5) ?hd (cs := #[.string (⟨#[]⟩ : ByteArray), .int .u64 0, .int .u64 0]) (t := 44) ?hr ?_; (case hd => rfl); (case hg => rfl); (case hr => first | (go_simp; done) | (go_simp; rfl)); intro gb701 hg w6 hbox hb; have n0_ := Aside0.mk (below_step (by repeat (first | (with_reducible first | exact HB.out | apply below_alloc | apply pw_below_drewN | apply below_drew1) | exact HB.out)) hb); have n1_ := Aside0.mk (hbox); have n2_ := Aside0.mk ((by rw [hg]; exact (below_size (by repeat (first | (with_reducible first | exact HB.out | apply below_alloc | apply pw_below_drewN | apply below_drew1) | exact HB.out))) : w.heap.size ≤ gb701)); have n3_ := Aside0.mk ((by rw [hg]; exact (below_size (by repeat (first | (with_reducible first | exact HB.out | apply below_alloc | apply pw_below_drewN | apply below_drew1) | exact HB.out))) : w.heap.size ≤ gb701)); clear HB; have HB := n0_; have BK701 := n1_; have GW701 := n2_; have GE701 := n3_; clear n0_ n1_ n2_ n3_; clear hb hbox hg; have hcz7_0 : w6.cell? ⟨gb701, 0, none⟩ = some (.string (⟨#[]⟩ : ByteArray)) := (blk_cell BK701.out 0).trans rfl; have hcz7_1 : w6.cell? ⟨gb701, 1, none⟩ = some (.int .u64 0) := (blk_cell BK701.out 1).trans rfl; have hcz7_2 : w6.cell? ⟨gb701, 2, none⟩ = some (.int .u64 0) := (blk_cell BK701.out 2).trans rfl; have hfz7_0 := blk_frozen BK701.out 0; have hfz7_1 := blk_frozen BK701.out 1; have hfz7_2 := blk_frozen BK701.out 2))
    go_ret
    exact ⟨by first | rfl | (simp [errW_none, errW_some] <;> rfl) | (simp [*, errW_none, errW_some] <;> rfl), by repeat (first | (with_reducible first | exact HB.out | apply below_alloc | apply pw_below_drewN | apply below_drew1 | refine below_set ?_ GE701.out) | exact HB.out)⟩
  · rw [if_neg c4] at H
    exact absurd H (by simp)
def paymasterlaw10_awake.f (k : Nat)  : Option (Bool) := (row_Parse.f (⟨#[97, 108, 105, 99, 101, 32, 50, 53, 48]⟩ : ByteArray)).bind fun bt702 => ((row_Write.f k (([(⟨(⟨#[98]⟩ : ByteArray), (⟨0, 7⟩ : S42)⟩ : S44)] : List (S44))) (⟨#[120]⟩ : ByteArray)).bind fun bt710 => (if bt702.2.2.2 = 0 then (if (bt702.1.toList == ([97, 108, 105, 99, 101] : List UInt8) && ((bt702.2.1 == 0 && (bt702.2.2.1 == 250)))) = true then ((paymasterlaw10_refused.f (⟨#[97, 108, 105, 99, 101]⟩ : ByteArray) 100).bind fun t712 => (if t712 = true then ((paymasterlaw10_refused.f (⟨#[97, 108, 47, 105, 99, 101, 32, 53]⟩ : ByteArray) 101).bind fun t713 => (if t713 = true then ((paymasterlaw10_refused.f (⟨#[97, 108, 105, 99, 101, 32, 48, 53]⟩ : ByteArray) 102).bind fun t714 => (if t714 = true then ((paymasterlaw10_refused.f (⟨#[97, 108, 105, 99, 101, 32, 32, 53]⟩ : ByteArray) 102).bind fun t715 => (if t715 = true then ((paymasterlaw10_refused.f (⟨#[97, 108, 105, 99, 101, 32, 53, 32]⟩ : ByteArray) 102).bind fun t716 => (if t716 = true then ((paymasterlaw10_refused.f (⟨#[32, 53]⟩ : ByteArray) 101).bind fun t717 => (if t717 = true then (if bt710.2 = 0 then (some (bt710.1.toList == ([35, 32, 120, 10, 98, 32, 55, 10] : List UInt8))) else (none)) else (none))) else (none))) else (none))) else (none))) else (none))) else (none))) else (none)) else (none)))
theorem paymasterlaw10_awake.mono : ∀ k, LeO (paymasterlaw10_awake.f k ) (paymasterlaw10_awake.f (k + 1) ) := by
  intro  k
  unfold paymasterlaw10_awake.f
  repeat' first
      | (with_reducible exact row_Write.mono _ _ _)
      | (with_reducible exact LeO.refl _)
      | (with_reducible exact LeO.none _)
      | (with_reducible refine LeO.ite ?_ ?_)
      | (with_reducible refine LeO.bind ?_ (fun _ => ?_))
      | exact row_Write.mono _ _ _
      | exact LeO.none _
      | refine LeO.ite ?_ ?_
      | refine LeO.bind ?_ (fun _ => ?_)
set_option maxHeartbeats 8000000 in
set_option maxRecDepth 100000 in
theorem paymasterlaw10_awake.calls (k : Nat)  (r : Bool) (w : World) (hG : GT w) (h : paymasterlaw10_awake.f k  = some r) :
    Calls Tryd.prog 25 #[] w fun e w' => e = .returned (.bool r) ∧ Below w.heap.size w w' := by
  have hu44 := Tryd.underlying44
  have hu42 := Tryd.underlying42
  have HB := Aside0.mk (Below.refl w.heap.size w)
  have H : ((row_Parse.f (⟨#[97, 108, 105, 99, 101, 32, 50, 53, 48]⟩ : ByteArray)).bind fun bt702 => ((row_Write.f k (([(⟨(⟨#[98]⟩ : ByteArray), (⟨0, 7⟩ : S42)⟩ : S44)] : List (S44))) (⟨#[120]⟩ : ByteArray)).bind fun bt710 => (if bt702.2.2.2 = 0 then (if (bt702.1.toList == ([97, 108, 105, 99, 101] : List UInt8) && ((bt702.2.1 == 0 && (bt702.2.2.1 == 250)))) = true then ((paymasterlaw10_refused.f (⟨#[97, 108, 105, 99, 101]⟩ : ByteArray) 100).bind fun t712 => (if t712 = true then ((paymasterlaw10_refused.f (⟨#[97, 108, 47, 105, 99, 101, 32, 53]⟩ : ByteArray) 101).bind fun t713 => (if t713 = true then ((paymasterlaw10_refused.f (⟨#[97, 108, 105, 99, 101, 32, 48, 53]⟩ : ByteArray) 102).bind fun t714 => (if t714 = true then ((paymasterlaw10_refused.f (⟨#[97, 108, 105, 99, 101, 32, 32, 53]⟩ : ByteArray) 102).bind fun t715 => (if t715 = true then ((paymasterlaw10_refused.f (⟨#[97, 108, 105, 99, 101, 32, 53, 32]⟩ : ByteArray) 102).bind fun t716 => (if t716 = true then ((paymasterlaw10_refused.f (⟨#[32, 53]⟩ : ByteArray) 101).bind fun t717 => (if t717 = true then (if bt710.2 = 0 then (some (bt710.1.toList == ([35, 32, 120, 10, 98, 32, 55, 10] : List UInt8))) else (none)) else (none))) else (none))) else (none))) else (none))) else (none))) else (none))) else (none)) else (none)))) = some r := h
  clear h
  replace H := Option.bind_eq_some_iff.mp H
  obtain ⟨⟨t702, t703, t704, t705⟩, A10, H⟩ := H
  replace H : ((row_Write.f k (([(⟨(⟨#[98]⟩ : ByteArray), (⟨0, 7⟩ : S42)⟩ : S44)] : List (S44))) (⟨#[120]⟩ : ByteArray)).bind fun bt710 => (if t705 = 0 then (if (t702.toList == ([97, 108, 105, 99, 101] : List UInt8) && ((t703 == 0 && (t704 == 250)))) = true then ((paymasterlaw10_refused.f (⟨#[97, 108, 105, 99, 101]⟩ : ByteArray) 100).bind fun t712 => (if t712 = true then ((paymasterlaw10_refused.f (⟨#[97, 108, 47, 105, 99, 101, 32, 53]⟩ : ByteArray) 101).bind fun t713 => (if t713 = true then ((paymasterlaw10_refused.f (⟨#[97, 108, 105, 99, 101, 32, 48, 53]⟩ : ByteArray) 102).bind fun t714 => (if t714 = true then ((paymasterlaw10_refused.f (⟨#[97, 108, 105, 99, 101, 32, 32, 53]⟩ : ByteArray) 102).bind fun t715 => (if t715 = true then ((paymasterlaw10_refused.f (⟨#[97, 108, 105, 99, 101, 32, 53, 32]⟩ : ByteArray) 102).bind fun t716 => (if t716 = true then ((paymasterlaw10_refused.f (⟨#[32, 53]⟩ : ByteArray) 101).bind fun t717 => (if t717 = true then (if bt710.2 = 0 then (some (bt710.1.toList == ([35, 32, 120, 10, 98, 32, 55, 10] : List UInt8))) else (none)) else (none))) else (none))) else (none))) else (none))) else (none))) else (none))) else (none)) else (none))) = some r := H
  have A1 := Aside0.mk A10
  clear A10
  obtain ⟨y707, hy707⟩ : ∃ y_ : List (S44), y_ = (([(⟨(⟨#[98]⟩ : ByteArray), (⟨0, 7⟩ : S42)⟩ : S44)] : List (S44))) := ⟨_, rfl⟩
  replace H : ((row_Write.f k y707 (⟨#[120]⟩ : ByteArray)).bind fun bt710 => (if t705 = 0 then (if (t702.toList == ([97, 108, 105, 99, 101] : List UInt8) && ((t703 == 0 && (t704 == 250)))) = true then ((paymasterlaw10_refused.f (⟨#[97, 108, 105, 99, 101]⟩ : ByteArray) 100).bind fun t712 => (if t712 = true then ((paymasterlaw10_refused.f (⟨#[97, 108, 47, 105, 99, 101, 32, 53]⟩ : ByteArray) 101).bind fun t713 => (if t713 = true then ((paymasterlaw10_refused.f (⟨#[97, 108, 105, 99, 101, 32, 48, 53]⟩ : ByteArray) 102).bind fun t714 => (if t714 = true then ((paymasterlaw10_refused.f (⟨#[97, 108, 105, 99, 101, 32, 32, 53]⟩ : ByteArray) 102).bind fun t715 => (if t715 = true then ((paymasterlaw10_refused.f (⟨#[97, 108, 105, 99, 101, 32, 53, 32]⟩ : ByteArray) 102).bind fun t716 => (if t716 = true then ((paymasterlaw10_refused.f (⟨#[32, 53]⟩ : ByteArray) 101).bind fun t717 => (if t717 = true then (if bt710.2 = 0 then (some (bt710.1.toList == ([35, 32, 120, 10, 98, 32, 55, 10] : List UInt8))) else (none)) else (none))) else (none))) else (none))) else (none))) else (none))) else (none))) else (none)) else (none))) = some r := by first | (rw [hy707]; with_reducible exact H) | (have H2_ := (Option.bind_some _ _).symm.trans H; rw [hy707]; with_reducible exact H2_) | (have H2_ := (Option.bind_some _ _).symm.trans H; with_reducible exact H2_) | with_reducible exact H | (rw [hy707]; exact H) | exact H
  have Ny707 := Aside0.mk hy707
  clear hy707
  replace H := Option.bind_eq_some_iff.mp H
  obtain ⟨⟨t710, t711⟩, A20, H⟩ := H
  replace H : (if t705 = 0 then (if (t702.toList == ([97, 108, 105, 99, 101] : List UInt8) && ((t703 == 0 && (t704 == 250)))) = true then ((paymasterlaw10_refused.f (⟨#[97, 108, 105, 99, 101]⟩ : ByteArray) 100).bind fun t712 => (if t712 = true then ((paymasterlaw10_refused.f (⟨#[97, 108, 47, 105, 99, 101, 32, 53]⟩ : ByteArray) 101).bind fun t713 => (if t713 = true then ((paymasterlaw10_refused.f (⟨#[97, 108, 105, 99, 101, 32, 48, 53]⟩ : ByteArray) 102).bind fun t714 => (if t714 = true then ((paymasterlaw10_refused.f (⟨#[97, 108, 105, 99, 101, 32, 32, 53]⟩ : ByteArray) 102).bind fun t715 => (if t715 = true then ((paymasterlaw10_refused.f (⟨#[97, 108, 105, 99, 101, 32, 53, 32]⟩ : ByteArray) 102).bind fun t716 => (if t716 = true then ((paymasterlaw10_refused.f (⟨#[32, 53]⟩ : ByteArray) 101).bind fun t717 => (if t717 = true then (if t711 = 0 then (some (t710.toList == ([35, 32, 120, 10, 98, 32, 55, 10] : List UInt8))) else (none)) else (none))) else (none))) else (none))) else (none))) else (none))) else (none))) else (none)) else (none)) = some r := H
  have A2 := Aside0.mk A20
  clear A20
  by_cases c3 : t705 = 0
  · rw [if_pos c3] at H
    have c3b0 : (t705 == 0) = true := beq_iff_eq.mpr c3
    have c3b1 : (t705 != 0) = false := bne_eq_false_iff_eq.mpr c3
    clear c3
    by_cases c4 : (t702.toList == ([97, 108, 105, 99, 101] : List UInt8) && ((t703 == 0 && (t704 == 250)))) = true
    · rw [if_pos c4] at H
      have c4b0 : (t702.toList == ([97, 108, 105, 99, 101] : List UInt8) && ((t703 == 0 && (t704 == 250)))) = true := c4
      (try (have c4b1 : decide (t702.toList = ([97, 108, 105, 99, 101] : List UInt8) && ((t703 == 0 && (t704 == 250)))) = true := by simpa using c4))
      (try (have c4b2 : (t702.toList == ([97, 108, 105, 99, 101] : List UInt8) && ((t703 == 0 && (t704 == 250)))) = true := by simpa using c4))
      clear c4
      replace H := Option.bind_eq_some_iff.mp H
      obtain ⟨t712, A50, H⟩ := H
      replace H : (if t712 = true then ((paymasterlaw10_refused.f (⟨#[97, 108, 47, 105, 99, 101, 32, 53]⟩ : ByteArray) 101).bind fun t713 => (if t713 = true then ((paymasterlaw10_refused.f (⟨#[97, 108, 105, 99, 101, 32, 48, 53]⟩ : ByteArray) 102).bind fun t714 => (if t714 = true then ((paymasterlaw10_refused.f (⟨#[97, 108, 105, 99, 101, 32, 32, 53]⟩ : ByteArray) 102).bind fun t715 => (if t715 = true then ((paymasterlaw10_refused.f (⟨#[97, 108, 105, 99, 101, 32, 53, 32]⟩ : ByteArray) 102).bind fun t716 => (if t716 = true then ((paymasterlaw10_refused.f (⟨#[32, 53]⟩ : ByteArray) 101).bind fun t717 => (if t717 = true then (if t711 = 0 then (some (t710.toList == ([35, 32, 120, 10, 98, 32, 55, 10] : List UInt8))) else (none)) else (none))) else (none))) else (none))) else (none))) else (none))) else (none)) = some r := H
      have A5 := Aside0.mk A50
      clear A50
      by_cases c6 : t712 = true
      · subst c6
        have H1 : ((paymasterlaw10_refused.f (⟨#[97, 108, 47, 105, 99, 101, 32, 53]⟩ : ByteArray) 101).bind fun t713 => (if t713 = true then ((paymasterlaw10_refused.f (⟨#[97, 108, 105, 99, 101, 32, 48, 53]⟩ : ByteArray) 102).bind fun t714 => (if t714 = true then ((paymasterlaw10_refused.f (⟨#[97, 108, 105, 99, 101, 32, 32, 53]⟩ : ByteArray) 102).bind fun t715 => (if t715 = true then ((paymasterlaw10_refused.f (⟨#[97, 108, 105, 99, 101, 32, 53, 32]⟩ : ByteArray) 102).bind fun t716 => (if t716 = true then ((paymasterlaw10_refused.f (⟨#[32, 53]⟩ : ByteArray) 101).bind fun t717 => (if t717 = true then (if t711 = 0 then (some (t710.toList == ([35, 32, 120, 10, 98, 32, 55, 10] : List UInt8))) else (none)) else (none))) else (none))) else (none))) else (none))) else (none))) = some r := by rw [if_pos rfl] at H; exact H
        clear H
        have H := H1
        clear H1
        replace H := Option.bind_eq_some_iff.mp H
        obtain ⟨t713, A70, H⟩ := H
        replace H : (if t713 = true then ((paymasterlaw10_refused.f (⟨#[97, 108, 105, 99, 101, 32, 48, 53]⟩ : ByteArray) 102).bind fun t714 => (if t714 = true then ((paymasterlaw10_refused.f (⟨#[97, 108, 105, 99, 101, 32, 32, 53]⟩ : ByteArray) 102).bind fun t715 => (if t715 = true then ((paymasterlaw10_refused.f (⟨#[97, 108, 105, 99, 101, 32, 53, 32]⟩ : ByteArray) 102).bind fun t716 => (if t716 = true then ((paymasterlaw10_refused.f (⟨#[32, 53]⟩ : ByteArray) 101).bind fun t717 => (if t717 = true then (if t711 = 0 then (some (t710.toList == ([35, 32, 120, 10, 98, 32, 55, 10] : List UInt8))) else (none)) else (none))) else (none))) else (none))) else (none))) else (none)) = some r := H
        have A7 := Aside0.mk A70
        clear A70
        by_cases c8 : t713 = true
        · subst c8
          have H1 : ((paymasterlaw10_refused.f (⟨#[97, 108, 105, 99, 101, 32, 48, 53]⟩ : ByteArray) 102).bind fun t714 => (if t714 = true then ((paymasterlaw10_refused.f (⟨#[97, 108, 105, 99, 101, 32, 32, 53]⟩ : ByteArray) 102).bind fun t715 => (if t715 = true then ((paymasterlaw10_refused.f (⟨#[97, 108, 105, 99, 101, 32, 53, 32]⟩ : ByteArray) 102).bind fun t716 => (if t716 = true then ((paymasterlaw10_refused.f (⟨#[32, 53]⟩ : ByteArray) 101).bind fun t717 => (if t717 = true then (if t711 = 0 then (some (t710.toList == ([35, 32, 120, 10, 98, 32, 55, 10] : List UInt8))) else (none)) else (none))) else (none))) else (none))) else (none))) = some r := by rw [if_pos rfl] at H; exact H
          clear H
          have H := H1
          clear H1
          replace H := Option.bind_eq_some_iff.mp H
          obtain ⟨t714, A90, H⟩ := H
          replace H : (if t714 = true then ((paymasterlaw10_refused.f (⟨#[97, 108, 105, 99, 101, 32, 32, 53]⟩ : ByteArray) 102).bind fun t715 => (if t715 = true then ((paymasterlaw10_refused.f (⟨#[97, 108, 105, 99, 101, 32, 53, 32]⟩ : ByteArray) 102).bind fun t716 => (if t716 = true then ((paymasterlaw10_refused.f (⟨#[32, 53]⟩ : ByteArray) 101).bind fun t717 => (if t717 = true then (if t711 = 0 then (some (t710.toList == ([35, 32, 120, 10, 98, 32, 55, 10] : List UInt8))) else (none)) else (none))) else (none))) else (none))) else (none)) = some r := H
          have A9 := Aside0.mk A90
          clear A90
          by_cases c10 : t714 = true
          · subst c10
            have H1 : ((paymasterlaw10_refused.f (⟨#[97, 108, 105, 99, 101, 32, 32, 53]⟩ : ByteArray) 102).bind fun t715 => (if t715 = true then ((paymasterlaw10_refused.f (⟨#[97, 108, 105, 99, 101, 32, 53, 32]⟩ : ByteArray) 102).bind fun t716 => (if t716 = true then ((paymasterlaw10_refused.f (⟨#[32, 53]⟩ : ByteArray) 101).bind fun t717 => (if t717 = true then (if t711 = 0 then (some (t710.toList == ([35, 32, 120, 10, 98, 32, 55, 10] : List UInt8))) else (none)) else (none))) else (none))) else (none))) = some r := by rw [if_pos rfl] at H; exact H
            clear H
            have H := H1
            clear H1
            replace H := Option.bind_eq_some_iff.mp H
            obtain ⟨t715, A110, H⟩ := H
            replace H : (if t715 = true then ((paymasterlaw10_refused.f (⟨#[97, 108, 105, 99, 101, 32, 53, 32]⟩ : ByteArray) 102).bind fun t716 => (if t716 = true then ((paymasterlaw10_refused.f (⟨#[32, 53]⟩ : ByteArray) 101).bind fun t717 => (if t717 = true then (if t711 = 0 then (some (t710.toList == ([35, 32, 120, 10, 98, 32, 55, 10] : List UInt8))) else (none)) else (none))) else (none))) else (none)) = some r := H
            have A11 := Aside0.mk A110
            clear A110
            by_cases c12 : t715 = true
            · subst c12
              have H1 : ((paymasterlaw10_refused.f (⟨#[97, 108, 105, 99, 101, 32, 53, 32]⟩ : ByteArray) 102).bind fun t716 => (if t716 = true then ((paymasterlaw10_refused.f (⟨#[32, 53]⟩ : ByteArray) 101).bind fun t717 => (if t717 = true then (if t711 = 0 then (some (t710.toList == ([35, 32, 120, 10, 98, 32, 55, 10] : List UInt8))) else (none)) else (none))) else (none))) = some r := by rw [if_pos rfl] at H; exact H
              clear H
              have H := H1
              clear H1
              replace H := Option.bind_eq_some_iff.mp H
              obtain ⟨t716, A130, H⟩ := H
              replace H : (if t716 = true then ((paymasterlaw10_refused.f (⟨#[32, 53]⟩ : ByteArray) 101).bind fun t717 => (if t717 = true then (if t711 = 0 then (some (t710.toList == ([35, 32, 120, 10, 98, 32, 55, 10] : List UInt8))) else (none)) else (none))) else (none)) = some r := H
              have A13 := Aside0.mk A130
              clear A130
              by_cases c14 : t716 = true
              · subst c14
                have H1 : ((paymasterlaw10_refused.f (⟨#[32, 53]⟩ : ByteArray) 101).bind fun t717 => (if t717 = true then (if t711 = 0 then (some (t710.toList == ([35, 32, 120, 10, 98, 32, 55, 10] : List UInt8))) else (none)) else (none))) = some r := by rw [if_pos rfl] at H; exact H
                clear H
                have H := H1
                clear H1
                replace H := Option.bind_eq_some_iff.mp H
                obtain ⟨t717, A150, H⟩ := H
                replace H : (if t717 = true then (if t711 = 0 then (some (t710.toList == ([35, 32, 120, 10, 98, 32, 55, 10] : List UInt8))) else (none)) else (none)) = some r := H
                have A15 := Aside0.mk A150
                clear A150
                by_cases c16 : t717 = true
                · subst c16
                  have H1 : (if t711 = 0 then (some (t710.toList == ([35, 32, 120, 10, 98, 32, 55, 10] : List UInt8))) else (none)) = some r := by rw [if_pos rfl] at H; exact H
                  clear H
                  have H := H1
                  clear H1
                  by_cases c17 : t711 = 0
                  · rw [if_pos c17] at H
                    have c17b0 : (t711 == 0) = true := beq_iff_eq.mpr c17
                    have c17b1 : (t711 != 0) = false := bne_eq_false_iff_eq.mpr c17
                    clear c17
                    obtain rfl := Option.some.inj H
                    go_enter Tryd.func25, Tryd.ntmps25
                    go_wp2_with (first | ((with_reducible refine gate_callee (f := 47) rfl ?_); refine goesL_ (some 6) rfl rfl Tryd.func47 (by kernel_rfl) rfl #[.string (⟨#[97, 108, 105, 99, 101, 32, 50, 53, 48]⟩ : ByteArray)] rfl (by (try simp only [List.map_toArray, List.map_cons, List.map_nil]); first | done | rfl | (simp only [List.length_drop, List.length_take]; rfl)) ?_; (with_reducible refine (row_Parse.calls (⟨#[97, 108, 105, 99, 101, 32, 50, 53, 48]⟩ : ByteArray) t702 t703 t704 t705 _ ?side1 A1.out).mono ?_); (case side1 => exact gt_below hG (by repeat (first | (with_reducible first | exact HB.out | apply below_alloc | apply pw_below_drewN | apply below_drew1) | exact HB.out))); rintro e w18 ⟨rfl, hb⟩; refine ⟨_, rfl, ?_⟩; have n0_ := Aside0.mk (below_step (by repeat (first | (with_reducible first | exact HB.out | apply below_alloc | apply pw_below_drewN | apply below_drew1) | exact HB.out)) hb); clear HB; have HB := n0_; clear n0_; (try clear hb); (try clear hb2); (try clear hk); (try clear hi)) | ((with_reducible refine gate_dst (N := 1) rfl ?_); refine box_event ?hg (N := 1) ?hd (cs := #[.string (⟨#[]⟩ : ByteArray), .int .u64 0, .int .u64 0]) (t := 44) ?hr ?_; (case hd => rfl); (case hg => rfl); (case hr => first | (go_simp; done) | (go_simp; rfl)); intro gb706 hg w19 hbox hb; have n0_ := Aside0.mk (below_step (by repeat (first | (with_reducible first | exact HB.out | apply below_alloc | apply pw_below_drewN | apply below_drew1) | exact HB.out)) hb); have n1_ := Aside0.mk (hbox); have n2_ := Aside0.mk ((by rw [hg]; exact (below_size (by repeat (first | (with_reducible first | exact HB.out | apply below_alloc | apply pw_below_drewN | apply below_drew1) | exact HB.out))) : w.heap.size ≤ gb706)); have n3_ := Aside0.mk ((by rw [hg]; exact (below_size (by repeat (first | (with_reducible first | exact HB.out | apply below_alloc | apply pw_below_drewN | apply below_drew1) | exact HB.out))) : w.heap.size ≤ gb706)); clear HB; have HB := n0_; have BK706 := n1_; have GW706 := n2_; have GE706 := n3_; clear n0_ n1_ n2_ n3_; clear hb hbox hg; have hcz20_0 : w19.cell? ⟨gb706, 0, none⟩ = some (.string (⟨#[]⟩ : ByteArray)) := (blk_cell BK706.out 0).trans rfl; have hcz20_1 : w19.cell? ⟨gb706, 1, none⟩ = some (.int .u64 0) := (blk_cell BK706.out 1).trans rfl; have hcz20_2 : w19.cell? ⟨gb706, 2, none⟩ = some (.int .u64 0) := (blk_cell BK706.out 2).trans rfl; have hfz20_0 := blk_frozen BK706.out 0; have hfz20_1 := blk_frozen BK706.out 1; have hfz20_2 := blk_frozen BK706.out 2) | ((with_reducible refine gate_dst (N := 12) rfl ?_); refine Kd.R_lit k44 _ 44 ?hg (N := 12) ?hd (xs := ([(⟨(⟨#[98]⟩ : ByteArray), (⟨0, 7⟩ : S42)⟩ : S44)] : List (S44))) (inner := [.string (⟨#[98]⟩ : ByteArray), .int .u64 0, .int .u64 7]) (ok := fun _ => True) (okp := fun _ => True) ?hr ?hp (fun _ hk => hk) trivial (Below.refl _ _) (Nat.le_refl _) (by simp) ?_; (case hd => rfl); (case hg => rfl); (case hr => first | (go_simp; done) | (go_simp; rfl)); (case hp => exact (Reps.c3 (show Kd.M k44 _ _ _ (⟨(⟨#[98]⟩ : ByteArray), (⟨0, 7⟩ : S42)⟩ : S44) [.string (⟨#[98]⟩ : ByteArray), .int .u64 0, .int .u64 7] from (k44_mkM _ _ _ (⟨(⟨#[98]⟩ : ByteArray), (⟨0, 7⟩ : S42)⟩ : S44) )) (Reps.none _ _))); intro v708 w21 ho22 hb hg_ hnew_; clear hg_ hnew_; (first | rw [← Ny707.out] at ho22 | (simp only [Int.reduceToNat] at ho22; rw [← Ny707.out] at ho22)); have n0_ := Aside0.mk (Kd.R_lower (Kd.R_newB ho22 (g := gb706) (o := .cells #[.string t702, .int .u64 t703, .int .u64 t704] 44 (0, 0)) (by (with_reducible repeat (first | refine blk_drewN ?_ _ | refine blk_drew ?_ | refine blk_alloc ?_ _)); refine blk_put (cs := #[.string t702, .int .u64 t703, .int .u64 0]) ?_ 2 _ rfl; (with_reducible repeat (first | refine blk_drewN ?_ _ | refine blk_drew ?_ | refine blk_alloc ?_ _)); refine blk_put (cs := #[.string t702, .int .u64 0, .int .u64 0]) ?_ 1 _ rfl; (with_reducible repeat (first | refine blk_drewN ?_ _ | refine blk_drew ?_ | refine blk_alloc ?_ _)); refine blk_put (cs := #[.string (⟨#[]⟩ : ByteArray), .int .u64 0, .int .u64 0]) ?_ 0 _ rfl; (with_reducible repeat (first | refine blk_drewN ?_ _ | refine blk_drew ?_ | refine blk_alloc ?_ _)); exact BK706.out)) (below_size (by repeat (first | (with_reducible first | exact HB.out | apply below_alloc | apply pw_below_drewN | apply below_drew1 | refine below_set ?_ GE706.out) | exact HB.out)))); have n1_ := Aside0.mk (blk_below (g := gb706) (o := .cells #[.string t702, .int .u64 t703, .int .u64 t704] 44 (0, 0)) (by (with_reducible repeat (first | refine blk_drewN ?_ _ | refine blk_drew ?_ | refine blk_alloc ?_ _)); refine blk_put (cs := #[.string t702, .int .u64 t703, .int .u64 0]) ?_ 2 _ rfl; (with_reducible repeat (first | refine blk_drewN ?_ _ | refine blk_drew ?_ | refine blk_alloc ?_ _)); refine blk_put (cs := #[.string t702, .int .u64 0, .int .u64 0]) ?_ 1 _ rfl; (with_reducible repeat (first | refine blk_drewN ?_ _ | refine blk_drew ?_ | refine blk_alloc ?_ _)); refine blk_put (cs := #[.string (⟨#[]⟩ : ByteArray), .int .u64 0, .int .u64 0]) ?_ 0 _ rfl; (with_reducible repeat (first | refine blk_drewN ?_ _ | refine blk_drew ?_ | refine blk_alloc ?_ _)); exact BK706.out) hb); have n2_ := Aside0.mk (below_step (by repeat (first | (with_reducible first | exact HB.out | apply below_alloc | apply pw_below_drewN | apply below_drew1 | refine below_set ?_ GE706.out) | exact HB.out)) hb); clear BK706; clear HB; have HO709 := n0_; have BK706 := n1_; have HB := n2_; clear n0_ n1_ n2_; clear hb ho22; obtain ⟨Ao23, co23, eo23⟩ := Kd.R_slice HO709.out; subst eo23) | ((with_reducible refine gate_callee (f := 52) rfl ?_); refine goesL_ (some 13) rfl rfl Tryd.func52 (by kernel_rfl) rfl #[.slice Ao23 y707.length co23, .string (⟨#[120]⟩ : ByteArray)] rfl (by (try simp only [List.map_toArray, List.map_cons, List.map_nil]); first | done | rfl | (simp only [List.length_drop, List.length_take]; rfl)) ?_; (with_reducible refine (row_Write.calls k _ _ y707 (⟨#[120]⟩ : ByteArray) t710 t711 _ ?side1 ?side2 ?side3 A2.out).mono ?_); (case side1 => repeat (first | exact (Kd.R_reads' HO709.out).2.2 | (with_reducible refine Kd.C_alloc ?_ _) | (with_reducible refine Kd.C_drewN ?_ _) | (with_reducible refine Kd.C_drew ?_))); (case side2 => exact (Kd.R_reads' HO709.out).2.1); (case side3 => exact gt_below hG (by repeat (first | (with_reducible first | exact HB.out | apply below_alloc | apply pw_below_drewN | apply below_drew1 | refine below_set ?_ GE706.out) | exact HB.out))); rintro e w24 ⟨rfl, hb⟩; refine ⟨_, rfl, ?_⟩; have n0_ := Aside0.mk (Kd.R_below (by (with_reducible repeat (first | apply Kd.R_alloc | apply Kd.R_drewN | apply Kd.R_drew)); exact HO709.out) hb); have n1_ := Aside0.mk (blk_below (g := gb706) (o := .cells #[.string t702, .int .u64 t703, .int .u64 t704] 44 (0, 0)) (by (with_reducible repeat (first | refine blk_drewN ?_ _ | refine blk_drew ?_ | refine blk_alloc ?_ _)); exact BK706.out) hb); have n2_ := Aside0.mk (below_step (by repeat (first | (with_reducible first | exact HB.out | apply below_alloc | apply pw_below_drewN | apply below_drew1 | refine below_set ?_ GE706.out) | exact HB.out)) hb); clear HO709; clear BK706; clear HB; have HO709 := n0_; have BK706 := n1_; have HB := n2_; clear n0_ n1_ n2_; (try clear hb); (try clear hb2); (try clear hk); (try clear hi); have hcz25_0 : w24.cell? ⟨gb706, 0, none⟩ = some (.string t702) := (blk_cell BK706.out 0).trans rfl; have hcz25_1 : w24.cell? ⟨gb706, 1, none⟩ = some (.int .u64 t703) := (blk_cell BK706.out 1).trans rfl; have hcz25_2 : w24.cell? ⟨gb706, 2, none⟩ = some (.int .u64 t704) := (blk_cell BK706.out 2).trans rfl; have hfz25_0 := blk_frozen BK706.out 0; have hfz25_1 := blk_frozen BK706.out 1; have hfz25_2 := blk_frozen BK706.out 2) | (go_at_call 63; (with_reducible refine (paymasterlaw10_refused.calls (⟨#[97, 108, 105, 99, 101]⟩ : ByteArray) 100 true _ ?side1 A5.out).mono ?_); (case side1 => exact gt_below hG (by repeat (first | (with_reducible first | exact HB.out | apply below_alloc | apply pw_below_drewN | apply below_drew1 | refine below_set ?_ GE706.out) | exact HB.out))); rintro e w26 ⟨rfl, hb⟩; have n0_ := Aside0.mk (Kd.R_below (by (with_reducible repeat (first | apply Kd.R_alloc | apply Kd.R_drewN | apply Kd.R_drew)); exact HO709.out) hb); have n1_ := Aside0.mk (blk_below (g := gb706) (o := .cells #[.string t702, .int .u64 t703, .int .u64 t704] 44 (0, 0)) (by (with_reducible repeat (first | refine blk_drewN ?_ _ | refine blk_drew ?_ | refine blk_alloc ?_ _)); exact BK706.out) hb); have n2_ := Aside0.mk (below_step (by repeat (first | (with_reducible first | exact HB.out | apply below_alloc | apply pw_below_drewN | apply below_drew1 | refine below_set ?_ GE706.out) | exact HB.out)) hb); clear HO709; clear BK706; clear HB; have HO709 := n0_; have BK706 := n1_; have HB := n2_; clear n0_ n1_ n2_; (try clear hb); (try clear hb2); (try clear hk); (try clear hi)) | (go_at_call 63; (with_reducible refine (paymasterlaw10_refused.calls (⟨#[97, 108, 47, 105, 99, 101, 32, 53]⟩ : ByteArray) 101 true _ ?side1 A7.out).mono ?_); (case side1 => exact gt_below hG (by repeat (first | (with_reducible first | exact HB.out | apply below_alloc | apply pw_below_drewN | apply below_drew1 | refine below_set ?_ GE706.out) | exact HB.out))); rintro e w27 ⟨rfl, hb⟩; have n0_ := Aside0.mk (Kd.R_below (by (with_reducible repeat (first | apply Kd.R_alloc | apply Kd.R_drewN | apply Kd.R_drew)); exact HO709.out) hb); have n1_ := Aside0.mk (blk_below (g := gb706) (o := .cells #[.string t702, .int .u64 t703, .int .u64 t704] 44 (0, 0)) (by (with_reducible repeat (first | refine blk_drewN ?_ _ | refine blk_drew ?_ | refine blk_alloc ?_ _)); exact BK706.out) hb); have n2_ := Aside0.mk (below_step (by repeat (first | (with_reducible first | exact HB.out | apply below_alloc | apply pw_below_drewN | apply below_drew1 | refine below_set ?_ GE706.out) | exact HB.out)) hb); clear HO709; clear BK706; clear HB; have HO709 := n0_; have BK706 := n1_; have HB := n2_; clear n0_ n1_ n2_; (try clear hb); (try clear hb2); (try clear hk); (try clear hi)) | (go_at_call 63; (with_reducible refine (paymasterlaw10_refused.calls (⟨#[97, 108, 105, 99, 101, 32, 48, 53]⟩ : ByteArray) 102 true _ ?side1 A9.out).mono ?_); (case side1 => exact gt_below hG (by repeat (first | (with_reducible first | exact HB.out | apply below_alloc | apply pw_below_drewN | apply below_drew1 | refine below_set ?_ GE706.out) | exact HB.out))); rintro e w28 ⟨rfl, hb⟩; have n0_ := Aside0.mk (Kd.R_below (by (with_reducible repeat (first | apply Kd.R_alloc | apply Kd.R_drewN | apply Kd.R_drew)); exact HO709.out) hb); have n1_ := Aside0.mk (blk_below (g := gb706) (o := .cells #[.string t702, .int .u64 t703, .int .u64 t704] 44 (0, 0)) (by (with_reducible repeat (first | refine blk_drewN ?_ _ | refine blk_drew ?_ | refine blk_alloc ?_ _)); exact BK706.out) hb); have n2_ := Aside0.mk (below_step (by repeat (first | (with_reducible first | exact HB.out | apply below_alloc | apply pw_below_drewN | apply below_drew1 | refine below_set ?_ GE706.out) | exact HB.out)) hb); clear HO709; clear BK706; clear HB; have HO709 := n0_; have BK706 := n1_; have HB := n2_; clear n0_ n1_ n2_; (try clear hb); (try clear hb2); (try clear hk); (try clear hi)) | (go_at_call 63; (with_reducible refine (paymasterlaw10_refused.calls (⟨#[97, 108, 105, 99, 101, 32, 32, 53]⟩ : ByteArray) 102 true _ ?side1 A11.out).mono ?_); (case side1 => exact gt_below hG (by repeat (first | (with_reducible first | exact HB.out | apply below_alloc | apply pw_below_drewN | apply below_drew1 | refine below_set ?_ GE706.out) | exact HB.out))); rintro e w29 ⟨rfl, hb⟩; have n0_ := Aside0.mk (Kd.R_below (by (with_reducible repeat (first | apply Kd.R_alloc | apply Kd.R_drewN | apply Kd.R_drew)); exact HO709.out) hb); have n1_ := Aside0.mk (blk_below (g := gb706) (o := .cells #[.string t702, .int .u64 t703, .int .u64 t704] 44 (0, 0)) (by (with_reducible repeat (first | refine blk_drewN ?_ _ | refine blk_drew ?_ | refine blk_alloc ?_ _)); exact BK706.out) hb); have n2_ := Aside0.mk (below_step (by repeat (first | (with_reducible first | exact HB.out | apply below_alloc | apply pw_below_drewN | apply below_drew1 | refine below_set ?_ GE706.out) | exact HB.out)) hb); clear HO709; clear BK706; clear HB; have HO709 := n0_; have BK706 := n1_; have HB := n2_; clear n0_ n1_ n2_; (try clear hb); (try clear hb2); (try clear hk); (try clear hi)) | (go_at_call 63; (with_reducible refine (paymasterlaw10_refused.calls (⟨#[97, 108, 105, 99, 101, 32, 53, 32]⟩ : ByteArray) 102 true _ ?side1 A13.out).mono ?_); (case side1 => exact gt_below hG (by repeat (first | (with_reducible first | exact HB.out | apply below_alloc | apply pw_below_drewN | apply below_drew1 | refine below_set ?_ GE706.out) | exact HB.out))); rintro e w30 ⟨rfl, hb⟩; have n0_ := Aside0.mk (Kd.R_below (by (with_reducible repeat (first | apply Kd.R_alloc | apply Kd.R_drewN | apply Kd.R_drew)); exact HO709.out) hb); have n1_ := Aside0.mk (blk_below (g := gb706) (o := .cells #[.string t702, .int .u64 t703, .int .u64 t704] 44 (0, 0)) (by (with_reducible repeat (first | refine blk_drewN ?_ _ | refine blk_drew ?_ | refine blk_alloc ?_ _)); exact BK706.out) hb); have n2_ := Aside0.mk (below_step (by repeat (first | (with_reducible first | exact HB.out | apply below_alloc | apply pw_below_drewN | apply below_drew1 | refine below_set ?_ GE706.out) | exact HB.out)) hb); clear HO709; clear BK706; clear HB; have HO709 := n0_; have BK706 := n1_; have HB := n2_; clear n0_ n1_ n2_; (try clear hb); (try clear hb2); (try clear hk); (try clear hi)) | (go_at_call 63; (with_reducible refine (paymasterlaw10_refused.calls (⟨#[32, 53]⟩ : ByteArray) 101 true _ ?side1 A15.out).mono ?_); (case side1 => exact gt_below hG (by repeat (first | (with_reducible first | exact HB.out | apply below_alloc | apply pw_below_drewN | apply below_drew1 | refine below_set ?_ GE706.out) | exact HB.out))); rintro e w31 ⟨rfl, hb⟩; have n0_ := Aside0.mk (Kd.R_below (by (with_reducible repeat (first | apply Kd.R_alloc | apply Kd.R_drewN | apply Kd.R_drew)); exact HO709.out) hb); have n1_ := Aside0.mk (blk_below (g := gb706) (o := .cells #[.string t702, .int .u64 t703, .int .u64 t704] 44 (0, 0)) (by (with_reducible repeat (first | refine blk_drewN ?_ _ | refine blk_drew ?_ | refine blk_alloc ?_ _)); exact BK706.out) hb); have n2_ := Aside0.mk (below_step (by repeat (first | (with_reducible first | exact HB.out | apply below_alloc | apply pw_below_drewN | apply below_drew1 | refine below_set ?_ GE706.out) | exact HB.out)) hb); clear HO709; clear BK706; clear HB; have HO709 := n0_; have BK706 := n1_; have HB := n2_; clear n0_ n1_ n2_; (try clear hb); (try clear hb2); (try clear hk); (try clear hi)))
                    go_ret
                    exact ⟨by first | rfl | (simp [errW_none, errW_some] <;> rfl) | (simp [*, errW_none, errW_some] <;> rfl), by repeat (first | (with_reducible first | exact HB.out | apply below_alloc | apply pw_below_drewN | apply below_drew1 | refine below_set ?_ GE706.out) | exact HB.out)⟩
                  · rw [if_neg c17] at H
                    exact absurd H (by simp)
                · replace c16 := Bool.eq_false_iff.mpr c16
                  subst c16
                  have H1 : (none) = some r := by rw [if_neg (show ¬ (false = true) by decide)] at H; exact H
                  clear H
                  have H := H1
                  clear H1
                  exact absurd H (by simp)
              · replace c14 := Bool.eq_false_iff.mpr c14
                subst c14
                have H1 : (none) = some r := by rw [if_neg (show ¬ (false = true) by decide)] at H; exact H
                clear H
                have H := H1
                clear H1
                exact absurd H (by simp)
            · replace c12 := Bool.eq_false_iff.mpr c12
              subst c12
              have H1 : (none) = some r := by rw [if_neg (show ¬ (false = true) by decide)] at H; exact H
              clear H
              have H := H1
              clear H1
              exact absurd H (by simp)
          · replace c10 := Bool.eq_false_iff.mpr c10
            subst c10
            have H1 : (none) = some r := by rw [if_neg (show ¬ (false = true) by decide)] at H; exact H
            clear H
            have H := H1
            clear H1
            exact absurd H (by simp)
        · replace c8 := Bool.eq_false_iff.mpr c8
          subst c8
          have H1 : (none) = some r := by rw [if_neg (show ¬ (false = true) by decide)] at H; exact H
          clear H
          have H := H1
          clear H1
          exact absurd H (by simp)
      · replace c6 := Bool.eq_false_iff.mpr c6
        subst c6
        have H1 : (none) = some r := by rw [if_neg (show ¬ (false = true) by decide)] at H; exact H
        clear H
        have H := H1
        clear H1
        exact absurd H (by simp)
    · rw [if_neg c4] at H
      exact absurd H (by simp)
  · rw [if_neg c3] at H
    exact absurd H (by simp)
end Go.Proofs.YtpkjpiphjdpegaaDoor.P
namespace Go.Proofs.YtpkjpiphjdpegaaDoor.P
open Go.RowKit Go.Proofs.YtpkjpiphjdpegaaDoorW.PrintWords Go.Proofs.YtpkjpiphjdpegaaDoorW.PrintLast Go.Proofs.YtpkjpiphjdpegaaDoorW.PrintMore
set_option linter.unusedVariables false
set_option linter.unusedSimpArgs false
theorem rd44 (l : List S44) (i : Nat) (hi : i < l.length) : rd_T44 l (i : Int) = l[i] := by
  unfold rd_T44
  rw [Int.toNat_natCast, List.getD_eq_getElem?_getD, List.getElem?_eq_getElem hi]
  rfl
end Go.Proofs.YtpkjpiphjdpegaaDoor.P
namespace Go.Proofs.YtpkjpiphjdpegaaDoor.P
open Go.RowKit Go.Proofs.YtpkjpiphjdpegaaDoorW.PrintWords Go.Proofs.YtpkjpiphjdpegaaDoorW.PrintLast Go.Proofs.YtpkjpiphjdpegaaDoorW.PrintMore
open Go.Sort Go.Proofs Go.Proofs.YtpkjpiphjdpegaaDoor.Z
set_option linter.unusedVariables false
set_option linter.unusedSimpArgs false
attribute [local instance] inhS44
theorem insL_end (x : S44) : ∀ acc : List S44, (∀ y ∈ acc, Op.bytesLess (rowKey x) (rowKey y) = false) → insL rowKey x acc = acc ++ [x]
  | [], _ => rfl
  | y :: acc, h => by
    rw [insL, if_neg (by rw [h y (List.mem_cons_self ..)]; decide), insL_end x acc fun z hz => h z (List.mem_cons_of_mem _ hz)]
    rfl
theorem fold_end : ∀ (l acc : List S44), (acc ++ l).Pairwise (fun x y => Op.bytesLess (rowKey y) (rowKey x) = false) → l.foldl (fun acc x => insL rowKey x acc) acc = acc ++ l
  | [], acc, _ => by rw [List.append_nil]; rfl
  | x :: l, acc, h => by
    have e : insL rowKey x acc = acc ++ [x] := insL_end x acc fun y hy => by
      rw [List.pairwise_append] at h
      exact h.2.2 y hy x (List.mem_cons_self ..)
    rw [List.foldl_cons, e, fold_end l (acc ++ [x]) (by rw [List.append_assoc]; exact h), List.append_assoc]
    rfl
structure Srt (l s : List S44) (T : Nat → Nat) : Prop where
  len : s.length = l.length
  lt : ∀ i, i < l.length → T i < l.length
  at_ : ∀ i, i < l.length → s.getD i z44 = l.getD (T i) z44
  onto : ∀ k, k < l.length → ∃ i, i < l.length ∧ T i = k
  inj : ∀ i j, i < j → j < l.length → T i ≠ T j
  asc : ∀ i j, i < j → j < l.length → Op.bytesLess (rowKey (s.getD j z44)) (rowKey (s.getD i z44)) = false ∧ (rowKey (s.getD j z44) = rowKey (s.getD i z44) → T i ≤ T j)
theorem srt_is (l : List S44) : ∃ T, Srt l (sortL rowKey l) T := by
  obtain ⟨r1, r2⟩ := fold_sorted rowKey l 0 [] List.Pairwise.nil (fun y hy => by cases hy)
  have r3 := fold_fst rowKey (l.zipIdx 0) []
  rw [List.nil_append] at r2
  generalize (l.zipIdx 0).foldl (fun acc x => insL (fun y => rowKey y.1) x acc) [] = D at r1 r2 r3
  have e : D.map Prod.fst = sortL rowKey l := by
    rw [r3]
    unfold sortL
    congr 1
    simp [List.zipIdx_map_fst]
  have dl : D.length = l.length := by rw [r2.length_eq]; simp
  have gd : ∀ i (h : i < D.length), (sortL rowKey l).getD i z44 = D[i].1 ∧ (D.getD i (z44, 0)).2 = D[i].2 := fun i h => by
    rw [← e, List.getD_eq_getElem?_getD, List.getElem?_map, List.getD_eq_getElem?_getD, List.getElem?_eq_getElem h]
    exact ⟨rfl, rfl⟩
  have mem : ∀ i (h : i < D.length), l[D[i].2]? = some D[i].1 := fun i h => by
    have := r2.mem_iff.1 (List.getElem_mem h)
    have := List.mem_zipIdx_iff_getElem?.1 this
    simpa using this
  refine ⟨fun i => (D.getD i (z44, 0)).2, ⟨by rw [← e, List.length_map, dl], fun i hi => ?_, fun i hi => ?_, fun k hk => ?_, fun i j hij hj => ?_, fun i j hij hj => ?_⟩⟩
  · rw [(gd i (by omega)).2]
    exact (List.getElem?_eq_some_iff.1 (mem i (by omega))).1
  · rw [(gd i (by omega)).1, (gd i (by omega)).2, List.getD_eq_getElem?_getD, mem i (by omega)]
    rfl
  · have : (l[k], k) ∈ l.zipIdx 0 := List.mem_zipIdx_iff_getElem?.2 (by simp)
    have := r2.mem_iff.2 this
    obtain ⟨i, hi, he⟩ := List.getElem_of_mem this
    refine ⟨i, by omega, ?_⟩
    rw [(gd i hi).2, he]
  · rw [(gd i (by omega)).2, (gd j (by omega)).2]
    have p := (r2.map Prod.snd)
    have nd : (D.map Prod.snd).Nodup := by
      refine p.nodup_iff.2 ?_
      rw [List.zipIdx_map_snd]
      exact List.nodup_range' ..
    have := List.pairwise_iff_getElem.1 nd i j (by rw [List.length_map]; omega) (by rw [List.length_map]; omega) hij
    simpa using this
  · have := List.pairwise_iff_getElem.1 r1 i j (by omega) (by omega) hij
    have f := (ltB_false rowKey).1 this
    rw [(gd i (by omega)).1, (gd j (by omega)).1, (gd i (by omega)).2, (gd j (by omega)).2]
    exact f
theorem Srt.again {l s : List S44} {T : Nat → Nat} (h : Srt l s T) : sortL rowKey s = s := by
  unfold sortL
  rw [fold_end s [] ?_, List.nil_append]
  rw [List.nil_append, List.pairwise_iff_getElem]
  intro i j hi hj hij
  have := (h.asc i j hij (by rw [← h.len]; exact hj)).1
  rw [List.getD_eq_getElem?_getD, List.getD_eq_getElem?_getD, List.getElem?_eq_getElem hi, List.getElem?_eq_getElem hj] at this
  exact this
theorem sort_len (l : List S44) : (sortL rowKey l).length = l.length := by
  obtain ⟨T, h⟩ := srt_is l
  exact h.len
theorem sort_f (l : List S44) (h : l.length ≤ 1000000) : row_Sort.f l = some (sortL rowKey l) := if_pos h
end Go.Proofs.YtpkjpiphjdpegaaDoor.P
namespace Go.Proofs.YtpkjpiphjdpegaaDoor.P
set_option maxRecDepth 100000
theorem awake10 : paymasterlaw10_awake.f 100 = some true := by kernel_rfl
theorem awake10_up (k : Nat) (h : 100 ≤ k) : paymasterlaw10_awake.f k = some true := up (F := fun k => paymasterlaw10_awake.f k) paymasterlaw10_awake.mono awake10 k h
end Go.Proofs.YtpkjpiphjdpegaaDoor.P
namespace Go.Proofs.YtpkjpiphjdpegaaDoor.P
open Go.RowKit Go.Proofs.YtpkjpiphjdpegaaDoorW.PrintWords Go.Proofs.YtpkjpiphjdpegaaDoorW.PrintLast Go.Proofs.YtpkjpiphjdpegaaDoorW.PrintMore
set_option linter.unusedVariables false
set_option linter.unusedSimpArgs false
theorem same44_l0 (l : List S44) (hl : l.length ≤ 1000000000) (k : Nat) : ∀ (t i : Nat), i + t = l.length → paymasterref10_Same.l0 (k + 1 + t) l l (i : Int) = some true
  | 0, i, h => by
    show paymasterref10_Same.l0 (k + 1) _ _ _ = _
    rw [paymasterref10_Same.l0, if_neg (by omega)]
  | t + 1, i, h => by
    have ih := same44_l0 l hl k t (i + 1) (by omega)
    show paymasterref10_Same.l0 (k + 1 + t + 1) _ _ _ = _
    rw [paymasterref10_Same.l0, if_pos (show (i : Int) < (l.length : Int) by omega), if_pos (show (0 : Int) ≤ (i : Int) by omega), if_pos (show (i : Int) < (l.length : Int) by omega), if_neg (by simp), wrapI _ (by omega) (by omega), show (i : Int) + 1 = ((i + 1 : Nat) : Int) from by omega]
    exact ih
theorem same44_is (l : List S44) (hl : l.length ≤ 1000000000) (k : Nat) (hk : l.length + 1 ≤ k) : paymasterref10_Same.f k l l = some true := by
  unfold paymasterref10_Same.f
  rw [if_pos rfl]
  have := same44_l0 l hl (k - 1 - l.length) l.length 0 (by omega)
  rw [show k - 1 - l.length + 1 + l.length = k by omega] at this
  exact this
end Go.Proofs.YtpkjpiphjdpegaaDoor.P
namespace Go.Proofs.YtpkjpiphjdpegaaDoor.P
open Go.RowKit Go.Proofs.YtpkjpiphjdpegaaDoorW.PrintWords Go.Proofs.YtpkjpiphjdpegaaDoorW.PrintLast Go.Proofs.YtpkjpiphjdpegaaDoorW.PrintMore
attribute [local go_sem] max2_int min2_int max_two min_two max_three min_three max_four min_four
set_option linter.unusedVariables false
set_option linter.unusedSimpArgs false
attribute [local go_sem high] eqA44
def paymasterlaw10_Long.l0 : Nat → List (S44) → Int → Option (Bool)
  | 0, _, _ => none
  | k + 1, x0, x3 => if x3 < (x0.length : Int) then (if 0 ≤ x3 then (if (((rd_T44 x0 x3).f0).size : Int) > 200 then (some true) else (paymasterlaw10_Long.l0 k x0 (wrap64 (x3 + 1)))) else (none)) else (some false)
def paymasterlaw10_Long.f (k : Nat) (l0 : List (S44)) : Option (Bool) := if (l0.length : Int) > 200 then (some true) else (paymasterlaw10_Long.l0 k l0 0)
theorem paymasterlaw10_Long.mono_l : ∀ k, (∀ y0 y1, LeO (paymasterlaw10_Long.l0 k y0 y1) (paymasterlaw10_Long.l0 (k + 1) y0 y1))
  | 0 => fun _ _ r h => by simp [paymasterlaw10_Long.l0] at h
  | k + 1 => by
    have ih0 := paymasterlaw10_Long.mono_l k
    · intro y0 y1
      unfold paymasterlaw10_Long.l0
      repeat' first
      | (with_reducible exact ih0 _ _)
      | (with_reducible exact LeO.refl _)
      | (with_reducible exact LeO.none _)
      | (with_reducible refine LeO.ite ?_ ?_)
      | (with_reducible refine LeO.bind ?_ (fun _ => ?_))
      | exact ih0 _ _
      | exact LeO.none _
      | refine LeO.ite ?_ ?_
      | refine LeO.bind ?_ (fun _ => ?_)
theorem paymasterlaw10_Long.mono : ∀ a0 k, LeO (paymasterlaw10_Long.f k a0) (paymasterlaw10_Long.f (k + 1) a0) := by
  intro a0 k
  have ih0 := paymasterlaw10_Long.mono_l k
  unfold paymasterlaw10_Long.f
  repeat' first
      | (with_reducible exact ih0 _ _)
      | (with_reducible exact LeO.refl _)
      | (with_reducible exact LeO.none _)
      | (with_reducible refine LeO.ite ?_ ?_)
      | (with_reducible refine LeO.bind ?_ (fun _ => ?_))
      | exact ih0 _ _
      | exact LeO.none _
      | refine LeO.ite ?_ ?_
      | refine LeO.bind ?_ (fun _ => ?_)
set_option maxHeartbeats 8000000 in
set_option maxRecDepth 100000 in
theorem paymasterlaw10_Long.calls (k : Nat) (A0 : Option Addr) (c0 : Nat) (l0 : List (S44)) (r : Bool) (w : World) (hr0 : Kd.C k44 w A0 l0.length l0) (hc0 : l0.length ≤ c0) (h : paymasterlaw10_Long.f k l0 = some r) :
    Calls Tryd.prog 26 #[.slice A0 l0.length c0] w fun e w' => e = .returned (.bool r) ∧ Drawn0 w w' := by
  have HR0 := Aside0.mk hr0
  have HC0 := Aside0.mk hc0
  clear hr0 hc0
  have H : (if (l0.length : Int) > 200 then (some true) else (paymasterlaw10_Long.l0 k l0 0)) = some r := h
  clear h
  by_cases c2 : (l0.length : Int) > 200
  · rw [if_pos c2] at H
    have c2b0 : decide (200 < (l0.length : Int)) = true := decide_eq_true c2
    have c2b1 : decide (200 < l0.length) = true := decide_eq_true (by omega)
    clear c2
    obtain rfl := Option.some.inj H
    go_enter Tryd.func26, Tryd.ntmps26
    go_wp2
    go_ret
    exact ⟨by first | rfl | (simp; done) | (simp [*]; done), by repeat (first | exact Drawn0.refl _ | apply Drawn0.step)⟩
  · rw [if_neg c2] at H
    have c2b0 : decide (200 < (l0.length : Int)) = false := decide_eq_false c2
    have c2b1 : decide (200 < l0.length) = false := decide_eq_false (by omega)
    clear c2
    have H' := Aside0.mk H
    clear H
    go_enter Tryd.func26, Tryd.ntmps26
    go_wp2
    go_loopg [3] k (fun kq v3 w' => ∃ (x3_1 : Int), v3 = .int .i64 x3_1 ∧ Aside0 (paymasterlaw10_Long.l0 kq l0 x3_1 = some r) ∧ Aside0 (kq ≤ k) ∧ Drawn0 w w')
    case atStart => exact ⟨(0), (by first | rfl | (simp; done) | (simp [*]; done)), H', ⟨Nat.le_refl _⟩, by repeat (first | exact Drawn0.refl _ | apply Drawn0.step)⟩
    case round =>
      clear H'
      try clear c2
      try clear c2b0
      try clear c2b1
      try clear p2
      obtain ⟨x3_1, rfl, HA, HK1, ⟨m1, rfl⟩⟩ := hrel
      cases gk with
      | zero => exact absurd HA.out (by simp [paymasterlaw10_Long.l0])
      | succ k1 =>
        have H := HA.out
        clear HA
        simp only [paymasterlaw10_Long.l0] at H
        by_cases c3 : x3_1 < (l0.length : Int)
        · rw [if_pos c3] at H
          have c3b0 : decide (x3_1 < (l0.length : Int)) = true := decide_eq_true c3
          clear c3
          by_cases c4 : 0 ≤ x3_1
          · rw [if_pos c4] at H
            have c4b0 : decide (0 ≤ x3_1) = true := decide_eq_true c4
            clear c4
            by_cases c5 : (((rd_T44 l0 x3_1).f0).size : Int) > 200
            · rw [if_pos c5] at H
              have c5b0 : decide (200 < (((rd_T44 l0 x3_1).f0).size : Int)) = true := decide_eq_true c5
              have c5b1 : decide (200 < ((rd_T44 l0 x3_1).f0).size) = true := decide_eq_true (by omega)
              clear c5
              obtain rfl := Option.some.inj H
              have p828 : 0 ≤ (x3_1 : Int) := of_decide_eq_true (by first | (with_reducible assumption) | assumption)
              have q828 : x3_1 < (l0.length : Int) := of_decide_eq_true (by first | (with_reducible assumption) | assumption)
              obtain ⟨ad828, e828, hx828_0, hx828_1, hx828_2⟩ := at_T44 HR0.out x3_1 p828 q828
              cases e828
              replace p828 := eq_true p828
              replace q828 := eq_true q828
              go_wp2
              go_ret
              exact ⟨by first | rfl | (simp; done) | (simp [*]; done), by repeat (first | exact Drawn0.refl _ | apply Drawn0.step)⟩
            · rw [if_neg c5] at H
              have c5b0 : decide (200 < (((rd_T44 l0 x3_1).f0).size : Int)) = false := decide_eq_false c5
              have c5b1 : decide (200 < ((rd_T44 l0 x3_1).f0).size) = false := decide_eq_false (by omega)
              clear c5
              have H' := Aside0.mk H
              clear H
              have p828 : 0 ≤ (x3_1 : Int) := of_decide_eq_true (by first | (with_reducible assumption) | assumption)
              have q828 : x3_1 < (l0.length : Int) := of_decide_eq_true (by first | (with_reducible assumption) | assumption)
              obtain ⟨ad828, e828, hx828_0, hx828_1, hx828_2⟩ := at_T44 HR0.out x3_1 p828 q828
              cases e828
              replace p828 := eq_true p828
              replace q828 := eq_true q828
              go_wp2
              go_roundg k1
              case measure => have := HK1.out; omega
              case rel => exact ⟨(wrap64 (x3_1 + 1)), (by first | rfl | (simp; done) | (simp [*]; done)), H', ⟨by have := HK1.out; omega⟩, by repeat (first | exact Drawn0.refl _ | apply Drawn0.step)⟩
          · rw [if_neg c4] at H
            exact absurd H (by simp)
        · rw [if_neg c3] at H
          have c3b0 : decide (x3_1 < (l0.length : Int)) = false := decide_eq_false c3
          clear c3
          obtain rfl := Option.some.inj H
          go_wp2
          go_ret
          exact ⟨by first | rfl | (simp; done) | (simp [*]; done), by repeat (first | exact Drawn0.refl _ | apply Drawn0.step)⟩
end Go.Proofs.YtpkjpiphjdpegaaDoor.P
namespace Go.Proofs.YtpkjpiphjdpegaaDoor.P
open Go.RowKit Go.Proofs.YtpkjpiphjdpegaaDoorW.PrintWords Go.Proofs.YtpkjpiphjdpegaaDoorW.PrintLast Go.Proofs.YtpkjpiphjdpegaaDoorW.PrintMore
set_option linter.unusedVariables false
set_option linter.unusedSimpArgs false
theorem long_l0 (l : List S44) (hl : l.length ≤ 200) (k : Nat) : ∀ (t i : Nat), i + t = l.length → ∃ b, paymasterlaw10_Long.l0 (k + 1 + t) l (i : Int) = some b ∧ (b = false → ∀ y ∈ l.drop i, y.f0.size ≤ 200)
  | 0, i, h => by
    refine ⟨false, ?_, fun _ => ?_⟩
    · show paymasterlaw10_Long.l0 (k + 1) _ _ = _
      rw [paymasterlaw10_Long.l0, if_neg (by omega)]
    · obtain rfl : i = l.length := by omega
      rw [List.drop_length]; simp
  | t + 1, i, h => by
    have hi : i < l.length := by omega
    have nx : l.drop i = l[i] :: l.drop (i + 1) := List.drop_eq_getElem_cons hi
    have w1 : wrap64 ((i : Int) + 1) = ((i + 1 : Nat) : Int) := by rw [wrapI _ (by omega) (by omega)]; push_cast; rfl
    rw [show k + 1 + (t + 1) = (k + 1 + t) + 1 by omega, paymasterlaw10_Long.l0, if_pos (show (i : Int) < (l.length : Int) by omega), if_pos (show (0 : Int) ≤ (i : Int) by omega), rd44 l i hi]
    by_cases c : (l[i].f0.size : Int) > 200
    · rw [if_pos c]
      exact ⟨true, rfl, fun e => by cases e⟩
    · rw [if_neg c, w1]
      obtain ⟨b, h1, h2⟩ := long_l0 l hl k t (i + 1) (by omega)
      refine ⟨b, h1, fun e y hy => ?_⟩
      rw [nx] at hy
      rcases List.mem_cons.1 hy with rfl | hy
      · omega
      · exact h2 e y hy
theorem long_is (l : List S44) (k : Nat) (hk : 300 ≤ k) : ∃ b, paymasterlaw10_Long.f k l = some b ∧ (b = false → l.length ≤ 200 ∧ ∀ y ∈ l, y.f0.size ≤ 200) := by
  unfold paymasterlaw10_Long.f
  by_cases c : (l.length : Int) > 200
  · rw [if_pos c]
    exact ⟨true, rfl, fun e => by cases e⟩
  · rw [if_neg c]
    obtain ⟨b, h1, h2⟩ := long_l0 l (by omega) (k - 1 - l.length) l.length 0 (by omega)
    rw [show k - 1 - l.length + 1 + l.length = k by omega] at h1
    exact ⟨b, h1, fun e => ⟨by omega, h2 e⟩⟩
end Go.Proofs.YtpkjpiphjdpegaaDoor.P
namespace Go.Proofs.YtpkjpiphjdpegaaDoor.P
open Go.RowKit Go.Proofs.YtpkjpiphjdpegaaDoorW.PrintWords Go.Proofs.YtpkjpiphjdpegaaDoorW.PrintLast Go.Proofs.YtpkjpiphjdpegaaDoorW.PrintMore
attribute [local go_sem] max2_int min2_int max_two min_two max_three min_three max_four min_four
set_option linter.unusedVariables false
set_option linter.unusedSimpArgs false
attribute [local go_sem high] eqA44
mutual
def paymasterlaw10_RowSorted.l0 : Nat → List (S44) → List (S44) → List Bool → Int → Int → Option (Bool)
  | 0, _, _, _, _, _ => none
  | k + 1, x0, x3, x4, x5, x6 => if x6 < (x3.length : Int) then (if x6 > 0 then (if 0 ≤ x6 then (if 0 ≤ (wrap64 (x6 - 1)) then (if (wrap64 (x6 - 1)) < (x3.length : Int) then (paymasterlaw10_RowSorted.j1 k x0 x3 x4 x5 x6 (Op.bytesLess (((rd_T44 x3 x6).f0).toList) (((rd_T44 x3 (wrap64 (x6 - 1))).f0).toList))) else (none)) else (none)) else (none)) else (paymasterlaw10_RowSorted.j1 k x0 x3 x4 x5 x6 false)) else (some true)
def paymasterlaw10_RowSorted.j1 : Nat → List (S44) → List (S44) → List Bool → Int → Int → Bool → Option (Bool)
  | 0, _, _, _, _, _, _ => none
  | k + 1, x0, x3, x4, x5, x6, x51 => if x51 = true then (none) else (if x6 > 0 then (if 0 ≤ x6 then (if x6 < (x3.length : Int) then (if 0 ≤ (wrap64 (x6 - 1)) then (if (wrap64 (x6 - 1)) < (x3.length : Int) then (paymasterlaw10_RowSorted.j2 k x0 x3 x4 x5 x6 (((rd_T44 x3 x6).f0).toList != ((rd_T44 x3 (wrap64 (x6 - 1))).f0).toList)) else (none)) else (none)) else (none)) else (none)) else (paymasterlaw10_RowSorted.j2 k x0 x3 x4 x5 x6 false))
def paymasterlaw10_RowSorted.j2 : Nat → List (S44) → List (S44) → List Bool → Int → Int → Bool → Option (Bool)
  | 0, _, _, _, _, _, _ => none
  | k + 1, x0, x3, x4, x5, x6, x67 => if x67 = true then (paymasterlaw10_RowSorted.j3 k x0 x3 x4 (-1) x6) else (paymasterlaw10_RowSorted.j3 k x0 x3 x4 x5 x6)
def paymasterlaw10_RowSorted.j3 : Nat → List (S44) → List (S44) → List Bool → Int → Int → Option (Bool)
  | 0, _, _, _, _, _ => none
  | k + 1, x0, x3, x4, x5, x6 => paymasterlaw10_RowSorted.l1 k x0 x3 x4 x5 x6 (-1) 0
def paymasterlaw10_RowSorted.l1 : Nat → List (S44) → List (S44) → List Bool → Int → Int → Int → Int → Option (Bool)
  | 0, _, _, _, _, _, _, _ => none
  | k + 1, x0, x3, x4, x5, x6, x7, x8 => if x8 < (x0.length : Int) then (paymasterlaw10_RowSorted.j5 k x0 x3 x4 x5 x6 x7 x8 (decide (x7 < 0))) else (paymasterlaw10_RowSorted.j5 k x0 x3 x4 x5 x6 x7 x8 false)
def paymasterlaw10_RowSorted.j5 : Nat → List (S44) → List (S44) → List Bool → Int → Int → Int → Int → Bool → Option (Bool)
  | 0, _, _, _, _, _, _, _, _ => none
  | k + 1, x0, x3, x4, x5, x6, x7, x8, x75 => if x75 = true then (if 0 ≤ x8 then (if x8 < (x4.length : Int) then (if rdOf false x4 x8 = true then (paymasterlaw10_RowSorted.l1 k x0 x3 x4 x5 x6 x7 (wrap64 (x8 + 1))) else (if x8 < (x0.length : Int) then (if 0 ≤ x6 then (if x6 < (x3.length : Int) then (if ((rd_T44 x0 x8).f0).toList = ((rd_T44 x3 x6).f0).toList then (paymasterlaw10_RowSorted.l1 k x0 x3 x4 x5 x6 x8 (wrap64 (x8 + 1))) else (paymasterlaw10_RowSorted.l1 k x0 x3 x4 x5 x6 x7 (wrap64 (x8 + 1)))) else (none)) else (none)) else (none))) else (none)) else (none)) else (if x7 < 0 then (none) else (if 0 ≤ x7 then (if x7 < (x0.length : Int) then (if 0 ≤ x6 then (if x6 < (x3.length : Int) then (if (!((((rd_T44 x0 x7).f0).toList) == (((rd_T44 x3 x6).f0).toList)) || ((!(((rd_T44 x0 x7).f1.f0) == ((rd_T44 x3 x6).f1.f0)) || (!(((rd_T44 x0 x7).f1.f1) == ((rd_T44 x3 x6).f1.f1)))))) = true then (none) else (if x7 < x5 then (none) else (if x7 < (x4.length : Int) then (paymasterlaw10_RowSorted.l0 k x0 x3 (x4.set (x7 : Int).toNat true) x7 (wrap64 (x6 + 1))) else (none)))) else (none)) else (none)) else (none)) else (none)))
end
def paymasterlaw10_RowSorted.f (k : Nat) (l0 : List (S44)) : Option (Bool) := (paymasterlaw10_awake.f k).bind fun t1092 => (if t1092 = true then ((paymasterlaw10_Long.f k l0).bind fun t1104 => (if t1104 = true then (some true) else ((row_Sort.f l0).bind fun t1115 => (if (t1115.length : Int) = (l0.length : Int) then ((row_Sort.f t1115).bind fun t1118 => ((paymasterref10_Same.f k t1118 t1115).bind fun t1121 => (if t1121 = true then (if 0 ≤ (l0.length : Int) then (if ((l0.length : Int) : Int).toNat ≤ 281474976710656 then (paymasterlaw10_RowSorted.l0 k l0 t1115 (List.replicate ((l0.length : Int) : Int).toNat false) (-1) 0) else (none)) else (none)) else (none)))) else (none))))) else (none))
theorem paymasterlaw10_RowSorted.mono_l : ∀ k, (∀ y0 y1 y2 y3 y4, LeO (paymasterlaw10_RowSorted.l0 k y0 y1 y2 y3 y4) (paymasterlaw10_RowSorted.l0 (k + 1) y0 y1 y2 y3 y4)) ∧ (∀ y0 y1 y2 y3 y4 y5, LeO (paymasterlaw10_RowSorted.j1 k y0 y1 y2 y3 y4 y5) (paymasterlaw10_RowSorted.j1 (k + 1) y0 y1 y2 y3 y4 y5)) ∧ (∀ y0 y1 y2 y3 y4 y5, LeO (paymasterlaw10_RowSorted.j2 k y0 y1 y2 y3 y4 y5) (paymasterlaw10_RowSorted.j2 (k + 1) y0 y1 y2 y3 y4 y5)) ∧ (∀ y0 y1 y2 y3 y4, LeO (paymasterlaw10_RowSorted.j3 k y0 y1 y2 y3 y4) (paymasterlaw10_RowSorted.j3 (k + 1) y0 y1 y2 y3 y4)) ∧ (∀ y0 y1 y2 y3 y4 y5 y6, LeO (paymasterlaw10_RowSorted.l1 k y0 y1 y2 y3 y4 y5 y6) (paymasterlaw10_RowSorted.l1 (k + 1) y0 y1 y2 y3 y4 y5 y6)) ∧ (∀ y0 y1 y2 y3 y4 y5 y6 y7, LeO (paymasterlaw10_RowSorted.j5 k y0 y1 y2 y3 y4 y5 y6 y7) (paymasterlaw10_RowSorted.j5 (k + 1) y0 y1 y2 y3 y4 y5 y6 y7))
  | 0 => ⟨fun _ _ _ _ _ r h => by simp [paymasterlaw10_RowSorted.l0] at h, fun _ _ _ _ _ _ r h => by simp [paymasterlaw10_RowSorted.j1] at h, fun _ _ _ _ _ _ r h => by simp [paymasterlaw10_RowSorted.j2] at h, fun _ _ _ _ _ r h => by simp [paymasterlaw10_RowSorted.j3] at h, fun _ _ _ _ _ _ _ r h => by simp [paymasterlaw10_RowSorted.l1] at h, fun _ _ _ _ _ _ _ _ r h => by simp [paymasterlaw10_RowSorted.j5] at h⟩
  | k + 1 => by
    obtain ⟨ih0, ih1, ih2, ih3, ih4, ih5⟩ := paymasterlaw10_RowSorted.mono_l k
    refine ⟨?_, ?_, ?_, ?_, ?_, ?_⟩
    · intro y0 y1 y2 y3 y4
      unfold paymasterlaw10_RowSorted.l0
      repeat' first
      | (with_reducible exact ih0 _ _ _ _ _)
      | (with_reducible exact ih1 _ _ _ _ _ _)
      | (with_reducible exact ih2 _ _ _ _ _ _)
      | (with_reducible exact ih3 _ _ _ _ _)
      | (with_reducible exact ih4 _ _ _ _ _ _ _)
      | (with_reducible exact ih5 _ _ _ _ _ _ _ _)
      | (with_reducible exact paymasterlaw10_Long.mono _ _)
      | (with_reducible exact paymasterlaw10_awake.mono _)
      | (with_reducible exact paymasterref10_Same.mono _ _ _)
      | (with_reducible exact LeO.refl _)
      | (with_reducible exact LeO.none _)
      | (with_reducible refine LeO.ite ?_ ?_)
      | (with_reducible refine LeO.bind ?_ (fun _ => ?_))
      | exact ih0 _ _ _ _ _
      | exact ih1 _ _ _ _ _ _
      | exact ih2 _ _ _ _ _ _
      | exact ih3 _ _ _ _ _
      | exact ih4 _ _ _ _ _ _ _
      | exact ih5 _ _ _ _ _ _ _ _
      | exact paymasterlaw10_Long.mono _ _
      | exact paymasterlaw10_awake.mono _
      | exact paymasterref10_Same.mono _ _ _
      | exact LeO.none _
      | refine LeO.ite ?_ ?_
      | refine LeO.bind ?_ (fun _ => ?_)
    · intro y0 y1 y2 y3 y4 y5
      unfold paymasterlaw10_RowSorted.j1
      repeat' first
      | (with_reducible exact ih0 _ _ _ _ _)
      | (with_reducible exact ih1 _ _ _ _ _ _)
      | (with_reducible exact ih2 _ _ _ _ _ _)
      | (with_reducible exact ih3 _ _ _ _ _)
      | (with_reducible exact ih4 _ _ _ _ _ _ _)
      | (with_reducible exact ih5 _ _ _ _ _ _ _ _)
      | (with_reducible exact paymasterlaw10_Long.mono _ _)
      | (with_reducible exact paymasterlaw10_awake.mono _)
      | (with_reducible exact paymasterref10_Same.mono _ _ _)
      | (with_reducible exact LeO.refl _)
      | (with_reducible exact LeO.none _)
      | (with_reducible refine LeO.ite ?_ ?_)
      | (with_reducible refine LeO.bind ?_ (fun _ => ?_))
      | exact ih0 _ _ _ _ _
      | exact ih1 _ _ _ _ _ _
      | exact ih2 _ _ _ _ _ _
      | exact ih3 _ _ _ _ _
      | exact ih4 _ _ _ _ _ _ _
      | exact ih5 _ _ _ _ _ _ _ _
      | exact paymasterlaw10_Long.mono _ _
      | exact paymasterlaw10_awake.mono _
      | exact paymasterref10_Same.mono _ _ _
      | exact LeO.none _
      | refine LeO.ite ?_ ?_
      | refine LeO.bind ?_ (fun _ => ?_)
    · intro y0 y1 y2 y3 y4 y5
      unfold paymasterlaw10_RowSorted.j2
      repeat' first
      | (with_reducible exact ih0 _ _ _ _ _)
      | (with_reducible exact ih1 _ _ _ _ _ _)
      | (with_reducible exact ih2 _ _ _ _ _ _)
      | (with_reducible exact ih3 _ _ _ _ _)
      | (with_reducible exact ih4 _ _ _ _ _ _ _)
      | (with_reducible exact ih5 _ _ _ _ _ _ _ _)
      | (with_reducible exact paymasterlaw10_Long.mono _ _)
      | (with_reducible exact paymasterlaw10_awake.mono _)
      | (with_reducible exact paymasterref10_Same.mono _ _ _)
      | (with_reducible exact LeO.refl _)
      | (with_reducible exact LeO.none _)
      | (with_reducible refine LeO.ite ?_ ?_)
      | (with_reducible refine LeO.bind ?_ (fun _ => ?_))
      | exact ih0 _ _ _ _ _
      | exact ih1 _ _ _ _ _ _
      | exact ih2 _ _ _ _ _ _
      | exact ih3 _ _ _ _ _
      | exact ih4 _ _ _ _ _ _ _
      | exact ih5 _ _ _ _ _ _ _ _
      | exact paymasterlaw10_Long.mono _ _
      | exact paymasterlaw10_awake.mono _
      | exact paymasterref10_Same.mono _ _ _
      | exact LeO.none _
      | refine LeO.ite ?_ ?_
      | refine LeO.bind ?_ (fun _ => ?_)
    · intro y0 y1 y2 y3 y4
      unfold paymasterlaw10_RowSorted.j3
      repeat' first
      | (with_reducible exact ih0 _ _ _ _ _)
      | (with_reducible exact ih1 _ _ _ _ _ _)
      | (with_reducible exact ih2 _ _ _ _ _ _)
      | (with_reducible exact ih3 _ _ _ _ _)
      | (with_reducible exact ih4 _ _ _ _ _ _ _)
      | (with_reducible exact ih5 _ _ _ _ _ _ _ _)
      | (with_reducible exact paymasterlaw10_Long.mono _ _)
      | (with_reducible exact paymasterlaw10_awake.mono _)
      | (with_reducible exact paymasterref10_Same.mono _ _ _)
      | (with_reducible exact LeO.refl _)
      | (with_reducible exact LeO.none _)
      | (with_reducible refine LeO.ite ?_ ?_)
      | (with_reducible refine LeO.bind ?_ (fun _ => ?_))
      | exact ih0 _ _ _ _ _
      | exact ih1 _ _ _ _ _ _
      | exact ih2 _ _ _ _ _ _
      | exact ih3 _ _ _ _ _
      | exact ih4 _ _ _ _ _ _ _
      | exact ih5 _ _ _ _ _ _ _ _
      | exact paymasterlaw10_Long.mono _ _
      | exact paymasterlaw10_awake.mono _
      | exact paymasterref10_Same.mono _ _ _
      | exact LeO.none _
      | refine LeO.ite ?_ ?_
      | refine LeO.bind ?_ (fun _ => ?_)
    · intro y0 y1 y2 y3 y4 y5 y6
      unfold paymasterlaw10_RowSorted.l1
      repeat' first
      | (with_reducible exact ih0 _ _ _ _ _)
      | (with_reducible exact ih1 _ _ _ _ _ _)
      | (with_reducible exact ih2 _ _ _ _ _ _)
      | (with_reducible exact ih3 _ _ _ _ _)
      | (with_reducible exact ih4 _ _ _ _ _ _ _)
      | (with_reducible exact ih5 _ _ _ _ _ _ _ _)
      | (with_reducible exact paymasterlaw10_Long.mono _ _)
      | (with_reducible exact paymasterlaw10_awake.mono _)
      | (with_reducible exact paymasterref10_Same.mono _ _ _)
      | (with_reducible exact LeO.refl _)
      | (with_reducible exact LeO.none _)
      | (with_reducible refine LeO.ite ?_ ?_)
      | (with_reducible refine LeO.bind ?_ (fun _ => ?_))
      | exact ih0 _ _ _ _ _
      | exact ih1 _ _ _ _ _ _
      | exact ih2 _ _ _ _ _ _
      | exact ih3 _ _ _ _ _
      | exact ih4 _ _ _ _ _ _ _
      | exact ih5 _ _ _ _ _ _ _ _
      | exact paymasterlaw10_Long.mono _ _
      | exact paymasterlaw10_awake.mono _
      | exact paymasterref10_Same.mono _ _ _
      | exact LeO.none _
      | refine LeO.ite ?_ ?_
      | refine LeO.bind ?_ (fun _ => ?_)
    · intro y0 y1 y2 y3 y4 y5 y6 y7
      unfold paymasterlaw10_RowSorted.j5
      repeat' first
      | (with_reducible exact ih0 _ _ _ _ _)
      | (with_reducible exact ih1 _ _ _ _ _ _)
      | (with_reducible exact ih2 _ _ _ _ _ _)
      | (with_reducible exact ih3 _ _ _ _ _)
      | (with_reducible exact ih4 _ _ _ _ _ _ _)
      | (with_reducible exact ih5 _ _ _ _ _ _ _ _)
      | (with_reducible exact paymasterlaw10_Long.mono _ _)
      | (with_reducible exact paymasterlaw10_awake.mono _)
      | (with_reducible exact paymasterref10_Same.mono _ _ _)
      | (with_reducible exact LeO.refl _)
      | (with_reducible exact LeO.none _)
      | (with_reducible refine LeO.ite ?_ ?_)
      | (with_reducible refine LeO.bind ?_ (fun _ => ?_))
      | exact ih0 _ _ _ _ _
      | exact ih1 _ _ _ _ _ _
      | exact ih2 _ _ _ _ _ _
      | exact ih3 _ _ _ _ _
      | exact ih4 _ _ _ _ _ _ _
      | exact ih5 _ _ _ _ _ _ _ _
      | exact paymasterlaw10_Long.mono _ _
      | exact paymasterlaw10_awake.mono _
      | exact paymasterref10_Same.mono _ _ _
      | exact LeO.none _
      | refine LeO.ite ?_ ?_
      | refine LeO.bind ?_ (fun _ => ?_)
set_option maxHeartbeats 8000000 in
set_option maxRecDepth 100000 in
theorem paymasterlaw10_RowSorted.calls (k : Nat) (A0 : Option Addr) (c0 : Nat) (l0 : List (S44)) (r : Bool) (w : World) (hr0 : Kd.C k44 w A0 l0.length l0) (hc0 : l0.length ≤ c0) (hG : GT w) (h : paymasterlaw10_RowSorted.f k l0 = some r) :
    Calls Tryd.prog 4 #[.slice A0 l0.length c0] w fun e w' => e = .returned (.bool r) ∧ Below w.heap.size w w' := by
  have hu44 := Tryd.underlying44
  have HR0 := Aside0.mk hr0
  have HC0 := Aside0.mk hc0
  clear hr0 hc0
  have HB := Aside0.mk (Below.refl w.heap.size w)
  have H : ((paymasterlaw10_awake.f k).bind fun t1092 => (if t1092 = true then ((paymasterlaw10_Long.f k l0).bind fun t1104 => (if t1104 = true then (some true) else ((row_Sort.f l0).bind fun t1115 => (if (t1115.length : Int) = (l0.length : Int) then ((row_Sort.f t1115).bind fun t1118 => ((paymasterref10_Same.f k t1118 t1115).bind fun t1121 => (if t1121 = true then (if 0 ≤ (l0.length : Int) then (if ((l0.length : Int) : Int).toNat ≤ 281474976710656 then (paymasterlaw10_RowSorted.l0 k l0 t1115 (List.replicate ((l0.length : Int) : Int).toNat false) (-1) 0) else (none)) else (none)) else (none)))) else (none))))) else (none))) = some r := h
  clear h
  replace H := Option.bind_eq_some_iff.mp H
  obtain ⟨t1092, A20, H⟩ := H
  replace H : (if t1092 = true then ((paymasterlaw10_Long.f k l0).bind fun t1104 => (if t1104 = true then (some true) else ((row_Sort.f l0).bind fun t1115 => (if (t1115.length : Int) = (l0.length : Int) then ((row_Sort.f t1115).bind fun t1118 => ((paymasterref10_Same.f k t1118 t1115).bind fun t1121 => (if t1121 = true then (if 0 ≤ (l0.length : Int) then (if ((l0.length : Int) : Int).toNat ≤ 281474976710656 then (paymasterlaw10_RowSorted.l0 k l0 t1115 (List.replicate ((l0.length : Int) : Int).toNat false) (-1) 0) else (none)) else (none)) else (none)))) else (none))))) else (none)) = some r := H
  have A2 := Aside0.mk A20
  clear A20
  by_cases c3 : t1092 = true
  · subst c3
    have H1 : ((paymasterlaw10_Long.f k l0).bind fun t1104 => (if t1104 = true then (some true) else ((row_Sort.f l0).bind fun t1115 => (if (t1115.length : Int) = (l0.length : Int) then ((row_Sort.f t1115).bind fun t1118 => ((paymasterref10_Same.f k t1118 t1115).bind fun t1121 => (if t1121 = true then (if 0 ≤ (l0.length : Int) then (if ((l0.length : Int) : Int).toNat ≤ 281474976710656 then (paymasterlaw10_RowSorted.l0 k l0 t1115 (List.replicate ((l0.length : Int) : Int).toNat false) (-1) 0) else (none)) else (none)) else (none)))) else (none))))) = some r := by rw [if_pos rfl] at H; exact H
    clear H
    have H := H1
    clear H1
    replace H := Option.bind_eq_some_iff.mp H
    obtain ⟨t1104, A40, H⟩ := H
    replace H : (if t1104 = true then (some true) else ((row_Sort.f l0).bind fun t1115 => (if (t1115.length : Int) = (l0.length : Int) then ((row_Sort.f t1115).bind fun t1118 => ((paymasterref10_Same.f k t1118 t1115).bind fun t1121 => (if t1121 = true then (if 0 ≤ (l0.length : Int) then (if ((l0.length : Int) : Int).toNat ≤ 281474976710656 then (paymasterlaw10_RowSorted.l0 k l0 t1115 (List.replicate ((l0.length : Int) : Int).toNat false) (-1) 0) else (none)) else (none)) else (none)))) else (none)))) = some r := H
    have A4 := Aside0.mk A40
    clear A40
    by_cases c5 : t1104 = true
    · subst c5
      have H1 : (some true) = some r := by rw [if_pos rfl] at H; exact H
      clear H
      have H := H1
      clear H1
      obtain rfl := Option.some.inj H
      go_enter Tryd.func4, Tryd.ntmps4
      go_wp2_with (first | (go_at_call 25; (with_reducible refine (paymasterlaw10_awake.calls k  true _ ?side1 A2.out).mono ?_); (case side1 => exact gt_below hG (by repeat (first | (with_reducible first | exact HB.out | apply below_alloc | apply pw_below_drewN | apply below_drew1) | exact HB.out))); rintro e w6 ⟨rfl, hb⟩; have n0_ := Aside0.mk (below_step (by repeat (first | (with_reducible first | exact HB.out | apply below_alloc | apply pw_below_drewN | apply below_drew1) | exact HB.out)) hb); clear HB; have HB := n0_; clear n0_; (try clear hb); (try clear hb2); (try clear hk); (try clear hi)) | (go_at_call 26; (with_reducible refine (paymasterlaw10_Long.calls k _ _ l0 true _ ?side1 ?side2 A4.out).mono ?_); (case side1 => repeat (first | exact (Kd.C_below HR0.out HB.out) | (with_reducible refine Kd.C_alloc ?_ _) | (with_reducible refine Kd.C_drewN ?_ _) | (with_reducible refine Kd.C_drew ?_))); (case side2 => exact HC0.out); rintro e w' ⟨rfl, ⟨nd, rfl⟩⟩; (try first | exact ⟨rfl, _, World.drewN_drewN _ _ _⟩ | exact ⟨rfl, _, Eq.trans (World.drewN_drewN _ _ _) (congrArg (World.drewN _) (Nat.add_assoc _ _ _))⟩)))
      repeat (go_quiet (first | (go_at_call 25; (with_reducible refine (paymasterlaw10_awake.calls k  true _ ?side1 A2.out).mono ?_); (case side1 => exact gt_below hG (by repeat (first | (with_reducible first | exact HB.out | apply below_alloc | apply pw_below_drewN | apply below_drew1) | exact HB.out))); rintro e w6 ⟨rfl, hb⟩; have n0_ := Aside0.mk (below_step (by repeat (first | (with_reducible first | exact HB.out | apply below_alloc | apply pw_below_drewN | apply below_drew1) | exact HB.out)) hb); clear HB; have HB := n0_; clear n0_; (try clear hb); (try clear hb2); (try clear hk); (try clear hi)) | (go_at_call 26; (with_reducible refine (paymasterlaw10_Long.calls k _ _ l0 true _ ?side1 ?side2 A4.out).mono ?_); (case side1 => repeat (first | exact (Kd.C_below HR0.out HB.out) | (with_reducible refine Kd.C_alloc ?_ _) | (with_reducible refine Kd.C_drewN ?_ _) | (with_reducible refine Kd.C_drew ?_))); (case side2 => exact HC0.out); rintro e w' ⟨rfl, ⟨nd, rfl⟩⟩; (try first | exact ⟨rfl, _, World.drewN_drewN _ _ _⟩ | exact ⟨rfl, _, Eq.trans (World.drewN_drewN _ _ _) (congrArg (World.drewN _) (Nat.add_assoc _ _ _))⟩))); try go_wp2_with (first | (go_at_call 25; (with_reducible refine (paymasterlaw10_awake.calls k  true _ ?side1 A2.out).mono ?_); (case side1 => exact gt_below hG (by repeat (first | (with_reducible first | exact HB.out | apply below_alloc | apply pw_below_drewN | apply below_drew1) | exact HB.out))); rintro e w6 ⟨rfl, hb⟩; have n0_ := Aside0.mk (below_step (by repeat (first | (with_reducible first | exact HB.out | apply below_alloc | apply pw_below_drewN | apply below_drew1) | exact HB.out)) hb); clear HB; have HB := n0_; clear n0_; (try clear hb); (try clear hb2); (try clear hk); (try clear hi)) | (go_at_call 26; (with_reducible refine (paymasterlaw10_Long.calls k _ _ l0 true _ ?side1 ?side2 A4.out).mono ?_); (case side1 => repeat (first | exact (Kd.C_below HR0.out HB.out) | (with_reducible refine Kd.C_alloc ?_ _) | (with_reducible refine Kd.C_drewN ?_ _) | (with_reducible refine Kd.C_drew ?_))); (case side2 => exact HC0.out); rintro e w' ⟨rfl, ⟨nd, rfl⟩⟩; (try first | exact ⟨rfl, _, World.drewN_drewN _ _ _⟩ | exact ⟨rfl, _, Eq.trans (World.drewN_drewN _ _ _) (congrArg (World.drewN _) (Nat.add_assoc _ _ _))⟩))))
      go_ret
      exact ⟨by first | rfl | (simp [errW_none, errW_some] <;> rfl) | (simp [*, errW_none, errW_some] <;> rfl), by repeat (first | (with_reducible first | exact HB.out | apply below_alloc | apply pw_below_drewN | apply below_drew1) | exact HB.out)⟩
    · replace c5 := Bool.eq_false_iff.mpr c5
      subst c5
      have H1 : ((row_Sort.f l0).bind fun t1115 => (if (t1115.length : Int) = (l0.length : Int) then ((row_Sort.f t1115).bind fun t1118 => ((paymasterref10_Same.f k t1118 t1115).bind fun t1121 => (if t1121 = true then (if 0 ≤ (l0.length : Int) then (if ((l0.length : Int) : Int).toNat ≤ 281474976710656 then (paymasterlaw10_RowSorted.l0 k l0 t1115 (List.replicate ((l0.length : Int) : Int).toNat false) (-1) 0) else (none)) else (none)) else (none)))) else (none))) = some r := by rw [if_neg (show ¬ (false = true) by decide)] at H; exact H
      clear H
      have H := H1
      clear H1
      replace H := Option.bind_eq_some_iff.mp H
      obtain ⟨t1115, A70, H⟩ := H
      replace H : (if (t1115.length : Int) = (l0.length : Int) then ((row_Sort.f t1115).bind fun t1118 => ((paymasterref10_Same.f k t1118 t1115).bind fun t1121 => (if t1121 = true then (if 0 ≤ (l0.length : Int) then (if ((l0.length : Int) : Int).toNat ≤ 281474976710656 then (paymasterlaw10_RowSorted.l0 k l0 t1115 (List.replicate ((l0.length : Int) : Int).toNat false) (-1) 0) else (none)) else (none)) else (none)))) else (none)) = some r := H
      have A7 := Aside0.mk A70
      clear A70
      by_cases c8 : (t1115.length : Int) = (l0.length : Int)
      · rw [if_pos c8] at H
        have c8b0 : ((t1115.length : Int) == (l0.length : Int)) = true := beq_iff_eq.mpr c8
        have c8b1 : ((t1115.length : Int) != (l0.length : Int)) = false := bne_eq_false_iff_eq.mpr c8
        have c8b2 : (t1115.length == l0.length) = true := by first | simpa using c8 | (simp at c8 ⊢; omega)
        clear c8
        replace H := Option.bind_eq_some_iff.mp H
        obtain ⟨t1118, A90, H⟩ := H
        replace H : ((paymasterref10_Same.f k t1118 t1115).bind fun t1121 => (if t1121 = true then (if 0 ≤ (l0.length : Int) then (if ((l0.length : Int) : Int).toNat ≤ 281474976710656 then (paymasterlaw10_RowSorted.l0 k l0 t1115 (List.replicate ((l0.length : Int) : Int).toNat false) (-1) 0) else (none)) else (none)) else (none))) = some r := H
        have A9 := Aside0.mk A90
        clear A90
        replace H := Option.bind_eq_some_iff.mp H
        obtain ⟨t1121, A100, H⟩ := H
        replace H : (if t1121 = true then (if 0 ≤ (l0.length : Int) then (if ((l0.length : Int) : Int).toNat ≤ 281474976710656 then (paymasterlaw10_RowSorted.l0 k l0 t1115 (List.replicate ((l0.length : Int) : Int).toNat false) (-1) 0) else (none)) else (none)) else (none)) = some r := H
        have A10 := Aside0.mk A100
        clear A100
        by_cases c11 : t1121 = true
        · subst c11
          have H1 : (if 0 ≤ (l0.length : Int) then (if ((l0.length : Int) : Int).toNat ≤ 281474976710656 then (paymasterlaw10_RowSorted.l0 k l0 t1115 (List.replicate ((l0.length : Int) : Int).toNat false) (-1) 0) else (none)) else (none)) = some r := by rw [if_pos rfl] at H; exact H
          clear H
          have H := H1
          clear H1
          by_cases c12 : 0 ≤ (l0.length : Int)
          · rw [if_pos c12] at H
            have c12b0 := eq_true c12
            have c12b1 : decide (0 ≤ (l0.length : Int)) = true := decide_eq_true c12
            clear c12
            by_cases c13 : ((l0.length : Int) : Int).toNat ≤ 281474976710656
            · rw [if_pos c13] at H
              have c13b0 := eq_true c13
              have c13b1 : decide (((l0.length : Int) : Int).toNat ≤ 281474976710656) = true := decide_eq_true c13
              clear c13
              obtain ⟨y1128, hy1128⟩ : ∃ y_ : List Bool, y_ = (List.replicate ((l0.length : Int) : Int).toNat false) := ⟨_, rfl⟩
              replace H : (paymasterlaw10_RowSorted.l0 k l0 t1115 y1128 (-1) 0) = some r := by first | (rw [hy1128]; with_reducible exact H) | (have H2_ := (Option.bind_some _ _).symm.trans H; rw [hy1128]; with_reducible exact H2_) | (have H2_ := (Option.bind_some _ _).symm.trans H; with_reducible exact H2_) | with_reducible exact H | (rw [hy1128]; exact H) | exact H
              have Ny1128 := Aside0.mk hy1128
              clear hy1128
              have H' := Aside0.mk H
              clear H
              go_enter Tryd.func4, Tryd.ntmps4
              go_wp2_with (first | (go_at_call 25; (with_reducible refine (paymasterlaw10_awake.calls k  true _ ?side1 A2.out).mono ?_); (case side1 => exact gt_below hG (by repeat (first | (with_reducible first | exact HB.out | apply below_alloc | apply pw_below_drewN | apply below_drew1) | exact HB.out))); rintro e w14 ⟨rfl, hb⟩; have n0_ := Aside0.mk (below_step (by repeat (first | (with_reducible first | exact HB.out | apply below_alloc | apply pw_below_drewN | apply below_drew1) | exact HB.out)) hb); clear HB; have HB := n0_; clear n0_; (try clear hb); (try clear hb2); (try clear hk); (try clear hi)) | (go_at_call 26; (with_reducible refine (paymasterlaw10_Long.calls k _ _ l0 false _ ?side1 ?side2 A4.out).mono ?_); (case side1 => repeat (first | exact (Kd.C_below HR0.out HB.out) | (with_reducible refine Kd.C_alloc ?_ _) | (with_reducible refine Kd.C_drewN ?_ _) | (with_reducible refine Kd.C_drew ?_))); (case side2 => exact HC0.out); rintro e w' ⟨rfl, ⟨nd, rfl⟩⟩; (try first | exact ⟨rfl, _, World.drewN_drewN _ _ _⟩ | exact ⟨rfl, _, Eq.trans (World.drewN_drewN _ _ _) (congrArg (World.drewN _) (Nat.add_assoc _ _ _))⟩)) | (go_at_call 27; (with_reducible refine (row_Sort.calls _ _ l0 t1115 _ ?side1 ?side2 A7.out).mono ?_); (case side1 => repeat (first | exact (Kd.C_below HR0.out (by repeat (first | (with_reducible first | exact HB.out | apply below_alloc | apply pw_below_drewN | apply below_drew1) | exact HB.out))) | (with_reducible refine Kd.C_alloc ?_ _) | (with_reducible refine Kd.C_drewN ?_ _) | (with_reducible refine Kd.C_drew ?_))); (case side2 => exact HC0.out); rintro e w15 ⟨v1116, rfl, ho0, hb⟩; have n0_ := Aside0.mk (Kd.R_lower ho0 (below_size (by repeat (first | (with_reducible first | exact HB.out | apply below_alloc | apply pw_below_drewN | apply below_drew1) | exact HB.out)))); have n1_ := Aside0.mk (below_step (by repeat (first | (with_reducible first | exact HB.out | apply below_alloc | apply pw_below_drewN | apply below_drew1) | exact HB.out)) hb); clear HB; have HO1117 := n0_; have HB := n1_; clear n0_ n1_; (try clear hb); (try clear hb2); (try clear hk); (try clear hi); (try clear ho0); obtain ⟨Ao16, co16, eo16⟩ := Kd.R_slice HO1117.out; subst eo16) | (go_at_call 27; (with_reducible refine (row_Sort.calls _ _ t1115 t1118 _ ?side1 ?side2 A9.out).mono ?_); (case side1 => repeat (first | exact (Kd.R_reads' HO1117.out).2.2 | (with_reducible refine Kd.C_alloc ?_ _) | (with_reducible refine Kd.C_drewN ?_ _) | (with_reducible refine Kd.C_drew ?_))); (case side2 => exact (Kd.R_reads' HO1117.out).2.1); rintro e w17 ⟨v1119, rfl, ho0, hb⟩; have n0_ := Aside0.mk (Kd.R_elder' (by (with_reducible repeat (first | apply Kd.R_alloc | apply Kd.R_drewN | apply Kd.R_drew)); exact HO1117.out) (Kd.R_base ho0) hb); have n1_ := Aside0.mk (Kd.R_lower (Kd.R_new' ho0 (Kd.R_lt (by (with_reducible repeat (first | apply Kd.R_alloc | apply Kd.R_drewN | apply Kd.R_drew)); exact HO1117.out))) (below_size (by repeat (first | (with_reducible first | exact HB.out | apply below_alloc | apply pw_below_drewN | apply below_drew1) | exact HB.out)))); have n2_ := Aside0.mk (below_step (by repeat (first | (with_reducible first | exact HB.out | apply below_alloc | apply pw_below_drewN | apply below_drew1) | exact HB.out)) hb); clear HO1117; clear HB; have HO1117 := n0_; have HO1120 := n1_; have HB := n2_; clear n0_ n1_ n2_; (try clear hb); (try clear hb2); (try clear hk); (try clear hi); (try clear ho0); obtain ⟨Ao18, co18, eo18⟩ := Kd.R_slice HO1120.out; subst eo18) | (go_at_call 28; (with_reducible refine (paymasterref10_Same.calls k _ _ t1118 _ _ t1115 true _ ?side1 ?side2 ?side3 ?side4 A10.out).mono ?_); (case side1 => repeat (first | exact (Kd.R_reads' HO1120.out).2.2 | (with_reducible refine Kd.C_alloc ?_ _) | (with_reducible refine Kd.C_drewN ?_ _) | (with_reducible refine Kd.C_drew ?_))); (case side2 => exact (Kd.R_reads' HO1120.out).2.1); (case side3 => repeat (first | exact (Kd.R_reads' HO1117.out).2.2 | (with_reducible refine Kd.C_alloc ?_ _) | (with_reducible refine Kd.C_drewN ?_ _) | (with_reducible refine Kd.C_drew ?_))); (case side4 => exact (Kd.R_reads' HO1117.out).2.1); rintro e w' ⟨rfl, ⟨nd, rfl⟩⟩; (try first | exact ⟨rfl, _, World.drewN_drewN _ _ _⟩ | exact ⟨rfl, _, Eq.trans (World.drewN_drewN _ _ _) (congrArg (World.drewN _) (Nat.add_assoc _ _ _))⟩)) | ((with_reducible refine gate_dst (N := 29) rfl ?_); refine Kd.R_make Kd.bool _ 4 rfl (N := 29) rfl 39 _ _ rfl (l0.length : Int) rfl rfl Tryd.underlying39 (.bool false) 1 info4 rfl (by decide) (by omega) false (ok := fun _ => True) (okp := fun _ => True) rfl (fun _ hk => hk) trivial (of_decide_eq_true (by first | (with_reducible assumption) | assumption)) (Nat.le_trans (Nat.mul_le_mul_right _ (of_decide_eq_true (by first | (with_reducible assumption) | assumption) : (l0.length : Int).toNat ≤ 281474976710656)) (by omega)) (Below.refl _ _) (Nat.le_refl _) ?_; intro v1129 w19 ho20 hb hg_ hnew_; clear hg_ hnew_; (first | rw [← Ny1128.out] at ho20 | (simp only [Int.reduceToNat] at ho20; rw [← Ny1128.out] at ho20)); have n0_ := Aside0.mk (Kd.R_below (by (with_reducible repeat (first | apply Kd.R_alloc | apply Kd.R_drewN | apply Kd.R_drew)); exact HO1117.out) hb); have n1_ := Aside0.mk (Kd.R_below (by (with_reducible repeat (first | apply Kd.R_alloc | apply Kd.R_drewN | apply Kd.R_drew)); exact HO1120.out) hb); have n2_ := Aside0.mk (Kd.R_lower ho20 (below_size (by repeat (first | (with_reducible first | exact HB.out | apply below_alloc | apply pw_below_drewN | apply below_drew1) | exact HB.out)))); have n3_ := Aside0.mk (below_step (by repeat (first | (with_reducible first | exact HB.out | apply below_alloc | apply pw_below_drewN | apply below_drew1) | exact HB.out)) hb); clear HO1117; clear HO1120; clear HB; have HO1117 := n0_; have HO1120 := n1_; have HO1130 := n2_; have HB := n3_; clear n0_ n1_ n2_ n3_; clear hb ho20))
              repeat (go_quiet (first | (go_at_call 25; (with_reducible refine (paymasterlaw10_awake.calls k  true _ ?side1 A2.out).mono ?_); (case side1 => exact gt_below hG (by repeat (first | (with_reducible first | exact HB.out | apply below_alloc | apply pw_below_drewN | apply below_drew1) | exact HB.out))); rintro e w14 ⟨rfl, hb⟩; have n0_ := Aside0.mk (below_step (by repeat (first | (with_reducible first | exact HB.out | apply below_alloc | apply pw_below_drewN | apply below_drew1) | exact HB.out)) hb); clear HB; have HB := n0_; clear n0_; (try clear hb); (try clear hb2); (try clear hk); (try clear hi)) | (go_at_call 26; (with_reducible refine (paymasterlaw10_Long.calls k _ _ l0 false _ ?side1 ?side2 A4.out).mono ?_); (case side1 => repeat (first | exact (Kd.C_below HR0.out HB.out) | (with_reducible refine Kd.C_alloc ?_ _) | (with_reducible refine Kd.C_drewN ?_ _) | (with_reducible refine Kd.C_drew ?_))); (case side2 => exact HC0.out); rintro e w' ⟨rfl, ⟨nd, rfl⟩⟩; (try first | exact ⟨rfl, _, World.drewN_drewN _ _ _⟩ | exact ⟨rfl, _, Eq.trans (World.drewN_drewN _ _ _) (congrArg (World.drewN _) (Nat.add_assoc _ _ _))⟩)) | (go_at_call 27; (with_reducible refine (row_Sort.calls _ _ l0 t1115 _ ?side1 ?side2 A7.out).mono ?_); (case side1 => repeat (first | exact (Kd.C_below HR0.out (by repeat (first | (with_reducible first | exact HB.out | apply below_alloc | apply pw_below_drewN | apply below_drew1) | exact HB.out))) | (with_reducible refine Kd.C_alloc ?_ _) | (with_reducible refine Kd.C_drewN ?_ _) | (with_reducible refine Kd.C_drew ?_))); (case side2 => exact HC0.out); rintro e w15 ⟨v1116, rfl, ho0, hb⟩; have n0_ := Aside0.mk (Kd.R_lower ho0 (below_size (by repeat (first | (with_reducible first | exact HB.out | apply below_alloc | apply pw_below_drewN | apply below_drew1) | exact HB.out)))); have n1_ := Aside0.mk (below_step (by repeat (first | (with_reducible first | exact HB.out | apply below_alloc | apply pw_below_drewN | apply below_drew1) | exact HB.out)) hb); clear HB; have HO1117 := n0_; have HB := n1_; clear n0_ n1_; (try clear hb); (try clear hb2); (try clear hk); (try clear hi); (try clear ho0); obtain ⟨Ao16, co16, eo16⟩ := Kd.R_slice HO1117.out; subst eo16) | (go_at_call 27; (with_reducible refine (row_Sort.calls _ _ t1115 t1118 _ ?side1 ?side2 A9.out).mono ?_); (case side1 => repeat (first | exact (Kd.R_reads' HO1117.out).2.2 | (with_reducible refine Kd.C_alloc ?_ _) | (with_reducible refine Kd.C_drewN ?_ _) | (with_reducible refine Kd.C_drew ?_))); (case side2 => exact (Kd.R_reads' HO1117.out).2.1); rintro e w17 ⟨v1119, rfl, ho0, hb⟩; have n0_ := Aside0.mk (Kd.R_elder' (by (with_reducible repeat (first | apply Kd.R_alloc | apply Kd.R_drewN | apply Kd.R_drew)); exact HO1117.out) (Kd.R_base ho0) hb); have n1_ := Aside0.mk (Kd.R_lower (Kd.R_new' ho0 (Kd.R_lt (by (with_reducible repeat (first | apply Kd.R_alloc | apply Kd.R_drewN | apply Kd.R_drew)); exact HO1117.out))) (below_size (by repeat (first | (with_reducible first | exact HB.out | apply below_alloc | apply pw_below_drewN | apply below_drew1) | exact HB.out)))); have n2_ := Aside0.mk (below_step (by repeat (first | (with_reducible first | exact HB.out | apply below_alloc | apply pw_below_drewN | apply below_drew1) | exact HB.out)) hb); clear HO1117; clear HB; have HO1117 := n0_; have HO1120 := n1_; have HB := n2_; clear n0_ n1_ n2_; (try clear hb); (try clear hb2); (try clear hk); (try clear hi); (try clear ho0); obtain ⟨Ao18, co18, eo18⟩ := Kd.R_slice HO1120.out; subst eo18) | (go_at_call 28; (with_reducible refine (paymasterref10_Same.calls k _ _ t1118 _ _ t1115 true _ ?side1 ?side2 ?side3 ?side4 A10.out).mono ?_); (case side1 => repeat (first | exact (Kd.R_reads' HO1120.out).2.2 | (with_reducible refine Kd.C_alloc ?_ _) | (with_reducible refine Kd.C_drewN ?_ _) | (with_reducible refine Kd.C_drew ?_))); (case side2 => exact (Kd.R_reads' HO1120.out).2.1); (case side3 => repeat (first | exact (Kd.R_reads' HO1117.out).2.2 | (with_reducible refine Kd.C_alloc ?_ _) | (with_reducible refine Kd.C_drewN ?_ _) | (with_reducible refine Kd.C_drew ?_))); (case side4 => exact (Kd.R_reads' HO1117.out).2.1); rintro e w' ⟨rfl, ⟨nd, rfl⟩⟩; (try first | exact ⟨rfl, _, World.drewN_drewN _ _ _⟩ | exact ⟨rfl, _, Eq.trans (World.drewN_drewN _ _ _) (congrArg (World.drewN _) (Nat.add_assoc _ _ _))⟩)) | ((with_reducible refine gate_dst (N := 29) rfl ?_); refine Kd.R_make Kd.bool _ 4 rfl (N := 29) rfl 39 _ _ rfl (l0.length : Int) rfl rfl Tryd.underlying39 (.bool false) 1 info4 rfl (by decide) (by omega) false (ok := fun _ => True) (okp := fun _ => True) rfl (fun _ hk => hk) trivial (of_decide_eq_true (by first | (with_reducible assumption) | assumption)) (Nat.le_trans (Nat.mul_le_mul_right _ (of_decide_eq_true (by first | (with_reducible assumption) | assumption) : (l0.length : Int).toNat ≤ 281474976710656)) (by omega)) (Below.refl _ _) (Nat.le_refl _) ?_; intro v1129 w19 ho20 hb hg_ hnew_; clear hg_ hnew_; (first | rw [← Ny1128.out] at ho20 | (simp only [Int.reduceToNat] at ho20; rw [← Ny1128.out] at ho20)); have n0_ := Aside0.mk (Kd.R_below (by (with_reducible repeat (first | apply Kd.R_alloc | apply Kd.R_drewN | apply Kd.R_drew)); exact HO1117.out) hb); have n1_ := Aside0.mk (Kd.R_below (by (with_reducible repeat (first | apply Kd.R_alloc | apply Kd.R_drewN | apply Kd.R_drew)); exact HO1120.out) hb); have n2_ := Aside0.mk (Kd.R_lower ho20 (below_size (by repeat (first | (with_reducible first | exact HB.out | apply below_alloc | apply pw_below_drewN | apply below_drew1) | exact HB.out)))); have n3_ := Aside0.mk (below_step (by repeat (first | (with_reducible first | exact HB.out | apply below_alloc | apply pw_below_drewN | apply below_drew1) | exact HB.out)) hb); clear HO1117; clear HO1120; clear HB; have HO1117 := n0_; have HO1120 := n1_; have HO1130 := n2_; have HB := n3_; clear n0_ n1_ n2_ n3_; clear hb ho20)); try go_wp2_with (first | (go_at_call 25; (with_reducible refine (paymasterlaw10_awake.calls k  true _ ?side1 A2.out).mono ?_); (case side1 => exact gt_below hG (by repeat (first | (with_reducible first | exact HB.out | apply below_alloc | apply pw_below_drewN | apply below_drew1) | exact HB.out))); rintro e w14 ⟨rfl, hb⟩; have n0_ := Aside0.mk (below_step (by repeat (first | (with_reducible first | exact HB.out | apply below_alloc | apply pw_below_drewN | apply below_drew1) | exact HB.out)) hb); clear HB; have HB := n0_; clear n0_; (try clear hb); (try clear hb2); (try clear hk); (try clear hi)) | (go_at_call 26; (with_reducible refine (paymasterlaw10_Long.calls k _ _ l0 false _ ?side1 ?side2 A4.out).mono ?_); (case side1 => repeat (first | exact (Kd.C_below HR0.out HB.out) | (with_reducible refine Kd.C_alloc ?_ _) | (with_reducible refine Kd.C_drewN ?_ _) | (with_reducible refine Kd.C_drew ?_))); (case side2 => exact HC0.out); rintro e w' ⟨rfl, ⟨nd, rfl⟩⟩; (try first | exact ⟨rfl, _, World.drewN_drewN _ _ _⟩ | exact ⟨rfl, _, Eq.trans (World.drewN_drewN _ _ _) (congrArg (World.drewN _) (Nat.add_assoc _ _ _))⟩)) | (go_at_call 27; (with_reducible refine (row_Sort.calls _ _ l0 t1115 _ ?side1 ?side2 A7.out).mono ?_); (case side1 => repeat (first | exact (Kd.C_below HR0.out (by repeat (first | (with_reducible first | exact HB.out | apply below_alloc | apply pw_below_drewN | apply below_drew1) | exact HB.out))) | (with_reducible refine Kd.C_alloc ?_ _) | (with_reducible refine Kd.C_drewN ?_ _) | (with_reducible refine Kd.C_drew ?_))); (case side2 => exact HC0.out); rintro e w15 ⟨v1116, rfl, ho0, hb⟩; have n0_ := Aside0.mk (Kd.R_lower ho0 (below_size (by repeat (first | (with_reducible first | exact HB.out | apply below_alloc | apply pw_below_drewN | apply below_drew1) | exact HB.out)))); have n1_ := Aside0.mk (below_step (by repeat (first | (with_reducible first | exact HB.out | apply below_alloc | apply pw_below_drewN | apply below_drew1) | exact HB.out)) hb); clear HB; have HO1117 := n0_; have HB := n1_; clear n0_ n1_; (try clear hb); (try clear hb2); (try clear hk); (try clear hi); (try clear ho0); obtain ⟨Ao16, co16, eo16⟩ := Kd.R_slice HO1117.out; subst eo16) | (go_at_call 27; (with_reducible refine (row_Sort.calls _ _ t1115 t1118 _ ?side1 ?side2 A9.out).mono ?_); (case side1 => repeat (first | exact (Kd.R_reads' HO1117.out).2.2 | (with_reducible refine Kd.C_alloc ?_ _) | (with_reducible refine Kd.C_drewN ?_ _) | (with_reducible refine Kd.C_drew ?_))); (case side2 => exact (Kd.R_reads' HO1117.out).2.1); rintro e w17 ⟨v1119, rfl, ho0, hb⟩; have n0_ := Aside0.mk (Kd.R_elder' (by (with_reducible repeat (first | apply Kd.R_alloc | apply Kd.R_drewN | apply Kd.R_drew)); exact HO1117.out) (Kd.R_base ho0) hb); have n1_ := Aside0.mk (Kd.R_lower (Kd.R_new' ho0 (Kd.R_lt (by (with_reducible repeat (first | apply Kd.R_alloc | apply Kd.R_drewN | apply Kd.R_drew)); exact HO1117.out))) (below_size (by repeat (first | (with_reducible first | exact HB.out | apply below_alloc | apply pw_below_drewN | apply below_drew1) | exact HB.out)))); have n2_ := Aside0.mk (below_step (by repeat (first | (with_reducible first | exact HB.out | apply below_alloc | apply pw_below_drewN | apply below_drew1) | exact HB.out)) hb); clear HO1117; clear HB; have HO1117 := n0_; have HO1120 := n1_; have HB := n2_; clear n0_ n1_ n2_; (try clear hb); (try clear hb2); (try clear hk); (try clear hi); (try clear ho0); obtain ⟨Ao18, co18, eo18⟩ := Kd.R_slice HO1120.out; subst eo18) | (go_at_call 28; (with_reducible refine (paymasterref10_Same.calls k _ _ t1118 _ _ t1115 true _ ?side1 ?side2 ?side3 ?side4 A10.out).mono ?_); (case side1 => repeat (first | exact (Kd.R_reads' HO1120.out).2.2 | (with_reducible refine Kd.C_alloc ?_ _) | (with_reducible refine Kd.C_drewN ?_ _) | (with_reducible refine Kd.C_drew ?_))); (case side2 => exact (Kd.R_reads' HO1120.out).2.1); (case side3 => repeat (first | exact (Kd.R_reads' HO1117.out).2.2 | (with_reducible refine Kd.C_alloc ?_ _) | (with_reducible refine Kd.C_drewN ?_ _) | (with_reducible refine Kd.C_drew ?_))); (case side4 => exact (Kd.R_reads' HO1117.out).2.1); rintro e w' ⟨rfl, ⟨nd, rfl⟩⟩; (try first | exact ⟨rfl, _, World.drewN_drewN _ _ _⟩ | exact ⟨rfl, _, Eq.trans (World.drewN_drewN _ _ _) (congrArg (World.drewN _) (Nat.add_assoc _ _ _))⟩)) | ((with_reducible refine gate_dst (N := 29) rfl ?_); refine Kd.R_make Kd.bool _ 4 rfl (N := 29) rfl 39 _ _ rfl (l0.length : Int) rfl rfl Tryd.underlying39 (.bool false) 1 info4 rfl (by decide) (by omega) false (ok := fun _ => True) (okp := fun _ => True) rfl (fun _ hk => hk) trivial (of_decide_eq_true (by first | (with_reducible assumption) | assumption)) (Nat.le_trans (Nat.mul_le_mul_right _ (of_decide_eq_true (by first | (with_reducible assumption) | assumption) : (l0.length : Int).toNat ≤ 281474976710656)) (by omega)) (Below.refl _ _) (Nat.le_refl _) ?_; intro v1129 w19 ho20 hb hg_ hnew_; clear hg_ hnew_; (first | rw [← Ny1128.out] at ho20 | (simp only [Int.reduceToNat] at ho20; rw [← Ny1128.out] at ho20)); have n0_ := Aside0.mk (Kd.R_below (by (with_reducible repeat (first | apply Kd.R_alloc | apply Kd.R_drewN | apply Kd.R_drew)); exact HO1117.out) hb); have n1_ := Aside0.mk (Kd.R_below (by (with_reducible repeat (first | apply Kd.R_alloc | apply Kd.R_drewN | apply Kd.R_drew)); exact HO1120.out) hb); have n2_ := Aside0.mk (Kd.R_lower ho20 (below_size (by repeat (first | (with_reducible first | exact HB.out | apply below_alloc | apply pw_below_drewN | apply below_drew1) | exact HB.out)))); have n3_ := Aside0.mk (below_step (by repeat (first | (with_reducible first | exact HB.out | apply below_alloc | apply pw_below_drewN | apply below_drew1) | exact HB.out)) hb); clear HO1117; clear HO1120; clear HB; have HO1117 := n0_; have HO1120 := n1_; have HO1130 := n2_; have HB := n3_; clear n0_ n1_ n2_ n3_; clear hb ho20)))
              go_loopg [5, 6] k (fun kq v5 v6 w' => ∃ (x4_1 : List Bool) (x5_1 : Int) (x6_1 : Int), v5 = .int .i64 x5_1 ∧ v6 = .int .i64 x6_1 ∧ Aside0 (paymasterlaw10_RowSorted.l0 kq l0 t1115 x4_1 x5_1 x6_1 = some r) ∧ Aside0 (kq ≤ k) ∧ Aside0 (Kd.R k44 44 w' w.heap.size (fun _ => True) (.slice Ao16 t1115.length co16) t1115) ∧ Aside0 (Kd.R Kd.bool 4 w' w.heap.size (fun _ => True) v1129 x4_1) ∧ Aside0 (Below w.heap.size w w'))
              case atStart => exact ⟨(y1128), ((-1)), (0), (by first | rfl | (simp; done) | (simp [*]; done)), (by first | rfl | (simp; done) | (simp [*]; done)), H', ⟨Nat.le_refl _⟩, ⟨by (with_reducible repeat (first | apply Kd.R_alloc | apply Kd.R_drewN | apply Kd.R_drew)); exact Kd.R_mono HO1117.out (fun _ hk => trivial)⟩, ⟨by (with_reducible repeat (first | apply Kd.R_alloc | apply Kd.R_drewN | apply Kd.R_drew)); exact HO1130.out⟩, ⟨by repeat (first | (with_reducible first | exact HB.out | apply below_alloc | apply pw_below_drewN | apply below_drew1) | exact HB.out)⟩⟩
              case round =>
                clear H'
                try clear c1
                try clear p2
                try clear c3
                try clear c4
                try clear c5
                try clear c8
                try clear c8b0
                try clear c8b1
                try clear c8b2
                try clear c11
                try clear c12
                try clear c12b0
                try clear c12b1
                try clear c13
                try clear c13b0
                try clear c13b1
                obtain ⟨x4_1, x5_1, x6_1, rfl, rfl, HA, HK1, HO_3, HO_4, HB⟩ := hrel
                cases gk with
                | zero => exact absurd HA.out (by simp [paymasterlaw10_RowSorted.l0])
                | succ k1 =>
                  have H := HA.out
                  clear HA
                  simp only [paymasterlaw10_RowSorted.l0] at H
                  by_cases c21 : x6_1 < (t1115.length : Int)
                  · rw [if_pos c21] at H
                    have c21b0 : decide (x6_1 < (t1115.length : Int)) = true := decide_eq_true c21
                    clear c21
                    have HC22 := Aside0.mk H
                    clear H
                    go_upto_region 13 with (fail)
                    repeat (go_quiet (fail); go_upto_region 13 with (fail))
                    go_cut [51] (fun v51 wc => ∃ (kq : Nat) (x51_21 : Bool), v51 = .bool x51_21 ∧ Aside0 (paymasterlaw10_RowSorted.j1 kq l0 t1115 x4_1 x5_1 x6_1 x51_21 = some r) ∧ Aside0 (kq ≤ k1) ∧ Aside0 (Kd.R k44 44 wc w.heap.size (fun _ => True) (.slice Ao16 t1115.length co16) t1115) ∧ Aside0 (Kd.R Kd.bool 4 wc w.heap.size (fun _ => True) v1129 x4_1) ∧ Aside0 (Below w.heap.size w wc))
                    case first =>
                      have H := HC22.out
                      clear HC22
                      by_cases c23 : x6_1 > 0
                      · rw [if_pos c23] at H
                        have c23b0 : decide (0 < x6_1) = true := decide_eq_true c23
                        clear c23
                        (first | rw [c23b0] | (simp only [i64_w, i32_w]; rw [c23b0]) | skip)
                        by_cases c24 : 0 ≤ x6_1
                        · rw [if_pos c24] at H
                          have c24b0 : decide (0 ≤ x6_1) = true := decide_eq_true c24
                          clear c24
                          obtain ⟨ji25, hji25⟩ : ∃ j_ : Int, (wrap64 (x6_1 - 1)) = j_ := ⟨_, rfl⟩
                          replace H : (if 0 ≤ (ji25) then (if (ji25) < (t1115.length : Int) then (paymasterlaw10_RowSorted.j1 k1 l0 t1115 x4_1 x5_1 x6_1 (Op.bytesLess (((rd_T44 t1115 x6_1).f0).toList) (((rd_T44 t1115 (ji25)).f0).toList))) else (none)) else (none)) = some r := by first | (rw [hji25] at H; exact H) | (simp only [hji25] at H ⊢; exact H)
                          have hji25w : (IntKind.i64.wrap (x6_1 - 1)) = ji25 := (i64_w _).trans hji25
                          by_cases c26 : 0 ≤ (ji25)
                          · rw [if_pos c26] at H
                            have c26b0 : decide (0 ≤ (ji25)) = true := decide_eq_true c26
                            clear c26
                            by_cases c27 : (ji25) < (t1115.length : Int)
                            · rw [if_pos c27] at H
                              have c27b0 : decide ((ji25) < (t1115.length : Int)) = true := decide_eq_true c27
                              clear c27
                              have H' := Aside0.mk H
                              clear H
                              have p1135 : 0 ≤ (x6_1 : Int) := of_decide_eq_true (by first | (with_reducible assumption) | assumption)
                              have q1135 : x6_1 < (t1115.length : Int) := of_decide_eq_true (by first | (with_reducible assumption) | assumption)
                              obtain ⟨ad1135, e1135, hx1135_0, hx1135_1, hx1135_2⟩ := at_T44 (Kd.R_reads' HO_3.out).2.2 x6_1 p1135 q1135
                              cases e1135
                              replace p1135 := eq_true p1135
                              replace q1135 := eq_true q1135
                              have p1136 : 0 ≤ ((ji25) : Int) := of_decide_eq_true (by first | (with_reducible assumption) | assumption)
                              have q1136 : (ji25) < (t1115.length : Int) := of_decide_eq_true (by first | (with_reducible assumption) | assumption)
                              obtain ⟨ad1136, e1136, hx1136_0, hx1136_1, hx1136_2⟩ := at_T44 (Kd.R_reads' HO_3.out).2.2 (ji25) p1136 q1136
                              obtain rfl : ad1135 = ad1136 := (by injection e1136)
                              replace p1136 := eq_true p1136
                              replace q1136 := eq_true q1136
                              go_wp2
                              repeat (go_quiet (fail); try go_wp2)
                              go_meet
                              case rel => exact ⟨_, ((Op.bytesLess (((rd_T44 t1115 x6_1).f0).toList) (((rd_T44 t1115 (ji25)).f0).toList))), (by first | rfl | (simp; done) | (simp only [← hji25] <;> (first | rfl | simp)) | (simp [*]; done)), H', ⟨by have := HK1.out; first | omega | exact Nat.le_refl _⟩, ⟨by (with_reducible repeat (first | apply Kd.R_alloc | apply Kd.R_drewN | apply Kd.R_drew)); exact HO_3.out⟩, ⟨by (with_reducible repeat (first | apply Kd.R_alloc | apply Kd.R_drewN | apply Kd.R_drew)); exact HO_4.out⟩, ⟨by repeat (first | (with_reducible first | exact HB.out | apply below_alloc | apply pw_below_drewN | apply below_drew1) | exact HB.out)⟩⟩
                            · rw [if_neg c27] at H
                              exact absurd H (by simp)
                          · rw [if_neg c26] at H
                            exact absurd H (by simp)
                        · rw [if_neg c24] at H
                          exact absurd H (by simp)
                      · rw [if_neg c23] at H
                        have c23b0 : decide (0 < x6_1) = false := decide_eq_false c23
                        clear c23
                        (first | rw [c23b0] | (simp only [i64_w, i32_w]; rw [c23b0]) | skip)
                        have H' := Aside0.mk H
                        clear H
                        go_wp2
                        repeat (go_quiet (fail); try go_wp2)
                        go_meet
                        case rel => exact ⟨_, (false), (by first | rfl | (simp; done) | (simp [*]; done)), H', ⟨by have := HK1.out; first | omega | exact Nat.le_refl _⟩, ⟨by (with_reducible repeat (first | apply Kd.R_alloc | apply Kd.R_drewN | apply Kd.R_drew)); exact HO_3.out⟩, ⟨by (with_reducible repeat (first | apply Kd.R_alloc | apply Kd.R_drewN | apply Kd.R_drew)); exact HO_4.out⟩, ⟨by repeat (first | (with_reducible first | exact HB.out | apply below_alloc | apply pw_below_drewN | apply below_drew1) | exact HB.out)⟩⟩
                    case rest =>
                      clear HC22
                      try clear c1
                      try clear p1
                      try clear q1
                      try clear hx1
                      try clear c2
                      try clear p2
                      try clear c3
                      try clear c4
                      try clear c5
                      try clear p6
                      try clear c8
                      try clear c8b0
                      try clear c8b1
                      try clear c8b2
                      try clear c11
                      try clear p11
                      try clear q11
                      try clear hx11
                      try clear c12
                      try clear c12b0
                      try clear c12b1
                      try clear c13
                      try clear c13b0
                      try clear c13b1
                      try clear c21
                      try clear c21b0
                      try clear c23
                      try clear c23b0
                      try clear c24
                      try clear c24b0
                      try clear c26
                      try clear c26b0
                      try clear c27
                      try clear c27b0
                      try clear hx1135_0
                      try clear hx1135_1
                      try clear hx1135_2
                      try clear hx1136_0
                      try clear hx1136_1
                      try clear hx1136_2
                      try clear p1135
                      try clear p1136
                      try clear p2
                      try clear q1135
                      try clear q1136
                      obtain ⟨kq, x51_21, rfl, HA, HJ21, HO_3, HO_4, HB⟩ := hcut
                      cases kq with
                      | zero => exact absurd HA.out (by simp [paymasterlaw10_RowSorted.j1])
                      | succ kj21 =>
                        have H := HA.out
                        clear HA
                        simp only [paymasterlaw10_RowSorted.j1] at H
                        by_cases c28 : x51_21 = true
                        · subst c28
                          have H1 : (none) = some r := by rw [if_pos rfl] at H; exact H
                          clear H
                          have H := H1
                          clear H1
                          exact absurd H (by simp)
                        · replace c28 := Bool.eq_false_iff.mpr c28
                          subst c28
                          have H1 : (if x6_1 > 0 then (if 0 ≤ x6_1 then (if x6_1 < (t1115.length : Int) then (if 0 ≤ (wrap64 (x6_1 - 1)) then (if (wrap64 (x6_1 - 1)) < (t1115.length : Int) then (paymasterlaw10_RowSorted.j2 kj21 l0 t1115 x4_1 x5_1 x6_1 (((rd_T44 t1115 x6_1).f0).toList != ((rd_T44 t1115 (wrap64 (x6_1 - 1))).f0).toList)) else (none)) else (none)) else (none)) else (none)) else (paymasterlaw10_RowSorted.j2 kj21 l0 t1115 x4_1 x5_1 x6_1 false)) = some r := by rw [if_neg (show ¬ (false = true) by decide)] at H; exact H
                          clear H
                          have H := H1
                          clear H1
                          have HC29 := Aside0.mk H
                          clear H
                          go_upto_region 15 with (fail)
                          repeat (go_quiet (fail); go_upto_region 15 with (fail))
                          go_cut [67] (fun v67 wc => ∃ (kq : Nat) (x67_28 : Bool), v67 = .bool x67_28 ∧ Aside0 (paymasterlaw10_RowSorted.j2 kq l0 t1115 x4_1 x5_1 x6_1 x67_28 = some r) ∧ Aside0 (kq ≤ kj21) ∧ Aside0 (Kd.R k44 44 wc w.heap.size (fun _ => True) (.slice Ao16 t1115.length co16) t1115) ∧ Aside0 (Kd.R Kd.bool 4 wc w.heap.size (fun _ => True) v1129 x4_1) ∧ Aside0 (Below w.heap.size w wc))
                          case first =>
                            have H := HC29.out
                            clear HC29
                            by_cases c30 : x6_1 > 0
                            · rw [if_pos c30] at H
                              have c30b0 : decide (0 < x6_1) = true := decide_eq_true c30
                              clear c30
                              (first | rw [c30b0] | (simp only [i64_w, i32_w]; rw [c30b0]) | skip)
                              by_cases c31 : 0 ≤ x6_1
                              · rw [if_pos c31] at H
                                have c31b0 : decide (0 ≤ x6_1) = true := decide_eq_true c31
                                clear c31
                                by_cases c32 : x6_1 < (t1115.length : Int)
                                · rw [if_pos c32] at H
                                  have c32b0 : decide (x6_1 < (t1115.length : Int)) = true := decide_eq_true c32
                                  clear c32
                                  obtain ⟨ji33, hji33⟩ : ∃ j_ : Int, (wrap64 (x6_1 - 1)) = j_ := ⟨_, rfl⟩
                                  replace H : (if 0 ≤ (ji33) then (if (ji33) < (t1115.length : Int) then (paymasterlaw10_RowSorted.j2 kj21 l0 t1115 x4_1 x5_1 x6_1 (((rd_T44 t1115 x6_1).f0).toList != ((rd_T44 t1115 (ji33)).f0).toList)) else (none)) else (none)) = some r := by first | (rw [hji33] at H; exact H) | (simp only [hji33] at H ⊢; exact H)
                                  have hji33w : (IntKind.i64.wrap (x6_1 - 1)) = ji33 := (i64_w _).trans hji33
                                  by_cases c34 : 0 ≤ (ji33)
                                  · rw [if_pos c34] at H
                                    have c34b0 : decide (0 ≤ (ji33)) = true := decide_eq_true c34
                                    clear c34
                                    by_cases c35 : (ji33) < (t1115.length : Int)
                                    · rw [if_pos c35] at H
                                      have c35b0 : decide ((ji33) < (t1115.length : Int)) = true := decide_eq_true c35
                                      clear c35
                                      have H' := Aside0.mk H
                                      clear H
                                      have p1141 : 0 ≤ (x6_1 : Int) := of_decide_eq_true (by first | (with_reducible assumption) | assumption)
                                      have q1141 : x6_1 < (t1115.length : Int) := of_decide_eq_true (by first | (with_reducible assumption) | assumption)
                                      obtain ⟨ad1141, e1141, hx1141_0, hx1141_1, hx1141_2⟩ := at_T44 (Kd.R_reads' HO_3.out).2.2 x6_1 p1141 q1141
                                      cases e1141
                                      replace p1141 := eq_true p1141
                                      replace q1141 := eq_true q1141
                                      have p1142 : 0 ≤ ((ji33) : Int) := of_decide_eq_true (by first | (with_reducible assumption) | assumption)
                                      have q1142 : (ji33) < (t1115.length : Int) := of_decide_eq_true (by first | (with_reducible assumption) | assumption)
                                      obtain ⟨ad1142, e1142, hx1142_0, hx1142_1, hx1142_2⟩ := at_T44 (Kd.R_reads' HO_3.out).2.2 (ji33) p1142 q1142
                                      obtain rfl : ad1141 = ad1142 := (by injection e1142)
                                      replace p1142 := eq_true p1142
                                      replace q1142 := eq_true q1142
                                      go_wp2
                                      repeat (go_quiet (fail); try go_wp2)
                                      go_meet
                                      case rel => exact ⟨_, ((((rd_T44 t1115 x6_1).f0).toList != ((rd_T44 t1115 (ji33)).f0).toList)), (by first | rfl | (simp; done) | (simp only [← hji33] <;> (first | rfl | simp)) | (simp [*]; done)), H', ⟨by have := HK1.out; have := HJ21.out; first | omega | exact Nat.le_refl _⟩, ⟨by (with_reducible repeat (first | apply Kd.R_alloc | apply Kd.R_drewN | apply Kd.R_drew)); exact HO_3.out⟩, ⟨by (with_reducible repeat (first | apply Kd.R_alloc | apply Kd.R_drewN | apply Kd.R_drew)); exact HO_4.out⟩, ⟨by repeat (first | (with_reducible first | exact HB.out | apply below_alloc | apply pw_below_drewN | apply below_drew1) | exact HB.out)⟩⟩
                                    · rw [if_neg c35] at H
                                      exact absurd H (by simp)
                                  · rw [if_neg c34] at H
                                    exact absurd H (by simp)
                                · rw [if_neg c32] at H
                                  exact absurd H (by simp)
                              · rw [if_neg c31] at H
                                exact absurd H (by simp)
                            · rw [if_neg c30] at H
                              have c30b0 : decide (0 < x6_1) = false := decide_eq_false c30
                              clear c30
                              (first | rw [c30b0] | (simp only [i64_w, i32_w]; rw [c30b0]) | skip)
                              have H' := Aside0.mk H
                              clear H
                              go_wp2
                              repeat (go_quiet (fail); try go_wp2)
                              go_meet
                              case rel => exact ⟨_, (false), (by first | rfl | (simp; done) | (simp [*]; done)), H', ⟨by have := HK1.out; have := HJ21.out; first | omega | exact Nat.le_refl _⟩, ⟨by (with_reducible repeat (first | apply Kd.R_alloc | apply Kd.R_drewN | apply Kd.R_drew)); exact HO_3.out⟩, ⟨by (with_reducible repeat (first | apply Kd.R_alloc | apply Kd.R_drewN | apply Kd.R_drew)); exact HO_4.out⟩, ⟨by repeat (first | (with_reducible first | exact HB.out | apply below_alloc | apply pw_below_drewN | apply below_drew1) | exact HB.out)⟩⟩
                          case rest =>
                            clear HC29
                            try clear c1
                            try clear p1
                            try clear q1
                            try clear hx1
                            try clear c2
                            try clear p2
                            try clear c3
                            try clear c4
                            try clear c5
                            try clear p6
                            try clear c8
                            try clear c8b0
                            try clear c8b1
                            try clear c8b2
                            try clear c11
                            try clear p11
                            try clear q11
                            try clear hx11
                            try clear c12
                            try clear c12b0
                            try clear c12b1
                            try clear c13
                            try clear c13b0
                            try clear c13b1
                            try clear c21
                            try clear c21b0
                            try clear c23
                            try clear c23b0
                            try clear c24
                            try clear c24b0
                            try clear c26
                            try clear c26b0
                            try clear c27
                            try clear c27b0
                            try clear c28
                            try clear c30
                            try clear c30b0
                            try clear c31
                            try clear c31b0
                            try clear c32
                            try clear c32b0
                            try clear c34
                            try clear c34b0
                            try clear c35
                            try clear c35b0
                            try clear hx1135_0
                            try clear hx1135_1
                            try clear hx1135_2
                            try clear hx1136_0
                            try clear hx1136_1
                            try clear hx1136_2
                            try clear hx1141_0
                            try clear hx1141_1
                            try clear hx1141_2
                            try clear hx1142_0
                            try clear hx1142_1
                            try clear hx1142_2
                            try clear p1
                            try clear p11
                            try clear p1135
                            try clear p1136
                            try clear p1141
                            try clear p1142
                            try clear p2
                            try clear p6
                            try clear q1
                            try clear q11
                            try clear q1135
                            try clear q1136
                            try clear q1141
                            try clear q1142
                            obtain ⟨kq, x67_28, rfl, HA, HJ28, HO_3, HO_4, HB⟩ := hcut
                            cases kq with
                            | zero => exact absurd HA.out (by simp [paymasterlaw10_RowSorted.j2])
                            | succ kj28 =>
                              have H := HA.out
                              clear HA
                              simp only [paymasterlaw10_RowSorted.j2] at H
                              have HC36 := Aside0.mk H
                              clear H
                              go_upto_if 67 with (fail)
                              repeat (go_quiet (fail); go_upto_if 67 with (fail))
                              go_cut [5] (fun v5 wc => ∃ (kq : Nat) (x5_35 : Int), v5 = .int .i64 x5_35 ∧ Aside0 (paymasterlaw10_RowSorted.j3 kq l0 t1115 x4_1 x5_35 x6_1 = some r) ∧ Aside0 (kq ≤ kj28) ∧ Aside0 (Kd.R k44 44 wc w.heap.size (fun _ => True) (.slice Ao16 t1115.length co16) t1115) ∧ Aside0 (Kd.R Kd.bool 4 wc w.heap.size (fun _ => True) v1129 x4_1) ∧ Aside0 (Below w.heap.size w wc))
                              case first =>
                                have H := HC36.out
                                clear HC36
                                by_cases c37 : x67_28 = true
                                · subst c37
                                  have H1 : (paymasterlaw10_RowSorted.j3 kj28 l0 t1115 x4_1 (-1) x6_1) = some r := by rw [if_pos rfl] at H; exact H
                                  clear H
                                  have H := H1
                                  clear H1
                                  have H' := Aside0.mk H
                                  clear H
                                  go_wp2
                                  repeat (go_quiet (fail); try go_wp2)
                                  go_meet
                                  case rel => exact ⟨_, ((-1)), (by first | rfl | (simp; done) | (simp [*]; done)), H', ⟨by have := HK1.out; have := HJ21.out; have := HJ28.out; first | omega | exact Nat.le_refl _⟩, ⟨by (with_reducible repeat (first | apply Kd.R_alloc | apply Kd.R_drewN | apply Kd.R_drew)); exact HO_3.out⟩, ⟨by (with_reducible repeat (first | apply Kd.R_alloc | apply Kd.R_drewN | apply Kd.R_drew)); exact HO_4.out⟩, ⟨by repeat (first | (with_reducible first | exact HB.out | apply below_alloc | apply pw_below_drewN | apply below_drew1) | exact HB.out)⟩⟩
                                · replace c37 := Bool.eq_false_iff.mpr c37
                                  subst c37
                                  have H1 : (paymasterlaw10_RowSorted.j3 kj28 l0 t1115 x4_1 x5_1 x6_1) = some r := by rw [if_neg (show ¬ (false = true) by decide)] at H; exact H
                                  clear H
                                  have H := H1
                                  clear H1
                                  have H' := Aside0.mk H
                                  clear H
                                  go_wp2
                                  repeat (go_quiet (fail); try go_wp2)
                                  go_meet
                                  case rel => exact ⟨_, (x5_1), (by first | rfl | (simp; done) | (simp [*]; done)), H', ⟨by have := HK1.out; have := HJ21.out; have := HJ28.out; first | omega | exact Nat.le_refl _⟩, ⟨by (with_reducible repeat (first | apply Kd.R_alloc | apply Kd.R_drewN | apply Kd.R_drew)); exact HO_3.out⟩, ⟨by (with_reducible repeat (first | apply Kd.R_alloc | apply Kd.R_drewN | apply Kd.R_drew)); exact HO_4.out⟩, ⟨by repeat (first | (with_reducible first | exact HB.out | apply below_alloc | apply pw_below_drewN | apply below_drew1) | exact HB.out)⟩⟩
                              case rest =>
                                clear HC36
                                try clear c1
                                try clear p1
                                try clear q1
                                try clear hx1
                                try clear c2
                                try clear p2
                                try clear c3
                                try clear c4
                                try clear c5
                                try clear p6
                                try clear c8
                                try clear c8b0
                                try clear c8b1
                                try clear c8b2
                                try clear c11
                                try clear p11
                                try clear q11
                                try clear hx11
                                try clear c12
                                try clear c12b0
                                try clear c12b1
                                try clear c13
                                try clear c13b0
                                try clear c13b1
                                try clear c21
                                try clear c21b0
                                try clear c23
                                try clear c23b0
                                try clear c24
                                try clear c24b0
                                try clear c26
                                try clear c26b0
                                try clear c27
                                try clear c27b0
                                try clear c28
                                try clear c30
                                try clear c30b0
                                try clear c31
                                try clear c31b0
                                try clear c32
                                try clear c32b0
                                try clear c34
                                try clear c34b0
                                try clear c35
                                try clear c35b0
                                try clear c37
                                try clear hx1135_0
                                try clear hx1135_1
                                try clear hx1135_2
                                try clear hx1136_0
                                try clear hx1136_1
                                try clear hx1136_2
                                try clear hx1141_0
                                try clear hx1141_1
                                try clear hx1141_2
                                try clear hx1142_0
                                try clear hx1142_1
                                try clear hx1142_2
                                try clear p1
                                try clear p11
                                try clear p1135
                                try clear p1136
                                try clear p1141
                                try clear p1142
                                try clear p2
                                try clear p6
                                try clear q1
                                try clear q11
                                try clear q1135
                                try clear q1136
                                try clear q1141
                                try clear q1142
                                obtain ⟨kq, x5_35, rfl, HA, HJ35, HO_3, HO_4, HB⟩ := hcut
                                cases kq with
                                | zero => exact absurd HA.out (by simp [paymasterlaw10_RowSorted.j3])
                                | succ kj35 =>
                                  have H := HA.out
                                  clear HA
                                  simp only [paymasterlaw10_RowSorted.j3] at H
                                  have H' := Aside0.mk H
                                  clear H
                                  go_wp2
                                  repeat (go_quiet (fail); try go_wp2)
                                  go_loopg [7, 8] kj35 (fun kq v7 v8 w' => ∃ (x7_5 : Int) (x8_5 : Int), v7 = .int .i64 x7_5 ∧ v8 = .int .i64 x8_5 ∧ Aside0 (paymasterlaw10_RowSorted.l1 kq l0 t1115 x4_1 x5_35 x6_1 x7_5 x8_5 = some r) ∧ Aside0 (kq ≤ kj35) ∧ Aside0 (Kd.R k44 44 w' w.heap.size (fun _ => True) (.slice Ao16 t1115.length co16) t1115) ∧ Aside0 (Kd.R Kd.bool 4 w' w.heap.size (fun _ => True) v1129 x4_1) ∧ Aside0 (Below w.heap.size w w'))
                                  case atStart => exact ⟨((-1)), (0), (by first | rfl | (simp; done) | (simp [*]; done)), (by first | rfl | (simp; done) | (simp [*]; done)), H', ⟨Nat.le_refl _⟩, ⟨by (with_reducible repeat (first | apply Kd.R_alloc | apply Kd.R_drewN | apply Kd.R_drew)); exact HO_3.out⟩, ⟨by (with_reducible repeat (first | apply Kd.R_alloc | apply Kd.R_drewN | apply Kd.R_drew)); exact HO_4.out⟩, ⟨by repeat (first | (with_reducible first | exact HB.out | apply below_alloc | apply pw_below_drewN | apply below_drew1) | exact HB.out)⟩⟩
                                  case round =>
                                    clear H'
                                    try clear c1
                                    try clear p1
                                    try clear q1
                                    try clear hx1
                                    try clear c2
                                    try clear p2
                                    try clear c3
                                    try clear c4
                                    try clear c5
                                    try clear p6
                                    try clear c8
                                    try clear c8b0
                                    try clear c8b1
                                    try clear c8b2
                                    try clear c11
                                    try clear p11
                                    try clear q11
                                    try clear hx11
                                    try clear c12
                                    try clear c12b0
                                    try clear c12b1
                                    try clear c13
                                    try clear c13b0
                                    try clear c13b1
                                    try clear c21
                                    try clear c21b0
                                    try clear c23
                                    try clear c23b0
                                    try clear c24
                                    try clear c24b0
                                    try clear c26
                                    try clear c26b0
                                    try clear c27
                                    try clear c27b0
                                    try clear c28
                                    try clear c30
                                    try clear c30b0
                                    try clear c31
                                    try clear c31b0
                                    try clear c32
                                    try clear c32b0
                                    try clear c34
                                    try clear c34b0
                                    try clear c35
                                    try clear c35b0
                                    try clear c37
                                    try clear hx1135_0
                                    try clear hx1135_1
                                    try clear hx1135_2
                                    try clear hx1136_0
                                    try clear hx1136_1
                                    try clear hx1136_2
                                    try clear hx1141_0
                                    try clear hx1141_1
                                    try clear hx1141_2
                                    try clear hx1142_0
                                    try clear hx1142_1
                                    try clear hx1142_2
                                    try clear p1
                                    try clear p11
                                    try clear p1135
                                    try clear p1136
                                    try clear p1141
                                    try clear p1142
                                    try clear p2
                                    try clear p6
                                    try clear q1
                                    try clear q11
                                    try clear q1135
                                    try clear q1136
                                    try clear q1141
                                    try clear q1142
                                    obtain ⟨x7_5, x8_5, rfl, rfl, HA, HK5, HO_3, HO_4, HB⟩ := hrel
                                    cases gk with
                                    | zero => exact absurd HA.out (by simp [paymasterlaw10_RowSorted.l1])
                                    | succ k5 =>
                                      have H := HA.out
                                      clear HA
                                      simp only [paymasterlaw10_RowSorted.l1] at H
                                      have HC38 := Aside0.mk H
                                      clear H
                                      go_upto_region 19 with (fail)
                                      repeat (go_quiet (fail); go_upto_region 19 with (fail))
                                      go_cut [75] (fun v75 wc => ∃ (kq : Nat) (x75_37 : Bool), v75 = .bool x75_37 ∧ Aside0 (paymasterlaw10_RowSorted.j5 kq l0 t1115 x4_1 x5_35 x6_1 x7_5 x8_5 x75_37 = some r) ∧ Aside0 (kq ≤ k5) ∧ Aside0 (Kd.R k44 44 wc w.heap.size (fun _ => True) (.slice Ao16 t1115.length co16) t1115) ∧ Aside0 (Kd.R Kd.bool 4 wc w.heap.size (fun _ => True) v1129 x4_1) ∧ Aside0 (Below w.heap.size w wc))
                                      case first =>
                                        have H := HC38.out
                                        clear HC38
                                        by_cases c39 : x8_5 < (l0.length : Int)
                                        · rw [if_pos c39] at H
                                          have c39b0 : decide (x8_5 < (l0.length : Int)) = true := decide_eq_true c39
                                          clear c39
                                          (first | rw [c39b0] | (simp only [i64_w, i32_w]; rw [c39b0]) | skip)
                                          have H' := Aside0.mk H
                                          clear H
                                          go_wp2
                                          repeat (go_quiet (fail); try go_wp2)
                                          go_meet
                                          case rel => exact ⟨_, (decide (x7_5 < 0)), (by first | rfl | (simp; done) | (simp [*]; done)), H', ⟨by have := HK1.out; have := HJ21.out; have := HJ28.out; have := HJ35.out; have := HK5.out; first | omega | exact Nat.le_refl _⟩, ⟨by (with_reducible repeat (first | apply Kd.R_alloc | apply Kd.R_drewN | apply Kd.R_drew)); exact HO_3.out⟩, ⟨by (with_reducible repeat (first | apply Kd.R_alloc | apply Kd.R_drewN | apply Kd.R_drew)); exact HO_4.out⟩, ⟨by repeat (first | (with_reducible first | exact HB.out | apply below_alloc | apply pw_below_drewN | apply below_drew1) | exact HB.out)⟩⟩
                                        · rw [if_neg c39] at H
                                          have c39b0 : decide (x8_5 < (l0.length : Int)) = false := decide_eq_false c39
                                          clear c39
                                          (first | rw [c39b0] | (simp only [i64_w, i32_w]; rw [c39b0]) | skip)
                                          have H' := Aside0.mk H
                                          clear H
                                          go_wp2
                                          repeat (go_quiet (fail); try go_wp2)
                                          go_meet
                                          case rel => exact ⟨_, (false), (by first | rfl | (simp; done) | (simp [*]; done)), H', ⟨by have := HK1.out; have := HJ21.out; have := HJ28.out; have := HJ35.out; have := HK5.out; first | omega | exact Nat.le_refl _⟩, ⟨by (with_reducible repeat (first | apply Kd.R_alloc | apply Kd.R_drewN | apply Kd.R_drew)); exact HO_3.out⟩, ⟨by (with_reducible repeat (first | apply Kd.R_alloc | apply Kd.R_drewN | apply Kd.R_drew)); exact HO_4.out⟩, ⟨by repeat (first | (with_reducible first | exact HB.out | apply below_alloc | apply pw_below_drewN | apply below_drew1) | exact HB.out)⟩⟩
                                      case rest =>
                                        clear HC38
                                        try clear c1
                                        try clear p1
                                        try clear q1
                                        try clear hx1
                                        try clear c2
                                        try clear p2
                                        try clear c3
                                        try clear c4
                                        try clear c5
                                        try clear p6
                                        try clear c8
                                        try clear c8b0
                                        try clear c8b1
                                        try clear c8b2
                                        try clear c11
                                        try clear p11
                                        try clear q11
                                        try clear hx11
                                        try clear c12
                                        try clear c12b0
                                        try clear c12b1
                                        try clear c13
                                        try clear c13b0
                                        try clear c13b1
                                        try clear c21
                                        try clear c21b0
                                        try clear c23
                                        try clear c23b0
                                        try clear c24
                                        try clear c24b0
                                        try clear c26
                                        try clear c26b0
                                        try clear c27
                                        try clear c27b0
                                        try clear c28
                                        try clear c30
                                        try clear c30b0
                                        try clear c31
                                        try clear c31b0
                                        try clear c32
                                        try clear c32b0
                                        try clear c34
                                        try clear c34b0
                                        try clear c35
                                        try clear c35b0
                                        try clear c37
                                        try clear c39
                                        try clear c39b0
                                        try clear hx1135_0
                                        try clear hx1135_1
                                        try clear hx1135_2
                                        try clear hx1136_0
                                        try clear hx1136_1
                                        try clear hx1136_2
                                        try clear hx1141_0
                                        try clear hx1141_1
                                        try clear hx1141_2
                                        try clear hx1142_0
                                        try clear hx1142_1
                                        try clear hx1142_2
                                        try clear p1
                                        try clear p11
                                        try clear p1135
                                        try clear p1136
                                        try clear p1141
                                        try clear p1142
                                        try clear p2
                                        try clear p6
                                        try clear q1
                                        try clear q11
                                        try clear q1135
                                        try clear q1136
                                        try clear q1141
                                        try clear q1142
                                        obtain ⟨kq, x75_37, rfl, HA, HJ37, HO_3, HO_4, HB⟩ := hcut
                                        cases kq with
                                        | zero => exact absurd HA.out (by simp [paymasterlaw10_RowSorted.j5])
                                        | succ kj37 =>
                                          have H := HA.out
                                          clear HA
                                          simp only [paymasterlaw10_RowSorted.j5] at H
                                          by_cases c40 : x75_37 = true
                                          · subst c40
                                            have H1 : (if 0 ≤ x8_5 then (if x8_5 < (x4_1.length : Int) then (if rdOf false x4_1 x8_5 = true then (paymasterlaw10_RowSorted.l1 kj37 l0 t1115 x4_1 x5_35 x6_1 x7_5 (wrap64 (x8_5 + 1))) else (if x8_5 < (l0.length : Int) then (if 0 ≤ x6_1 then (if x6_1 < (t1115.length : Int) then (if ((rd_T44 l0 x8_5).f0).toList = ((rd_T44 t1115 x6_1).f0).toList then (paymasterlaw10_RowSorted.l1 kj37 l0 t1115 x4_1 x5_35 x6_1 x8_5 (wrap64 (x8_5 + 1))) else (paymasterlaw10_RowSorted.l1 kj37 l0 t1115 x4_1 x5_35 x6_1 x7_5 (wrap64 (x8_5 + 1)))) else (none)) else (none)) else (none))) else (none)) else (none)) = some r := by rw [if_pos rfl] at H; exact H
                                            clear H
                                            have H := H1
                                            clear H1
                                            by_cases c41 : 0 ≤ x8_5
                                            · rw [if_pos c41] at H
                                              have c41b0 : decide (0 ≤ x8_5) = true := decide_eq_true c41
                                              clear c41
                                              by_cases c42 : x8_5 < (x4_1.length : Int)
                                              · rw [if_pos c42] at H
                                                have c42b0 : decide (x8_5 < (x4_1.length : Int)) = true := decide_eq_true c42
                                                clear c42
                                                obtain ⟨bq43, hbq43⟩ : ∃ b_ : Bool, b_ = (rdOf false x4_1 x8_5) := ⟨_, rfl⟩
                                                replace H : (if bq43 = true then (paymasterlaw10_RowSorted.l1 kj37 l0 t1115 x4_1 x5_35 x6_1 x7_5 (wrap64 (x8_5 + 1))) else (if x8_5 < (l0.length : Int) then (if 0 ≤ x6_1 then (if x6_1 < (t1115.length : Int) then (if ((rd_T44 l0 x8_5).f0).toList = ((rd_T44 t1115 x6_1).f0).toList then (paymasterlaw10_RowSorted.l1 kj37 l0 t1115 x4_1 x5_35 x6_1 x8_5 (wrap64 (x8_5 + 1))) else (paymasterlaw10_RowSorted.l1 kj37 l0 t1115 x4_1 x5_35 x6_1 x7_5 (wrap64 (x8_5 + 1)))) else (none)) else (none)) else (none))) = some r := by rw [← hbq43] at H; exact H
                                                have Nbq43 := Aside0.mk hbq43
                                                clear hbq43
                                                by_cases c44 : bq43 = true
                                                · subst c44
                                                  have H1 : (paymasterlaw10_RowSorted.l1 kj37 l0 t1115 x4_1 x5_35 x6_1 x7_5 (wrap64 (x8_5 + 1))) = some r := by rw [if_pos rfl] at H; exact H
                                                  clear H
                                                  have H := H1
                                                  clear H1
                                                  have H' := Aside0.mk H
                                                  clear H
                                                  obtain ⟨Ao45, co45, eo45⟩ := Kd.R_slice HO_4.out
                                                  subst eo45
                                                  have p1152 : 0 ≤ (x8_5 : Int) := of_decide_eq_true (by first | (with_reducible assumption) | assumption)
                                                  have q1152 : x8_5 < (x4_1.length : Int) := of_decide_eq_true (by first | (with_reducible assumption) | assumption)
                                                  obtain ⟨ad1152, e1152, hx1152_0⟩ := Kd.at_bool (Kd.R_reads' HO_4.out).2.2 x8_5 p1152 q1152
                                                  (try rw [← Nbq43.out] at hx1152_0)
                                                  cases e1152
                                                  replace p1152 := eq_true p1152
                                                  replace q1152 := eq_true q1152
                                                  go_wp2
                                                  repeat (go_quiet (fail); try go_wp2)
                                                  go_roundg kj37
                                                  case measure => have := HK1.out; have := HJ21.out; have := HJ28.out; have := HJ35.out; have := HK5.out; have := HJ37.out; omega
                                                  case rel => exact ⟨(x7_5), (wrap64 (x8_5 + 1)), (by first | rfl | (simp; done) | (simp [*]; done)), (by first | rfl | (simp; done) | (simp [*]; done)), H', ⟨by have := HK1.out; have := HJ21.out; have := HJ28.out; have := HJ35.out; have := HK5.out; have := HJ37.out; omega⟩, ⟨by (with_reducible repeat (first | apply Kd.R_alloc | apply Kd.R_drewN | apply Kd.R_drew)); exact HO_3.out⟩, ⟨by (with_reducible repeat (first | apply Kd.R_alloc | apply Kd.R_drewN | apply Kd.R_drew)); exact HO_4.out⟩, ⟨by repeat (first | (with_reducible first | exact HB.out | apply below_alloc | apply pw_below_drewN | apply below_drew1) | exact HB.out)⟩⟩
                                                · replace c44 := Bool.eq_false_iff.mpr c44
                                                  subst c44
                                                  have H1 : (if x8_5 < (l0.length : Int) then (if 0 ≤ x6_1 then (if x6_1 < (t1115.length : Int) then (if ((rd_T44 l0 x8_5).f0).toList = ((rd_T44 t1115 x6_1).f0).toList then (paymasterlaw10_RowSorted.l1 kj37 l0 t1115 x4_1 x5_35 x6_1 x8_5 (wrap64 (x8_5 + 1))) else (paymasterlaw10_RowSorted.l1 kj37 l0 t1115 x4_1 x5_35 x6_1 x7_5 (wrap64 (x8_5 + 1)))) else (none)) else (none)) else (none)) = some r := by rw [if_neg (show ¬ (false = true) by decide)] at H; exact H
                                                  clear H
                                                  have H := H1
                                                  clear H1
                                                  by_cases c46 : x8_5 < (l0.length : Int)
                                                  · rw [if_pos c46] at H
                                                    have c46b0 : decide (x8_5 < (l0.length : Int)) = true := decide_eq_true c46
                                                    clear c46
                                                    by_cases c47 : 0 ≤ x6_1
                                                    · rw [if_pos c47] at H
                                                      have c47b0 : decide (0 ≤ x6_1) = true := decide_eq_true c47
                                                      clear c47
                                                      by_cases c48 : x6_1 < (t1115.length : Int)
                                                      · rw [if_pos c48] at H
                                                        have c48b0 : decide (x6_1 < (t1115.length : Int)) = true := decide_eq_true c48
                                                        clear c48
                                                        by_cases c49 : ((rd_T44 l0 x8_5).f0).toList = ((rd_T44 t1115 x6_1).f0).toList
                                                        · rw [if_pos c49] at H
                                                          have c49b0 : (((rd_T44 l0 x8_5).f0).toList == ((rd_T44 t1115 x6_1).f0).toList) = true := beq_iff_eq.mpr c49
                                                          have c49b1 : (((rd_T44 l0 x8_5).f0).toList != ((rd_T44 t1115 x6_1).f0).toList) = false := bne_eq_false_iff_eq.mpr c49
                                                          clear c49
                                                          have H' := Aside0.mk H
                                                          clear H
                                                          obtain ⟨Ao50, co50, eo50⟩ := Kd.R_slice HO_4.out
                                                          subst eo50
                                                          have p1152 : 0 ≤ (x8_5 : Int) := of_decide_eq_true (by first | (with_reducible assumption) | assumption)
                                                          have q1152 : x8_5 < (x4_1.length : Int) := of_decide_eq_true (by first | (with_reducible assumption) | assumption)
                                                          obtain ⟨ad1152, e1152, hx1152_0⟩ := Kd.at_bool (Kd.R_reads' HO_4.out).2.2 x8_5 p1152 q1152
                                                          (try rw [← Nbq43.out] at hx1152_0)
                                                          cases e1152
                                                          replace p1152 := eq_true p1152
                                                          replace q1152 := eq_true q1152
                                                          have p1153 : 0 ≤ (x8_5 : Int) := of_decide_eq_true (by first | (with_reducible assumption) | assumption)
                                                          have q1153 : x8_5 < (l0.length : Int) := of_decide_eq_true (by first | (with_reducible assumption) | assumption)
                                                          obtain ⟨ad1153, e1153, hx1153_0, hx1153_1, hx1153_2⟩ := at_T44 HR0.out x8_5 p1153 q1153
                                                          cases e1153
                                                          replace hx1153_0 := (HB.out.cell (World.block_lt_of_cell? w _ hx1153_0)).trans hx1153_0
                                                          replace hx1153_1 := (HB.out.cell (World.block_lt_of_cell? w _ hx1153_1)).trans hx1153_1
                                                          replace hx1153_2 := (HB.out.cell (World.block_lt_of_cell? w _ hx1153_2)).trans hx1153_2
                                                          replace p1153 := eq_true p1153
                                                          replace q1153 := eq_true q1153
                                                          have p1154 : 0 ≤ (x6_1 : Int) := of_decide_eq_true (by first | (with_reducible assumption) | assumption)
                                                          have q1154 : x6_1 < (t1115.length : Int) := of_decide_eq_true (by first | (with_reducible assumption) | assumption)
                                                          obtain ⟨ad1154, e1154, hx1154_0, hx1154_1, hx1154_2⟩ := at_T44 (Kd.R_reads' HO_3.out).2.2 x6_1 p1154 q1154
                                                          cases e1154
                                                          replace p1154 := eq_true p1154
                                                          replace q1154 := eq_true q1154
                                                          go_wp2
                                                          repeat (go_quiet (fail); try go_wp2)
                                                          go_roundg kj37
                                                          case measure => have := HK1.out; have := HJ21.out; have := HJ28.out; have := HJ35.out; have := HK5.out; have := HJ37.out; omega
                                                          case rel => exact ⟨(x8_5), (wrap64 (x8_5 + 1)), (by first | rfl | (simp; done) | (simp [*]; done)), (by first | rfl | (simp; done) | (simp [*]; done)), H', ⟨by have := HK1.out; have := HJ21.out; have := HJ28.out; have := HJ35.out; have := HK5.out; have := HJ37.out; omega⟩, ⟨by (with_reducible repeat (first | apply Kd.R_alloc | apply Kd.R_drewN | apply Kd.R_drew)); exact HO_3.out⟩, ⟨by (with_reducible repeat (first | apply Kd.R_alloc | apply Kd.R_drewN | apply Kd.R_drew)); exact HO_4.out⟩, ⟨by repeat (first | (with_reducible first | exact HB.out | apply below_alloc | apply pw_below_drewN | apply below_drew1) | exact HB.out)⟩⟩
                                                        · rw [if_neg c49] at H
                                                          have c49b0 : (((rd_T44 l0 x8_5).f0).toList == ((rd_T44 t1115 x6_1).f0).toList) = false := beq_eq_false_iff_ne.mpr c49
                                                          have c49b1 : (((rd_T44 l0 x8_5).f0).toList != ((rd_T44 t1115 x6_1).f0).toList) = true := bne_iff_ne.mpr c49
                                                          have H' := Aside0.mk H
                                                          clear H
                                                          obtain ⟨Ao51, co51, eo51⟩ := Kd.R_slice HO_4.out
                                                          subst eo51
                                                          have p1152 : 0 ≤ (x8_5 : Int) := of_decide_eq_true (by first | (with_reducible assumption) | assumption)
                                                          have q1152 : x8_5 < (x4_1.length : Int) := of_decide_eq_true (by first | (with_reducible assumption) | assumption)
                                                          obtain ⟨ad1152, e1152, hx1152_0⟩ := Kd.at_bool (Kd.R_reads' HO_4.out).2.2 x8_5 p1152 q1152
                                                          (try rw [← Nbq43.out] at hx1152_0)
                                                          cases e1152
                                                          replace p1152 := eq_true p1152
                                                          replace q1152 := eq_true q1152
                                                          have p1153 : 0 ≤ (x8_5 : Int) := of_decide_eq_true (by first | (with_reducible assumption) | assumption)
                                                          have q1153 : x8_5 < (l0.length : Int) := of_decide_eq_true (by first | (with_reducible assumption) | assumption)
                                                          obtain ⟨ad1153, e1153, hx1153_0, hx1153_1, hx1153_2⟩ := at_T44 HR0.out x8_5 p1153 q1153
                                                          cases e1153
                                                          replace hx1153_0 := (HB.out.cell (World.block_lt_of_cell? w _ hx1153_0)).trans hx1153_0
                                                          replace hx1153_1 := (HB.out.cell (World.block_lt_of_cell? w _ hx1153_1)).trans hx1153_1
                                                          replace hx1153_2 := (HB.out.cell (World.block_lt_of_cell? w _ hx1153_2)).trans hx1153_2
                                                          replace p1153 := eq_true p1153
                                                          replace q1153 := eq_true q1153
                                                          have p1154 : 0 ≤ (x6_1 : Int) := of_decide_eq_true (by first | (with_reducible assumption) | assumption)
                                                          have q1154 : x6_1 < (t1115.length : Int) := of_decide_eq_true (by first | (with_reducible assumption) | assumption)
                                                          obtain ⟨ad1154, e1154, hx1154_0, hx1154_1, hx1154_2⟩ := at_T44 (Kd.R_reads' HO_3.out).2.2 x6_1 p1154 q1154
                                                          cases e1154
                                                          replace p1154 := eq_true p1154
                                                          replace q1154 := eq_true q1154
                                                          go_wp2
                                                          repeat (go_quiet (fail); try go_wp2)
                                                          go_roundg kj37
                                                          case measure => have := HK1.out; have := HJ21.out; have := HJ28.out; have := HJ35.out; have := HK5.out; have := HJ37.out; omega
                                                          case rel => exact ⟨(x7_5), (wrap64 (x8_5 + 1)), (by first | rfl | (simp; done) | (simp [*]; done)), (by first | rfl | (simp; done) | (simp [*]; done)), H', ⟨by have := HK1.out; have := HJ21.out; have := HJ28.out; have := HJ35.out; have := HK5.out; have := HJ37.out; omega⟩, ⟨by (with_reducible repeat (first | apply Kd.R_alloc | apply Kd.R_drewN | apply Kd.R_drew)); exact HO_3.out⟩, ⟨by (with_reducible repeat (first | apply Kd.R_alloc | apply Kd.R_drewN | apply Kd.R_drew)); exact HO_4.out⟩, ⟨by repeat (first | (with_reducible first | exact HB.out | apply below_alloc | apply pw_below_drewN | apply below_drew1) | exact HB.out)⟩⟩
                                                      · rw [if_neg c48] at H
                                                        exact absurd H (by simp)
                                                    · rw [if_neg c47] at H
                                                      exact absurd H (by simp)
                                                  · rw [if_neg c46] at H
                                                    exact absurd H (by simp)
                                              · rw [if_neg c42] at H
                                                exact absurd H (by simp)
                                            · rw [if_neg c41] at H
                                              exact absurd H (by simp)
                                          · replace c40 := Bool.eq_false_iff.mpr c40
                                            subst c40
                                            have H1 : (if x7_5 < 0 then (none) else (if 0 ≤ x7_5 then (if x7_5 < (l0.length : Int) then (if 0 ≤ x6_1 then (if x6_1 < (t1115.length : Int) then (if (!((((rd_T44 l0 x7_5).f0).toList) == (((rd_T44 t1115 x6_1).f0).toList)) || ((!(((rd_T44 l0 x7_5).f1.f0) == ((rd_T44 t1115 x6_1).f1.f0)) || (!(((rd_T44 l0 x7_5).f1.f1) == ((rd_T44 t1115 x6_1).f1.f1)))))) = true then (none) else (if x7_5 < x5_35 then (none) else (if x7_5 < (x4_1.length : Int) then (paymasterlaw10_RowSorted.l0 kj37 l0 t1115 (x4_1.set (x7_5 : Int).toNat true) x7_5 (wrap64 (x6_1 + 1))) else (none)))) else (none)) else (none)) else (none)) else (none))) = some r := by rw [if_neg (show ¬ (false = true) by decide)] at H; exact H
                                            clear H
                                            have H := H1
                                            clear H1
                                            by_cases c52 : x7_5 < 0
                                            · rw [if_pos c52] at H
                                              exact absurd H (by simp)
                                            · rw [if_neg c52] at H
                                              have c52b0 : decide (x7_5 < 0) = false := decide_eq_false c52
                                              clear c52
                                              by_cases c53 : 0 ≤ x7_5
                                              · rw [if_pos c53] at H
                                                have c53b0 : decide (0 ≤ x7_5) = true := decide_eq_true c53
                                                clear c53
                                                by_cases c54 : x7_5 < (l0.length : Int)
                                                · rw [if_pos c54] at H
                                                  have c54b0 : decide (x7_5 < (l0.length : Int)) = true := decide_eq_true c54
                                                  clear c54
                                                  by_cases c55 : 0 ≤ x6_1
                                                  · rw [if_pos c55] at H
                                                    have c55b0 : decide (0 ≤ x6_1) = true := decide_eq_true c55
                                                    clear c55
                                                    by_cases c56 : x6_1 < (t1115.length : Int)
                                                    · rw [if_pos c56] at H
                                                      have c56b0 : decide (x6_1 < (t1115.length : Int)) = true := decide_eq_true c56
                                                      clear c56
                                                      by_cases c57 : (!((((rd_T44 l0 x7_5).f0).toList) == (((rd_T44 t1115 x6_1).f0).toList)) || ((!(((rd_T44 l0 x7_5).f1.f0) == ((rd_T44 t1115 x6_1).f1.f0)) || (!(((rd_T44 l0 x7_5).f1.f1) == ((rd_T44 t1115 x6_1).f1.f1)))))) = true
                                                      · rw [if_pos c57] at H
                                                        exact absurd H (by simp)
                                                      · rw [if_neg c57] at H
                                                        have c57b0 : (!((((rd_T44 l0 x7_5).f0).toList) == (((rd_T44 t1115 x6_1).f0).toList)) || ((!(((rd_T44 l0 x7_5).f1.f0) == ((rd_T44 t1115 x6_1).f1.f0)) || (!(((rd_T44 l0 x7_5).f1.f1) == ((rd_T44 t1115 x6_1).f1.f1)))))) = false := by simpa using c57
                                                        clear c57
                                                        by_cases c58 : x7_5 < x5_35
                                                        · rw [if_pos c58] at H
                                                          exact absurd H (by simp)
                                                        · rw [if_neg c58] at H
                                                          have c58b0 : decide (x7_5 < x5_35) = false := decide_eq_false c58
                                                          clear c58
                                                          by_cases c59 : x7_5 < (x4_1.length : Int)
                                                          · rw [if_pos c59] at H
                                                            have c59b0 : decide (x7_5 < (x4_1.length : Int)) = true := decide_eq_true c59
                                                            clear c59
                                                            obtain ⟨y1157, hy1157⟩ : ∃ y_ : List Bool, y_ = (x4_1.set (x7_5 : Int).toNat true) := ⟨_, rfl⟩
                                                            replace H : (paymasterlaw10_RowSorted.l0 kj37 l0 t1115 y1157 x7_5 (wrap64 (x6_1 + 1))) = some r := by first | (rw [hy1157]; with_reducible exact H) | (have H2_ := (Option.bind_some _ _).symm.trans H; rw [hy1157]; with_reducible exact H2_) | (have H2_ := (Option.bind_some _ _).symm.trans H; with_reducible exact H2_) | with_reducible exact H | (rw [hy1157]; exact H) | exact H
                                                            have Ny1157 := Aside0.mk hy1157
                                                            clear hy1157
                                                            have H' := Aside0.mk H
                                                            clear H
                                                            have p1155 : 0 ≤ (x7_5 : Int) := of_decide_eq_true (by first | (with_reducible assumption) | assumption)
                                                            have q1155 : x7_5 < (l0.length : Int) := of_decide_eq_true (by first | (with_reducible assumption) | assumption)
                                                            obtain ⟨ad1155, e1155, hx1155_0, hx1155_1, hx1155_2⟩ := at_T44 HR0.out x7_5 p1155 q1155
                                                            cases e1155
                                                            replace hx1155_0 := (HB.out.cell (World.block_lt_of_cell? w _ hx1155_0)).trans hx1155_0
                                                            replace hx1155_1 := (HB.out.cell (World.block_lt_of_cell? w _ hx1155_1)).trans hx1155_1
                                                            replace hx1155_2 := (HB.out.cell (World.block_lt_of_cell? w _ hx1155_2)).trans hx1155_2
                                                            replace p1155 := eq_true p1155
                                                            replace q1155 := eq_true q1155
                                                            have p1156 : 0 ≤ (x6_1 : Int) := of_decide_eq_true (by first | (with_reducible assumption) | assumption)
                                                            have q1156 : x6_1 < (t1115.length : Int) := of_decide_eq_true (by first | (with_reducible assumption) | assumption)
                                                            obtain ⟨ad1156, e1156, hx1156_0, hx1156_1, hx1156_2⟩ := at_T44 (Kd.R_reads' HO_3.out).2.2 x6_1 p1156 q1156
                                                            cases e1156
                                                            replace p1156 := eq_true p1156
                                                            replace q1156 := eq_true q1156
                                                            have p60 : 0 ≤ (x7_5 : Int) := of_decide_eq_true (by first | (with_reducible assumption) | assumption)
                                                            have q60 : (x7_5 : Int) < ((x4_1.length : Int) : Int) := of_decide_eq_true (by first | (with_reducible assumption) | assumption)
                                                            obtain ⟨go60, co60, eo60, gb60, gl60, cl60, HG60⟩ := Kd.R_form HO_4.out (by omega)
                                                            (first | cases eo60 | (injection eo60 with ea_ en_ ec_; (first | subst ea_ | (injection ea_ with ea_; subst ea_)); subst ec_; clear en_))
                                                            have GB60 := Aside0.mk gb60
                                                            have GG60 := Aside0.mk HG60
                                                            clear gb60 gl60 HG60
                                                            obtain ⟨hx60_0, hf60_0⟩ := Kd.R_celln false HO_4.out (x7_5 : Int) p60 q60
                                                            replace p60 := eq_true p60
                                                            replace q60 := eq_true q60
                                                            have HP61 := Kd.R_putg HO_4.out (x7_5 : Int) true
                                                            go_wp2_with (first | ((with_reducible refine gate_store (t := 4) (p := 117) rfl ?_); (try (rw [drewN_self wc]; generalize hq_ : World.drewN wc _ = wc; have n0_ := Aside0.mk (Kd.R_at hq_ HO_3.out); have n1_ := Aside0.mk (Kd.R_at hq_ HO_4.out); have n2_ := Aside0.mk (below_at hq_ HB.out); clear hq_ HO_3 HO_4 HB; have HO_3 := n0_; have HO_4 := n1_; have HB := n2_; clear n0_ n1_ n2_; (try (have HP61 := Kd.R_putg HO_4.out (x7_5 : Int) true)); (try (obtain ⟨hx60_0, hf60_0⟩ := Kd.R_celln false HO_4.out (x7_5 : Int) (of_eq_true p60) (of_eq_true q60))))); refine store_event (t := 4) (p := 117) (v := ?vo_w62) (w1 := (wc.setCell ⟨go60, (x7_5 : Int).toNat, none⟩ (.bool true))) ?hg ?ho ?hn ?hr ?_; (case ho => rfl); (case hg => rfl); (case hn => rfl); (case hr => first | (go_simp; done) | (go_simp; rfl)); intro w62 hw; have hg : wc.grownBy w62 (some go60) := (by rw [hw]; exact HP61.2); have hp_ : Kd.R Kd.bool 4 w62 w.heap.size (fun _ => True) (.slice (some ⟨go60, 0, none⟩) x4_1.length co60) y1157 := (by rw [hw, Ny1157.out]; exact HP61.1); clear HP61; have n0_ := Aside0.mk (Kd.R_over' (v := (.slice (some ⟨go60, 0, none⟩) x4_1.length co60)) (by (with_reducible repeat (first | apply Kd.R_alloc | apply Kd.R_drewN | apply Kd.R_drew)); exact HO_3.out) (Kd.R_typed HO_4.out) (by decide) hg); have n1_ := Aside0.mk (hp_); have n2_ := Aside0.mk ((by rw [hw]; exact below_set (HB.out) GB60.out : Below w.heap.size w w62)); clear HO_3; clear HO_4; clear HB; have HO_3 := n0_; have HO_4 := n1_; have HB := n2_; clear n0_ n1_ n2_; clear hg hw hp_))
                                                            repeat (go_quiet (first | ((with_reducible refine gate_store (t := 4) (p := 117) rfl ?_); (try (rw [drewN_self wc]; generalize hq_ : World.drewN wc _ = wc; have n0_ := Aside0.mk (Kd.R_at hq_ HO_3.out); have n1_ := Aside0.mk (Kd.R_at hq_ HO_4.out); have n2_ := Aside0.mk (below_at hq_ HB.out); clear hq_ HO_3 HO_4 HB; have HO_3 := n0_; have HO_4 := n1_; have HB := n2_; clear n0_ n1_ n2_; (try (have HP61 := Kd.R_putg HO_4.out (x7_5 : Int) true)); (try (obtain ⟨hx60_0, hf60_0⟩ := Kd.R_celln false HO_4.out (x7_5 : Int) (of_eq_true p60) (of_eq_true q60))))); refine store_event (t := 4) (p := 117) (v := ?vo_w62) (w1 := (wc.setCell ⟨go60, (x7_5 : Int).toNat, none⟩ (.bool true))) ?hg ?ho ?hn ?hr ?_; (case ho => rfl); (case hg => rfl); (case hn => rfl); (case hr => first | (go_simp; done) | (go_simp; rfl)); intro w62 hw; have hg : wc.grownBy w62 (some go60) := (by rw [hw]; exact HP61.2); have hp_ : Kd.R Kd.bool 4 w62 w.heap.size (fun _ => True) (.slice (some ⟨go60, 0, none⟩) x4_1.length co60) y1157 := (by rw [hw, Ny1157.out]; exact HP61.1); clear HP61; have n0_ := Aside0.mk (Kd.R_over' (v := (.slice (some ⟨go60, 0, none⟩) x4_1.length co60)) (by (with_reducible repeat (first | apply Kd.R_alloc | apply Kd.R_drewN | apply Kd.R_drew)); exact HO_3.out) (Kd.R_typed HO_4.out) (by decide) hg); have n1_ := Aside0.mk (hp_); have n2_ := Aside0.mk ((by rw [hw]; exact below_set (HB.out) GB60.out : Below w.heap.size w w62)); clear HO_3; clear HO_4; clear HB; have HO_3 := n0_; have HO_4 := n1_; have HB := n2_; clear n0_ n1_ n2_; clear hg hw hp_)); try go_wp2_with (first | ((with_reducible refine gate_store (t := 4) (p := 117) rfl ?_); (try (rw [drewN_self wc]; generalize hq_ : World.drewN wc _ = wc; have n0_ := Aside0.mk (Kd.R_at hq_ HO_3.out); have n1_ := Aside0.mk (Kd.R_at hq_ HO_4.out); have n2_ := Aside0.mk (below_at hq_ HB.out); clear hq_ HO_3 HO_4 HB; have HO_3 := n0_; have HO_4 := n1_; have HB := n2_; clear n0_ n1_ n2_; (try (have HP61 := Kd.R_putg HO_4.out (x7_5 : Int) true)); (try (obtain ⟨hx60_0, hf60_0⟩ := Kd.R_celln false HO_4.out (x7_5 : Int) (of_eq_true p60) (of_eq_true q60))))); refine store_event (t := 4) (p := 117) (v := ?vo_w62) (w1 := (wc.setCell ⟨go60, (x7_5 : Int).toNat, none⟩ (.bool true))) ?hg ?ho ?hn ?hr ?_; (case ho => rfl); (case hg => rfl); (case hn => rfl); (case hr => first | (go_simp; done) | (go_simp; rfl)); intro w62 hw; have hg : wc.grownBy w62 (some go60) := (by rw [hw]; exact HP61.2); have hp_ : Kd.R Kd.bool 4 w62 w.heap.size (fun _ => True) (.slice (some ⟨go60, 0, none⟩) x4_1.length co60) y1157 := (by rw [hw, Ny1157.out]; exact HP61.1); clear HP61; have n0_ := Aside0.mk (Kd.R_over' (v := (.slice (some ⟨go60, 0, none⟩) x4_1.length co60)) (by (with_reducible repeat (first | apply Kd.R_alloc | apply Kd.R_drewN | apply Kd.R_drew)); exact HO_3.out) (Kd.R_typed HO_4.out) (by decide) hg); have n1_ := Aside0.mk (hp_); have n2_ := Aside0.mk ((by rw [hw]; exact below_set (HB.out) GB60.out : Below w.heap.size w w62)); clear HO_3; clear HO_4; clear HB; have HO_3 := n0_; have HO_4 := n1_; have HB := n2_; clear n0_ n1_ n2_; clear hg hw hp_)))
                                                            go_roundg kj37
                                                            case measure => have := HK1.out; have := HJ21.out; have := HJ28.out; have := HJ35.out; have := HK5.out; have := HJ37.out; omega
                                                            case rel => exact ⟨(y1157), (x7_5), (wrap64 (x6_1 + 1)), (by first | rfl | (simp; done) | (simp [*]; done)), (by first | rfl | (simp; done) | (simp [*]; done)), H', ⟨by have := HK1.out; have := HJ21.out; have := HJ28.out; have := HJ35.out; have := HK5.out; have := HJ37.out; omega⟩, ⟨by (with_reducible repeat (first | apply Kd.R_alloc | apply Kd.R_drewN | apply Kd.R_drew)); exact HO_3.out⟩, ⟨by (with_reducible repeat (first | apply Kd.R_alloc | apply Kd.R_drewN | apply Kd.R_drew)); exact HO_4.out⟩, ⟨by repeat (first | (with_reducible first | exact HB.out | apply below_alloc | apply pw_below_drewN | apply below_drew1) | exact HB.out)⟩⟩
                                                          · rw [if_neg c59] at H
                                                            exact absurd H (by simp)
                                                    · rw [if_neg c56] at H
                                                      exact absurd H (by simp)
                                                  · rw [if_neg c55] at H
                                                    exact absurd H (by simp)
                                                · rw [if_neg c54] at H
                                                  exact absurd H (by simp)
                                              · rw [if_neg c53] at H
                                                exact absurd H (by simp)
                  · rw [if_neg c21] at H
                    have c21b0 : decide (x6_1 < (t1115.length : Int)) = false := decide_eq_false c21
                    clear c21
                    obtain rfl := Option.some.inj H
                    go_wp2
                    repeat (go_quiet (fail); try go_wp2)
                    go_ret
                    exact ⟨by first | rfl | (simp [errW_none, errW_some] <;> rfl) | (simp [*, errW_none, errW_some] <;> rfl), by repeat (first | (with_reducible first | exact HB.out | apply below_alloc | apply pw_below_drewN | apply below_drew1) | exact HB.out)⟩
            · rw [if_neg c13] at H
              exact absurd H (by simp)
          · rw [if_neg c12] at H
            exact absurd H (by simp)
        · replace c11 := Bool.eq_false_iff.mpr c11
          subst c11
          have H1 : (none) = some r := by rw [if_neg (show ¬ (false = true) by decide)] at H; exact H
          clear H
          have H := H1
          clear H1
          exact absurd H (by simp)
      · rw [if_neg c8] at H
        exact absurd H (by simp)
  · replace c3 := Bool.eq_false_iff.mpr c3
    subst c3
    have H1 : (none) = some r := by rw [if_neg (show ¬ (false = true) by decide)] at H; exact H
    clear H
    have H := H1
    clear H1
    exact absurd H (by simp)
end Go.Proofs.YtpkjpiphjdpegaaDoor.P
namespace Go.Proofs.YtpkjpiphjdpegaaDoor.P
open Go.RowKit Go.Proofs.YtpkjpiphjdpegaaDoorW.PrintWords Go.Proofs.YtpkjpiphjdpegaaDoorW.PrintLast Go.Proofs.YtpkjpiphjdpegaaDoorW.PrintMore
open Go.Proofs.YtpkjpiphjdpegaaDoor.Z
set_option linter.unusedVariables false
set_option linter.unusedSimpArgs false
theorem rdT (xs : List S44) (i : Nat) : rd_T44 xs (i : Int) = xs.getD i z44 := by unfold rd_T44; rw [Int.toNat_natCast]
theorem rdU (xs : List Bool) (i : Nat) : rdOf false xs (i : Int) = xs.getD i false := by unfold rdOf; rw [Int.toNat_natCast]
theorem next64 (i : Nat) (h : i ≤ 1000000) : wrap64 ((i : Int) + 1) = ((i + 1 : Nat) : Int) := by rw [wrapI _ (by omega) (by omega)]; push_cast; rfl
theorem prev64 (i : Nat) (h : i ≤ 1000000) : wrap64 (((i + 1 : Nat) : Int) - 1) = (i : Int) := by rw [wrapI _ (by omega) (by omega)]; push_cast; omega
theorem sorted_l1 {l s : List S44} {T : Nat → Nat} (h : Srt l s T) (hl : l.length ≤ 1000) (u : List Bool) (hu : u.length = l.length) (i : Nat) (hi : i < l.length) (last : Int) (hlast : ¬ (T i : Int) < last)
    (hused : ∀ k, k < l.length → (u.getD k false = true ↔ ∃ j, j < i ∧ T j = k)) (R : ∃ k, paymasterlaw10_RowSorted.l0 k l s (u.set (T i) true) (T i : Int) ((i + 1 : Nat) : Int) = some true) :
    ∀ (t j : Nat), j + t = T i → ∃ k, paymasterlaw10_RowSorted.l1 k l s u last (i : Int) (-1) (j : Int) = some true
  | 0, j, hj => by
    obtain rfl : j = T i := by omega
    have lt := h.lt i hi
    have ls := h.len
    have nu : ¬ u.getD (T i) false = true := by
      rw [hused _ lt]
      rintro ⟨q, hq, e⟩
      exact h.inj q i hq hi e
    have a := h.at_ i hi
    -- the row is found
    obtain ⟨k, hk⟩ := R
    have fin : ∀ x8 : Int, paymasterlaw10_RowSorted.j5 (k + 1) l s u last (i : Int) (T i : Int) x8 false = some true := by
      intro x8
      rw [paymasterlaw10_RowSorted.j5, if_neg (by decide), if_neg (by omega), if_pos (by omega), if_pos (by omega), if_pos (by omega), if_pos (by omega), rdT, rdT, ← a, if_neg (by simp), if_neg hlast, if_pos (by omega), Int.toNat_natCast, next64 i (by omega)]
      exact hk
    refine ⟨(((k + 1) + 1) + 1) + 1, ?_⟩
    have d1 : decide ((-1 : Int) < 0) = true := by decide
    rw [paymasterlaw10_RowSorted.l1, if_pos (by omega), d1, paymasterlaw10_RowSorted.j5, if_pos rfl, if_pos (by omega), if_pos (by omega), rdU, if_neg nu, if_pos (by omega), if_pos (by omega), if_pos (by omega), rdT, rdT, a, if_pos rfl, next64 _ (by omega), paymasterlaw10_RowSorted.l1]
    by_cases c : ((T i + 1 : Nat) : Int) < (l.length : Int)
    · rw [if_pos c, decide_eq_false (by omega)]
      exact fin _
    · rw [if_neg c]
      exact fin _
  | t + 1, j, hj => by
    have lt := h.lt i hi
    have ls := h.len
    obtain ⟨k, hk⟩ := sorted_l1 h hl u hu i hi last hlast hused R t (j + 1) (by omega)
    refine ⟨(k + 1) + 1, ?_⟩
    have d1 : decide ((-1 : Int) < 0) = true := by decide
    rw [paymasterlaw10_RowSorted.l1, if_pos (by omega), d1, paymasterlaw10_RowSorted.j5, if_pos rfl, if_pos (by omega), if_pos (by omega), rdU, next64 j (by omega)]
    by_cases c : u.getD j false = true
    · rw [if_pos c]; exact hk
    · rw [if_neg c, if_pos (by omega), if_pos (by omega), if_pos (by omega), rdT, rdT]
      have ne : ¬ (l.getD j z44).f0.toList = (s.getD i z44).f0.toList := by
        intro e
        obtain ⟨q, hq, tq⟩ := h.onto j (by omega)
        have aq := h.at_ q hq
        rw [tq] at aq
        have ke : rowKey (s.getD q z44) = rowKey (s.getD i z44) := by rw [aq]; exact e
        rcases Nat.lt_trichotomy q i with hqi | hqi | hqi
        · exact c ((hused j (by omega)).2 ⟨q, hqi, tq⟩)
        · rw [hqi] at tq; omega
        · have := (h.asc i q hqi hq).2 ke
          omega
      rw [if_neg ne]
      exact hk
theorem sorted_l0 {l s : List S44} {T : Nat → Nat} (h : Srt l s T) (hl : l.length ≤ 1000) : ∀ (t i : Nat) (u : List Bool) (last : Int), i + t = l.length → u.length = l.length →
    (∀ k, k < l.length → (u.getD k false = true ↔ ∃ j, j < i ∧ T j = k)) → (last = if i = 0 then -1 else (T (i - 1) : Int)) → ∃ k, paymasterlaw10_RowSorted.l0 k l s u last (i : Int) = some true
  | 0, i, u, last, hi, hu, hused, hlast => by
    have ls := h.len
    exact ⟨1, by rw [paymasterlaw10_RowSorted.l0, if_neg (by omega)]⟩
  | t + 1, i, u, last, hi, hu, hused, hlast => by
    have ls := h.len
    have lt := h.lt i (by omega)
    have R := sorted_l0 h hl t (i + 1) (u.set (T i) true) (T i : Int) (by omega) (by rw [List.length_set]; exact hu) (fun k hk => by
      rw [List.getD_eq_getElem?_getD, List.getElem?_set]
      by_cases e : T i = k
      · rw [if_pos e, if_pos (by omega)]
        exact ⟨fun _ => ⟨i, by omega, e⟩, fun _ => rfl⟩
      · rw [if_neg e, ← List.getD_eq_getElem?_getD, hused k hk]
        constructor
        · rintro ⟨j, hj, ej⟩; exact ⟨j, by omega, ej⟩
        · rintro ⟨j, hj, ej⟩
          rcases Nat.lt_or_ge j i with q | q
          · exact ⟨j, q, ej⟩
          · have : j = i := by omega
            rw [this] at ej; exact absurd ej e) (by rw [if_neg (by omega), Nat.add_sub_cancel])
    have go : ∀ last' : Int, ¬ (T i : Int) < last' → ∃ k, paymasterlaw10_RowSorted.l1 k l s u last' (i : Int) (-1) 0 = some true := fun last' hl' => sorted_l1 h hl u hu i (by omega) last' hl' hused R (T i) 0 (by omega)
    cases i with
    | zero =>
      have e : last = -1 := by rw [hlast, if_pos rfl]
      obtain ⟨k, hk⟩ := go last (by omega)
      refine ⟨(((k + 1) + 1) + 1) + 1, ?_⟩
      rw [paymasterlaw10_RowSorted.l0, if_pos (by omega), if_neg (by omega), paymasterlaw10_RowSorted.j1, if_neg (by decide), if_neg (by omega), paymasterlaw10_RowSorted.j2, if_neg (by decide), paymasterlaw10_RowSorted.j3]
      exact hk
    | succ m =>
      have e : last = (T m : Int) := by rw [hlast, if_neg (by omega), Nat.add_sub_cancel]
      have ac := h.asc m (m + 1) (by omega) (by omega)
      have less : Op.bytesLess (s.getD (m + 1) z44).f0.toList (s.getD m z44).f0.toList = false := ac.1
      have step : ∃ k, paymasterlaw10_RowSorted.j2 k l s u last ((m + 1 : Nat) : Int) ((s.getD (m + 1) z44).f0.toList != (s.getD m z44).f0.toList) = some true := by
        by_cases c : (s.getD (m + 1) z44).f0.toList = (s.getD m z44).f0.toList
        · obtain ⟨k, hk⟩ := go last (by have := ac.2 c; omega)
          refine ⟨(k + 1) + 1, ?_⟩
          rw [bne_eq_false_iff_eq.2 c, paymasterlaw10_RowSorted.j2, if_neg (by decide), paymasterlaw10_RowSorted.j3]
          exact hk
        · obtain ⟨k, hk⟩ := go (-1) (by omega)
          refine ⟨(k + 1) + 1, ?_⟩
          rw [bne_iff_ne.2 c, paymasterlaw10_RowSorted.j2, if_pos rfl, paymasterlaw10_RowSorted.j3]
          exact hk
      obtain ⟨k, hk⟩ := step
      refine ⟨(k + 1) + 1, ?_⟩
      rw [paymasterlaw10_RowSorted.l0, if_pos (by omega), if_pos (by omega), if_pos (by omega), prev64 m (by omega), if_pos (by omega), if_pos (by omega), rdT, rdT, less, paymasterlaw10_RowSorted.j1, if_neg (by decide), if_pos (by omega), if_pos (by omega), if_pos (by omega), prev64 m (by omega), if_pos (by omega), if_pos (by omega), rdT, rdT]
      exact hk
theorem rowSorted_pure (l : List S44) : ∃ k, paymasterlaw10_RowSorted.f k l = some true := by
  obtain ⟨b, h1, h2⟩ := long_is l 1000 (by omega)
  cases b with
  | true =>
    refine ⟨1000, ?_⟩
    unfold paymasterlaw10_RowSorted.f
    rw [awake10_up _ (by omega), Option.bind_some, if_pos rfl, h1, Option.bind_some, if_pos rfl]
  | false =>
    obtain ⟨h3, h4⟩ := h2 rfl
    obtain ⟨T, S⟩ := srt_is l
    obtain ⟨k, hk⟩ := sorted_l0 S (by omega) l.length 0 (List.replicate l.length false) (-1) (by omega) (List.length_replicate ..) (fun q hq => by
      rw [List.getD_eq_getElem?_getD, List.getElem?_replicate, if_pos hq]
      constructor
      · intro e; cases e
      · rintro ⟨j, hj, _⟩; omega) rfl
    refine ⟨k + 2000, ?_⟩
    obtain ⟨b', h1', h2'⟩ := long_is l (k + 2000) (by omega)
    have hk2 := up (F := fun k => paymasterlaw10_RowSorted.l0 k l (sortL rowKey l) (List.replicate l.length false) (-1) 0) (fun k => (paymasterlaw10_RowSorted.mono_l k).1 _ _ _ _ _) hk (k + 2000) (by omega)
    unfold paymasterlaw10_RowSorted.f
    rw [awake10_up _ (by omega), Option.bind_some, if_pos rfl, h1', Option.bind_some]
    cases b' with
    | true => rw [if_pos rfl]
    | false =>
      rw [if_neg (by decide), sort_f l (by omega), Option.bind_some, sort_len, if_pos rfl, sort_f _ (by rw [sort_len]; omega), S.again, Option.bind_some, same44_is _ (by rw [sort_len]; omega) _ (by rw [sort_len]; omega), Option.bind_some, if_pos rfl, if_pos (by omega), if_pos (by omega), Int.toNat_natCast]
      exact hk2
theorem rowSorted_walk {w : World} (A0 : Option Addr) (c0 : Nat) (l0 : List S44) (hr0 : k44.C w A0 l0.length l0) (hc0 : l0.length ≤ c0) (g0 : ∀ y ∈ l0, y.f0.size ≤ 9223372036854775807 ∧ U64 y.f1.f0 ∧ U64 y.f1.f1) (hG : GT w) :
    Calls Tryd.prog 4 #[.slice A0 l0.length c0] w fun e w' => e = .returned (.bool true) ∧ Below w.heap.size w w' := by
  obtain ⟨k, hk⟩ := rowSorted_pure l0
  exact paymasterlaw10_RowSorted.calls k A0 c0 l0 true w hr0 hc0 hG hk
end Go.Proofs.YtpkjpiphjdpegaaDoor.P
