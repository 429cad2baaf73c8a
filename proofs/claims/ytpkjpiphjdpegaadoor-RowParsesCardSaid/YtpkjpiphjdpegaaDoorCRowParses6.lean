/- A program of this session wrote this text out of the session's own texts. (part 6 of 6) -/
import Derived.Test.YtpkjpiphjdpegaaDoorCRowParses5
namespace Go.Proofs.YtpkjpiphjdpegaaDoor.P
open Go.RowKit Go.Proofs.YtpkjpiphjdpegaaDoorW.PrintWords Go.Proofs.YtpkjpiphjdpegaaDoorW.PrintLast Go.Proofs.YtpkjpiphjdpegaaDoorW.PrintMore
attribute [local go_sem] max2_int min2_int max_two min_two max_three min_three max_four min_four
set_option linter.unusedVariables false
set_option linter.unusedSimpArgs false
def row_Text.f (a0_0 : ByteArray) (a0_1 : Int) (a0_2 : Int) : Option (ByteArray × Int) := (tag_MayId.f a0_0).bind fun t603 => (if t603 = true then (if a0_0.size + 1 ≤ 9223372036854775807 then ((decimal_Text.f a0_1 a0_2).bind fun t604 => (if (a0_0 ++ (⟨#[32]⟩ : ByteArray)).size + t604.size ≤ 9223372036854775807 then (some ((a0_0 ++ (⟨#[32]⟩ : ByteArray)) ++ t604, 0)) else (none))) else (none)) else (some ((⟨#[]⟩ : ByteArray), 101)))
def row_Text.T3 : Bool × List (List Nat × List Nat) := (true, [([], []), ([0], [0]), ([1], [1]), ([], []), ([3], [3]), ([4], [4]), ([2, 5], [2, 5]), ([6, 5, 0, 1, 2, 3, 4, 5, 6], [6]), ([7, 0, 1, 2, 3, 4, 5, 6, 7], [])])
def row_Text.B3 : List Nat := [0, 1, 3, 0, 8, 24, 63, 127, 255]
theorem row_Text.tab3 : rtab .any (opsOf Tryd.f48 3) = row_Text.T3 := by kernel_rfl
theorem row_Text.bits3 : waitsOk row_Text.T3.2 row_Text.B3 = true := by kernel_rfl
set_option maxHeartbeats 8000000 in
set_option maxRecDepth 100000 in
theorem row_Text.calls (a0_0 : ByteArray) (a0_1 : Int) (a0_2 : Int) (r1 : ByteArray) (r2 : Int) (w : World) (hG : GT w) (h : row_Text.f a0_0 a0_1 a0_2 = some (r1, r2)) :
    Calls Tryd.prog 48 #[.agg #[.string a0_0, .int .u64 a0_1, .int .u64 a0_2]] w fun e w' => e = .returned (.tuple #[.string r1, .int .i64 r2]) ∧ Below w.heap.size w w' := by
  have hu44 := Tryd.underlying44
  have hu42 := Tryd.underlying42
  have HB := Aside0.mk (Below.refl w.heap.size w)
  have H : ((tag_MayId.f a0_0).bind fun t603 => (if t603 = true then (if a0_0.size + 1 ≤ 9223372036854775807 then ((decimal_Text.f a0_1 a0_2).bind fun t604 => (if (a0_0 ++ (⟨#[32]⟩ : ByteArray)).size + t604.size ≤ 9223372036854775807 then (some ((a0_0 ++ (⟨#[32]⟩ : ByteArray)) ++ t604, 0)) else (none))) else (none)) else (some ((⟨#[]⟩ : ByteArray), 101)))) = some (r1, r2) := h
  clear h
  replace H := Option.bind_eq_some_iff.mp H
  obtain ⟨t603, A20, H⟩ := H
  replace H : (if t603 = true then (if a0_0.size + 1 ≤ 9223372036854775807 then ((decimal_Text.f a0_1 a0_2).bind fun t604 => (if (a0_0 ++ (⟨#[32]⟩ : ByteArray)).size + t604.size ≤ 9223372036854775807 then (some ((a0_0 ++ (⟨#[32]⟩ : ByteArray)) ++ t604, 0)) else (none))) else (none)) else (some ((⟨#[]⟩ : ByteArray), 101))) = some (r1, r2) := H
  have A2 := Aside0.mk A20
  clear A20
  by_cases c3 : t603 = true
  · subst c3
    have H1 : (if a0_0.size + 1 ≤ 9223372036854775807 then ((decimal_Text.f a0_1 a0_2).bind fun t604 => (if (a0_0 ++ (⟨#[32]⟩ : ByteArray)).size + t604.size ≤ 9223372036854775807 then (some ((a0_0 ++ (⟨#[32]⟩ : ByteArray)) ++ t604, 0)) else (none))) else (none)) = some (r1, r2) := by rw [if_pos rfl] at H; exact H
    clear H
    have H := H1
    clear H1
    by_cases c4 : a0_0.size + 1 ≤ 9223372036854775807
    · rw [if_pos c4] at H
      have c4b0 := eq_true c4
      have c4b1 : decide (a0_0.size + 1 ≤ 9223372036854775807) = true := decide_eq_true c4
      try have c4b2 : (9223372036854775807 < a0_0.size + 1) = False := eq_false (Nat.not_lt.2 c4)
      replace H := Option.bind_eq_some_iff.mp H
      obtain ⟨t604, A50, H⟩ := H
      replace H : (if (a0_0 ++ (⟨#[32]⟩ : ByteArray)).size + t604.size ≤ 9223372036854775807 then (some ((a0_0 ++ (⟨#[32]⟩ : ByteArray)) ++ t604, 0)) else (none)) = some (r1, r2) := H
      have A5 := Aside0.mk A50
      clear A50
      by_cases c6 : (a0_0 ++ (⟨#[32]⟩ : ByteArray)).size + t604.size ≤ 9223372036854775807
      · rw [if_pos c6] at H
        have c6b0 := eq_true c6
        have c6b1 : decide ((a0_0 ++ (⟨#[32]⟩ : ByteArray)).size + t604.size ≤ 9223372036854775807) = true := decide_eq_true c6
        try have c6b2 : (9223372036854775807 < (a0_0 ++ (⟨#[32]⟩ : ByteArray)).size + t604.size) = False := eq_false (Nat.not_lt.2 c6)
        try have c6b3 : (9223372036854775807 < a0_0.size + 1 + t604.size) = False := eq_false (by have e_ := c6; repeat rw [ByteArray.size_append] at e_; exact Nat.not_lt.2 e_)
        simp only [Option.some.injEq, Prod.mk.injEq] at H
        obtain ⟨rfl, rfl⟩ := H
        go_enter Tryd.func48, Tryd.ntmps48
        try go_wp2_with (first | ((with_reducible refine gate_dst (N := 1) rfl ?_); refine box_event ?hg (N := 1) ?hd (cs := #[.string a0_0, .int .u64 a0_1, .int .u64 a0_2]) (t := 44) ?hr ?_; (case hd => rfl); (case hg => rfl); (case hr => first | (go_simp; done) | (go_simp; rfl)); intro gb602 hg w7 hbox hb; have n0_ := Aside0.mk (below_step (by repeat (first | (with_reducible first | exact HB.out | apply below_alloc | apply pw_below_drewN | apply below_drew1) | exact HB.out)) hb); have n1_ := Aside0.mk (hbox); have n2_ := Aside0.mk ((by rw [hg]; exact (below_size (by repeat (first | (with_reducible first | exact HB.out | apply below_alloc | apply pw_below_drewN | apply below_drew1) | exact HB.out))) : w.heap.size ≤ gb602)); have n3_ := Aside0.mk ((by rw [hg]; exact (below_size (by repeat (first | (with_reducible first | exact HB.out | apply below_alloc | apply pw_below_drewN | apply below_drew1) | exact HB.out))) : w.heap.size ≤ gb602)); clear HB; have HB := n0_; have BK602 := n1_; have GW602 := n2_; have GE602 := n3_; clear n0_ n1_ n2_ n3_; clear hb hbox hg; have hcz8_0 : w7.cell? ⟨gb602, 0, none⟩ = some (.string a0_0) := (blk_cell BK602.out 0).trans rfl; have hcz8_1 : w7.cell? ⟨gb602, 1, none⟩ = some (.int .u64 a0_1) := (blk_cell BK602.out 1).trans rfl; have hcz8_2 : w7.cell? ⟨gb602, 2, none⟩ = some (.int .u64 a0_2) := (blk_cell BK602.out 2).trans rfl; have hfz8_0 := blk_frozen BK602.out 0; have hfz8_1 := blk_frozen BK602.out 1; have hfz8_2 := blk_frozen BK602.out 2) | ((with_reducible refine gate_callee (f := 51) rfl ?_); refine goesL_ (some 6) rfl rfl Tryd.func51 (by kernel_rfl) rfl #[.string a0_0] rfl (by (try simp only [List.map_toArray, List.map_cons, List.map_nil]); first | done | rfl | (simp only [List.length_drop, List.length_take]; rfl)) ?_; (with_reducible refine (tag_MayId.calls a0_0 true _ ?side1 A2.out).mono ?_); (case side1 => exact gt_below hG (by repeat (first | (with_reducible first | exact HB.out | apply below_alloc | apply pw_below_drewN | apply below_drew1 | refine below_set ?_ GE602.out) | exact HB.out))); rintro e w9 ⟨rfl, hb⟩; refine ⟨_, rfl, ?_⟩; have n0_ := Aside0.mk (blk_below (g := gb602) (o := .cells #[.string a0_0, .int .u64 a0_1, .int .u64 a0_2] 44 (0, 0)) (by (with_reducible repeat (first | refine blk_drewN ?_ _ | refine blk_drew ?_ | refine blk_alloc ?_ _)); exact BK602.out) hb); have n1_ := Aside0.mk (below_step (by repeat (first | (with_reducible first | exact HB.out | apply below_alloc | apply pw_below_drewN | apply below_drew1 | refine below_set ?_ GE602.out) | exact HB.out)) hb); clear BK602; clear HB; have BK602 := n0_; have HB := n1_; clear n0_ n1_; (try clear hb); (try clear hb2); (try clear hk); (try clear hi)))
        have n0_ := Aside0.mk (blk_drew BK602.out)
        have n1_ := Aside0.mk (below_drew1 HB.out)
        clear BK602
        clear HB
        have BK602 := n0_
        have HB := n1_
        clear n0_ n1_
        refine start_ (n := 9) (S := fun w' => w'.cell? ⟨gb602, 0, none⟩ = some (.string a0_0) ∧ w'.cell? ⟨gb602, 1, none⟩ = some (.int .u64 a0_1) ∧ w'.cell? ⟨gb602, 2, none⟩ = some (.int .u64 a0_2)) (ds := []) #[false, false, false, false, false, false, false, false, false] (by kernel_rfl) rfl rfl ⟨(blk_cell BK602.out 0).trans rfl, (blk_cell BK602.out 1).trans rfl, (blk_cell BK602.out 2).trans rfl⟩ (fun hHeld => ?_); refine with_tabW row_Text.tab3 row_Text.bits3 (fun HT_ HW_ => ?_)
        generalize w9.drew = w10 at BK602 HB hHeld ⊢
        refine pure_ (i := 0) (N := some 8) (v := ?_) (a' := ?_) #[true, false, false, false, false, false, false, false, false] rfl rfl (any_of HT_.out (by kernel_rfl)) (fun _ _ _ h => h) (Or.inl ⟨by rfl, ?_⟩) ?_ ?_
        rotate_left
        · intro w'
          go_simp
          with_reducible rfl
        rotate_left
        · simp only [Act.put, List.setIfInBounds_toArray, List.set_cons_zero, List.set_cons_succ, i64_w, i32_w]
          rfl
        refine pure_ (i := 3) (N := some 11) (v := ?_) (a' := ?_) #[true, false, false, true, false, false, false, false, false] rfl rfl (any_of HT_.out (by kernel_rfl)) (fun _ _ _ h => h) (Or.inl ⟨by rfl, ?_⟩) ?_ ?_
        rotate_left
        · intro w'
          go_simp
          with_reducible rfl
        rotate_left
        · simp only [Act.put, List.setIfInBounds_toArray, List.set_cons_zero, List.set_cons_succ, i64_w, i32_w]
          rfl
        refine take_ (i := 1) (N := some 9) (v := ?_) (a' := ?_) #[true, true, false, true, false, false, false, false, false] rfl rfl (take_ofW HT_.out HW_.out (by kernel_rfl)) (fun _ _ _ h => h) (Or.inl ⟨by rfl, ?_⟩) hHeld ?_ ?_
        rotate_left
        · rintro w' ⟨s0, s1, s2⟩
          go_simp
          with_reducible rfl
        rotate_left
        · simp only [Act.put, List.setIfInBounds_toArray, List.set_cons_zero, List.set_cons_succ, i64_w, i32_w]
          rfl
        refine pure_ (i := 2) (N := some 10) (v := ?_) (a' := ?_) #[true, true, true, true, false, false, false, false, false] rfl rfl (any_of HT_.out (by kernel_rfl)) (fun _ _ _ h => h) (Or.inl ⟨by rfl, ?_⟩) ?_ ?_
        rotate_left
        · intro w'
          go_simp
          with_reducible rfl
        rotate_left
        · simp only [Act.put, List.setIfInBounds_toArray, List.set_cons_zero, List.set_cons_succ, i64_w, i32_w]
          rfl
        refine take_ (i := 4) (N := some 12) (v := ?_) (a' := ?_) #[true, true, true, true, true, false, false, false, false] rfl rfl (take_ofW HT_.out HW_.out (by kernel_rfl)) (fun _ _ _ h => h) (Or.inl ⟨by rfl, ?_⟩) hHeld ?_ ?_
        rotate_left
        · rintro w' ⟨s0, s1, s2⟩
          go_simp
          with_reducible rfl
        rotate_left
        · simp only [Act.put, List.setIfInBounds_toArray, List.set_cons_zero, List.set_cons_succ, i64_w, i32_w]
          rfl
        refine one_ (i := 5) (N := some 13) #[true, true, true, true, true, true, false, false, false] rfl rfl (one_of HT_.out (by kernel_rfl)) (by decide) (fun K hK => ?_)
        refine goes_ Tryd.func85 (by kernel_rfl) rfl #[.agg #[.int .u64 a0_1, .int .u64 a0_2]] (by rfl) rfl rfl (by (try simp only [List.map_toArray, List.map_cons, List.map_nil]); first | done | rfl | (simp only [List.length_drop, List.length_take]; rfl)) ?_
        with_reducible refine (decimal_Text.calls a0_1 a0_2 t604 _ A5.out).mono ?_
        rintro e w11 ⟨rfl, hb⟩
        refine ⟨_, rfl, ?_⟩
        have n0_ := Aside0.mk (blk_below (g := gb602) (o := .cells #[.string a0_0, .int .u64 a0_1, .int .u64 a0_2] 44 (0, 0)) (by (with_reducible repeat (first | refine blk_drewN ?_ _ | refine blk_drew ?_ | refine blk_alloc ?_ _)); exact BK602.out) hb)
        have n1_ := Aside0.mk (below_step (by repeat (first | (with_reducible first | exact HB.out | apply below_alloc | apply pw_below_drewN | apply below_drew1 | refine below_set ?_ GE602.out) | exact HB.out)) hb)
        clear BK602
        clear HB
        have BK602 := n0_
        have HB := n1_
        clear n0_ n1_
        (try clear hb)
        (try clear hb2)
        (try clear hk)
        (try clear hi)
        refine hK.out _ _ ⟨(blk_cell BK602.out 0).trans rfl, (blk_cell BK602.out 1).trans rfl, (blk_cell BK602.out 2).trans rfl⟩ (fun hHeld => ?_)
        clear hK K
        refine norm_ (a' := ?_) ?_ ?_
        rotate_left
        · show Act.put _ (some 13) _ = _
          simp only [Act.put, List.setIfInBounds_toArray, List.set_cons_zero, List.set_cons_succ, i64_w, i32_w]
          rfl
        refine pure_ (i := 6) (N := some 14) (v := ?_) (a' := ?_) #[true, true, true, true, true, true, true, false, false] rfl rfl (any_of HT_.out (by kernel_rfl)) (fun _ _ _ h => h) (Or.inl ⟨by rfl, ?_⟩) ?_ ?_
        rotate_left
        · intro w'
          go_simp
          with_reducible rfl
        rotate_left
        · simp only [Act.put, List.setIfInBounds_toArray, List.set_cons_zero, List.set_cons_succ, i64_w, i32_w]
          rfl
        refine pure_ (i := 7) (N := some 2) (v := ?_) (a' := ?_) #[true, true, true, true, true, true, true, true, false] rfl rfl (any_of HT_.out (by kernel_rfl)) (fun _ _ _ h => h) (Or.inl ⟨by rfl, ?_⟩) ?_ ?_
        rotate_left
        · intro w'
          go_simp
          with_reducible rfl
        rotate_left
        · simp only [Act.put, List.setIfInBounds_toArray, List.set_cons_zero, List.set_cons_succ, i64_w, i32_w]
          rfl
        refine pure_ (i := 8) (N := some 3) (v := ?_) (a' := ?_) #[true, true, true, true, true, true, true, true, true] rfl rfl (any_of HT_.out (by kernel_rfl)) (fun _ _ _ h => h) (Or.inl ⟨by rfl, ?_⟩) ?_ ?_
        rotate_left
        · intro w'
          go_simp
          with_reducible rfl
        rotate_left
        · simp only [Act.put, List.setIfInBounds_toArray, List.set_cons_zero, List.set_cons_succ, i64_w, i32_w]
          rfl
        refine done_ (done_of HT_.out (by kernel_rfl)) ?_
        try go_wp2
        go_ret2
        exact ⟨by first | rfl | (simp [errW_none, errW_some] <;> rfl) | (simp [*, errW_none, errW_some] <;> rfl), by repeat (first | (with_reducible first | exact HB.out | apply below_alloc | apply pw_below_drewN | apply below_drew1 | refine below_set ?_ GE602.out) | exact HB.out)⟩
      · rw [if_neg c6] at H
        exact absurd H (by simp)
    · rw [if_neg c4] at H
      exact absurd H (by simp)
  · replace c3 := Bool.eq_false_iff.mpr c3
    subst c3
    have H1 : (some ((⟨#[]⟩ : ByteArray), 101)) = some (r1, r2) := by rw [if_neg (show ¬ (false = true) by decide)] at H; exact H
    clear H
    have H := H1
    clear H1
    simp only [Option.some.injEq, Prod.mk.injEq] at H
    obtain ⟨rfl, rfl⟩ := H
    go_enter Tryd.func48, Tryd.ntmps48
    go_wp2_with (first | ((with_reducible refine gate_dst (N := 1) rfl ?_); refine box_event ?hg (N := 1) ?hd (cs := #[.string a0_0, .int .u64 a0_1, .int .u64 a0_2]) (t := 44) ?hr ?_; (case hd => rfl); (case hg => rfl); (case hr => first | (go_simp; done) | (go_simp; rfl)); intro gb602 hg w12 hbox hb; have n0_ := Aside0.mk (below_step (by repeat (first | (with_reducible first | exact HB.out | apply below_alloc | apply pw_below_drewN | apply below_drew1) | exact HB.out)) hb); have n1_ := Aside0.mk (hbox); have n2_ := Aside0.mk ((by rw [hg]; exact (below_size (by repeat (first | (with_reducible first | exact HB.out | apply below_alloc | apply pw_below_drewN | apply below_drew1) | exact HB.out))) : w.heap.size ≤ gb602)); have n3_ := Aside0.mk ((by rw [hg]; exact (below_size (by repeat (first | (with_reducible first | exact HB.out | apply below_alloc | apply pw_below_drewN | apply below_drew1) | exact HB.out))) : w.heap.size ≤ gb602)); clear HB; have HB := n0_; have BK602 := n1_; have GW602 := n2_; have GE602 := n3_; clear n0_ n1_ n2_ n3_; clear hb hbox hg; have hcz13_0 : w12.cell? ⟨gb602, 0, none⟩ = some (.string a0_0) := (blk_cell BK602.out 0).trans rfl; have hcz13_1 : w12.cell? ⟨gb602, 1, none⟩ = some (.int .u64 a0_1) := (blk_cell BK602.out 1).trans rfl; have hcz13_2 : w12.cell? ⟨gb602, 2, none⟩ = some (.int .u64 a0_2) := (blk_cell BK602.out 2).trans rfl; have hfz13_0 := blk_frozen BK602.out 0; have hfz13_1 := blk_frozen BK602.out 1; have hfz13_2 := blk_frozen BK602.out 2) | ((with_reducible refine gate_callee (f := 51) rfl ?_); refine goesL_ (some 6) rfl rfl Tryd.func51 (by kernel_rfl) rfl #[.string a0_0] rfl (by (try simp only [List.map_toArray, List.map_cons, List.map_nil]); first | done | rfl | (simp only [List.length_drop, List.length_take]; rfl)) ?_; (with_reducible refine (tag_MayId.calls a0_0 false _ ?side1 A2.out).mono ?_); (case side1 => exact gt_below hG (by repeat (first | (with_reducible first | exact HB.out | apply below_alloc | apply pw_below_drewN | apply below_drew1 | refine below_set ?_ GE602.out) | exact HB.out))); rintro e w14 ⟨rfl, hb⟩; refine ⟨_, rfl, ?_⟩; have n0_ := Aside0.mk (blk_below (g := gb602) (o := .cells #[.string a0_0, .int .u64 a0_1, .int .u64 a0_2] 44 (0, 0)) (by (with_reducible repeat (first | refine blk_drewN ?_ _ | refine blk_drew ?_ | refine blk_alloc ?_ _)); exact BK602.out) hb); have n1_ := Aside0.mk (below_step (by repeat (first | (with_reducible first | exact HB.out | apply below_alloc | apply pw_below_drewN | apply below_drew1 | refine below_set ?_ GE602.out) | exact HB.out)) hb); clear BK602; clear HB; have BK602 := n0_; have HB := n1_; clear n0_ n1_; (try clear hb); (try clear hb2); (try clear hk); (try clear hi)))
    go_ret2
    exact ⟨by first | rfl | (simp [errW_none, errW_some] <;> rfl) | (simp [*, errW_none, errW_some] <;> rfl), by repeat (first | (with_reducible first | exact HB.out | apply below_alloc | apply pw_below_drewN | apply below_drew1 | refine below_set ?_ GE602.out) | exact HB.out)⟩
end Go.Proofs.YtpkjpiphjdpegaaDoor.P
namespace Go.Proofs.YtpkjpiphjdpegaaDoor.P
open Go.RowKit Go.Proofs.YtpkjpiphjdpegaaDoorW.PrintWords Go.Proofs.YtpkjpiphjdpegaaDoorW.PrintLast Go.Proofs.YtpkjpiphjdpegaaDoorW.PrintMore
set_option linter.unusedVariables false
set_option linter.unusedSimpArgs false
theorem asc_byte (l : List Int) (h : Dig l) : ∀ x ∈ asc l, isByte x := by
  intro x hx
  obtain ⟨d, hd, rfl⟩ := List.mem_map.1 hx
  have := h d hd
  exact ⟨by omega, by omega⟩
end Go.Proofs.YtpkjpiphjdpegaaDoor.P
namespace Go.Proofs.YtpkjpiphjdpegaaDoor.P
open Go.RowKit Go.Proofs.YtpkjpiphjdpegaaDoorW.PrintWords Go.Proofs.YtpkjpiphjdpegaaDoorW.PrintLast Go.Proofs.YtpkjpiphjdpegaaDoorW.PrintMore
set_option linter.unusedVariables false
set_option linter.unusedSimpArgs false
def cutAt (c : UInt8) : List UInt8 → Option (List UInt8 × List UInt8)
  | [] => none
  | b :: l => if b = c then some ([], l) else (cutAt c l).map fun p => (b :: p.1, p.2)
theorem cutAt_app (c : UInt8) : ∀ (p r : List UInt8), (∀ b ∈ p, b ≠ c) → cutAt c (p ++ r) = (cutAt c r).map fun q => (p ++ q.1, q.2)
  | [], r, _ => by rw [List.nil_append]; cases cutAt c r <;> rfl
  | b :: p, r, h => by
    rw [List.cons_append, cutAt, if_neg (h b (List.mem_cons_self ..)), cutAt_app c p r fun x hx => h x (List.mem_cons_of_mem _ hx)]
    cases cutAt c r <;> rfl
theorem cutAt_clean (c : UInt8) (p : List UInt8) (h : ∀ b ∈ p, b ≠ c) : cutAt c p = none := by
  have := cutAt_app c p [] h
  rw [List.append_nil] at this
  rw [this]; rfl
theorem cutAt_some {c : UInt8} : ∀ {l h t : List UInt8}, cutAt c l = some (h, t) → l = h ++ c :: t ∧ ∀ b ∈ h, b ≠ c
  | [], h, t, e => by cases e
  | b :: l, h, t, e => by
    rw [cutAt] at e
    by_cases q : b = c
    · rw [if_pos q] at e
      cases e
      rw [q]
      exact ⟨rfl, by simp⟩
    · rw [if_neg q] at e
      cases k : cutAt c l with
      | none => rw [k] at e; cases e
      | some p =>
        rw [k] at e
        cases e
        obtain ⟨h', t'⟩ := p
        obtain ⟨e1, e2⟩ := cutAt_some k
        refine ⟨by rw [e1]; rfl, fun x hx => ?_⟩
        rcases List.mem_cons.1 hx with rfl | hx
        · exact q
        · exact e2 x hx
theorem cutAt_none {c : UInt8} : ∀ {l : List UInt8}, cutAt c l = none → ∀ b ∈ l, b ≠ c
  | [], _ => by simp
  | b :: l, e => by
    rw [cutAt] at e
    by_cases q : b = c
    · rw [if_pos q] at e; cases e
    · rw [if_neg q] at e
      cases k : cutAt c l with
      | none =>
        intro x hx
        rcases List.mem_cons.1 hx with rfl | hx
        · exact q
        · exact cutAt_none k x hx
      | some p => rw [k] at e; cases e
theorem index_clean (c : UInt8) : ∀ (l : List UInt8), (∀ b ∈ l, b ≠ c) → Lib.indexByte l c = -1
  | [], _ => rfl
  | b :: l, h => by
    have ih := index_clean c l fun x hx => h x (List.mem_cons_of_mem _ hx)
    rw [Lib.indexByte, if_neg (by simpa using h b (List.mem_cons_self ..)), ih]
    rfl
theorem index_cut (c : UInt8) : ∀ (h t : List UInt8), (∀ b ∈ h, b ≠ c) → Lib.indexByte (h ++ c :: t) c = (h.length : Int)
  | [], t, _ => by rw [List.nil_append, Lib.indexByte, if_pos (by simp)]; rfl
  | b :: h, t, k => by
    have ih := index_cut c h t fun x hx => k x (List.mem_cons_of_mem _ hx)
    rw [List.cons_append, Lib.indexByte, if_neg (by simpa using k b (List.mem_cons_self ..)), ih, if_neg (by simp), List.length_cons]
    push_cast
    rfl
theorem cut_is (l : List UInt8) (hs : l.length ≤ 1000000000) (c : UInt8) : strings_Cut.f (mk l) (⟨#[c]⟩ : ByteArray) = some (match cutAt c l with
    | none => (mk l, (⟨#[]⟩ : ByteArray), false)
    | some (h, t) => (mk h, mk t, true)) := by
  have ix : stringslite_Index.f (mk l) (⟨#[c]⟩ : ByteArray) = some (Lib.indexByte l c) := by
    unfold stringslite_Index.f
    rw [if_pos (show (⟨#[c]⟩ : ByteArray).data.toList.length = 1 from rfl), mk_list]
    rfl
  have h1 : ((⟨#[c]⟩ : ByteArray).size : Int) = 1 := rfl
  unfold strings_Cut.f stringslite_Cut.f
  rw [ix, Option.bind_some]
  cases k : cutAt c l with
  | none =>
    rw [index_clean c l (cutAt_none k), if_neg (by omega), Option.bind_some]
  | some p =>
    obtain ⟨h, t⟩ := p
    obtain ⟨e1, e2⟩ := cutAt_some k
    have ll : l.length = h.length + (t.length + 1) := by rw [e1, List.length_append, List.length_cons]
    have w1 : wrap64 ((h.length : Int) + 1) = ((h.length + 1 : Nat) : Int) := by unfold wrap64; push_cast; omega
    have ei : Lib.indexByte l c = (h.length : Int) := by rw [e1]; exact index_cut c h t e2
    rw [ei, if_pos (by omega), if_pos (by omega), mk_size, if_pos (by omega), h1, w1, if_pos (by omega), if_pos (by omega), Option.bind_some, Int.toNat_natCast, Int.toNat_natCast, extract_mk, extract_mk, List.drop_zero, List.take_length, e1]
    rw [List.take_left, show h ++ c :: t = (h ++ [c]) ++ t by simp, List.drop_left' (by simp)]
def parseRow (l : List UInt8) : ByteArray × Int × Int × Int := match cutAt 32 l with
  | none => ((⟨#[]⟩ : ByteArray), 0, 0, 100)
  | some (h, t) => if mayId (mk h) = true then (if (parseOf (nb (mk t))).2.2 = 0 then (mk h, (parseOf (nb (mk t))).1, (parseOf (nb (mk t))).2.1, 0) else ((⟨#[]⟩ : ByteArray), 0, 0, 102)) else ((⟨#[]⟩ : ByteArray), 0, 0, 101)
theorem mayId_f (s : ByteArray) (hs : s.size ≤ 1000000000) : tag_MayId.f s = some (mayId s) := if_pos hs
theorem parse_is (l : List UInt8) (hs : l.length ≤ 1000000000) : row_Parse.f (mk l) = some (parseRow l) := by
  unfold row_Parse.f parseRow
  rw [cut_is l hs, Option.bind_some]
  cases k : cutAt 32 l with
  | none =>
    dsimp only
    rw [parse_num _ (by show 0 ≤ _; omega), Option.bind_some, if_neg (by decide)]
  | some p =>
    obtain ⟨h, t⟩ := p
    obtain ⟨e1, e2⟩ := cutAt_some k
    have ll : l.length = h.length + (t.length + 1) := by rw [e1, List.length_append, List.length_cons]
    dsimp only
    rw [parse_num _ (by rw [mk_size]; omega), Option.bind_some, if_pos rfl, mayId_f _ (by rw [mk_size]; omega), Option.bind_some]
    by_cases m : mayId (mk h) = true
    · rw [if_pos m, if_pos m]
      by_cases e : (parseOf (nb (mk t))).2.2 = 0
      · rw [if_pos e, if_pos e]
      · rw [if_neg e, if_neg e]
    · rw [if_neg m, if_neg m]
def rowText (id : ByteArray) (a b : Int) : ByteArray × Int := if mayId id = true then ((id ++ (⟨#[32]⟩ : ByteArray)) ++ strOfNums (asc (dec (val a b))), 0) else ((⟨#[]⟩ : ByteArray), 101)
theorem dec_size (a b : Int) (ha : U64 a) (hb : U64 b) : (strOfNums (asc (dec (val a b)))).size ≤ 39 := by
  have v := val_range a b ha hb
  have d := (dec_facts (val a b) v.1 v.2).2.2.2
  have e : (strOfNums (asc (dec (val a b)))).size = (dec (val a b)).length := by
    rw [← nb_length, str_nb _ (asc_byte _ (dec_facts (val a b) v.1 v.2).2.1)]
    exact List.length_map ..
  omega
theorem sp_size (id : ByteArray) : (id ++ (⟨#[32]⟩ : ByteArray)).size = id.size + 1 := by rw [ByteArray.size_append]; rfl
theorem text_is (id : ByteArray) (a b : Int) (hs : id.size ≤ 1000000000) (ha : U64 a) (hb : U64 b) : row_Text.f id a b = some (rowText id a b) := by
  have d := dec_size a b ha hb
  have e := sp_size id
  unfold row_Text.f rowText
  rw [mayId_f id hs, Option.bind_some]
  by_cases m : mayId id = true
  · rw [if_pos m, if_pos m, if_pos (by omega), text_num a b ha hb, Option.bind_some, if_pos (by omega)]
  · rw [if_neg m, if_neg m]
end Go.Proofs.YtpkjpiphjdpegaaDoor.P
namespace Go.Proofs.YtpkjpiphjdpegaaDoor.P
open Go.RowKit Go.Proofs.YtpkjpiphjdpegaaDoorW.PrintWords Go.Proofs.YtpkjpiphjdpegaaDoorW.PrintLast Go.Proofs.YtpkjpiphjdpegaaDoorW.PrintMore
set_option linter.unusedVariables false
set_option linter.unusedSimpArgs false
theorem refWithin_is (c : Int) : paymasterref07_within.f c = some (withinR c) := by
  unfold paymasterref07_within.f withinR
  repeat' split
  all_goals first
    | exact congrArg some (decide_eq_true (by omega)).symm
    | exact congrArg some (decide_eq_decide.2 (by omega))
theorem refMayId_loop (s : ByteArray) (hs : s.size ≤ 1000000000) : ∀ (n p x : Nat), s.size ≤ p + n → x ≤ p → p ≤ s.size + 4 →
    paymasterref07_MayId.l0 (n + 11) s x p = some (Lib.validD (s.data.toList.drop p) && (runesAt s n p).all withinR && decide (1 ≤ x + (runesAt s n p).length ∧ x + (runesAt s n p).length ≤ 24))
  | n, p, x, h, hx, hp4 => by
    by_cases hp : p < s.size
    · obtain ⟨m, rfl⟩ : ∃ m, n = m + 1 := ⟨n - 1, by omega⟩
      have w1 := wide_pos s p hp
      have w4 := wide_4 s p
      have r1 := Lib.rune_le s p
      rw [paymasterref07_MayId.l0, if_pos (by omega), show m + 11 = (m + 1) + 10 from rfl, rune_is (m + 1) s p hp hs, Option.bind_some, runeR_is, valid_at s p hp]
      by_cases b : badAt s p
      · have e : decR (Utf8.decode s p) = (0, 0) := by unfold decR; rw [if_pos b]
        rw [e, if_pos b, if_pos rfl]
        rfl
      · have e : decR (Utf8.decode s p) = (((Utf8.decode s p).1 : Int), ((Utf8.decode s p).2 : Int)) := by unfold decR; rw [if_neg b]
        rw [e, if_neg b, if_neg (show ¬ (((Utf8.decode s p).2 : Nat) : Int) = 0 by omega), refWithin_is, Option.bind_some, runesAt, if_pos hp, List.all_cons]
        have wp : wrap64 ((p : Int) + (((Utf8.decode s p).2 : Nat) : Int)) = ((p + (Utf8.decode s p).2 : Nat) : Int) := by rw [wrap64_in _ (by omega)]; push_cast; rfl
        have wx : wrap64 ((x : Int) + 1) = ((x + 1 : Nat) : Int) := by rw [wrap64_in _ (by omega)]; push_cast; rfl
        by_cases c : withinR (((Utf8.decode s p).1 : Nat) : Int) = true
        · rw [if_pos c, wp, wx, show m + 1 + 10 = m + 11 by omega, refMayId_loop s hs m (p + (Utf8.decode s p).2) (x + 1) (by omega) (by omega) (by omega), c, Bool.true_and, List.length_cons]
          congr 2
          rw [decide_eq_decide]
          omega
        · rw [if_neg c]
          have c' : withinR (((Utf8.decode s p).1 : Nat) : Int) = false := by simpa using c
          rw [c', Bool.false_and, Bool.and_false, Bool.false_and]
    · rw [paymasterref07_MayId.l0, if_neg (by omega), valid_end s p hp, runesAt_end s n p hp]
      simp only [List.all_nil, Bool.and_self, Bool.true_and, List.length_nil, Nat.add_zero]
      by_cases c : (x : Int) ≥ 1
      · rw [if_pos c]
        exact congrArg some (decide_eq_decide.2 (by omega))
      · rw [if_neg c, decide_eq_false (by omega)]
theorem refMayId_is (s : ByteArray) (hs : s.size ≤ 1000000000) (k : Nat) (hk : s.size + 11 ≤ k) : paymasterref07_MayId.f k s = some (mayId s) := by
  refine up (F := fun k => paymasterref07_MayId.f k s) (paymasterref07_MayId.mono s) (a := s.size + 11) ?_ k hk
  have := refMayId_loop s hs s.size 0 0 (by omega) (Nat.le_refl _) (by omega)
  unfold paymasterref07_MayId.f
  rw [show (((0 : Nat) : Int)) = 0 from rfl] at this
  rw [this]
  unfold mayId
  rw [List.drop_zero, Nat.zero_add]
end Go.Proofs.YtpkjpiphjdpegaaDoor.P
namespace Go.Proofs.YtpkjpiphjdpegaaDoor.P
open Go.RowKit Go.Proofs.YtpkjpiphjdpegaaDoorW.PrintWords Go.Proofs.YtpkjpiphjdpegaaDoorW.PrintLast Go.Proofs.YtpkjpiphjdpegaaDoorW.PrintMore
attribute [local go_sem] max2_int min2_int max_two min_two max_three min_three max_four min_four
set_option linter.unusedVariables false
set_option linter.unusedSimpArgs false
def paymasterref10_Parse.l0 : Nat → ByteArray → Int → Option (ByteArray × Int × Int × Int)
  | 0, _, _ => none
  | k + 1, x0, x4 => if x4 < (x0.size : Int) then (if 0 ≤ x4 then (if (bt x0 x4) = 32 then (if x4 ≤ (x0.size : Int) then ((paymasterref07_MayId.f k (x0.extract 0 (x4 : Int).toNat)).bind fun t449 => (if t449 = true then (if 0 ≤ (wrap64 (x4 + 1)) then (if (wrap64 (x4 + 1)) ≤ (x0.size : Int) then ((paymasterref02_Parse.f k (x0.extract ((wrap64 (x4 + 1)) : Int).toNat x0.size)).bind fun bt450 => (if bt450.2.2 = 0 then (some (x0.extract 0 (x4 : Int).toNat, bt450.1, bt450.2.1, 0)) else (some ((⟨#[]⟩ : ByteArray), 0, 0, 102)))) else (none)) else (none)) else (some ((⟨#[]⟩ : ByteArray), 0, 0, 101)))) else (none)) else (paymasterref10_Parse.l0 k x0 (wrap64 (x4 + 1)))) else (none)) else (some ((⟨#[]⟩ : ByteArray), 0, 0, 100))
def paymasterref10_Parse.f (k : Nat) (a0 : ByteArray) : Option (ByteArray × Int × Int × Int) := paymasterref10_Parse.l0 k a0 0
set_option maxHeartbeats 8000000 in
set_option maxRecDepth 100000 in
theorem paymasterref10_Parse.calls (k : Nat) (a0 : ByteArray) (r1 : ByteArray) (r2 : Int) (r3 : Int) (r4 : Int) (w : World) (h : paymasterref10_Parse.f k a0 = some (r1, r2, r3, r4)) :
    Calls Tryd.prog 44 #[.string a0] w fun e w' => e = .returned (.tuple #[.agg #[.string r1, .int .u64 r2, .int .u64 r3], .int .i64 r4]) ∧ Below w.heap.size w w' := by
  have hu44 := Tryd.underlying44
  have hu42 := Tryd.underlying42
  have HB := Aside0.mk (Below.refl w.heap.size w)
  have H : (paymasterref10_Parse.l0 k a0 0) = some (r1, r2, r3, r4) := h
  clear h
  have H' := Aside0.mk H
  clear H
  go_enter Tryd.func44, Tryd.ntmps44
  go_wp2_with (first | ((with_reducible refine gate_dst (N := 2) rfl ?_); refine box_event ?hg (N := 2) ?hd (cs := #[.string (⟨#[]⟩ : ByteArray), .int .u64 0, .int .u64 0]) (t := 44) ?hr ?_; (case hd => rfl); (case hg => rfl); (case hr => first | (go_simp; done) | (go_simp; rfl)); intro gb448 hg w2 hbox hb; have n0_ := Aside0.mk (below_step (by repeat (first | (with_reducible first | exact HB.out | apply below_alloc | apply pw_below_drewN | apply below_drew1) | exact HB.out)) hb); have n1_ := Aside0.mk (hbox); have n2_ := Aside0.mk ((by rw [hg]; exact (below_size (by repeat (first | (with_reducible first | exact HB.out | apply below_alloc | apply pw_below_drewN | apply below_drew1) | exact HB.out))) : w.heap.size ≤ gb448)); have n3_ := Aside0.mk ((by rw [hg]; exact (below_size (by repeat (first | (with_reducible first | exact HB.out | apply below_alloc | apply pw_below_drewN | apply below_drew1) | exact HB.out))) : w.heap.size ≤ gb448)); clear HB; have HB := n0_; have BK448 := n1_; have GW448 := n2_; have GE448 := n3_; clear n0_ n1_ n2_ n3_; clear hb hbox hg))
  go_loopg [4] k (fun kq v4 w' => ∃ (x4_1 : Int) (x449000_1 : ByteArray) (x449001_1 : Int) (x449002_1 : Int), v4 = .int .i64 x4_1 ∧ Aside0 (paymasterref10_Parse.l0 kq a0 x4_1 = some (r1, r2, r3, r4)) ∧ Aside0 (kq ≤ k) ∧ Aside0 (w'.heap[gb448]? = some (.cells #[.string x449000_1, .int .u64 x449001_1, .int .u64 x449002_1] 44 (0, 0))) ∧ Aside0 (Below w.heap.size w w'))
  case atStart => exact ⟨(0), ((⟨#[]⟩ : ByteArray)), (0), (0), (by first | rfl | (simp; done) | (simp [*]; done)), H', ⟨Nat.le_refl _⟩, ⟨by (with_reducible repeat (first | refine blk_drewN ?_ _ | refine blk_drew ?_ | refine blk_alloc ?_ _)); exact BK448.out⟩, ⟨by repeat (first | (with_reducible first | exact HB.out | apply below_alloc | apply pw_below_drewN | apply below_drew1 | refine below_set ?_ GE448.out) | exact HB.out)⟩⟩
  case round =>
    clear H'
    try clear p2
    obtain ⟨x4_1, x449000_1, x449001_1, x449002_1, rfl, HA, HK1, BK448, HB⟩ := hrel
    cases gk with
    | zero => exact absurd HA.out (by simp [paymasterref10_Parse.l0])
    | succ k1 =>
      have H := HA.out
      clear HA
      simp only [paymasterref10_Parse.l0] at H
      by_cases c3 : x4_1 < (a0.size : Int)
      · rw [if_pos c3] at H
        have c3b0 : decide (x4_1 < (a0.size : Int)) = true := decide_eq_true c3
        clear c3
        by_cases c4 : 0 ≤ x4_1
        · rw [if_pos c4] at H
          have c4b0 : decide (0 ≤ x4_1) = true := decide_eq_true c4
          clear c4
          by_cases c6 : (bt a0 x4_1) = 32
          · rw [if_pos c6] at H
            have c6b0 : ((bt a0 x4_1) == 32) = true := beq_iff_eq.mpr c6
            have c6b1 : ((bt a0 x4_1) != 32) = false := bne_eq_false_iff_eq.mpr c6
            clear c6
            have c7b0 := eq_true (of_decide_eq_true (by first | (with_reducible assumption) | assumption) : 0 ≤ x4_1)
            by_cases c8 : x4_1 ≤ (a0.size : Int)
            · rw [if_pos c8] at H
              have c8b0 := eq_true c8
              have c8b1 : decide (x4_1 ≤ (a0.size : Int)) = true := decide_eq_true c8
              clear c8
              replace H := Option.bind_eq_some_iff.mp H
              obtain ⟨t449, A90, H⟩ := H
              replace H : (if t449 = true then (if 0 ≤ (wrap64 (x4_1 + 1)) then (if (wrap64 (x4_1 + 1)) ≤ (a0.size : Int) then ((paymasterref02_Parse.f k1 (a0.extract ((wrap64 (x4_1 + 1)) : Int).toNat a0.size)).bind fun bt450 => (if bt450.2.2 = 0 then (some (a0.extract 0 (x4_1 : Int).toNat, bt450.1, bt450.2.1, 0)) else (some ((⟨#[]⟩ : ByteArray), 0, 0, 102)))) else (none)) else (none)) else (some ((⟨#[]⟩ : ByteArray), 0, 0, 101))) = some (r1, r2, r3, r4) := H
              have A9 := Aside0.mk A90
              clear A90
              by_cases c10 : t449 = true
              · subst c10
                have H1 : (if 0 ≤ (wrap64 (x4_1 + 1)) then (if (wrap64 (x4_1 + 1)) ≤ (a0.size : Int) then ((paymasterref02_Parse.f k1 (a0.extract ((wrap64 (x4_1 + 1)) : Int).toNat a0.size)).bind fun bt450 => (if bt450.2.2 = 0 then (some (a0.extract 0 (x4_1 : Int).toNat, bt450.1, bt450.2.1, 0)) else (some ((⟨#[]⟩ : ByteArray), 0, 0, 102)))) else (none)) else (none)) = some (r1, r2, r3, r4) := by rw [if_pos rfl] at H; exact H
                clear H
                have H := H1
                clear H1
                obtain ⟨ji11, hji11⟩ : ∃ j_ : Int, (wrap64 (x4_1 + 1)) = j_ := ⟨_, rfl⟩
                replace H : (if 0 ≤ (ji11) then (if (ji11) ≤ (a0.size : Int) then ((paymasterref02_Parse.f k1 (a0.extract ((ji11) : Int).toNat a0.size)).bind fun bt450 => (if bt450.2.2 = 0 then (some (a0.extract 0 (x4_1 : Int).toNat, bt450.1, bt450.2.1, 0)) else (some ((⟨#[]⟩ : ByteArray), 0, 0, 102)))) else (none)) else (none)) = some (r1, r2, r3, r4) := by first | (rw [hji11] at H; exact H) | (simp only [hji11] at H ⊢; exact H)
                (try rw [hji11] at A9)
                have hji11w : (IntKind.i64.wrap (x4_1 + 1)) = ji11 := (i64_w _).trans hji11
                by_cases c12 : 0 ≤ (ji11)
                · rw [if_pos c12] at H
                  have c12b0 := eq_true c12
                  have c12b1 : decide (0 ≤ (ji11)) = true := decide_eq_true c12
                  clear c12
                  by_cases c13 : (ji11) ≤ (a0.size : Int)
                  · rw [if_pos c13] at H
                    have c13b0 := eq_true c13
                    have c13b1 : decide ((ji11) ≤ (a0.size : Int)) = true := decide_eq_true c13
                    clear c13
                    replace H := Option.bind_eq_some_iff.mp H
                    obtain ⟨⟨t450, t451, t452⟩, A140, H⟩ := H
                    replace H : (if t452 = 0 then (some (a0.extract 0 (x4_1 : Int).toNat, t450, t451, 0)) else (some ((⟨#[]⟩ : ByteArray), 0, 0, 102))) = some (r1, r2, r3, r4) := H
                    have A14 := Aside0.mk A140
                    clear A140
                    by_cases c15 : t452 = 0
                    · rw [if_pos c15] at H
                      have c15b0 : (t452 == 0) = true := beq_iff_eq.mpr c15
                      have c15b1 : (t452 != 0) = false := bne_eq_false_iff_eq.mpr c15
                      clear c15
                      have c16b0 := eq_true (of_decide_eq_true (by first | (with_reducible assumption) | assumption) : 0 ≤ x4_1)
                      have c17b0 := eq_true (of_decide_eq_true (by first | (with_reducible assumption) | assumption) : x4_1 ≤ (a0.size : Int))
                      simp only [Option.some.injEq, Prod.mk.injEq] at H
                      obtain ⟨rfl, rfl, rfl, rfl⟩ := H
                      have p5 : 0 ≤ (x4_1 : Int) := of_decide_eq_true (by first | (with_reducible assumption) | assumption)
                      have q5 : x4_1 < (a0.size : Int) := of_decide_eq_true (by first | (with_reducible assumption) | assumption)
                      have hx5 := bt_at a0 x4_1
                      replace p5 := eq_true p5
                      replace q5 := eq_true q5
                      try go_wp2_with (first | ((with_reducible refine gate_callee (f := 81) rfl ?_); refine goesL_ (some 20) rfl rfl Tryd.func81 (by kernel_rfl) rfl #[.string (a0.extract 0 (x4_1 : Int).toNat)] rfl (by (try simp only [List.map_toArray, List.map_cons, List.map_nil]); first | done | rfl | (simp only [List.length_drop, List.length_take]; rfl)) ?_; (with_reducible refine (paymasterref07_MayId.calls k1 (a0.extract 0 (x4_1 : Int).toNat) true _ A9.out).mono ?_); rintro e w' ⟨rfl, ⟨nd, rfl⟩⟩; refine ⟨_, rfl, ?_⟩; (try (rw [drewN_self wr]; generalize hq_ : World.drewN wr _ = wr; have n0_ : Aside0 (wr.heap[gb448]? = some (.cells #[.string x449000_1, .int .u64 x449001_1, .int .u64 x449002_1] 44 (0, 0))) := ⟨by rw [← hq_]; exact (by (with_reducible repeat (first | refine blk_drewN ?_ _ | refine blk_drew ?_ | refine blk_alloc ?_ _)); exact BK448.out)⟩; have n1_ : Aside0 (Below w.heap.size w wr) := ⟨by rw [← hq_]; exact (by repeat (first | (with_reducible first | exact HB.out | apply below_alloc | apply pw_below_drewN | apply below_drew1 | refine below_set ?_ GE448.out) | exact HB.out))⟩; clear BK448 HB hq_; have BK448 := n0_; have HB := n1_; clear n0_ n1_))) | ((with_reducible refine gate_callee (f := 82) rfl ?_); refine goesL_ (some 28) rfl rfl Tryd.func82 (by kernel_rfl) rfl #[.string (a0.extract ((ji11) : Int).toNat a0.size)] rfl (by (try simp only [List.map_toArray, List.map_cons, List.map_nil]); first | done | (simp only [hji11]; rfl) | rfl | (simp only [List.length_drop, List.length_take]; rfl)) ?_; (with_reducible refine (paymasterref02_Parse.calls k1 (a0.extract ((ji11) : Int).toNat a0.size) t450 t451 t452 _ A14.out).mono ?_); rintro e w18 ⟨rfl, hb⟩; refine ⟨_, rfl, ?_⟩; have n0_ := Aside0.mk (blk_below (g := gb448) (o := .cells #[.string x449000_1, .int .u64 x449001_1, .int .u64 x449002_1] 44 (0, 0)) (by (with_reducible repeat (first | refine blk_drewN ?_ _ | refine blk_drew ?_ | refine blk_alloc ?_ _)); exact BK448.out) hb); have n1_ := Aside0.mk (below_step (by repeat (first | (with_reducible first | exact HB.out | apply below_alloc | apply pw_below_drewN | apply below_drew1 | refine below_set ?_ GE448.out) | exact HB.out)) hb); clear BK448; clear HB; have BK448 := n0_; have HB := n1_; clear n0_ n1_; (try clear hb); (try clear hb2); (try clear hk); (try clear hi)) | ((with_reducible refine gate_dst (N := 5) rfl ?_); refine box_event ?hg (N := 5) ?hd (cs := #[.int .u64 0, .int .u64 0]) (t := 42) ?hr ?_; (case hd => rfl); (case hg => rfl); (case hr => first | (go_simp; done) | (go_simp; rfl)); intro gb453 hg w19 hbox hb; have n0_ := Aside0.mk (blk_below (g := gb448) (o := .cells #[.string x449000_1, .int .u64 x449001_1, .int .u64 x449002_1] 44 (0, 0)) (by (with_reducible repeat (first | refine blk_drewN ?_ _ | refine blk_drew ?_ | refine blk_alloc ?_ _)); exact BK448.out) hb); have n1_ := Aside0.mk (below_step (by repeat (first | (with_reducible first | exact HB.out | apply below_alloc | apply pw_below_drewN | apply below_drew1 | refine below_set ?_ GE448.out) | exact HB.out)) hb); have n2_ := Aside0.mk (hbox); have n3_ := Aside0.mk ((by rw [hg]; exact (below_size (by repeat (first | (with_reducible first | exact HB.out | apply below_alloc | apply pw_below_drewN | apply below_drew1 | refine below_set ?_ GE448.out) | exact HB.out))) : w.heap.size ≤ gb453)); have n4_ := Aside0.mk ((by rw [hg]; exact (below_size (by repeat (first | (with_reducible first | exact HB.out | apply below_alloc | apply pw_below_drewN | apply below_drew1 | refine below_set ?_ GE448.out) | exact HB.out))) : w.heap.size ≤ gb453)); have n5_ := Aside0.mk ((by rw [hg]; exact Nat.ne_of_lt (blk_lt (g := gb448) (o := .cells #[.string x449000_1, .int .u64 x449001_1, .int .u64 x449002_1] 44 (0, 0)) (by (with_reducible repeat (first | refine blk_drewN ?_ _ | refine blk_drew ?_ | refine blk_alloc ?_ _)); exact BK448.out)) : gb448 ≠ gb453)); have n6_ := Aside0.mk ((by rw [hg]; exact Nat.ne_of_gt (blk_lt (g := gb448) (o := .cells #[.string x449000_1, .int .u64 x449001_1, .int .u64 x449002_1] 44 (0, 0)) (by (with_reducible repeat (first | refine blk_drewN ?_ _ | refine blk_drew ?_ | refine blk_alloc ?_ _)); exact BK448.out)) : gb453 ≠ gb448)); clear BK448; clear HB; have BK448 := n0_; have HB := n1_; have BK453 := n2_; have GW453 := n3_; have GE453 := n4_; have NB448_453 := n5_; have NB453_448 := n6_; clear n0_ n1_ n2_ n3_ n4_ n5_ n6_; clear hb hbox hg; have hnb20 := NB453_448.out; have hnc20 := NB448_453.out; have hcz21_0 : w19.cell? ⟨gb453, 0, none⟩ = some (.int .u64 0) := (blk_cell BK453.out 0).trans rfl; have hcz21_1 : w19.cell? ⟨gb453, 1, none⟩ = some (.int .u64 0) := (blk_cell BK453.out 1).trans rfl; have hfz21_0 := blk_frozen BK453.out 0; have hfz21_1 := blk_frozen BK453.out 1))
                      have n0_ : Aside0 (((w19.setCell ⟨gb453, 0, none⟩ (.int .u64 t450)).setCell ⟨gb453, 1, none⟩ (.int .u64 t451)).heap[gb448]? = some (.cells #[.string x449000_1, .int .u64 x449001_1, .int .u64 x449002_1] 44 (0, 0))) := ⟨by (with_reducible repeat (first | refine blk_drewN ?_ _ | refine blk_drew ?_ | refine blk_alloc ?_ _)); refine blk_far ?_ NB448_453.out _; (with_reducible repeat (first | refine blk_drewN ?_ _ | refine blk_drew ?_ | refine blk_alloc ?_ _)); refine blk_far ?_ NB448_453.out _; (with_reducible repeat (first | refine blk_drewN ?_ _ | refine blk_drew ?_ | refine blk_alloc ?_ _)); exact BK448.out⟩
                      have n1_ : Aside0 (((w19.setCell ⟨gb453, 0, none⟩ (.int .u64 t450)).setCell ⟨gb453, 1, none⟩ (.int .u64 t451)).heap[gb453]? = some (.cells #[.int .u64 t450, .int .u64 t451] 42 (0, 0))) := ⟨by (with_reducible repeat (first | refine blk_drewN ?_ _ | refine blk_drew ?_ | refine blk_alloc ?_ _)); refine blk_put (cs := #[.int .u64 t450, .int .u64 0]) ?_ 1 _ rfl; (with_reducible repeat (first | refine blk_drewN ?_ _ | refine blk_drew ?_ | refine blk_alloc ?_ _)); refine blk_put (cs := #[.int .u64 0, .int .u64 0]) ?_ 0 _ rfl; (with_reducible repeat (first | refine blk_drewN ?_ _ | refine blk_drew ?_ | refine blk_alloc ?_ _)); exact BK453.out⟩
                      have n2_ : Aside0 (Below w.heap.size w ((w19.setCell ⟨gb453, 0, none⟩ (.int .u64 t450)).setCell ⟨gb453, 1, none⟩ (.int .u64 t451))) := ⟨by repeat (first | (with_reducible first | exact HB.out | apply below_alloc | apply pw_below_drewN | apply below_drew1 | refine below_set ?_ GE448.out | refine below_set ?_ GE453.out) | exact HB.out)⟩
                      (try clear BK448)
                      (try clear BK453)
                      (try clear HB)
                      generalize ((w19.setCell ⟨gb453, 0, none⟩ (.int .u64 t450)).setCell ⟨gb453, 1, none⟩ (.int .u64 t451)) = w22 at n0_ n1_ n2_ ⊢
                      have BK448 := n0_
                      have BK453 := n1_
                      have HB := n2_
                      clear n0_ n1_ n2_
                      have n0_ := Aside0.mk (blk_drew BK448.out)
                      have n1_ := Aside0.mk (blk_drew BK453.out)
                      have n2_ := Aside0.mk (below_drew1 HB.out)
                      clear BK448
                      clear BK453
                      clear HB
                      have BK448 := n0_
                      have BK453 := n1_
                      have HB := n2_
                      clear n0_ n1_ n2_
                      refine start_ (n := 7) (S := fun w' => w'.cell? ⟨gb453, 0, none⟩ = some (.int .u64 t450) ∧ w'.cell? ⟨gb453, 1, none⟩ = some (.int .u64 t451)) (ds := []) #[false, false, false, false, false, false, false] (by kernel_rfl) rfl rfl ⟨(blk_cell BK453.out 0).trans rfl, (blk_cell BK453.out 1).trans rfl⟩ (fun hHeld => ?_)
                      generalize w22.drew = w23 at BK448 BK453 HB hHeld ⊢
                      refine pure_ (i := 0) (N := some 34) (v := ?_) (a' := ?_) #[true, false, false, false, false, false, false] rfl rfl (by kernel_rfl) (fun _ _ _ h => h) (Or.inl ⟨by rfl, ?_⟩) ?_ ?_
                      rotate_left
                      · intro w'
                        go_simp
                        with_reducible rfl
                      rotate_left
                      · simp only [Act.put, List.setIfInBounds_toArray, List.set_cons_zero, List.set_cons_succ, i64_w, i32_w]
                        rfl
                      refine pure_ (i := 1) (N := some 35) (v := ?_) (a' := ?_) #[true, true, false, false, false, false, false] rfl rfl (by kernel_rfl) (fun _ _ _ h => h) (Or.inl ⟨by rfl, ?_⟩) ?_ ?_
                      rotate_left
                      · intro w'
                        go_simp
                        with_reducible rfl
                      rotate_left
                      · simp only [Act.put, List.setIfInBounds_toArray, List.set_cons_zero, List.set_cons_succ, i64_w, i32_w]
                        rfl
                      refine pure_ (i := 2) (N := some 36) (v := ?_) (a' := ?_) #[true, true, true, false, false, false, false] rfl rfl (by kernel_rfl) (fun _ _ _ h => h) (Or.inl ⟨by rfl, ?_⟩) ?_ ?_
                      rotate_left
                      · intro w'
                        go_simp
                        with_reducible rfl
                      rotate_left
                      · simp only [Act.put, List.setIfInBounds_toArray, List.set_cons_zero, List.set_cons_succ, i64_w, i32_w]
                        rfl
                      refine take_ (i := 3) (N := some 37) (v := ?_) (a' := ?_) #[true, true, true, true, false, false, false] rfl rfl (by kernel_rfl) (fun _ _ _ h => h) (Or.inl ⟨by rfl, ?_⟩) hHeld ?_ ?_
                      rotate_left
                      · rintro w' ⟨s0, s1⟩
                        go_simp
                        with_reducible rfl
                      rotate_left
                      · simp only [Act.put, List.setIfInBounds_toArray, List.set_cons_zero, List.set_cons_succ, i64_w, i32_w]
                        rfl
                      refine pure_ (i := 4) (N := some 38) (v := ?_) (a' := ?_) #[true, true, true, true, true, false, false] rfl rfl (by kernel_rfl) (fun _ _ _ h => h) (Or.inl ⟨by rfl, ?_⟩) ?_ ?_
                      rotate_left
                      · intro w'
                        go_simp
                        with_reducible rfl
                      rotate_left
                      · simp only [Act.put, List.setIfInBounds_toArray, List.set_cons_zero, List.set_cons_succ, i64_w, i32_w]
                        rfl
                      refine one_ (i := 5) (N := none) #[true, true, true, true, true, true, false] rfl rfl (by kernel_rfl) (by decide) (fun K hK => ?_)
                      have hs24 : w23.cell? ⟨gb448, 0, none⟩ = some (.string x449000_1) := (blk_cell BK448.out 0).trans rfl
                      have hfs24 := blk_frozen BK448.out 0
                      have hns24_1 := NB453_448.out
                      have hms24_1 := NB448_453.out
                      have hs25 : w23.cell? ⟨gb448, 1, none⟩ = some (.int .u64 x449001_1) := (blk_cell BK448.out 1).trans rfl
                      have hfs25 := blk_frozen BK448.out 1
                      have hns25_1 := NB453_448.out
                      have hms25_1 := NB448_453.out
                      have hs26 : w23.cell? ⟨gb448, 2, none⟩ = some (.int .u64 x449002_1) := (blk_cell BK448.out 2).trans rfl
                      have hfs26 := blk_frozen BK448.out 2
                      have hns26_1 := NB453_448.out
                      have hms26_1 := NB448_453.out
                      refine skip_ (w1 := ?_) (by rfl) rfl ?_ ?_
                      rotate_left
                      · go_simp
                        rfl
                      refine hK.out _ _ ⟨((cell_far (p := ⟨gb448, _, none⟩) NB453_448.out _).trans (((cell_far (p := ⟨gb448, _, none⟩) NB453_448.out _).trans (((cell_far (p := ⟨gb448, _, none⟩) NB453_448.out _).trans (hHeld.1)))))), ((cell_far (p := ⟨gb448, _, none⟩) NB453_448.out _).trans (((cell_far (p := ⟨gb448, _, none⟩) NB453_448.out _).trans (((cell_far (p := ⟨gb448, _, none⟩) NB453_448.out _).trans (hHeld.2))))))⟩ (fun hHeld => ?_)
                      clear hK K
                      refine pure_ (i := 6) (N := some 3) (v := ?_) (a' := ?_) #[true, true, true, true, true, true, true] rfl rfl (by kernel_rfl) (fun _ _ _ h => h) (Or.inl ⟨by rfl, ?_⟩) ?_ ?_
                      rotate_left
                      · intro w'
                        go_simp
                        with_reducible rfl
                      rotate_left
                      · simp only [Act.put, List.setIfInBounds_toArray, List.set_cons_zero, List.set_cons_succ, i64_w, i32_w]
                        rfl
                      refine done_ (by kernel_rfl) ?_
                      try go_wp2
                      refine bodyPost_ret (results_ct rfl _ _ gb448 44 #[.string (a0.extract 0 (x4_1 : Int).toNat), .int .u64 t450, .int .u64 t451] (0, 0) _ rfl (by (with_reducible repeat (first | refine blk_drewN ?_ _ | refine blk_drew ?_ | refine blk_alloc ?_ _)); refine blk_put (cs := #[.string (a0.extract 0 (x4_1 : Int).toNat), .int .u64 t450, .int .u64 x449002_1]) ?_ 2 _ rfl; (with_reducible repeat (first | refine blk_drewN ?_ _ | refine blk_drew ?_ | refine blk_alloc ?_ _)); refine blk_put (cs := #[.string (a0.extract 0 (x4_1 : Int).toNat), .int .u64 x449001_1, .int .u64 x449002_1]) ?_ 1 _ rfl; (with_reducible repeat (first | refine blk_drewN ?_ _ | refine blk_drew ?_ | refine blk_alloc ?_ _)); refine blk_put (cs := #[.string x449000_1, .int .u64 x449001_1, .int .u64 x449002_1]) ?_ 0 _ rfl; (with_reducible repeat (first | refine blk_drewN ?_ _ | refine blk_drew ?_ | refine blk_alloc ?_ _)); exact BK448.out) Tryd.underlying44 rfl (by kernel_rfl)) rfl ?_
                      exact ⟨by first | rfl | (simp [errW_none, errW_some] <;> rfl) | (simp only [← hji11]; first | rfl | (simp [errW_none, errW_some] <;> rfl)) | (simp [*, errW_none, errW_some] <;> rfl), by repeat (first | (with_reducible first | exact HB.out | apply below_alloc | apply pw_below_drewN | apply below_drew1 | refine below_set ?_ GE448.out | refine below_set ?_ GE453.out) | exact HB.out)⟩
                    · rw [if_neg c15] at H
                      have c15b0 : (t452 == 0) = false := beq_eq_false_iff_ne.mpr c15
                      have c15b1 : (t452 != 0) = true := bne_iff_ne.mpr c15
                      simp only [Option.some.injEq, Prod.mk.injEq] at H
                      obtain ⟨rfl, rfl, rfl, rfl⟩ := H
                      have p5 : 0 ≤ (x4_1 : Int) := of_decide_eq_true (by first | (with_reducible assumption) | assumption)
                      have q5 : x4_1 < (a0.size : Int) := of_decide_eq_true (by first | (with_reducible assumption) | assumption)
                      have hx5 := bt_at a0 x4_1
                      replace p5 := eq_true p5
                      replace q5 := eq_true q5
                      go_wp2_with (first | ((with_reducible refine gate_callee (f := 81) rfl ?_); refine goesL_ (some 20) rfl rfl Tryd.func81 (by kernel_rfl) rfl #[.string (a0.extract 0 (x4_1 : Int).toNat)] rfl (by (try simp only [List.map_toArray, List.map_cons, List.map_nil]); first | done | rfl | (simp only [List.length_drop, List.length_take]; rfl)) ?_; (with_reducible refine (paymasterref07_MayId.calls k1 (a0.extract 0 (x4_1 : Int).toNat) true _ A9.out).mono ?_); rintro e w' ⟨rfl, ⟨nd, rfl⟩⟩; refine ⟨_, rfl, ?_⟩; (try (rw [drewN_self wr]; generalize hq_ : World.drewN wr _ = wr; have n0_ : Aside0 (wr.heap[gb448]? = some (.cells #[.string x449000_1, .int .u64 x449001_1, .int .u64 x449002_1] 44 (0, 0))) := ⟨by rw [← hq_]; exact (by (with_reducible repeat (first | refine blk_drewN ?_ _ | refine blk_drew ?_ | refine blk_alloc ?_ _)); exact BK448.out)⟩; have n1_ : Aside0 (Below w.heap.size w wr) := ⟨by rw [← hq_]; exact (by repeat (first | (with_reducible first | exact HB.out | apply below_alloc | apply pw_below_drewN | apply below_drew1 | refine below_set ?_ GE448.out) | exact HB.out))⟩; clear BK448 HB hq_; have BK448 := n0_; have HB := n1_; clear n0_ n1_))) | ((with_reducible refine gate_callee (f := 82) rfl ?_); refine goesL_ (some 28) rfl rfl Tryd.func82 (by kernel_rfl) rfl #[.string (a0.extract ((ji11) : Int).toNat a0.size)] rfl (by (try simp only [List.map_toArray, List.map_cons, List.map_nil]); first | done | (simp only [hji11]; rfl) | rfl | (simp only [List.length_drop, List.length_take]; rfl)) ?_; (with_reducible refine (paymasterref02_Parse.calls k1 (a0.extract ((ji11) : Int).toNat a0.size) t450 t451 t452 _ A14.out).mono ?_); rintro e w27 ⟨rfl, hb⟩; refine ⟨_, rfl, ?_⟩; have n0_ := Aside0.mk (blk_below (g := gb448) (o := .cells #[.string x449000_1, .int .u64 x449001_1, .int .u64 x449002_1] 44 (0, 0)) (by (with_reducible repeat (first | refine blk_drewN ?_ _ | refine blk_drew ?_ | refine blk_alloc ?_ _)); exact BK448.out) hb); have n1_ := Aside0.mk (below_step (by repeat (first | (with_reducible first | exact HB.out | apply below_alloc | apply pw_below_drewN | apply below_drew1 | refine below_set ?_ GE448.out) | exact HB.out)) hb); clear BK448; clear HB; have BK448 := n0_; have HB := n1_; clear n0_ n1_; (try clear hb); (try clear hb2); (try clear hk); (try clear hi)) | ((with_reducible refine gate_dst (N := 5) rfl ?_); refine box_event ?hg (N := 5) ?hd (cs := #[.int .u64 0, .int .u64 0]) (t := 42) ?hr ?_; (case hd => rfl); (case hg => rfl); (case hr => first | (go_simp; done) | (go_simp; rfl)); intro gb453 hg w28 hbox hb; have n0_ := Aside0.mk (blk_below (g := gb448) (o := .cells #[.string x449000_1, .int .u64 x449001_1, .int .u64 x449002_1] 44 (0, 0)) (by (with_reducible repeat (first | refine blk_drewN ?_ _ | refine blk_drew ?_ | refine blk_alloc ?_ _)); exact BK448.out) hb); have n1_ := Aside0.mk (below_step (by repeat (first | (with_reducible first | exact HB.out | apply below_alloc | apply pw_below_drewN | apply below_drew1 | refine below_set ?_ GE448.out) | exact HB.out)) hb); have n2_ := Aside0.mk (hbox); have n3_ := Aside0.mk ((by rw [hg]; exact (below_size (by repeat (first | (with_reducible first | exact HB.out | apply below_alloc | apply pw_below_drewN | apply below_drew1 | refine below_set ?_ GE448.out) | exact HB.out))) : w.heap.size ≤ gb453)); have n4_ := Aside0.mk ((by rw [hg]; exact (below_size (by repeat (first | (with_reducible first | exact HB.out | apply below_alloc | apply pw_below_drewN | apply below_drew1 | refine below_set ?_ GE448.out) | exact HB.out))) : w.heap.size ≤ gb453)); have n5_ := Aside0.mk ((by rw [hg]; exact Nat.ne_of_lt (blk_lt (g := gb448) (o := .cells #[.string x449000_1, .int .u64 x449001_1, .int .u64 x449002_1] 44 (0, 0)) (by (with_reducible repeat (first | refine blk_drewN ?_ _ | refine blk_drew ?_ | refine blk_alloc ?_ _)); exact BK448.out)) : gb448 ≠ gb453)); have n6_ := Aside0.mk ((by rw [hg]; exact Nat.ne_of_gt (blk_lt (g := gb448) (o := .cells #[.string x449000_1, .int .u64 x449001_1, .int .u64 x449002_1] 44 (0, 0)) (by (with_reducible repeat (first | refine blk_drewN ?_ _ | refine blk_drew ?_ | refine blk_alloc ?_ _)); exact BK448.out)) : gb453 ≠ gb448)); clear BK448; clear HB; have BK448 := n0_; have HB := n1_; have BK453 := n2_; have GW453 := n3_; have GE453 := n4_; have NB448_453 := n5_; have NB453_448 := n6_; clear n0_ n1_ n2_ n3_ n4_ n5_ n6_; clear hb hbox hg; have hnb29 := NB453_448.out; have hnc29 := NB448_453.out; have hcz30_0 : w28.cell? ⟨gb453, 0, none⟩ = some (.int .u64 0) := (blk_cell BK453.out 0).trans rfl; have hcz30_1 : w28.cell? ⟨gb453, 1, none⟩ = some (.int .u64 0) := (blk_cell BK453.out 1).trans rfl; have hfz30_0 := blk_frozen BK453.out 0; have hfz30_1 := blk_frozen BK453.out 1; have hcz31_0 : w28.cell? ⟨gb448, 0, none⟩ = some (.string x449000_1) := (blk_cell BK448.out 0).trans rfl; have hcz31_1 : w28.cell? ⟨gb448, 1, none⟩ = some (.int .u64 x449001_1) := (blk_cell BK448.out 1).trans rfl; have hcz31_2 : w28.cell? ⟨gb448, 2, none⟩ = some (.int .u64 x449002_1) := (blk_cell BK448.out 2).trans rfl; have hfz31_0 := blk_frozen BK448.out 0; have hfz31_1 := blk_frozen BK448.out 1; have hfz31_2 := blk_frozen BK448.out 2))
                      refine bodyPost_ret (results_ct rfl _ _ gb448 44 #[.string (⟨#[]⟩ : ByteArray), .int .u64 0, .int .u64 0] (0, 0) _ rfl (by (with_reducible repeat (first | refine blk_drewN ?_ _ | refine blk_drew ?_ | refine blk_alloc ?_ _)); refine blk_put (cs := #[.string (⟨#[]⟩ : ByteArray), .int .u64 0, .int .u64 x449002_1]) ?_ 2 _ rfl; (with_reducible repeat (first | refine blk_drewN ?_ _ | refine blk_drew ?_ | refine blk_alloc ?_ _)); refine blk_put (cs := #[.string (⟨#[]⟩ : ByteArray), .int .u64 x449001_1, .int .u64 x449002_1]) ?_ 1 _ rfl; (with_reducible repeat (first | refine blk_drewN ?_ _ | refine blk_drew ?_ | refine blk_alloc ?_ _)); refine blk_put (cs := #[.string x449000_1, .int .u64 x449001_1, .int .u64 x449002_1]) ?_ 0 _ rfl; (with_reducible repeat (first | refine blk_drewN ?_ _ | refine blk_drew ?_ | refine blk_alloc ?_ _)); refine blk_far ?_ NB448_453.out _; (with_reducible repeat (first | refine blk_drewN ?_ _ | refine blk_drew ?_ | refine blk_alloc ?_ _)); refine blk_far ?_ NB448_453.out _; (with_reducible repeat (first | refine blk_drewN ?_ _ | refine blk_drew ?_ | refine blk_alloc ?_ _)); exact BK448.out) Tryd.underlying44 rfl (by kernel_rfl)) rfl ?_
                      exact ⟨by first | rfl | (simp [errW_none, errW_some] <;> rfl) | (simp only [← hji11]; first | rfl | (simp [errW_none, errW_some] <;> rfl)) | (simp [*, errW_none, errW_some] <;> rfl), by repeat (first | (with_reducible first | exact HB.out | apply below_alloc | apply pw_below_drewN | apply below_drew1 | refine below_set ?_ GE448.out | refine below_set ?_ GE453.out) | exact HB.out)⟩
                  · rw [if_neg c13] at H
                    exact absurd H (by simp)
                · rw [if_neg c12] at H
                  exact absurd H (by simp)
              · replace c10 := Bool.eq_false_iff.mpr c10
                subst c10
                have H1 : (some ((⟨#[]⟩ : ByteArray), 0, 0, 101)) = some (r1, r2, r3, r4) := by rw [if_neg (show ¬ (false = true) by decide)] at H; exact H
                clear H
                have H := H1
                clear H1
                simp only [Option.some.injEq, Prod.mk.injEq] at H
                obtain ⟨rfl, rfl, rfl, rfl⟩ := H
                have p5 : 0 ≤ (x4_1 : Int) := of_decide_eq_true (by first | (with_reducible assumption) | assumption)
                have q5 : x4_1 < (a0.size : Int) := of_decide_eq_true (by first | (with_reducible assumption) | assumption)
                have hx5 := bt_at a0 x4_1
                replace p5 := eq_true p5
                replace q5 := eq_true q5
                go_wp2_with (first | ((with_reducible refine gate_callee (f := 81) rfl ?_); refine goesL_ (some 20) rfl rfl Tryd.func81 (by kernel_rfl) rfl #[.string (a0.extract 0 (x4_1 : Int).toNat)] rfl (by (try simp only [List.map_toArray, List.map_cons, List.map_nil]); first | done | rfl | (simp only [List.length_drop, List.length_take]; rfl)) ?_; (with_reducible refine (paymasterref07_MayId.calls k1 (a0.extract 0 (x4_1 : Int).toNat) false _ A9.out).mono ?_); rintro e w' ⟨rfl, ⟨nd, rfl⟩⟩; refine ⟨_, rfl, ?_⟩; (try (rw [drewN_self wr]; generalize hq_ : World.drewN wr _ = wr; have n0_ : Aside0 (wr.heap[gb448]? = some (.cells #[.string x449000_1, .int .u64 x449001_1, .int .u64 x449002_1] 44 (0, 0))) := ⟨by rw [← hq_]; exact (by (with_reducible repeat (first | refine blk_drewN ?_ _ | refine blk_drew ?_ | refine blk_alloc ?_ _)); exact BK448.out)⟩; have n1_ : Aside0 (Below w.heap.size w wr) := ⟨by rw [← hq_]; exact (by repeat (first | (with_reducible first | exact HB.out | apply below_alloc | apply pw_below_drewN | apply below_drew1 | refine below_set ?_ GE448.out) | exact HB.out))⟩; clear BK448 HB hq_; have BK448 := n0_; have HB := n1_; clear n0_ n1_)); have hcz32_0 : wr.cell? ⟨gb448, 0, none⟩ = some (.string x449000_1) := (blk_cell BK448.out 0).trans rfl; have hcz32_1 : wr.cell? ⟨gb448, 1, none⟩ = some (.int .u64 x449001_1) := (blk_cell BK448.out 1).trans rfl; have hcz32_2 : wr.cell? ⟨gb448, 2, none⟩ = some (.int .u64 x449002_1) := (blk_cell BK448.out 2).trans rfl; have hfz32_0 := blk_frozen BK448.out 0; have hfz32_1 := blk_frozen BK448.out 1; have hfz32_2 := blk_frozen BK448.out 2))
                refine bodyPost_ret (results_ct rfl _ _ gb448 44 #[.string (⟨#[]⟩ : ByteArray), .int .u64 0, .int .u64 0] (0, 0) _ rfl (by (with_reducible repeat (first | refine blk_drewN ?_ _ | refine blk_drew ?_ | refine blk_alloc ?_ _)); refine blk_put (cs := #[.string (⟨#[]⟩ : ByteArray), .int .u64 0, .int .u64 x449002_1]) ?_ 2 _ rfl; (with_reducible repeat (first | refine blk_drewN ?_ _ | refine blk_drew ?_ | refine blk_alloc ?_ _)); refine blk_put (cs := #[.string (⟨#[]⟩ : ByteArray), .int .u64 x449001_1, .int .u64 x449002_1]) ?_ 1 _ rfl; (with_reducible repeat (first | refine blk_drewN ?_ _ | refine blk_drew ?_ | refine blk_alloc ?_ _)); refine blk_put (cs := #[.string x449000_1, .int .u64 x449001_1, .int .u64 x449002_1]) ?_ 0 _ rfl; (with_reducible repeat (first | refine blk_drewN ?_ _ | refine blk_drew ?_ | refine blk_alloc ?_ _)); exact BK448.out) Tryd.underlying44 rfl (by kernel_rfl)) rfl ?_
                exact ⟨by first | rfl | (simp [errW_none, errW_some] <;> rfl) | (simp [*, errW_none, errW_some] <;> rfl), by repeat (first | (with_reducible first | exact HB.out | apply below_alloc | apply pw_below_drewN | apply below_drew1 | refine below_set ?_ GE448.out) | exact HB.out)⟩
            · rw [if_neg c8] at H
              exact absurd H (by simp)
          · rw [if_neg c6] at H
            have c6b0 : ((bt a0 x4_1) == 32) = false := beq_eq_false_iff_ne.mpr c6
            have c6b1 : ((bt a0 x4_1) != 32) = true := bne_iff_ne.mpr c6
            have H' := Aside0.mk H
            clear H
            have p5 : 0 ≤ (x4_1 : Int) := of_decide_eq_true (by first | (with_reducible assumption) | assumption)
            have q5 : x4_1 < (a0.size : Int) := of_decide_eq_true (by first | (with_reducible assumption) | assumption)
            have hx5 := bt_at a0 x4_1
            replace p5 := eq_true p5
            replace q5 := eq_true q5
            go_wp2
            go_roundg k1
            case measure => have := HK1.out; omega
            case rel => exact ⟨(wrap64 (x4_1 + 1)), (x449000_1), (x449001_1), (x449002_1), (by first | rfl | (simp; done) | (simp [*]; done)), H', ⟨by have := HK1.out; omega⟩, ⟨by (with_reducible repeat (first | refine blk_drewN ?_ _ | refine blk_drew ?_ | refine blk_alloc ?_ _)); exact BK448.out⟩, ⟨by repeat (first | (with_reducible first | exact HB.out | apply below_alloc | apply pw_below_drewN | apply below_drew1 | refine below_set ?_ GE448.out) | exact HB.out)⟩⟩
        · rw [if_neg c4] at H
          exact absurd H (by simp)
      · rw [if_neg c3] at H
        have c3b0 : decide (x4_1 < (a0.size : Int)) = false := decide_eq_false c3
        clear c3
        simp only [Option.some.injEq, Prod.mk.injEq] at H
        obtain ⟨rfl, rfl, rfl, rfl⟩ := H
        have hcz33_0 : wr.cell? ⟨gb448, 0, none⟩ = some (.string x449000_1) := (blk_cell BK448.out 0).trans rfl
        have hcz33_1 : wr.cell? ⟨gb448, 1, none⟩ = some (.int .u64 x449001_1) := (blk_cell BK448.out 1).trans rfl
        have hcz33_2 : wr.cell? ⟨gb448, 2, none⟩ = some (.int .u64 x449002_1) := (blk_cell BK448.out 2).trans rfl
        have hfz33_0 := blk_frozen BK448.out 0
        have hfz33_1 := blk_frozen BK448.out 1
        have hfz33_2 := blk_frozen BK448.out 2
        go_wp2
        refine bodyPost_ret (results_ct rfl _ _ gb448 44 #[.string (⟨#[]⟩ : ByteArray), .int .u64 0, .int .u64 0] (0, 0) _ rfl (by (with_reducible repeat (first | refine blk_drewN ?_ _ | refine blk_drew ?_ | refine blk_alloc ?_ _)); refine blk_put (cs := #[.string (⟨#[]⟩ : ByteArray), .int .u64 0, .int .u64 x449002_1]) ?_ 2 _ rfl; (with_reducible repeat (first | refine blk_drewN ?_ _ | refine blk_drew ?_ | refine blk_alloc ?_ _)); refine blk_put (cs := #[.string (⟨#[]⟩ : ByteArray), .int .u64 x449001_1, .int .u64 x449002_1]) ?_ 1 _ rfl; (with_reducible repeat (first | refine blk_drewN ?_ _ | refine blk_drew ?_ | refine blk_alloc ?_ _)); refine blk_put (cs := #[.string x449000_1, .int .u64 x449001_1, .int .u64 x449002_1]) ?_ 0 _ rfl; (with_reducible repeat (first | refine blk_drewN ?_ _ | refine blk_drew ?_ | refine blk_alloc ?_ _)); exact BK448.out) Tryd.underlying44 rfl (by kernel_rfl)) rfl ?_
        exact ⟨by first | rfl | (simp [errW_none, errW_some] <;> rfl) | (simp [*, errW_none, errW_some] <;> rfl), by repeat (first | (with_reducible first | exact HB.out | apply below_alloc | apply pw_below_drewN | apply below_drew1 | refine below_set ?_ GE448.out) | exact HB.out)⟩
end Go.Proofs.YtpkjpiphjdpegaaDoor.P
namespace Go.Proofs.YtpkjpiphjdpegaaDoor.P
open Go.RowKit Go.Proofs.YtpkjpiphjdpegaaDoorW.PrintWords Go.Proofs.YtpkjpiphjdpegaaDoorW.PrintLast Go.Proofs.YtpkjpiphjdpegaaDoorW.PrintMore
attribute [local go_sem] max2_int min2_int max_two min_two max_three min_three max_four min_four
set_option linter.unusedVariables false
set_option linter.unusedSimpArgs false
attribute [local go_sem high] eqA42 eqA44
mutual
def paymasterref01_Over.l0 : Nat → Int → List Int → List Int → Int → Int → Option (Int × Int × Int × Int)
  | 0, _, _, _, _, _ => none
  | k + 1, x1, x7, x8, x9, x10 => if x10 ≥ 0 then (paymasterref01_Over.l1 k x1 x7 x8 x9 x10 32768) else ((paymasterref01_number.f k x8).bind fun bt613 => (some (bt613.1, bt613.2.1, x9, 0)))
def paymasterref01_Over.l1 : Nat → Int → List Int → List Int → Int → Int → Int → Option (Int × Int × Int × Int)
  | 0, _, _, _, _, _, _ => none
  | k + 1, x1, x7, x8, x9, x10, x11 => if x11 > 0 then (if 0 ≤ x10 then (if x10 < (x7.length : Int) then (if x11 = 0 then (none) else (if x9 ≥ (IntKind.u64.wrap (x1 - x9)) then (if x10 < (x8.length : Int) then (paymasterref01_Over.l1 k x1 x7 (x8.set (x10 : Int).toNat (IntKind.u64.wrap ((rd x8 x10) + x11))) (IntKind.u64.wrap ((IntKind.u64.wrap (x9 - (IntKind.u64.wrap (x1 - x9)))) + (Int.tmod (IntKind.u64.wrap (Int.tdiv (rd x7 x10) x11)) 2))) x10 (IntKind.u64.wrap (Int.tdiv x11 2))) else (none)) else (if (IntKind.u64.wrap (x9 + 1)) ≥ (IntKind.u64.wrap (x1 - x9)) then (if (Int.tmod (IntKind.u64.wrap (Int.tdiv (rd x7 x10) x11)) 2) = 1 then (if x10 < (x8.length : Int) then (paymasterref01_Over.l1 k x1 x7 (x8.set (x10 : Int).toNat (IntKind.u64.wrap ((rd x8 x10) + x11))) (IntKind.u64.wrap ((IntKind.u64.wrap (x9 - (IntKind.u64.wrap (x1 - x9)))) + (Int.tmod (IntKind.u64.wrap (Int.tdiv (rd x7 x10) x11)) 2))) x10 (IntKind.u64.wrap (Int.tdiv x11 2))) else (none)) else (paymasterref01_Over.l1 k x1 x7 x8 (IntKind.u64.wrap ((IntKind.u64.wrap (2 * x9)) + (Int.tmod (IntKind.u64.wrap (Int.tdiv (rd x7 x10) x11)) 2))) x10 (IntKind.u64.wrap (Int.tdiv x11 2)))) else (paymasterref01_Over.l1 k x1 x7 x8 (IntKind.u64.wrap ((IntKind.u64.wrap (2 * x9)) + (Int.tmod (IntKind.u64.wrap (Int.tdiv (rd x7 x10) x11)) 2))) x10 (IntKind.u64.wrap (Int.tdiv x11 2)))))) else (none)) else (none)) else (paymasterref01_Over.l0 k x1 x7 x8 x9 (wrap64 (x10 - 1)))
end
def paymasterref01_Over.f (k : Nat) (a0_0 : Int) (a0_1 : Int) (a1 : Int) : Option (Int × Int × Int × Int) := if a1 = 0 then (some (0, 0, 0, 2)) else ((paymasterref01_digits.f k a0_0 a0_1).bind fun t607 => (if 8 ≤ 35184372088832 then (paymasterref01_Over.l0 k a1 t607 (List.replicate 8 0) 0 7) else (none)))
set_option maxHeartbeats 8000000 in
set_option maxRecDepth 100000 in
theorem paymasterref01_Over.calls (k : Nat) (a0_0 : Int) (a0_1 : Int) (a1 : Int) (r1 : Int) (r2 : Int) (r3 : Int) (r4 : Int) (w : World) (h : paymasterref01_Over.f k a0_0 a0_1 a1 = some (r1, r2, r3, r4)) :
    Calls Tryd.prog 116 #[.agg #[.int .u64 a0_0, .int .u64 a0_1], .int .u64 a1] w fun e w' => e = .returned (.tuple #[.agg #[.int .u64 r1, .int .u64 r2], .int .u64 r3, .int .i64 r4]) ∧ Below w.heap.size w w' := by
  have hu42 := Tryd.underlying42
  have HB := Aside0.mk (Below.refl w.heap.size w)
  have H : (if a1 = 0 then (some (0, 0, 0, 2)) else ((paymasterref01_digits.f k a0_0 a0_1).bind fun t607 => (if 8 ≤ 35184372088832 then (paymasterref01_Over.l0 k a1 t607 (List.replicate 8 0) 0 7) else (none)))) = some (r1, r2, r3, r4) := h
  clear h
  by_cases c3 : a1 = 0
  · rw [if_pos c3] at H
    have c3b0 : (a1 == 0) = true := beq_iff_eq.mpr c3
    have c3b1 : (a1 != 0) = false := bne_eq_false_iff_eq.mpr c3
    clear c3
    simp only [Option.some.injEq, Prod.mk.injEq] at H
    obtain ⟨rfl, rfl, rfl, rfl⟩ := H
    go_enter Tryd.func116, Tryd.ntmps116
    go_wp2_with (first | ((with_reducible refine gate_dst (N := 2) rfl ?_); refine box_event ?hg (N := 2) ?hd (cs := #[.int .u64 a0_0, .int .u64 a0_1]) (t := 42) ?hr ?_; (case hd => rfl); (case hg => rfl); (case hr => first | (go_simp; done) | (go_simp; rfl)); intro gb605 hg w4 hbox hb; have n0_ := Aside0.mk (below_step (by repeat (first | (with_reducible first | exact HB.out | apply below_alloc | apply pw_below_drewN | apply below_drew1) | exact HB.out)) hb); have n1_ := Aside0.mk (hbox); have n2_ := Aside0.mk ((by rw [hg]; exact (below_size (by repeat (first | (with_reducible first | exact HB.out | apply below_alloc | apply pw_below_drewN | apply below_drew1) | exact HB.out))) : w.heap.size ≤ gb605)); have n3_ := Aside0.mk ((by rw [hg]; exact (below_size (by repeat (first | (with_reducible first | exact HB.out | apply below_alloc | apply pw_below_drewN | apply below_drew1) | exact HB.out))) : w.heap.size ≤ gb605)); clear HB; have HB := n0_; have BK605 := n1_; have GW605 := n2_; have GE605 := n3_; clear n0_ n1_ n2_ n3_; clear hb hbox hg) | ((with_reducible refine gate_dst (N := 4) rfl ?_); refine box_event ?hg (N := 4) ?hd (cs := #[.int .u64 0, .int .u64 0]) (t := 42) ?hr ?_; (case hd => rfl); (case hg => rfl); (case hr => first | (go_simp; done) | (go_simp; rfl)); intro gb606 hg w5 hbox hb; have n0_ := Aside0.mk (blk_below (g := gb605) (o := .cells #[.int .u64 a0_0, .int .u64 a0_1] 42 (0, 0)) (by (with_reducible repeat (first | refine blk_drewN ?_ _ | refine blk_drew ?_ | refine blk_alloc ?_ _)); exact BK605.out) hb); have n1_ := Aside0.mk (below_step (by repeat (first | (with_reducible first | exact HB.out | apply below_alloc | apply pw_below_drewN | apply below_drew1 | refine below_set ?_ GE605.out) | exact HB.out)) hb); have n2_ := Aside0.mk (hbox); have n3_ := Aside0.mk ((by rw [hg]; exact (below_size (by repeat (first | (with_reducible first | exact HB.out | apply below_alloc | apply pw_below_drewN | apply below_drew1 | refine below_set ?_ GE605.out) | exact HB.out))) : w.heap.size ≤ gb606)); have n4_ := Aside0.mk ((by rw [hg]; exact (below_size (by repeat (first | (with_reducible first | exact HB.out | apply below_alloc | apply pw_below_drewN | apply below_drew1 | refine below_set ?_ GE605.out) | exact HB.out))) : w.heap.size ≤ gb606)); have n5_ := Aside0.mk ((by rw [hg]; exact Nat.ne_of_lt (blk_lt (g := gb605) (o := .cells #[.int .u64 a0_0, .int .u64 a0_1] 42 (0, 0)) (by (with_reducible repeat (first | refine blk_drewN ?_ _ | refine blk_drew ?_ | refine blk_alloc ?_ _)); exact BK605.out)) : gb605 ≠ gb606)); have n6_ := Aside0.mk ((by rw [hg]; exact Nat.ne_of_gt (blk_lt (g := gb605) (o := .cells #[.int .u64 a0_0, .int .u64 a0_1] 42 (0, 0)) (by (with_reducible repeat (first | refine blk_drewN ?_ _ | refine blk_drew ?_ | refine blk_alloc ?_ _)); exact BK605.out)) : gb606 ≠ gb605)); clear BK605; clear HB; have BK605 := n0_; have HB := n1_; have BK606 := n2_; have GW606 := n3_; have GE606 := n4_; have NB605_606 := n5_; have NB606_605 := n6_; clear n0_ n1_ n2_ n3_ n4_ n5_ n6_; clear hb hbox hg; have hnb6 := NB606_605.out; have hnc6 := NB605_606.out; have hcz7_0 : w5.cell? ⟨gb606, 0, none⟩ = some (.int .u64 0) := (blk_cell BK606.out 0).trans rfl; have hcz7_1 : w5.cell? ⟨gb606, 1, none⟩ = some (.int .u64 0) := (blk_cell BK606.out 1).trans rfl; have hfz7_0 := blk_frozen BK606.out 0; have hfz7_1 := blk_frozen BK606.out 1))
    refine bodyPost_ret (results_ctt rfl _ _ gb606 42 #[.int .u64 0, .int .u64 0] (0, 0) _ rfl (by (with_reducible repeat (first | refine blk_drewN ?_ _ | refine blk_drew ?_ | refine blk_alloc ?_ _)); refine blk_put (cs := #[.int .u64 0, .int .u64 0]) ?_ 1 _ rfl; (with_reducible repeat (first | refine blk_drewN ?_ _ | refine blk_drew ?_ | refine blk_alloc ?_ _)); refine blk_put (cs := #[.int .u64 0, .int .u64 0]) ?_ 0 _ rfl; (with_reducible repeat (first | refine blk_drewN ?_ _ | refine blk_drew ?_ | refine blk_alloc ?_ _)); exact BK606.out) Tryd.underlying42 rfl (by kernel_rfl)) rfl ?_
    exact ⟨by first | rfl | (simp [errW_none, errW_some] <;> rfl) | (simp [*, errW_none, errW_some] <;> rfl), by repeat (first | (with_reducible first | exact HB.out | apply below_alloc | apply pw_below_drewN | apply below_drew1 | refine below_set ?_ GE605.out | refine below_set ?_ GE606.out) | exact HB.out)⟩
  · rw [if_neg c3] at H
    have c3b0 : (a1 == 0) = false := beq_eq_false_iff_ne.mpr c3
    have c3b1 : (a1 != 0) = true := bne_iff_ne.mpr c3
    replace H := Option.bind_eq_some_iff.mp H
    obtain ⟨t607, A80, H⟩ := H
    replace H : (if 8 ≤ 35184372088832 then (paymasterref01_Over.l0 k a1 t607 (List.replicate 8 0) 0 7) else (none)) = some (r1, r2, r3, r4) := H
    have A8 := Aside0.mk A80
    clear A80
    by_cases c9 : 8 ≤ 35184372088832
    · rw [if_pos c9] at H
      have c9b0 := eq_true c9
      have c9b1 : decide (8 ≤ 35184372088832) = true := decide_eq_true c9
      clear c9
      obtain ⟨y610, hy610⟩ : ∃ y_ : List Int, y_ = (List.replicate 8 0) := ⟨_, rfl⟩
      replace H : (paymasterref01_Over.l0 k a1 t607 y610 0 7) = some (r1, r2, r3, r4) := by first | (rw [hy610]; with_reducible exact H) | (have H2_ := (Option.bind_some _ _).symm.trans H; rw [hy610]; with_reducible exact H2_) | (have H2_ := (Option.bind_some _ _).symm.trans H; with_reducible exact H2_) | with_reducible exact H | (rw [hy610]; exact H) | exact H
      have Ny610 := Aside0.mk hy610
      clear hy610
      have H' := Aside0.mk H
      clear H
      go_enter Tryd.func116, Tryd.ntmps116
      go_wp2_with (first | ((with_reducible refine gate_dst (N := 2) rfl ?_); refine box_event ?hg (N := 2) ?hd (cs := #[.int .u64 a0_0, .int .u64 a0_1]) (t := 42) ?hr ?_; (case hd => rfl); (case hg => rfl); (case hr => first | (go_simp; done) | (go_simp; rfl)); intro gb605 hg w10 hbox hb; have n0_ := Aside0.mk (below_step (by repeat (first | (with_reducible first | exact HB.out | apply below_alloc | apply pw_below_drewN | apply below_drew1) | exact HB.out)) hb); have n1_ := Aside0.mk (hbox); have n2_ := Aside0.mk ((by rw [hg]; exact (below_size (by repeat (first | (with_reducible first | exact HB.out | apply below_alloc | apply pw_below_drewN | apply below_drew1) | exact HB.out))) : w.heap.size ≤ gb605)); have n3_ := Aside0.mk ((by rw [hg]; exact (below_size (by repeat (first | (with_reducible first | exact HB.out | apply below_alloc | apply pw_below_drewN | apply below_drew1) | exact HB.out))) : w.heap.size ≤ gb605)); clear HB; have HB := n0_; have BK605 := n1_; have GW605 := n2_; have GE605 := n3_; clear n0_ n1_ n2_ n3_; clear hb hbox hg) | ((with_reducible refine gate_dst (N := 4) rfl ?_); refine box_event ?hg (N := 4) ?hd (cs := #[.int .u64 0, .int .u64 0]) (t := 42) ?hr ?_; (case hd => rfl); (case hg => rfl); (case hr => first | (go_simp; done) | (go_simp; rfl)); intro gb606 hg w11 hbox hb; have n0_ := Aside0.mk (blk_below (g := gb605) (o := .cells #[.int .u64 a0_0, .int .u64 a0_1] 42 (0, 0)) (by (with_reducible repeat (first | refine blk_drewN ?_ _ | refine blk_drew ?_ | refine blk_alloc ?_ _)); exact BK605.out) hb); have n1_ := Aside0.mk (below_step (by repeat (first | (with_reducible first | exact HB.out | apply below_alloc | apply pw_below_drewN | apply below_drew1 | refine below_set ?_ GE605.out) | exact HB.out)) hb); have n2_ := Aside0.mk (hbox); have n3_ := Aside0.mk ((by rw [hg]; exact (below_size (by repeat (first | (with_reducible first | exact HB.out | apply below_alloc | apply pw_below_drewN | apply below_drew1 | refine below_set ?_ GE605.out) | exact HB.out))) : w.heap.size ≤ gb606)); have n4_ := Aside0.mk ((by rw [hg]; exact (below_size (by repeat (first | (with_reducible first | exact HB.out | apply below_alloc | apply pw_below_drewN | apply below_drew1 | refine below_set ?_ GE605.out) | exact HB.out))) : w.heap.size ≤ gb606)); have n5_ := Aside0.mk ((by rw [hg]; exact Nat.ne_of_lt (blk_lt (g := gb605) (o := .cells #[.int .u64 a0_0, .int .u64 a0_1] 42 (0, 0)) (by (with_reducible repeat (first | refine blk_drewN ?_ _ | refine blk_drew ?_ | refine blk_alloc ?_ _)); exact BK605.out)) : gb605 ≠ gb606)); have n6_ := Aside0.mk ((by rw [hg]; exact Nat.ne_of_gt (blk_lt (g := gb605) (o := .cells #[.int .u64 a0_0, .int .u64 a0_1] 42 (0, 0)) (by (with_reducible repeat (first | refine blk_drewN ?_ _ | refine blk_drew ?_ | refine blk_alloc ?_ _)); exact BK605.out)) : gb606 ≠ gb605)); clear BK605; clear HB; have BK605 := n0_; have HB := n1_; have BK606 := n2_; have GW606 := n3_; have GE606 := n4_; have NB605_606 := n5_; have NB606_605 := n6_; clear n0_ n1_ n2_ n3_ n4_ n5_ n6_; clear hb hbox hg; have hnb12 := NB605_606.out; have hnc12 := NB606_605.out; have hcz13_0 : w11.cell? ⟨gb605, 0, none⟩ = some (.int .u64 a0_0) := (blk_cell BK605.out 0).trans rfl; have hcz13_1 : w11.cell? ⟨gb605, 1, none⟩ = some (.int .u64 a0_1) := (blk_cell BK605.out 1).trans rfl; have hfz13_0 := blk_frozen BK605.out 0; have hfz13_1 := blk_frozen BK605.out 1) | ((with_reducible refine gate_callee (f := 128) rfl ?_); refine goesL_ (some 19) rfl rfl Tryd.func128 (by kernel_rfl) rfl #[.agg #[.int .u64 a0_0, .int .u64 a0_1]] rfl (by (try simp only [List.map_toArray, List.map_cons, List.map_nil]); first | done | rfl | (simp only [List.length_drop, List.length_take]; rfl)) ?_; (with_reducible refine (paymasterref01_digits.calls k a0_0 a0_1 t607 _ A8.out).mono ?_); rintro e w14 ⟨v608, rfl, ho0, hb⟩; refine ⟨_, rfl, ?_⟩; have n0_ := Aside0.mk (Kd.R_lower ho0 (below_size (by repeat (first | (with_reducible first | exact HB.out | apply below_alloc | apply pw_below_drewN | apply below_drew1 | refine below_set ?_ GE605.out | refine below_set ?_ GE606.out) | exact HB.out)))); have n1_ := Aside0.mk (blk_below (g := gb605) (o := .cells #[.int .u64 a0_0, .int .u64 a0_1] 42 (0, 0)) (by (with_reducible repeat (first | refine blk_drewN ?_ _ | refine blk_drew ?_ | refine blk_alloc ?_ _)); exact BK605.out) hb); have n2_ := Aside0.mk (blk_below (g := gb606) (o := .cells #[.int .u64 0, .int .u64 0] 42 (0, 0)) (by (with_reducible repeat (first | refine blk_drewN ?_ _ | refine blk_drew ?_ | refine blk_alloc ?_ _)); exact BK606.out) hb); have n3_ := Aside0.mk (below_step (by repeat (first | (with_reducible first | exact HB.out | apply below_alloc | apply pw_below_drewN | apply below_drew1 | refine below_set ?_ GE605.out | refine below_set ?_ GE606.out) | exact HB.out)) hb); clear BK605; clear BK606; clear HB; have HO609 := n0_; have BK605 := n1_; have BK606 := n2_; have HB := n3_; clear n0_ n1_ n2_ n3_; (try clear hb); (try clear hb2); (try clear hk); (try clear hi); (try clear ho0)) | ((with_reducible refine gate_dst (N := 20) rfl ?_); refine Kd.R_make (Kd.int .u64) _ 40 rfl (N := 20) rfl 172 _ _ rfl 8 rfl rfl Tryd.underlying172 (.int .u64 0) 8 info40 rfl (by decide) (by omega) 0 (ok := fun _ => True) (okp := fun _ => True) rfl (fun _ hk => hk) trivial (by omega) (by omega) (Below.refl _ _) (Nat.le_refl _) ?_; intro v611 w15 ho16 hb hg_ hnew_; clear hg_ hnew_; (first | rw [← Ny610.out] at ho16 | (simp only [Int.reduceToNat] at ho16; rw [← Ny610.out] at ho16)); have n0_ := Aside0.mk (Kd.R_elder' (by (with_reducible repeat (first | apply Kd.R_alloc | apply Kd.R_drewN | apply Kd.R_drew)); exact HO609.out) (Kd.R_base ho16) hb); have n1_ := Aside0.mk (Kd.R_lower (Kd.R_new' ho16 (Kd.R_lt (by (with_reducible repeat (first | apply Kd.R_alloc | apply Kd.R_drewN | apply Kd.R_drew)); exact HO609.out))) (below_size (by repeat (first | (with_reducible first | exact HB.out | apply below_alloc | apply pw_below_drewN | apply below_drew1 | refine below_set ?_ GE605.out | refine below_set ?_ GE606.out) | exact HB.out)))); have n2_ := Aside0.mk (blk_below (g := gb605) (o := .cells #[.int .u64 a0_0, .int .u64 a0_1] 42 (0, 0)) (by (with_reducible repeat (first | refine blk_drewN ?_ _ | refine blk_drew ?_ | refine blk_alloc ?_ _)); exact BK605.out) hb); have n3_ := Aside0.mk (blk_below (g := gb606) (o := .cells #[.int .u64 0, .int .u64 0] 42 (0, 0)) (by (with_reducible repeat (first | refine blk_drewN ?_ _ | refine blk_drew ?_ | refine blk_alloc ?_ _)); exact BK606.out) hb); have n4_ := Aside0.mk (below_step (by repeat (first | (with_reducible first | exact HB.out | apply below_alloc | apply pw_below_drewN | apply below_drew1 | refine below_set ?_ GE605.out | refine below_set ?_ GE606.out) | exact HB.out)) hb); clear HO609; clear BK605; clear BK606; clear HB; have HO609 := n0_; have HO612 := n1_; have BK605 := n2_; have BK606 := n3_; have HB := n4_; clear n0_ n1_ n2_ n3_ n4_; clear hb ho16))
      go_loopg [9, 10] k (fun kq v9 v10 w' => ∃ (x8_1 : List Int) (x9_1 : Int) (x10_1 : Int), v9 = .int .u64 x9_1 ∧ v10 = .int .i64 x10_1 ∧ Aside0 (paymasterref01_Over.l0 kq a1 t607 x8_1 x9_1 x10_1 = some (r1, r2, r3, r4)) ∧ Aside0 (kq ≤ k) ∧ Aside0 (Kd.R (Kd.int .u64) 40 w' w.heap.size (fun k_ => some k_ ≠ (v611 : Value).ownBlock) v608 t607) ∧ Aside0 (Kd.R (Kd.int .u64) 40 w' w.heap.size (fun k_ => some k_ ≠ (v608 : Value).ownBlock) v611 x8_1) ∧ Aside0 (w'.heap[gb605]? = some (.cells #[.int .u64 a0_0, .int .u64 a0_1] 42 (0, 0))) ∧ Aside0 (w'.heap[gb606]? = some (.cells #[.int .u64 0, .int .u64 0] 42 (0, 0))) ∧ Aside0 (Below w.heap.size w w'))
      case atStart => exact ⟨(y610), (0), (7), (by first | rfl | (simp; done) | (simp [*]; done)), (by first | rfl | (simp; done) | (simp [*]; done)), H', ⟨Nat.le_refl _⟩, ⟨by (with_reducible repeat (first | apply Kd.R_alloc | apply Kd.R_drewN | apply Kd.R_drew)); exact Kd.R_mono HO609.out (fun _ hk => hk.2)⟩, ⟨by (with_reducible repeat (first | apply Kd.R_alloc | apply Kd.R_drewN | apply Kd.R_drew)); exact Kd.R_mono HO612.out (fun _ hk => hk.2)⟩, ⟨by (with_reducible repeat (first | refine blk_drewN ?_ _ | refine blk_drew ?_ | refine blk_alloc ?_ _)); exact BK605.out⟩, ⟨by (with_reducible repeat (first | refine blk_drewN ?_ _ | refine blk_drew ?_ | refine blk_alloc ?_ _)); exact BK606.out⟩, ⟨by repeat (first | (with_reducible first | exact HB.out | apply below_alloc | apply pw_below_drewN | apply below_drew1 | refine below_set ?_ GE605.out | refine below_set ?_ GE606.out) | exact HB.out)⟩⟩
      case round =>
        clear H'
        try clear c1
        try clear p2
        try clear c3
        try clear c3b0
        try clear c3b1
        try clear c6
        try clear c9
        try clear c9b0
        try clear c9b1
        try clear c11
        try clear c12
        try clear hcz13_0
        try clear hcz13_1
        try clear hcz7_0
        try clear hcz7_1
        try clear hfz13_0
        try clear hfz13_1
        try clear hfz7_0
        try clear hfz7_1
        obtain ⟨x8_1, x9_1, x10_1, rfl, rfl, HA, HK1, HO_7, HO_8, BK605, BK606, HB⟩ := hrel
        cases gk with
        | zero => exact absurd HA.out (by simp [paymasterref01_Over.l0])
        | succ k1 =>
          have H := HA.out
          clear HA
          simp only [paymasterref01_Over.l0] at H
          by_cases c17 : x10_1 ≥ 0
          · rw [if_pos c17] at H
            have c17b0 : decide (0 ≤ x10_1) = true := decide_eq_true c17
            clear c17
            have H' := Aside0.mk H
            clear H
            go_wp2
            go_loopg [9, 11] k1 (fun kq v9 v11 w' => ∃ (x8_2 : List Int) (x9_2 : Int) (x11_2 : Int), v9 = .int .u64 x9_2 ∧ v11 = .int .u64 x11_2 ∧ Aside0 (paymasterref01_Over.l1 kq a1 t607 x8_2 x9_2 x10_1 x11_2 = some (r1, r2, r3, r4)) ∧ Aside0 (kq ≤ k1) ∧ Aside0 (Kd.R (Kd.int .u64) 40 w' w.heap.size (fun k_ => some k_ ≠ (v611 : Value).ownBlock) v608 t607) ∧ Aside0 (Kd.R (Kd.int .u64) 40 w' w.heap.size (fun k_ => some k_ ≠ (v608 : Value).ownBlock) v611 x8_2) ∧ Aside0 (w'.heap[gb605]? = some (.cells #[.int .u64 a0_0, .int .u64 a0_1] 42 (0, 0))) ∧ Aside0 (w'.heap[gb606]? = some (.cells #[.int .u64 0, .int .u64 0] 42 (0, 0))) ∧ Aside0 (Below w.heap.size w w'))
            case atStart => exact ⟨(x8_1), (x9_1), (32768), (by first | rfl | (simp; done) | (simp [*]; done)), (by first | rfl | (simp; done) | (simp [*]; done)), H', ⟨Nat.le_refl _⟩, ⟨by (with_reducible repeat (first | apply Kd.R_alloc | apply Kd.R_drewN | apply Kd.R_drew)); exact HO_7.out⟩, ⟨by (with_reducible repeat (first | apply Kd.R_alloc | apply Kd.R_drewN | apply Kd.R_drew)); exact HO_8.out⟩, ⟨by (with_reducible repeat (first | refine blk_drewN ?_ _ | refine blk_drew ?_ | refine blk_alloc ?_ _)); exact BK605.out⟩, ⟨by (with_reducible repeat (first | refine blk_drewN ?_ _ | refine blk_drew ?_ | refine blk_alloc ?_ _)); exact BK606.out⟩, ⟨by repeat (first | (with_reducible first | exact HB.out | apply below_alloc | apply pw_below_drewN | apply below_drew1 | refine below_set ?_ GE605.out | refine below_set ?_ GE606.out) | exact HB.out)⟩⟩
            case round =>
              clear H'
              try clear c1
              try clear p2
              try clear c3
              try clear c3b0
              try clear c3b1
              try clear c6
              try clear c9
              try clear c9b0
              try clear c9b1
              try clear c11
              try clear c12
              try clear c17
              try clear c17b0
              try clear hcz13_0
              try clear hcz13_1
              try clear hcz7_0
              try clear hcz7_1
              try clear hfz13_0
              try clear hfz13_1
              try clear hfz7_0
              try clear hfz7_1
              try clear p2
              obtain ⟨x8_2, x9_2, x11_2, rfl, rfl, HA, HK2, HO_7, HO_8, BK605, BK606, HB⟩ := hrel
              cases gk with
              | zero => exact absurd HA.out (by simp [paymasterref01_Over.l1])
              | succ k2 =>
                have H := HA.out
                clear HA
                simp only [paymasterref01_Over.l1] at H
                by_cases c18 : x11_2 > 0
                · rw [if_pos c18] at H
                  have c18b0 : decide (0 < x11_2) = true := decide_eq_true c18
                  clear c18
                  by_cases c19 : 0 ≤ x10_1
                  · rw [if_pos c19] at H
                    have c19b0 : decide (0 ≤ x10_1) = true := decide_eq_true c19
                    clear c19
                    by_cases c20 : x10_1 < (t607.length : Int)
                    · rw [if_pos c20] at H
                      have c20b0 : decide (x10_1 < (t607.length : Int)) = true := decide_eq_true c20
                      clear c20
                      by_cases c21 : x11_2 = 0
                      · rw [if_pos c21] at H
                        exact absurd H (by simp)
                      · rw [if_neg c21] at H
                        have c21b0 : (x11_2 == 0) = false := beq_eq_false_iff_ne.mpr c21
                        have c21b1 : (x11_2 != 0) = true := bne_iff_ne.mpr c21
                        by_cases c22 : x9_2 ≥ (IntKind.u64.wrap (a1 - x9_2))
                        · rw [if_pos c22] at H
                          have c22b0 : decide ((IntKind.u64.wrap (a1 - x9_2)) ≤ x9_2) = true := decide_eq_true c22
                          clear c22
                          by_cases c23 : x10_1 < (x8_2.length : Int)
                          · rw [if_pos c23] at H
                            have c23b0 : decide (x10_1 < (x8_2.length : Int)) = true := decide_eq_true c23
                            clear c23
                            obtain ⟨y619, hy619⟩ : ∃ y_ : List Int, y_ = (x8_2.set (x10_1 : Int).toNat (IntKind.u64.wrap ((rd x8_2 x10_1) + x11_2))) := ⟨_, rfl⟩
                            replace H : (paymasterref01_Over.l1 k2 a1 t607 y619 (IntKind.u64.wrap ((IntKind.u64.wrap (x9_2 - (IntKind.u64.wrap (a1 - x9_2)))) + (Int.tmod (IntKind.u64.wrap (Int.tdiv (rd t607 x10_1) x11_2)) 2))) x10_1 (IntKind.u64.wrap (Int.tdiv x11_2 2))) = some (r1, r2, r3, r4) := by first | (rw [hy619]; with_reducible exact H) | (have H2_ := (Option.bind_some _ _).symm.trans H; rw [hy619]; with_reducible exact H2_) | (have H2_ := (Option.bind_some _ _).symm.trans H; with_reducible exact H2_) | with_reducible exact H | (rw [hy619]; exact H) | exact H
                            have Ny619 := Aside0.mk hy619
                            clear hy619
                            have H' := Aside0.mk H
                            clear H
                            obtain ⟨Ao25, co25, eo25⟩ := Kd.R_slice HO_7.out
                            subst eo25
                            have p617 : 0 ≤ (x10_1 : Int) := of_decide_eq_true (by first | (with_reducible assumption) | assumption)
                            have q617 : x10_1 < (t607.length : Int) := of_decide_eq_true (by first | (with_reducible assumption) | assumption)
                            obtain ⟨ad617, e617, hx617_0⟩ := Kd.at_int (Kd.R_reads' HO_7.out).2.2 x10_1 p617 q617
                            cases e617
                            replace p617 := eq_true p617
                            replace q617 := eq_true q617
                            obtain ⟨Ao26, co26, eo26⟩ := Kd.R_slice HO_8.out
                            subst eo26
                            have p618 : 0 ≤ (x10_1 : Int) := of_decide_eq_true (by first | (with_reducible assumption) | assumption)
                            have q618 : x10_1 < (x8_2.length : Int) := of_decide_eq_true (by first | (with_reducible assumption) | assumption)
                            obtain ⟨ad618, e618, hx618_0⟩ := Kd.at_int (Kd.R_reads' HO_8.out).2.2 x10_1 p618 q618
                            cases e618
                            replace p618 := eq_true p618
                            replace q618 := eq_true q618
                            have p24 : 0 ≤ (x10_1 : Int) := of_decide_eq_true (by first | (with_reducible assumption) | assumption)
                            have q24 : (x10_1 : Int) < ((x8_2.length : Int) : Int) := of_decide_eq_true (by first | (with_reducible assumption) | assumption)
                            obtain ⟨go24, co24, eo24, gb24, gl24, cl24, HG24⟩ := Kd.R_form HO_8.out (by omega)
                            (first | cases eo24 | (injection eo24 with ea_ en_ ec_; (first | subst ea_ | (injection ea_ with ea_; subst ea_)); subst ec_; clear en_))
                            have GB24 := Aside0.mk gb24
                            have GG24 := Aside0.mk HG24
                            clear gb24 gl24 HG24
                            (first | simp only [add_plain] at hx618_0 | skip)
                            obtain ⟨hx24_0, hf24_0⟩ := Kd.R_celln 0 HO_8.out (x10_1 : Int) p24 q24
                            replace p24 := eq_true p24
                            replace q24 := eq_true q24
                            have HP27 := Kd.R_putg HO_8.out (x10_1 : Int) (IntKind.u64.wrap ((rd x8_2 x10_1) + x11_2))
                            go_wp2_with (first | ((with_reducible refine gate_store (t := 40) (p := 68) rfl ?_); refine store_event (t := 40) (p := 68) (v := ?vo_w28) (w1 := (wr.setCell ⟨go24, (x10_1 : Int).toNat, none⟩ (.int .u64 (IntKind.u64.wrap ((rd x8_2 x10_1) + x11_2))))) ?hg ?ho ?hn ?hr ?_; (case ho => rfl); (case hg => rfl); (case hn => rfl); (case hr => first | (go_simp; done) | (go_simp; rfl)); intro w28 hw; have hg : wr.grownBy w28 (some go24) := (by rw [hw]; exact HP27.2); have hp_ : Kd.R (Kd.int .u64) 40 w28 w.heap.size (fun k_ => some k_ ≠ (.slice (some ad617) t607.length co25 : Value).ownBlock) (.slice (some ⟨go24, 0, none⟩) x8_2.length co26) y619 := (by rw [hw, Ny619.out]; exact HP27.1); clear HP27; have n0_ := Aside0.mk (Kd.R_after (v := (.slice (some ⟨go24, 0, none⟩) x8_2.length co26)) (v1 := (.slice (some ⟨go24, 0, none⟩) x8_2.length co26)) (ok := (fun _ => True)) (by (with_reducible repeat (first | apply Kd.R_alloc | apply Kd.R_drewN | apply Kd.R_drew)); exact Kd.R_mono HO_7.out (fun _ hk => ⟨trivial, hk⟩)) hg (.inl rfl)); have n1_ := Aside0.mk (hp_); have n2_ := Aside0.mk (blk_grown (g := gb605) (o := .cells #[.int .u64 a0_0, .int .u64 a0_1] 42 (0, 0)) (by (with_reducible repeat (first | refine blk_drewN ?_ _ | refine blk_drew ?_ | refine blk_alloc ?_ _)); exact BK605.out) hg (Kd.R_ne HO_8.out BK605.out (by decide))); have n3_ := Aside0.mk (blk_grown (g := gb606) (o := .cells #[.int .u64 0, .int .u64 0] 42 (0, 0)) (by (with_reducible repeat (first | refine blk_drewN ?_ _ | refine blk_drew ?_ | refine blk_alloc ?_ _)); exact BK606.out) hg (Kd.R_ne HO_8.out BK606.out (by decide))); have n4_ := Aside0.mk ((by rw [hw]; exact below_set (HB.out) GB24.out : Below w.heap.size w w28)); clear HO_7; clear HO_8; clear BK605; clear BK606; clear HB; have HO_7 := n0_; have HO_8 := n1_; have BK605 := n2_; have BK606 := n3_; have HB := n4_; clear n0_ n1_ n2_ n3_ n4_; clear hg hw hp_))
                            go_roundg k2
                            case measure => have := HK1.out; have := HK2.out; omega
                            case rel => exact ⟨(y619), (IntKind.u64.wrap ((IntKind.u64.wrap (x9_2 - (IntKind.u64.wrap (a1 - x9_2)))) + (Int.tmod (IntKind.u64.wrap (Int.tdiv (rd t607 x10_1) x11_2)) 2))), (IntKind.u64.wrap (Int.tdiv x11_2 2)), (by first | rfl | (simp; done) | (simp [*]; done)), (by first | rfl | (simp; done) | (simp [*]; done)), H', ⟨by have := HK1.out; have := HK2.out; omega⟩, ⟨by (with_reducible repeat (first | apply Kd.R_alloc | apply Kd.R_drewN | apply Kd.R_drew)); exact Kd.R_mono HO_7.out (fun _ hk => hk.2)⟩, ⟨by (with_reducible repeat (first | apply Kd.R_alloc | apply Kd.R_drewN | apply Kd.R_drew)); exact HO_8.out⟩, ⟨by (with_reducible repeat (first | refine blk_drewN ?_ _ | refine blk_drew ?_ | refine blk_alloc ?_ _)); exact BK605.out⟩, ⟨by (with_reducible repeat (first | refine blk_drewN ?_ _ | refine blk_drew ?_ | refine blk_alloc ?_ _)); exact BK606.out⟩, ⟨by repeat (first | (with_reducible first | exact HB.out | apply below_alloc | apply pw_below_drewN | apply below_drew1 | refine below_set ?_ GE605.out | refine below_set ?_ GE606.out) | exact HB.out)⟩⟩
                          · rw [if_neg c23] at H
                            exact absurd H (by simp)
                        · rw [if_neg c22] at H
                          have c22b0 : decide ((IntKind.u64.wrap (a1 - x9_2)) ≤ x9_2) = false := decide_eq_false c22
                          clear c22
                          by_cases c29 : (IntKind.u64.wrap (x9_2 + 1)) ≥ (IntKind.u64.wrap (a1 - x9_2))
                          · rw [if_pos c29] at H
                            have c29b0 : decide ((IntKind.u64.wrap (a1 - x9_2)) ≤ (IntKind.u64.wrap (x9_2 + 1))) = true := decide_eq_true c29
                            clear c29
                            by_cases c30 : (Int.tmod (IntKind.u64.wrap (Int.tdiv (rd t607 x10_1) x11_2)) 2) = 1
                            · rw [if_pos c30] at H
                              have c30b0 : ((Int.tmod (IntKind.u64.wrap (Int.tdiv (rd t607 x10_1) x11_2)) 2) == 1) = true := beq_iff_eq.mpr c30
                              have c30b1 : ((Int.tmod (IntKind.u64.wrap (Int.tdiv (rd t607 x10_1) x11_2)) 2) != 1) = false := bne_eq_false_iff_eq.mpr c30
                              clear c30
                              by_cases c31 : x10_1 < (x8_2.length : Int)
                              · rw [if_pos c31] at H
                                have c31b0 : decide (x10_1 < (x8_2.length : Int)) = true := decide_eq_true c31
                                clear c31
                                obtain ⟨y621, hy621⟩ : ∃ y_ : List Int, y_ = (x8_2.set (x10_1 : Int).toNat (IntKind.u64.wrap ((rd x8_2 x10_1) + x11_2))) := ⟨_, rfl⟩
                                replace H : (paymasterref01_Over.l1 k2 a1 t607 y621 (IntKind.u64.wrap ((IntKind.u64.wrap (x9_2 - (IntKind.u64.wrap (a1 - x9_2)))) + (Int.tmod (IntKind.u64.wrap (Int.tdiv (rd t607 x10_1) x11_2)) 2))) x10_1 (IntKind.u64.wrap (Int.tdiv x11_2 2))) = some (r1, r2, r3, r4) := by first | (rw [hy621]; with_reducible exact H) | (have H2_ := (Option.bind_some _ _).symm.trans H; rw [hy621]; with_reducible exact H2_) | (have H2_ := (Option.bind_some _ _).symm.trans H; with_reducible exact H2_) | with_reducible exact H | (rw [hy621]; exact H) | exact H
                                have Ny621 := Aside0.mk hy621
                                clear hy621
                                have H' := Aside0.mk H
                                clear H
                                obtain ⟨Ao33, co33, eo33⟩ := Kd.R_slice HO_7.out
                                subst eo33
                                have p617 : 0 ≤ (x10_1 : Int) := of_decide_eq_true (by first | (with_reducible assumption) | assumption)
                                have q617 : x10_1 < (t607.length : Int) := of_decide_eq_true (by first | (with_reducible assumption) | assumption)
                                obtain ⟨ad617, e617, hx617_0⟩ := Kd.at_int (Kd.R_reads' HO_7.out).2.2 x10_1 p617 q617
                                cases e617
                                replace p617 := eq_true p617
                                replace q617 := eq_true q617
                                obtain ⟨Ao34, co34, eo34⟩ := Kd.R_slice HO_8.out
                                subst eo34
                                have p620 : 0 ≤ (x10_1 : Int) := of_decide_eq_true (by first | (with_reducible assumption) | assumption)
                                have q620 : x10_1 < (x8_2.length : Int) := of_decide_eq_true (by first | (with_reducible assumption) | assumption)
                                obtain ⟨ad620, e620, hx620_0⟩ := Kd.at_int (Kd.R_reads' HO_8.out).2.2 x10_1 p620 q620
                                cases e620
                                replace p620 := eq_true p620
                                replace q620 := eq_true q620
                                have p32 : 0 ≤ (x10_1 : Int) := of_decide_eq_true (by first | (with_reducible assumption) | assumption)
                                have q32 : (x10_1 : Int) < ((x8_2.length : Int) : Int) := of_decide_eq_true (by first | (with_reducible assumption) | assumption)
                                obtain ⟨go32, co32, eo32, gb32, gl32, cl32, HG32⟩ := Kd.R_form HO_8.out (by omega)
                                (first | cases eo32 | (injection eo32 with ea_ en_ ec_; (first | subst ea_ | (injection ea_ with ea_; subst ea_)); subst ec_; clear en_))
                                have GB32 := Aside0.mk gb32
                                have GG32 := Aside0.mk HG32
                                clear gb32 gl32 HG32
                                (first | simp only [add_plain] at hx620_0 | skip)
                                obtain ⟨hx32_0, hf32_0⟩ := Kd.R_celln 0 HO_8.out (x10_1 : Int) p32 q32
                                replace p32 := eq_true p32
                                replace q32 := eq_true q32
                                have HP35 := Kd.R_putg HO_8.out (x10_1 : Int) (IntKind.u64.wrap ((rd x8_2 x10_1) + x11_2))
                                go_wp2_with (first | ((with_reducible refine gate_store (t := 40) (p := 68) rfl ?_); refine store_event (t := 40) (p := 68) (v := ?vo_w36) (w1 := (wr.setCell ⟨go32, (x10_1 : Int).toNat, none⟩ (.int .u64 (IntKind.u64.wrap ((rd x8_2 x10_1) + x11_2))))) ?hg ?ho ?hn ?hr ?_; (case ho => rfl); (case hg => rfl); (case hn => rfl); (case hr => first | (go_simp; done) | (go_simp; rfl)); intro w36 hw; have hg : wr.grownBy w36 (some go32) := (by rw [hw]; exact HP35.2); have hp_ : Kd.R (Kd.int .u64) 40 w36 w.heap.size (fun k_ => some k_ ≠ (.slice (some ad617) t607.length co33 : Value).ownBlock) (.slice (some ⟨go32, 0, none⟩) x8_2.length co34) y621 := (by rw [hw, Ny621.out]; exact HP35.1); clear HP35; have n0_ := Aside0.mk (Kd.R_after (v := (.slice (some ⟨go32, 0, none⟩) x8_2.length co34)) (v1 := (.slice (some ⟨go32, 0, none⟩) x8_2.length co34)) (ok := (fun _ => True)) (by (with_reducible repeat (first | apply Kd.R_alloc | apply Kd.R_drewN | apply Kd.R_drew)); exact Kd.R_mono HO_7.out (fun _ hk => ⟨trivial, hk⟩)) hg (.inl rfl)); have n1_ := Aside0.mk (hp_); have n2_ := Aside0.mk (blk_grown (g := gb605) (o := .cells #[.int .u64 a0_0, .int .u64 a0_1] 42 (0, 0)) (by (with_reducible repeat (first | refine blk_drewN ?_ _ | refine blk_drew ?_ | refine blk_alloc ?_ _)); exact BK605.out) hg (Kd.R_ne HO_8.out BK605.out (by decide))); have n3_ := Aside0.mk (blk_grown (g := gb606) (o := .cells #[.int .u64 0, .int .u64 0] 42 (0, 0)) (by (with_reducible repeat (first | refine blk_drewN ?_ _ | refine blk_drew ?_ | refine blk_alloc ?_ _)); exact BK606.out) hg (Kd.R_ne HO_8.out BK606.out (by decide))); have n4_ := Aside0.mk ((by rw [hw]; exact below_set (HB.out) GB32.out : Below w.heap.size w w36)); clear HO_7; clear HO_8; clear BK605; clear BK606; clear HB; have HO_7 := n0_; have HO_8 := n1_; have BK605 := n2_; have BK606 := n3_; have HB := n4_; clear n0_ n1_ n2_ n3_ n4_; clear hg hw hp_))
                                go_roundg k2
                                case measure => have := HK1.out; have := HK2.out; omega
                                case rel => exact ⟨(y621), (IntKind.u64.wrap ((IntKind.u64.wrap (x9_2 - (IntKind.u64.wrap (a1 - x9_2)))) + (Int.tmod (IntKind.u64.wrap (Int.tdiv (rd t607 x10_1) x11_2)) 2))), (IntKind.u64.wrap (Int.tdiv x11_2 2)), (by first | rfl | (simp; done) | (simp [*]; done)), (by first | rfl | (simp; done) | (simp [*]; done)), H', ⟨by have := HK1.out; have := HK2.out; omega⟩, ⟨by (with_reducible repeat (first | apply Kd.R_alloc | apply Kd.R_drewN | apply Kd.R_drew)); exact Kd.R_mono HO_7.out (fun _ hk => hk.2)⟩, ⟨by (with_reducible repeat (first | apply Kd.R_alloc | apply Kd.R_drewN | apply Kd.R_drew)); exact HO_8.out⟩, ⟨by (with_reducible repeat (first | refine blk_drewN ?_ _ | refine blk_drew ?_ | refine blk_alloc ?_ _)); exact BK605.out⟩, ⟨by (with_reducible repeat (first | refine blk_drewN ?_ _ | refine blk_drew ?_ | refine blk_alloc ?_ _)); exact BK606.out⟩, ⟨by repeat (first | (with_reducible first | exact HB.out | apply below_alloc | apply pw_below_drewN | apply below_drew1 | refine below_set ?_ GE605.out | refine below_set ?_ GE606.out) | exact HB.out)⟩⟩
                              · rw [if_neg c31] at H
                                exact absurd H (by simp)
                            · rw [if_neg c30] at H
                              have c30b0 : ((Int.tmod (IntKind.u64.wrap (Int.tdiv (rd t607 x10_1) x11_2)) 2) == 1) = false := beq_eq_false_iff_ne.mpr c30
                              have c30b1 : ((Int.tmod (IntKind.u64.wrap (Int.tdiv (rd t607 x10_1) x11_2)) 2) != 1) = true := bne_iff_ne.mpr c30
                              have H' := Aside0.mk H
                              clear H
                              obtain ⟨Ao37, co37, eo37⟩ := Kd.R_slice HO_7.out
                              subst eo37
                              have p617 : 0 ≤ (x10_1 : Int) := of_decide_eq_true (by first | (with_reducible assumption) | assumption)
                              have q617 : x10_1 < (t607.length : Int) := of_decide_eq_true (by first | (with_reducible assumption) | assumption)
                              obtain ⟨ad617, e617, hx617_0⟩ := Kd.at_int (Kd.R_reads' HO_7.out).2.2 x10_1 p617 q617
                              cases e617
                              replace p617 := eq_true p617
                              replace q617 := eq_true q617
                              go_wp2
                              go_roundg k2
                              case measure => have := HK1.out; have := HK2.out; omega
                              case rel => exact ⟨(x8_2), (IntKind.u64.wrap ((IntKind.u64.wrap (2 * x9_2)) + (Int.tmod (IntKind.u64.wrap (Int.tdiv (rd t607 x10_1) x11_2)) 2))), (IntKind.u64.wrap (Int.tdiv x11_2 2)), (by first | rfl | (simp; done) | (simp [*]; done)), (by first | rfl | (simp; done) | (simp [*]; done)), H', ⟨by have := HK1.out; have := HK2.out; omega⟩, ⟨by (with_reducible repeat (first | apply Kd.R_alloc | apply Kd.R_drewN | apply Kd.R_drew)); exact HO_7.out⟩, ⟨by (with_reducible repeat (first | apply Kd.R_alloc | apply Kd.R_drewN | apply Kd.R_drew)); exact HO_8.out⟩, ⟨by (with_reducible repeat (first | refine blk_drewN ?_ _ | refine blk_drew ?_ | refine blk_alloc ?_ _)); exact BK605.out⟩, ⟨by (with_reducible repeat (first | refine blk_drewN ?_ _ | refine blk_drew ?_ | refine blk_alloc ?_ _)); exact BK606.out⟩, ⟨by repeat (first | (with_reducible first | exact HB.out | apply below_alloc | apply pw_below_drewN | apply below_drew1 | refine below_set ?_ GE605.out | refine below_set ?_ GE606.out) | exact HB.out)⟩⟩
                          · rw [if_neg c29] at H
                            have c29b0 : decide ((IntKind.u64.wrap (a1 - x9_2)) ≤ (IntKind.u64.wrap (x9_2 + 1))) = false := decide_eq_false c29
                            clear c29
                            have H' := Aside0.mk H
                            clear H
                            obtain ⟨Ao38, co38, eo38⟩ := Kd.R_slice HO_7.out
                            subst eo38
                            have p617 : 0 ≤ (x10_1 : Int) := of_decide_eq_true (by first | (with_reducible assumption) | assumption)
                            have q617 : x10_1 < (t607.length : Int) := of_decide_eq_true (by first | (with_reducible assumption) | assumption)
                            obtain ⟨ad617, e617, hx617_0⟩ := Kd.at_int (Kd.R_reads' HO_7.out).2.2 x10_1 p617 q617
                            cases e617
                            replace p617 := eq_true p617
                            replace q617 := eq_true q617
                            go_wp2
                            go_roundg k2
                            case measure => have := HK1.out; have := HK2.out; omega
                            case rel => exact ⟨(x8_2), (IntKind.u64.wrap ((IntKind.u64.wrap (2 * x9_2)) + (Int.tmod (IntKind.u64.wrap (Int.tdiv (rd t607 x10_1) x11_2)) 2))), (IntKind.u64.wrap (Int.tdiv x11_2 2)), (by first | rfl | (simp; done) | (simp [*]; done)), (by first | rfl | (simp; done) | (simp [*]; done)), H', ⟨by have := HK1.out; have := HK2.out; omega⟩, ⟨by (with_reducible repeat (first | apply Kd.R_alloc | apply Kd.R_drewN | apply Kd.R_drew)); exact HO_7.out⟩, ⟨by (with_reducible repeat (first | apply Kd.R_alloc | apply Kd.R_drewN | apply Kd.R_drew)); exact HO_8.out⟩, ⟨by (with_reducible repeat (first | refine blk_drewN ?_ _ | refine blk_drew ?_ | refine blk_alloc ?_ _)); exact BK605.out⟩, ⟨by (with_reducible repeat (first | refine blk_drewN ?_ _ | refine blk_drew ?_ | refine blk_alloc ?_ _)); exact BK606.out⟩, ⟨by repeat (first | (with_reducible first | exact HB.out | apply below_alloc | apply pw_below_drewN | apply below_drew1 | refine below_set ?_ GE605.out | refine below_set ?_ GE606.out) | exact HB.out)⟩⟩
                    · rw [if_neg c20] at H
                      exact absurd H (by simp)
                  · rw [if_neg c19] at H
                    exact absurd H (by simp)
                · rw [if_neg c18] at H
                  have c18b0 : decide (0 < x11_2) = false := decide_eq_false c18
                  clear c18
                  have H' := Aside0.mk H
                  clear H
                  go_wp2
                  go_roundg k2
                  case measure => have := HK1.out; have := HK2.out; omega
                  case rel => exact ⟨(x8_2), (x9_2), (wrap64 (x10_1 - 1)), (by first | rfl | (simp; done) | (simp [*]; done)), (by first | rfl | (simp; done) | (simp [*]; done)), H', ⟨by have := HK1.out; have := HK2.out; omega⟩, ⟨by (with_reducible repeat (first | apply Kd.R_alloc | apply Kd.R_drewN | apply Kd.R_drew)); exact HO_7.out⟩, ⟨by (with_reducible repeat (first | apply Kd.R_alloc | apply Kd.R_drewN | apply Kd.R_drew)); exact HO_8.out⟩, ⟨by (with_reducible repeat (first | refine blk_drewN ?_ _ | refine blk_drew ?_ | refine blk_alloc ?_ _)); exact BK605.out⟩, ⟨by (with_reducible repeat (first | refine blk_drewN ?_ _ | refine blk_drew ?_ | refine blk_alloc ?_ _)); exact BK606.out⟩, ⟨by repeat (first | (with_reducible first | exact HB.out | apply below_alloc | apply pw_below_drewN | apply below_drew1 | refine below_set ?_ GE605.out | refine below_set ?_ GE606.out) | exact HB.out)⟩⟩
          · rw [if_neg c17] at H
            have c17b0 : decide (0 ≤ x10_1) = false := decide_eq_false c17
            clear c17
            replace H := Option.bind_eq_some_iff.mp H
            obtain ⟨⟨t613, t614, t615⟩, A390, H⟩ := H
            replace H : (some (t613, t614, x9_1, 0)) = some (r1, r2, r3, r4) := H
            have A39 := Aside0.mk A390
            clear A390
            simp only [Option.some.injEq, Prod.mk.injEq] at H
            obtain ⟨rfl, rfl, rfl, rfl⟩ := H
            obtain ⟨Ao40, co40, eo40⟩ := Kd.R_slice HO_8.out
            subst eo40
            go_wp2_with (first | ((with_reducible refine gate_callee (f := 129) rfl ?_); refine goesL_ (some 75) rfl rfl Tryd.func129 (by kernel_rfl) rfl #[.slice Ao40 x8_1.length co40] rfl (by (try simp only [List.map_toArray, List.map_cons, List.map_nil]); first | done | rfl | (simp only [List.length_drop, List.length_take]; rfl)) ?_; (with_reducible refine (paymasterref01_number.calls k1 _ _ x8_1 t613 t614 t615 _ ?side1 ?side2 A39.out).mono ?_); (case side1 => repeat (first | exact (Kd.R_reads' HO_8.out).2.2 | (with_reducible refine Kd.C_alloc ?_ _) | (with_reducible refine Kd.C_drewN ?_ _) | (with_reducible refine Kd.C_drew ?_))); (case side2 => exact (Kd.R_reads' HO_8.out).2.1); rintro e w41 ⟨rfl, hb⟩; refine ⟨_, rfl, ?_⟩; have n0_ := Aside0.mk (Kd.R_below (by (with_reducible repeat (first | apply Kd.R_alloc | apply Kd.R_drewN | apply Kd.R_drew)); exact HO_7.out) hb); have n1_ := Aside0.mk (Kd.R_below (by (with_reducible repeat (first | apply Kd.R_alloc | apply Kd.R_drewN | apply Kd.R_drew)); exact HO_8.out) hb); have n2_ := Aside0.mk (blk_below (g := gb605) (o := .cells #[.int .u64 a0_0, .int .u64 a0_1] 42 (0, 0)) (by (with_reducible repeat (first | refine blk_drewN ?_ _ | refine blk_drew ?_ | refine blk_alloc ?_ _)); exact BK605.out) hb); have n3_ := Aside0.mk (blk_below (g := gb606) (o := .cells #[.int .u64 0, .int .u64 0] 42 (0, 0)) (by (with_reducible repeat (first | refine blk_drewN ?_ _ | refine blk_drew ?_ | refine blk_alloc ?_ _)); exact BK606.out) hb); have n4_ := Aside0.mk (below_step (by repeat (first | (with_reducible first | exact HB.out | apply below_alloc | apply pw_below_drewN | apply below_drew1 | refine below_set ?_ GE605.out | refine below_set ?_ GE606.out) | exact HB.out)) hb); clear HO_7; clear HO_8; clear BK605; clear BK606; clear HB; have HO_7 := n0_; have HO_8 := n1_; have BK605 := n2_; have BK606 := n3_; have HB := n4_; clear n0_ n1_ n2_ n3_ n4_; (try clear hb); (try clear hb2); (try clear hk); (try clear hi)) | ((with_reducible refine gate_dst (N := 13) rfl ?_); refine box_event ?hg (N := 13) ?hd (cs := #[.int .u64 0, .int .u64 0]) (t := 42) ?hr ?_; (case hd => rfl); (case hg => rfl); (case hr => first | (go_simp; done) | (go_simp; rfl)); intro gb616 hg w42 hbox hb; have n0_ := Aside0.mk (Kd.R_below (by (with_reducible repeat (first | apply Kd.R_alloc | apply Kd.R_drewN | apply Kd.R_drew)); exact HO_7.out) hb); have n1_ := Aside0.mk (Kd.R_below (by (with_reducible repeat (first | apply Kd.R_alloc | apply Kd.R_drewN | apply Kd.R_drew)); exact HO_8.out) hb); have n2_ := Aside0.mk (blk_below (g := gb605) (o := .cells #[.int .u64 a0_0, .int .u64 a0_1] 42 (0, 0)) (by (with_reducible repeat (first | refine blk_drewN ?_ _ | refine blk_drew ?_ | refine blk_alloc ?_ _)); exact BK605.out) hb); have n3_ := Aside0.mk (blk_below (g := gb606) (o := .cells #[.int .u64 0, .int .u64 0] 42 (0, 0)) (by (with_reducible repeat (first | refine blk_drewN ?_ _ | refine blk_drew ?_ | refine blk_alloc ?_ _)); exact BK606.out) hb); have n4_ := Aside0.mk (below_step (by repeat (first | (with_reducible first | exact HB.out | apply below_alloc | apply pw_below_drewN | apply below_drew1 | refine below_set ?_ GE605.out | refine below_set ?_ GE606.out) | exact HB.out)) hb); have n5_ := Aside0.mk (hbox); have n6_ := Aside0.mk ((by rw [hg]; exact (below_size (by repeat (first | (with_reducible first | exact HB.out | apply below_alloc | apply pw_below_drewN | apply below_drew1 | refine below_set ?_ GE605.out | refine below_set ?_ GE606.out) | exact HB.out))) : w.heap.size ≤ gb616)); have n7_ := Aside0.mk ((by rw [hg]; exact (below_size (by repeat (first | (with_reducible first | exact HB.out | apply below_alloc | apply pw_below_drewN | apply below_drew1 | refine below_set ?_ GE605.out | refine below_set ?_ GE606.out) | exact HB.out))) : w.heap.size ≤ gb616)); have n8_ := Aside0.mk ((by rw [hg]; exact Nat.ne_of_lt (blk_lt (g := gb605) (o := .cells #[.int .u64 a0_0, .int .u64 a0_1] 42 (0, 0)) (by (with_reducible repeat (first | refine blk_drewN ?_ _ | refine blk_drew ?_ | refine blk_alloc ?_ _)); exact BK605.out)) : gb605 ≠ gb616)); have n9_ := Aside0.mk ((by rw [hg]; exact Nat.ne_of_gt (blk_lt (g := gb605) (o := .cells #[.int .u64 a0_0, .int .u64 a0_1] 42 (0, 0)) (by (with_reducible repeat (first | refine blk_drewN ?_ _ | refine blk_drew ?_ | refine blk_alloc ?_ _)); exact BK605.out)) : gb616 ≠ gb605)); have n10_ := Aside0.mk ((by rw [hg]; exact Nat.ne_of_lt (blk_lt (g := gb606) (o := .cells #[.int .u64 0, .int .u64 0] 42 (0, 0)) (by (with_reducible repeat (first | refine blk_drewN ?_ _ | refine blk_drew ?_ | refine blk_alloc ?_ _)); exact BK606.out)) : gb606 ≠ gb616)); have n11_ := Aside0.mk ((by rw [hg]; exact Nat.ne_of_gt (blk_lt (g := gb606) (o := .cells #[.int .u64 0, .int .u64 0] 42 (0, 0)) (by (with_reducible repeat (first | refine blk_drewN ?_ _ | refine blk_drew ?_ | refine blk_alloc ?_ _)); exact BK606.out)) : gb616 ≠ gb606)); clear HO_7; clear HO_8; clear BK605; clear BK606; clear HB; have HO_7 := n0_; have HO_8 := n1_; have BK605 := n2_; have BK606 := n3_; have HB := n4_; have BK616 := n5_; have GW616 := n6_; have GE616 := n7_; have NB605_616 := n8_; have NB616_605 := n9_; have NB606_616 := n10_; have NB616_606 := n11_; clear n0_ n1_ n2_ n3_ n4_ n5_ n6_ n7_ n8_ n9_ n10_ n11_; clear hb hbox hg; have hnb43 := NB616_605.out; have hnc43 := NB605_616.out; have hnb44 := NB616_606.out; have hnc44 := NB606_616.out; have hcz45_0 : w42.cell? ⟨gb616, 0, none⟩ = some (.int .u64 0) := (blk_cell BK616.out 0).trans rfl; have hcz45_1 : w42.cell? ⟨gb616, 1, none⟩ = some (.int .u64 0) := (blk_cell BK616.out 1).trans rfl; have hfz45_0 := blk_frozen BK616.out 0; have hfz45_1 := blk_frozen BK616.out 1; have hnb46 := NB606_605.out; have hnc46 := NB605_606.out; have hcz47_0 : w42.cell? ⟨gb606, 0, none⟩ = some (.int .u64 0) := (blk_cell BK606.out 0).trans rfl; have hcz47_1 : w42.cell? ⟨gb606, 1, none⟩ = some (.int .u64 0) := (blk_cell BK606.out 1).trans rfl; have hfz47_0 := blk_frozen BK606.out 0; have hfz47_1 := blk_frozen BK606.out 1))
            refine bodyPost_ret (results_ctt rfl _ _ gb606 42 #[.int .u64 t613, .int .u64 t614] (0, 0) _ rfl (by (with_reducible repeat (first | refine blk_drewN ?_ _ | refine blk_drew ?_ | refine blk_alloc ?_ _)); refine blk_put (cs := #[.int .u64 t613, .int .u64 0]) ?_ 1 _ rfl; (with_reducible repeat (first | refine blk_drewN ?_ _ | refine blk_drew ?_ | refine blk_alloc ?_ _)); refine blk_put (cs := #[.int .u64 0, .int .u64 0]) ?_ 0 _ rfl; (with_reducible repeat (first | refine blk_drewN ?_ _ | refine blk_drew ?_ | refine blk_alloc ?_ _)); refine blk_far ?_ NB606_616.out _; (with_reducible repeat (first | refine blk_drewN ?_ _ | refine blk_drew ?_ | refine blk_alloc ?_ _)); refine blk_far ?_ NB606_616.out _; (with_reducible repeat (first | refine blk_drewN ?_ _ | refine blk_drew ?_ | refine blk_alloc ?_ _)); exact BK606.out) Tryd.underlying42 rfl (by kernel_rfl)) rfl ?_
            exact ⟨by first | rfl | (simp [errW_none, errW_some] <;> rfl) | (simp [*, errW_none, errW_some] <;> rfl), by repeat (first | (with_reducible first | exact HB.out | apply below_alloc | apply pw_below_drewN | apply below_drew1 | refine below_set ?_ GE605.out | refine below_set ?_ GE606.out | refine below_set ?_ GE616.out) | exact HB.out)⟩
    · rw [if_neg c9] at H
      exact absurd H (by simp)
def paymasterref02_Text.f : Nat → Int → Int → Option (ByteArray)
  | 0, _, _ => none
  | k + 1, a0_0, a0_1 => (paymasterref01_Over.f k a0_0 a0_1 10).bind fun bt623 => ((some (([(48 + ((bt623.2.2.1) % 256)) % 256] : List Int) : List Int)).bind fun y628 => (if (bt623.1 == 0 && (bt623.2.1 == 0)) = true then (some (strOfNums y628)) else ((paymasterref02_Text.f k bt623.1 bt623.2.1).bind fun t631 => (if t631.size + (strOfNums y628).size ≤ 9223372036854775807 then (some (t631 ++ (strOfNums y628))) else (none)))))
set_option maxHeartbeats 8000000 in
set_option maxRecDepth 100000 in
theorem paymasterref02_Text.calls (k : Nat) : ∀ (a0_0 : Int) (a0_1 : Int) (r : ByteArray) (w : World) (h : paymasterref02_Text.f k a0_0 a0_1 = some r),
    Calls Tryd.prog 86 #[.agg #[.int .u64 a0_0, .int .u64 a0_1]] w fun e w' => e = .returned (.string r) ∧ Below w.heap.size w w' := by
  induction k using Nat.strongRecOn with
  | _ k ih =>
  intro a0_0 a0_1 r w h
  cases k with
  | zero => exact absurd h (by simp [paymasterref02_Text.f])
  | succ k =>
  simp only [paymasterref02_Text.f] at h
  have hu42 := Tryd.underlying42
  have HB := Aside0.mk (Below.refl w.heap.size w)
  have H : ((paymasterref01_Over.f k a0_0 a0_1 10).bind fun bt623 => ((some (([(48 + ((bt623.2.2.1) % 256)) % 256] : List Int) : List Int)).bind fun y628 => (if (bt623.1 == 0 && (bt623.2.1 == 0)) = true then (some (strOfNums y628)) else ((paymasterref02_Text.f k bt623.1 bt623.2.1).bind fun t631 => (if t631.size + (strOfNums y628).size ≤ 9223372036854775807 then (some (t631 ++ (strOfNums y628))) else (none)))))) = some r := h
  clear h
  replace H := Option.bind_eq_some_iff.mp H
  obtain ⟨⟨t623, t624, t625, t626⟩, A20, H⟩ := H
  replace H : ((some (([(48 + ((t625) % 256)) % 256] : List Int) : List Int)).bind fun y628 => (if (t623 == 0 && (t624 == 0)) = true then (some (strOfNums y628)) else ((paymasterref02_Text.f k t623 t624).bind fun t631 => (if t631.size + (strOfNums y628).size ≤ 9223372036854775807 then (some (t631 ++ (strOfNums y628))) else (none))))) = some r := H
  have A2 := Aside0.mk A20
  clear A20
  obtain ⟨y628, hy628⟩ : ∃ y_ : List Int, y_ = (([(48 + ((t625) % 256)) % 256] : List Int)) := ⟨_, rfl⟩
  replace H : (if (t623 == 0 && (t624 == 0)) = true then (some (strOfNums y628)) else ((paymasterref02_Text.f k t623 t624).bind fun t631 => (if t631.size + (strOfNums y628).size ≤ 9223372036854775807 then (some (t631 ++ (strOfNums y628))) else (none)))) = some r := by first | (rw [hy628]; with_reducible exact H) | (have H2_ := (Option.bind_some _ _).symm.trans H; rw [hy628]; with_reducible exact H2_) | (have H2_ := (Option.bind_some _ _).symm.trans H; with_reducible exact H2_) | with_reducible exact H | (rw [hy628]; exact H) | exact H
  have Ny628 := Aside0.mk hy628
  clear hy628
  by_cases c3 : (t623 == 0 && (t624 == 0)) = true
  · rw [if_pos c3] at H
    have c3b0 : (t623 == 0 && (t624 == 0)) = true := c3
    (try (have c3b1 : decide (t623 = 0 && (t624 == 0)) = true := by simpa using c3))
    (try (have c3b2 : (t623 == 0 && (t624 == 0)) = true := by simpa using c3))
    clear c3
    obtain rfl := Option.some.inj H
    go_enter Tryd.func86, Tryd.ntmps86
    go_wp2_with (first | ((with_reducible refine gate_dst (N := 1) rfl ?_); refine box_event ?hg (N := 1) ?hd (cs := #[.int .u64 a0_0, .int .u64 a0_1]) (t := 42) ?hr ?_; (case hd => rfl); (case hg => rfl); (case hr => first | (go_simp; done) | (go_simp; rfl)); intro gb622 hg w4 hbox hb; have n0_ := Aside0.mk (below_step (by repeat (first | (with_reducible first | exact HB.out | apply below_alloc | apply pw_below_drewN | apply below_drew1) | exact HB.out)) hb); have n1_ := Aside0.mk (hbox); have n2_ := Aside0.mk ((by rw [hg]; exact (below_size (by repeat (first | (with_reducible first | exact HB.out | apply below_alloc | apply pw_below_drewN | apply below_drew1) | exact HB.out))) : w.heap.size ≤ gb622)); have n3_ := Aside0.mk ((by rw [hg]; exact (below_size (by repeat (first | (with_reducible first | exact HB.out | apply below_alloc | apply pw_below_drewN | apply below_drew1) | exact HB.out))) : w.heap.size ≤ gb622)); clear HB; have HB := n0_; have BK622 := n1_; have GW622 := n2_; have GE622 := n3_; clear n0_ n1_ n2_ n3_; clear hb hbox hg; have hcz5_0 : w4.cell? ⟨gb622, 0, none⟩ = some (.int .u64 a0_0) := (blk_cell BK622.out 0).trans rfl; have hcz5_1 : w4.cell? ⟨gb622, 1, none⟩ = some (.int .u64 a0_1) := (blk_cell BK622.out 1).trans rfl; have hfz5_0 := blk_frozen BK622.out 0; have hfz5_1 := blk_frozen BK622.out 1) | ((with_reducible refine gate_callee (f := 116) rfl ?_); refine goesL_ (some 9) rfl rfl Tryd.func116 (by kernel_rfl) rfl #[.agg #[.int .u64 a0_0, .int .u64 a0_1], .int .u64 10] rfl (by (try simp only [List.map_toArray, List.map_cons, List.map_nil]); first | done | rfl | (simp only [List.length_drop, List.length_take]; rfl)) ?_; (with_reducible refine (paymasterref01_Over.calls k a0_0 a0_1 10 t623 t624 t625 t626 _ A2.out).mono ?_); rintro e w6 ⟨rfl, hb⟩; refine ⟨_, rfl, ?_⟩; have n0_ := Aside0.mk (blk_below (g := gb622) (o := .cells #[.int .u64 a0_0, .int .u64 a0_1] 42 (0, 0)) (by (with_reducible repeat (first | refine blk_drewN ?_ _ | refine blk_drew ?_ | refine blk_alloc ?_ _)); exact BK622.out) hb); have n1_ := Aside0.mk (below_step (by repeat (first | (with_reducible first | exact HB.out | apply below_alloc | apply pw_below_drewN | apply below_drew1 | refine below_set ?_ GE622.out) | exact HB.out)) hb); clear BK622; clear HB; have BK622 := n0_; have HB := n1_; clear n0_ n1_; (try clear hb); (try clear hb2); (try clear hk); (try clear hi)) | ((with_reducible refine gate_dst (N := 3) rfl ?_); refine box_event ?hg (N := 3) ?hd (cs := #[.int .u64 0, .int .u64 0]) (t := 42) ?hr ?_; (case hd => rfl); (case hg => rfl); (case hr => first | (go_simp; done) | (go_simp; rfl)); intro gb627 hg w7 hbox hb; have n0_ := Aside0.mk (blk_below (g := gb622) (o := .cells #[.int .u64 a0_0, .int .u64 a0_1] 42 (0, 0)) (by (with_reducible repeat (first | refine blk_drewN ?_ _ | refine blk_drew ?_ | refine blk_alloc ?_ _)); exact BK622.out) hb); have n1_ := Aside0.mk (below_step (by repeat (first | (with_reducible first | exact HB.out | apply below_alloc | apply pw_below_drewN | apply below_drew1 | refine below_set ?_ GE622.out) | exact HB.out)) hb); have n2_ := Aside0.mk (hbox); have n3_ := Aside0.mk ((by rw [hg]; exact (below_size (by repeat (first | (with_reducible first | exact HB.out | apply below_alloc | apply pw_below_drewN | apply below_drew1 | refine below_set ?_ GE622.out) | exact HB.out))) : w.heap.size ≤ gb627)); have n4_ := Aside0.mk ((by rw [hg]; exact (below_size (by repeat (first | (with_reducible first | exact HB.out | apply below_alloc | apply pw_below_drewN | apply below_drew1 | refine below_set ?_ GE622.out) | exact HB.out))) : w.heap.size ≤ gb627)); have n5_ := Aside0.mk ((by rw [hg]; exact Nat.ne_of_lt (blk_lt (g := gb622) (o := .cells #[.int .u64 a0_0, .int .u64 a0_1] 42 (0, 0)) (by (with_reducible repeat (first | refine blk_drewN ?_ _ | refine blk_drew ?_ | refine blk_alloc ?_ _)); exact BK622.out)) : gb622 ≠ gb627)); have n6_ := Aside0.mk ((by rw [hg]; exact Nat.ne_of_gt (blk_lt (g := gb622) (o := .cells #[.int .u64 a0_0, .int .u64 a0_1] 42 (0, 0)) (by (with_reducible repeat (first | refine blk_drewN ?_ _ | refine blk_drew ?_ | refine blk_alloc ?_ _)); exact BK622.out)) : gb627 ≠ gb622)); clear BK622; clear HB; have BK622 := n0_; have HB := n1_; have BK627 := n2_; have GW627 := n3_; have GE627 := n4_; have NB622_627 := n5_; have NB627_622 := n6_; clear n0_ n1_ n2_ n3_ n4_ n5_ n6_; clear hb hbox hg; have hnb8 := NB627_622.out; have hnc8 := NB622_627.out; have hcz9_0 : w7.cell? ⟨gb627, 0, none⟩ = some (.int .u64 0) := (blk_cell BK627.out 0).trans rfl; have hcz9_1 : w7.cell? ⟨gb627, 1, none⟩ = some (.int .u64 0) := (blk_cell BK627.out 1).trans rfl; have hfz9_0 := blk_frozen BK627.out 0; have hfz9_1 := blk_frozen BK627.out 1) | ((with_reducible refine gate_dst (N := 16) rfl ?_); refine Kd.R_lit (Kd.int .u8) _ 5 ?hg (N := 16) ?hd (xs := ([(48 + ((t625) % 256)) % 256] : List Int)) (inner := [.int .u8 ((48 + ((t625) % 256)) % 256)]) (ok := fun _ => True) (okp := fun _ => True) ?hr ?hp (fun _ hk => hk) trivial (Below.refl _ _) (Nat.le_refl _) (by simp) ?_; (case hd => rfl); (case hg => rfl); (case hr => first | (go_simp; done) | (go_simp; rfl)); (case hp => exact (Reps.one (show Kd.M (Kd.int .u8) _ _ _ ((48 + ((t625) % 256)) % 256) [.int .u8 ((48 + ((t625) % 256)) % 256)] from rfl) (Reps.none _ _))); intro v629 w10 ho11 hb hg_ hnew_; clear hg_ hnew_; (first | rw [← Ny628.out] at ho11 | (simp only [Int.reduceToNat] at ho11; rw [← Ny628.out] at ho11)); have n0_ := Aside0.mk (Kd.R_lower ho11 (below_size (by repeat (first | (with_reducible first | exact HB.out | apply below_alloc | apply pw_below_drewN | apply below_drew1 | refine below_set ?_ GE622.out | refine below_set ?_ GE627.out) | exact HB.out)))); have n1_ := Aside0.mk (blk_below (g := gb622) (o := .cells #[.int .u64 a0_0, .int .u64 a0_1] 42 (0, 0)) (by (with_reducible repeat (first | refine blk_drewN ?_ _ | refine blk_drew ?_ | refine blk_alloc ?_ _)); refine blk_far ?_ NB622_627.out _; (with_reducible repeat (first | refine blk_drewN ?_ _ | refine blk_drew ?_ | refine blk_alloc ?_ _)); refine blk_far ?_ NB622_627.out _; (with_reducible repeat (first | refine blk_drewN ?_ _ | refine blk_drew ?_ | refine blk_alloc ?_ _)); exact BK622.out) hb); have n2_ := Aside0.mk (blk_below (g := gb627) (o := .cells #[.int .u64 t623, .int .u64 t624] 42 (0, 0)) (by (with_reducible repeat (first | refine blk_drewN ?_ _ | refine blk_drew ?_ | refine blk_alloc ?_ _)); refine blk_put (cs := #[.int .u64 t623, .int .u64 0]) ?_ 1 _ rfl; (with_reducible repeat (first | refine blk_drewN ?_ _ | refine blk_drew ?_ | refine blk_alloc ?_ _)); refine blk_put (cs := #[.int .u64 0, .int .u64 0]) ?_ 0 _ rfl; (with_reducible repeat (first | refine blk_drewN ?_ _ | refine blk_drew ?_ | refine blk_alloc ?_ _)); exact BK627.out) hb); have n3_ := Aside0.mk (below_step (by repeat (first | (with_reducible first | exact HB.out | apply below_alloc | apply pw_below_drewN | apply below_drew1 | refine below_set ?_ GE622.out | refine below_set ?_ GE627.out) | exact HB.out)) hb); clear BK622; clear BK627; clear HB; have HO630 := n0_; have BK622 := n1_; have BK627 := n2_; have HB := n3_; clear n0_ n1_ n2_ n3_; clear hb ho11; have hcv12 := own_string (P := Tryd.prog) Tryd.underlying82 Tryd.underlying5 Tryd.underlying9 (Kd.own_of_R HO630.out); have hcz13_0 : w10.cell? ⟨gb627, 0, none⟩ = some (.int .u64 t623) := (blk_cell BK627.out 0).trans rfl; have hcz13_1 : w10.cell? ⟨gb627, 1, none⟩ = some (.int .u64 t624) := (blk_cell BK627.out 1).trans rfl; have hfz13_0 := blk_frozen BK627.out 0; have hfz13_1 := blk_frozen BK627.out 1))
    go_ret
    exact ⟨by first | rfl | (simp [errW_none, errW_some] <;> rfl) | (simp [*, errW_none, errW_some] <;> rfl), by repeat (first | (with_reducible first | exact HB.out | apply below_alloc | apply pw_below_drewN | apply below_drew1 | refine below_set ?_ GE622.out | refine below_set ?_ GE627.out) | exact HB.out)⟩
  · rw [if_neg c3] at H
    have c3b0 : (t623 == 0 && (t624 == 0)) = false := by simpa using c3
    (try (have c3b1 : decide (t623 = 0 && (t624 == 0)) = false := by simpa using c3))
    (try (have c3b2 : (t623 == 0 && (t624 == 0)) = false := by simpa using c3))
    (try (have c3b3 : ¬ (t623 = 0 && (t624 == 0)) := by simpa using c3))
    clear c3
    replace H := Option.bind_eq_some_iff.mp H
    obtain ⟨t631, A140, H⟩ := H
    replace H : (if t631.size + (strOfNums y628).size ≤ 9223372036854775807 then (some (t631 ++ (strOfNums y628))) else (none)) = some r := H
    have A14 := Aside0.mk A140
    clear A140
    by_cases c15 : t631.size + (strOfNums y628).size ≤ 9223372036854775807
    · rw [if_pos c15] at H
      have c15b0 := eq_true c15
      have c15b1 : decide (t631.size + (strOfNums y628).size ≤ 9223372036854775807) = true := decide_eq_true c15
      try have c15b2 : (9223372036854775807 < t631.size + (strOfNums y628).size) = False := eq_false (Nat.not_lt.2 c15)
      obtain rfl := Option.some.inj H
      go_enter Tryd.func86, Tryd.ntmps86
      go_wp2_with (first | ((with_reducible refine gate_dst (N := 1) rfl ?_); refine box_event ?hg (N := 1) ?hd (cs := #[.int .u64 a0_0, .int .u64 a0_1]) (t := 42) ?hr ?_; (case hd => rfl); (case hg => rfl); (case hr => first | (go_simp; done) | (go_simp; rfl)); intro gb622 hg w16 hbox hb; have n0_ := Aside0.mk (below_step (by repeat (first | (with_reducible first | exact HB.out | apply below_alloc | apply pw_below_drewN | apply below_drew1) | exact HB.out)) hb); have n1_ := Aside0.mk (hbox); have n2_ := Aside0.mk ((by rw [hg]; exact (below_size (by repeat (first | (with_reducible first | exact HB.out | apply below_alloc | apply pw_below_drewN | apply below_drew1) | exact HB.out))) : w.heap.size ≤ gb622)); have n3_ := Aside0.mk ((by rw [hg]; exact (below_size (by repeat (first | (with_reducible first | exact HB.out | apply below_alloc | apply pw_below_drewN | apply below_drew1) | exact HB.out))) : w.heap.size ≤ gb622)); clear HB; have HB := n0_; have BK622 := n1_; have GW622 := n2_; have GE622 := n3_; clear n0_ n1_ n2_ n3_; clear hb hbox hg; have hcz17_0 : w16.cell? ⟨gb622, 0, none⟩ = some (.int .u64 a0_0) := (blk_cell BK622.out 0).trans rfl; have hcz17_1 : w16.cell? ⟨gb622, 1, none⟩ = some (.int .u64 a0_1) := (blk_cell BK622.out 1).trans rfl; have hfz17_0 := blk_frozen BK622.out 0; have hfz17_1 := blk_frozen BK622.out 1) | ((with_reducible refine gate_callee (f := 116) rfl ?_); refine goesL_ (some 9) rfl rfl Tryd.func116 (by kernel_rfl) rfl #[.agg #[.int .u64 a0_0, .int .u64 a0_1], .int .u64 10] rfl (by (try simp only [List.map_toArray, List.map_cons, List.map_nil]); first | done | rfl | (simp only [List.length_drop, List.length_take]; rfl)) ?_; (with_reducible refine (paymasterref01_Over.calls k a0_0 a0_1 10 t623 t624 t625 t626 _ A2.out).mono ?_); rintro e w18 ⟨rfl, hb⟩; refine ⟨_, rfl, ?_⟩; have n0_ := Aside0.mk (blk_below (g := gb622) (o := .cells #[.int .u64 a0_0, .int .u64 a0_1] 42 (0, 0)) (by (with_reducible repeat (first | refine blk_drewN ?_ _ | refine blk_drew ?_ | refine blk_alloc ?_ _)); exact BK622.out) hb); have n1_ := Aside0.mk (below_step (by repeat (first | (with_reducible first | exact HB.out | apply below_alloc | apply pw_below_drewN | apply below_drew1 | refine below_set ?_ GE622.out) | exact HB.out)) hb); clear BK622; clear HB; have BK622 := n0_; have HB := n1_; clear n0_ n1_; (try clear hb); (try clear hb2); (try clear hk); (try clear hi)) | ((with_reducible refine gate_dst (N := 3) rfl ?_); refine box_event ?hg (N := 3) ?hd (cs := #[.int .u64 0, .int .u64 0]) (t := 42) ?hr ?_; (case hd => rfl); (case hg => rfl); (case hr => first | (go_simp; done) | (go_simp; rfl)); intro gb627 hg w19 hbox hb; have n0_ := Aside0.mk (blk_below (g := gb622) (o := .cells #[.int .u64 a0_0, .int .u64 a0_1] 42 (0, 0)) (by (with_reducible repeat (first | refine blk_drewN ?_ _ | refine blk_drew ?_ | refine blk_alloc ?_ _)); exact BK622.out) hb); have n1_ := Aside0.mk (below_step (by repeat (first | (with_reducible first | exact HB.out | apply below_alloc | apply pw_below_drewN | apply below_drew1 | refine below_set ?_ GE622.out) | exact HB.out)) hb); have n2_ := Aside0.mk (hbox); have n3_ := Aside0.mk ((by rw [hg]; exact (below_size (by repeat (first | (with_reducible first | exact HB.out | apply below_alloc | apply pw_below_drewN | apply below_drew1 | refine below_set ?_ GE622.out) | exact HB.out))) : w.heap.size ≤ gb627)); have n4_ := Aside0.mk ((by rw [hg]; exact (below_size (by repeat (first | (with_reducible first | exact HB.out | apply below_alloc | apply pw_below_drewN | apply below_drew1 | refine below_set ?_ GE622.out) | exact HB.out))) : w.heap.size ≤ gb627)); have n5_ := Aside0.mk ((by rw [hg]; exact Nat.ne_of_lt (blk_lt (g := gb622) (o := .cells #[.int .u64 a0_0, .int .u64 a0_1] 42 (0, 0)) (by (with_reducible repeat (first | refine blk_drewN ?_ _ | refine blk_drew ?_ | refine blk_alloc ?_ _)); exact BK622.out)) : gb622 ≠ gb627)); have n6_ := Aside0.mk ((by rw [hg]; exact Nat.ne_of_gt (blk_lt (g := gb622) (o := .cells #[.int .u64 a0_0, .int .u64 a0_1] 42 (0, 0)) (by (with_reducible repeat (first | refine blk_drewN ?_ _ | refine blk_drew ?_ | refine blk_alloc ?_ _)); exact BK622.out)) : gb627 ≠ gb622)); clear BK622; clear HB; have BK622 := n0_; have HB := n1_; have BK627 := n2_; have GW627 := n3_; have GE627 := n4_; have NB622_627 := n5_; have NB627_622 := n6_; clear n0_ n1_ n2_ n3_ n4_ n5_ n6_; clear hb hbox hg; have hnb20 := NB627_622.out; have hnc20 := NB622_627.out; have hcz21_0 : w19.cell? ⟨gb627, 0, none⟩ = some (.int .u64 0) := (blk_cell BK627.out 0).trans rfl; have hcz21_1 : w19.cell? ⟨gb627, 1, none⟩ = some (.int .u64 0) := (blk_cell BK627.out 1).trans rfl; have hfz21_0 := blk_frozen BK627.out 0; have hfz21_1 := blk_frozen BK627.out 1) | ((with_reducible refine gate_dst (N := 16) rfl ?_); refine Kd.R_lit (Kd.int .u8) _ 5 ?hg (N := 16) ?hd (xs := ([(48 + ((t625) % 256)) % 256] : List Int)) (inner := [.int .u8 ((48 + ((t625) % 256)) % 256)]) (ok := fun _ => True) (okp := fun _ => True) ?hr ?hp (fun _ hk => hk) trivial (Below.refl _ _) (Nat.le_refl _) (by simp) ?_; (case hd => rfl); (case hg => rfl); (case hr => first | (go_simp; done) | (go_simp; rfl)); (case hp => exact (Reps.one (show Kd.M (Kd.int .u8) _ _ _ ((48 + ((t625) % 256)) % 256) [.int .u8 ((48 + ((t625) % 256)) % 256)] from rfl) (Reps.none _ _))); intro v629 w22 ho23 hb hg_ hnew_; clear hg_ hnew_; (first | rw [← Ny628.out] at ho23 | (simp only [Int.reduceToNat] at ho23; rw [← Ny628.out] at ho23)); have n0_ := Aside0.mk (Kd.R_lower ho23 (below_size (by repeat (first | (with_reducible first | exact HB.out | apply below_alloc | apply pw_below_drewN | apply below_drew1 | refine below_set ?_ GE622.out | refine below_set ?_ GE627.out) | exact HB.out)))); have n1_ := Aside0.mk (blk_below (g := gb622) (o := .cells #[.int .u64 a0_0, .int .u64 a0_1] 42 (0, 0)) (by (with_reducible repeat (first | refine blk_drewN ?_ _ | refine blk_drew ?_ | refine blk_alloc ?_ _)); refine blk_far ?_ NB622_627.out _; (with_reducible repeat (first | refine blk_drewN ?_ _ | refine blk_drew ?_ | refine blk_alloc ?_ _)); refine blk_far ?_ NB622_627.out _; (with_reducible repeat (first | refine blk_drewN ?_ _ | refine blk_drew ?_ | refine blk_alloc ?_ _)); exact BK622.out) hb); have n2_ := Aside0.mk (blk_below (g := gb627) (o := .cells #[.int .u64 t623, .int .u64 t624] 42 (0, 0)) (by (with_reducible repeat (first | refine blk_drewN ?_ _ | refine blk_drew ?_ | refine blk_alloc ?_ _)); refine blk_put (cs := #[.int .u64 t623, .int .u64 0]) ?_ 1 _ rfl; (with_reducible repeat (first | refine blk_drewN ?_ _ | refine blk_drew ?_ | refine blk_alloc ?_ _)); refine blk_put (cs := #[.int .u64 0, .int .u64 0]) ?_ 0 _ rfl; (with_reducible repeat (first | refine blk_drewN ?_ _ | refine blk_drew ?_ | refine blk_alloc ?_ _)); exact BK627.out) hb); have n3_ := Aside0.mk (below_step (by repeat (first | (with_reducible first | exact HB.out | apply below_alloc | apply pw_below_drewN | apply below_drew1 | refine below_set ?_ GE622.out | refine below_set ?_ GE627.out) | exact HB.out)) hb); clear BK622; clear BK627; clear HB; have HO630 := n0_; have BK622 := n1_; have BK627 := n2_; have HB := n3_; clear n0_ n1_ n2_ n3_; clear hb ho23; have hcv24 := own_string (P := Tryd.prog) Tryd.underlying82 Tryd.underlying5 Tryd.underlying9 (Kd.own_of_R HO630.out); have hcz25_0 : w22.cell? ⟨gb627, 0, none⟩ = some (.int .u64 t623) := (blk_cell BK627.out 0).trans rfl; have hcz25_1 : w22.cell? ⟨gb627, 1, none⟩ = some (.int .u64 t624) := (blk_cell BK627.out 1).trans rfl; have hfz25_0 := blk_frozen BK627.out 0; have hfz25_1 := blk_frozen BK627.out 1) | ((with_reducible refine gate_callee (f := 86) rfl ?_); refine goesL_ (some 23) rfl rfl Tryd.func86 (by kernel_rfl) rfl #[.agg #[.int .u64 t623, .int .u64 t624]] rfl (by (try simp only [List.map_toArray, List.map_cons, List.map_nil]); first | done | rfl | (simp only [List.length_drop, List.length_take]; rfl)) ?_; (with_reducible refine (ih k (by omega) t623 t624 t631 _ A14.out).mono ?_); rintro e w26 ⟨rfl, hb⟩; refine ⟨_, rfl, ?_⟩; have n0_ := Aside0.mk (Kd.R_below (by (with_reducible repeat (first | apply Kd.R_alloc | apply Kd.R_drewN | apply Kd.R_drew)); exact HO630.out) hb); have n1_ := Aside0.mk (blk_below (g := gb622) (o := .cells #[.int .u64 a0_0, .int .u64 a0_1] 42 (0, 0)) (by (with_reducible repeat (first | refine blk_drewN ?_ _ | refine blk_drew ?_ | refine blk_alloc ?_ _)); exact BK622.out) hb); have n2_ := Aside0.mk (blk_below (g := gb627) (o := .cells #[.int .u64 t623, .int .u64 t624] 42 (0, 0)) (by (with_reducible repeat (first | refine blk_drewN ?_ _ | refine blk_drew ?_ | refine blk_alloc ?_ _)); exact BK627.out) hb); have n3_ := Aside0.mk (below_step (by repeat (first | (with_reducible first | exact HB.out | apply below_alloc | apply pw_below_drewN | apply below_drew1 | refine below_set ?_ GE622.out | refine below_set ?_ GE627.out) | exact HB.out)) hb); clear HO630; clear BK622; clear BK627; clear HB; have HO630 := n0_; have BK622 := n1_; have BK627 := n2_; have HB := n3_; clear n0_ n1_ n2_ n3_; (try clear hb); (try clear hb2); (try clear hk); (try clear hi)))
      go_ret
      exact ⟨by first | rfl | (simp [errW_none, errW_some] <;> rfl) | (simp [*, errW_none, errW_some] <;> rfl), by repeat (first | (with_reducible first | exact HB.out | apply below_alloc | apply pw_below_drewN | apply below_drew1 | refine below_set ?_ GE622.out | refine below_set ?_ GE627.out) | exact HB.out)⟩
    · rw [if_neg c15] at H
      exact absurd H (by simp)
def paymasterref10_Text.f (k : Nat) (a0_0 : ByteArray) (a0_1 : Int) (a0_2 : Int) : Option (ByteArray × Int) := (paymasterref07_MayId.f k a0_0).bind fun t633 => (if t633 = true then (if a0_0.size + 1 ≤ 9223372036854775807 then ((paymasterref02_Text.f k a0_1 a0_2).bind fun t634 => (if (a0_0 ++ (⟨#[32]⟩ : ByteArray)).size + t634.size ≤ 9223372036854775807 then (some ((a0_0 ++ (⟨#[32]⟩ : ByteArray)) ++ t634, 0)) else (none))) else (none)) else (some ((⟨#[]⟩ : ByteArray), 101)))
def paymasterref10_Text.T3 : Bool × List (List Nat × List Nat) := (true, [([], []), ([0], [0]), ([1], [1]), ([], []), ([3], [3]), ([4], [4]), ([2, 5], [2, 5]), ([6, 5, 0, 1, 2, 3, 4, 5, 6], [6]), ([7, 0, 1, 2, 3, 4, 5, 6, 7], [])])
def paymasterref10_Text.B3 : List Nat := [0, 1, 3, 0, 8, 24, 63, 127, 255]
theorem paymasterref10_Text.tab3 : rtab .any (opsOf Tryd.f49 3) = paymasterref10_Text.T3 := by kernel_rfl
theorem paymasterref10_Text.bits3 : waitsOk paymasterref10_Text.T3.2 paymasterref10_Text.B3 = true := by kernel_rfl
set_option maxHeartbeats 8000000 in
set_option maxRecDepth 100000 in
theorem paymasterref10_Text.calls (k : Nat) (a0_0 : ByteArray) (a0_1 : Int) (a0_2 : Int) (r1 : ByteArray) (r2 : Int) (w : World) (h : paymasterref10_Text.f k a0_0 a0_1 a0_2 = some (r1, r2)) :
    Calls Tryd.prog 49 #[.agg #[.string a0_0, .int .u64 a0_1, .int .u64 a0_2]] w fun e w' => e = .returned (.tuple #[.string r1, .int .i64 r2]) ∧ Below w.heap.size w w' := by
  have hu44 := Tryd.underlying44
  have hu42 := Tryd.underlying42
  have HB := Aside0.mk (Below.refl w.heap.size w)
  have H : ((paymasterref07_MayId.f k a0_0).bind fun t633 => (if t633 = true then (if a0_0.size + 1 ≤ 9223372036854775807 then ((paymasterref02_Text.f k a0_1 a0_2).bind fun t634 => (if (a0_0 ++ (⟨#[32]⟩ : ByteArray)).size + t634.size ≤ 9223372036854775807 then (some ((a0_0 ++ (⟨#[32]⟩ : ByteArray)) ++ t634, 0)) else (none))) else (none)) else (some ((⟨#[]⟩ : ByteArray), 101)))) = some (r1, r2) := h
  clear h
  replace H := Option.bind_eq_some_iff.mp H
  obtain ⟨t633, A20, H⟩ := H
  replace H : (if t633 = true then (if a0_0.size + 1 ≤ 9223372036854775807 then ((paymasterref02_Text.f k a0_1 a0_2).bind fun t634 => (if (a0_0 ++ (⟨#[32]⟩ : ByteArray)).size + t634.size ≤ 9223372036854775807 then (some ((a0_0 ++ (⟨#[32]⟩ : ByteArray)) ++ t634, 0)) else (none))) else (none)) else (some ((⟨#[]⟩ : ByteArray), 101))) = some (r1, r2) := H
  have A2 := Aside0.mk A20
  clear A20
  by_cases c3 : t633 = true
  · subst c3
    have H1 : (if a0_0.size + 1 ≤ 9223372036854775807 then ((paymasterref02_Text.f k a0_1 a0_2).bind fun t634 => (if (a0_0 ++ (⟨#[32]⟩ : ByteArray)).size + t634.size ≤ 9223372036854775807 then (some ((a0_0 ++ (⟨#[32]⟩ : ByteArray)) ++ t634, 0)) else (none))) else (none)) = some (r1, r2) := by rw [if_pos rfl] at H; exact H
    clear H
    have H := H1
    clear H1
    by_cases c4 : a0_0.size + 1 ≤ 9223372036854775807
    · rw [if_pos c4] at H
      have c4b0 := eq_true c4
      have c4b1 : decide (a0_0.size + 1 ≤ 9223372036854775807) = true := decide_eq_true c4
      try have c4b2 : (9223372036854775807 < a0_0.size + 1) = False := eq_false (Nat.not_lt.2 c4)
      replace H := Option.bind_eq_some_iff.mp H
      obtain ⟨t634, A50, H⟩ := H
      replace H : (if (a0_0 ++ (⟨#[32]⟩ : ByteArray)).size + t634.size ≤ 9223372036854775807 then (some ((a0_0 ++ (⟨#[32]⟩ : ByteArray)) ++ t634, 0)) else (none)) = some (r1, r2) := H
      have A5 := Aside0.mk A50
      clear A50
      by_cases c6 : (a0_0 ++ (⟨#[32]⟩ : ByteArray)).size + t634.size ≤ 9223372036854775807
      · rw [if_pos c6] at H
        have c6b0 := eq_true c6
        have c6b1 : decide ((a0_0 ++ (⟨#[32]⟩ : ByteArray)).size + t634.size ≤ 9223372036854775807) = true := decide_eq_true c6
        try have c6b2 : (9223372036854775807 < (a0_0 ++ (⟨#[32]⟩ : ByteArray)).size + t634.size) = False := eq_false (Nat.not_lt.2 c6)
        try have c6b3 : (9223372036854775807 < a0_0.size + 1 + t634.size) = False := eq_false (by have e_ := c6; repeat rw [ByteArray.size_append] at e_; exact Nat.not_lt.2 e_)
        simp only [Option.some.injEq, Prod.mk.injEq] at H
        obtain ⟨rfl, rfl⟩ := H
        go_enter Tryd.func49, Tryd.ntmps49
        try go_wp2_with (first | ((with_reducible refine gate_dst (N := 1) rfl ?_); refine box_event ?hg (N := 1) ?hd (cs := #[.string a0_0, .int .u64 a0_1, .int .u64 a0_2]) (t := 44) ?hr ?_; (case hd => rfl); (case hg => rfl); (case hr => first | (go_simp; done) | (go_simp; rfl)); intro gb632 hg w7 hbox hb; have n0_ := Aside0.mk (below_step (by repeat (first | (with_reducible first | exact HB.out | apply below_alloc | apply pw_below_drewN | apply below_drew1) | exact HB.out)) hb); have n1_ := Aside0.mk (hbox); have n2_ := Aside0.mk ((by rw [hg]; exact (below_size (by repeat (first | (with_reducible first | exact HB.out | apply below_alloc | apply pw_below_drewN | apply below_drew1) | exact HB.out))) : w.heap.size ≤ gb632)); have n3_ := Aside0.mk ((by rw [hg]; exact (below_size (by repeat (first | (with_reducible first | exact HB.out | apply below_alloc | apply pw_below_drewN | apply below_drew1) | exact HB.out))) : w.heap.size ≤ gb632)); clear HB; have HB := n0_; have BK632 := n1_; have GW632 := n2_; have GE632 := n3_; clear n0_ n1_ n2_ n3_; clear hb hbox hg; have hcz8_0 : w7.cell? ⟨gb632, 0, none⟩ = some (.string a0_0) := (blk_cell BK632.out 0).trans rfl; have hcz8_1 : w7.cell? ⟨gb632, 1, none⟩ = some (.int .u64 a0_1) := (blk_cell BK632.out 1).trans rfl; have hcz8_2 : w7.cell? ⟨gb632, 2, none⟩ = some (.int .u64 a0_2) := (blk_cell BK632.out 2).trans rfl; have hfz8_0 := blk_frozen BK632.out 0; have hfz8_1 := blk_frozen BK632.out 1; have hfz8_2 := blk_frozen BK632.out 2) | ((with_reducible refine gate_callee (f := 81) rfl ?_); refine goesL_ (some 6) rfl rfl Tryd.func81 (by kernel_rfl) rfl #[.string a0_0] rfl (by (try simp only [List.map_toArray, List.map_cons, List.map_nil]); first | done | rfl | (simp only [List.length_drop, List.length_take]; rfl)) ?_; (with_reducible refine (paymasterref07_MayId.calls k a0_0 true _ A2.out).mono ?_); rintro e w' ⟨rfl, ⟨nd, rfl⟩⟩; refine ⟨_, rfl, ?_⟩))
        (try (rw [drewN_self w7]; generalize hq_ : World.drewN w7 _ = w7; have n0_ : Aside0 (w7.heap[gb632]? = some (.cells #[.string a0_0, .int .u64 a0_1, .int .u64 a0_2] 44 (0, 0))) := ⟨by rw [← hq_]; exact (by (with_reducible repeat (first | refine blk_drewN ?_ _ | refine blk_drew ?_ | refine blk_alloc ?_ _)); exact BK632.out)⟩; have n1_ : Aside0 (Below w.heap.size w w7) := ⟨by rw [← hq_]; exact (by repeat (first | (with_reducible first | exact HB.out | apply below_alloc | apply pw_below_drewN | apply below_drew1 | refine below_set ?_ GE632.out) | exact HB.out))⟩; clear BK632 HB hq_; have BK632 := n0_; have HB := n1_; clear n0_ n1_))
        have n0_ := Aside0.mk (blk_drew BK632.out)
        have n1_ := Aside0.mk (below_drew1 HB.out)
        clear BK632
        clear HB
        have BK632 := n0_
        have HB := n1_
        clear n0_ n1_
        refine start_ (n := 9) (S := fun w' => w'.cell? ⟨gb632, 0, none⟩ = some (.string a0_0) ∧ w'.cell? ⟨gb632, 1, none⟩ = some (.int .u64 a0_1) ∧ w'.cell? ⟨gb632, 2, none⟩ = some (.int .u64 a0_2)) (ds := []) #[false, false, false, false, false, false, false, false, false] (by kernel_rfl) rfl rfl ⟨(blk_cell BK632.out 0).trans rfl, (blk_cell BK632.out 1).trans rfl, (blk_cell BK632.out 2).trans rfl⟩ (fun hHeld => ?_); refine with_tabW paymasterref10_Text.tab3 paymasterref10_Text.bits3 (fun HT_ HW_ => ?_)
        generalize w7.drew = w9 at BK632 HB hHeld ⊢
        refine pure_ (i := 0) (N := some 8) (v := ?_) (a' := ?_) #[true, false, false, false, false, false, false, false, false] rfl rfl (any_of HT_.out (by kernel_rfl)) (fun _ _ _ h => h) (Or.inl ⟨by rfl, ?_⟩) ?_ ?_
        rotate_left
        · intro w'
          go_simp
          with_reducible rfl
        rotate_left
        · simp only [Act.put, List.setIfInBounds_toArray, List.set_cons_zero, List.set_cons_succ, i64_w, i32_w]
          rfl
        refine pure_ (i := 3) (N := some 11) (v := ?_) (a' := ?_) #[true, false, false, true, false, false, false, false, false] rfl rfl (any_of HT_.out (by kernel_rfl)) (fun _ _ _ h => h) (Or.inl ⟨by rfl, ?_⟩) ?_ ?_
        rotate_left
        · intro w'
          go_simp
          with_reducible rfl
        rotate_left
        · simp only [Act.put, List.setIfInBounds_toArray, List.set_cons_zero, List.set_cons_succ, i64_w, i32_w]
          rfl
        refine take_ (i := 1) (N := some 9) (v := ?_) (a' := ?_) #[true, true, false, true, false, false, false, false, false] rfl rfl (take_ofW HT_.out HW_.out (by kernel_rfl)) (fun _ _ _ h => h) (Or.inl ⟨by rfl, ?_⟩) hHeld ?_ ?_
        rotate_left
        · rintro w' ⟨s0, s1, s2⟩
          go_simp
          with_reducible rfl
        rotate_left
        · simp only [Act.put, List.setIfInBounds_toArray, List.set_cons_zero, List.set_cons_succ, i64_w, i32_w]
          rfl
        refine pure_ (i := 2) (N := some 10) (v := ?_) (a' := ?_) #[true, true, true, true, false, false, false, false, false] rfl rfl (any_of HT_.out (by kernel_rfl)) (fun _ _ _ h => h) (Or.inl ⟨by rfl, ?_⟩) ?_ ?_
        rotate_left
        · intro w'
          go_simp
          with_reducible rfl
        rotate_left
        · simp only [Act.put, List.setIfInBounds_toArray, List.set_cons_zero, List.set_cons_succ, i64_w, i32_w]
          rfl
        refine take_ (i := 4) (N := some 12) (v := ?_) (a' := ?_) #[true, true, true, true, true, false, false, false, false] rfl rfl (take_ofW HT_.out HW_.out (by kernel_rfl)) (fun _ _ _ h => h) (Or.inl ⟨by rfl, ?_⟩) hHeld ?_ ?_
        rotate_left
        · rintro w' ⟨s0, s1, s2⟩
          go_simp
          with_reducible rfl
        rotate_left
        · simp only [Act.put, List.setIfInBounds_toArray, List.set_cons_zero, List.set_cons_succ, i64_w, i32_w]
          rfl
        refine one_ (i := 5) (N := some 13) #[true, true, true, true, true, true, false, false, false] rfl rfl (one_of HT_.out (by kernel_rfl)) (by decide) (fun K hK => ?_)
        refine goes_ Tryd.func86 (by kernel_rfl) rfl #[.agg #[.int .u64 a0_1, .int .u64 a0_2]] (by rfl) rfl rfl (by (try simp only [List.map_toArray, List.map_cons, List.map_nil]); first | done | rfl | (simp only [List.length_drop, List.length_take]; rfl)) ?_
        with_reducible refine (paymasterref02_Text.calls k a0_1 a0_2 t634 _ A5.out).mono ?_
        rintro e w10 ⟨rfl, hb⟩
        refine ⟨_, rfl, ?_⟩
        have n0_ := Aside0.mk (blk_below (g := gb632) (o := .cells #[.string a0_0, .int .u64 a0_1, .int .u64 a0_2] 44 (0, 0)) (by (with_reducible repeat (first | refine blk_drewN ?_ _ | refine blk_drew ?_ | refine blk_alloc ?_ _)); exact BK632.out) hb)
        have n1_ := Aside0.mk (below_step (by repeat (first | (with_reducible first | exact HB.out | apply below_alloc | apply pw_below_drewN | apply below_drew1 | refine below_set ?_ GE632.out) | exact HB.out)) hb)
        clear BK632
        clear HB
        have BK632 := n0_
        have HB := n1_
        clear n0_ n1_
        (try clear hb)
        (try clear hb2)
        (try clear hk)
        (try clear hi)
        refine hK.out _ _ ⟨(blk_cell BK632.out 0).trans rfl, (blk_cell BK632.out 1).trans rfl, (blk_cell BK632.out 2).trans rfl⟩ (fun hHeld => ?_)
        clear hK K
        refine norm_ (a' := ?_) ?_ ?_
        rotate_left
        · show Act.put _ (some 13) _ = _
          simp only [Act.put, List.setIfInBounds_toArray, List.set_cons_zero, List.set_cons_succ, i64_w, i32_w]
          rfl
        refine pure_ (i := 6) (N := some 14) (v := ?_) (a' := ?_) #[true, true, true, true, true, true, true, false, false] rfl rfl (any_of HT_.out (by kernel_rfl)) (fun _ _ _ h => h) (Or.inl ⟨by rfl, ?_⟩) ?_ ?_
        rotate_left
        · intro w'
          go_simp
          with_reducible rfl
        rotate_left
        · simp only [Act.put, List.setIfInBounds_toArray, List.set_cons_zero, List.set_cons_succ, i64_w, i32_w]
          rfl
        refine pure_ (i := 7) (N := some 2) (v := ?_) (a' := ?_) #[true, true, true, true, true, true, true, true, false] rfl rfl (any_of HT_.out (by kernel_rfl)) (fun _ _ _ h => h) (Or.inl ⟨by rfl, ?_⟩) ?_ ?_
        rotate_left
        · intro w'
          go_simp
          with_reducible rfl
        rotate_left
        · simp only [Act.put, List.setIfInBounds_toArray, List.set_cons_zero, List.set_cons_succ, i64_w, i32_w]
          rfl
        refine pure_ (i := 8) (N := some 3) (v := ?_) (a' := ?_) #[true, true, true, true, true, true, true, true, true] rfl rfl (any_of HT_.out (by kernel_rfl)) (fun _ _ _ h => h) (Or.inl ⟨by rfl, ?_⟩) ?_ ?_
        rotate_left
        · intro w'
          go_simp
          with_reducible rfl
        rotate_left
        · simp only [Act.put, List.setIfInBounds_toArray, List.set_cons_zero, List.set_cons_succ, i64_w, i32_w]
          rfl
        refine done_ (done_of HT_.out (by kernel_rfl)) ?_
        try go_wp2
        go_ret2
        exact ⟨by first | rfl | (simp [errW_none, errW_some] <;> rfl) | (simp [*, errW_none, errW_some] <;> rfl), by repeat (first | (with_reducible first | exact HB.out | apply below_alloc | apply pw_below_drewN | apply below_drew1 | refine below_set ?_ GE632.out) | exact HB.out)⟩
      · rw [if_neg c6] at H
        exact absurd H (by simp)
    · rw [if_neg c4] at H
      exact absurd H (by simp)
  · replace c3 := Bool.eq_false_iff.mpr c3
    subst c3
    have H1 : (some ((⟨#[]⟩ : ByteArray), 101)) = some (r1, r2) := by rw [if_neg (show ¬ (false = true) by decide)] at H; exact H
    clear H
    have H := H1
    clear H1
    simp only [Option.some.injEq, Prod.mk.injEq] at H
    obtain ⟨rfl, rfl⟩ := H
    go_enter Tryd.func49, Tryd.ntmps49
    go_wp2_with (first | ((with_reducible refine gate_dst (N := 1) rfl ?_); refine box_event ?hg (N := 1) ?hd (cs := #[.string a0_0, .int .u64 a0_1, .int .u64 a0_2]) (t := 44) ?hr ?_; (case hd => rfl); (case hg => rfl); (case hr => first | (go_simp; done) | (go_simp; rfl)); intro gb632 hg w11 hbox hb; have n0_ := Aside0.mk (below_step (by repeat (first | (with_reducible first | exact HB.out | apply below_alloc | apply pw_below_drewN | apply below_drew1) | exact HB.out)) hb); have n1_ := Aside0.mk (hbox); have n2_ := Aside0.mk ((by rw [hg]; exact (below_size (by repeat (first | (with_reducible first | exact HB.out | apply below_alloc | apply pw_below_drewN | apply below_drew1) | exact HB.out))) : w.heap.size ≤ gb632)); have n3_ := Aside0.mk ((by rw [hg]; exact (below_size (by repeat (first | (with_reducible first | exact HB.out | apply below_alloc | apply pw_below_drewN | apply below_drew1) | exact HB.out))) : w.heap.size ≤ gb632)); clear HB; have HB := n0_; have BK632 := n1_; have GW632 := n2_; have GE632 := n3_; clear n0_ n1_ n2_ n3_; clear hb hbox hg; have hcz12_0 : w11.cell? ⟨gb632, 0, none⟩ = some (.string a0_0) := (blk_cell BK632.out 0).trans rfl; have hcz12_1 : w11.cell? ⟨gb632, 1, none⟩ = some (.int .u64 a0_1) := (blk_cell BK632.out 1).trans rfl; have hcz12_2 : w11.cell? ⟨gb632, 2, none⟩ = some (.int .u64 a0_2) := (blk_cell BK632.out 2).trans rfl; have hfz12_0 := blk_frozen BK632.out 0; have hfz12_1 := blk_frozen BK632.out 1; have hfz12_2 := blk_frozen BK632.out 2) | ((with_reducible refine gate_callee (f := 81) rfl ?_); refine goesL_ (some 6) rfl rfl Tryd.func81 (by kernel_rfl) rfl #[.string a0_0] rfl (by (try simp only [List.map_toArray, List.map_cons, List.map_nil]); first | done | rfl | (simp only [List.length_drop, List.length_take]; rfl)) ?_; (with_reducible refine (paymasterref07_MayId.calls k a0_0 false _ A2.out).mono ?_); rintro e w' ⟨rfl, ⟨nd, rfl⟩⟩; refine ⟨_, rfl, ?_⟩))
    go_ret2
    exact ⟨by first | rfl | (simp [errW_none, errW_some] <;> rfl) | (simp [*, errW_none, errW_some] <;> rfl), by repeat (first | (with_reducible first | exact HB.out | apply below_alloc | apply pw_below_drewN | apply below_drew1 | refine below_set ?_ GE632.out) | exact HB.out)⟩
def paymasterlaw10_RowParses.j0 : Nat → ByteArray → Bool → ByteArray → Int → Int → Option (Bool)
  | 0, _, _, _, _, _ => none
  | k + 1, x0, x21, x636000, x636001, x636002 => if x21 = true then (some true) else ((row_Parse.f x0).bind fun bt664 => ((paymasterref10_Parse.f k x0).bind fun bt669 => ((row_Text.f x636000 x636001 x636002).bind fun bt674 => ((paymasterref10_Text.f k x636000 x636001 x636002).bind fun bt676 => (if (bt664.1.toList == bt669.1.toList && ((bt664.2.1 == bt669.2.1 && (bt664.2.2.1 == bt669.2.2.1)))) = true then (if bt664.2.2.2 = bt669.2.2.2 then (if bt674.1.toList = bt676.1.toList then (some (bt674.2 == bt676.2)) else (none)) else (none)) else (none))))))
def paymasterlaw10_RowParses.f (k : Nat) (a0 : ByteArray) (a1_0 : ByteArray) (a1_1 : Int) (a1_2 : Int) : Option (Bool) := if (a0.size : Int) > 300 then (paymasterlaw10_RowParses.j0 k a0 true a1_0 a1_1 a1_2) else (paymasterlaw10_RowParses.j0 k a0 (decide ((a1_0.size : Int) > 200)) a1_0 a1_1 a1_2)
set_option maxHeartbeats 8000000 in
set_option maxRecDepth 100000 in
theorem paymasterlaw10_RowParses.calls (k : Nat) (a0 : ByteArray) (a1_0 : ByteArray) (a1_1 : Int) (a1_2 : Int) (r : Bool) (w : World) (hG : GT w) (h : paymasterlaw10_RowParses.f k a0 a1_0 a1_1 a1_2 = some r) :
    Calls Tryd.prog 11 #[.string a0, .agg #[.string a1_0, .int .u64 a1_1, .int .u64 a1_2]] w fun e w' => e = .returned (.bool r) ∧ Below w.heap.size w w' := by
  have hu44 := Tryd.underlying44
  have HB := Aside0.mk (Below.refl w.heap.size w)
  have H : (if (a0.size : Int) > 300 then (paymasterlaw10_RowParses.j0 k a0 true a1_0 a1_1 a1_2) else (paymasterlaw10_RowParses.j0 k a0 (decide ((a1_0.size : Int) > 200)) a1_0 a1_1 a1_2)) = some r := h
  clear h
  have HC3 := Aside0.mk H
  clear H
  go_enter Tryd.func11, Tryd.ntmps11
  go_upto_region 1 with (first | ((with_reducible refine gate_dst (N := 3) rfl ?_); (try (refine gate_guard (by rfl) ?_; dsimp only)); refine box_event ?hg (N := 3) ?hd (cs := #[.string a1_0, .int .u64 a1_1, .int .u64 a1_2]) (t := 44) ?hr ?_; (case hd => rfl); (case hg => rfl); (case hr => first | (go_simp; done) | (go_simp; rfl)); intro gb635 hg w4 hbox hb; have n0_ := Aside0.mk (below_step (by repeat (first | (with_reducible first | exact HB.out | apply below_alloc | apply pw_below_drewN | apply below_drew1) | exact HB.out)) hb); have n1_ := Aside0.mk (hbox); have n2_ := Aside0.mk ((by rw [hg]; exact (below_size (by repeat (first | (with_reducible first | exact HB.out | apply below_alloc | apply pw_below_drewN | apply below_drew1) | exact HB.out))) : w.heap.size ≤ gb635)); have n3_ := Aside0.mk ((by rw [hg]; exact (below_size (by repeat (first | (with_reducible first | exact HB.out | apply below_alloc | apply pw_below_drewN | apply below_drew1) | exact HB.out))) : w.heap.size ≤ gb635)); clear HB; have HB := n0_; have BK635 := n1_; have GW635 := n2_; have GE635 := n3_; clear n0_ n1_ n2_ n3_; clear hb hbox hg))
  (try simp only [Act.put, List.setIfInBounds_toArray, List.set_cons_zero, List.set_cons_succ])
  go_cut [21] (fun v21 wc => ∃ (kq : Nat) (x21_2 : Bool), v21 = .bool x21_2 ∧ Aside0 (paymasterlaw10_RowParses.j0 kq a0 x21_2 a1_0 a1_1 a1_2 = some r) ∧ Aside0 (kq ≤ k) ∧ Aside0 (wc.heap[gb635]? = some (.cells #[.string a1_0, .int .u64 a1_1, .int .u64 a1_2] 44 (0, 0))) ∧ Aside0 (Below w.heap.size w wc))
  case first =>
    have H := HC3.out
    clear HC3
    by_cases c5 : (a0.size : Int) > 300
    · rw [if_pos c5] at H
      have c5b0 : decide (300 < (a0.size : Int)) = true := decide_eq_true c5
      have c5b1 : decide (300 < a0.size) = true := decide_eq_true (by omega)
      clear c5
      (first | rw [c5b0] | (simp only [i64_w, i32_w]; rw [c5b0]) | skip)
      have H' := Aside0.mk H
      clear H
      go_wp2
      go_meet
      case rel => exact ⟨_, (true), (by first | rfl | (simp; done) | (simp [*]; done)), H', ⟨by first | omega | exact Nat.le_refl _⟩, ⟨by (with_reducible repeat (first | refine blk_drewN ?_ _ | refine blk_drew ?_ | refine blk_alloc ?_ _)); exact BK635.out⟩, ⟨by repeat (first | (with_reducible first | exact HB.out | apply below_alloc | apply pw_below_drewN | apply below_drew1 | refine below_set ?_ GE635.out) | exact HB.out)⟩⟩
    · rw [if_neg c5] at H
      have c5b0 : decide (300 < (a0.size : Int)) = false := decide_eq_false c5
      have c5b1 : decide (300 < a0.size) = false := decide_eq_false (by omega)
      clear c5
      (first | rw [c5b0] | (simp only [i64_w, i32_w]; rw [c5b0]) | skip)
      have H' := Aside0.mk H
      clear H
      have hcz6_0 : w4.cell? ⟨gb635, 0, none⟩ = some (.string a1_0) := (blk_cell BK635.out 0).trans rfl
      have hcz6_1 : w4.cell? ⟨gb635, 1, none⟩ = some (.int .u64 a1_1) := (blk_cell BK635.out 1).trans rfl
      have hcz6_2 : w4.cell? ⟨gb635, 2, none⟩ = some (.int .u64 a1_2) := (blk_cell BK635.out 2).trans rfl
      have hfz6_0 := blk_frozen BK635.out 0
      have hfz6_1 := blk_frozen BK635.out 1
      have hfz6_2 := blk_frozen BK635.out 2
      go_wp2
      go_meet
      case rel => exact ⟨_, (decide ((a1_0.size : Int) > 200)), (by first | rfl | (simp; done) | (simp [*]; done)), H', ⟨by first | omega | exact Nat.le_refl _⟩, ⟨by (with_reducible repeat (first | refine blk_drewN ?_ _ | refine blk_drew ?_ | refine blk_alloc ?_ _)); exact BK635.out⟩, ⟨by repeat (first | (with_reducible first | exact HB.out | apply below_alloc | apply pw_below_drewN | apply below_drew1 | refine below_set ?_ GE635.out) | exact HB.out)⟩⟩
  case rest =>
    clear HC3
    try clear c1
    try clear p2
    try clear c5
    try clear c5b0
    try clear c5b1
    try clear hcz6_0
    try clear hcz6_1
    try clear hcz6_2
    try clear hfz6_0
    try clear hfz6_1
    try clear hfz6_2
    obtain ⟨kq, x21_2, rfl, HA, HJ2, BK635, HB⟩ := hcut
    cases kq with
    | zero => exact absurd HA.out (by simp [paymasterlaw10_RowParses.j0])
    | succ kj2 =>
      have H := HA.out
      clear HA
      simp only [paymasterlaw10_RowParses.j0] at H
      by_cases c7 : x21_2 = true
      · subst c7
        have H1 : (some true) = some r := by rw [if_pos rfl] at H; exact H
        clear H
        have H := H1
        clear H1
        obtain rfl := Option.some.inj H
        go_wp2
        go_ret
        exact ⟨by first | rfl | (simp [errW_none, errW_some] <;> rfl) | (simp [*, errW_none, errW_some] <;> rfl), by repeat (first | (with_reducible first | exact HB.out | apply below_alloc | apply pw_below_drewN | apply below_drew1 | refine below_set ?_ GE635.out) | exact HB.out)⟩
      · replace c7 := Bool.eq_false_iff.mpr c7
        subst c7
        have H1 : ((row_Parse.f a0).bind fun bt664 => ((paymasterref10_Parse.f kj2 a0).bind fun bt669 => ((row_Text.f a1_0 a1_1 a1_2).bind fun bt674 => ((paymasterref10_Text.f kj2 a1_0 a1_1 a1_2).bind fun bt676 => (if (bt664.1.toList == bt669.1.toList && ((bt664.2.1 == bt669.2.1 && (bt664.2.2.1 == bt669.2.2.1)))) = true then (if bt664.2.2.2 = bt669.2.2.2 then (if bt674.1.toList = bt676.1.toList then (some (bt674.2 == bt676.2)) else (none)) else (none)) else (none)))))) = some r := by rw [if_neg (show ¬ (false = true) by decide)] at H; exact H
        clear H
        have H := H1
        clear H1
        replace H := Option.bind_eq_some_iff.mp H
        obtain ⟨⟨t664, t665, t666, t667⟩, A80, H⟩ := H
        replace H : ((paymasterref10_Parse.f kj2 a0).bind fun bt669 => ((row_Text.f a1_0 a1_1 a1_2).bind fun bt674 => ((paymasterref10_Text.f kj2 a1_0 a1_1 a1_2).bind fun bt676 => (if (t664.toList == bt669.1.toList && ((t665 == bt669.2.1 && (t666 == bt669.2.2.1)))) = true then (if t667 = bt669.2.2.2 then (if bt674.1.toList = bt676.1.toList then (some (bt674.2 == bt676.2)) else (none)) else (none)) else (none))))) = some r := H
        have A8 := Aside0.mk A80
        clear A80
        replace H := Option.bind_eq_some_iff.mp H
        obtain ⟨⟨t669, t670, t671, t672⟩, A90, H⟩ := H
        replace H : ((row_Text.f a1_0 a1_1 a1_2).bind fun bt674 => ((paymasterref10_Text.f kj2 a1_0 a1_1 a1_2).bind fun bt676 => (if (t664.toList == t669.toList && ((t665 == t670 && (t666 == t671)))) = true then (if t667 = t672 then (if bt674.1.toList = bt676.1.toList then (some (bt674.2 == bt676.2)) else (none)) else (none)) else (none)))) = some r := H
        have A9 := Aside0.mk A90
        clear A90
        replace H := Option.bind_eq_some_iff.mp H
        obtain ⟨⟨t674, t675⟩, A100, H⟩ := H
        replace H : ((paymasterref10_Text.f kj2 a1_0 a1_1 a1_2).bind fun bt676 => (if (t664.toList == t669.toList && ((t665 == t670 && (t666 == t671)))) = true then (if t667 = t672 then (if t674.toList = bt676.1.toList then (some (t675 == bt676.2)) else (none)) else (none)) else (none))) = some r := H
        have A10 := Aside0.mk A100
        clear A100
        replace H := Option.bind_eq_some_iff.mp H
        obtain ⟨⟨t676, t677⟩, A110, H⟩ := H
        replace H : (if (t664.toList == t669.toList && ((t665 == t670 && (t666 == t671)))) = true then (if t667 = t672 then (if t674.toList = t676.toList then (some (t675 == t677)) else (none)) else (none)) else (none)) = some r := H
        have A11 := Aside0.mk A110
        clear A110
        by_cases c12 : (t664.toList == t669.toList && ((t665 == t670 && (t666 == t671)))) = true
        · rw [if_pos c12] at H
          have c12b0 : (t664.toList == t669.toList && ((t665 == t670 && (t666 == t671)))) = true := c12
          (try (have c12b1 : decide (t664.toList = t669.toList && ((t665 == t670 && (t666 == t671)))) = true := by simpa using c12))
          (try (have c12b2 : (t664.toList == t669.toList && ((t665 == t670 && (t666 == t671)))) = true := by simpa using c12))
          clear c12
          by_cases c13 : t667 = t672
          · rw [if_pos c13] at H
            have c13b0 : (t667 == t672) = true := beq_iff_eq.mpr c13
            have c13b1 : (t667 != t672) = false := bne_eq_false_iff_eq.mpr c13
            clear c13
            by_cases c14 : t674.toList = t676.toList
            · rw [if_pos c14] at H
              have c14b0 : (t674.toList == t676.toList) = true := beq_iff_eq.mpr c14
              have c14b1 : (t674.toList != t676.toList) = false := bne_eq_false_iff_eq.mpr c14
              clear c14
              obtain rfl := Option.some.inj H
              go_wp2_with (first | ((with_reducible refine gate_callee (f := 47) rfl ?_); refine goesL_ (some 24) rfl rfl Tryd.func47 (by kernel_rfl) rfl #[.string a0] rfl (by (try simp only [List.map_toArray, List.map_cons, List.map_nil]); first | done | rfl | (simp only [List.length_drop, List.length_take]; rfl)) ?_; (with_reducible refine (row_Parse.calls a0 t664 t665 t666 t667 _ ?side1 A8.out).mono ?_); (case side1 => exact gt_below hG (by repeat (first | (with_reducible first | exact HB.out | apply below_alloc | apply pw_below_drewN | apply below_drew1 | refine below_set ?_ GE635.out) | exact HB.out))); rintro e w15 ⟨rfl, hb⟩; refine ⟨_, rfl, ?_⟩; have n0_ := Aside0.mk (blk_below (g := gb635) (o := .cells #[.string a1_0, .int .u64 a1_1, .int .u64 a1_2] 44 (0, 0)) (by (with_reducible repeat (first | refine blk_drewN ?_ _ | refine blk_drew ?_ | refine blk_alloc ?_ _)); exact BK635.out) hb); have n1_ := Aside0.mk (below_step (by repeat (first | (with_reducible first | exact HB.out | apply below_alloc | apply pw_below_drewN | apply below_drew1 | refine below_set ?_ GE635.out) | exact HB.out)) hb); clear BK635; clear HB; have BK635 := n0_; have HB := n1_; clear n0_ n1_; (try clear hb); (try clear hb2); (try clear hk); (try clear hi)) | ((with_reducible refine gate_dst (N := 5) rfl ?_); (try (refine gate_guard (by rfl) ?_; dsimp only)); refine box_event ?hg (N := 5) ?hd (cs := #[.string (⟨#[]⟩ : ByteArray), .int .u64 0, .int .u64 0]) (t := 44) ?hr ?_; (case hd => rfl); (case hg => rfl); (case hr => first | (go_simp; done) | (go_simp; rfl)); intro gb668 hg w16 hbox hb; have n0_ := Aside0.mk (blk_below (g := gb635) (o := .cells #[.string a1_0, .int .u64 a1_1, .int .u64 a1_2] 44 (0, 0)) (by (with_reducible repeat (first | refine blk_drewN ?_ _ | refine blk_drew ?_ | refine blk_alloc ?_ _)); exact BK635.out) hb); have n1_ := Aside0.mk (below_step (by repeat (first | (with_reducible first | exact HB.out | apply below_alloc | apply pw_below_drewN | apply below_drew1 | refine below_set ?_ GE635.out) | exact HB.out)) hb); have n2_ := Aside0.mk (hbox); have n3_ := Aside0.mk ((by rw [hg]; exact (below_size (by repeat (first | (with_reducible first | exact HB.out | apply below_alloc | apply pw_below_drewN | apply below_drew1 | refine below_set ?_ GE635.out) | exact HB.out))) : w.heap.size ≤ gb668)); have n4_ := Aside0.mk ((by rw [hg]; exact (below_size (by repeat (first | (with_reducible first | exact HB.out | apply below_alloc | apply pw_below_drewN | apply below_drew1 | refine below_set ?_ GE635.out) | exact HB.out))) : w.heap.size ≤ gb668)); have n5_ := Aside0.mk ((by rw [hg]; exact Nat.ne_of_lt (blk_lt (g := gb635) (o := .cells #[.string a1_0, .int .u64 a1_1, .int .u64 a1_2] 44 (0, 0)) (by (with_reducible repeat (first | refine blk_drewN ?_ _ | refine blk_drew ?_ | refine blk_alloc ?_ _)); exact BK635.out)) : gb635 ≠ gb668)); have n6_ := Aside0.mk ((by rw [hg]; exact Nat.ne_of_gt (blk_lt (g := gb635) (o := .cells #[.string a1_0, .int .u64 a1_1, .int .u64 a1_2] 44 (0, 0)) (by (with_reducible repeat (first | refine blk_drewN ?_ _ | refine blk_drew ?_ | refine blk_alloc ?_ _)); exact BK635.out)) : gb668 ≠ gb635)); clear BK635; clear HB; have BK635 := n0_; have HB := n1_; have BK668 := n2_; have GW668 := n3_; have GE668 := n4_; have NB635_668 := n5_; have NB668_635 := n6_; clear n0_ n1_ n2_ n3_ n4_ n5_ n6_; clear hb hbox hg; have hnb17 := NB668_635.out; have hnc17 := NB635_668.out; have hcz18_0 : w16.cell? ⟨gb668, 0, none⟩ = some (.string (⟨#[]⟩ : ByteArray)) := (blk_cell BK668.out 0).trans rfl; have hcz18_1 : w16.cell? ⟨gb668, 1, none⟩ = some (.int .u64 0) := (blk_cell BK668.out 1).trans rfl; have hcz18_2 : w16.cell? ⟨gb668, 2, none⟩ = some (.int .u64 0) := (blk_cell BK668.out 2).trans rfl; have hfz18_0 := blk_frozen BK668.out 0; have hfz18_1 := blk_frozen BK668.out 1; have hfz18_2 := blk_frozen BK668.out 2) | ((with_reducible refine gate_callee (f := 44) rfl ?_); refine goesL_ (some 29) rfl rfl Tryd.func44 (by kernel_rfl) rfl #[.string a0] rfl (by (try simp only [List.map_toArray, List.map_cons, List.map_nil]); first | done | rfl | (simp only [List.length_drop, List.length_take]; rfl)) ?_; (with_reducible refine (paymasterref10_Parse.calls kj2 a0 t669 t670 t671 t672 _ A9.out).mono ?_); rintro e w19 ⟨rfl, hb⟩; refine ⟨_, rfl, ?_⟩; have n0_ := Aside0.mk (blk_below (g := gb635) (o := .cells #[.string a1_0, .int .u64 a1_1, .int .u64 a1_2] 44 (0, 0)) (by (with_reducible repeat (first | refine blk_drewN ?_ _ | refine blk_drew ?_ | refine blk_alloc ?_ _)); refine blk_far ?_ NB635_668.out _; (with_reducible repeat (first | refine blk_drewN ?_ _ | refine blk_drew ?_ | refine blk_alloc ?_ _)); refine blk_far ?_ NB635_668.out _; (with_reducible repeat (first | refine blk_drewN ?_ _ | refine blk_drew ?_ | refine blk_alloc ?_ _)); refine blk_far ?_ NB635_668.out _; (with_reducible repeat (first | refine blk_drewN ?_ _ | refine blk_drew ?_ | refine blk_alloc ?_ _)); exact BK635.out) hb); have n1_ := Aside0.mk (blk_below (g := gb668) (o := .cells #[.string t664, .int .u64 t665, .int .u64 t666] 44 (0, 0)) (by (with_reducible repeat (first | refine blk_drewN ?_ _ | refine blk_drew ?_ | refine blk_alloc ?_ _)); refine blk_put (cs := #[.string t664, .int .u64 t665, .int .u64 0]) ?_ 2 _ rfl; (with_reducible repeat (first | refine blk_drewN ?_ _ | refine blk_drew ?_ | refine blk_alloc ?_ _)); refine blk_put (cs := #[.string t664, .int .u64 0, .int .u64 0]) ?_ 1 _ rfl; (with_reducible repeat (first | refine blk_drewN ?_ _ | refine blk_drew ?_ | refine blk_alloc ?_ _)); refine blk_put (cs := #[.string (⟨#[]⟩ : ByteArray), .int .u64 0, .int .u64 0]) ?_ 0 _ rfl; (with_reducible repeat (first | refine blk_drewN ?_ _ | refine blk_drew ?_ | refine blk_alloc ?_ _)); exact BK668.out) hb); have n2_ := Aside0.mk (below_step (by repeat (first | (with_reducible first | exact HB.out | apply below_alloc | apply pw_below_drewN | apply below_drew1 | refine below_set ?_ GE635.out | refine below_set ?_ GE668.out) | exact HB.out)) hb); clear BK635; clear BK668; clear HB; have BK635 := n0_; have BK668 := n1_; have HB := n2_; clear n0_ n1_ n2_; (try clear hb); (try clear hb2); (try clear hk); (try clear hi)) | ((with_reducible refine gate_dst (N := 7) rfl ?_); (try (refine gate_guard (by rfl) ?_; dsimp only)); refine box_event ?hg (N := 7) ?hd (cs := #[.string (⟨#[]⟩ : ByteArray), .int .u64 0, .int .u64 0]) (t := 44) ?hr ?_; (case hd => rfl); (case hg => rfl); (case hr => first | (go_simp; done) | (go_simp; rfl)); intro gb673 hg w20 hbox hb; have n0_ := Aside0.mk (blk_below (g := gb635) (o := .cells #[.string a1_0, .int .u64 a1_1, .int .u64 a1_2] 44 (0, 0)) (by (with_reducible repeat (first | refine blk_drewN ?_ _ | refine blk_drew ?_ | refine blk_alloc ?_ _)); exact BK635.out) hb); have n1_ := Aside0.mk (blk_below (g := gb668) (o := .cells #[.string t664, .int .u64 t665, .int .u64 t666] 44 (0, 0)) (by (with_reducible repeat (first | refine blk_drewN ?_ _ | refine blk_drew ?_ | refine blk_alloc ?_ _)); exact BK668.out) hb); have n2_ := Aside0.mk (below_step (by repeat (first | (with_reducible first | exact HB.out | apply below_alloc | apply pw_below_drewN | apply below_drew1 | refine below_set ?_ GE635.out | refine below_set ?_ GE668.out) | exact HB.out)) hb); have n3_ := Aside0.mk (hbox); have n4_ := Aside0.mk ((by rw [hg]; exact (below_size (by repeat (first | (with_reducible first | exact HB.out | apply below_alloc | apply pw_below_drewN | apply below_drew1 | refine below_set ?_ GE635.out | refine below_set ?_ GE668.out) | exact HB.out))) : w.heap.size ≤ gb673)); have n5_ := Aside0.mk ((by rw [hg]; exact (below_size (by repeat (first | (with_reducible first | exact HB.out | apply below_alloc | apply pw_below_drewN | apply below_drew1 | refine below_set ?_ GE635.out | refine below_set ?_ GE668.out) | exact HB.out))) : w.heap.size ≤ gb673)); have n6_ := Aside0.mk ((by rw [hg]; exact Nat.ne_of_lt (blk_lt (g := gb635) (o := .cells #[.string a1_0, .int .u64 a1_1, .int .u64 a1_2] 44 (0, 0)) (by (with_reducible repeat (first | refine blk_drewN ?_ _ | refine blk_drew ?_ | refine blk_alloc ?_ _)); exact BK635.out)) : gb635 ≠ gb673)); have n7_ := Aside0.mk ((by rw [hg]; exact Nat.ne_of_gt (blk_lt (g := gb635) (o := .cells #[.string a1_0, .int .u64 a1_1, .int .u64 a1_2] 44 (0, 0)) (by (with_reducible repeat (first | refine blk_drewN ?_ _ | refine blk_drew ?_ | refine blk_alloc ?_ _)); exact BK635.out)) : gb673 ≠ gb635)); have n8_ := Aside0.mk ((by rw [hg]; exact Nat.ne_of_lt (blk_lt (g := gb668) (o := .cells #[.string t664, .int .u64 t665, .int .u64 t666] 44 (0, 0)) (by (with_reducible repeat (first | refine blk_drewN ?_ _ | refine blk_drew ?_ | refine blk_alloc ?_ _)); exact BK668.out)) : gb668 ≠ gb673)); have n9_ := Aside0.mk ((by rw [hg]; exact Nat.ne_of_gt (blk_lt (g := gb668) (o := .cells #[.string t664, .int .u64 t665, .int .u64 t666] 44 (0, 0)) (by (with_reducible repeat (first | refine blk_drewN ?_ _ | refine blk_drew ?_ | refine blk_alloc ?_ _)); exact BK668.out)) : gb673 ≠ gb668)); clear BK635; clear BK668; clear HB; have BK635 := n0_; have BK668 := n1_; have HB := n2_; have BK673 := n3_; have GW673 := n4_; have GE673 := n5_; have NB635_673 := n6_; have NB673_635 := n7_; have NB668_673 := n8_; have NB673_668 := n9_; clear n0_ n1_ n2_ n3_ n4_ n5_ n6_ n7_ n8_ n9_; clear hb hbox hg; have hnb21 := NB673_635.out; have hnc21 := NB635_673.out; have hnb22 := NB673_668.out; have hnc22 := NB668_673.out; have hcz23_0 : w20.cell? ⟨gb673, 0, none⟩ = some (.string (⟨#[]⟩ : ByteArray)) := (blk_cell BK673.out 0).trans rfl; have hcz23_1 : w20.cell? ⟨gb673, 1, none⟩ = some (.int .u64 0) := (blk_cell BK673.out 1).trans rfl; have hcz23_2 : w20.cell? ⟨gb673, 2, none⟩ = some (.int .u64 0) := (blk_cell BK673.out 2).trans rfl; have hfz23_0 := blk_frozen BK673.out 0; have hfz23_1 := blk_frozen BK673.out 1; have hfz23_2 := blk_frozen BK673.out 2; have hcz24_0 : w20.cell? ⟨gb635, 0, none⟩ = some (.string a1_0) := (blk_cell BK635.out 0).trans rfl; have hcz24_1 : w20.cell? ⟨gb635, 1, none⟩ = some (.int .u64 a1_1) := (blk_cell BK635.out 1).trans rfl; have hcz24_2 : w20.cell? ⟨gb635, 2, none⟩ = some (.int .u64 a1_2) := (blk_cell BK635.out 2).trans rfl; have hfz24_0 := blk_frozen BK635.out 0; have hfz24_1 := blk_frozen BK635.out 1; have hfz24_2 := blk_frozen BK635.out 2) | ((with_reducible refine gate_callee (f := 48) rfl ?_); refine goesL_ (some 34) rfl rfl Tryd.func48 (by kernel_rfl) rfl #[.agg #[.string a1_0, .int .u64 a1_1, .int .u64 a1_2]] rfl (by (try simp only [List.map_toArray, List.map_cons, List.map_nil]); first | done | rfl | (simp only [List.length_drop, List.length_take]; rfl)) ?_; (with_reducible refine (row_Text.calls a1_0 a1_1 a1_2 t674 t675 _ ?side1 A10.out).mono ?_); (case side1 => exact gt_below hG (by repeat (first | (with_reducible first | exact HB.out | apply below_alloc | apply pw_below_drewN | apply below_drew1 | refine below_set ?_ GE635.out | refine below_set ?_ GE668.out | refine below_set ?_ GE673.out) | exact HB.out))); rintro e w25 ⟨rfl, hb⟩; refine ⟨_, rfl, ?_⟩; have n0_ := Aside0.mk (blk_below (g := gb635) (o := .cells #[.string a1_0, .int .u64 a1_1, .int .u64 a1_2] 44 (0, 0)) (by (with_reducible repeat (first | refine blk_drewN ?_ _ | refine blk_drew ?_ | refine blk_alloc ?_ _)); refine blk_far ?_ NB635_673.out _; (with_reducible repeat (first | refine blk_drewN ?_ _ | refine blk_drew ?_ | refine blk_alloc ?_ _)); refine blk_far ?_ NB635_673.out _; (with_reducible repeat (first | refine blk_drewN ?_ _ | refine blk_drew ?_ | refine blk_alloc ?_ _)); refine blk_far ?_ NB635_673.out _; (with_reducible repeat (first | refine blk_drewN ?_ _ | refine blk_drew ?_ | refine blk_alloc ?_ _)); exact BK635.out) hb); have n1_ := Aside0.mk (blk_below (g := gb668) (o := .cells #[.string t664, .int .u64 t665, .int .u64 t666] 44 (0, 0)) (by (with_reducible repeat (first | refine blk_drewN ?_ _ | refine blk_drew ?_ | refine blk_alloc ?_ _)); refine blk_far ?_ NB668_673.out _; (with_reducible repeat (first | refine blk_drewN ?_ _ | refine blk_drew ?_ | refine blk_alloc ?_ _)); refine blk_far ?_ NB668_673.out _; (with_reducible repeat (first | refine blk_drewN ?_ _ | refine blk_drew ?_ | refine blk_alloc ?_ _)); refine blk_far ?_ NB668_673.out _; (with_reducible repeat (first | refine blk_drewN ?_ _ | refine blk_drew ?_ | refine blk_alloc ?_ _)); exact BK668.out) hb); have n2_ := Aside0.mk (blk_below (g := gb673) (o := .cells #[.string t669, .int .u64 t670, .int .u64 t671] 44 (0, 0)) (by (with_reducible repeat (first | refine blk_drewN ?_ _ | refine blk_drew ?_ | refine blk_alloc ?_ _)); refine blk_put (cs := #[.string t669, .int .u64 t670, .int .u64 0]) ?_ 2 _ rfl; (with_reducible repeat (first | refine blk_drewN ?_ _ | refine blk_drew ?_ | refine blk_alloc ?_ _)); refine blk_put (cs := #[.string t669, .int .u64 0, .int .u64 0]) ?_ 1 _ rfl; (with_reducible repeat (first | refine blk_drewN ?_ _ | refine blk_drew ?_ | refine blk_alloc ?_ _)); refine blk_put (cs := #[.string (⟨#[]⟩ : ByteArray), .int .u64 0, .int .u64 0]) ?_ 0 _ rfl; (with_reducible repeat (first | refine blk_drewN ?_ _ | refine blk_drew ?_ | refine blk_alloc ?_ _)); exact BK673.out) hb); have n3_ := Aside0.mk (below_step (by repeat (first | (with_reducible first | exact HB.out | apply below_alloc | apply pw_below_drewN | apply below_drew1 | refine below_set ?_ GE635.out | refine below_set ?_ GE668.out | refine below_set ?_ GE673.out) | exact HB.out)) hb); clear BK635; clear BK668; clear BK673; clear HB; have BK635 := n0_; have BK668 := n1_; have BK673 := n2_; have HB := n3_; clear n0_ n1_ n2_ n3_; (try clear hb); (try clear hb2); (try clear hk); (try clear hi); have hcz26_0 : w25.cell? ⟨gb635, 0, none⟩ = some (.string a1_0) := (blk_cell BK635.out 0).trans rfl; have hcz26_1 : w25.cell? ⟨gb635, 1, none⟩ = some (.int .u64 a1_1) := (blk_cell BK635.out 1).trans rfl; have hcz26_2 : w25.cell? ⟨gb635, 2, none⟩ = some (.int .u64 a1_2) := (blk_cell BK635.out 2).trans rfl; have hfz26_0 := blk_frozen BK635.out 0; have hfz26_1 := blk_frozen BK635.out 1; have hfz26_2 := blk_frozen BK635.out 2) | ((with_reducible refine gate_callee (f := 49) rfl ?_); refine goesL_ (some 39) rfl rfl Tryd.func49 (by kernel_rfl) rfl #[.agg #[.string a1_0, .int .u64 a1_1, .int .u64 a1_2]] rfl (by (try simp only [List.map_toArray, List.map_cons, List.map_nil]); first | done | rfl | (simp only [List.length_drop, List.length_take]; rfl)) ?_; (with_reducible refine (paymasterref10_Text.calls kj2 a1_0 a1_1 a1_2 t676 t677 _ A11.out).mono ?_); rintro e w27 ⟨rfl, hb⟩; refine ⟨_, rfl, ?_⟩; have n0_ := Aside0.mk (blk_below (g := gb635) (o := .cells #[.string a1_0, .int .u64 a1_1, .int .u64 a1_2] 44 (0, 0)) (by (with_reducible repeat (first | refine blk_drewN ?_ _ | refine blk_drew ?_ | refine blk_alloc ?_ _)); exact BK635.out) hb); have n1_ := Aside0.mk (blk_below (g := gb668) (o := .cells #[.string t664, .int .u64 t665, .int .u64 t666] 44 (0, 0)) (by (with_reducible repeat (first | refine blk_drewN ?_ _ | refine blk_drew ?_ | refine blk_alloc ?_ _)); exact BK668.out) hb); have n2_ := Aside0.mk (blk_below (g := gb673) (o := .cells #[.string t669, .int .u64 t670, .int .u64 t671] 44 (0, 0)) (by (with_reducible repeat (first | refine blk_drewN ?_ _ | refine blk_drew ?_ | refine blk_alloc ?_ _)); exact BK673.out) hb); have n3_ := Aside0.mk (below_step (by repeat (first | (with_reducible first | exact HB.out | apply below_alloc | apply pw_below_drewN | apply below_drew1 | refine below_set ?_ GE635.out | refine below_set ?_ GE668.out | refine below_set ?_ GE673.out) | exact HB.out)) hb); clear BK635; clear BK668; clear BK673; clear HB; have BK635 := n0_; have BK668 := n1_; have BK673 := n2_; have HB := n3_; clear n0_ n1_ n2_ n3_; (try clear hb); (try clear hb2); (try clear hk); (try clear hi); have hcz28_0 : w27.cell? ⟨gb668, 0, none⟩ = some (.string t664) := (blk_cell BK668.out 0).trans rfl; have hcz28_1 : w27.cell? ⟨gb668, 1, none⟩ = some (.int .u64 t665) := (blk_cell BK668.out 1).trans rfl; have hcz28_2 : w27.cell? ⟨gb668, 2, none⟩ = some (.int .u64 t666) := (blk_cell BK668.out 2).trans rfl; have hfz28_0 := blk_frozen BK668.out 0; have hfz28_1 := blk_frozen BK668.out 1; have hfz28_2 := blk_frozen BK668.out 2; have hcz29_0 : w27.cell? ⟨gb673, 0, none⟩ = some (.string t669) := (blk_cell BK673.out 0).trans rfl; have hcz29_1 : w27.cell? ⟨gb673, 1, none⟩ = some (.int .u64 t670) := (blk_cell BK673.out 1).trans rfl; have hcz29_2 : w27.cell? ⟨gb673, 2, none⟩ = some (.int .u64 t671) := (blk_cell BK673.out 2).trans rfl; have hfz29_0 := blk_frozen BK673.out 0; have hfz29_1 := blk_frozen BK673.out 1; have hfz29_2 := blk_frozen BK673.out 2))
              go_ret
              exact ⟨by first | rfl | (simp [errW_none, errW_some] <;> rfl) | (simp [*, errW_none, errW_some] <;> rfl), by repeat (first | (with_reducible first | exact HB.out | apply below_alloc | apply pw_below_drewN | apply below_drew1 | refine below_set ?_ GE635.out | refine below_set ?_ GE668.out | refine below_set ?_ GE673.out) | exact HB.out)⟩
            · rw [if_neg c14] at H
              exact absurd H (by simp)
          · rw [if_neg c13] at H
            exact absurd H (by simp)
        · rw [if_neg c12] at H
          exact absurd H (by simp)
end Go.Proofs.YtpkjpiphjdpegaaDoor.P
namespace Go.Proofs.YtpkjpiphjdpegaaDoor.P
open Go.RowKit Go.Proofs.YtpkjpiphjdpegaaDoorW.PrintWords Go.Proofs.YtpkjpiphjdpegaaDoorW.PrintLast Go.Proofs.YtpkjpiphjdpegaaDoorW.PrintMore
set_option linter.unusedVariables false
set_option linter.unusedSimpArgs false
theorem tm (x : Int) (h0 : 0 ≤ x) : Int.tmod x 65536 = x % 65536 := Int.tmod_eq_emod_of_nonneg h0
theorem td (x : Int) (h0 : 0 ≤ x) : Int.tdiv x 65536 = x / 65536 := Int.tdiv_eq_ediv_of_nonneg h0
def dg (hi lo : Int) : List Int := [lo % 65536, lo / 65536 % 65536, lo / 65536 / 65536 % 65536, lo / 65536 / 65536 / 65536 % 65536, hi % 65536, hi / 65536 % 65536, hi / 65536 / 65536 % 65536, hi / 65536 / 65536 / 65536 % 65536]
theorem dg_step {k : Nat} (l : List Int) (i x y : Int) (hi : 0 ≤ i) (hi4 : i < 4) (hl : l.length < 100) (hx : 0 ≤ y) (hy : y < 18446744073709551616) :
    paymasterref01_digits.l0 (k + 1) l i x y = paymasterref01_digits.l0 k (l ++ [y % 65536]) (i + 1) x (y / 65536) := by
  simp only [paymasterref01_digits.l0]
  rw [if_pos hi4, if_pos (by omega), tm _ hx, td _ hx, wu _ (by omega) (by omega), wi _ (by omega) (by omega)]
theorem dg_step1 {k : Nat} (l : List Int) (i x y : Int) (hi : 0 ≤ i) (hi4 : i < 4) (hl : l.length < 100) (hx : 0 ≤ x) (hy : x < 18446744073709551616) :
    paymasterref01_digits.l1 (k + 1) l i x y = paymasterref01_digits.l1 k (l ++ [x % 65536]) (i + 1) (x / 65536) y := by
  simp only [paymasterref01_digits.l1]
  rw [if_pos hi4, if_pos (by omega), tm _ hx, td _ hx, wu _ (by omega) (by omega), wi _ (by omega) (by omega)]
theorem digits_is (k : Nat) (hi lo : Int) (h : U64 hi) (h' : U64 lo) : paymasterref01_digits.f (k + 10) hi lo = some (dg hi lo) := by
  unfold paymasterref01_digits.f
  rw [dg_step _ 0 _ _ (by omega) (by omega) (by simp) h'.1 h'.2, dg_step _ _ _ _ (by omega) (by omega) (by simp) (by omega) (by omega), dg_step _ _ _ _ (by omega) (by omega) (by simp) (by omega) (by omega), dg_step _ _ _ _ (by omega) (by omega) (by simp) (by omega) (by omega)]
  simp only [paymasterref01_digits.l0]
  rw [if_neg (by omega)]
  rw [dg_step1 _ 0 _ _ (by omega) (by omega) (by simp) h.1 h.2, dg_step1 _ _ _ _ (by omega) (by omega) (by simp) (by omega) (by omega), dg_step1 _ _ _ _ (by omega) (by omega) (by simp) (by omega) (by omega), dg_step1 _ _ _ _ (by omega) (by omega) (by simp) (by omega) (by omega)]
  simp only [paymasterref01_digits.l1]
  rw [if_neg (by omega)]
  rfl
def D16 (x : Int) : Prop := 0 ≤ x ∧ x < 65536
theorem num_hi {k : Nat} (l : List Int) (i j a b : Int) (hj : i = j + 1) (h4 : 4 ≤ i) (h8 : i < 8) (hl : i < l.length) (ha : 0 ≤ a) (ha' : a < 281474976710656) (hd : D16 (rd l i)) :
    paymasterref01_number.l0 (k + 3) l i a b = paymasterref01_number.l0 k l j (a * 65536 + rd l i) b := by
  obtain rfl : j = i - 1 := by omega
  obtain ⟨d0, d1⟩ := hd
  simp only [paymasterref01_number.l0, paymasterref01_number.j1, paymasterref01_number.j2]
  rw [if_pos (by omega), if_neg (by omega), if_neg (by simp), if_pos h8, if_pos (by simpa using h4), if_pos (by omega), if_pos hl, if_neg (by omega), wu (a * 65536) (by omega) (by omega), wu _ (by omega) (by omega), wi _ (by omega) (by omega)]
theorem num_lo {k : Nat} (l : List Int) (i j a b : Int) (hj : i = j + 1) (h4 : 0 ≤ i) (h8 : i < 4) (hl : i < l.length) (ha : 0 ≤ b) (ha' : b < 281474976710656) (hd : D16 (rd l i)) :
    paymasterref01_number.l0 (k + 3) l i a b = paymasterref01_number.l0 k l j a (b * 65536 + rd l i) := by
  obtain rfl : j = i - 1 := by omega
  obtain ⟨d0, d1⟩ := hd
  simp only [paymasterref01_number.l0, paymasterref01_number.j1, paymasterref01_number.j2]
  rw [if_pos (by omega), if_neg (by omega), if_neg (by simp), if_pos (by omega), if_neg (by simp; omega), if_pos (by omega), if_pos (by omega), if_pos hl, wu (b * 65536) (by omega) (by omega), wu _ (by omega) (by omega), wi _ (by omega) (by omega)]
theorem num_top {k : Nat} (l : List Int) (i a b : Int) (h8 : 8 ≤ i) (hl : i < l.length) (hb : i < 100) :
    paymasterref01_number.l0 (k + 3) l i a b = if rd l i = 0 then paymasterref01_number.l0 k l (i - 1) a b else some (0, 0, false) := by
  simp only [paymasterref01_number.l0, paymasterref01_number.j1, paymasterref01_number.j2]
  rw [if_pos (by omega), if_pos (by omega), if_pos (by omega), if_pos hl]
  by_cases h : rd l i = 0
  · rw [if_pos h, if_neg (by simp [h]), if_neg (by omega), if_neg (by simp), if_neg (by omega), wi _ (by omega) (by omega)]
  · rw [if_neg h, if_pos (by simpa using h)]
theorem num_end {k : Nat} (l : List Int) (a b : Int) : paymasterref01_number.l0 (k + 1) l (-1) a b = some (a, b, true) := by
  simp only [paymasterref01_number.l0]
  rw [if_neg (by omega)]
theorem num_body (k : Nat) (l : List Int) (a b c d e f g h : Int) (hl : 8 ≤ l.length) (e0 : rd l 0 = a) (e1 : rd l 1 = b) (e2 : rd l 2 = c) (e3 : rd l 3 = d) (e4 : rd l 4 = e) (e5 : rd l 5 = f) (e6 : rd l 6 = g) (e7 : rd l 7 = h)
    (ha : D16 a) (hb : D16 b) (hc : D16 c) (hd : D16 d) (he : D16 e) (hf_ : D16 f) (hg : D16 g) (hh : D16 h) :
    paymasterref01_number.l0 (k + 25) l 7 0 0 = some (hf e f g h, hf a b c d, true) := by
  have b0 := ha; have b1 := hb; have b2 := hc; have b3 := hd; have b4 := he; have b5 := hf_; have b6 := hg; have b7 := hh
  unfold D16 at b0 b1 b2 b3 b4 b5 b6 b7
  subst e0 e1 e2 e3 e4 e5 e6 e7
  rw [num_hi l 7 (6) _ _ rfl (by omega) (by omega) (by omega) (by omega) (by omega) hh, num_hi l 6 (5) _ _ rfl (by omega) (by omega) (by omega) (by omega) (by omega) hg, num_hi l 5 (4) _ _ rfl (by omega) (by omega) (by omega) (by omega) (by omega) hf_, num_hi l 4 (3) _ _ rfl (by omega) (by omega) (by omega) (by omega) (by omega) he, num_lo l 3 (2) _ _ rfl (by omega) (by omega) (by omega) (by omega) (by omega) hd, num_lo l 2 (1) _ _ rfl (by omega) (by omega) (by omega) (by omega) (by omega) hc, num_lo l 1 (0) _ _ rfl (by omega) (by omega) (by omega) (by omega) (by omega) hb, num_lo l 0 (-1) _ _ rfl (by omega) (by omega) (by omega) (by omega) (by omega) ha]
  refine (num_end (k := k) l _ _).trans ?_
  unfold hf
  simp only [Int.zero_mul, Int.zero_add]
theorem number8 (k : Nat) (a b c d e f g h : Int) (ha : D16 a) (hb : D16 b) (hc : D16 c) (hd : D16 d) (he : D16 e) (hf_ : D16 f) (hg : D16 g) (hh : D16 h) :
    paymasterref01_number.f (k + 25) [a, b, c, d, e, f, g, h] = some (hf e f g h, hf a b c d, true) := by
  unfold paymasterref01_number.f
  rw [show wrap64 (([a, b, c, d, e, f, g, h].length : Int) - 1) = 7 from by simp [wrap64]]
  exact num_body k _ a b c d e f g h (by simp) rfl rfl rfl rfl rfl rfl rfl rfl ha hb hc hd he hf_ hg hh
theorem number9 (k : Nat) (a b c d e f g h i : Int) (ha : D16 a) (hb : D16 b) (hc : D16 c) (hd : D16 d) (he : D16 e) (hf_ : D16 f) (hg : D16 g) (hh : D16 h) :
    paymasterref01_number.f (k + 28) [a, b, c, d, e, f, g, h, i] = some (if i = 0 then (hf e f g h, hf a b c d, true) else (0, 0, false)) := by
  unfold paymasterref01_number.f
  rw [show wrap64 (([a, b, c, d, e, f, g, h, i].length : Int) - 1) = 8 from by simp [wrap64]]
  refine (num_top (k := k + 25) [a, b, c, d, e, f, g, h, i] 8 0 0 (by omega) (by simp) (by omega)).trans ?_
  have e8 : rd [a, b, c, d, e, f, g, h, i] 8 = i := rfl
  rw [e8]
  by_cases hi : i = 0
  · rw [if_pos hi, if_pos hi]
    exact num_body k _ a b c d e f g h (by simp) rfl rfl rfl rfl rfl rfl rfl rfl ha hb hc hd he hf_ hg hh
  · rw [if_neg hi, if_neg hi]
theorem split4 (x : Int) (h : U64 x) : ∃ d0 d1 d2 d3 : Int, x % 65536 = d0 ∧ x / 65536 % 65536 = d1 ∧ x / 65536 / 65536 % 65536 = d2 ∧ x / 65536 / 65536 / 65536 % 65536 = d3 ∧ D16 d0 ∧ D16 d1 ∧ D16 d2 ∧ D16 d3 ∧ x = hf d0 d1 d2 d3 := by
  obtain ⟨h0, h1⟩ := h
  refine ⟨_, _, _, _, rfl, rfl, rfl, rfl, ?_⟩
  unfold D16 hf
  obtain ⟨a, ha⟩ : ∃ a, x / 65536 = a := ⟨_, rfl⟩
  rw [ha]
  obtain ⟨b, hb⟩ : ∃ b, a / 65536 = b := ⟨_, rfl⟩
  rw [hb]
  obtain ⟨c, hc⟩ : ∃ c, b / 65536 = c := ⟨_, rfl⟩
  rw [hc]
  have e0 : x = a * 65536 + x % 65536 := by omega
  have e1 : a = b * 65536 + a % 65536 := by omega
  have e2 : b = c * 65536 + b % 65536 := by omega
  have c1 : 0 ≤ c ∧ c < 65536 := by omega
  generalize hx : x % 65536 = p at *
  generalize hy : a % 65536 = q at *
  generalize hz : b % 65536 = r at *
  have hw : c % 65536 = c := by omega
  rw [hw]
  refine ⟨by omega, by omega, by omega, by omega, ?_⟩
  clear ha hb hc hx hy hz hw h0 h1 c1
  subst e2
  subst e1
  exact e0
end Go.Proofs.YtpkjpiphjdpegaaDoor.P
namespace Go.Proofs.YtpkjpiphjdpegaaDoor.P
open Go.RowKit Go.Proofs.YtpkjpiphjdpegaaDoorW.PrintWords Go.Proofs.YtpkjpiphjdpegaaDoorW.PrintLast Go.Proofs.YtpkjpiphjdpegaaDoorW.PrintMore
set_option linter.unusedVariables false
set_option linter.unusedSimpArgs false
theorem dg_cases (hi lo : Int) (h : U64 hi) (h' : U64 lo) : ∃ d0 d1 d2 d3 d4 d5 d6 d7 : Int, dg hi lo = [d0, d1, d2, d3, d4, d5, d6, d7] ∧ D16 d0 ∧ D16 d1 ∧ D16 d2 ∧ D16 d3 ∧ D16 d4 ∧ D16 d5 ∧ D16 d6 ∧ D16 d7 ∧ hi = hf d4 d5 d6 d7 ∧ lo = hf d0 d1 d2 d3 := by
  obtain ⟨d0, d1, d2, d3, e0, e1, e2, e3, h0, h1, h2, h3, hl⟩ := split4 lo h'
  obtain ⟨d4, d5, d6, d7, e4, e5, e6, e7, h4, h5, h6, h7, hh⟩ := split4 hi h
  refine ⟨d0, d1, d2, d3, d4, d5, d6, d7, ?_, h0, h1, h2, h3, h4, h5, h6, h7, hh, hl⟩
  unfold dg
  rw [e0, e1, e2, e3, e4, e5, e6, e7]
theorem add_step {k : Nat} (X Y out : List Int) (c i j x y : Int) (hj : j = i + 1) (h0 : 0 ≤ i) (h8 : i < 8) (hX : (X.length : Int) = 8) (hY : (Y.length : Int) = 8) (hx : rd X i = x) (hy : rd Y i = y) (dx : D16 x) (dy : D16 y) (hc : 0 ≤ c) (hc1 : c ≤ 1) (hl : out.length < 100) :
    paymasterref01_Add.l0 (k + 1) X Y c out i = paymasterref01_Add.l0 k X Y ((x + y + c) / 65536) (out ++ [(x + y + c) % 65536]) j := by
  obtain ⟨x0, x1⟩ := dx
  obtain ⟨y0, y1⟩ := dy
  subst hj hx hy
  simp only [paymasterref01_Add.l0]
  rw [if_pos h8, if_pos h0, if_pos (by omega), if_pos (by omega), if_pos (by omega), wu (rd X i + rd Y i) (by omega) (by omega), wu (rd X i + rd Y i + c) (by omega) (by omega), tm _ (by omega), td _ (by omega), wu _ (by omega) (by omega), wi _ (by omega) (by omega)]
theorem sum_digits (x0 x1 x2 x3 x4 x5 x6 x7 : Int) : hf x4 x5 x6 x7 * 18446744073709551616 + hf x0 x1 x2 x3 = x0 + x1 * 65536 + x2 * 4294967296 + x3 * 281474976710656 + x4 * 18446744073709551616 + x5 * 1208925819614629174706176 + x6 * 79228162514264337593543950336 + x7 * 5192296858534827628530496329220096 := by
  unfold hf; omega
theorem hf_range (a b c d : Int) (ha : D16 a) (hb : D16 b) (hc : D16 c) (hd : D16 d) : U64 (hf a b c d) := by
  unfold D16 at *; unfold hf; constructor <;> omega
set_option maxHeartbeats 400000 in
theorem refAdd_is (k : Nat) (a b c d : Int) (ha : U64 a) (hb : U64 b) (hc : U64 c) (hd : U64 d) : paymasterref01_Add.f (k + 50) a b c d = u128_Add.f a b c d := by
  unfold paymasterref01_Add.f
  have A : paymasterref01_digits.f (k + 50) a b = some (dg a b) := digits_is (k + 40) a b ha hb
  have B : paymasterref01_digits.f (k + 50) c d = some (dg c d) := digits_is (k + 40) c d hc hd
  rw [A, B]
  clear A B
  simp only [Option.bind_some]
  obtain ⟨x0, x1, x2, x3, x4, x5, x6, x7, eX, hx0, hx1, hx2, hx3, hx4, hx5, hx6, hx7, va, vb⟩ := dg_cases a b ha hb
  obtain ⟨y0, y1, y2, y3, y4, y5, y6, y7, eY, hy0, hy1, hy2, hy3, hy4, hy5, hy6, hy7, vc, vd⟩ := dg_cases c d hc hd
  have lx : ((dg a b).length : Int) = 8 := rfl
  have ly : ((dg c d).length : Int) = 8 := rfl
  have e0 : rd (dg a b) 0 = x0 := by rw [eX]; rfl
  have e1 : rd (dg a b) 1 = x1 := by rw [eX]; rfl
  have e2 : rd (dg a b) 2 = x2 := by rw [eX]; rfl
  have e3 : rd (dg a b) 3 = x3 := by rw [eX]; rfl
  have e4 : rd (dg a b) 4 = x4 := by rw [eX]; rfl
  have e5 : rd (dg a b) 5 = x5 := by rw [eX]; rfl
  have e6 : rd (dg a b) 6 = x6 := by rw [eX]; rfl
  have e7 : rd (dg a b) 7 = x7 := by rw [eX]; rfl
  have f0 : rd (dg c d) 0 = y0 := by rw [eY]; rfl
  have f1 : rd (dg c d) 1 = y1 := by rw [eY]; rfl
  have f2 : rd (dg c d) 2 = y2 := by rw [eY]; rfl
  have f3 : rd (dg c d) 3 = y3 := by rw [eY]; rfl
  have f4 : rd (dg c d) 4 = y4 := by rw [eY]; rfl
  have f5 : rd (dg c d) 5 = y5 := by rw [eY]; rfl
  have f6 : rd (dg c d) 6 = y6 := by rw [eY]; rfl
  have f7 : rd (dg c d) 7 = y7 := by rw [eY]; rfl
  generalize dg a b = X at *
  generalize dg c d = Y at *
  have vx : val a b = x0 + x1 * 65536 + x2 * 4294967296 + x3 * 281474976710656 + x4 * 18446744073709551616 + x5 * 1208925819614629174706176 + x6 * 79228162514264337593543950336 + x7 * 5192296858534827628530496329220096 := by
    unfold val; rw [va, vb, sum_digits]
  have vy : val c d = y0 + y1 * 65536 + y2 * 4294967296 + y3 * 281474976710656 + y4 * 18446744073709551616 + y5 * 1208925819614629174706176 + y6 * 79228162514264337593543950336 + y7 * 5192296858534827628530496329220096 := by
    unfold val; rw [vc, vd, sum_digits]
  clear eX eY va vb vc vd
  have key : ∀ x y c : Int, D16 x → D16 y → 0 ≤ c → c ≤ 1 → ∃ s q : Int, (x + y + c) % 65536 = s ∧ (x + y + c) / 65536 = q ∧ D16 s ∧ 0 ≤ q ∧ q ≤ 1 ∧ x + y + c = q * 65536 + s := by
    intro x y c hx hy h0 h1
    unfold D16 at *
    exact ⟨_, _, rfl, rfl, by omega, by omega, by omega, by omega⟩
  obtain ⟨s0, c1, p0, q0, t0, g0, g0', v0⟩ := key x0 y0 0 hx0 hy0 (by omega) (by omega)
  obtain ⟨s1, c2, p1, q1, t1, g1, g1', v1⟩ := key x1 y1 c1 hx1 hy1 g0 g0'
  obtain ⟨s2, c3, p2, q2, t2, g2, g2', v2⟩ := key x2 y2 c2 hx2 hy2 g1 g1'
  obtain ⟨s3, c4, p3, q3, t3, g3, g3', v3⟩ := key x3 y3 c3 hx3 hy3 g2 g2'
  obtain ⟨s4, c5, p4, q4, t4, g4, g4', v4⟩ := key x4 y4 c4 hx4 hy4 g3 g3'
  obtain ⟨s5, c6, p5, q5, t5, g5, g5', v5⟩ := key x5 y5 c5 hx5 hy5 g4 g4'
  obtain ⟨s6, c7, p6, q6, t6, g6, g6', v6⟩ := key x6 y6 c6 hx6 hy6 g5 g5'
  obtain ⟨s7, c8, p7, q7, t7, g7, g7', v7⟩ := key x7 y7 c7 hx7 hy7 g6 g6'
  refine (add_step (k := k + 49) X Y [] 0 0 1 x0 y0 rfl (by omega) (by omega) lx ly e0 f0 hx0 hy0 (by omega) (by omega) (by simp)).trans ?_
  rw [p0, q0]
  simp only [List.nil_append]
  refine (add_step (k := k + 48) X Y [s0] c1 1 2 x1 y1 rfl (by omega) (by omega) lx ly e1 f1 hx1 hy1 g0 g0' (by simp)).trans ?_
  rw [p1, q1]
  simp only [List.cons_append, List.nil_append]
  refine (add_step (k := k + 47) X Y [s0, s1] c2 2 3 x2 y2 rfl (by omega) (by omega) lx ly e2 f2 hx2 hy2 g1 g1' (by simp)).trans ?_
  rw [p2, q2]
  simp only [List.cons_append, List.nil_append]
  refine (add_step (k := k + 46) X Y [s0, s1, s2] c3 3 4 x3 y3 rfl (by omega) (by omega) lx ly e3 f3 hx3 hy3 g2 g2' (by simp)).trans ?_
  rw [p3, q3]
  simp only [List.cons_append, List.nil_append]
  refine (add_step (k := k + 45) X Y [s0, s1, s2, s3] c4 4 5 x4 y4 rfl (by omega) (by omega) lx ly e4 f4 hx4 hy4 g3 g3' (by simp)).trans ?_
  rw [p4, q4]
  simp only [List.cons_append, List.nil_append]
  refine (add_step (k := k + 44) X Y [s0, s1, s2, s3, s4] c5 5 6 x5 y5 rfl (by omega) (by omega) lx ly e5 f5 hx5 hy5 g4 g4' (by simp)).trans ?_
  rw [p5, q5]
  simp only [List.cons_append, List.nil_append]
  refine (add_step (k := k + 43) X Y [s0, s1, s2, s3, s4, s5] c6 6 7 x6 y6 rfl (by omega) (by omega) lx ly e6 f6 hx6 hy6 g5 g5' (by simp)).trans ?_
  rw [p6, q6]
  simp only [List.cons_append, List.nil_append]
  refine (add_step (k := k + 42) X Y [s0, s1, s2, s3, s4, s5, s6] c7 7 8 x7 y7 rfl (by omega) (by omega) lx ly e7 f7 hx7 hy7 g6 g6' (by simp)).trans ?_
  rw [p7, q7]
  simp only [List.cons_append, List.nil_append]
  have fin : paymasterref01_Add.l0 (k + 42) X Y c8 [s0, s1, s2, s3, s4, s5, s6, s7] 8 = (paymasterref01_number.f (k + 41) [s0, s1, s2, s3, s4, s5, s6, s7, c8]).bind fun bt153 => (if bt153.2.2 = true then (some (bt153.1, bt153.2.1, 0)) else (some (0, 0, 10))) := by
    rw [paymasterref01_Add.l0, if_neg (by omega), if_pos (by simp)]
    rfl
  refine fin.trans ?_
  have N := number9 (k + 13) s0 s1 s2 s3 s4 s5 s6 s7 c8 t0 t1 t2 t3 t4 t5 t6 t7
  rw [show k + 13 + 28 = k + 41 from rfl] at N
  rw [N]
  clear N fin
  have sd := sum_digits s0 s1 s2 s3 s4 s5 s6 s7
  have hr := hf_range s4 s5 s6 s7 t4 t5 t6 t7
  have hr' := hf_range s0 s1 s2 s3 t0 t1 t2 t3
  have tot : val a b + val c d = c8 * 340282366920938463463374607431768211456 + (hf s4 s5 s6 s7 * 18446744073709551616 + hf s0 s1 s2 s3) := by
    rw [sd, vx, vy]
    omega
  obtain ⟨r0, r1⟩ := hr
  obtain ⟨r2, r3⟩ := hr'
  generalize hf s4 s5 s6 s7 = H at *
  generalize hf s0 s1 s2 s3 = L at *
  clear sd vx vy key
  by_cases h8 : c8 = 0
  · have hlt : val a b + val c d < m128 := by unfold m128; omega
    have hh := halves (val a b + val c d) H L ⟨r2, r3⟩ (by rw [tot, h8]; omega)
    have hA : u128_Add.f a b c d = some (H, L, 0) := by
      unfold u128_Add.f
      rw [if_pos (show U64 a ∧ U64 b ∧ U64 c ∧ U64 d from ⟨ha, hb, hc, hd⟩), if_pos hlt, hh.1, hh.2]
    rw [hA, if_pos h8]
    rfl
  · have hge : ¬ (val a b + val c d < m128) := by unfold m128; omega
    have hA : u128_Add.f a b c d = some (0, 0, 10) := by
      unfold u128_Add.f
      rw [if_pos (show U64 a ∧ U64 b ∧ U64 c ∧ U64 d from ⟨ha, hb, hc, hd⟩), if_neg hge]
    rw [hA, if_neg h8]
    rfl
end Go.Proofs.YtpkjpiphjdpegaaDoor.P
namespace Go.Proofs.YtpkjpiphjdpegaaDoor.P
open Go.RowKit Go.Proofs.YtpkjpiphjdpegaaDoorW.PrintWords Go.Proofs.YtpkjpiphjdpegaaDoorW.PrintLast Go.Proofs.YtpkjpiphjdpegaaDoorW.PrintMore
set_option linter.unusedVariables false
set_option linter.unusedSimpArgs false
theorem d16 (x : Int) (h : D16 x) : 0 ≤ x ∧ x < 65536 := h
end Go.Proofs.YtpkjpiphjdpegaaDoor.P
namespace Go.Proofs.YtpkjpiphjdpegaaDoor.P
open Go.RowKit Go.Proofs.YtpkjpiphjdpegaaDoorW.PrintWords Go.Proofs.YtpkjpiphjdpegaaDoorW.PrintLast Go.Proofs.YtpkjpiphjdpegaaDoorW.PrintMore
set_option linter.unusedVariables false
set_option linter.unusedSimpArgs false
theorem u0 : U64 0 := ⟨by omega, by omega⟩
end Go.Proofs.YtpkjpiphjdpegaaDoor.P
namespace Go.Proofs.YtpkjpiphjdpegaaDoor.P
open Go.RowKit Go.Proofs.YtpkjpiphjdpegaaDoorW.PrintWords Go.Proofs.YtpkjpiphjdpegaaDoorW.PrintLast Go.Proofs.YtpkjpiphjdpegaaDoorW.PrintMore
set_option linter.unusedVariables false
set_option linter.unusedSimpArgs false
def numL : List Int → Int
  | [] => 0
  | x :: l => x + 65536 * numL l
def Ds (l : List Int) : Prop := ∀ d, d ∈ l → D16 d
theorem numL_nonneg : ∀ (l : List Int), Ds l → 0 ≤ numL l
  | [], _ => by simp [numL]
  | x :: l, h => by
    have h0 := numL_nonneg l (fun d hd => h d (List.mem_cons_of_mem _ hd))
    have h1 := h x (List.mem_cons_self ..)
    unfold D16 at h1
    simp only [numL]
    omega
theorem numL_set : ∀ (l : List Int) (m : Nat) (v : Int), m < l.length → numL (l.set m v) = numL l + (v - l.getD m 0) * 65536 ^ m
  | x :: l, 0, v, _ => by
    simp only [List.set_cons_zero, numL, List.getD_cons_zero, Int.pow_zero]
    omega
  | x :: l, m + 1, v, h => by
    simp only [List.set_cons_succ, numL, List.getD_cons_succ, Int.pow_succ]
    rw [numL_set l m v (by simpa using h)]
    have e : (v - l.getD m 0) * (65536 ^ m * 65536) = 65536 * ((v - l.getD m 0) * 65536 ^ m) := by rw [← Int.mul_assoc, Int.mul_comm]
    rw [e]
    omega
theorem numL_append : ∀ (a b : List Int), numL (a ++ b) = numL a + numL b * 65536 ^ a.length
  | [], b => by simp [numL]
  | x :: a, b => by
    simp only [List.cons_append, numL, List.length_cons, Int.pow_succ]
    rw [numL_append a b]
    have e : numL b * (65536 ^ a.length * 65536) = 65536 * (numL b * 65536 ^ a.length) := by rw [← Int.mul_assoc, Int.mul_comm]
    rw [e]
    omega
theorem Ds_set {l : List Int} {m : Nat} {v : Int} (h : Ds l) (hv : D16 v) : Ds (l.set m v) := by
  intro d hd
  rcases List.mem_or_eq_of_mem_set hd with h1 | h1
  · exact h d h1
  · subst h1; exact hv
theorem Ds_getD {l : List Int} {m : Nat} (h : Ds l) (hm : m < l.length) : D16 (l.getD m 0) := by
  rw [List.getD_eq_getElem?_getD, List.getElem?_eq_getElem hm]
  exact h _ (List.getElem_mem hm)
theorem pow_pos' (m : Nat) : (0 : Int) < 65536 ^ m := Int.pow_pos (by omega)
theorem times_l1_mono {X Y out : List Int} {i c : Int} {r : Int × Int × Int} : ∀ (j k : Nat), paymasterref01_Times.l1 k X Y out i c = some r → paymasterref01_Times.l1 (k + j) X Y out i c = some r
  | 0, k, h => h
  | j + 1, k, h => (paymasterref01_Times.mono_l (k + j)).2.1 _ _ _ _ _ r (times_l1_mono j k h)
theorem times_l2 (X Y : List Int) (i c : Int) : ∀ (j : Nat) (out : List Int) (more : Int) (m : Nat), out.length = 17 → Ds out → m + j = 17 → 0 ≤ more → more < 4294967296 → numL out + more * 65536 ^ m < 65536 ^ 17 →
    ∃ out', out'.length = 17 ∧ Ds out' ∧ numL out' = numL out + more * 65536 ^ m ∧ ∀ k r, paymasterref01_Times.l1 k X Y out' i (wrap64 (c + 1)) = some r → paymasterref01_Times.l2 (k + (j + 1)) X Y out i c more (m : Int) = some r
  | 0, out, more, m, hl, hd, hm, h0, h1, hT => by
    obtain rfl : m = 17 := by omega
    have n0 := numL_nonneg out hd
    have z : more = 0 := by omega
    subst z
    refine ⟨out, hl, hd, by omega, fun k r h => ?_⟩
    show paymasterref01_Times.l2 (k + 1) X Y out i c 0 _ = some r
    simp only [paymasterref01_Times.l2]
    rw [if_neg (by omega)]
    exact h
  | j + 1, out, more, m, hl, hd, hm, h0, h1, hT => by
    by_cases hp : more > 0
    · have hD := Ds_getD (m := m) hd (by omega)
      have S := numL_set out m ((more + out.getD m 0) % 65536) (by omega)
      generalize e : out.getD m 0 = y at hD S
      obtain ⟨y0, y1⟩ := hD
      obtain ⟨q, hq⟩ : ∃ q, (more + y) / 65536 = q := ⟨_, rfl⟩
      obtain ⟨s, hs⟩ : ∃ s, (more + y) % 65536 = s := ⟨_, rfl⟩
      rw [hs] at S
      have hD' : D16 s := ⟨by omega, by omega⟩
      have E : numL (out.set m s) + q * 65536 ^ (m + 1) = numL out + more * 65536 ^ m := by
        rw [S, Int.pow_succ]
        have e1 : more = q * 65536 + (s - y) := by omega
        rw [e1, Int.add_mul, Int.mul_assoc q 65536, Int.mul_comm 65536 (65536 ^ m)]
        omega
      obtain ⟨out', a1, a2, a3, a4⟩ := times_l2 X Y i c j (out.set m s) q (m + 1) (by simpa using hl) (Ds_set hd hD') (by omega) (by omega) (by omega) (by rw [E]; exact hT)
      refine ⟨out', a1, a2, a3.trans E, fun k r h => ?_⟩
      have F := a4 k r h
      show paymasterref01_Times.l2 (k + (j + 1) + 1) X Y out i c more (m : Int) = some r
      simp only [paymasterref01_Times.l2]
      rw [if_pos hp, if_pos (by omega), if_pos (by rw [hl]; omega), show rd out (m : Int) = y from e, wu (more + y) (by omega) (by omega), tm _ (by omega), td _ (by omega), hs, hq, wu q (by omega) (by omega), show wrap64 ((m : Int) + 1) = ((m + 1 : Nat) : Int) from by rw [wi _ (by omega) (by omega)]; omega, Int.toNat_natCast]
      exact F
    · obtain rfl : more = 0 := by omega
      refine ⟨out, hl, hd, by omega, fun k r h => ?_⟩
      show paymasterref01_Times.l2 (k + (j + 1) + 1) X Y out i c 0 _ = some r
      simp only [paymasterref01_Times.l2]
      rw [if_neg (by omega)]
      exact times_l1_mono (j + 1) k h
theorem times_l1 (X Y out : List Int) (i c : Nat) (x y : Int) (hi : i < 8) (hc : c < 4) (lX : X.length = 8) (lY : Y.length = 8) (hx : rd X i = x) (hy : rd Y c = y) (dx : D16 x) (dy : D16 y) (hl : out.length = 17) (hd : Ds out) (hT : numL out + x * y * 65536 ^ (i + c) < 65536 ^ 17) :
    ∃ out', out'.length = 17 ∧ Ds out' ∧ numL out' = numL out + x * y * 65536 ^ (i + c) ∧ ∀ k r, paymasterref01_Times.l1 k X Y out' i ((c + 1 : Nat) : Int) = some r → paymasterref01_Times.l1 (k + 20) X Y out i (c : Int) = some r := by
  obtain ⟨x0, x1⟩ := dx
  obtain ⟨y0, y1⟩ := dy
  have p0 : 0 ≤ x * y := Int.mul_nonneg x0 y0
  have p1 : x * y ≤ 65535 * 65535 := Int.mul_le_mul (by omega) (by omega) y0 (by omega)
  obtain ⟨out', a1, a2, a3, a4⟩ := times_l2 X Y i c (17 - (i + c)) out (x * y) (i + c) hl hd (by omega) p0 (by omega) hT
  refine ⟨out', a1, a2, a3, fun k r h => ?_⟩
  rw [show wrap64 ((c : Int) + 1) = ((c + 1 : Nat) : Int) from by rw [wi _ (by omega) (by omega)]; omega] at a4
  have F := a4 (k + (18 - (17 - (i + c)))) r (times_l1_mono _ k h)
  rw [show k + (18 - (17 - (i + c))) + (17 - (i + c) + 1) = k + 19 from by omega] at F
  show paymasterref01_Times.l1 (k + 19 + 1) X Y out i (c : Int) = some r
  simp only [paymasterref01_Times.l1]
  rw [if_pos (by omega), if_pos (by omega), if_pos (by omega), if_pos (by omega), if_pos (by omega), hx, hy, wu (x * y) p0 (by omega), show wrap64 ((i : Int) + (c : Int)) = ((i + c : Nat) : Int) from by rw [wi _ (by omega) (by omega)]; omega]
  exact F
theorem times_row (X Y out : List Int) (i : Nat) (x a b c d : Int) (hi : i < 8) (lX : X.length = 8) (lY : Y.length = 8) (hx : rd X i = x) (ha : rd Y 0 = a) (hb : rd Y 1 = b) (hc : rd Y 2 = c) (hd : rd Y 3 = d) (dx : D16 x) (da : D16 a) (db : D16 b) (dc : D16 c) (dd : D16 d) (hl : out.length = 17) (hD : Ds out)
    (hT : numL out + x * 65536 ^ i * hf a b c d < 65536 ^ 17) :
    ∃ out', out'.length = 17 ∧ Ds out' ∧ numL out' = numL out + x * 65536 ^ i * hf a b c d ∧ ∀ k r, paymasterref01_Times.l0 k X Y out' ((i + 1 : Nat) : Int) = some r → paymasterref01_Times.l0 (k + 82) X Y out (i : Int) = some r := by
  have P0 := pow_pos' i
  have u : ∀ z : Int, 0 ≤ z → 0 ≤ x * z * 65536 ^ i := fun z hz => Int.mul_nonneg (Int.mul_nonneg dx.1 hz) (by omega)
  have u0 := u a da.1
  have u1 := u b db.1
  have u2 := u c dc.1
  have u3 := u d dd.1
  have sh : ∀ (z : Int) (t : Nat), x * z * 65536 ^ (i + t) = x * z * 65536 ^ i * 65536 ^ t := fun z t => by rw [Int.pow_add, ← Int.mul_assoc]
  have E : x * 65536 ^ i * hf a b c d = x * a * 65536 ^ i + x * b * 65536 ^ i * 65536 + x * c * 65536 ^ i * 4294967296 + x * d * 65536 ^ i * 281474976710656 := by
    have s : ∀ z : Int, x * z * 65536 ^ i = x * 65536 ^ i * z := fun z => Int.mul_right_comm ..
    rw [s, s, s, s]
    generalize x * 65536 ^ i = g
    unfold hf
    simp only [Int.mul_add, ← Int.mul_assoc]
    omega
  rw [E] at hT
  obtain ⟨o1, a1, a2, a3, a4⟩ := times_l1 X Y out i 0 x a hi (by omega) lX lY hx ha dx da hl hD (by rw [sh]; omega)
  rw [sh] at a3
  obtain ⟨o2, b1, b2, b3, b4⟩ := times_l1 X Y o1 i 1 x b hi (by omega) lX lY hx hb dx db a1 a2 (by rw [sh, a3]; omega)
  rw [sh] at b3
  obtain ⟨o3, c1, c2, c3, c4⟩ := times_l1 X Y o2 i 2 x c hi (by omega) lX lY hx hc dx dc b1 b2 (by rw [sh, b3, a3]; omega)
  rw [sh] at c3
  obtain ⟨o4, d1, d2, d3, d4⟩ := times_l1 X Y o3 i 3 x d hi (by omega) lX lY hx hd dx dd c1 c2 (by rw [sh, c3, b3, a3]; omega)
  rw [sh] at d3
  refine ⟨o4, d1, d2, by rw [d3, c3, b3, a3, E]; omega, fun k r h => ?_⟩
  show paymasterref01_Times.l0 (k + 81 + 1) X Y out (i : Int) = some r
  simp only [paymasterref01_Times.l0]
  rw [if_pos (by omega)]
  refine a4 (k + 61) r (b4 (k + 41) r (c4 (k + 21) r (d4 (k + 1) r ?_)))
  simp only [paymasterref01_Times.l1]
  rw [if_neg (by omega), show wrap64 ((i : Int) + 1) = ((i + 1 : Nat) : Int) from by rw [wi _ (by omega) (by omega)]; omega]
  exact h
theorem rd_drop (X : List Int) (i : Nat) (h : i < X.length) : X.drop i = rd X i :: X.drop (i + 1) := by
  rw [List.drop_eq_getElem_cons h]
  congr 1
  show X[i] = X.getD i 0
  rw [List.getD_eq_getElem?_getD, List.getElem?_eq_getElem h]
  rfl
theorem times_l0 (X Y : List Int) (a b c d : Int) (lX : X.length = 8) (lY : Y.length = 8) (dX : Ds X) (ha : rd Y 0 = a) (hb : rd Y 1 = b) (hc : rd Y 2 = c) (hd : rd Y 3 = d) (da : D16 a) (db : D16 b) (dc : D16 c) (dd : D16 d) : ∀ (t i : Nat) (out : List Int), i + t = 8 → out.length = 17 → Ds out → numL out + numL (X.drop i) * 65536 ^ i * hf a b c d < 65536 ^ 17 →
    ∃ out', out'.length = 17 ∧ Ds out' ∧ numL out' = numL out + numL (X.drop i) * 65536 ^ i * hf a b c d ∧ ∀ k r, paymasterref01_Times.l0 k X Y out' 8 = some r → paymasterref01_Times.l0 (k + 82 * t) X Y out (i : Int) = some r
  | 0, i, out, hi, hl, hD, hT => by
    obtain rfl : i = 8 := by omega
    have e : X.drop 8 = [] := List.drop_eq_nil_of_le (by omega)
    refine ⟨out, hl, hD, ?_, fun k r h => h⟩
    rw [e]
    simp [numL]
  | t + 1, i, out, hi, hl, hD, hT => by
    have hN := hf_range a b c d da db dc dd
    have dx := Ds_getD (m := i) dX (by omega)
    have e := rd_drop X i (by omega)
    have P0 := pow_pos' i
    have R0 : 0 ≤ numL (X.drop (i + 1)) := numL_nonneg _ (fun d hd => dX d (List.mem_of_mem_drop hd))
    have hx : rd X i = X.getD i 0 := rfl
    have E : numL (X.drop i) * 65536 ^ i * hf a b c d = rd X i * 65536 ^ i * hf a b c d + numL (X.drop (i + 1)) * 65536 ^ (i + 1) * hf a b c d := by
      rw [e]
      simp only [numL]
      rw [← Int.add_mul, Int.pow_succ, Int.add_mul, Int.mul_comm 65536, Int.mul_assoc (numL (X.drop (i + 1))), Int.mul_comm 65536 (65536 ^ i)]
    rw [E] at hT
    have z : 0 ≤ numL (X.drop (i + 1)) * 65536 ^ (i + 1) * hf a b c d := Int.mul_nonneg (Int.mul_nonneg R0 (Int.le_of_lt (pow_pos' _))) hN.1
    obtain ⟨o1, a1, a2, a3, a4⟩ := times_row X Y out i (rd X i) a b c d (by omega) lX lY rfl ha hb hc hd dx da db dc dd hl hD (by omega)
    obtain ⟨o2, b1, b2, b3, b4⟩ := times_l0 X Y a b c d lX lY dX ha hb hc hd da db dc dd t (i + 1) o1 (by omega) a1 a2 (by rw [a3]; omega)
    refine ⟨o2, b1, b2, by rw [b3, a3, E]; omega, fun k r h => ?_⟩
    rw [show k + 82 * (t + 1) = k + 82 * t + 82 from by omega]
    exact a4 _ r (b4 k r h)
theorem numL_dg (a b : Int) (ha : U64 a) (hb : U64 b) : numL (dg a b) = val a b ∧ Ds (dg a b) ∧ (dg a b).length = 8 := by
  obtain ⟨d0, d1, d2, d3, d4, d5, d6, d7, eX, h0, h1, h2, h3, h4, h5, h6, h7, va, vb⟩ := dg_cases a b ha hb
  rw [eX]
  refine ⟨?_, ?_, rfl⟩
  · unfold val
    rw [va, vb, sum_digits]
    simp only [numL]
    omega
  · intro d hd
    simp only [List.mem_cons, List.not_mem_nil, or_false] at hd
    rcases hd with rfl | rfl | rfl | rfl | rfl | rfl | rfl | rfl <;> assumption
theorem list_cons {α : Type} (l : List α) (n : Nat) (h : l.length = n + 1) : ∃ x t, l = x :: t ∧ t.length = n := by
  cases l with
  | nil => cases h
  | cons x t => exact ⟨x, t, rfl, by simpa using h⟩
theorem number8' (k : Nat) (l : List Int) (hl : l.length = 8) (hd : Ds l) : paymasterref01_number.f (k + 25) l = some (hiOf (numL l), loOf (numL l), true) := by
  obtain ⟨d0, l1, rfl, k1⟩ := list_cons l 7 hl
  obtain ⟨d1, l2, rfl, k2⟩ := list_cons l1 6 k1
  obtain ⟨d2, l3, rfl, k3⟩ := list_cons l2 5 k2
  obtain ⟨d3, l4, rfl, k4⟩ := list_cons l3 4 k3
  obtain ⟨d4, l5, rfl, k5⟩ := list_cons l4 3 k4
  obtain ⟨d5, l6, rfl, k6⟩ := list_cons l5 2 k5
  obtain ⟨d6, l7, rfl, k7⟩ := list_cons l6 1 k6
  obtain ⟨d7, l8, rfl, k8⟩ := list_cons l7 0 k7
  obtain rfl := List.eq_nil_of_length_eq_zero k8
  have h0 := hd d0 (by simp)
  have h1 := hd d1 (by simp)
  have h2 := hd d2 (by simp)
  have h3 := hd d3 (by simp)
  have h4 := hd d4 (by simp)
  have h5 := hd d5 (by simp)
  have h6 := hd d6 (by simp)
  have h7 := hd d7 (by simp)
  rw [number8 k d0 d1 d2 d3 d4 d5 d6 d7 h0 h1 h2 h3 h4 h5 h6 h7]
  have s := sum_digits d0 d1 d2 d3 d4 d5 d6 d7
  have e : numL [d0, d1, d2, d3, d4, d5, d6, d7] = hf d4 d5 d6 d7 * 18446744073709551616 + hf d0 d1 d2 d3 := by
    rw [s]; simp only [numL]; omega
  obtain ⟨e1, e2⟩ := halves _ _ _ (hf_range d0 d1 d2 d3 h0 h1 h2 h3) e
  rw [e1, e2]
theorem number17 (k : Nat) (l : List Int) (hl : l.length = 17) (hd : Ds l) : paymasterref01_number.f (k + 55) l = some (if numL l < m128 then (hiOf (numL l), loOf (numL l), true) else (0, 0, false)) := by
  obtain ⟨d0, l1, rfl, k1⟩ := list_cons l 16 hl
  obtain ⟨d1, l2, rfl, k2⟩ := list_cons l1 15 k1
  obtain ⟨d2, l3, rfl, k3⟩ := list_cons l2 14 k2
  obtain ⟨d3, l4, rfl, k4⟩ := list_cons l3 13 k3
  obtain ⟨d4, l5, rfl, k5⟩ := list_cons l4 12 k4
  obtain ⟨d5, l6, rfl, k6⟩ := list_cons l5 11 k5
  obtain ⟨d6, l7, rfl, k7⟩ := list_cons l6 10 k6
  obtain ⟨d7, l8, rfl, k8⟩ := list_cons l7 9 k7
  obtain ⟨d8, l9, rfl, k9⟩ := list_cons l8 8 k8
  obtain ⟨d9, l10, rfl, k10⟩ := list_cons l9 7 k9
  obtain ⟨d10, l11, rfl, k11⟩ := list_cons l10 6 k10
  obtain ⟨d11, l12, rfl, k12⟩ := list_cons l11 5 k11
  obtain ⟨d12, l13, rfl, k13⟩ := list_cons l12 4 k12
  obtain ⟨d13, l14, rfl, k14⟩ := list_cons l13 3 k13
  obtain ⟨d14, l15, rfl, k15⟩ := list_cons l14 2 k14
  obtain ⟨d15, l16, rfl, k16⟩ := list_cons l15 1 k15
  obtain ⟨d16, l17, rfl, k17⟩ := list_cons l16 0 k16
  obtain rfl := List.eq_nil_of_length_eq_zero k17
  have h0 := hd d0 (by simp)
  have h1 := hd d1 (by simp)
  have h2 := hd d2 (by simp)
  have h3 := hd d3 (by simp)
  have h4 := hd d4 (by simp)
  have h5 := hd d5 (by simp)
  have h6 := hd d6 (by simp)
  have h7 := hd d7 (by simp)
  have h8 := (hd d8 (by simp)).1
  have h9 := (hd d9 (by simp)).1
  have h10 := (hd d10 (by simp)).1
  have h11 := (hd d11 (by simp)).1
  have h12 := (hd d12 (by simp)).1
  have h13 := (hd d13 (by simp)).1
  have h14 := (hd d14 (by simp)).1
  have h15 := (hd d15 (by simp)).1
  have h16 := (hd d16 (by simp)).1
  clear hd
  have s := sum_digits d0 d1 d2 d3 d4 d5 d6 d7
  have r0 := hf_range d0 d1 d2 d3 h0 h1 h2 h3
  have r1 := hf_range d4 d5 d6 d7 h4 h5 h6 h7
  generalize eL : [d0, d1, d2, d3, d4, d5, d6, d7, d8, d9, d10, d11, d12, d13, d14, d15, d16] = L
  have B := fun k => num_body k L d0 d1 d2 d3 d4 d5 d6 d7 (by rw [← eL]; simp) (by rw [← eL]; rfl) (by rw [← eL]; rfl) (by rw [← eL]; rfl) (by rw [← eL]; rfl) (by rw [← eL]; rfl) (by rw [← eL]; rfl) (by rw [← eL]; rfl) (by rw [← eL]; rfl) h0 h1 h2 h3 h4 h5 h6 h7
  have lL : (L.length : Int) = 17 := by rw [← eL]; rfl
  have e8 : rd L 8 = d8 := by rw [← eL]; rfl
  have e9 : rd L 9 = d9 := by rw [← eL]; rfl
  have e10 : rd L 10 = d10 := by rw [← eL]; rfl
  have e11 : rd L 11 = d11 := by rw [← eL]; rfl
  have e12 : rd L 12 = d12 := by rw [← eL]; rfl
  have e13 : rd L 13 = d13 := by rw [← eL]; rfl
  have e14 : rd L 14 = d14 := by rw [← eL]; rfl
  have e15 : rd L 15 = d15 := by rw [← eL]; rfl
  have e16 : rd L 16 = d16 := by rw [← eL]; rfl
  have e : numL L = d16 * 115792089237316195423570985008687907853269984665640564039457584007913129639936 + d15 * 1766847064778384329583297500742918515827483896875618958121606201292619776 + d14 * 26959946667150639794667015087019630673637144422540572481103610249216 + d13 * 411376139330301510538742295639337626245683966408394965837152256 + d12 * 6277101735386680763835789423207666416102355444464034512896 + d11 * 95780971304118053647396689196894323976171195136475136 + d10 * 1461501637330902918203684832716283019655932542976 + d9 * 22300745198530623141535718272648361505980416 + d8 * 340282366920938463463374607431768211456 + (hf d4 d5 d6 d7 * 18446744073709551616 + hf d0 d1 d2 d3) := by
    rw [s, ← eL]; simp only [numL]; omega
  obtain ⟨q0, q1⟩ := r0
  obtain ⟨q2, q3⟩ := r1
  generalize hf d4 d5 d6 d7 = H at *
  generalize hf d0 d1 d2 d3 = J at *
  clear h0 h1 h2 h3 h4 h5 h6 h7 s eL hl
  unfold paymasterref01_number.f
  rw [lL, show wrap64 ((17 : Int) - 1) = 16 from by simp [wrap64]]
  have T := fun k i => num_top (k := k) L i 0 0
  have fin : ∀ v : Int, 0 < v → numL L = v * 340282366920938463463374607431768211456 + (H * 18446744073709551616 + J) → (some ((0 : Int), (0 : Int), false) : Option (Int × Int × Bool)) = some (if numL L < m128 then (hiOf (numL L), loOf (numL L), true) else (0, 0, false)) := by
    intro v hv he
    rw [if_neg (by unfold m128; omega)]
  rw [show k + 55 = k + 52 + 3 from rfl, T (k + 52) 16 (by omega) (by omega) (by omega), e16]
  by_cases z16 : d16 = 0
  case neg => rw [if_neg z16]; exact fin (d16 * 340282366920938463463374607431768211456 + d15 * 5192296858534827628530496329220096 + d14 * 79228162514264337593543950336 + d13 * 1208925819614629174706176 + d12 * 18446744073709551616 + d11 * 281474976710656 + d10 * 4294967296 + d9 * 65536 + d8) (by omega) (by omega)
  rw [if_pos z16, show (16 : Int) - 1 = 15 from rfl, show k + 52 = k + 49 + 3 from rfl, T (k + 49) 15 (by omega) (by omega) (by omega), e15]
  by_cases z15 : d15 = 0
  case neg => rw [if_neg z15]; exact fin (d15 * 5192296858534827628530496329220096 + d14 * 79228162514264337593543950336 + d13 * 1208925819614629174706176 + d12 * 18446744073709551616 + d11 * 281474976710656 + d10 * 4294967296 + d9 * 65536 + d8) (by omega) (by omega)
  rw [if_pos z15, show (15 : Int) - 1 = 14 from rfl, show k + 49 = k + 46 + 3 from rfl, T (k + 46) 14 (by omega) (by omega) (by omega), e14]
  by_cases z14 : d14 = 0
  case neg => rw [if_neg z14]; exact fin (d14 * 79228162514264337593543950336 + d13 * 1208925819614629174706176 + d12 * 18446744073709551616 + d11 * 281474976710656 + d10 * 4294967296 + d9 * 65536 + d8) (by omega) (by omega)
  rw [if_pos z14, show (14 : Int) - 1 = 13 from rfl, show k + 46 = k + 43 + 3 from rfl, T (k + 43) 13 (by omega) (by omega) (by omega), e13]
  by_cases z13 : d13 = 0
  case neg => rw [if_neg z13]; exact fin (d13 * 1208925819614629174706176 + d12 * 18446744073709551616 + d11 * 281474976710656 + d10 * 4294967296 + d9 * 65536 + d8) (by omega) (by omega)
  rw [if_pos z13, show (13 : Int) - 1 = 12 from rfl, show k + 43 = k + 40 + 3 from rfl, T (k + 40) 12 (by omega) (by omega) (by omega), e12]
  by_cases z12 : d12 = 0
  case neg => rw [if_neg z12]; exact fin (d12 * 18446744073709551616 + d11 * 281474976710656 + d10 * 4294967296 + d9 * 65536 + d8) (by omega) (by omega)
  rw [if_pos z12, show (12 : Int) - 1 = 11 from rfl, show k + 40 = k + 37 + 3 from rfl, T (k + 37) 11 (by omega) (by omega) (by omega), e11]
  by_cases z11 : d11 = 0
  case neg => rw [if_neg z11]; exact fin (d11 * 281474976710656 + d10 * 4294967296 + d9 * 65536 + d8) (by omega) (by omega)
  rw [if_pos z11, show (11 : Int) - 1 = 10 from rfl, show k + 37 = k + 34 + 3 from rfl, T (k + 34) 10 (by omega) (by omega) (by omega), e10]
  by_cases z10 : d10 = 0
  case neg => rw [if_neg z10]; exact fin (d10 * 4294967296 + d9 * 65536 + d8) (by omega) (by omega)
  rw [if_pos z10, show (10 : Int) - 1 = 9 from rfl, show k + 34 = k + 31 + 3 from rfl, T (k + 31) 9 (by omega) (by omega) (by omega), e9]
  by_cases z9 : d9 = 0
  case neg => rw [if_neg z9]; exact fin (d9 * 65536 + d8) (by omega) (by omega)
  rw [if_pos z9, show (9 : Int) - 1 = 8 from rfl, show k + 31 = k + 28 + 3 from rfl, T (k + 28) 8 (by omega) (by omega) (by omega), e8]
  by_cases z8 : d8 = 0
  case neg => rw [if_neg z8]; exact fin d8 (by omega) (by omega)
  rw [if_pos z8, show (8 : Int) - 1 = 7 from rfl, show k + 28 = k + 3 + 25 from rfl, B (k + 3)]
  have e' : numL L = H * 18446744073709551616 + J := by omega
  obtain ⟨w1, w2⟩ := halves (numL L) H J ⟨q0, q1⟩ e'
  rw [if_pos (by unfold m128; omega), w1, w2]
theorem refTimes_is (k : Nat) (a b n : Int) (ha : U64 a) (hb : U64 b) (hn : U64 n) : paymasterref01_Times.f (k + 720) a b n = u128_Times.f a b n := by
  rw [times_num a b n ha hb hn]
  have u0' := u0
  have A : paymasterref01_digits.f (k + 720) a b = some (dg a b) := digits_is (k + 710) a b ha hb
  have B : paymasterref01_digits.f (k + 720) 0 n = some (dg 0 n) := digits_is (k + 710) 0 n u0' hn
  unfold paymasterref01_Times.f
  rw [A, Option.bind_some, B, Option.bind_some, if_pos (by omega)]
  clear A B
  obtain ⟨vX, dX, lX⟩ := numL_dg a b ha hb
  obtain ⟨y0, y1, y2, y3, y4, y5, y6, y7, eY, g0, g1, g2, g3, g4, g5, g6, g7, vc, vd⟩ := dg_cases 0 n u0' hn
  have lY : (dg 0 n).length = 8 := rfl
  have f0 : rd (dg 0 n) 0 = y0 := by rw [eY]; rfl
  have f1 : rd (dg 0 n) 1 = y1 := by rw [eY]; rfl
  have f2 : rd (dg 0 n) 2 = y2 := by rw [eY]; rfl
  have f3 : rd (dg 0 n) 3 = y3 := by rw [eY]; rfl
  have v0 := val_range a b ha hb
  have z17 : numL (List.replicate 17 0) = 0 := by decide
  have d17 : Ds (List.replicate 17 0) := by
    intro d hd
    rw [List.eq_of_mem_replicate hd]
    exact ⟨by omega, by omega⟩
  have V : numL (List.replicate 17 0) + numL ((dg a b).drop 0) * 65536 ^ 0 * hf y0 y1 y2 y3 = val a b * n := by
    rw [z17, List.drop_zero, vX, ← vd, Int.pow_zero, Int.mul_one, Int.zero_add]
  have p0 : 0 ≤ val a b * n := Int.mul_nonneg v0.1 hn.1
  have p1 : val a b * n ≤ m128 * 18446744073709551616 := Int.mul_le_mul (by omega) (by have := hn.2; omega) hn.1 (by unfold m128; omega)
  obtain ⟨out, a1, a2, a3, a4⟩ := times_l0 (dg a b) (dg 0 n) y0 y1 y2 y3 lX lY dX f0 f1 f2 f3 g0 g1 g2 g3 8 0 (List.replicate 17 0) rfl rfl d17 (by rw [V]; unfold m128 at p1; omega)
  rw [V] at a3
  have N := number17 (k + 8) out a1 a2
  rw [a3] at N
  have L : paymasterref01_Times.l0 (k + 64) (dg a b) (dg 0 n) out 8 = if val a b * n < m128 then some (hiOf (val a b * n), loOf (val a b * n), 0) else some (0, 0, 10) := by
    rw [show k + 64 = k + 63 + 1 from rfl, paymasterref01_Times.l0, if_neg (by omega), show k + 63 = k + 8 + 55 from rfl, N, Option.bind_some]
    by_cases h : val a b * n < m128
    · rw [if_pos h, if_pos h, if_pos rfl]
    · rw [if_neg h, if_neg h, if_neg (by simp)]
  have G : ∀ r, (if val a b * n < m128 then some (hiOf (val a b * n), loOf (val a b * n), (0 : Int)) else some (0, 0, 10)) = some r → paymasterref01_Times.l0 (k + 720) (dg a b) (dg 0 n) (List.replicate 17 0) 0 = some r := by
    intro r h
    exact a4 (k + 64) r (L.trans h)
  by_cases h : val a b * n < m128
  · rw [if_pos h] at G ⊢
    exact G _ rfl
  · rw [if_neg h] at G ⊢
    exact G _ rfl
end Go.Proofs.YtpkjpiphjdpegaaDoor.P
namespace Go.Proofs.YtpkjpiphjdpegaaDoor.P
open Go.RowKit Go.Proofs.YtpkjpiphjdpegaaDoorW.PrintWords Go.Proofs.YtpkjpiphjdpegaaDoorW.PrintLast Go.Proofs.YtpkjpiphjdpegaaDoorW.PrintMore
set_option linter.unusedVariables false
set_option linter.unusedSimpArgs false
theorem over_bit (k : Nat) (n : Int) (X q : List Int) (i : Nat) (x g rest p one : Int) (hn : 0 < n) (hn' : n < 18446744073709551616) (lX : X.length = 8) (lq : q.length = 8) (hi : i < 8) (hx : rd X i = x) (dx : D16 x) (hg : rd q i = g) (g0 : 0 ≤ g) (p0 : 0 < p) (gp : g + p ≤ 65536) (r0 : 0 ≤ rest) (r1 : rest < n) (ho : x / p % 2 = one) :
    paymasterref01_Over.l1 (k + 1) n X q rest (i : Int) p = if n ≤ 2 * rest + one then paymasterref01_Over.l1 k n X (q.set i (g + p)) (2 * rest + one - n) (i : Int) (p / 2) else paymasterref01_Over.l1 k n X q (2 * rest + one) (i : Int) (p / 2) := by
  obtain ⟨x0, x1⟩ := dx
  have d0 : 0 ≤ x / p := Int.ediv_nonneg x0 (by omega)
  have d1 : x / p ≤ x := Int.ediv_le_self _ x0
  have o0 : 0 ≤ one := by omega
  have o1 : one ≤ 1 := by omega
  simp only [paymasterref01_Over.l1]
  rw [if_pos p0, if_pos (by omega), if_pos (by omega), if_neg (by omega), hx, hg, Int.tdiv_eq_ediv_of_nonneg x0, wu (x / p) d0 (by omega), Int.tmod_eq_emod_of_nonneg d0, ho, Int.tdiv_eq_ediv_of_nonneg (a := p) (by omega), wu (p / 2) (by omega) (by omega), wu (g + p) (by omega) (by omega), wu (n - rest) (by omega) (by omega), Int.toNat_natCast]
  by_cases h1 : rest ≥ n - rest
  · rw [if_pos h1, if_pos (by omega), if_pos (show n ≤ 2 * rest + one by omega), wu (rest - (n - rest)) (by omega) (by omega), wu (rest - (n - rest) + one) (by omega) (by omega), show rest - (n - rest) + one = 2 * rest + one - n from by omega]
  · rw [if_neg h1, wu (rest + 1) (by omega) (by omega)]
    by_cases h2 : rest + 1 ≥ n - rest
    · rw [if_pos h2]
      by_cases h3 : one = 1
      · rw [if_pos h3, if_pos (by omega), if_pos (show n ≤ 2 * rest + one by omega)]
        congr 1
        rw [IntKind.wrap_u64, IntKind.wrap_u64]
        omega
      · rw [if_neg h3, if_neg (show ¬ n ≤ 2 * rest + one by omega), wu (2 * rest) (by omega) (by omega), wu (2 * rest + one) (by omega) (by omega)]
    · rw [if_neg h2, if_neg (show ¬ n ≤ 2 * rest + one by omega), wu (2 * rest) (by omega) (by omega), wu (2 * rest + one) (by omega) (by omega)]
theorem bits_split (x p : Int) (x0 : 0 ≤ x) (p0 : 0 < p) : x % (p * 2) = (x / p % 2) * p + x % p := by
  have e := Int.ediv_mul_add_emod x p
  have m0 := Int.emod_nonneg x (by omega : p ≠ 0)
  have m1 := Int.emod_lt_of_pos x p0
  have f := Int.ediv_mul_add_emod (x / p) 2
  have b0 := Int.emod_nonneg (x / p) (by omega : (2 : Int) ≠ 0)
  have b1 := Int.emod_lt_of_pos (x / p) (by omega : (0 : Int) < 2)
  generalize x / p % 2 = b at *
  generalize x / p / 2 = d at *
  generalize x % p = m at *
  have t : x = b * p + m + d * (p * 2) := by
    rw [← e, ← f, Int.add_mul, Int.mul_assoc, Int.mul_comm 2 p]
    omega
  rw [t, Int.add_mul_emod_self_right]
  have hb : b = 0 ∨ b = 1 := by omega
  rcases hb with rfl | rfl
  · exact Int.emod_eq_of_lt (by omega) (by omega)
  · exact Int.emod_eq_of_lt (by omega) (by omega)
theorem set_self (q : List Int) (i : Nat) (h : i < q.length) : q.set i (rd q i) = q := by
  have e : rd q (i : Int) = q[i] := by
    show q.getD i 0 = q[i]
    rw [List.getD_eq_getElem?_getD, List.getElem?_eq_getElem h]
    rfl
  rw [e]
  exact List.set_getElem_self h
theorem rd_set (q : List Int) (i : Nat) (v : Int) (h : i < q.length) : rd (q.set i v) i = v := by
  show (q.set i v).getD i 0 = v
  rw [List.getD_eq_getElem?_getD, List.getElem?_set_self h]
  rfl
theorem over_l1 (n : Int) (X : List Int) (i : Nat) (x : Int) (hn : 0 < n) (hn' : n < 18446744073709551616) (lX : X.length = 8) (hi : i < 8) (hx : rd X i = x) (dx : D16 x) : ∀ (s : Nat) (q : List Int) (rest g : Int), q.length = 8 → rd q i = g → 0 ≤ g → g + 2 ^ s ≤ 65536 → 0 ≤ rest → rest < n → ∀ k r,
    paymasterref01_Over.l0 k n X (q.set i (g + (rest * 2 ^ s + x % 2 ^ s) / n)) ((rest * 2 ^ s + x % 2 ^ s) % n) (wrap64 ((i : Int) - 1)) = some r → paymasterref01_Over.l1 (k + (s + 1)) n X q rest (i : Int) (2 ^ s / 2) = some r
  | 0, q, rest, g, lq, hg, g0, gs, r0, r1, k, r, h => by
    show paymasterref01_Over.l1 (k + 1) n X q rest (i : Int) ((1 : Int) / 2) = some r
    simp only [paymasterref01_Over.l1]
    rw [if_neg (by omega)]
    rw [Int.pow_zero, Int.mul_one, Int.emod_one, Int.add_zero, Int.ediv_eq_zero_of_lt r0 r1, Int.add_zero, Int.emod_eq_of_lt r0 r1, ← hg, set_self q i (by omega)] at h
    exact h
  | s + 1, q, rest, g, lq, hg, g0, gs, r0, r1, k, r, h => by
    have P0 : (0 : Int) < 2 ^ s := Int.pow_pos (by omega)
    rw [Int.pow_succ] at gs h ⊢
    obtain ⟨p, hp⟩ : ∃ p : Int, 2 ^ s = p := ⟨_, rfl⟩
    have IH := over_l1 n X i x hn hn' lX hi hx dx s
    rw [hp] at gs h IH P0 ⊢
    have dx' := dx
    obtain ⟨x0, x1⟩ := dx'
    obtain ⟨one, ho⟩ : ∃ o : Int, x / p % 2 = o := ⟨_, rfl⟩
    have B := bits_split x p x0 P0
    rw [ho] at B
    rw [show p * 2 / 2 = p from Int.mul_ediv_cancel _ (by omega)]
    have S := over_bit (k + (s + 1)) n X q i x g rest p one hn hn' lX lq hi hx dx hg g0 P0 (by omega) r0 r1 ho
    have o0 : 0 ≤ one := by omega
    have o1 : one ≤ 1 := by omega
    have M : rest * (p * 2) + x % (p * 2) = (2 * rest + one) * p + x % p := by
      rw [B, Int.add_mul, Int.mul_comm p 2, ← Int.mul_assoc, Int.mul_comm rest 2]
      omega
    rw [M] at h
    refine S.trans ?_
    by_cases c : n ≤ 2 * rest + one
    · rw [if_pos c]
      refine IH _ _ (g + p) (by rw [List.length_set]; exact lq) (rd_set q i _ (by omega)) (by omega) (by omega) (by omega) (by omega) k r ?_
      have M2 : (2 * rest + one) * p + x % p = (2 * rest + one - n) * p + x % p + p * n := by
        rw [Int.sub_mul, Int.mul_comm n p]
        omega
      rw [M2, Int.add_mul_ediv_right _ _ (by omega), Int.add_mul_emod_self_right] at h
      rw [List.set_set, show g + p + ((2 * rest + one - n) * p + x % p) / n = g + (((2 * rest + one - n) * p + x % p) / n + p) from by omega]
      exact h
    · rw [if_neg c]
      exact IH q (2 * rest + one) g lq hg g0 (by omega) (by omega) (by omega) k r h
theorem set_mid : ∀ (t : Nat) (Q : List Int) (d : Int), (List.replicate (t + 1) 0 ++ Q).set t d = List.replicate t 0 ++ (d :: Q)
  | 0, Q, d => rfl
  | t + 1, Q, d => by
    rw [List.replicate_succ, List.cons_append, List.set_cons_succ, set_mid t Q d]
    rfl
theorem rd_mid : ∀ (t : Nat) (Q : List Int), rd (List.replicate (t + 1) 0 ++ Q) (t : Int) = 0
  | 0, Q => rfl
  | t + 1, Q => rd_mid t Q
theorem over_l0 (n : Int) (X : List Int) (hn : 0 < n) (hn' : n < 18446744073709551616) (lX : X.length = 8) (dX : Ds X) : ∀ (t : Nat) (Q : List Int) (rest : Int), t + Q.length = 8 → 0 ≤ rest → rest < n →
    ∃ R rest', R.length = t ∧ Ds R ∧ 0 ≤ rest' ∧ rest' < n ∧ numL R * n + rest' = rest * 65536 ^ t + numL (X.take t) ∧ ∀ k r, paymasterref01_Over.l0 k n X (R ++ Q) rest' (-1) = some r → paymasterref01_Over.l0 (k + 18 * t) n X (List.replicate t 0 ++ Q) rest ((t : Int) - 1) = some r
  | 0, Q, rest, hl, r0, r1 => by
    refine ⟨[], rest, rfl, fun d hd => (by cases hd), r0, r1, ?_, fun k r h => h⟩
    simp [numL]
  | t + 1, Q, rest, hl, r0, r1 => by
    have dx := Ds_getD (m := t) dX (by omega)
    obtain ⟨x, hx⟩ : ∃ x, rd X t = x := ⟨_, rfl⟩
    have dx : D16 x := by rw [← hx]; exact dx
    have dx' := dx
    obtain ⟨x0, x1⟩ := dx'
    obtain ⟨d, hd⟩ : ∃ d, (rest * 65536 + x) / n = d := ⟨_, rfl⟩
    obtain ⟨e, he⟩ : ∃ e, (rest * 65536 + x) % n = e := ⟨_, rfl⟩
    have E := Int.ediv_mul_add_emod (rest * 65536 + x) n
    rw [hd, he] at E
    have e0 : 0 ≤ e := by rw [← he]; exact Int.emod_nonneg _ (by omega)
    have e1 : e < n := by rw [← he]; exact Int.emod_lt_of_pos _ hn
    have d0 : 0 ≤ d := by rw [← hd]; exact Int.ediv_nonneg (by omega) (by omega)
    have d1 : d < 65536 := by
      rw [← hd]
      exact Int.ediv_lt_of_lt_mul hn (by omega)
    obtain ⟨R, rest', a1, a2, a3, a4, a5, a6⟩ := over_l0 n X hn hn' lX dX t (d :: Q) e (by simp only [List.length_cons]; omega) e0 e1
    refine ⟨R ++ [d], rest', by simp [a1], ?_, a3, a4, ?_, fun k r h => ?_⟩
    · intro z hz
      rcases List.mem_append.1 hz with h | h
      · exact a2 z h
      · rw [List.mem_singleton] at h
        subst h
        exact ⟨d0, d1⟩
    · have T : X.take (t + 1) = X.take t ++ [x] := by
        have g : X[t]'(by omega) = x := by
          rw [← hx]
          show _ = X.getD t 0
          rw [List.getD_eq_getElem?_getD, List.getElem?_eq_getElem (by omega)]
          rfl
        rw [List.take_succ_eq_append_getElem (by omega), g]
      have ll : (X.take t).length = t := by rw [List.length_take]; omega
      rw [T, numL_append, numL_append, a1, ll, Int.pow_succ]
      have s1 : ∀ z : Int, numL [z] = z := fun z => by simp [numL]
      rw [s1, s1]
      have P : (d * n + e) * 65536 ^ t = (rest * 65536 + x) * 65536 ^ t := by rw [E]
      rw [Int.add_mul, Int.add_mul] at P
      rw [Int.add_mul, Int.mul_right_comm d, Int.mul_comm (65536 ^ t) 65536, ← Int.mul_assoc]
      omega
    · have F := a6 k r (by rw [List.append_assoc] at h; exact h)
      rw [show k + 18 * (t + 1) = k + 18 * t + 17 + 1 from by omega]
      rw [show ((t + 1 : Nat) : Int) - 1 = (t : Int) from by omega]
      simp only [paymasterref01_Over.l0]
      rw [if_pos (by omega)]
      have lq : (List.replicate (t + 1) (0 : Int) ++ Q).length = 8 := by rw [List.length_append, List.length_replicate]; exact hl
      refine over_l1 n X t x hn hn' lX (by omega) hx dx 16 (List.replicate (t + 1) 0 ++ Q) rest 0 lq (rd_mid t Q) (by omega) (by omega) r0 r1 (k + 18 * t) r ?_
      rw [show x % 2 ^ 16 = x from Int.emod_eq_of_lt x0 x1, show rest * 2 ^ 16 + x = rest * 65536 + x from rfl, hd, he, set_mid, Int.zero_add, wi _ (by omega) (by omega)]
      exact F
theorem refOver_is (k : Nat) (a b n : Int) (ha : U64 a) (hb : U64 b) (hn : U64 n) : paymasterref01_Over.f (k + 180) a b n = u128_Over.f a b n := by
  unfold paymasterref01_Over.f
  by_cases h : n = 0
  · rw [if_pos h]
    unfold u128_Over.f
    rw [if_pos (show U64 a ∧ U64 b ∧ U64 n from ⟨ha, hb, hn⟩), if_pos h]
  rw [if_neg h, over_num a b n ha hb hn h]
  have A : paymasterref01_digits.f (k + 180) a b = some (dg a b) := digits_is (k + 170) a b ha hb
  rw [A, Option.bind_some, if_pos (by omega)]
  clear A
  obtain ⟨vX, dX, lX⟩ := numL_dg a b ha hb
  have n0 : 0 < n := by have := hn.1; omega
  obtain ⟨R, rest, a1, a2, a3, a4, a5, a6⟩ := over_l0 n (dg a b) n0 hn.2 lX dX 8 [] 0 rfl (by omega) n0
  rw [Int.zero_mul, Int.zero_add, List.take_of_length_le (by omega), vX] at a5
  have q : val a b / n = numL R := by
    rw [← a5, Int.add_comm, Int.add_mul_ediv_right _ _ h, Int.ediv_eq_zero_of_lt a3 a4, Int.zero_add]
  have m : val a b % n = rest := by
    rw [← a5, Int.add_comm, Int.add_mul_emod_self_right, Int.emod_eq_of_lt a3 a4]
  have N := number8' (k + 10) R a1 a2
  rw [q, m]
  refine a6 (k + 36) _ ?_
  rw [List.append_nil, show k + 36 = k + 35 + 1 from rfl, paymasterref01_Over.l0, if_neg (by omega), show k + 35 = k + 10 + 25 from rfl, N, Option.bind_some]
end Go.Proofs.YtpkjpiphjdpegaaDoor.P
namespace Go.Proofs.YtpkjpiphjdpegaaDoor.P
open Go.RowKit Go.Proofs.YtpkjpiphjdpegaaDoorW.PrintWords Go.Proofs.YtpkjpiphjdpegaaDoorW.PrintLast Go.Proofs.YtpkjpiphjdpegaaDoorW.PrintMore
set_option linter.unusedVariables false
set_option linter.unusedSimpArgs false
theorem u_ten : U64 10 := ⟨by omega, by omega⟩
theorem refText_step (k : Nat) (a b : Int) (ha : U64 a) (hb : U64 b) : paymasterref02_Text.f (k + 180 + 1) a b = if val a b < 10 then some (strOfNums (asc [val a b])) else (paymasterref02_Text.f (k + 180) (hiOf (val a b / 10)) (loOf (val a b / 10))).bind fun t => if t.size + 1 ≤ 9223372036854775807 then some (t ++ strOfNums (asc [val a b % 10])) else none := by
  obtain ⟨v0, v1⟩ := val_range a b ha hb
  rw [paymasterref02_Text.f, refOver_is k a b 10 ha hb u_ten, over_num a b 10 ha hb u_ten (by omega), Option.bind_some, Option.bind_some]
  generalize val a b = v at *
  have e : (48 + v % 10 % 256) % 256 = v % 10 + 48 := by omega
  have s : (strOfNums [v % 10 + 48]).size = 1 := by rw [strOfNums_size]; rfl
  by_cases h : v < 10
  · have q : v / 10 = 0 := by omega
    have r : v % 10 = v := by omega
    rw [r] at e
    rw [if_pos h, q, if_pos (show (hiOf 0 == 0 && loOf 0 == 0) = true from rfl)]
    simp only [r, e]
    rfl
  · have n : (hiOf (v / 10) == 0 && loOf (v / 10) == 0) = false := by
      rw [Bool.and_eq_false_iff, beq_eq_false_iff_ne, beq_eq_false_iff_ne]
      unfold hiOf loOf
      omega
    rw [if_neg h]
    simp only [n, e, s]
    rw [if_neg (by simp)]
    rfl
theorem refText_dec : ∀ (f : Nat) (a b : Int), U64 a → U64 b → val a b < 10 ^ (f + 1) → f ≤ 100 → ∀ k, paymasterref02_Text.f (k + f + 181) a b = some (strOfNums (asc (decF f (val a b))))
  | 0, a, b, ha, hb, hv, hf, k => by
    rw [Int.pow_succ, Int.pow_zero] at hv
    refine (refText_step k a b ha hb).trans ?_
    rw [if_pos (by omega)]
    rfl
  | f + 1, a, b, ha, hb, hv, hf, k => by
    obtain ⟨v0, v1⟩ := val_range a b ha hb
    rw [Int.pow_succ] at hv
    refine (refText_step (k + f + 1) a b ha hb).trans ?_
    unfold decF
    by_cases h : val a b < 10
    · rw [if_pos h, if_pos h]
    · obtain ⟨u1, u2⟩ := u_hiOf (val a b / 10) (by omega) (by omega)
      have ih := refText_dec f _ _ u1 u2 (by rw [val_halves]; omega) (by omega) k
      rw [val_halves] at ih
      have l := (dec_len f (val a b / 10)).2
      rw [if_neg h, if_neg h, show k + f + 1 + 180 = k + f + 181 from by omega, ih, Option.bind_some, strOfNums_size, if_pos (by simp only [asc, List.length_map]; omega), str_append]
      unfold asc
      rw [List.map_append]
theorem refDText_is (k : Nat) (a b : Int) (ha : U64 a) (hb : U64 b) : paymasterref02_Text.f (k + 219) a b = decimal_Text.f a b := by
  obtain ⟨v0, v1⟩ := val_range a b ha hb
  have := m39
  rw [text_num a b ha hb]
  exact refText_dec 38 a b ha hb (by omega) (by omega) k
def bad (c : Int) : Bool := decide (c < 48) || decide (c > 57)
theorem nb_drop (s : ByteArray) (i : Nat) (h : i < s.size) : (nb s).drop i = bt s (i : Int) :: (nb s).drop (i + 1) := by
  rw [List.drop_eq_getElem_cons (by rw [nb_length]; exact h), bt_nb, List.getD_eq_getElem?_getD, List.getElem?_eq_getElem (by rw [nb_length]; exact h)]
  rfl
theorem refParse_l0 (s : ByteArray) (hs : s.size ≤ 1000000000) (k : Nat) : ∀ (t i : Nat), i + t = s.size → paymasterref02_Parse.l0 (k + 1 + t) s (i : Int) 0 0 = if ((nb s).drop i).any bad = true then some (0, 0, 20) else paymasterref02_Parse.l0 (k + 1) s (s.size : Int) 0 0
  | 0, i, h => by
    obtain rfl : i = s.size := by omega
    rw [List.drop_of_length_le (by rw [nb_length]; omega)]
    rfl
  | t + 1, i, h => by
    have ih := refParse_l0 s hs k t (i + 1) (by omega)
    rw [nb_drop s i (by omega), List.any_cons]
    show paymasterref02_Parse.l0 (k + 1 + t + 1) s (i : Int) 0 0 = _
    rw [paymasterref02_Parse.l0, if_pos (by omega), if_pos (by omega)]
    by_cases h1 : bt s (i : Int) < 48
    · rw [if_pos h1, show bad (bt s (i : Int)) = true from by unfold bad; simp [h1], if_pos (by simp)]
    · rw [if_neg h1]
      by_cases h2 : bt s (i : Int) > 57
      · rw [if_pos h2, show bad (bt s (i : Int)) = true from by unfold bad; simp [h2], if_pos (by simp)]
      · rw [if_neg h2, show bad (bt s (i : Int)) = false from by unfold bad; rw [decide_eq_false h1, decide_eq_false h2]; rfl, Bool.false_or, wi _ (by omega) (by omega), show ((i : Int) + 1) = ((i + 1 : Nat) : Int) from by omega, ih]
theorem fold_ge (l : List Int) (a : Int) (ha : 0 ≤ a) (hl : Dig l) : a ≤ l.foldl (fun a d => a * 10 + d) a := by
  have h := (valD_range l hl).1
  unfold valD at h
  rw [fold_cons]
  have p := ten_pos l.length
  have : a * 1 ≤ a * 10 ^ l.length := Int.mul_le_mul_of_nonneg_left (by omega) ha
  omega
theorem refParse_l1 (s : ByteArray) (hs : s.size ≤ 1000000000) (hd : Dig (unasc (nb s))) (k : Nat) : ∀ (t i : Nat) (v : Int), i + t = s.size → 0 ≤ v → v < m128 → paymasterref02_Parse.l1 (k + 721 + t) s (i : Int) 0 0 (hiOf v) (loOf v) =
    if (unasc ((nb s).drop i)).foldl (fun a d => a * 10 + d) v < m128 then some (hiOf ((unasc ((nb s).drop i)).foldl (fun a d => a * 10 + d) v), loOf ((unasc ((nb s).drop i)).foldl (fun a d => a * 10 + d) v), 0) else some (0, 0, 10)
  | 0, i, v, h, v0, v1 => by
    rw [List.drop_of_length_le (by rw [nb_length]; omega)]
    show paymasterref02_Parse.l1 (k + 720 + 1) s (i : Int) 0 0 (hiOf v) (loOf v) = if v < m128 then _ else _
    rw [paymasterref02_Parse.l1, if_neg (by omega), if_pos v1]
    rfl
  | t + 1, i, v, h, v0, v1 => by
    have dr := nb_drop s i (by omega)
    have hd' : Dig (unasc ((nb s).drop (i + 1))) := by
      intro d h
      obtain ⟨c, hc, rfl⟩ := List.mem_map.1 h
      exact hd _ (List.mem_map.2 ⟨c, List.mem_of_mem_drop hc, rfl⟩)
    have hb : 0 ≤ bt s (i : Int) - 48 ∧ bt s (i : Int) - 48 < 10 := by
      refine hd _ (List.mem_map.2 ⟨bt s (i : Int), ?_, rfl⟩)
      refine List.mem_of_mem_drop (i := i) ?_
      rw [dr]
      exact List.mem_cons_self ..
    obtain ⟨u1, u2⟩ := u_hiOf v v0 v1
    have e : (unasc ((nb s).drop i)).foldl (fun a d => a * 10 + d) v = (unasc ((nb s).drop (i + 1))).foldl (fun a d => a * 10 + d) (v * 10 + (bt s (i : Int) - 48)) := by
      rw [dr]
      rfl
    rw [e]
    obtain ⟨D, hD⟩ : ∃ D, unasc ((nb s).drop (i + 1)) = D := ⟨_, rfl⟩
    rw [hD] at hd' ⊢
    have T := refTimes_is (k + t + 1) (hiOf v) (loOf v) 10 u1 u2 u_ten
    rw [times_num _ _ _ u1 u2 u_ten, val_halves] at T
    show paymasterref02_Parse.l1 (k + 721 + t + 1) s (i : Int) 0 0 (hiOf v) (loOf v) = _
    rw [paymasterref02_Parse.l1, if_pos (by omega), show k + 721 + t = k + t + 1 + 720 from by omega, T]
    by_cases c : v * 10 < m128
    · obtain ⟨w1, w2⟩ := u_hiOf (v * 10) (by omega) c
      have hx : U64 ((bt s (i : Int) - 48) % 256) := ⟨by omega, by omega⟩
      have A := refAdd_is (k + t + 671) (hiOf (v * 10)) (loOf (v * 10)) 0 ((bt s (i : Int) - 48) % 256) w1 w2 u0 hx
      rw [add_num _ _ _ _ w1 w2 u0 hx, val_halves, small_val, show (bt s (i : Int) - 48) % 256 = bt s (i : Int) - 48 from by omega] at A
      rw [if_pos c, Option.bind_some, if_pos rfl, if_pos (by omega), show k + t + 1 + 720 = k + t + 671 + 50 from by omega]
      simp only [show (bt s (i : Int) - 48) % 256 = bt s (i : Int) - 48 from by omega]
      rw [A]
      by_cases c2 : v * 10 + (bt s (i : Int) - 48) < m128
      · have ih := refParse_l1 s hs hd k t (i + 1) (v * 10 + (bt s (i : Int) - 48)) (by omega) (by omega) c2
        rw [if_pos c2, Option.bind_some, if_pos rfl, wi _ (by omega) (by omega), show ((i : Int) + 1) = ((i + 1 : Nat) : Int) from by omega, show k + t + 671 + 50 = k + 721 + t from by omega, ih, hD]
      · have := fold_ge D (v * 10 + (bt s (i : Int) - 48)) (by omega) hd'
        rw [if_neg c2, Option.bind_some, if_neg (by simp), if_neg (by omega)]
    · have := fold_ge D (v * 10 + (bt s (i : Int) - 48)) (by omega) hd'
      rw [if_neg c, Option.bind_some, if_neg (by simp), if_neg (by omega)]
theorem refParse_is (s : ByteArray) (hs : s.size ≤ 1000000000) (k : Nat) : paymasterref02_Parse.f (k + 2 * s.size + 723) s = decimal_Parse.f s := by
  rw [parse_num s hs]
  unfold paymasterref02_Parse.f parseOf noNum
  have e : k + 2 * s.size + 723 = (k + s.size + 723) + s.size := by omega
  have A := refParse_l0 s hs (k + s.size + 722) s.size 0 (by omega)
  rw [e]
  refine A.trans ?_
  rw [List.drop_zero]
  have hb : (nb s).any (fun c => decide (c < 48) || decide (c > 57)) = (nb s).any bad := rfl
  rw [hb]
  by_cases h1 : (nb s).any bad = true
  · rw [if_pos h1, h1, Bool.or_true, Bool.true_or, if_pos rfl]
  · have h1' : (nb s).any bad = false := by simpa using h1
    rw [if_neg h1, h1', Bool.or_false]
    have hd : Dig (unasc (nb s)) := by
      intro d hd
      obtain ⟨c, hc, rfl⟩ := List.mem_map.1 hd
      have := (List.any_eq_false.1 h1') c hc
      unfold bad at this
      simp at this
      omega
    have nl := nb_length s
    show paymasterref02_Parse.l0 (k + s.size + 722 + 1) s (s.size : Int) 0 0 = _
    rw [paymasterref02_Parse.l0, if_neg (by omega)]
    have J : ∀ fl : Bool, paymasterref02_Parse.j1 (k + s.size + 722) s fl 0 0 = if fl = true then some (0, 0, 20) else if valD (unasc (nb s)) < m128 then some (hiOf (valD (unasc (nb s))), loOf (valD (unasc (nb s))), 0) else some (0, 0, 10) := by
      intro fl
      show paymasterref02_Parse.j1 (k + s.size + 721 + 1) s fl 0 0 = _
      rw [paymasterref02_Parse.j1]
      cases fl with
      | true => rfl
      | false =>
        rw [if_neg (by simp), if_neg (by simp)]
        have L := refParse_l1 s hs hd k s.size 0 0 (by omega) (by omega) (by unfold m128; omega)
        rw [List.drop_zero] at L
        rw [show k + s.size + 721 = k + 721 + s.size from by omega]
        exact L
    have fin : ∀ fl : Bool, (if fl = true then some (0, 0, 20) else if valD (unasc (nb s)) < m128 then some (hiOf (valD (unasc (nb s))), loOf (valD (unasc (nb s))), (0 : Int)) else some (0, 0, 10)) = some (if fl = true then (0, 0, 20) else if valD (unasc (nb s)) < m128 then (hiOf (valD (unasc (nb s))), loOf (valD (unasc (nb s))), 0) else (0, 0, 10)) := by
      intro fl
      by_cases c : valD (unasc (nb s)) < m128 <;> cases fl <;> simp [c]
    by_cases h2 : (s.size : Int) = 0
    · rw [if_pos h2, J, fin]
      have : nb s = [] := List.eq_nil_of_length_eq_zero (by omega)
      rw [this]
      rfl
    · rw [if_neg h2]
      have ne : (nb s).isEmpty = false := by
        cases hn : nb s with
        | nil => rw [hn] at nl; simp at nl; omega
        | cons x t => rfl
      rw [ne, Bool.false_or]
      by_cases h3 : (s.size : Int) > 1
      · rw [if_pos h3, if_pos (by omega), J, fin, decide_eq_true (show 1 < (nb s).length by omega), Bool.true_and]
        have : (bt s 0 == 48) = ((nb s).head? == some 48) := by
          have := bt_nb s 0
          rw [show ((0 : Nat) : Int) = 0 from rfl] at this
          rw [this]
          cases hn : nb s with
          | nil => rw [hn] at nl; simp at nl; omega
          | cons x t => simp
        rw [this]
      · rw [if_neg h3, J, fin, decide_eq_false (show ¬ 1 < (nb s).length by omega), Bool.false_and]
end Go.Proofs.YtpkjpiphjdpegaaDoor.P
namespace Go.Proofs.YtpkjpiphjdpegaaDoor.P
open Go.RowKit Go.Proofs.YtpkjpiphjdpegaaDoorW.PrintWords Go.Proofs.YtpkjpiphjdpegaaDoorW.PrintLast Go.Proofs.YtpkjpiphjdpegaaDoorW.PrintMore
set_option linter.unusedVariables false
set_option linter.unusedSimpArgs false
theorem refDParse_up (s : ByteArray) (hs : s.size ≤ 1000000000) (k : Nat) (hk : 2 * s.size + 723 ≤ k) : paymasterref02_Parse.f k s = some (parseOf (nb s)) := by
  have := refParse_is s hs (k - 2 * s.size - 723)
  rw [show k - 2 * s.size - 723 + 2 * s.size + 723 = k by omega] at this
  rw [this, parse_num s hs]
theorem refRowParse_l0 (l : List UInt8) (hs : l.length ≤ 100000000) : ∀ (r p : List UInt8) (k : Nat), l = p ++ r → (∀ b ∈ p, b ≠ 32) → 2 * l.length + 1000 + r.length ≤ k →
    paymasterref10_Parse.l0 k (mk l) (p.length : Int) = some (parseRow l)
  | [], p, k, e, hp, hk => by
    obtain ⟨j, rfl⟩ : ∃ j, k = j + 1 := ⟨k - 1, by omega⟩
    rw [List.append_nil] at e
    subst e
    rw [paymasterref10_Parse.l0, mk_size, if_neg (by omega)]
    unfold parseRow
    rw [cutAt_clean 32 l hp]
  | b :: r, p, k, e, hp, hk => by
    obtain ⟨j, rfl⟩ : ∃ j, k = j + 1 := ⟨k - 1, by omega⟩
    have ll : l.length = p.length + (r.length + 1) := by rw [e, List.length_append, List.length_cons]
    have gb : l.getD p.length 0 = b := by rw [e, List.getD_eq_getElem?_getD, List.getElem?_append_right (Nat.le_refl _), Nat.sub_self]; rfl
    rw [List.length_cons] at hk
    have w1 : wrap64 ((p.length : Int) + 1) = ((p.length + 1 : Nat) : Int) := by rw [wrapI _ (by omega) (by omega)]; push_cast; rfl
    rw [paymasterref10_Parse.l0, mk_size, if_pos (by omega), if_pos (by omega), bt_mk l p.length (by omega), gb]
    by_cases c : b = 32
    · have x1 : (mk l).extract 0 p.length = mk p := by rw [extract_mk, List.drop_zero, e, List.take_left]
      have x2 : (mk l).extract (p.length + 1) l.length = mk r := by
        rw [extract_mk, List.take_length, e, show p ++ b :: r = (p ++ [b]) ++ r by simp, List.drop_left' (by simp)]
      rw [if_pos ((b32_is b).2 c), if_pos (by omega), Int.toNat_natCast, x1, refMayId_is _ (by rw [mk_size]; omega) _ (by rw [mk_size]; omega), Option.bind_some]
      have cu : cutAt 32 l = some (p, r) := by
        rw [e, cutAt_app 32 p _ hp, cutAt, if_pos c]
        simp
      unfold parseRow
      rw [cu]
      dsimp only
      by_cases m : mayId (mk p) = true
      · rw [if_pos m, if_pos m, w1, if_pos (by omega), if_pos (by omega), Int.toNat_natCast, x2, refDParse_up _ (by rw [mk_size]; omega) _ (by rw [mk_size]; omega), Option.bind_some]
        by_cases z : (parseOf (nb (mk r))).2.2 = 0
        · rw [if_pos z, if_pos z]
        · rw [if_neg z, if_neg z]
      · rw [if_neg m, if_neg m]
    · rw [if_neg (fun q => c ((b32_is b).1 q)), w1]
      have := refRowParse_l0 l hs r (p ++ [b]) j (by rw [e]; simp) (fun x hx => by
        rcases List.mem_append.1 hx with q | q
        · exact hp x q
        · rw [List.mem_singleton.1 q]; exact c) (by omega)
      rw [List.length_append, List.length_singleton] at this
      exact this
theorem refRowParse_is (l : List UInt8) (hs : l.length ≤ 100000000) (k : Nat) (hk : 3 * l.length + 1000 ≤ k) : paymasterref10_Parse.f k (mk l) = some (parseRow l) :=
  refRowParse_l0 l hs l [] k rfl (by simp) (by omega)
theorem refRowText_is (id : ByteArray) (a b : Int) (hs : id.size ≤ 1000000000) (ha : U64 a) (hb : U64 b) (k : Nat) (hk : id.size + 300 ≤ k) : paymasterref10_Text.f k id a b = some (rowText id a b) := by
  have d := dec_size a b ha hb
  have e := sp_size id
  unfold paymasterref10_Text.f rowText
  rw [refMayId_is id hs k (by omega), Option.bind_some]
  by_cases m : mayId id = true
  · have t := refDText_is (k - 219) a b ha hb
    rw [show k - 219 + 219 = k by omega, text_num a b ha hb] at t
    rw [if_pos m, if_pos m, if_pos (by omega), t, Option.bind_some, if_pos (by omega)]
  · rw [if_neg m, if_neg m]
end Go.Proofs.YtpkjpiphjdpegaaDoor.P
namespace Go.Proofs.YtpkjpiphjdpegaaDoor.P
open Go.RowKit Go.Proofs.YtpkjpiphjdpegaaDoorW.PrintWords Go.Proofs.YtpkjpiphjdpegaaDoorW.PrintLast Go.Proofs.YtpkjpiphjdpegaaDoorW.PrintMore
set_option linter.unusedVariables false
set_option linter.unusedSimpArgs false
theorem rowParses_pure (s id : ByteArray) (a b : Int) (ha : U64 a) (hb : U64 b) : ∃ k, paymasterlaw10_RowParses.f k s id a b = some true := by
  refine ⟨3001, ?_⟩
  unfold paymasterlaw10_RowParses.f
  by_cases h1 : (s.size : Int) > 300
  · rw [if_pos h1, paymasterlaw10_RowParses.j0, if_pos rfl]
  · rw [if_neg h1, paymasterlaw10_RowParses.j0]
    by_cases h2 : (id.size : Int) > 200
    · rw [decide_eq_true h2, if_pos rfl]
    · have e : s.data.toList.length = s.size := Array.length_toList
      have p1 := parse_is s.data.toList (by omega)
      have p2 := refRowParse_is s.data.toList (by omega) 3000 (by omega)
      rw [mk_of] at p1 p2
      rw [decide_eq_false h2, if_neg (show ¬ (false = true) by decide), p1, Option.bind_some, p2, Option.bind_some, text_is id a b (by omega) ha hb, Option.bind_some, refRowText_is id a b (by omega) ha hb 3000 (by omega), Option.bind_some, if_pos (by simp), if_pos rfl, if_pos rfl]
      simp
theorem rowParses_walk {w : World} (a0 : ByteArray) (g0 : a0.size ≤ 9223372036854775807) (a1_0 : ByteArray) (a1_1 a1_2 : Int) (g1_0 : a1_0.size ≤ 9223372036854775807) (g1_1 : U64 a1_1) (g1_2 : U64 a1_2) (hG : GT w) :
    Calls Tryd.prog 11 #[.string a0, .agg #[.string a1_0, .int .u64 a1_1, .int .u64 a1_2]] w fun e w' => e = .returned (.bool true) ∧ Below w.heap.size w w' := by
  obtain ⟨k, hk⟩ := rowParses_pure a0 a1_0 a1_1 a1_2 g1_1 g1_2
  exact paymasterlaw10_RowParses.calls k a0 a1_0 a1_1 a1_2 true w hG hk
end Go.Proofs.YtpkjpiphjdpegaaDoor.P
namespace Go.Proofs.YtpkjpiphjdpegaaDoor.rowParses
open Go.ChangeShapes Go.WideShapes Go.ChangeAt Go.RowKit Go.Proofs.YtpkjpiphjdpegaaDoor.P
open Go.ChangeMaps (open_string shut_string)
set_option linter.unusedVariables false
set_option maxRecDepth 100000 in
theorem lifted (os : Os) (started : os.Started) (H : Type) (enc : TypeId × Value → H) :
    ReturnsInHanded {} Tryd.checked os 11 .any (fun w args => (Rows.rowParsesSpec.pre enc Tryd.prog Tryd.f11 Rows.rowParsesRow.domain false w args ∧ laidMetH Tryd.prog laid w) ∧ sizedMet enc Tryd.prog Tryd.f11 (OpenSpec.ofChange Rows.rowParsesSpec) false w args) (Rows.rowParsesSpec.post enc Tryd.prog Tryd.f11 false true false false) := by
  refine returnsInHanded_of_change_and (C := Tryd.checked) (X := fun w _ => laidMetH Tryd.prog laid w) (fun _ _ _ hh h => h.of_heap hh) own started (by kernel_rfl) Tryd.func11
    (ChangeSpec.witness_shaped (enc := enc) (C := Tryd.checked) (os := os) (X := fun w _ => laidMetH Tryd.prog laid w) false (World.laidAll Tryd.prog os laid) #[.string ByteArray.empty, .agg #[.string ByteArray.empty, .int .u64 0, .int .u64 0]] 8 (World.laidAll_os _ _ _) (World.shaped_of_ZipB (by kernel_rfl) (by kernel_rfl)) (by kernel_rfl) (by kernel_rfl) (by kernel_rfl) (laid_met os _)) ?_
  intro W base args ds gs before hval0 hW _ _ hL _
  have hval : ∀ (j : Nat) t v, Tryd.f11.params[j]? = some t → args[j]? = some v → Value.okWide Tryd.prog W .any base t v := hval0
  have hW' := hW
  obtain ⟨p, q, hA0, hV, rfl, hfz, hnd⟩ := hW
  have hA : DataW.TrodAll enc Tryd.prog W 0 (fun _ => true) true Tryd.f11.params.toList args.toList ds p := hA0
  rw [Tryd.params11] at hA hval
  have hAll := hA
  obtain ⟨v0, vs0, d0, ds0, p0, q0, hargs, rfl, rfl, h0, r0⟩ := trodAll_cons hA
  obtain ⟨v1, vs1, d1, ds1, p1, q1, rfl, rfl, rfl, h1, r1⟩ := trodAll_cons r0
  obtain ⟨rfl, rfl, rfl⟩ := trodAll_nil r1
  obtain rfl : args = #[v0, v1] := by cases args; simp_all
  obtain ⟨rfl, rfl⟩ := trodVars_none hV
  obtain ⟨a0, rfl, g0⟩ := arg_string (hval 0 9 v0 rfl rfl) h0
  obtain ⟨a1_0, a1_1, a1_2, rfl, g1_0, g1_1, g1_2⟩ := arg_44 (hval 1 44 v1 rfl rfl) h1
  clear hA0 hval0
  refine (rowParses_walk (w := W) a0 g0 a1_0 a1_1 a1_2 g1_0 g1_1 g1_2 (gt_of hL)).mono fun e W' ⟨he, bel⟩ => ?_
  subst he
  exact ⟨_, rfl, _, _, _, [], _, [], hW', trodAll_mk1 (shut_bool Tryd.underlying4 _), args_back laidOut bel (by kernel_rfl) hAll, rfl, bel.frame _, fun h => by cases h⟩
theorem both {a b : Bool} (h : a = true) (k : b = true) : (a && b) = true := by rw [h, k]; rfl
theorem c0 : (Rows.rowParsesRow.wf (OpenSpec.ofChange Rows.rowParsesSpec)) = true := by kernel_rfl
theorem c1 : (laidOutB Tryd.prog) = true := by kernel_rfl
theorem c2 : (mapsRowed Tryd.prog) = true := by kernel_rfl
theorem c3 : (Tryd.f11.params.all (Tryd.prog.readableRec ·)) = true := by kernel_rfl
theorem c4 : (namedTie Tryd.prog Rows.rowParsesRow.named Rows.rowParsesSpec.vars) = true := by kernel_rfl
theorem c5 : ((Rows.rowParsesRow.stops == [])) = true := by kernel_rfl
theorem c6 : ((Tryd.prog.stops == [])) = true := by kernel_rfl
theorem c7 : ((Rows.rowParsesRow.knobs == [])) = true := by kernel_rfl
theorem c8 : ((Tryd.prog.stopKnobs == [])) = true := by kernel_rfl
theorem c9 : ((Rows.rowParsesRow.inPlace == Tryd.prog.inPlace 11)) = true := by kernel_rfl
theorem c10 : ((Rows.rowParsesRow.unfollowed == Tryd.prog.unfollowed 11)) = true := by kernel_rfl
theorem c11 : ((Rows.rowParsesRow.recurses == Tryd.prog.recurses 11)) = true := by kernel_rfl
theorem c12 : ((Rows.rowParsesRow.named == Tryd.prog.varsNamed 11)) = true := by kernel_rfl
theorem c13 : ((Rows.rowParsesRow.maps == (Tryd.f11.params.toList ++ Rows.rowParsesSpec.plain.varTypes Tryd.prog).any (Tryd.prog.mapsRec ·))) = true := by kernel_rfl
theorem c14 : ((Rows.rowParsesRow.ifaces == (Tryd.f11.params.toList ++ Rows.rowParsesSpec.plain.varTypes Tryd.prog).any (Tryd.prog.ifacesRec ·))) = true := by kernel_rfl
theorem c15 : ((Rows.rowParsesRow.mapsOut == Tryd.prog.mapsAmong Tryd.f11.resultTypes.toList)) = true := by kernel_rfl
theorem c16 : ((Rows.rowParsesRow.loops == (Tryd.f11.params.toList ++ Rows.rowParsesSpec.plain.varTypes Tryd.prog).any (Tryd.prog.loopsFrom ·))) = true := by kernel_rfl
theorem c17 : ((Rows.rowParsesRow.wideKeys == (Tryd.f11.params.toList ++ Rows.rowParsesSpec.plain.varTypes Tryd.prog ++ Tryd.f11.resultTypes.toList).any (Tryd.prog.wideKeysFrom ·))) = true := by kernel_rfl
theorem c18 : (Rows.rowParsesSpec.vars.all (Tryd.prog.varReadable ·)) = true := by kernel_rfl
theorem c19 : (Tryd.f11.resultTypes.all (fun t => Tryd.prog.readableRec t && decide (t < Tryd.prog.types.size))) = true := by kernel_rfl
theorem c20 : ((Rows.rowParsesRow.ifacesOut == Tryd.f11.resultTypes.toList.any (Tryd.prog.ifacesRec ·))) = true := by kernel_rfl
theorem c21 : ((Rows.rowParsesRow.loopsOut == Tryd.f11.resultTypes.toList.any (Tryd.prog.loopsFrom ·))) = true := by kernel_rfl
theorem c22 : ((Rows.rowParsesRow.plainKeys == Tryd.prog.plainKeys)) = true := by kernel_rfl
theorem c23 : (Rows.rowParsesRow.shortTexts.isNone) = true := by kernel_rfl
theorem c24 : (Tryd.prog.stopsHeard) = true := by kernel_rfl
theorem c25 : (Tryd.prog.mayEnter) = true := Facts.mayEnter
theorem c26 : ((Rows.rowParsesRow.lifted == Tryd.prog.liftsFinal)) = true := by rw [Facts.liftsFinal]; kernel_rfl
theorem c27 : ((Tryd.prog.make == some Rows.rowParsesRow.make)) = true := by rw [Facts.make]; kernel_rfl
theorem c28 : ((Rows.rowParsesRow.kinds == (if Rows.rowParsesRow.domain.isEmpty then [] else Tryd.f11.params.toList.map fun t => match Tryd.prog.underlying t with | some (.int k) => some k | _ => none))) = true := by kernel_rfl
theorem c29 : ((Rows.rowParsesRow.pinned == Rows.rowParsesRow.pinnedBy)) = true := by kernel_rfl
theorem c30 : ((Rows.rowParsesRow.veiled == (Tryd.f11.params.toList ++ Rows.rowParsesSpec.plain.varTypes Tryd.prog ++ Tryd.f11.resultTypes.toList).any (Tryd.prog.veiledRec ·))) = true := by kernel_rfl
theorem c31 : (Rows.rowParsesRow.veiledFits Tryd.prog Tryd.f11.params.toList (Tryd.f11.params.toList ++ Rows.rowParsesSpec.plain.varTypes Tryd.prog ++ Tryd.f11.resultTypes.toList)) = true := by kernel_rfl
set_option maxRecDepth 100000 in
theorem closed : joinedFacts Tryd.prog 11 Tryd.f11 Rows.rowParsesSpec Rows.rowParsesRow = true := by
  unfold joinedFacts
  exact both (both (both (both (both (both (both (both (both (both (both (both (both (both (both (both (both (both (both (both (both (both (both (both (both (both (both (both (both (both (both (c0) c1) c2) c3) c4) c5) c6) c7) c8) c9) c10) c11) c12) c13) c14) c15) c16) c17) c18) c19) c20) c21) c22) c23) c24) c25) c26) c27) c28) c29) c30) c31
theorem over : Rows.rowParsesRow.holds Tryd.pinned (OpenSpec.ofChange Rows.rowParsesSpec) :=
  OpenClaim.holds_of_wide 11 Tryd.f11 rfl rfl rfl rfl rfl rfl rfl ⟨rfl, rfl, rfl, rfl, rfl⟩ rfl rfl rfl rfl rfl (by kernel_rfl) Tryd.func11 closed
    (of_decide_eq_true (by kernel_rfl)) (by unfold Func.isWrapper; first | (rw [if_pos (by decide +kernel)]; kernel_rfl) | (rw [if_neg (by decide +kernel)]; exact ⟨rfl, rfl⟩))
    (fun os started H enc _ => lifted os started H enc)
end Go.Proofs.YtpkjpiphjdpegaaDoor.rowParses
namespace Go.Proofs.YtpkjpiphjdpegaaDoor
theorem rowParses_row_holds : Rows.RowParsesSaid := rowParses.over
theorem rowParses_holds : Rows.RowParsesCardSaid :=
  Claim7.holds_tied_plain_at .later [] [.data, .pinned] true (true, "8ed4f517d9b640979c9642b29f1471ad540af19eb7dd2a85df80f51153cdfa49") false
    rowParses_row_holds (fun _ h => by cases h) (by kernel_rfl) (fun _ h => by cases h) rowParses_row_tie rfl ⟨rfl, rfl⟩ Facts.mainIs rfl
    (fun f fn hf hfn => by
      obtain rfl : f = 11 := Option.some.inj ((show Tryd.prog.funcNamed "paymaster/paymasterlaw10.RowParses" = some 11 by kernel_rfl).symm.trans hf) |>.symm
      obtain rfl : fn = Tryd.f11 := (Option.some.inj (Tryd.func11.symm.trans hfn)).symm
      exact ⟨by kernel_rfl, fun j t ht => by
        rw [Tryd.params11] at ht
        have hm : t ∈ [9, 44] := by simpa using Array.mem_of_getElem? ht
        have hall : ([9, 44].all fun u => !Tryd.prog.wantsStandIn u) = true := by kernel_rfl
        exact (show Tryd.prog.wantsStandIn t = false by simpa using List.all_eq_true.1 hall t hm)⟩)
    (by kernel_rfl)
end Go.Proofs.YtpkjpiphjdpegaaDoor
