/- A program of this session wrote this text out of the session's own texts. (part 7 of 8) -/
import Derived.Test.YtpkjpiphjdpegaaDoorCRowWrites6
namespace Go.Proofs.YtpkjpiphjdpegaaDoor.P
open Go.RowKit Go.Proofs.YtpkjpiphjdpegaaDoorW.PrintWords Go.Proofs.YtpkjpiphjdpegaaDoorW.PrintLast Go.Proofs.YtpkjpiphjdpegaaDoorW.PrintMore
attribute [local go_sem] max2_int min2_int max_two min_two max_three min_three max_four min_four
set_option linter.unusedVariables false
set_option linter.unusedSimpArgs false
def row_Text.f (a0_0 : ByteArray) (a0_1 : Int) (a0_2 : Int) : Option (ByteArray × Int) := (tag_MayId.f a0_0).bind fun t603 => (if t603 = true then (if a0_0.size + 1 ≤ 9223372036854775807 then ((decimal_Text.f a0_1 a0_2).bind fun t604 => (if (a0_0 ++ (⟨#[32]⟩ : ByteArray)).size + t604.size ≤ 9223372036854775807 then (some ((a0_0 ++ (⟨#[32]⟩ : ByteArray)) ++ t604, 0)) else (none))) else (none)) else (some ((⟨#[]⟩ : ByteArray), 101)))
def row_Text.T3 : Bool × List (List Nat × List Nat) := (true, [([], []), ([0], [0]), ([1], [1]), ([], []), ([3], [3]), ([4], [4]), ([2, 5], [2, 5]), ([6, 5, 0, 1, 2, 3, 4, 5, 6], [6]), ([7, 0, 1, 2, 3, 4, 5, 6, 7], [])])
def row_Text.B3 : List Nat := [0, 1, 3, 0, 8, 24, 63, 127, 255]
theorem row_Text.tab3 : rtab .any (opsOf Tryd.f48 3) = row_Text.T3 := by kernel_rfl
theorem row_Text.bits3 : waitsOk row_Text.T3.2 row_Text.B3 = true := by kernel_rfl
set_option maxHeartbeats 8000000 in
set_option maxRecDepth 100000 in
theorem row_Text.calls (a0_0 : ByteArray) (a0_1 : Int) (a0_2 : Int) (r1 : ByteArray) (r2 : Int) (w : World) (hG : GT w) (h : row_Text.f a0_0 a0_1 a0_2 = some (r1, r2)) :
    Calls Tryd.prog 48 #[.agg #[.string a0_0, .int .u64 a0_1, .int .u64 a0_2]] w fun e w' => e = .returned (.tuple #[.string r1, .int .i64 r2]) ∧ Below w.heap.size w w' := by
  have hu44 := Tryd.underlying44
  have hu42 := Tryd.underlying42
  have HB := Aside0.mk (Below.refl w.heap.size w)
  have H : ((tag_MayId.f a0_0).bind fun t603 => (if t603 = true then (if a0_0.size + 1 ≤ 9223372036854775807 then ((decimal_Text.f a0_1 a0_2).bind fun t604 => (if (a0_0 ++ (⟨#[32]⟩ : ByteArray)).size + t604.size ≤ 9223372036854775807 then (some ((a0_0 ++ (⟨#[32]⟩ : ByteArray)) ++ t604, 0)) else (none))) else (none)) else (some ((⟨#[]⟩ : ByteArray), 101)))) = some (r1, r2) := h
  clear h
  replace H := Option.bind_eq_some_iff.mp H
  obtain ⟨t603, A20, H⟩ := H
  replace H : (if t603 = true then (if a0_0.size + 1 ≤ 9223372036854775807 then ((decimal_Text.f a0_1 a0_2).bind fun t604 => (if (a0_0 ++ (⟨#[32]⟩ : ByteArray)).size + t604.size ≤ 9223372036854775807 then (some ((a0_0 ++ (⟨#[32]⟩ : ByteArray)) ++ t604, 0)) else (none))) else (none)) else (some ((⟨#[]⟩ : ByteArray), 101))) = some (r1, r2) := H
  have A2 := Aside0.mk A20
  clear A20
  by_cases c3 : t603 = true
  · subst c3
    have H1 : (if a0_0.size + 1 ≤ 9223372036854775807 then ((decimal_Text.f a0_1 a0_2).bind fun t604 => (if (a0_0 ++ (⟨#[32]⟩ : ByteArray)).size + t604.size ≤ 9223372036854775807 then (some ((a0_0 ++ (⟨#[32]⟩ : ByteArray)) ++ t604, 0)) else (none))) else (none)) = some (r1, r2) := by rw [if_pos rfl] at H; exact H
    clear H
    have H := H1
    clear H1
    by_cases c4 : a0_0.size + 1 ≤ 9223372036854775807
    · rw [if_pos c4] at H
      have c4b0 := eq_true c4
      have c4b1 : decide (a0_0.size + 1 ≤ 9223372036854775807) = true := decide_eq_true c4
      try have c4b2 : (9223372036854775807 < a0_0.size + 1) = False := eq_false (Nat.not_lt.2 c4)
      replace H := Option.bind_eq_some_iff.mp H
      obtain ⟨t604, A50, H⟩ := H
      replace H : (if (a0_0 ++ (⟨#[32]⟩ : ByteArray)).size + t604.size ≤ 9223372036854775807 then (some ((a0_0 ++ (⟨#[32]⟩ : ByteArray)) ++ t604, 0)) else (none)) = some (r1, r2) := H
      have A5 := Aside0.mk A50
      clear A50
      by_cases c6 : (a0_0 ++ (⟨#[32]⟩ : ByteArray)).size + t604.size ≤ 9223372036854775807
      · rw [if_pos c6] at H
        have c6b0 := eq_true c6
        have c6b1 : decide ((a0_0 ++ (⟨#[32]⟩ : ByteArray)).size + t604.size ≤ 9223372036854775807) = true := decide_eq_true c6
        try have c6b2 : (9223372036854775807 < (a0_0 ++ (⟨#[32]⟩ : ByteArray)).size + t604.size) = False := eq_false (Nat.not_lt.2 c6)
        try have c6b3 : (9223372036854775807 < a0_0.size + 1 + t604.size) = False := eq_false (by have e_ := c6; repeat rw [ByteArray.size_append] at e_; exact Nat.not_lt.2 e_)
        simp only [Option.some.injEq, Prod.mk.injEq] at H
        obtain ⟨rfl, rfl⟩ := H
        go_enter Tryd.func48, Tryd.ntmps48
        try go_wp2_with (first | ((with_reducible refine gate_dst (N := 1) rfl ?_); refine box_event ?hg (N := 1) ?hd (cs := #[.string a0_0, .int .u64 a0_1, .int .u64 a0_2]) (t := 44) ?hr ?_; (case hd => rfl); (case hg => rfl); (case hr => first | (go_simp; done) | (go_simp; rfl)); intro gb602 hg w7 hbox hb; have n0_ := Aside0.mk (below_step (by repeat (first | (with_reducible first | exact HB.out | apply below_alloc | apply pw_below_drewN | apply below_drew1) | exact HB.out)) hb); have n1_ := Aside0.mk (hbox); have n2_ := Aside0.mk ((by rw [hg]; exact (below_size (by repeat (first | (with_reducible first | exact HB.out | apply below_alloc | apply pw_below_drewN | apply below_drew1) | exact HB.out))) : w.heap.size ≤ gb602)); have n3_ := Aside0.mk ((by rw [hg]; exact (below_size (by repeat (first | (with_reducible first | exact HB.out | apply below_alloc | apply pw_below_drewN | apply below_drew1) | exact HB.out))) : w.heap.size ≤ gb602)); clear HB; have HB := n0_; have BK602 := n1_; have GW602 := n2_; have GE602 := n3_; clear n0_ n1_ n2_ n3_; clear hb hbox hg; have hcz8_0 : w7.cell? ⟨gb602, 0, none⟩ = some (.string a0_0) := (blk_cell BK602.out 0).trans rfl; have hcz8_1 : w7.cell? ⟨gb602, 1, none⟩ = some (.int .u64 a0_1) := (blk_cell BK602.out 1).trans rfl; have hcz8_2 : w7.cell? ⟨gb602, 2, none⟩ = some (.int .u64 a0_2) := (blk_cell BK602.out 2).trans rfl; have hfz8_0 := blk_frozen BK602.out 0; have hfz8_1 := blk_frozen BK602.out 1; have hfz8_2 := blk_frozen BK602.out 2) | ((with_reducible refine gate_callee (f := 51) rfl ?_); refine goesL_ (some 6) rfl rfl Tryd.func51 (by kernel_rfl) rfl #[.string a0_0] rfl (by (try simp only [List.map_toArray, List.map_cons, List.map_nil]); first | done | rfl | (simp only [List.length_drop, List.length_take]; rfl)) ?_; (with_reducible refine (tag_MayId.calls a0_0 true _ ?side1 A2.out).mono ?_); (case side1 => exact gt_below hG (by repeat (first | (with_reducible first | exact HB.out | apply below_alloc | apply pw_below_drewN | apply below_drew1 | refine below_set ?_ GE602.out) | exact HB.out))); rintro e w9 ⟨rfl, hb⟩; refine ⟨_, rfl, ?_⟩; have n0_ := Aside0.mk (blk_below (g := gb602) (o := .cells #[.string a0_0, .int .u64 a0_1, .int .u64 a0_2] 44 (0, 0)) (by (with_reducible repeat (first | refine blk_drewN ?_ _ | refine blk_drew ?_ | refine blk_alloc ?_ _)); exact BK602.out) hb); have n1_ := Aside0.mk (below_step (by repeat (first | (with_reducible first | exact HB.out | apply below_alloc | apply pw_below_drewN | apply below_drew1 | refine below_set ?_ GE602.out) | exact HB.out)) hb); clear BK602; clear HB; have BK602 := n0_; have HB := n1_; clear n0_ n1_; (try clear hb); (try clear hb2); (try clear hk); (try clear hi)))
        have n0_ := Aside0.mk (blk_drew BK602.out)
        have n1_ := Aside0.mk (below_drew1 HB.out)
        clear BK602
        clear HB
        have BK602 := n0_
        have HB := n1_
        clear n0_ n1_
        refine start_ (n := 9) (S := fun w' => w'.cell? ⟨gb602, 0, none⟩ = some (.string a0_0) ∧ w'.cell? ⟨gb602, 1, none⟩ = some (.int .u64 a0_1) ∧ w'.cell? ⟨gb602, 2, none⟩ = some (.int .u64 a0_2)) (ds := []) #[false, false, false, false, false, false, false, false, false] (by kernel_rfl) rfl rfl ⟨(blk_cell BK602.out 0).trans rfl, (blk_cell BK602.out 1).trans rfl, (blk_cell BK602.out 2).trans rfl⟩ (fun hHeld => ?_); refine with_tabW row_Text.tab3 row_Text.bits3 (fun HT_ HW_ => ?_)
        generalize w9.drew = w10 at BK602 HB hHeld ⊢
        refine pure_ (i := 0) (N := some 8) (v := ?_) (a' := ?_) #[true, false, false, false, false, false, false, false, false] rfl rfl (any_of HT_.out (by kernel_rfl)) (fun _ _ _ h => h) (Or.inl ⟨by rfl, ?_⟩) ?_ ?_
        rotate_left
        · intro w'
          go_simp
          with_reducible rfl
        rotate_left
        · simp only [Act.put, List.setIfInBounds_toArray, List.set_cons_zero, List.set_cons_succ, i64_w, i32_w]
          rfl
        refine pure_ (i := 3) (N := some 11) (v := ?_) (a' := ?_) #[true, false, false, true, false, false, false, false, false] rfl rfl (any_of HT_.out (by kernel_rfl)) (fun _ _ _ h => h) (Or.inl ⟨by rfl, ?_⟩) ?_ ?_
        rotate_left
        · intro w'
          go_simp
          with_reducible rfl
        rotate_left
        · simp only [Act.put, List.setIfInBounds_toArray, List.set_cons_zero, List.set_cons_succ, i64_w, i32_w]
          rfl
        refine take_ (i := 1) (N := some 9) (v := ?_) (a' := ?_) #[true, true, false, true, false, false, false, false, false] rfl rfl (take_ofW HT_.out HW_.out (by kernel_rfl)) (fun _ _ _ h => h) (Or.inl ⟨by rfl, ?_⟩) hHeld ?_ ?_
        rotate_left
        · rintro w' ⟨s0, s1, s2⟩
          go_simp
          with_reducible rfl
        rotate_left
        · simp only [Act.put, List.setIfInBounds_toArray, List.set_cons_zero, List.set_cons_succ, i64_w, i32_w]
          rfl
        refine pure_ (i := 2) (N := some 10) (v := ?_) (a' := ?_) #[true, true, true, true, false, false, false, false, false] rfl rfl (any_of HT_.out (by kernel_rfl)) (fun _ _ _ h => h) (Or.inl ⟨by rfl, ?_⟩) ?_ ?_
        rotate_left
        · intro w'
          go_simp
          with_reducible rfl
        rotate_left
        · simp only [Act.put, List.setIfInBounds_toArray, List.set_cons_zero, List.set_cons_succ, i64_w, i32_w]
          rfl
        refine take_ (i := 4) (N := some 12) (v := ?_) (a' := ?_) #[true, true, true, true, true, false, false, false, false] rfl rfl (take_ofW HT_.out HW_.out (by kernel_rfl)) (fun _ _ _ h => h) (Or.inl ⟨by rfl, ?_⟩) hHeld ?_ ?_
        rotate_left
        · rintro w' ⟨s0, s1, s2⟩
          go_simp
          with_reducible rfl
        rotate_left
        · simp only [Act.put, List.setIfInBounds_toArray, List.set_cons_zero, List.set_cons_succ, i64_w, i32_w]
          rfl
        refine one_ (i := 5) (N := some 13) #[true, true, true, true, true, true, false, false, false] rfl rfl (one_of HT_.out (by kernel_rfl)) (by decide) (fun K hK => ?_)
        refine goes_ Tryd.func85 (by kernel_rfl) rfl #[.agg #[.int .u64 a0_1, .int .u64 a0_2]] (by rfl) rfl rfl (by (try simp only [List.map_toArray, List.map_cons, List.map_nil]); first | done | rfl | (simp only [List.length_drop, List.length_take]; rfl)) ?_
        with_reducible refine (decimal_Text.calls a0_1 a0_2 t604 _ A5.out).mono ?_
        rintro e w11 ⟨rfl, hb⟩
        refine ⟨_, rfl, ?_⟩
        have n0_ := Aside0.mk (blk_below (g := gb602) (o := .cells #[.string a0_0, .int .u64 a0_1, .int .u64 a0_2] 44 (0, 0)) (by (with_reducible repeat (first | refine blk_drewN ?_ _ | refine blk_drew ?_ | refine blk_alloc ?_ _)); exact BK602.out) hb)
        have n1_ := Aside0.mk (below_step (by repeat (first | (with_reducible first | exact HB.out | apply below_alloc | apply pw_below_drewN | apply below_drew1 | refine below_set ?_ GE602.out) | exact HB.out)) hb)
        clear BK602
        clear HB
        have BK602 := n0_
        have HB := n1_
        clear n0_ n1_
        (try clear hb)
        (try clear hb2)
        (try clear hk)
        (try clear hi)
        refine hK.out _ _ ⟨(blk_cell BK602.out 0).trans rfl, (blk_cell BK602.out 1).trans rfl, (blk_cell BK602.out 2).trans rfl⟩ (fun hHeld => ?_)
        clear hK K
        refine norm_ (a' := ?_) ?_ ?_
        rotate_left
        · show Act.put _ (some 13) _ = _
          simp only [Act.put, List.setIfInBounds_toArray, List.set_cons_zero, List.set_cons_succ, i64_w, i32_w]
          rfl
        refine pure_ (i := 6) (N := some 14) (v := ?_) (a' := ?_) #[true, true, true, true, true, true, true, false, false] rfl rfl (any_of HT_.out (by kernel_rfl)) (fun _ _ _ h => h) (Or.inl ⟨by rfl, ?_⟩) ?_ ?_
        rotate_left
        · intro w'
          go_simp
          with_reducible rfl
        rotate_left
        · simp only [Act.put, List.setIfInBounds_toArray, List.set_cons_zero, List.set_cons_succ, i64_w, i32_w]
          rfl
        refine pure_ (i := 7) (N := some 2) (v := ?_) (a' := ?_) #[true, true, true, true, true, true, true, true, false] rfl rfl (any_of HT_.out (by kernel_rfl)) (fun _ _ _ h => h) (Or.inl ⟨by rfl, ?_⟩) ?_ ?_
        rotate_left
        · intro w'
          go_simp
          with_reducible rfl
        rotate_left
        · simp only [Act.put, List.setIfInBounds_toArray, List.set_cons_zero, List.set_cons_succ, i64_w, i32_w]
          rfl
        refine pure_ (i := 8) (N := some 3) (v := ?_) (a' := ?_) #[true, true, true, true, true, true, true, true, true] rfl rfl (any_of HT_.out (by kernel_rfl)) (fun _ _ _ h => h) (Or.inl ⟨by rfl, ?_⟩) ?_ ?_
        rotate_left
        · intro w'
          go_simp
          with_reducible rfl
        rotate_left
        · simp only [Act.put, List.setIfInBounds_toArray, List.set_cons_zero, List.set_cons_succ, i64_w, i32_w]
          rfl
        refine done_ (done_of HT_.out (by kernel_rfl)) ?_
        try go_wp2
        go_ret2
        exact ⟨by first | rfl | (simp [errW_none, errW_some] <;> rfl) | (simp [*, errW_none, errW_some] <;> rfl), by repeat (first | (with_reducible first | exact HB.out | apply below_alloc | apply pw_below_drewN | apply below_drew1 | refine below_set ?_ GE602.out) | exact HB.out)⟩
      · rw [if_neg c6] at H
        exact absurd H (by simp)
    · rw [if_neg c4] at H
      exact absurd H (by simp)
  · replace c3 := Bool.eq_false_iff.mpr c3
    subst c3
    have H1 : (some ((⟨#[]⟩ : ByteArray), 101)) = some (r1, r2) := by rw [if_neg (show ¬ (false = true) by decide)] at H; exact H
    clear H
    have H := H1
    clear H1
    simp only [Option.some.injEq, Prod.mk.injEq] at H
    obtain ⟨rfl, rfl⟩ := H
    go_enter Tryd.func48, Tryd.ntmps48
    go_wp2_with (first | ((with_reducible refine gate_dst (N := 1) rfl ?_); refine box_event ?hg (N := 1) ?hd (cs := #[.string a0_0, .int .u64 a0_1, .int .u64 a0_2]) (t := 44) ?hr ?_; (case hd => rfl); (case hg => rfl); (case hr => first | (go_simp; done) | (go_simp; rfl)); intro gb602 hg w12 hbox hb; have n0_ := Aside0.mk (below_step (by repeat (first | (with_reducible first | exact HB.out | apply below_alloc | apply pw_below_drewN | apply below_drew1) | exact HB.out)) hb); have n1_ := Aside0.mk (hbox); have n2_ := Aside0.mk ((by rw [hg]; exact (below_size (by repeat (first | (with_reducible first | exact HB.out | apply below_alloc | apply pw_below_drewN | apply below_drew1) | exact HB.out))) : w.heap.size ≤ gb602)); have n3_ := Aside0.mk ((by rw [hg]; exact (below_size (by repeat (first | (with_reducible first | exact HB.out | apply below_alloc | apply pw_below_drewN | apply below_drew1) | exact HB.out))) : w.heap.size ≤ gb602)); clear HB; have HB := n0_; have BK602 := n1_; have GW602 := n2_; have GE602 := n3_; clear n0_ n1_ n2_ n3_; clear hb hbox hg; have hcz13_0 : w12.cell? ⟨gb602, 0, none⟩ = some (.string a0_0) := (blk_cell BK602.out 0).trans rfl; have hcz13_1 : w12.cell? ⟨gb602, 1, none⟩ = some (.int .u64 a0_1) := (blk_cell BK602.out 1).trans rfl; have hcz13_2 : w12.cell? ⟨gb602, 2, none⟩ = some (.int .u64 a0_2) := (blk_cell BK602.out 2).trans rfl; have hfz13_0 := blk_frozen BK602.out 0; have hfz13_1 := blk_frozen BK602.out 1; have hfz13_2 := blk_frozen BK602.out 2) | ((with_reducible refine gate_callee (f := 51) rfl ?_); refine goesL_ (some 6) rfl rfl Tryd.func51 (by kernel_rfl) rfl #[.string a0_0] rfl (by (try simp only [List.map_toArray, List.map_cons, List.map_nil]); first | done | rfl | (simp only [List.length_drop, List.length_take]; rfl)) ?_; (with_reducible refine (tag_MayId.calls a0_0 false _ ?side1 A2.out).mono ?_); (case side1 => exact gt_below hG (by repeat (first | (with_reducible first | exact HB.out | apply below_alloc | apply pw_below_drewN | apply below_drew1 | refine below_set ?_ GE602.out) | exact HB.out))); rintro e w14 ⟨rfl, hb⟩; refine ⟨_, rfl, ?_⟩; have n0_ := Aside0.mk (blk_below (g := gb602) (o := .cells #[.string a0_0, .int .u64 a0_1, .int .u64 a0_2] 44 (0, 0)) (by (with_reducible repeat (first | refine blk_drewN ?_ _ | refine blk_drew ?_ | refine blk_alloc ?_ _)); exact BK602.out) hb); have n1_ := Aside0.mk (below_step (by repeat (first | (with_reducible first | exact HB.out | apply below_alloc | apply pw_below_drewN | apply below_drew1 | refine below_set ?_ GE602.out) | exact HB.out)) hb); clear BK602; clear HB; have BK602 := n0_; have HB := n1_; clear n0_ n1_; (try clear hb); (try clear hb2); (try clear hk); (try clear hi)))
    go_ret2
    exact ⟨by first | rfl | (simp [errW_none, errW_some] <;> rfl) | (simp [*, errW_none, errW_some] <;> rfl), by repeat (first | (with_reducible first | exact HB.out | apply below_alloc | apply pw_below_drewN | apply below_drew1 | refine below_set ?_ GE602.out) | exact HB.out)⟩
end Go.Proofs.YtpkjpiphjdpegaaDoor.P
namespace Go.Proofs.YtpkjpiphjdpegaaDoor.P
open Go.RowKit Go.Proofs.YtpkjpiphjdpegaaDoorW.PrintWords Go.Proofs.YtpkjpiphjdpegaaDoorW.PrintLast Go.Proofs.YtpkjpiphjdpegaaDoorW.PrintMore
set_option linter.unusedVariables false
set_option linter.unusedSimpArgs false
theorem asc_byte (l : List Int) (h : Dig l) : ∀ x ∈ asc l, isByte x := by
  intro x hx
  obtain ⟨d, hd, rfl⟩ := List.mem_map.1 hx
  have := h d hd
  exact ⟨by omega, by omega⟩
end Go.Proofs.YtpkjpiphjdpegaaDoor.P
namespace Go.Proofs.YtpkjpiphjdpegaaDoor.P
open Go.RowKit Go.Proofs.YtpkjpiphjdpegaaDoorW.PrintWords Go.Proofs.YtpkjpiphjdpegaaDoorW.PrintLast Go.Proofs.YtpkjpiphjdpegaaDoorW.PrintMore
set_option linter.unusedVariables false
set_option linter.unusedSimpArgs false
theorem mayId_f (s : ByteArray) (hs : s.size ≤ 1000000000) : tag_MayId.f s = some (mayId s) := if_pos hs
def rowText (id : ByteArray) (a b : Int) : ByteArray × Int := if mayId id = true then ((id ++ (⟨#[32]⟩ : ByteArray)) ++ strOfNums (asc (dec (val a b))), 0) else ((⟨#[]⟩ : ByteArray), 101)
theorem dec_size (a b : Int) (ha : U64 a) (hb : U64 b) : (strOfNums (asc (dec (val a b)))).size ≤ 39 := by
  have v := val_range a b ha hb
  have d := (dec_facts (val a b) v.1 v.2).2.2.2
  have e : (strOfNums (asc (dec (val a b)))).size = (dec (val a b)).length := by
    rw [← nb_length, str_nb _ (asc_byte _ (dec_facts (val a b) v.1 v.2).2.1)]
    exact List.length_map ..
  omega
theorem sp_size (id : ByteArray) : (id ++ (⟨#[32]⟩ : ByteArray)).size = id.size + 1 := by rw [ByteArray.size_append]; rfl
theorem text_is (id : ByteArray) (a b : Int) (hs : id.size ≤ 1000000000) (ha : U64 a) (hb : U64 b) : row_Text.f id a b = some (rowText id a b) := by
  have d := dec_size a b ha hb
  have e := sp_size id
  unfold row_Text.f rowText
  rw [mayId_f id hs, Option.bind_some]
  by_cases m : mayId id = true
  · rw [if_pos m, if_pos m, if_pos (by omega), text_num a b ha hb, Option.bind_some, if_pos (by omega)]
  · rw [if_neg m, if_neg m]
end Go.Proofs.YtpkjpiphjdpegaaDoor.P
namespace Go.Proofs.YtpkjpiphjdpegaaDoor.P
open Go.RowKit Go.Proofs.YtpkjpiphjdpegaaDoorW.PrintWords Go.Proofs.YtpkjpiphjdpegaaDoorW.PrintLast Go.Proofs.YtpkjpiphjdpegaaDoorW.PrintMore
set_option linter.unusedVariables false
set_option linter.unusedSimpArgs false
theorem nb_at (s : ByteArray) (p : Nat) (h : p < s.size) : (nb s).drop p = (nbAt s p : Int) :: (nb s).drop (p + 1) := by
  have hl : p < (nb s).length := by rw [nb_length]; exact h
  rw [List.drop_eq_getElem_cons hl]
  congr 1
  rw [← bt_nbAt s p h, bt_nb, List.getD_eq_getElem?_getD, List.getElem?_eq_getElem hl]
  rfl
theorem cont_is (s : ByteArray) (p : Nat) (h : contAt s p = true) : p < s.size ∧ nbAt s p / 64 = 2 := by
  unfold contAt at h
  simpa using h
theorem odd_false (c : Int) (h : ¬ (c < 0 ∨ c > 1114111 ∨ (c ≥ 55296 ∧ c < 57344))) : oddR c = false := by rw [odd_is, decide_eq_false h]
theorem valid_is' (c : Nat) (h : Utf8.valid (c : Int) = true) : c < 55296 ∨ (57344 ≤ c ∧ c ≤ 1114111) := by
  unfold Utf8.valid at h
  simp at h
  omega
def GoodStep (s : ByteArray) (p : Nat) (d : Nat × Nat) : Prop :=
  oddR (d.1 : Int) = false ∧ (nb s).drop p = enc (d.1 : Int) ++ (nb s).drop (p + d.2) ∧ (enc (d.1 : Int)).length = d.2
set_option maxRecDepth 10000 in
theorem dec_good (s : ByteArray) (p : Nat) (hp : p < s.size) (hb : ¬ badAt s p) : GoodStep s p (Utf8.decode s p) := by
  unfold badAt at hb
  have hlt := nbAt_lt s p
  have n1 := nbAt_lt s (p + 1); have n2 := nbAt_lt s (p + 2); have n3 := nbAt_lt s (p + 3)
  have d0 := nb_at s p hp
  rw [dec_is] at hb ⊢
  by_cases c1 : nbAt s p < 0x80
  · rw [if_pos c1]
    exact ⟨odd_false _ (by simp; omega), by rw [enc_1 _ c1, d0]; rfl, by rw [enc_1 _ c1]; rfl⟩
  · rw [if_neg c1] at hb ⊢
    by_cases c2 : (nbAt s p / 32 == 6 && contAt s (p + 1)) = true
    · rw [if_pos c2] at hb ⊢
      simp only [Bool.and_eq_true, beq_iff_eq] at c2
      obtain ⟨c2, q1⟩ := c2
      obtain ⟨l1, e1⟩ := cont_is s _ q1
      have d1 := nb_at s (p + 1) l1
      by_cases c3 : (nbAt s p % 32) * 64 + nbAt s (p + 1) % 64 ≥ 0x80
      · rw [if_pos c3]
        have e := enc_2 ((nbAt s p % 32) * 64 + nbAt s (p + 1) % 64) c3 (by omega)
        refine ⟨odd_false _ (by simp; omega), ?_, by rw [e]; rfl⟩
        rw [e, d0, d1]
        rw [show 192 + ((nbAt s p % 32) * 64 + nbAt s (p + 1) % 64) / 64 = nbAt s p by omega, show 128 + ((nbAt s p % 32) * 64 + nbAt s (p + 1) % 64) % 64 = nbAt s (p + 1) by omega]
        rfl
      · rw [if_neg c3] at hb
        exact absurd ⟨rfl, rfl⟩ hb
    · rw [if_neg c2] at hb ⊢
      by_cases c4 : (nbAt s p / 16 == 14 && contAt s (p + 1) && contAt s (p + 2)) = true
      · rw [if_pos c4] at hb ⊢
        simp only [Bool.and_eq_true, beq_iff_eq] at c4
        obtain ⟨⟨c4, q1⟩, q2⟩ := c4
        obtain ⟨l1, e1⟩ := cont_is s _ q1
        obtain ⟨l2, e2⟩ := cont_is s _ q2
        have d1 := nb_at s (p + 1) l1
        have d2 := nb_at s (p + 2) l2
        by_cases c5 : (decide ((nbAt s p % 16) * 4096 + (nbAt s (p + 1) % 64) * 64 + nbAt s (p + 2) % 64 ≥ 0x800) && Utf8.valid (((nbAt s p % 16) * 4096 + (nbAt s (p + 1) % 64) * 64 + nbAt s (p + 2) % 64 : Nat) : Int)) = true
        · rw [if_pos c5]
          simp only [Bool.and_eq_true, decide_eq_true_eq] at c5
          obtain ⟨c5, hv⟩ := c5
          have hv := valid_is' _ hv
          have e := enc_3 ((nbAt s p % 16) * 4096 + (nbAt s (p + 1) % 64) * 64 + nbAt s (p + 2) % 64) c5 (by omega) (by omega)
          refine ⟨odd_false _ (by simp; omega), ?_, by rw [e]; rfl⟩
          rw [e, d0, d1, d2]
          rw [show 224 + ((nbAt s p % 16) * 4096 + (nbAt s (p + 1) % 64) * 64 + nbAt s (p + 2) % 64) / 4096 = nbAt s p by omega, show 128 + ((nbAt s p % 16) * 4096 + (nbAt s (p + 1) % 64) * 64 + nbAt s (p + 2) % 64) / 64 % 64 = nbAt s (p + 1) by omega,
            show 128 + ((nbAt s p % 16) * 4096 + (nbAt s (p + 1) % 64) * 64 + nbAt s (p + 2) % 64) % 64 = nbAt s (p + 2) by omega]
          rfl
        · rw [if_neg c5] at hb
          exact absurd ⟨rfl, rfl⟩ hb
      · rw [if_neg c4] at hb ⊢
        by_cases c6 : (nbAt s p / 8 == 30 && contAt s (p + 1) && contAt s (p + 2) && contAt s (p + 3)) = true
        · rw [if_pos c6] at hb ⊢
          simp only [Bool.and_eq_true, beq_iff_eq] at c6
          obtain ⟨⟨⟨c6, q1⟩, q2⟩, q3⟩ := c6
          obtain ⟨l1, e1⟩ := cont_is s _ q1
          obtain ⟨l2, e2⟩ := cont_is s _ q2
          obtain ⟨l3, e3⟩ := cont_is s _ q3
          have d1 := nb_at s (p + 1) l1
          have d2 := nb_at s (p + 2) l2
          have d3 := nb_at s (p + 3) l3
          by_cases c7 : (decide ((nbAt s p % 8) * 262144 + (nbAt s (p + 1) % 64) * 4096 + (nbAt s (p + 2) % 64) * 64 + nbAt s (p + 3) % 64 ≥ 0x10000) && Utf8.valid (((nbAt s p % 8) * 262144 + (nbAt s (p + 1) % 64) * 4096 + (nbAt s (p + 2) % 64) * 64 + nbAt s (p + 3) % 64 : Nat) : Int)) = true
          · rw [if_pos c7]
            simp only [Bool.and_eq_true, decide_eq_true_eq] at c7
            obtain ⟨c7, hv⟩ := c7
            have hv := valid_is' _ hv
            have e := enc_4 ((nbAt s p % 8) * 262144 + (nbAt s (p + 1) % 64) * 4096 + (nbAt s (p + 2) % 64) * 64 + nbAt s (p + 3) % 64) c7 (by omega)
            refine ⟨odd_false _ (by simp; omega), ?_, by rw [e]; rfl⟩
            rw [e, d0, d1, d2, d3]
            rw [show 240 + ((nbAt s p % 8) * 262144 + (nbAt s (p + 1) % 64) * 4096 + (nbAt s (p + 2) % 64) * 64 + nbAt s (p + 3) % 64) / 262144 = nbAt s p by omega, show 128 + ((nbAt s p % 8) * 262144 + (nbAt s (p + 1) % 64) * 4096 + (nbAt s (p + 2) % 64) * 64 + nbAt s (p + 3) % 64) / 4096 % 64 = nbAt s (p + 1) by omega,
              show 128 + ((nbAt s p % 8) * 262144 + (nbAt s (p + 1) % 64) * 4096 + (nbAt s (p + 2) % 64) * 64 + nbAt s (p + 3) % 64) / 64 % 64 = nbAt s (p + 2) by omega, show 128 + ((nbAt s p % 8) * 262144 + (nbAt s (p + 1) % 64) * 4096 + (nbAt s (p + 2) % 64) * 64 + nbAt s (p + 3) % 64) % 64 = nbAt s (p + 3) by omega]
            rfl
          · rw [if_neg c7] at hb
            exact absurd ⟨rfl, rfl⟩ hb
        · rw [if_neg c6] at hb
          exact absurd ⟨rfl, rfl⟩ hb
theorem runes_enc (s : ByteArray) : ∀ (n p : Nat), s.size ≤ p + n → Lib.validD (s.data.toList.drop p) = true → (runesAt s n p).any oddR = false ∧ (runesAt s n p).flatMap enc = (nb s).drop p ∧ (runesAt s n p).length ≤ s.size - p ∧ s.size - p ≤ 4 * (runesAt s n p).length := by
  intro n
  induction n with
  | zero =>
    intro p h hv
    have : (nb s).drop p = [] := List.drop_eq_nil_of_le (by rw [nb_length]; omega)
    rw [this]
    exact ⟨rfl, rfl, by simp [runesAt], by simp [runesAt]; omega⟩
  | succ n ih =>
    intro p h hv
    by_cases hp : p < s.size
    · rw [valid_at s p hp] at hv
      by_cases hb : badAt s p
      · rw [if_pos hb] at hv; cases hv
      · rw [if_neg hb] at hv
        obtain ⟨g1, g2, g3⟩ := dec_good s p hp hb
        have w1 := wide_pos s p hp
        have w4 := wide_4 s p
        obtain ⟨i1, i2, i3, i4⟩ := ih (p + (Utf8.decode s p).2) (by omega) hv
        have hsz : p + (Utf8.decode s p).2 ≤ s.size := by
          have := congrArg List.length g2
          rw [List.length_drop, List.length_append, List.length_drop, nb_length, g3] at this
          omega
        rw [runesAt, if_pos hp]
        refine ⟨by rw [List.any_cons, g1, i1]; rfl, by rw [List.flatMap_cons, i2, ← g2], by simp; omega, by simp; omega⟩
    · have : (nb s).drop p = [] := List.drop_eq_nil_of_le (by rw [nb_length]; omega)
      rw [this, runesAt_end s _ p hp]
      exact ⟨rfl, rfl, by simp, by simp; omega⟩
theorem enc_bytes (c : Int) : ∀ x ∈ enc c, isByte x := nb_bytes _
theorem nbAt_str (L : List Int) (h : ∀ x ∈ L, isByte x) (p : Nat) (hp : p < L.length) : p < (strOfNums L).size ∧ (nbAt (strOfNums L) p : Int) = L.getD p 0 := by
  have hs : (strOfNums L).size = L.length := by rw [← nb_length, str_nb L h]
  refine ⟨by omega, ?_⟩
  rw [← bt_nbAt _ p (by omega), bt_nb, str_nb L h]
theorem at_enc (a b : List Int) (c : Int) (ha : ∀ x ∈ a, isByte x) (hb : ∀ x ∈ b, isByte x) (i : Nat) (x : Int) (hi : (enc c)[i]? = some x) :
    a.length + i < (strOfNums (a ++ (enc c ++ b))).size ∧ (nbAt (strOfNums (a ++ (enc c ++ b))) (a.length + i) : Int) = x := by
  have hl : i < (enc c).length := (List.getElem?_eq_some_iff.1 hi).1
  obtain ⟨h1, h2⟩ := nbAt_str (a ++ (enc c ++ b)) (fun y hy => by
    rcases List.mem_append.1 hy with h | h
    · exact ha y h
    · rcases List.mem_append.1 h with h | h
      · exact enc_bytes c y h
      · exact hb y h) (a.length + i) (by rw [List.length_append, List.length_append]; omega)
  refine ⟨h1, ?_⟩
  rw [h2, List.getD_eq_getElem?_getD, List.getElem?_append_right (by omega), Nat.add_sub_cancel_left, List.getElem?_append_left hl, hi]
  rfl
theorem cont_mk (s : ByteArray) (p : Nat) (h : p < s.size) (h' : nbAt s p / 64 = 2) : contAt s p = true := by
  unfold contAt
  simp [h, h']
set_option maxRecDepth 10000 in
theorem dec_enc (a b : List Int) (c : Nat) (ha : ∀ x ∈ a, isByte x) (hb : ∀ x ∈ b, isByte x) (ho : oddR (c : Int) = false) :
    Utf8.decode (strOfNums (a ++ (enc (c : Int) ++ b))) a.length = (c, (enc (c : Int)).length) ∧ (1 < c ∨ True) := by
  refine ⟨?_, .inr trivial⟩
  have hv : ¬ ((c : Int) < 0 ∨ (c : Int) > 1114111 ∨ ((c : Int) ≥ 55296 ∧ (c : Int) < 57344)) := by
    rw [odd_is] at ho; simpa using ho
  have key := at_enc a b (c : Int) ha hb
  obtain ⟨s, hs⟩ : ∃ s, strOfNums (a ++ (enc (c : Int) ++ b)) = s := ⟨_, rfl⟩
  rw [hs] at key ⊢
  clear hs
  rw [dec_is]
  by_cases c1 : c < 128
  · rw [enc_1 c c1] at key ⊢
    obtain ⟨l0, k0⟩ := key 0 _ rfl
    rw [Nat.add_zero] at k0
    rw [if_pos (by omega)]
    exact Prod.ext (show nbAt s a.length = c by omega) rfl
  · by_cases c2 : c < 2048
    · rw [enc_2 c (by omega) c2] at key ⊢
      obtain ⟨l0, k0⟩ := key 0 _ rfl
      obtain ⟨l1, k1⟩ := key 1 _ rfl
      rw [Nat.add_zero] at k0
      have q1 := cont_mk s _ l1 (by omega)
      rw [if_neg (by omega), if_pos (by rw [q1]; simp; omega), if_pos (by omega)]
      exact Prod.ext (show nbAt s a.length % 32 * 64 + nbAt s (a.length + 1) % 64 = c by omega) rfl
    · by_cases c3 : c < 65536
      · rw [enc_3 c (by omega) c3 (by omega)] at key ⊢
        obtain ⟨l0, k0⟩ := key 0 _ rfl
        obtain ⟨l1, k1⟩ := key 1 _ rfl
        obtain ⟨l2, k2⟩ := key 2 _ rfl
        rw [Nat.add_zero] at k0
        have q1 := cont_mk s _ l1 (by omega)
        have q2 := cont_mk s _ l2 (by omega)
        have ev : nbAt s a.length % 16 * 4096 + nbAt s (a.length + 1) % 64 * 64 + nbAt s (a.length + 2) % 64 = c := by omega
        rw [if_neg (by omega), if_neg (by simp; omega), if_pos (by rw [q1, q2]; simp; omega), ev, if_pos (by unfold Utf8.valid; simp; omega)]
        rfl
      · rw [enc_4 c (by omega) (by omega)] at key ⊢
        obtain ⟨l0, k0⟩ := key 0 _ rfl
        obtain ⟨l1, k1⟩ := key 1 _ rfl
        obtain ⟨l2, k2⟩ := key 2 _ rfl
        obtain ⟨l3, k3⟩ := key 3 _ rfl
        rw [Nat.add_zero] at k0
        have q1 := cont_mk s _ l1 (by omega)
        have q2 := cont_mk s _ l2 (by omega)
        have q3 := cont_mk s _ l3 (by omega)
        have ev : nbAt s a.length % 8 * 262144 + nbAt s (a.length + 1) % 64 * 4096 + nbAt s (a.length + 2) % 64 * 64 + nbAt s (a.length + 3) % 64 = c := by omega
        rw [if_neg (by omega), if_neg (by simp; omega), if_neg (by simp; omega), if_pos (by rw [q1, q2, q3]; simp; omega), ev, if_pos (by unfold Utf8.valid; simp; omega)]
        rfl
theorem enc_ne (c : Nat) (ho : oddR (c : Int) = false) : (enc (c : Int)).length ≥ 1 ∧ ((enc (c : Int)).length = 1 → c < 128) := by
  have hv : ¬ ((c : Int) < 0 ∨ (c : Int) > 1114111 ∨ ((c : Int) ≥ 55296 ∧ (c : Int) < 57344)) := by
    rw [odd_is] at ho; simpa using ho
  by_cases c1 : c < 128
  · rw [enc_1 c c1]; exact ⟨by simp, fun _ => c1⟩
  · by_cases c2 : c < 2048
    · rw [enc_2 c (by omega) c2]; exact ⟨by simp, fun h => by simp at h⟩
    · by_cases c3 : c < 65536
      · rw [enc_3 c (by omega) c3 (by omega)]; exact ⟨by simp, fun h => by simp at h⟩
      · rw [enc_4 c (by omega) (by omega)]; exact ⟨by simp, fun h => by simp at h⟩
set_option maxRecDepth 10000 in
theorem enc_runes : ∀ (l : List Int) (a : List Int) (n : Nat), (∀ x ∈ a, isByte x) → l.any oddR = false → (l.flatMap enc).length ≤ n →
    runesAt (strOfNums (a ++ l.flatMap enc)) n a.length = l ∧ Lib.validD ((strOfNums (a ++ l.flatMap enc)).data.toList.drop a.length) = true := by
  intro l
  induction l with
  | nil =>
    intro a n ha _ _
    have hs : ¬ a.length < (strOfNums (a ++ ([] : List Int).flatMap enc)).size := by
      rw [← nb_length, str_nb _ (by simpa using ha)]; simp
    exact ⟨runesAt_end _ _ _ hs, valid_end _ _ hs⟩
  | cons c l ih =>
    intro a n ha ho hn
    rw [List.any_cons, Bool.or_eq_false_iff] at ho
    obtain ⟨ho, hl⟩ := ho
    have hv : ¬ (c < 0 ∨ c > 1114111 ∨ (c ≥ 55296 ∧ c < 57344)) := by
      rw [odd_is] at ho; simpa using ho
    obtain ⟨z, rfl⟩ : ∃ z : Nat, c = (z : Int) := ⟨c.toNat, by omega⟩
    have hb : ∀ x ∈ l.flatMap enc, isByte x := fun x hx => by
      obtain ⟨y, _, hy⟩ := List.mem_flatMap.1 hx
      exact enc_bytes y x hy
    obtain ⟨d, _⟩ := dec_enc a (l.flatMap enc) z ha hb ho
    obtain ⟨e1, e2⟩ := enc_ne z ho
    rw [List.flatMap_cons] at hn ⊢
    rw [List.length_append] at hn
    obtain ⟨m, rfl⟩ : ∃ m, n = m + 1 := ⟨n - 1, by omega⟩
    have hall : ∀ x ∈ a ++ (enc (z : Int) ++ l.flatMap enc), isByte x := fun x hx => by
      rcases List.mem_append.1 hx with h | h
      · exact ha x h
      · rcases List.mem_append.1 h with h | h
        · exact enc_bytes _ x h
        · exact hb x h
    have hp : a.length < (strOfNums (a ++ (enc (z : Int) ++ l.flatMap enc))).size := by
      rw [← nb_length, str_nb _ hall, List.length_append, List.length_append]; omega
    have hnb : ¬ badAt (strOfNums (a ++ (enc (z : Int) ++ l.flatMap enc))) a.length := by
      unfold badAt
      rw [d]
      rintro ⟨h1, h2⟩
      simp only at h1 h2
      have := e2 h2
      omega
    have I := ih (a ++ enc (z : Int)) m (fun x hx => by
      rcases List.mem_append.1 hx with h | h
      · exact ha x h
      · exact enc_bytes _ x h) hl (by omega)
    rw [List.append_assoc, List.length_append] at I
    have V : Lib.validD ((strOfNums (a ++ (enc (z : Int) ++ l.flatMap enc))).data.toList.drop a.length) = Lib.validD ((strOfNums (a ++ (enc (z : Int) ++ l.flatMap enc))).data.toList.drop (a.length + (enc (z : Int)).length)) := by
      have V := valid_at _ _ hp
      rw [if_neg hnb, d] at V
      dsimp only at V
      exact V
    have R : runesAt (strOfNums (a ++ (enc (z : Int) ++ l.flatMap enc))) (m + 1) a.length = (z : Int) :: runesAt (strOfNums (a ++ (enc (z : Int) ++ l.flatMap enc))) m (a.length + (enc (z : Int)).length) := by rw [runesAt, if_pos hp, d]
    rw [V, R]
    exact ⟨congrArg (fun q => (z : Int) :: q) I.1, I.2⟩
end Go.Proofs.YtpkjpiphjdpegaaDoor.P
namespace Go.Proofs.YtpkjpiphjdpegaaDoor.P
open Go.RowKit Go.Proofs.YtpkjpiphjdpegaaDoorW.PrintWords Go.Proofs.YtpkjpiphjdpegaaDoorW.PrintLast Go.Proofs.YtpkjpiphjdpegaaDoorW.PrintMore
set_option linter.unusedVariables false
set_option linter.unusedSimpArgs false
theorem enc_high (c : Int) (h : 45 ≤ c) (ho : oddR c = false) : ∀ x ∈ enc c, 45 ≤ x := by
  obtain ⟨n, rfl⟩ : ∃ n : Nat, c = (n : Int) := ⟨c.toNat, by omega⟩
  have hv : ¬ ((n : Int) < 0 ∨ (n : Int) > 1114111 ∨ ((n : Int) ≥ 55296 ∧ (n : Int) < 57344)) := by
    rw [odd_is] at ho; simpa using ho
  intro x hx
  by_cases c1 : n < 128
  · rw [enc_1 n c1] at hx
    simp at hx; omega
  · by_cases c2 : n < 2048
    · rw [enc_2 n (by omega) c2] at hx
      simp at hx; omega
    · by_cases c3 : n < 65536
      · rw [enc_3 n (by omega) c3 (by omega)] at hx
        simp at hx; omega
      · rw [enc_4 n (by omega) (by omega)] at hx
        simp at hx; omega
theorem nb_mem (s : ByteArray) (b : UInt8) (h : b ∈ s.data.toList) : (b.toNat : Int) ∈ nb s := List.mem_map.2 ⟨b, h, rfl⟩
theorem mayId_facts (id : ByteArray) (m : mayId id = true) : ∃ L : List Int, L.any oddR = false ∧ L.flatMap enc = nb id ∧ (∀ c ∈ L, 45 ≤ c) ∧ 1 ≤ L.length ∧ L.length ≤ 24 := by
  unfold mayId at m
  rw [Bool.and_eq_true, Bool.and_eq_true, decide_eq_true_eq, List.all_eq_true] at m
  obtain ⟨⟨v, a⟩, l⟩ := m
  obtain ⟨h1, h2, h3, h4⟩ := runes_enc id id.size 0 (by omega) v
  refine ⟨runesAt id id.size 0, h1, h2, fun c hc => ?_, l.1, l.2⟩
  have := a c hc
  unfold withinR at this
  rw [decide_eq_true_eq] at this
  omega
theorem mayId_high (id : ByteArray) (m : mayId id = true) : ∀ b ∈ id.data.toList, 45 ≤ b.toNat := by
  obtain ⟨L, h1, h2, h3, h4, h5⟩ := mayId_facts id m
  intro b hb
  have := nb_mem id b hb
  rw [← h2, List.mem_flatMap] at this
  obtain ⟨c, hc, hx⟩ := this
  have ho : oddR c = false := by
    have := List.any_eq_false.1 h1 c hc
    simpa using this
  have := enc_high c (h3 c hc) ho _ hx
  omega
theorem mayId_one (id : ByteArray) (m : mayId id = true) : 1 ≤ id.data.toList.length ∧ id.size ≤ 96 := by
  obtain ⟨L, h1, h2, h3, h4, h5⟩ := mayId_facts id m
  have hl := nb_length id
  have e : id.data.toList.length = id.size := Array.length_toList
  have f4 : ∀ L : List Int, (L.flatMap enc).length ≤ 4 * L.length := by
    intro L
    induction L with
    | nil => simp
    | cons c L ih =>
      have := enc_len c
      rw [List.flatMap_cons, List.length_append, List.length_cons]; omega
  have f1 : ∀ L : List Int, L.any oddR = false → (∀ c ∈ L, 45 ≤ c) → L.length ≤ (L.flatMap enc).length := by
    intro L
    induction L with
    | nil => simp
    | cons c L ih =>
      intro ho hc
      rw [List.any_cons, Bool.or_eq_false_iff] at ho
      have h45 := hc c (List.mem_cons_self ..)
      have := ih ho.2 fun x hx => hc x (List.mem_cons_of_mem _ hx)
      have n1 := (enc_ne c.toNat (by rw [show ((c.toNat : Nat) : Int) = c by omega]; exact ho.1)).1
      rw [show ((c.toNat : Nat) : Int) = c by omega] at n1
      rw [List.flatMap_cons, List.length_append, List.length_cons]; omega
  have a := f4 L
  have b := f1 L h1 h3
  rw [h2, hl] at a b
  omega
def digs (a b : Int) : List Int := asc (dec (val a b))
theorem digs_is (a b : Int) (ha : U64 a) (hb : U64 b) : (∀ x ∈ digs a b, 48 ≤ x ∧ x ≤ 57) ∧ (digs a b).length ≤ 39 ∧ 1 ≤ (digs a b).length := by
  have v := val_range a b ha hb
  obtain ⟨d1, d2, d3, d4⟩ := dec_facts (val a b) v.1 v.2
  refine ⟨fun x hx => ?_, ?_, ?_⟩
  · obtain ⟨d, hd, rfl⟩ := List.mem_map.1 hx
    have := d2 d hd
    omega
  · unfold digs asc; rw [List.length_map]; exact d4
  · unfold digs asc; rw [List.length_map]; exact d3
def lineB (id : ByteArray) (a b : Int) : ByteArray := (id ++ (⟨#[32]⟩ : ByteArray)) ++ strOfNums (asc (dec (val a b)))
theorem digs_byte (a b : Int) (ha : U64 a) (hb : U64 b) : ∀ x ∈ asc (dec (val a b)), isByte x := by
  have v := val_range a b ha hb
  exact asc_byte _ (dec_facts (val a b) v.1 v.2).2.1
theorem nb_line (id : ByteArray) (a b : Int) (ha : U64 a) (hb : U64 b) : nb (lineB id a b) = nb id ++ 32 :: digs a b := by
  unfold lineB
  rw [nb_append, nb_append, str_nb _ (digs_byte a b ha hb), List.append_assoc]
  rfl
theorem line_list (id : ByteArray) (a b : Int) : (lineB id a b).data.toList = id.data.toList ++ 32 :: (strOfNums (digs a b)).data.toList := by
  unfold lineB digs
  rw [ByteArray.data_append, ByteArray.data_append, Array.toList_append, Array.toList_append, List.append_assoc]
  rfl
theorem line_size (id : ByteArray) (a b : Int) (m : mayId id = true) (ha : U64 a) (hb : U64 b) : (lineB id a b).size ≤ 136 := by
  have h := nb_line id a b ha hb
  have l := congrArg List.length h
  obtain ⟨d1, d2, d3⟩ := digs_is a b ha hb
  have := (mayId_one id m).2
  rw [List.length_append, List.length_cons, nb_length, nb_length] at l
  omega
theorem dig_bytes (a b : Int) (ha : U64 a) (hb : U64 b) : ∀ x ∈ (strOfNums (digs a b)).data.toList, 48 ≤ x.toNat ∧ x.toNat ≤ 57 := by
  intro x hx
  have := nb_mem _ x hx
  rw [digs, str_nb _ (digs_byte a b ha hb)] at this
  have := (digs_is a b ha hb).1 _ this
  omega
theorem line_bytes (id : ByteArray) (a b : Int) (m : mayId id = true) (ha : U64 a) (hb : U64 b) : ∀ x ∈ (lineB id a b).data.toList, x ≠ 10 := by
  intro x hx e
  subst e
  rw [line_list] at hx
  rcases List.mem_append.1 hx with h | h
  · have := mayId_high id m _ h
    exact absurd this (by decide)
  · rcases List.mem_cons.1 h with h | h
    · exact absurd h (by decide)
    · have := (dig_bytes a b ha hb _ h).1
      exact absurd this (by decide)
end Go.Proofs.YtpkjpiphjdpegaaDoor.P
namespace Go.Proofs.YtpkjpiphjdpegaaDoor.P
open Go.RowKit Go.Proofs.YtpkjpiphjdpegaaDoorW.PrintWords Go.Proofs.YtpkjpiphjdpegaaDoorW.PrintLast Go.Proofs.YtpkjpiphjdpegaaDoorW.PrintMore
set_option linter.unusedVariables false
set_option linter.unusedSimpArgs false
theorem brk_clean (h : List UInt8) : brk (mk h) = false ↔ ∀ b ∈ h, b ≠ 10 := by
  unfold brk
  rw [mk_list, ← Lib.contains_iff_indexByte]
  simp only [← Bool.not_eq_true, List.contains_iff_mem]
  exact ⟨fun q b hb e => q (e ▸ hb), fun q e => q 10 e rfl⟩
theorem joinB_cons (h : List UInt8) (r : List (List UInt8)) : Lib.join (h :: r) [10] = h ++ Lib.joinTail [10] r := Lib.join_cons ..
theorem tail_cons (y : List UInt8) (r : List (List UInt8)) : Lib.joinTail [10] (y :: r) = 10 :: (y ++ Lib.joinTail [10] r) := rfl
theorem split_count : ∀ l : List UInt8, (splitB l).length = l.count 10 + 1
  | [] => rfl
  | x :: l => by
    have ih := split_count l
    rw [splitB, List.count_cons]
    by_cases c : x = 10
    · rw [if_pos c, List.length_cons, ih, c]; simp
    · rw [if_neg c, if_neg (by simpa using c)]
      cases q : splitB l with
      | nil => exact absurd q (splitB_ne l)
      | cons y r =>
        rw [q] at ih
        simpa using ih
theorem join_f (l : List ByteArray) (h1 : l.length ≤ 1000000) (h2 : (Lib.join (l.map (·.data.toList)) [10]).length ≤ 1000000000) : lines_Join.f l = some (if l.any brk = true then ((⟨#[]⟩ : ByteArray), 2) else (joinL l, 0)) := if_pos ⟨h1, h2⟩
end Go.Proofs.YtpkjpiphjdpegaaDoor.P
namespace Go.Proofs.YtpkjpiphjdpegaaDoor.P
open Go.RowKit Go.Proofs.YtpkjpiphjdpegaaDoorW.PrintWords Go.Proofs.YtpkjpiphjdpegaaDoorW.PrintLast Go.Proofs.YtpkjpiphjdpegaaDoorW.PrintMore
attribute [local go_sem] max2_int min2_int max_two min_two max_three min_three max_four min_four
set_option linter.unusedVariables false
set_option linter.unusedSimpArgs false
attribute [local go_sem high] eqA44
mutual
def row_Write.j0 : Nat → List (S44) → ByteArray → List ByteArray → Option (ByteArray × Int)
  | 0, _, _, _ => none
  | k + 1, x0, x1, x6 => row_Write.l0 k x1 x6 x0 (x0.length : Int) 0
def row_Write.l0 : Nat → ByteArray → List ByteArray → List (S44) → Int → Int → Option (ByteArray × Int)
  | 0, _, _, _, _, _ => none
  | k + 1, x1, x6, x21, x22, x23 => if x23 < x22 then (if 0 ≤ x23 then (if x23 < (x21.length : Int) then ((row_Text.f ((rd_T44 x21 x23).f0) ((rd_T44 x21 x23).f1.f0) ((rd_T44 x21 x23).f1.f1)).bind fun bt683 => (if bt683.2 = 0 then (if x6.length < 8796093022208 then (row_Write.l0 k x1 (x6 ++ [bt683.1]) x21 x22 (wrap64 (x23 + 1))) else (none)) else (some ((⟨#[]⟩ : ByteArray), bt683.2)))) else (none)) else (none)) else (if 2 + x1.size ≤ 9223372036854775807 then ((lines_All.f ((⟨#[35, 32]⟩ : ByteArray) ++ x1)).bind fun t688 => (if (t688.length : Int) > 1 then (some ((⟨#[]⟩ : ByteArray), 91)) else (if 0 < (t688.length : Int) then (if ((rd_T56 t688 0).f3) = 0 then (if x6.length < 8796093022208 then ((lines_Join.f (x6 ++ [(⟨#[]⟩ : ByteArray)])).bind fun bt695 => (some (bt695.1, 0))) else (none)) else (some ((⟨#[]⟩ : ByteArray), 91))) else (none)))) else (none))
end
def row_Write.f (k : Nat) (l0 : List (S44)) (a1 : ByteArray) : Option (ByteArray × Int) := if a1.toList = ([] : List UInt8) then (row_Write.j0 k l0 a1 ([] : List ByteArray)) else (if 2 + a1.size ≤ 9223372036854775807 then (if ([] : List ByteArray).length < 8796093022208 then (row_Write.j0 k l0 a1 (([] : List ByteArray) ++ [(⟨#[35, 32]⟩ : ByteArray) ++ a1])) else (none)) else (none))
set_option maxHeartbeats 8000000 in
set_option maxRecDepth 100000 in
theorem row_Write.calls (k : Nat) (A0 : Option Addr) (c0 : Nat) (l0 : List (S44)) (a1 : ByteArray) (r1 : ByteArray) (r2 : Int) (w : World) (hr0 : Kd.C k44 w A0 l0.length l0) (hc0 : l0.length ≤ c0) (hG : GT w) (h : row_Write.f k l0 a1 = some (r1, r2)) :
    Calls Tryd.prog 52 #[.slice A0 l0.length c0, .string a1] w fun e w' => e = .returned (.tuple #[.string r1, .int .i64 r2]) ∧ Below w.heap.size w w' := by
  have hu44 := Tryd.underlying44
  have HR0 := Aside0.mk hr0
  have HC0 := Aside0.mk hc0
  clear hr0 hc0
  have HB := Aside0.mk (Below.refl w.heap.size w)
  have H : (if a1.toList = ([] : List UInt8) then (row_Write.j0 k l0 a1 ([] : List ByteArray)) else (if 2 + a1.size ≤ 9223372036854775807 then (if ([] : List ByteArray).length < 8796093022208 then (row_Write.j0 k l0 a1 (([] : List ByteArray) ++ [(⟨#[35, 32]⟩ : ByteArray) ++ a1])) else (none)) else (none))) = some (r1, r2) := h
  clear h
  have HC3 := Aside0.mk H
  clear H
  go_enter Tryd.func52, Tryd.ntmps52
  go_upto_if 15 with (fail)
  go_cut [6] (fun v6 wc => ∃ (kq : Nat) (x6_2 : List ByteArray), Aside0 (row_Write.j0 kq l0 a1 x6_2 = some (r1, r2)) ∧ Aside0 (kq ≤ k) ∧ Aside0 (Kd.R Kd.string 9 wc w.heap.size (fun _ => True) v6 x6_2) ∧ Aside0 (Below w.heap.size w wc))
  case first =>
    have H := HC3.out
    clear HC3
    by_cases c4 : a1.toList = ([] : List UInt8)
    · rw [if_pos c4] at H
      have c4b0 : (a1.toList == ([] : List UInt8)) = true := beq_iff_eq.mpr c4
      try have c4b9 : (a1.toList.isEmpty) = true := by have e_ := c4b0; simp only [show ∀ l_ : List UInt8, (l_ == []) = l_.isEmpty from fun l_ => by cases l_ <;> rfl] at e_; exact e_
      have c4b1 : (a1.toList != ([] : List UInt8)) = false := bne_eq_false_iff_eq.mpr c4
      clear c4
      (first | rw [c4b0] | rw [c4b9] | (simp only [i64_w, i32_w]; rw [c4b0]) | skip)
      have H' := Aside0.mk H
      clear H
      go_wp2
      go_meet
      case rel => exact ⟨_, (([] : List ByteArray)), H', ⟨by first | omega | exact Nat.le_refl _⟩, ⟨by first | exact Kd.R_nil _ _ _ _ _ | exact Kd.N_nil _ _ _ _ _ | exact Kd.V_nil _ _ _ _ _ | exact Kd.Q_nil _ _ _ _ _ | exact Kd.S_nil _ _ _ _ _⟩, ⟨by repeat (first | (with_reducible first | exact HB.out | apply below_alloc | apply pw_below_drewN | apply below_drew1) | exact HB.out)⟩⟩
    · rw [if_neg c4] at H
      have c4b0 : (a1.toList == ([] : List UInt8)) = false := beq_eq_false_iff_ne.mpr c4
      try have c4b9 : (a1.toList.isEmpty) = false := by have e_ := c4b0; simp only [show ∀ l_ : List UInt8, (l_ == []) = l_.isEmpty from fun l_ => by cases l_ <;> rfl] at e_; exact e_
      have c4b1 : (a1.toList != ([] : List UInt8)) = true := bne_iff_ne.mpr c4
      (first | rw [c4b0] | rw [c4b9] | (simp only [i64_w, i32_w]; rw [c4b0]) | skip)
      by_cases c5 : 2 + a1.size ≤ 9223372036854775807
      · rw [if_pos c5] at H
        have c5b0 := eq_true c5
        have c5b1 : decide (2 + a1.size ≤ 9223372036854775807) = true := decide_eq_true c5
        try have c5b2 : (9223372036854775807 < 2 + a1.size) = False := eq_false (Nat.not_lt.2 c5)
        by_cases c6 : ([] : List ByteArray).length < 8796093022208
        · rw [if_pos c6] at H
          have LMc6 := Aside0.mk c6
          clear c6
          obtain ⟨y678, hy678⟩ : ∃ y_ : List ByteArray, y_ = (([] : List ByteArray) ++ [(⟨#[35, 32]⟩ : ByteArray) ++ a1]) := ⟨_, rfl⟩
          replace H : (row_Write.j0 k l0 a1 y678) = some (r1, r2) := by first | (rw [hy678]; with_reducible exact H) | (have H2_ := (Option.bind_some _ _).symm.trans H; rw [hy678]; with_reducible exact H2_) | (have H2_ := (Option.bind_some _ _).symm.trans H; with_reducible exact H2_) | with_reducible exact H | (rw [hy678]; exact H) | exact H
          have Ny678 := Aside0.mk hy678
          clear hy678
          have H' := Aside0.mk H
          clear H
          go_wp2_with (first | ((with_reducible refine gate_builtin (b := .append) (xs := #[.tmp 16, .tmp 19]) rfl ?_); at_builtin; refine Kd.R_append Kd.string (w0 := w) w.heap.size rfl (.tmp 16) (.tmp 19) 51 9 (.string ⟨#[]⟩) 16 rfl Tryd.underlying51 info9 rfl (by decide) (by omega) (.slice none 0 0) ([] : List ByteArray) ((⟨#[35, 32]⟩ : ByteArray) ++ a1) [.string ((⟨#[35, 32]⟩ : ByteArray) ++ a1)] (fun _ => True) (fun _ => False) rfl rfl ?aP (fun _ hk => hk.elim) ?aF ?aO ?aB ?aS ?aL ?_; (case aP => exact rfl); (case aB => exact (by repeat (first | (with_reducible first | exact HB.out | apply below_alloc | apply pw_below_drewN | apply below_drew1) | exact HB.out))); (case aF => exact (fun _ _ => trivial)); (case aO => exact ((Kd.R_nil _ _ _ _ (fun _ => True)))); (case aS => exact (below_size (by repeat (first | (with_reducible first | exact HB.out | apply below_alloc | apply pw_below_drewN | apply below_drew1) | exact HB.out)))); (case aL => have := LMc6.out; omega); intro v679 w7 ho hb hg hat; rw [← Ny678.out] at ho; have n0_ := Aside0.mk (hb); have n1_ := Aside0.mk (ho); clear HB; have HB := n0_; have HO680 := n1_; clear n0_ n1_; clear ho hb hg hat))
          go_meet
          case rel => exact ⟨_, (y678), H', ⟨by first | omega | exact Nat.le_refl _⟩, ⟨by (with_reducible repeat (first | apply Kd.R_alloc | apply Kd.R_drewN | apply Kd.R_drew)); exact HO680.out⟩, ⟨by repeat (first | (with_reducible first | exact HB.out | apply below_alloc | apply pw_below_drewN | apply below_drew1) | exact HB.out)⟩⟩
        · rw [if_neg c6] at H
          exact absurd H (by simp)
      · rw [if_neg c5] at H
        exact absurd H (by simp)
  case rest =>
    clear HC3
    try clear p2
    try clear c4
    try clear c4b0
    try clear c4b1
    try clear c5
    try clear c5b0
    try clear c5b1
    try clear c5b2
    try clear c6
    obtain ⟨kq, x6_2, HA, HJ2, HO_6, HB⟩ := hcut
    cases kq with
    | zero => exact absurd HA.out (by simp [row_Write.j0])
    | succ kj2 =>
      have H := HA.out
      clear HA
      simp only [row_Write.j0] at H
      have H' := Aside0.mk H
      clear H
      go_wp2
      go_loopg [6, 23] kj2 (fun kq v6 v23 w' => ∃ (x6_2 : List ByteArray) (x23_2 : Int), v23 = .int .i64 x23_2 ∧ Aside0 (row_Write.l0 kq a1 x6_2 l0 (l0.length : Int) x23_2 = some (r1, r2)) ∧ Aside0 (kq ≤ kj2) ∧ Aside0 (Kd.R Kd.string 9 w' w.heap.size (fun _ => True) v6 x6_2) ∧ Aside0 (Below w.heap.size w w'))
      case atStart => exact ⟨(x6_2), (0), (by first | rfl | (simp; done) | (simp [*]; done)), H', ⟨Nat.le_refl _⟩, ⟨by (with_reducible repeat (first | apply Kd.R_alloc | apply Kd.R_drewN | apply Kd.R_drew)); exact HO_6.out⟩, ⟨by repeat (first | (with_reducible first | exact HB.out | apply below_alloc | apply pw_below_drewN | apply below_drew1) | exact HB.out)⟩⟩
      case round =>
        clear H'
        try clear p2
        try clear c4
        try clear c4b0
        try clear c4b1
        try clear c5
        try clear c5b0
        try clear c5b1
        try clear c5b2
        try clear c6
        try clear p2
        obtain ⟨x6_2, x23_2, rfl, HA, HK2, HO_6, HB⟩ := hrel
        cases gk with
        | zero => exact absurd HA.out (by simp [row_Write.l0])
        | succ k2 =>
          have H := HA.out
          clear HA
          simp only [row_Write.l0] at H
          by_cases c8 : x23_2 < (l0.length : Int)
          · rw [if_pos c8] at H
            have c8b0 : decide (x23_2 < (l0.length : Int)) = true := decide_eq_true c8
            clear c8
            by_cases c9 : 0 ≤ x23_2
            · rw [if_pos c9] at H
              have c9b0 : decide (0 ≤ x23_2) = true := decide_eq_true c9
              clear c9
              by_cases c10 : x23_2 < (l0.length : Int)
              · rw [if_pos c10] at H
                have c10b0 : decide (x23_2 < (l0.length : Int)) = true := decide_eq_true c10
                clear c10
                replace H := Option.bind_eq_some_iff.mp H
                obtain ⟨⟨t683, t684⟩, A110, H⟩ := H
                replace H : (if t684 = 0 then (if x6_2.length < 8796093022208 then (row_Write.l0 k2 a1 (x6_2 ++ [t683]) l0 (l0.length : Int) (wrap64 (x23_2 + 1))) else (none)) else (some ((⟨#[]⟩ : ByteArray), t684))) = some (r1, r2) := H
                have A11 := Aside0.mk A110
                clear A110
                by_cases c12 : t684 = 0
                · rw [if_pos c12] at H
                  have c12b0 : (t684 == 0) = true := beq_iff_eq.mpr c12
                  have c12b1 : (t684 != 0) = false := bne_eq_false_iff_eq.mpr c12
                  clear c12
                  by_cases c13 : x6_2.length < 8796093022208
                  · rw [if_pos c13] at H
                    have LMc13 := Aside0.mk c13
                    clear c13
                    obtain ⟨y685, hy685⟩ : ∃ y_ : List ByteArray, y_ = (x6_2 ++ [t683]) := ⟨_, rfl⟩
                    replace H : (row_Write.l0 k2 a1 y685 l0 (l0.length : Int) (wrap64 (x23_2 + 1))) = some (r1, r2) := by first | (rw [hy685]; with_reducible exact H) | (have H2_ := (Option.bind_some _ _).symm.trans H; rw [hy685]; with_reducible exact H2_) | (have H2_ := (Option.bind_some _ _).symm.trans H; with_reducible exact H2_) | with_reducible exact H | (rw [hy685]; exact H) | exact H
                    have Ny685 := Aside0.mk hy685
                    clear hy685
                    have H' := Aside0.mk H
                    clear H
                    have p681 : 0 ≤ (x23_2 : Int) := of_decide_eq_true (by first | (with_reducible assumption) | assumption)
                    have q681 : x23_2 < (l0.length : Int) := of_decide_eq_true (by first | (with_reducible assumption) | assumption)
                    obtain ⟨ad681, e681, hx681_0, hx681_1, hx681_2⟩ := at_T44 HR0.out x23_2 p681 q681
                    cases e681
                    replace hx681_0 := (HB.out.cell (World.block_lt_of_cell? w _ hx681_0)).trans hx681_0
                    replace hx681_1 := (HB.out.cell (World.block_lt_of_cell? w _ hx681_1)).trans hx681_1
                    replace hx681_2 := (HB.out.cell (World.block_lt_of_cell? w _ hx681_2)).trans hx681_2
                    replace p681 := eq_true p681
                    replace q681 := eq_true q681
                    go_wp2_with (first | ((with_reducible refine gate_dst (N := 8) rfl ?_); refine box_event ?hg (N := 8) ?hd (cs := #[.string (⟨#[]⟩ : ByteArray), .int .u64 0, .int .u64 0]) (t := 44) ?hr ?_; (case hd => rfl); (case hg => rfl); (case hr => first | (go_simp; done) | (go_simp; rfl)); intro gb682 hg w14 hbox hb; have n0_ := Aside0.mk (Kd.R_below (by (with_reducible repeat (first | apply Kd.R_alloc | apply Kd.R_drewN | apply Kd.R_drew)); exact HO_6.out) hb); have n1_ := Aside0.mk (below_step (by repeat (first | (with_reducible first | exact HB.out | apply below_alloc | apply pw_below_drewN | apply below_drew1) | exact HB.out)) hb); have n2_ := Aside0.mk (hbox); have n3_ := Aside0.mk ((by rw [hg]; exact (below_size (by repeat (first | (with_reducible first | exact HB.out | apply below_alloc | apply pw_below_drewN | apply below_drew1) | exact HB.out))) : w.heap.size ≤ gb682)); have n4_ := Aside0.mk ((by rw [hg]; exact (below_size (by repeat (first | (with_reducible first | exact HB.out | apply below_alloc | apply pw_below_drewN | apply below_drew1) | exact HB.out))) : w.heap.size ≤ gb682)); clear HO_6; clear HB; have HO_6 := n0_; have HB := n1_; have BK682 := n2_; have GW682 := n3_; have GE682 := n4_; clear n0_ n1_ n2_ n3_ n4_; clear hb hbox hg; have hcz15_0 : w14.cell? ⟨gb682, 0, none⟩ = some (.string (⟨#[]⟩ : ByteArray)) := (blk_cell BK682.out 0).trans rfl; have hcz15_1 : w14.cell? ⟨gb682, 1, none⟩ = some (.int .u64 0) := (blk_cell BK682.out 1).trans rfl; have hcz15_2 : w14.cell? ⟨gb682, 2, none⟩ = some (.int .u64 0) := (blk_cell BK682.out 2).trans rfl; have hfz15_0 := blk_frozen BK682.out 0; have hfz15_1 := blk_frozen BK682.out 1; have hfz15_2 := blk_frozen BK682.out 2) | ((with_reducible refine gate_callee (f := 48) rfl ?_); refine goesL_ (some 29) rfl rfl Tryd.func48 (by kernel_rfl) rfl #[.agg #[.string ((rd_T44 l0 x23_2).f0), .int .u64 ((rd_T44 l0 x23_2).f1.f0), .int .u64 ((rd_T44 l0 x23_2).f1.f1)]] rfl (by (try simp only [List.map_toArray, List.map_cons, List.map_nil]); first | done | rfl | (simp only [List.length_drop, List.length_take]; rfl)) ?_; (with_reducible refine (row_Text.calls ((rd_T44 l0 x23_2).f0) ((rd_T44 l0 x23_2).f1.f0) ((rd_T44 l0 x23_2).f1.f1) t683 t684 _ ?side1 A11.out).mono ?_); (case side1 => exact gt_below hG (by repeat (first | (with_reducible first | exact HB.out | apply below_alloc | apply pw_below_drewN | apply below_drew1 | refine below_set ?_ GE682.out) | exact HB.out))); rintro e w16 ⟨rfl, hb⟩; refine ⟨_, rfl, ?_⟩; have n0_ := Aside0.mk (Kd.R_below (by (with_reducible repeat (first | apply Kd.R_alloc | apply Kd.R_drewN | apply Kd.R_drew)); exact (Kd.R_mono (Kd.R_far (p := ⟨gb682, 2, none⟩) (Kd.R_far (p := ⟨gb682, 1, none⟩) (Kd.R_far (p := ⟨gb682, 0, none⟩) (Kd.R_types HO_6.out BK682.out (by decide)) (fun _ hk => hk.2) (.string ((rd_T44 l0 x23_2).f0))) (fun _ hk => hk.2) (.int .u64 ((rd_T44 l0 x23_2).f1.f0))) (fun _ hk => hk.2) (.int .u64 ((rd_T44 l0 x23_2).f1.f1))) (fun _ h_ => h_.1))) hb); have n1_ := Aside0.mk (blk_below (g := gb682) (o := .cells #[.string ((rd_T44 l0 x23_2).f0), .int .u64 ((rd_T44 l0 x23_2).f1.f0), .int .u64 ((rd_T44 l0 x23_2).f1.f1)] 44 (0, 0)) (by (with_reducible repeat (first | refine blk_drewN ?_ _ | refine blk_drew ?_ | refine blk_alloc ?_ _)); refine blk_put (cs := #[.string ((rd_T44 l0 x23_2).f0), .int .u64 ((rd_T44 l0 x23_2).f1.f0), .int .u64 0]) ?_ 2 _ rfl; (with_reducible repeat (first | refine blk_drewN ?_ _ | refine blk_drew ?_ | refine blk_alloc ?_ _)); refine blk_put (cs := #[.string ((rd_T44 l0 x23_2).f0), .int .u64 0, .int .u64 0]) ?_ 1 _ rfl; (with_reducible repeat (first | refine blk_drewN ?_ _ | refine blk_drew ?_ | refine blk_alloc ?_ _)); refine blk_put (cs := #[.string (⟨#[]⟩ : ByteArray), .int .u64 0, .int .u64 0]) ?_ 0 _ rfl; (with_reducible repeat (first | refine blk_drewN ?_ _ | refine blk_drew ?_ | refine blk_alloc ?_ _)); exact BK682.out) hb); have n2_ := Aside0.mk (below_step (by repeat (first | (with_reducible first | exact HB.out | apply below_alloc | apply pw_below_drewN | apply below_drew1 | refine below_set ?_ GE682.out) | exact HB.out)) hb); clear HO_6; clear BK682; clear HB; have HO_6 := n0_; have BK682 := n1_; have HB := n2_; clear n0_ n1_ n2_; (try clear hb); (try clear hb2); (try clear hk); (try clear hi)) | ((with_reducible refine gate_builtin (b := .append) (xs := #[.tmp 35, .tmp 37]) rfl ?_); at_builtin; refine Kd.R_append Kd.string (w0 := w) w.heap.size rfl (.tmp 35) (.tmp 37) 51 9 (.string ⟨#[]⟩) 16 rfl Tryd.underlying51 info9 rfl (by decide) (by omega) u6 x6_2 t683 [.string t683] (fun _ => True) (fun _ => False) rfl rfl ?aP (fun _ hk => hk.elim) ?aF ?aO ?aB ?aS ?aL ?_; (case aP => exact rfl); (case aB => exact (by repeat (first | (with_reducible first | exact HB.out | apply below_alloc | apply pw_below_drewN | apply below_drew1 | refine below_set ?_ GE682.out) | exact HB.out))); (case aF => exact (fun _ _ => trivial)); (case aO => exact (by (with_reducible repeat (first | apply Kd.R_alloc | apply Kd.R_drewN | apply Kd.R_drew)); exact HO_6.out)); (case aS => exact (below_size (by repeat (first | (with_reducible first | exact HB.out | apply below_alloc | apply pw_below_drewN | apply below_drew1 | refine below_set ?_ GE682.out) | exact HB.out)))); (case aL => have := LMc13.out; omega); intro v686 w17 ho hb hg hat; rw [← Ny685.out] at ho; have n0_ := Aside0.mk (blk_grown (g := gb682) (o := .cells #[.string ((rd_T44 l0 x23_2).f0), .int .u64 ((rd_T44 l0 x23_2).f1.f0), .int .u64 ((rd_T44 l0 x23_2).f1.f1)] 44 (0, 0)) (by (with_reducible repeat (first | refine blk_drewN ?_ _ | refine blk_drew ?_ | refine blk_alloc ?_ _)); exact BK682.out) hg (Kd.R_ne HO_6.out BK682.out (by decide))); have n1_ := Aside0.mk (hb); have n2_ := Aside0.mk (ho); clear BK682; clear HB; clear HO_6; have BK682 := n0_; have HB := n1_; have HO687 := n2_; clear n0_ n1_ n2_; clear ho hb hg hat))
                    go_roundg k2
                    case measure => have := HJ2.out; have := HK2.out; omega
                    case rel => exact ⟨(y685), (wrap64 (x23_2 + 1)), (by first | rfl | (simp; done) | (simp [*]; done)), H', ⟨by have := HJ2.out; have := HK2.out; omega⟩, ⟨by (with_reducible repeat (first | apply Kd.R_alloc | apply Kd.R_drewN | apply Kd.R_drew)); exact HO687.out⟩, ⟨by repeat (first | (with_reducible first | exact HB.out | apply below_alloc | apply pw_below_drewN | apply below_drew1 | refine below_set ?_ GE682.out) | exact HB.out)⟩⟩
                  · rw [if_neg c13] at H
                    exact absurd H (by simp)
                · rw [if_neg c12] at H
                  have c12b0 : (t684 == 0) = false := beq_eq_false_iff_ne.mpr c12
                  have c12b1 : (t684 != 0) = true := bne_iff_ne.mpr c12
                  simp only [Option.some.injEq, Prod.mk.injEq] at H
                  obtain ⟨rfl, rfl⟩ := H
                  have p681 : 0 ≤ (x23_2 : Int) := of_decide_eq_true (by first | (with_reducible assumption) | assumption)
                  have q681 : x23_2 < (l0.length : Int) := of_decide_eq_true (by first | (with_reducible assumption) | assumption)
                  obtain ⟨ad681, e681, hx681_0, hx681_1, hx681_2⟩ := at_T44 HR0.out x23_2 p681 q681
                  cases e681
                  replace hx681_0 := (HB.out.cell (World.block_lt_of_cell? w _ hx681_0)).trans hx681_0
                  replace hx681_1 := (HB.out.cell (World.block_lt_of_cell? w _ hx681_1)).trans hx681_1
                  replace hx681_2 := (HB.out.cell (World.block_lt_of_cell? w _ hx681_2)).trans hx681_2
                  replace p681 := eq_true p681
                  replace q681 := eq_true q681
                  go_wp2_with (first | ((with_reducible refine gate_dst (N := 8) rfl ?_); refine box_event ?hg (N := 8) ?hd (cs := #[.string (⟨#[]⟩ : ByteArray), .int .u64 0, .int .u64 0]) (t := 44) ?hr ?_; (case hd => rfl); (case hg => rfl); (case hr => first | (go_simp; done) | (go_simp; rfl)); intro gb682 hg w18 hbox hb; have n0_ := Aside0.mk (Kd.R_below (by (with_reducible repeat (first | apply Kd.R_alloc | apply Kd.R_drewN | apply Kd.R_drew)); exact HO_6.out) hb); have n1_ := Aside0.mk (below_step (by repeat (first | (with_reducible first | exact HB.out | apply below_alloc | apply pw_below_drewN | apply below_drew1) | exact HB.out)) hb); have n2_ := Aside0.mk (hbox); have n3_ := Aside0.mk ((by rw [hg]; exact (below_size (by repeat (first | (with_reducible first | exact HB.out | apply below_alloc | apply pw_below_drewN | apply below_drew1) | exact HB.out))) : w.heap.size ≤ gb682)); have n4_ := Aside0.mk ((by rw [hg]; exact (below_size (by repeat (first | (with_reducible first | exact HB.out | apply below_alloc | apply pw_below_drewN | apply below_drew1) | exact HB.out))) : w.heap.size ≤ gb682)); clear HO_6; clear HB; have HO_6 := n0_; have HB := n1_; have BK682 := n2_; have GW682 := n3_; have GE682 := n4_; clear n0_ n1_ n2_ n3_ n4_; clear hb hbox hg; have hcz19_0 : w18.cell? ⟨gb682, 0, none⟩ = some (.string (⟨#[]⟩ : ByteArray)) := (blk_cell BK682.out 0).trans rfl; have hcz19_1 : w18.cell? ⟨gb682, 1, none⟩ = some (.int .u64 0) := (blk_cell BK682.out 1).trans rfl; have hcz19_2 : w18.cell? ⟨gb682, 2, none⟩ = some (.int .u64 0) := (blk_cell BK682.out 2).trans rfl; have hfz19_0 := blk_frozen BK682.out 0; have hfz19_1 := blk_frozen BK682.out 1; have hfz19_2 := blk_frozen BK682.out 2) | ((with_reducible refine gate_callee (f := 48) rfl ?_); refine goesL_ (some 29) rfl rfl Tryd.func48 (by kernel_rfl) rfl #[.agg #[.string ((rd_T44 l0 x23_2).f0), .int .u64 ((rd_T44 l0 x23_2).f1.f0), .int .u64 ((rd_T44 l0 x23_2).f1.f1)]] rfl (by (try simp only [List.map_toArray, List.map_cons, List.map_nil]); first | done | rfl | (simp only [List.length_drop, List.length_take]; rfl)) ?_; (with_reducible refine (row_Text.calls ((rd_T44 l0 x23_2).f0) ((rd_T44 l0 x23_2).f1.f0) ((rd_T44 l0 x23_2).f1.f1) t683 t684 _ ?side1 A11.out).mono ?_); (case side1 => exact gt_below hG (by repeat (first | (with_reducible first | exact HB.out | apply below_alloc | apply pw_below_drewN | apply below_drew1 | refine below_set ?_ GE682.out) | exact HB.out))); rintro e w20 ⟨rfl, hb⟩; refine ⟨_, rfl, ?_⟩; have n0_ := Aside0.mk (Kd.R_below (by (with_reducible repeat (first | apply Kd.R_alloc | apply Kd.R_drewN | apply Kd.R_drew)); exact (Kd.R_mono (Kd.R_far (p := ⟨gb682, 2, none⟩) (Kd.R_far (p := ⟨gb682, 1, none⟩) (Kd.R_far (p := ⟨gb682, 0, none⟩) (Kd.R_types HO_6.out BK682.out (by decide)) (fun _ hk => hk.2) (.string ((rd_T44 l0 x23_2).f0))) (fun _ hk => hk.2) (.int .u64 ((rd_T44 l0 x23_2).f1.f0))) (fun _ hk => hk.2) (.int .u64 ((rd_T44 l0 x23_2).f1.f1))) (fun _ h_ => h_.1))) hb); have n1_ := Aside0.mk (blk_below (g := gb682) (o := .cells #[.string ((rd_T44 l0 x23_2).f0), .int .u64 ((rd_T44 l0 x23_2).f1.f0), .int .u64 ((rd_T44 l0 x23_2).f1.f1)] 44 (0, 0)) (by (with_reducible repeat (first | refine blk_drewN ?_ _ | refine blk_drew ?_ | refine blk_alloc ?_ _)); refine blk_put (cs := #[.string ((rd_T44 l0 x23_2).f0), .int .u64 ((rd_T44 l0 x23_2).f1.f0), .int .u64 0]) ?_ 2 _ rfl; (with_reducible repeat (first | refine blk_drewN ?_ _ | refine blk_drew ?_ | refine blk_alloc ?_ _)); refine blk_put (cs := #[.string ((rd_T44 l0 x23_2).f0), .int .u64 0, .int .u64 0]) ?_ 1 _ rfl; (with_reducible repeat (first | refine blk_drewN ?_ _ | refine blk_drew ?_ | refine blk_alloc ?_ _)); refine blk_put (cs := #[.string (⟨#[]⟩ : ByteArray), .int .u64 0, .int .u64 0]) ?_ 0 _ rfl; (with_reducible repeat (first | refine blk_drewN ?_ _ | refine blk_drew ?_ | refine blk_alloc ?_ _)); exact BK682.out) hb); have n2_ := Aside0.mk (below_step (by repeat (first | (with_reducible first | exact HB.out | apply below_alloc | apply pw_below_drewN | apply below_drew1 | refine below_set ?_ GE682.out) | exact HB.out)) hb); clear HO_6; clear BK682; clear HB; have HO_6 := n0_; have BK682 := n1_; have HB := n2_; clear n0_ n1_ n2_; (try clear hb); (try clear hb2); (try clear hk); (try clear hi)))
                  go_ret2
                  exact ⟨by first | rfl | (simp [errW_none, errW_some] <;> rfl) | (simp [*, errW_none, errW_some] <;> rfl), by repeat (first | (with_reducible first | exact HB.out | apply below_alloc | apply pw_below_drewN | apply below_drew1 | refine below_set ?_ GE682.out) | exact HB.out)⟩
              · rw [if_neg c10] at H
                exact absurd H (by simp)
            · rw [if_neg c9] at H
              exact absurd H (by simp)
          · rw [if_neg c8] at H
            have c8b0 : decide (x23_2 < (l0.length : Int)) = false := decide_eq_false c8
            clear c8
            by_cases c21 : 2 + a1.size ≤ 9223372036854775807
            · rw [if_pos c21] at H
              have c21b0 := eq_true c21
              have c21b1 : decide (2 + a1.size ≤ 9223372036854775807) = true := decide_eq_true c21
              try have c21b2 : (9223372036854775807 < 2 + a1.size) = False := eq_false (Nat.not_lt.2 c21)
              replace H := Option.bind_eq_some_iff.mp H
              obtain ⟨t688, A220, H⟩ := H
              replace H : (if (t688.length : Int) > 1 then (some ((⟨#[]⟩ : ByteArray), 91)) else (if 0 < (t688.length : Int) then (if ((rd_T56 t688 0).f3) = 0 then (if x6_2.length < 8796093022208 then ((lines_Join.f (x6_2 ++ [(⟨#[]⟩ : ByteArray)])).bind fun bt695 => (some (bt695.1, 0))) else (none)) else (some ((⟨#[]⟩ : ByteArray), 91))) else (none))) = some (r1, r2) := H
              have A22 := Aside0.mk A220
              clear A220
              by_cases c23 : (t688.length : Int) > 1
              · rw [if_pos c23] at H
                have c23b0 : decide (1 < (t688.length : Int)) = true := decide_eq_true c23
                have c23b1 : decide (1 < t688.length) = true := decide_eq_true (by omega)
                clear c23
                simp only [Option.some.injEq, Prod.mk.injEq] at H
                obtain ⟨rfl, rfl⟩ := H
                go_wp2_with (first | ((with_reducible refine gate_callee (f := 34) rfl ?_); refine goesL_ (some 42) rfl rfl Tryd.func34 (by kernel_rfl) rfl #[.string ((⟨#[35, 32]⟩ : ByteArray) ++ a1)] rfl (by (try simp only [List.map_toArray, List.map_cons, List.map_nil]); first | done | rfl | (simp only [List.length_drop, List.length_take]; rfl)) ?_; (with_reducible refine (lines_All.calls ((⟨#[35, 32]⟩ : ByteArray) ++ a1) t688 _ ?side1 A22.out).mono ?_); (case side1 => exact gt_below hG (by repeat (first | (with_reducible first | exact HB.out | apply below_alloc | apply pw_below_drewN | apply below_drew1) | exact HB.out))); rintro e w24 ⟨v689, rfl, ho0, hb⟩; refine ⟨_, rfl, ?_⟩; have n0_ := Aside0.mk (Kd.R_below (by (with_reducible repeat (first | apply Kd.R_alloc | apply Kd.R_drewN | apply Kd.R_drew)); exact HO_6.out) hb); have n1_ := Aside0.mk (Kd.R_lower ho0 (below_size (by repeat (first | (with_reducible first | exact HB.out | apply below_alloc | apply pw_below_drewN | apply below_drew1) | exact HB.out)))); have n2_ := Aside0.mk (below_step (by repeat (first | (with_reducible first | exact HB.out | apply below_alloc | apply pw_below_drewN | apply below_drew1) | exact HB.out)) hb); clear HO_6; clear HB; have HO_6 := n0_; have HO690 := n1_; have HB := n2_; clear n0_ n1_ n2_; (try clear hb); (try clear hb2); (try clear hk); (try clear hi); (try clear ho0); obtain ⟨Ao25, co25, eo25⟩ := Kd.R_slice HO690.out; subst eo25))
                go_ret2
                exact ⟨by first | rfl | (simp [errW_none, errW_some] <;> rfl) | (simp [*, errW_none, errW_some] <;> rfl), by repeat (first | (with_reducible first | exact HB.out | apply below_alloc | apply pw_below_drewN | apply below_drew1) | exact HB.out)⟩
              · rw [if_neg c23] at H
                have c23b0 : decide (1 < (t688.length : Int)) = false := decide_eq_false c23
                have c23b1 : decide (1 < t688.length) = false := decide_eq_false (by omega)
                clear c23
                by_cases c26 : 0 < (t688.length : Int)
                · rw [if_pos c26] at H
                  have c26b0 : decide (0 < (t688.length : Int)) = true := decide_eq_true c26
                  have c26b1 : decide (0 < t688.length) = true := decide_eq_true (by omega)
                  clear c26
                  by_cases c27 : ((rd_T56 t688 0).f3) = 0
                  · rw [if_pos c27] at H
                    have c27b0 : (((rd_T56 t688 0).f3) == 0) = true := beq_iff_eq.mpr c27
                    have c27b1 : (((rd_T56 t688 0).f3) != 0) = false := bne_eq_false_iff_eq.mpr c27
                    clear c27
                    by_cases c28 : x6_2.length < 8796093022208
                    · rw [if_pos c28] at H
                      have LMc28 := Aside0.mk c28
                      clear c28
                      obtain ⟨y692, hy692⟩ : ∃ y_ : List ByteArray, y_ = (x6_2 ++ [(⟨#[]⟩ : ByteArray)]) := ⟨_, rfl⟩
                      replace H : ((lines_Join.f y692).bind fun bt695 => (some (bt695.1, 0))) = some (r1, r2) := by first | (rw [hy692]; with_reducible exact H) | (have H2_ := (Option.bind_some _ _).symm.trans H; rw [hy692]; with_reducible exact H2_) | (have H2_ := (Option.bind_some _ _).symm.trans H; with_reducible exact H2_) | with_reducible exact H | (rw [hy692]; exact H) | exact H
                      have Ny692 := Aside0.mk hy692
                      clear hy692
                      replace H := Option.bind_eq_some_iff.mp H
                      obtain ⟨⟨t695, t696⟩, A290, H⟩ := H
                      replace H : (some (t695, 0)) = some (r1, r2) := H
                      have A29 := Aside0.mk A290
                      clear A290
                      simp only [Option.some.injEq, Prod.mk.injEq] at H
                      obtain ⟨rfl, rfl⟩ := H
                      go_wp2_with (first | ((with_reducible refine gate_callee (f := 34) rfl ?_); refine goesL_ (some 42) rfl rfl Tryd.func34 (by kernel_rfl) rfl #[.string ((⟨#[35, 32]⟩ : ByteArray) ++ a1)] rfl (by (try simp only [List.map_toArray, List.map_cons, List.map_nil]); first | done | rfl | (simp only [List.length_drop, List.length_take]; rfl)) ?_; (with_reducible refine (lines_All.calls ((⟨#[35, 32]⟩ : ByteArray) ++ a1) t688 _ ?side1 A22.out).mono ?_); (case side1 => exact gt_below hG (by repeat (first | (with_reducible first | exact HB.out | apply below_alloc | apply pw_below_drewN | apply below_drew1) | exact HB.out))); rintro e w30 ⟨v689, rfl, ho0, hb⟩; refine ⟨_, rfl, ?_⟩; have n0_ := Aside0.mk (Kd.R_below (by (with_reducible repeat (first | apply Kd.R_alloc | apply Kd.R_drewN | apply Kd.R_drew)); exact HO_6.out) hb); have n1_ := Aside0.mk (Kd.R_lower ho0 (below_size (by repeat (first | (with_reducible first | exact HB.out | apply below_alloc | apply pw_below_drewN | apply below_drew1) | exact HB.out)))); have n2_ := Aside0.mk (below_step (by repeat (first | (with_reducible first | exact HB.out | apply below_alloc | apply pw_below_drewN | apply below_drew1) | exact HB.out)) hb); clear HO_6; clear HB; have HO_6 := n0_; have HO690 := n1_; have HB := n2_; clear n0_ n1_ n2_; (try clear hb); (try clear hb2); (try clear hk); (try clear hi); (try clear ho0); obtain ⟨Ao31, co31, eo31⟩ := Kd.R_slice HO690.out; subst eo31; have p691 : 0 ≤ (0 : Int) := (by omega); have q691 : 0 < (t688.length : Int) := of_decide_eq_true (by first | (with_reducible assumption) | assumption); obtain ⟨ad691, e691, hx691_0, hx691_1, hx691_2, hx691_3⟩ := at_T56 (Kd.R_reads' HO690.out).2.2 0 p691 q691; cases e691; have qi691 : (0 < t688.length) = True := eq_true (by omega); (try rw [show ((0 : Int)).toNat = 0 from rfl] at hx691_0); (try rw [show 0 * 4 = 0 from rfl] at hx691_0); (try rw [Addr.add_zero'] at hx691_0); (try rw [show ((0 : Int)).toNat = 0 from rfl] at hx691_1); (try rw [show 0 * 4 = 0 from rfl] at hx691_1); (try rw [Addr.add_zero'] at hx691_1); (try rw [show ((0 : Int)).toNat = 0 from rfl] at hx691_2); (try rw [show 0 * 4 = 0 from rfl] at hx691_2); (try rw [Addr.add_zero'] at hx691_2); (try rw [show ((0 : Int)).toNat = 0 from rfl] at hx691_3); (try rw [show 0 * 4 = 0 from rfl] at hx691_3); (try rw [Addr.add_zero'] at hx691_3); replace p691 := eq_true p691; replace q691 := eq_true q691) | ((with_reducible refine gate_builtin (b := .append) (xs := #[.tmp 54, .tmp 55]) rfl ?_); at_builtin; refine Kd.R_append Kd.string (w0 := w) w.heap.size rfl (.tmp 54) (.tmp 55) 51 9 (.string ⟨#[]⟩) 16 rfl Tryd.underlying51 info9 rfl (by decide) (by omega) u6 x6_2 (⟨#[]⟩ : ByteArray) [.string (⟨#[]⟩ : ByteArray)] (fun _ => True) (fun _ => False) rfl rfl ?aP (fun _ hk => hk.elim) ?aF ?aO ?aB ?aS ?aL ?_; (case aP => exact rfl); (case aB => exact (by repeat (first | (with_reducible first | exact HB.out | apply below_alloc | apply pw_below_drewN | apply below_drew1) | exact HB.out))); (case aF => exact (fun _ _ => trivial)); (case aO => exact (by (with_reducible repeat (first | apply Kd.R_alloc | apply Kd.R_drewN | apply Kd.R_drew)); exact HO_6.out)); (case aS => exact (below_size (by repeat (first | (with_reducible first | exact HB.out | apply below_alloc | apply pw_below_drewN | apply below_drew1) | exact HB.out)))); (case aL => have := LMc28.out; omega); intro v693 w32 ho hb hg hat; rw [← Ny692.out] at ho; have n0_ := Aside0.mk (Kd.R_over' (by (with_reducible repeat (first | apply Kd.R_alloc | apply Kd.R_drewN | apply Kd.R_drew)); exact HO690.out) (Kd.R_typed (by (with_reducible repeat (first | apply Kd.R_alloc | apply Kd.R_drewN | apply Kd.R_drew)); exact HO_6.out)) (by decide) hg); have n1_ := Aside0.mk (hb); have n2_ := Aside0.mk (ho); clear HO690; clear HB; clear HO_6; have HO690 := n0_; have HB := n1_; have HO694 := n2_; clear n0_ n1_ n2_; clear ho hb hg hat; obtain ⟨Ao33, co33, eo33⟩ := Kd.R_slice HO694.out; subst eo33) | ((with_reducible refine gate_callee (f := 42) rfl ?_); refine goesL_ (some 57) rfl rfl Tryd.func42 (by kernel_rfl) rfl #[.slice Ao33 y692.length co33] rfl (by (try simp only [List.map_toArray, List.map_cons, List.map_nil]); first | done | rfl | (simp only [List.length_drop, List.length_take]; rfl)) ?_; (with_reducible refine (lines_Join.calls _ _ y692 t695 t696 _ ?side1 ?side2 A29.out).mono ?_); (case side1 => repeat (first | exact (Kd.R_reads' HO694.out).2.2 | (with_reducible refine Kd.C_alloc ?_ _) | (with_reducible refine Kd.C_drewN ?_ _) | (with_reducible refine Kd.C_drew ?_))); (case side2 => exact (Kd.R_reads' HO694.out).2.1); rintro e w34 ⟨rfl, hb⟩; refine ⟨_, rfl, ?_⟩; have n0_ := Aside0.mk (Kd.R_below (by (with_reducible repeat (first | apply Kd.R_alloc | apply Kd.R_drewN | apply Kd.R_drew)); exact HO690.out) hb); have n1_ := Aside0.mk (Kd.R_below (by (with_reducible repeat (first | apply Kd.R_alloc | apply Kd.R_drewN | apply Kd.R_drew)); exact HO694.out) hb); have n2_ := Aside0.mk (below_step (by repeat (first | (with_reducible first | exact HB.out | apply below_alloc | apply pw_below_drewN | apply below_drew1) | exact HB.out)) hb); clear HO690; clear HO694; clear HB; have HO690 := n0_; have HO694 := n1_; have HB := n2_; clear n0_ n1_ n2_; (try clear hb); (try clear hb2); (try clear hk); (try clear hi)))
                      go_ret2
                      exact ⟨by first | rfl | (simp [errW_none, errW_some] <;> rfl) | (simp [*, errW_none, errW_some] <;> rfl), by repeat (first | (with_reducible first | exact HB.out | apply below_alloc | apply pw_below_drewN | apply below_drew1) | exact HB.out)⟩
                    · rw [if_neg c28] at H
                      exact absurd H (by simp)
                  · rw [if_neg c27] at H
                    have c27b0 : (((rd_T56 t688 0).f3) == 0) = false := beq_eq_false_iff_ne.mpr c27
                    have c27b1 : (((rd_T56 t688 0).f3) != 0) = true := bne_iff_ne.mpr c27
                    simp only [Option.some.injEq, Prod.mk.injEq] at H
                    obtain ⟨rfl, rfl⟩ := H
                    go_wp2_with (first | ((with_reducible refine gate_callee (f := 34) rfl ?_); refine goesL_ (some 42) rfl rfl Tryd.func34 (by kernel_rfl) rfl #[.string ((⟨#[35, 32]⟩ : ByteArray) ++ a1)] rfl (by (try simp only [List.map_toArray, List.map_cons, List.map_nil]); first | done | rfl | (simp only [List.length_drop, List.length_take]; rfl)) ?_; (with_reducible refine (lines_All.calls ((⟨#[35, 32]⟩ : ByteArray) ++ a1) t688 _ ?side1 A22.out).mono ?_); (case side1 => exact gt_below hG (by repeat (first | (with_reducible first | exact HB.out | apply below_alloc | apply pw_below_drewN | apply below_drew1) | exact HB.out))); rintro e w35 ⟨v689, rfl, ho0, hb⟩; refine ⟨_, rfl, ?_⟩; have n0_ := Aside0.mk (Kd.R_below (by (with_reducible repeat (first | apply Kd.R_alloc | apply Kd.R_drewN | apply Kd.R_drew)); exact HO_6.out) hb); have n1_ := Aside0.mk (Kd.R_lower ho0 (below_size (by repeat (first | (with_reducible first | exact HB.out | apply below_alloc | apply pw_below_drewN | apply below_drew1) | exact HB.out)))); have n2_ := Aside0.mk (below_step (by repeat (first | (with_reducible first | exact HB.out | apply below_alloc | apply pw_below_drewN | apply below_drew1) | exact HB.out)) hb); clear HO_6; clear HB; have HO_6 := n0_; have HO690 := n1_; have HB := n2_; clear n0_ n1_ n2_; (try clear hb); (try clear hb2); (try clear hk); (try clear hi); (try clear ho0); obtain ⟨Ao36, co36, eo36⟩ := Kd.R_slice HO690.out; subst eo36; have p691 : 0 ≤ (0 : Int) := (by omega); have q691 : 0 < (t688.length : Int) := of_decide_eq_true (by first | (with_reducible assumption) | assumption); obtain ⟨ad691, e691, hx691_0, hx691_1, hx691_2, hx691_3⟩ := at_T56 (Kd.R_reads' HO690.out).2.2 0 p691 q691; cases e691; have qi691 : (0 < t688.length) = True := eq_true (by omega); (try rw [show ((0 : Int)).toNat = 0 from rfl] at hx691_0); (try rw [show 0 * 4 = 0 from rfl] at hx691_0); (try rw [Addr.add_zero'] at hx691_0); (try rw [show ((0 : Int)).toNat = 0 from rfl] at hx691_1); (try rw [show 0 * 4 = 0 from rfl] at hx691_1); (try rw [Addr.add_zero'] at hx691_1); (try rw [show ((0 : Int)).toNat = 0 from rfl] at hx691_2); (try rw [show 0 * 4 = 0 from rfl] at hx691_2); (try rw [Addr.add_zero'] at hx691_2); (try rw [show ((0 : Int)).toNat = 0 from rfl] at hx691_3); (try rw [show 0 * 4 = 0 from rfl] at hx691_3); (try rw [Addr.add_zero'] at hx691_3); replace p691 := eq_true p691; replace q691 := eq_true q691))
                    go_ret2
                    exact ⟨by first | rfl | (simp [errW_none, errW_some] <;> rfl) | (simp [*, errW_none, errW_some] <;> rfl), by repeat (first | (with_reducible first | exact HB.out | apply below_alloc | apply pw_below_drewN | apply below_drew1) | exact HB.out)⟩
                · rw [if_neg c26] at H
                  exact absurd H (by simp)
            · rw [if_neg c21] at H
              exact absurd H (by simp)
end Go.Proofs.YtpkjpiphjdpegaaDoor.P
namespace Go.Proofs.YtpkjpiphjdpegaaDoor.P
open Go.RowKit Go.Proofs.YtpkjpiphjdpegaaDoorW.PrintWords Go.Proofs.YtpkjpiphjdpegaaDoorW.PrintLast Go.Proofs.YtpkjpiphjdpegaaDoorW.PrintMore
set_option linter.unusedVariables false
set_option linter.unusedSimpArgs false
theorem tail_lenN (n : Nat) : ∀ r : List ByteArray, (∀ x ∈ r, x.size ≤ n) → (Lib.joinTail [10] (r.map (·.data.toList))).length ≤ (n + 1) * r.length
  | [], _ => by simp [Lib.joinTail]
  | y :: r, h => by
    have a := tail_lenN n r fun x hx => h x (List.mem_cons_of_mem _ hx)
    have b := h y (List.mem_cons_self ..)
    have e : y.data.toList.length = y.size := Array.length_toList
    rw [List.map_cons, tail_cons, List.length_cons, List.length_append, List.length_cons, e, Nat.mul_succ]
    omega
theorem join_lenN (n : Nat) (l : List ByteArray) (h : ∀ x ∈ l, x.size ≤ n) : (Lib.join (l.map (·.data.toList)) [10]).length ≤ (n + 1) * l.length := by
  cases l with
  | nil => simp [Lib.join]
  | cons y r =>
    have a := tail_lenN n r fun x hx => h x (List.mem_cons_of_mem _ hx)
    have b := h y (List.mem_cons_self ..)
    have e : y.data.toList.length = y.size := Array.length_toList
    rw [List.map_cons, joinB_cons, List.length_append, List.length_cons, e, Nat.mul_succ]
    omega
def noId (y : S44) : Bool := !mayId y.f0
def lineR (y : S44) : ByteArray := lineB y.f0 y.f1.f0 y.f1.f1
def rowOk (y : S44) : Prop := y.f0.size ≤ 1000000 ∧ U64 y.f1.f0 ∧ U64 y.f1.f1
def remL (s : ByteArray) : List UInt8 := 35 :: 32 :: s.data.toList
def remOkB (s : ByteArray) : Bool := decide ((splitB (remL s)).length ≤ 1) && decide (wrongOf (remL s) = 0)
abbrev remOk (s : ByteArray) : Prop := remOkB s = true
theorem remOk_is {s : ByteArray} : remOk s ↔ (splitB (remL s)).length ≤ 1 ∧ wrongOf (remL s) = 0 := by
  show remOkB s = true ↔ _
  unfold remOkB
  rw [Bool.and_eq_true, decide_eq_true_eq, decide_eq_true_eq]
theorem rem_is (s : ByteArray) : (⟨#[35, 32]⟩ : ByteArray) ++ s = mk (remL s) := by
  apply ByteArray.ext
  apply Array.toList_inj.1
  rw [ByteArray.data_append, Array.toList_append]
  rfl
theorem rd44 (l : List S44) (i : Nat) (hi : i < l.length) : rd_T44 l (i : Int) = l[i] := by
  unfold rd_T44
  rw [Int.toNat_natCast, List.getD_eq_getElem?_getD, List.getElem?_eq_getElem hi]
  rfl
theorem write_l0 (s : ByteArray) (l : List S44) (hl : l.length ≤ 1000000) (hg : ∀ y ∈ l, rowOk y) (k : Nat) : ∀ (t i : Nat) (acc : List ByteArray), i + t = l.length → acc.length ≤ i + 1 →
    row_Write.l0 (k + 1 + t) s acc l (l.length : Int) (i : Int) = if (l.drop i).any noId = true then some ((⟨#[]⟩ : ByteArray), 101) else row_Write.l0 (k + 1) s (acc ++ (l.drop i).map lineR) l (l.length : Int) (l.length : Int)
  | 0, i, acc, h, ha => by
    obtain rfl : i = l.length := by omega
    rw [List.drop_length, List.any_nil, if_neg (by decide), List.map_nil, List.append_nil]
  | t + 1, i, acc, h, ha => by
    have hi : i < l.length := by omega
    have nx : l.drop i = l[i] :: l.drop (i + 1) := List.drop_eq_getElem_cons hi
    have hm : l[i] ∈ l := List.getElem_mem hi
    obtain ⟨g1, g2, g3⟩ := hg _ hm
    have w1 : wrap64 ((i : Int) + 1) = ((i + 1 : Nat) : Int) := by rw [wrapI _ (by omega) (by omega)]; push_cast; rfl
    rw [nx, List.any_cons, List.map_cons]
    conv => lhs; rw [show k + 1 + (t + 1) = (k + 1 + t) + 1 by omega, row_Write.l0, if_pos (show (i : Int) < (l.length : Int) by omega), if_pos (show (0 : Int) ≤ (i : Int) by omega), if_pos (show (i : Int) < (l.length : Int) by omega), rd44 l i hi, text_is _ _ _ (by omega) g2 g3, Option.bind_some]
    unfold rowText noId
    by_cases m : mayId l[i].f0 = true
    · rw [if_pos m, m]
      dsimp only
      rw [if_pos rfl, if_pos (by omega), w1, write_l0 s l hl hg k t (i + 1) _ (by omega) (by rw [List.length_append, List.length_singleton]; omega), List.append_assoc]
      rfl
    · have mf : mayId l[i].f0 = false := by simpa using m
      rw [if_neg m, mf]
      dsimp only
      rw [if_neg (by decide), if_pos (by simp)]
theorem split_single (l : List UInt8) (h : (splitB l).length ≤ 1) : splitB l = [l] ∧ ∀ b ∈ l, b ≠ 10 := by
  have c := split_count l
  have z : l.count 10 = 0 := by omega
  have n : ∀ b ∈ l, b ≠ 10 := by
    intro b hb e
    subst e
    have := List.count_pos_iff.2 hb
    omega
  exact ⟨splitB_one l n, n⟩
theorem write_end (s : ByteArray) (hs : s.size ≤ 1000) (A : List ByteArray) (hA : A.length ≤ 1000) (hz : ∀ x ∈ A, x.size ≤ 2000) (hc : remOk s → ∀ x ∈ A, ∀ b ∈ x.data.toList, b ≠ 10) (l : List S44) (k : Nat) :
    row_Write.l0 (k + 1) s A l (l.length : Int) (l.length : Int) = some (if remOk s then (joinL (A ++ [mk []]), 0) else ((⟨#[]⟩ : ByteArray), 91)) := by
  have e : s.data.toList.length = s.size := Array.length_toList
  have el : (remL s).length = s.size + 2 := by unfold remL; rw [List.length_cons, List.length_cons, e]
  rw [row_Write.l0, if_neg (by omega), if_pos (by omega), rem_is, all_f _ (by rw [mk_size]; omega), Option.bind_some]
  have al : allL (mk (remL s)) = linesL 1 (splitB (remL s)) := rfl
  rw [al, linesL_len]
  by_cases c1 : (splitB (remL s)).length ≤ 1
  · have sp := (split_single _ c1).1
    rw [sp]
    have r0 : rd_T56 (linesL 1 [remL s]) 0 = lineOf 1 (remL s) := rfl
    have f3 : (lineOf 1 (remL s)).f3 = wrongOf (remL s) := rfl
    rw [if_neg (by simp), if_pos (by simp), r0, f3]
    by_cases c2 : wrongOf (remL s) = 0
    · have ok : remOk s := remOk_is.2 ⟨c1, c2⟩
      have jl := join_lenN 2000 (A ++ [mk []]) (by
        intro x hx
        rcases List.mem_append.1 hx with h | h
        · exact hz x h
        · rw [List.mem_singleton.1 h, mk_size]; simp)
      rw [List.length_append, List.length_singleton] at jl
      have nb : (A ++ [mk []]).any brk = false := by
        rw [List.any_eq_false]
        intro x hx
        rw [← mk_of x, Bool.not_eq_true, brk_clean]
        rcases List.mem_append.1 hx with h | h
        · exact hc ok x h
        · rw [List.mem_singleton.1 h, mk_list]; simp
      rw [if_pos c2, if_pos (by omega), if_pos ok]
      have jf := join_f (A ++ [mk []]) (by rw [List.length_append, List.length_singleton]; omega) (by omega)
      rw [nb, if_neg (by decide)] at jf
      rw [show (⟨#[]⟩ : ByteArray) = mk [] from rfl, jf, Option.bind_some]
    · rw [if_neg c2, if_neg (fun ok => c2 (remOk_is.1 ok).2)]
  · rw [if_pos (by omega), if_neg (fun ok => c1 (remOk_is.1 ok).1)]
def preL (s : ByteArray) : List ByteArray := if s.data.toList = [] then [] else [mk (remL s)]
theorem preL_len (s : ByteArray) : (preL s).length ≤ 1 := by unfold preL; split <;> simp
def writeOf (l : List S44) (s : ByteArray) : ByteArray × Int :=
  if l.any noId = true then ((⟨#[]⟩ : ByteArray), 101) else if remOk s then (joinL ((preL s ++ l.map lineR) ++ [mk []]), 0) else ((⟨#[]⟩ : ByteArray), 91)
theorem row_ids (l : List S44) (h : ¬ l.any noId = true) : ∀ y ∈ l, mayId y.f0 = true := by
  intro y hy
  have := List.any_eq_false.1 (by simpa using h : l.any noId = false) y hy
  unfold noId at this
  simpa using this
theorem pre_facts (l : List S44) (hl : l.length ≤ 900) (hg : ∀ y ∈ l, rowOk y) (hm : ∀ y ∈ l, mayId y.f0 = true) (s : ByteArray) (hs : s.size ≤ 1000) :
    (preL s ++ l.map lineR).length ≤ 1000 ∧ (∀ x ∈ preL s ++ l.map lineR, x.size ≤ 2000) ∧ (remOk s → ∀ x ∈ preL s ++ l.map lineR, ∀ b ∈ x.data.toList, b ≠ 10) := by
  have e : s.data.toList.length = s.size := Array.length_toList
  have el : (remL s).length = s.size + 2 := by unfold remL; rw [List.length_cons, List.length_cons, e]
  have pl := preL_len s
  refine ⟨by rw [List.length_append, List.length_map]; omega, fun x hx => ?_, fun ok x hx => ?_⟩
  · rcases List.mem_append.1 hx with h | h
    · unfold preL at h
      split at h
      · simp at h
      · rw [List.mem_singleton.1 h, mk_size]; omega
    · obtain ⟨y, hy, rfl⟩ := List.mem_map.1 h
      have := line_size y.f0 y.f1.f0 y.f1.f1 (hm y hy) (hg y hy).2.1 (hg y hy).2.2
      show (lineB _ _ _).size ≤ _
      omega
  · rcases List.mem_append.1 hx with h | h
    · unfold preL at h
      split at h
      · simp at h
      · rw [List.mem_singleton.1 h, mk_list]; exact (split_single _ (remOk_is.1 ok).1).2
    · obtain ⟨y, hy, rfl⟩ := List.mem_map.1 h
      exact line_bytes y.f0 y.f1.f0 y.f1.f1 (hm y hy) (hg y hy).2.1 (hg y hy).2.2
theorem write_is (l : List S44) (hl : l.length ≤ 900) (hg : ∀ y ∈ l, rowOk y) (s : ByteArray) (hs : s.size ≤ 1000) (k : Nat) (hk : 1002 ≤ k) : row_Write.f k l s = some (writeOf l s) := by
  have J : ∀ acc : List ByteArray, acc = preL s → row_Write.j0 k l s acc = some (writeOf l s) := by
    intro acc ea
    have pl := preL_len s
    obtain ⟨j, rfl⟩ : ∃ j, k = (j + 1 + l.length) + 1 := ⟨k - 2 - l.length, by omega⟩
    have := write_l0 s l (by omega) hg j l.length 0 acc (by omega) (by rw [ea]; omega)
    rw [List.drop_zero] at this
    rw [row_Write.j0]
    refine this.trans ?_
    unfold writeOf
    by_cases c : l.any noId = true
    · rw [if_pos c, if_pos c]
    · obtain ⟨p1, p2, p3⟩ := pre_facts l hl hg (row_ids l c) s hs
      rw [if_neg c, if_neg c, ea, write_end s hs _ p1 p2 p3 l j]
  unfold row_Write.f
  by_cases c : s.data.toList = []
  · rw [if_pos (by rw [toList_eq]; exact c)]
    exact J [] (by unfold preL; rw [if_pos c])
  · rw [if_neg (by rw [toList_eq]; exact c), if_pos (by omega), if_pos (by simp), rem_is, List.nil_append]
    exact J _ (by unfold preL; rw [if_neg c])
end Go.Proofs.YtpkjpiphjdpegaaDoor.P
namespace Go.Proofs.YtpkjpiphjdpegaaDoor.P
open Go.RowKit Go.Proofs.YtpkjpiphjdpegaaDoorW.PrintWords Go.Proofs.YtpkjpiphjdpegaaDoorW.PrintLast Go.Proofs.YtpkjpiphjdpegaaDoorW.PrintMore
open Go.Sort Go.Proofs Go.Proofs.YtpkjpiphjdpegaaDoor.Z
set_option linter.unusedVariables false
set_option linter.unusedSimpArgs false
attribute [local instance] inhS44
structure Srt (l s : List S44) (T : Nat → Nat) : Prop where
  len : s.length = l.length
  lt : ∀ i, i < l.length → T i < l.length
  at_ : ∀ i, i < l.length → s.getD i z44 = l.getD (T i) z44
  onto : ∀ k, k < l.length → ∃ i, i < l.length ∧ T i = k
  inj : ∀ i j, i < j → j < l.length → T i ≠ T j
  asc : ∀ i j, i < j → j < l.length → Op.bytesLess (rowKey (s.getD j z44)) (rowKey (s.getD i z44)) = false ∧ (rowKey (s.getD j z44) = rowKey (s.getD i z44) → T i ≤ T j)
theorem srt_is (l : List S44) : ∃ T, Srt l (sortL rowKey l) T := by
  obtain ⟨r1, r2⟩ := fold_sorted rowKey l 0 [] List.Pairwise.nil (fun y hy => by cases hy)
  have r3 := fold_fst rowKey (l.zipIdx 0) []
  rw [List.nil_append] at r2
  generalize (l.zipIdx 0).foldl (fun acc x => insL (fun y => rowKey y.1) x acc) [] = D at r1 r2 r3
  have e : D.map Prod.fst = sortL rowKey l := by
    rw [r3]
    unfold sortL
    congr 1
    simp [List.zipIdx_map_fst]
  have dl : D.length = l.length := by rw [r2.length_eq]; simp
  have gd : ∀ i (h : i < D.length), (sortL rowKey l).getD i z44 = D[i].1 ∧ (D.getD i (z44, 0)).2 = D[i].2 := fun i h => by
    rw [← e, List.getD_eq_getElem?_getD, List.getElem?_map, List.getD_eq_getElem?_getD, List.getElem?_eq_getElem h]
    exact ⟨rfl, rfl⟩
  have mem : ∀ i (h : i < D.length), l[D[i].2]? = some D[i].1 := fun i h => by
    have := r2.mem_iff.1 (List.getElem_mem h)
    have := List.mem_zipIdx_iff_getElem?.1 this
    simpa using this
  refine ⟨fun i => (D.getD i (z44, 0)).2, ⟨by rw [← e, List.length_map, dl], fun i hi => ?_, fun i hi => ?_, fun k hk => ?_, fun i j hij hj => ?_, fun i j hij hj => ?_⟩⟩
  · rw [(gd i (by omega)).2]
    exact (List.getElem?_eq_some_iff.1 (mem i (by omega))).1
  · rw [(gd i (by omega)).1, (gd i (by omega)).2, List.getD_eq_getElem?_getD, mem i (by omega)]
    rfl
  · have : (l[k], k) ∈ l.zipIdx 0 := List.mem_zipIdx_iff_getElem?.2 (by simp)
    have := r2.mem_iff.2 this
    obtain ⟨i, hi, he⟩ := List.getElem_of_mem this
    refine ⟨i, by omega, ?_⟩
    rw [(gd i hi).2, he]
  · rw [(gd i (by omega)).2, (gd j (by omega)).2]
    have p := (r2.map Prod.snd)
    have nd : (D.map Prod.snd).Nodup := by
      refine p.nodup_iff.2 ?_
      rw [List.zipIdx_map_snd]
      exact List.nodup_range' ..
    have := List.pairwise_iff_getElem.1 nd i j (by rw [List.length_map]; omega) (by rw [List.length_map]; omega) hij
    simpa using this
  · have := List.pairwise_iff_getElem.1 r1 i j (by omega) (by omega) hij
    have f := (ltB_false rowKey).1 this
    rw [(gd i (by omega)).1, (gd j (by omega)).1, (gd i (by omega)).2, (gd j (by omega)).2]
    exact f
theorem sort_len (l : List S44) : (sortL rowKey l).length = l.length := by
  obtain ⟨T, h⟩ := srt_is l
  exact h.len
theorem sort_f (l : List S44) (h : l.length ≤ 1000000) : row_Sort.f l = some (sortL rowKey l) := if_pos h
end Go.Proofs.YtpkjpiphjdpegaaDoor.P
namespace Go.Proofs.YtpkjpiphjdpegaaDoor.P
open Go.RowKit Go.Proofs.YtpkjpiphjdpegaaDoorW.PrintWords Go.Proofs.YtpkjpiphjdpegaaDoorW.PrintLast Go.Proofs.YtpkjpiphjdpegaaDoorW.PrintMore
set_option linter.unusedVariables false
set_option linter.unusedSimpArgs false
theorem refWithin_is (c : Int) : paymasterref07_within.f c = some (withinR c) := by
  unfold paymasterref07_within.f withinR
  repeat' split
  all_goals first
    | exact congrArg some (decide_eq_true (by omega)).symm
    | exact congrArg some (decide_eq_decide.2 (by omega))
theorem refMayId_loop (s : ByteArray) (hs : s.size ≤ 1000000000) : ∀ (n p x : Nat), s.size ≤ p + n → x ≤ p → p ≤ s.size + 4 →
    paymasterref07_MayId.l0 (n + 11) s x p = some (Lib.validD (s.data.toList.drop p) && (runesAt s n p).all withinR && decide (1 ≤ x + (runesAt s n p).length ∧ x + (runesAt s n p).length ≤ 24))
  | n, p, x, h, hx, hp4 => by
    by_cases hp : p < s.size
    · obtain ⟨m, rfl⟩ : ∃ m, n = m + 1 := ⟨n - 1, by omega⟩
      have w1 := wide_pos s p hp
      have w4 := wide_4 s p
      have r1 := Lib.rune_le s p
      rw [paymasterref07_MayId.l0, if_pos (by omega), show m + 11 = (m + 1) + 10 from rfl, rune_is (m + 1) s p hp hs, Option.bind_some, runeR_is, valid_at s p hp]
      by_cases b : badAt s p
      · have e : decR (Utf8.decode s p) = (0, 0) := by unfold decR; rw [if_pos b]
        rw [e, if_pos b, if_pos rfl]
        rfl
      · have e : decR (Utf8.decode s p) = (((Utf8.decode s p).1 : Int), ((Utf8.decode s p).2 : Int)) := by unfold decR; rw [if_neg b]
        rw [e, if_neg b, if_neg (show ¬ (((Utf8.decode s p).2 : Nat) : Int) = 0 by omega), refWithin_is, Option.bind_some, runesAt, if_pos hp, List.all_cons]
        have wp : wrap64 ((p : Int) + (((Utf8.decode s p).2 : Nat) : Int)) = ((p + (Utf8.decode s p).2 : Nat) : Int) := by rw [wrap64_in _ (by omega)]; push_cast; rfl
        have wx : wrap64 ((x : Int) + 1) = ((x + 1 : Nat) : Int) := by rw [wrap64_in _ (by omega)]; push_cast; rfl
        by_cases c : withinR (((Utf8.decode s p).1 : Nat) : Int) = true
        · rw [if_pos c, wp, wx, show m + 1 + 10 = m + 11 by omega, refMayId_loop s hs m (p + (Utf8.decode s p).2) (x + 1) (by omega) (by omega) (by omega), c, Bool.true_and, List.length_cons]
          congr 2
          rw [decide_eq_decide]
          omega
        · rw [if_neg c]
          have c' : withinR (((Utf8.decode s p).1 : Nat) : Int) = false := by simpa using c
          rw [c', Bool.false_and, Bool.and_false, Bool.false_and]
    · rw [paymasterref07_MayId.l0, if_neg (by omega), valid_end s p hp, runesAt_end s n p hp]
      simp only [List.all_nil, Bool.and_self, Bool.true_and, List.length_nil, Nat.add_zero]
      by_cases c : (x : Int) ≥ 1
      · rw [if_pos c]
        exact congrArg some (decide_eq_decide.2 (by omega))
      · rw [if_neg c, decide_eq_false (by omega)]
theorem refMayId_is (s : ByteArray) (hs : s.size ≤ 1000000000) (k : Nat) (hk : s.size + 11 ≤ k) : paymasterref07_MayId.f k s = some (mayId s) := by
  refine up (F := fun k => paymasterref07_MayId.f k s) (paymasterref07_MayId.mono s) (a := s.size + 11) ?_ k hk
  have := refMayId_loop s hs s.size 0 0 (by omega) (Nat.le_refl _) (by omega)
  unfold paymasterref07_MayId.f
  rw [show (((0 : Nat) : Int)) = 0 from rfl] at this
  rw [this]
  unfold mayId
  rw [List.drop_zero, Nat.zero_add]
end Go.Proofs.YtpkjpiphjdpegaaDoor.P
namespace Go.Proofs.YtpkjpiphjdpegaaDoor.P
open Go.RowKit Go.Proofs.YtpkjpiphjdpegaaDoorW.PrintWords Go.Proofs.YtpkjpiphjdpegaaDoorW.PrintLast Go.Proofs.YtpkjpiphjdpegaaDoorW.PrintMore
attribute [local go_sem] max2_int min2_int max_two min_two max_three min_three max_four min_four
set_option linter.unusedVariables false
set_option linter.unusedSimpArgs false
attribute [local go_sem high] eqA42 eqA44
mutual
def paymasterref01_Over.l0 : Nat → Int → List Int → List Int → Int → Int → Option (Int × Int × Int × Int)
  | 0, _, _, _, _, _ => none
  | k + 1, x1, x7, x8, x9, x10 => if x10 ≥ 0 then (paymasterref01_Over.l1 k x1 x7 x8 x9 x10 32768) else ((paymasterref01_number.f k x8).bind fun bt613 => (some (bt613.1, bt613.2.1, x9, 0)))
def paymasterref01_Over.l1 : Nat → Int → List Int → List Int → Int → Int → Int → Option (Int × Int × Int × Int)
  | 0, _, _, _, _, _, _ => none
  | k + 1, x1, x7, x8, x9, x10, x11 => if x11 > 0 then (if 0 ≤ x10 then (if x10 < (x7.length : Int) then (if x11 = 0 then (none) else (if x9 ≥ (IntKind.u64.wrap (x1 - x9)) then (if x10 < (x8.length : Int) then (paymasterref01_Over.l1 k x1 x7 (x8.set (x10 : Int).toNat (IntKind.u64.wrap ((rd x8 x10) + x11))) (IntKind.u64.wrap ((IntKind.u64.wrap (x9 - (IntKind.u64.wrap (x1 - x9)))) + (Int.tmod (IntKind.u64.wrap (Int.tdiv (rd x7 x10) x11)) 2))) x10 (IntKind.u64.wrap (Int.tdiv x11 2))) else (none)) else (if (IntKind.u64.wrap (x9 + 1)) ≥ (IntKind.u64.wrap (x1 - x9)) then (if (Int.tmod (IntKind.u64.wrap (Int.tdiv (rd x7 x10) x11)) 2) = 1 then (if x10 < (x8.length : Int) then (paymasterref01_Over.l1 k x1 x7 (x8.set (x10 : Int).toNat (IntKind.u64.wrap ((rd x8 x10) + x11))) (IntKind.u64.wrap ((IntKind.u64.wrap (x9 - (IntKind.u64.wrap (x1 - x9)))) + (Int.tmod (IntKind.u64.wrap (Int.tdiv (rd x7 x10) x11)) 2))) x10 (IntKind.u64.wrap (Int.tdiv x11 2))) else (none)) else (paymasterref01_Over.l1 k x1 x7 x8 (IntKind.u64.wrap ((IntKind.u64.wrap (2 * x9)) + (Int.tmod (IntKind.u64.wrap (Int.tdiv (rd x7 x10) x11)) 2))) x10 (IntKind.u64.wrap (Int.tdiv x11 2)))) else (paymasterref01_Over.l1 k x1 x7 x8 (IntKind.u64.wrap ((IntKind.u64.wrap (2 * x9)) + (Int.tmod (IntKind.u64.wrap (Int.tdiv (rd x7 x10) x11)) 2))) x10 (IntKind.u64.wrap (Int.tdiv x11 2)))))) else (none)) else (none)) else (paymasterref01_Over.l0 k x1 x7 x8 x9 (wrap64 (x10 - 1)))
end
def paymasterref01_Over.f (k : Nat) (a0_0 : Int) (a0_1 : Int) (a1 : Int) : Option (Int × Int × Int × Int) := if a1 = 0 then (some (0, 0, 0, 2)) else ((paymasterref01_digits.f k a0_0 a0_1).bind fun t607 => (if 8 ≤ 35184372088832 then (paymasterref01_Over.l0 k a1 t607 (List.replicate 8 0) 0 7) else (none)))
set_option maxHeartbeats 8000000 in
set_option maxRecDepth 100000 in
theorem paymasterref01_Over.calls (k : Nat) (a0_0 : Int) (a0_1 : Int) (a1 : Int) (r1 : Int) (r2 : Int) (r3 : Int) (r4 : Int) (w : World) (h : paymasterref01_Over.f k a0_0 a0_1 a1 = some (r1, r2, r3, r4)) :
    Calls Tryd.prog 116 #[.agg #[.int .u64 a0_0, .int .u64 a0_1], .int .u64 a1] w fun e w' => e = .returned (.tuple #[.agg #[.int .u64 r1, .int .u64 r2], .int .u64 r3, .int .i64 r4]) ∧ Below w.heap.size w w' := by
  have hu42 := Tryd.underlying42
  have HB := Aside0.mk (Below.refl w.heap.size w)
  have H : (if a1 = 0 then (some (0, 0, 0, 2)) else ((paymasterref01_digits.f k a0_0 a0_1).bind fun t607 => (if 8 ≤ 35184372088832 then (paymasterref01_Over.l0 k a1 t607 (List.replicate 8 0) 0 7) else (none)))) = some (r1, r2, r3, r4) := h
  clear h
  by_cases c3 : a1 = 0
  · rw [if_pos c3] at H
    have c3b0 : (a1 == 0) = true := beq_iff_eq.mpr c3
    have c3b1 : (a1 != 0) = false := bne_eq_false_iff_eq.mpr c3
    clear c3
    simp only [Option.some.injEq, Prod.mk.injEq] at H
    obtain ⟨rfl, rfl, rfl, rfl⟩ := H
    go_enter Tryd.func116, Tryd.ntmps116
    go_wp2_with (first | ((with_reducible refine gate_dst (N := 2) rfl ?_); refine box_event ?hg (N := 2) ?hd (cs := #[.int .u64 a0_0, .int .u64 a0_1]) (t := 42) ?hr ?_; (case hd => rfl); (case hg => rfl); (case hr => first | (go_simp; done) | (go_simp; rfl)); intro gb605 hg w4 hbox hb; have n0_ := Aside0.mk (below_step (by repeat (first | (with_reducible first | exact HB.out | apply below_alloc | apply pw_below_drewN | apply below_drew1) | exact HB.out)) hb); have n1_ := Aside0.mk (hbox); have n2_ := Aside0.mk ((by rw [hg]; exact (below_size (by repeat (first | (with_reducible first | exact HB.out | apply below_alloc | apply pw_below_drewN | apply below_drew1) | exact HB.out))) : w.heap.size ≤ gb605)); have n3_ := Aside0.mk ((by rw [hg]; exact (below_size (by repeat (first | (with_reducible first | exact HB.out | apply below_alloc | apply pw_below_drewN | apply below_drew1) | exact HB.out))) : w.heap.size ≤ gb605)); clear HB; have HB := n0_; have BK605 := n1_; have GW605 := n2_; have GE605 := n3_; clear n0_ n1_ n2_ n3_; clear hb hbox hg) | ((with_reducible refine gate_dst (N := 4) rfl ?_); refine box_event ?hg (N := 4) ?hd (cs := #[.int .u64 0, .int .u64 0]) (t := 42) ?hr ?_; (case hd => rfl); (case hg => rfl); (case hr => first | (go_simp; done) | (go_simp; rfl)); intro gb606 hg w5 hbox hb; have n0_ := Aside0.mk (blk_below (g := gb605) (o := .cells #[.int .u64 a0_0, .int .u64 a0_1] 42 (0, 0)) (by (with_reducible repeat (first | refine blk_drewN ?_ _ | refine blk_drew ?_ | refine blk_alloc ?_ _)); exact BK605.out) hb); have n1_ := Aside0.mk (below_step (by repeat (first | (with_reducible first | exact HB.out | apply below_alloc | apply pw_below_drewN | apply below_drew1 | refine below_set ?_ GE605.out) | exact HB.out)) hb); have n2_ := Aside0.mk (hbox); have n3_ := Aside0.mk ((by rw [hg]; exact (below_size (by repeat (first | (with_reducible first | exact HB.out | apply below_alloc | apply pw_below_drewN | apply below_drew1 | refine below_set ?_ GE605.out) | exact HB.out))) : w.heap.size ≤ gb606)); have n4_ := Aside0.mk ((by rw [hg]; exact (below_size (by repeat (first | (with_reducible first | exact HB.out | apply below_alloc | apply pw_below_drewN | apply below_drew1 | refine below_set ?_ GE605.out) | exact HB.out))) : w.heap.size ≤ gb606)); have n5_ := Aside0.mk ((by rw [hg]; exact Nat.ne_of_lt (blk_lt (g := gb605) (o := .cells #[.int .u64 a0_0, .int .u64 a0_1] 42 (0, 0)) (by (with_reducible repeat (first | refine blk_drewN ?_ _ | refine blk_drew ?_ | refine blk_alloc ?_ _)); exact BK605.out)) : gb605 ≠ gb606)); have n6_ := Aside0.mk ((by rw [hg]; exact Nat.ne_of_gt (blk_lt (g := gb605) (o := .cells #[.int .u64 a0_0, .int .u64 a0_1] 42 (0, 0)) (by (with_reducible repeat (first | refine blk_drewN ?_ _ | refine blk_drew ?_ | refine blk_alloc ?_ _)); exact BK605.out)) : gb606 ≠ gb605)); clear BK605; clear HB; have BK605 := n0_; have HB := n1_; have BK606 := n2_; have GW606 := n3_; have GE606 := n4_; have NB605_606 := n5_; have NB606_605 := n6_; clear n0_ n1_ n2_ n3_ n4_ n5_ n6_; clear hb hbox hg; have hnb6 := NB606_605.out; have hnc6 := NB605_606.out; have hcz7_0 : w5.cell? ⟨gb606, 0, none⟩ = some (.int .u64 0) := (blk_cell BK606.out 0).trans rfl; have hcz7_1 : w5.cell? ⟨gb606, 1, none⟩ = some (.int .u64 0) := (blk_cell BK606.out 1).trans rfl; have hfz7_0 := blk_frozen BK606.out 0; have hfz7_1 := blk_frozen BK606.out 1))
    refine bodyPost_ret (results_ctt rfl _ _ gb606 42 #[.int .u64 0, .int .u64 0] (0, 0) _ rfl (by (with_reducible repeat (first | refine blk_drewN ?_ _ | refine blk_drew ?_ | refine blk_alloc ?_ _)); refine blk_put (cs := #[.int .u64 0, .int .u64 0]) ?_ 1 _ rfl; (with_reducible repeat (first | refine blk_drewN ?_ _ | refine blk_drew ?_ | refine blk_alloc ?_ _)); refine blk_put (cs := #[.int .u64 0, .int .u64 0]) ?_ 0 _ rfl; (with_reducible repeat (first | refine blk_drewN ?_ _ | refine blk_drew ?_ | refine blk_alloc ?_ _)); exact BK606.out) Tryd.underlying42 rfl (by kernel_rfl)) rfl ?_
    exact ⟨by first | rfl | (simp [errW_none, errW_some] <;> rfl) | (simp [*, errW_none, errW_some] <;> rfl), by repeat (first | (with_reducible first | exact HB.out | apply below_alloc | apply pw_below_drewN | apply below_drew1 | refine below_set ?_ GE605.out | refine below_set ?_ GE606.out) | exact HB.out)⟩
  · rw [if_neg c3] at H
    have c3b0 : (a1 == 0) = false := beq_eq_false_iff_ne.mpr c3
    have c3b1 : (a1 != 0) = true := bne_iff_ne.mpr c3
    replace H := Option.bind_eq_some_iff.mp H
    obtain ⟨t607, A80, H⟩ := H
    replace H : (if 8 ≤ 35184372088832 then (paymasterref01_Over.l0 k a1 t607 (List.replicate 8 0) 0 7) else (none)) = some (r1, r2, r3, r4) := H
    have A8 := Aside0.mk A80
    clear A80
    by_cases c9 : 8 ≤ 35184372088832
    · rw [if_pos c9] at H
      have c9b0 := eq_true c9
      have c9b1 : decide (8 ≤ 35184372088832) = true := decide_eq_true c9
      clear c9
      obtain ⟨y610, hy610⟩ : ∃ y_ : List Int, y_ = (List.replicate 8 0) := ⟨_, rfl⟩
      replace H : (paymasterref01_Over.l0 k a1 t607 y610 0 7) = some (r1, r2, r3, r4) := by first | (rw [hy610]; with_reducible exact H) | (have H2_ := (Option.bind_some _ _).symm.trans H; rw [hy610]; with_reducible exact H2_) | (have H2_ := (Option.bind_some _ _).symm.trans H; with_reducible exact H2_) | with_reducible exact H | (rw [hy610]; exact H) | exact H
      have Ny610 := Aside0.mk hy610
      clear hy610
      have H' := Aside0.mk H
      clear H
      go_enter Tryd.func116, Tryd.ntmps116
      go_wp2_with (first | ((with_reducible refine gate_dst (N := 2) rfl ?_); refine box_event ?hg (N := 2) ?hd (cs := #[.int .u64 a0_0, .int .u64 a0_1]) (t := 42) ?hr ?_; (case hd => rfl); (case hg => rfl); (case hr => first | (go_simp; done) | (go_simp; rfl)); intro gb605 hg w10 hbox hb; have n0_ := Aside0.mk (below_step (by repeat (first | (with_reducible first | exact HB.out | apply below_alloc | apply pw_below_drewN | apply below_drew1) | exact HB.out)) hb); have n1_ := Aside0.mk (hbox); have n2_ := Aside0.mk ((by rw [hg]; exact (below_size (by repeat (first | (with_reducible first | exact HB.out | apply below_alloc | apply pw_below_drewN | apply below_drew1) | exact HB.out))) : w.heap.size ≤ gb605)); have n3_ := Aside0.mk ((by rw [hg]; exact (below_size (by repeat (first | (with_reducible first | exact HB.out | apply below_alloc | apply pw_below_drewN | apply below_drew1) | exact HB.out))) : w.heap.size ≤ gb605)); clear HB; have HB := n0_; have BK605 := n1_; have GW605 := n2_; have GE605 := n3_; clear n0_ n1_ n2_ n3_; clear hb hbox hg) | ((with_reducible refine gate_dst (N := 4) rfl ?_); refine box_event ?hg (N := 4) ?hd (cs := #[.int .u64 0, .int .u64 0]) (t := 42) ?hr ?_; (case hd => rfl); (case hg => rfl); (case hr => first | (go_simp; done) | (go_simp; rfl)); intro gb606 hg w11 hbox hb; have n0_ := Aside0.mk (blk_below (g := gb605) (o := .cells #[.int .u64 a0_0, .int .u64 a0_1] 42 (0, 0)) (by (with_reducible repeat (first | refine blk_drewN ?_ _ | refine blk_drew ?_ | refine blk_alloc ?_ _)); exact BK605.out) hb); have n1_ := Aside0.mk (below_step (by repeat (first | (with_reducible first | exact HB.out | apply below_alloc | apply pw_below_drewN | apply below_drew1 | refine below_set ?_ GE605.out) | exact HB.out)) hb); have n2_ := Aside0.mk (hbox); have n3_ := Aside0.mk ((by rw [hg]; exact (below_size (by repeat (first | (with_reducible first | exact HB.out | apply below_alloc | apply pw_below_drewN | apply below_drew1 | refine below_set ?_ GE605.out) | exact HB.out))) : w.heap.size ≤ gb606)); have n4_ := Aside0.mk ((by rw [hg]; exact (below_size (by repeat (first | (with_reducible first | exact HB.out | apply below_alloc | apply pw_below_drewN | apply below_drew1 | refine below_set ?_ GE605.out) | exact HB.out))) : w.heap.size ≤ gb606)); have n5_ := Aside0.mk ((by rw [hg]; exact Nat.ne_of_lt (blk_lt (g := gb605) (o := .cells #[.int .u64 a0_0, .int .u64 a0_1] 42 (0, 0)) (by (with_reducible repeat (first | refine blk_drewN ?_ _ | refine blk_drew ?_ | refine blk_alloc ?_ _)); exact BK605.out)) : gb605 ≠ gb606)); have n6_ := Aside0.mk ((by rw [hg]; exact Nat.ne_of_gt (blk_lt (g := gb605) (o := .cells #[.int .u64 a0_0, .int .u64 a0_1] 42 (0, 0)) (by (with_reducible repeat (first | refine blk_drewN ?_ _ | refine blk_drew ?_ | refine blk_alloc ?_ _)); exact BK605.out)) : gb606 ≠ gb605)); clear BK605; clear HB; have BK605 := n0_; have HB := n1_; have BK606 := n2_; have GW606 := n3_; have GE606 := n4_; have NB605_606 := n5_; have NB606_605 := n6_; clear n0_ n1_ n2_ n3_ n4_ n5_ n6_; clear hb hbox hg; have hnb12 := NB605_606.out; have hnc12 := NB606_605.out; have hcz13_0 : w11.cell? ⟨gb605, 0, none⟩ = some (.int .u64 a0_0) := (blk_cell BK605.out 0).trans rfl; have hcz13_1 : w11.cell? ⟨gb605, 1, none⟩ = some (.int .u64 a0_1) := (blk_cell BK605.out 1).trans rfl; have hfz13_0 := blk_frozen BK605.out 0; have hfz13_1 := blk_frozen BK605.out 1) | ((with_reducible refine gate_callee (f := 128) rfl ?_); refine goesL_ (some 19) rfl rfl Tryd.func128 (by kernel_rfl) rfl #[.agg #[.int .u64 a0_0, .int .u64 a0_1]] rfl (by (try simp only [List.map_toArray, List.map_cons, List.map_nil]); first | done | rfl | (simp only [List.length_drop, List.length_take]; rfl)) ?_; (with_reducible refine (paymasterref01_digits.calls k a0_0 a0_1 t607 _ A8.out).mono ?_); rintro e w14 ⟨v608, rfl, ho0, hb⟩; refine ⟨_, rfl, ?_⟩; have n0_ := Aside0.mk (Kd.R_lower ho0 (below_size (by repeat (first | (with_reducible first | exact HB.out | apply below_alloc | apply pw_below_drewN | apply below_drew1 | refine below_set ?_ GE605.out | refine below_set ?_ GE606.out) | exact HB.out)))); have n1_ := Aside0.mk (blk_below (g := gb605) (o := .cells #[.int .u64 a0_0, .int .u64 a0_1] 42 (0, 0)) (by (with_reducible repeat (first | refine blk_drewN ?_ _ | refine blk_drew ?_ | refine blk_alloc ?_ _)); exact BK605.out) hb); have n2_ := Aside0.mk (blk_below (g := gb606) (o := .cells #[.int .u64 0, .int .u64 0] 42 (0, 0)) (by (with_reducible repeat (first | refine blk_drewN ?_ _ | refine blk_drew ?_ | refine blk_alloc ?_ _)); exact BK606.out) hb); have n3_ := Aside0.mk (below_step (by repeat (first | (with_reducible first | exact HB.out | apply below_alloc | apply pw_below_drewN | apply below_drew1 | refine below_set ?_ GE605.out | refine below_set ?_ GE606.out) | exact HB.out)) hb); clear BK605; clear BK606; clear HB; have HO609 := n0_; have BK605 := n1_; have BK606 := n2_; have HB := n3_; clear n0_ n1_ n2_ n3_; (try clear hb); (try clear hb2); (try clear hk); (try clear hi); (try clear ho0)) | ((with_reducible refine gate_dst (N := 20) rfl ?_); refine Kd.R_make (Kd.int .u64) _ 40 rfl (N := 20) rfl 172 _ _ rfl 8 rfl rfl Tryd.underlying172 (.int .u64 0) 8 info40 rfl (by decide) (by omega) 0 (ok := fun _ => True) (okp := fun _ => True) rfl (fun _ hk => hk) trivial (by omega) (by omega) (Below.refl _ _) (Nat.le_refl _) ?_; intro v611 w15 ho16 hb hg_ hnew_; clear hg_ hnew_; (first | rw [← Ny610.out] at ho16 | (simp only [Int.reduceToNat] at ho16; rw [← Ny610.out] at ho16)); have n0_ := Aside0.mk (Kd.R_elder' (by (with_reducible repeat (first | apply Kd.R_alloc | apply Kd.R_drewN | apply Kd.R_drew)); exact HO609.out) (Kd.R_base ho16) hb); have n1_ := Aside0.mk (Kd.R_lower (Kd.R_new' ho16 (Kd.R_lt (by (with_reducible repeat (first | apply Kd.R_alloc | apply Kd.R_drewN | apply Kd.R_drew)); exact HO609.out))) (below_size (by repeat (first | (with_reducible first | exact HB.out | apply below_alloc | apply pw_below_drewN | apply below_drew1 | refine below_set ?_ GE605.out | refine below_set ?_ GE606.out) | exact HB.out)))); have n2_ := Aside0.mk (blk_below (g := gb605) (o := .cells #[.int .u64 a0_0, .int .u64 a0_1] 42 (0, 0)) (by (with_reducible repeat (first | refine blk_drewN ?_ _ | refine blk_drew ?_ | refine blk_alloc ?_ _)); exact BK605.out) hb); have n3_ := Aside0.mk (blk_below (g := gb606) (o := .cells #[.int .u64 0, .int .u64 0] 42 (0, 0)) (by (with_reducible repeat (first | refine blk_drewN ?_ _ | refine blk_drew ?_ | refine blk_alloc ?_ _)); exact BK606.out) hb); have n4_ := Aside0.mk (below_step (by repeat (first | (with_reducible first | exact HB.out | apply below_alloc | apply pw_below_drewN | apply below_drew1 | refine below_set ?_ GE605.out | refine below_set ?_ GE606.out) | exact HB.out)) hb); clear HO609; clear BK605; clear BK606; clear HB; have HO609 := n0_; have HO612 := n1_; have BK605 := n2_; have BK606 := n3_; have HB := n4_; clear n0_ n1_ n2_ n3_ n4_; clear hb ho16))
      go_loopg [9, 10] k (fun kq v9 v10 w' => ∃ (x8_1 : List Int) (x9_1 : Int) (x10_1 : Int), v9 = .int .u64 x9_1 ∧ v10 = .int .i64 x10_1 ∧ Aside0 (paymasterref01_Over.l0 kq a1 t607 x8_1 x9_1 x10_1 = some (r1, r2, r3, r4)) ∧ Aside0 (kq ≤ k) ∧ Aside0 (Kd.R (Kd.int .u64) 40 w' w.heap.size (fun k_ => some k_ ≠ (v611 : Value).ownBlock) v608 t607) ∧ Aside0 (Kd.R (Kd.int .u64) 40 w' w.heap.size (fun k_ => some k_ ≠ (v608 : Value).ownBlock) v611 x8_1) ∧ Aside0 (w'.heap[gb605]? = some (.cells #[.int .u64 a0_0, .int .u64 a0_1] 42 (0, 0))) ∧ Aside0 (w'.heap[gb606]? = some (.cells #[.int .u64 0, .int .u64 0] 42 (0, 0))) ∧ Aside0 (Below w.heap.size w w'))
      case atStart => exact ⟨(y610), (0), (7), (by first | rfl | (simp; done) | (simp [*]; done)), (by first | rfl | (simp; done) | (simp [*]; done)), H', ⟨Nat.le_refl _⟩, ⟨by (with_reducible repeat (first | apply Kd.R_alloc | apply Kd.R_drewN | apply Kd.R_drew)); exact Kd.R_mono HO609.out (fun _ hk => hk.2)⟩, ⟨by (with_reducible repeat (first | apply Kd.R_alloc | apply Kd.R_drewN | apply Kd.R_drew)); exact Kd.R_mono HO612.out (fun _ hk => hk.2)⟩, ⟨by (with_reducible repeat (first | refine blk_drewN ?_ _ | refine blk_drew ?_ | refine blk_alloc ?_ _)); exact BK605.out⟩, ⟨by (with_reducible repeat (first | refine blk_drewN ?_ _ | refine blk_drew ?_ | refine blk_alloc ?_ _)); exact BK606.out⟩, ⟨by repeat (first | (with_reducible first | exact HB.out | apply below_alloc | apply pw_below_drewN | apply below_drew1 | refine below_set ?_ GE605.out | refine below_set ?_ GE606.out) | exact HB.out)⟩⟩
      case round =>
        clear H'
        try clear c1
        try clear p2
        try clear c3
        try clear c3b0
        try clear c3b1
        try clear c6
        try clear c9
        try clear c9b0
        try clear c9b1
        try clear c11
        try clear c12
        try clear hcz13_0
        try clear hcz13_1
        try clear hcz7_0
        try clear hcz7_1
        try clear hfz13_0
        try clear hfz13_1
        try clear hfz7_0
        try clear hfz7_1
        obtain ⟨x8_1, x9_1, x10_1, rfl, rfl, HA, HK1, HO_7, HO_8, BK605, BK606, HB⟩ := hrel
        cases gk with
        | zero => exact absurd HA.out (by simp [paymasterref01_Over.l0])
        | succ k1 =>
          have H := HA.out
          clear HA
          simp only [paymasterref01_Over.l0] at H
          by_cases c17 : x10_1 ≥ 0
          · rw [if_pos c17] at H
            have c17b0 : decide (0 ≤ x10_1) = true := decide_eq_true c17
            clear c17
            have H' := Aside0.mk H
            clear H
            go_wp2
            go_loopg [9, 11] k1 (fun kq v9 v11 w' => ∃ (x8_2 : List Int) (x9_2 : Int) (x11_2 : Int), v9 = .int .u64 x9_2 ∧ v11 = .int .u64 x11_2 ∧ Aside0 (paymasterref01_Over.l1 kq a1 t607 x8_2 x9_2 x10_1 x11_2 = some (r1, r2, r3, r4)) ∧ Aside0 (kq ≤ k1) ∧ Aside0 (Kd.R (Kd.int .u64) 40 w' w.heap.size (fun k_ => some k_ ≠ (v611 : Value).ownBlock) v608 t607) ∧ Aside0 (Kd.R (Kd.int .u64) 40 w' w.heap.size (fun k_ => some k_ ≠ (v608 : Value).ownBlock) v611 x8_2) ∧ Aside0 (w'.heap[gb605]? = some (.cells #[.int .u64 a0_0, .int .u64 a0_1] 42 (0, 0))) ∧ Aside0 (w'.heap[gb606]? = some (.cells #[.int .u64 0, .int .u64 0] 42 (0, 0))) ∧ Aside0 (Below w.heap.size w w'))
            case atStart => exact ⟨(x8_1), (x9_1), (32768), (by first | rfl | (simp; done) | (simp [*]; done)), (by first | rfl | (simp; done) | (simp [*]; done)), H', ⟨Nat.le_refl _⟩, ⟨by (with_reducible repeat (first | apply Kd.R_alloc | apply Kd.R_drewN | apply Kd.R_drew)); exact HO_7.out⟩, ⟨by (with_reducible repeat (first | apply Kd.R_alloc | apply Kd.R_drewN | apply Kd.R_drew)); exact HO_8.out⟩, ⟨by (with_reducible repeat (first | refine blk_drewN ?_ _ | refine blk_drew ?_ | refine blk_alloc ?_ _)); exact BK605.out⟩, ⟨by (with_reducible repeat (first | refine blk_drewN ?_ _ | refine blk_drew ?_ | refine blk_alloc ?_ _)); exact BK606.out⟩, ⟨by repeat (first | (with_reducible first | exact HB.out | apply below_alloc | apply pw_below_drewN | apply below_drew1 | refine below_set ?_ GE605.out | refine below_set ?_ GE606.out) | exact HB.out)⟩⟩
            case round =>
              clear H'
              try clear c1
              try clear p2
              try clear c3
              try clear c3b0
              try clear c3b1
              try clear c6
              try clear c9
              try clear c9b0
              try clear c9b1
              try clear c11
              try clear c12
              try clear c17
              try clear c17b0
              try clear hcz13_0
              try clear hcz13_1
              try clear hcz7_0
              try clear hcz7_1
              try clear hfz13_0
              try clear hfz13_1
              try clear hfz7_0
              try clear hfz7_1
              try clear p2
              obtain ⟨x8_2, x9_2, x11_2, rfl, rfl, HA, HK2, HO_7, HO_8, BK605, BK606, HB⟩ := hrel
              cases gk with
              | zero => exact absurd HA.out (by simp [paymasterref01_Over.l1])
              | succ k2 =>
                have H := HA.out
                clear HA
                simp only [paymasterref01_Over.l1] at H
                by_cases c18 : x11_2 > 0
                · rw [if_pos c18] at H
                  have c18b0 : decide (0 < x11_2) = true := decide_eq_true c18
                  clear c18
                  by_cases c19 : 0 ≤ x10_1
                  · rw [if_pos c19] at H
                    have c19b0 : decide (0 ≤ x10_1) = true := decide_eq_true c19
                    clear c19
                    by_cases c20 : x10_1 < (t607.length : Int)
                    · rw [if_pos c20] at H
                      have c20b0 : decide (x10_1 < (t607.length : Int)) = true := decide_eq_true c20
                      clear c20
                      by_cases c21 : x11_2 = 0
                      · rw [if_pos c21] at H
                        exact absurd H (by simp)
                      · rw [if_neg c21] at H
                        have c21b0 : (x11_2 == 0) = false := beq_eq_false_iff_ne.mpr c21
                        have c21b1 : (x11_2 != 0) = true := bne_iff_ne.mpr c21
                        by_cases c22 : x9_2 ≥ (IntKind.u64.wrap (a1 - x9_2))
                        · rw [if_pos c22] at H
                          have c22b0 : decide ((IntKind.u64.wrap (a1 - x9_2)) ≤ x9_2) = true := decide_eq_true c22
                          clear c22
                          by_cases c23 : x10_1 < (x8_2.length : Int)
                          · rw [if_pos c23] at H
                            have c23b0 : decide (x10_1 < (x8_2.length : Int)) = true := decide_eq_true c23
                            clear c23
                            obtain ⟨y619, hy619⟩ : ∃ y_ : List Int, y_ = (x8_2.set (x10_1 : Int).toNat (IntKind.u64.wrap ((rd x8_2 x10_1) + x11_2))) := ⟨_, rfl⟩
                            replace H : (paymasterref01_Over.l1 k2 a1 t607 y619 (IntKind.u64.wrap ((IntKind.u64.wrap (x9_2 - (IntKind.u64.wrap (a1 - x9_2)))) + (Int.tmod (IntKind.u64.wrap (Int.tdiv (rd t607 x10_1) x11_2)) 2))) x10_1 (IntKind.u64.wrap (Int.tdiv x11_2 2))) = some (r1, r2, r3, r4) := by first | (rw [hy619]; with_reducible exact H) | (have H2_ := (Option.bind_some _ _).symm.trans H; rw [hy619]; with_reducible exact H2_) | (have H2_ := (Option.bind_some _ _).symm.trans H; with_reducible exact H2_) | with_reducible exact H | (rw [hy619]; exact H) | exact H
                            have Ny619 := Aside0.mk hy619
                            clear hy619
                            have H' := Aside0.mk H
                            clear H
                            obtain ⟨Ao25, co25, eo25⟩ := Kd.R_slice HO_7.out
                            subst eo25
                            have p617 : 0 ≤ (x10_1 : Int) := of_decide_eq_true (by first | (with_reducible assumption) | assumption)
                            have q617 : x10_1 < (t607.length : Int) := of_decide_eq_true (by first | (with_reducible assumption) | assumption)
                            obtain ⟨ad617, e617, hx617_0⟩ := Kd.at_int (Kd.R_reads' HO_7.out).2.2 x10_1 p617 q617
                            cases e617
                            replace p617 := eq_true p617
                            replace q617 := eq_true q617
                            obtain ⟨Ao26, co26, eo26⟩ := Kd.R_slice HO_8.out
                            subst eo26
                            have p618 : 0 ≤ (x10_1 : Int) := of_decide_eq_true (by first | (with_reducible assumption) | assumption)
                            have q618 : x10_1 < (x8_2.length : Int) := of_decide_eq_true (by first | (with_reducible assumption) | assumption)
                            obtain ⟨ad618, e618, hx618_0⟩ := Kd.at_int (Kd.R_reads' HO_8.out).2.2 x10_1 p618 q618
                            cases e618
                            replace p618 := eq_true p618
                            replace q618 := eq_true q618
                            have p24 : 0 ≤ (x10_1 : Int) := of_decide_eq_true (by first | (with_reducible assumption) | assumption)
                            have q24 : (x10_1 : Int) < ((x8_2.length : Int) : Int) := of_decide_eq_true (by first | (with_reducible assumption) | assumption)
                            obtain ⟨go24, co24, eo24, gb24, gl24, cl24, HG24⟩ := Kd.R_form HO_8.out (by omega)
                            (first | cases eo24 | (injection eo24 with ea_ en_ ec_; (first | subst ea_ | (injection ea_ with ea_; subst ea_)); subst ec_; clear en_))
                            have GB24 := Aside0.mk gb24
                            have GG24 := Aside0.mk HG24
                            clear gb24 gl24 HG24
                            (first | simp only [add_plain] at hx618_0 | skip)
                            obtain ⟨hx24_0, hf24_0⟩ := Kd.R_celln 0 HO_8.out (x10_1 : Int) p24 q24
                            replace p24 := eq_true p24
                            replace q24 := eq_true q24
                            have HP27 := Kd.R_putg HO_8.out (x10_1 : Int) (IntKind.u64.wrap ((rd x8_2 x10_1) + x11_2))
                            go_wp2_with (first | ((with_reducible refine gate_store (t := 40) (p := 68) rfl ?_); refine store_event (t := 40) (p := 68) (v := ?vo_w28) (w1 := (wr.setCell ⟨go24, (x10_1 : Int).toNat, none⟩ (.int .u64 (IntKind.u64.wrap ((rd x8_2 x10_1) + x11_2))))) ?hg ?ho ?hn ?hr ?_; (case ho => rfl); (case hg => rfl); (case hn => rfl); (case hr => first | (go_simp; done) | (go_simp; rfl)); intro w28 hw; have hg : wr.grownBy w28 (some go24) := (by rw [hw]; exact HP27.2); have hp_ : Kd.R (Kd.int .u64) 40 w28 w.heap.size (fun k_ => some k_ ≠ (.slice (some ad617) t607.length co25 : Value).ownBlock) (.slice (some ⟨go24, 0, none⟩) x8_2.length co26) y619 := (by rw [hw, Ny619.out]; exact HP27.1); clear HP27; have n0_ := Aside0.mk (Kd.R_after (v := (.slice (some ⟨go24, 0, none⟩) x8_2.length co26)) (v1 := (.slice (some ⟨go24, 0, none⟩) x8_2.length co26)) (ok := (fun _ => True)) (by (with_reducible repeat (first | apply Kd.R_alloc | apply Kd.R_drewN | apply Kd.R_drew)); exact Kd.R_mono HO_7.out (fun _ hk => ⟨trivial, hk⟩)) hg (.inl rfl)); have n1_ := Aside0.mk (hp_); have n2_ := Aside0.mk (blk_grown (g := gb605) (o := .cells #[.int .u64 a0_0, .int .u64 a0_1] 42 (0, 0)) (by (with_reducible repeat (first | refine blk_drewN ?_ _ | refine blk_drew ?_ | refine blk_alloc ?_ _)); exact BK605.out) hg (Kd.R_ne HO_8.out BK605.out (by decide))); have n3_ := Aside0.mk (blk_grown (g := gb606) (o := .cells #[.int .u64 0, .int .u64 0] 42 (0, 0)) (by (with_reducible repeat (first | refine blk_drewN ?_ _ | refine blk_drew ?_ | refine blk_alloc ?_ _)); exact BK606.out) hg (Kd.R_ne HO_8.out BK606.out (by decide))); have n4_ := Aside0.mk ((by rw [hw]; exact below_set (HB.out) GB24.out : Below w.heap.size w w28)); clear HO_7; clear HO_8; clear BK605; clear BK606; clear HB; have HO_7 := n0_; have HO_8 := n1_; have BK605 := n2_; have BK606 := n3_; have HB := n4_; clear n0_ n1_ n2_ n3_ n4_; clear hg hw hp_))
                            go_roundg k2
                            case measure => have := HK1.out; have := HK2.out; omega
                            case rel => exact ⟨(y619), (IntKind.u64.wrap ((IntKind.u64.wrap (x9_2 - (IntKind.u64.wrap (a1 - x9_2)))) + (Int.tmod (IntKind.u64.wrap (Int.tdiv (rd t607 x10_1) x11_2)) 2))), (IntKind.u64.wrap (Int.tdiv x11_2 2)), (by first | rfl | (simp; done) | (simp [*]; done)), (by first | rfl | (simp; done) | (simp [*]; done)), H', ⟨by have := HK1.out; have := HK2.out; omega⟩, ⟨by (with_reducible repeat (first | apply Kd.R_alloc | apply Kd.R_drewN | apply Kd.R_drew)); exact Kd.R_mono HO_7.out (fun _ hk => hk.2)⟩, ⟨by (with_reducible repeat (first | apply Kd.R_alloc | apply Kd.R_drewN | apply Kd.R_drew)); exact HO_8.out⟩, ⟨by (with_reducible repeat (first | refine blk_drewN ?_ _ | refine blk_drew ?_ | refine blk_alloc ?_ _)); exact BK605.out⟩, ⟨by (with_reducible repeat (first | refine blk_drewN ?_ _ | refine blk_drew ?_ | refine blk_alloc ?_ _)); exact BK606.out⟩, ⟨by repeat (first | (with_reducible first | exact HB.out | apply below_alloc | apply pw_below_drewN | apply below_drew1 | refine below_set ?_ GE605.out | refine below_set ?_ GE606.out) | exact HB.out)⟩⟩
                          · rw [if_neg c23] at H
                            exact absurd H (by simp)
                        · rw [if_neg c22] at H
                          have c22b0 : decide ((IntKind.u64.wrap (a1 - x9_2)) ≤ x9_2) = false := decide_eq_false c22
                          clear c22
                          by_cases c29 : (IntKind.u64.wrap (x9_2 + 1)) ≥ (IntKind.u64.wrap (a1 - x9_2))
                          · rw [if_pos c29] at H
                            have c29b0 : decide ((IntKind.u64.wrap (a1 - x9_2)) ≤ (IntKind.u64.wrap (x9_2 + 1))) = true := decide_eq_true c29
                            clear c29
                            by_cases c30 : (Int.tmod (IntKind.u64.wrap (Int.tdiv (rd t607 x10_1) x11_2)) 2) = 1
                            · rw [if_pos c30] at H
                              have c30b0 : ((Int.tmod (IntKind.u64.wrap (Int.tdiv (rd t607 x10_1) x11_2)) 2) == 1) = true := beq_iff_eq.mpr c30
                              have c30b1 : ((Int.tmod (IntKind.u64.wrap (Int.tdiv (rd t607 x10_1) x11_2)) 2) != 1) = false := bne_eq_false_iff_eq.mpr c30
                              clear c30
                              by_cases c31 : x10_1 < (x8_2.length : Int)
                              · rw [if_pos c31] at H
                                have c31b0 : decide (x10_1 < (x8_2.length : Int)) = true := decide_eq_true c31
                                clear c31
                                obtain ⟨y621, hy621⟩ : ∃ y_ : List Int, y_ = (x8_2.set (x10_1 : Int).toNat (IntKind.u64.wrap ((rd x8_2 x10_1) + x11_2))) := ⟨_, rfl⟩
                                replace H : (paymasterref01_Over.l1 k2 a1 t607 y621 (IntKind.u64.wrap ((IntKind.u64.wrap (x9_2 - (IntKind.u64.wrap (a1 - x9_2)))) + (Int.tmod (IntKind.u64.wrap (Int.tdiv (rd t607 x10_1) x11_2)) 2))) x10_1 (IntKind.u64.wrap (Int.tdiv x11_2 2))) = some (r1, r2, r3, r4) := by first | (rw [hy621]; with_reducible exact H) | (have H2_ := (Option.bind_some _ _).symm.trans H; rw [hy621]; with_reducible exact H2_) | (have H2_ := (Option.bind_some _ _).symm.trans H; with_reducible exact H2_) | with_reducible exact H | (rw [hy621]; exact H) | exact H
                                have Ny621 := Aside0.mk hy621
                                clear hy621
                                have H' := Aside0.mk H
                                clear H
                                obtain ⟨Ao33, co33, eo33⟩ := Kd.R_slice HO_7.out
                                subst eo33
                                have p617 : 0 ≤ (x10_1 : Int) := of_decide_eq_true (by first | (with_reducible assumption) | assumption)
                                have q617 : x10_1 < (t607.length : Int) := of_decide_eq_true (by first | (with_reducible assumption) | assumption)
                                obtain ⟨ad617, e617, hx617_0⟩ := Kd.at_int (Kd.R_reads' HO_7.out).2.2 x10_1 p617 q617
                                cases e617
                                replace p617 := eq_true p617
                                replace q617 := eq_true q617
                                obtain ⟨Ao34, co34, eo34⟩ := Kd.R_slice HO_8.out
                                subst eo34
                                have p620 : 0 ≤ (x10_1 : Int) := of_decide_eq_true (by first | (with_reducible assumption) | assumption)
                                have q620 : x10_1 < (x8_2.length : Int) := of_decide_eq_true (by first | (with_reducible assumption) | assumption)
                                obtain ⟨ad620, e620, hx620_0⟩ := Kd.at_int (Kd.R_reads' HO_8.out).2.2 x10_1 p620 q620
                                cases e620
                                replace p620 := eq_true p620
                                replace q620 := eq_true q620
                                have p32 : 0 ≤ (x10_1 : Int) := of_decide_eq_true (by first | (with_reducible assumption) | assumption)
                                have q32 : (x10_1 : Int) < ((x8_2.length : Int) : Int) := of_decide_eq_true (by first | (with_reducible assumption) | assumption)
                                obtain ⟨go32, co32, eo32, gb32, gl32, cl32, HG32⟩ := Kd.R_form HO_8.out (by omega)
                                (first | cases eo32 | (injection eo32 with ea_ en_ ec_; (first | subst ea_ | (injection ea_ with ea_; subst ea_)); subst ec_; clear en_))
                                have GB32 := Aside0.mk gb32
                                have GG32 := Aside0.mk HG32
                                clear gb32 gl32 HG32
                                (first | simp only [add_plain] at hx620_0 | skip)
                                obtain ⟨hx32_0, hf32_0⟩ := Kd.R_celln 0 HO_8.out (x10_1 : Int) p32 q32
                                replace p32 := eq_true p32
                                replace q32 := eq_true q32
                                have HP35 := Kd.R_putg HO_8.out (x10_1 : Int) (IntKind.u64.wrap ((rd x8_2 x10_1) + x11_2))
                                go_wp2_with (first | ((with_reducible refine gate_store (t := 40) (p := 68) rfl ?_); refine store_event (t := 40) (p := 68) (v := ?vo_w36) (w1 := (wr.setCell ⟨go32, (x10_1 : Int).toNat, none⟩ (.int .u64 (IntKind.u64.wrap ((rd x8_2 x10_1) + x11_2))))) ?hg ?ho ?hn ?hr ?_; (case ho => rfl); (case hg => rfl); (case hn => rfl); (case hr => first | (go_simp; done) | (go_simp; rfl)); intro w36 hw; have hg : wr.grownBy w36 (some go32) := (by rw [hw]; exact HP35.2); have hp_ : Kd.R (Kd.int .u64) 40 w36 w.heap.size (fun k_ => some k_ ≠ (.slice (some ad617) t607.length co33 : Value).ownBlock) (.slice (some ⟨go32, 0, none⟩) x8_2.length co34) y621 := (by rw [hw, Ny621.out]; exact HP35.1); clear HP35; have n0_ := Aside0.mk (Kd.R_after (v := (.slice (some ⟨go32, 0, none⟩) x8_2.length co34)) (v1 := (.slice (some ⟨go32, 0, none⟩) x8_2.length co34)) (ok := (fun _ => True)) (by (with_reducible repeat (first | apply Kd.R_alloc | apply Kd.R_drewN | apply Kd.R_drew)); exact Kd.R_mono HO_7.out (fun _ hk => ⟨trivial, hk⟩)) hg (.inl rfl)); have n1_ := Aside0.mk (hp_); have n2_ := Aside0.mk (blk_grown (g := gb605) (o := .cells #[.int .u64 a0_0, .int .u64 a0_1] 42 (0, 0)) (by (with_reducible repeat (first | refine blk_drewN ?_ _ | refine blk_drew ?_ | refine blk_alloc ?_ _)); exact BK605.out) hg (Kd.R_ne HO_8.out BK605.out (by decide))); have n3_ := Aside0.mk (blk_grown (g := gb606) (o := .cells #[.int .u64 0, .int .u64 0] 42 (0, 0)) (by (with_reducible repeat (first | refine blk_drewN ?_ _ | refine blk_drew ?_ | refine blk_alloc ?_ _)); exact BK606.out) hg (Kd.R_ne HO_8.out BK606.out (by decide))); have n4_ := Aside0.mk ((by rw [hw]; exact below_set (HB.out) GB32.out : Below w.heap.size w w36)); clear HO_7; clear HO_8; clear BK605; clear BK606; clear HB; have HO_7 := n0_; have HO_8 := n1_; have BK605 := n2_; have BK606 := n3_; have HB := n4_; clear n0_ n1_ n2_ n3_ n4_; clear hg hw hp_))
                                go_roundg k2
                                case measure => have := HK1.out; have := HK2.out; omega
                                case rel => exact ⟨(y621), (IntKind.u64.wrap ((IntKind.u64.wrap (x9_2 - (IntKind.u64.wrap (a1 - x9_2)))) + (Int.tmod (IntKind.u64.wrap (Int.tdiv (rd t607 x10_1) x11_2)) 2))), (IntKind.u64.wrap (Int.tdiv x11_2 2)), (by first | rfl | (simp; done) | (simp [*]; done)), (by first | rfl | (simp; done) | (simp [*]; done)), H', ⟨by have := HK1.out; have := HK2.out; omega⟩, ⟨by (with_reducible repeat (first | apply Kd.R_alloc | apply Kd.R_drewN | apply Kd.R_drew)); exact Kd.R_mono HO_7.out (fun _ hk => hk.2)⟩, ⟨by (with_reducible repeat (first | apply Kd.R_alloc | apply Kd.R_drewN | apply Kd.R_drew)); exact HO_8.out⟩, ⟨by (with_reducible repeat (first | refine blk_drewN ?_ _ | refine blk_drew ?_ | refine blk_alloc ?_ _)); exact BK605.out⟩, ⟨by (with_reducible repeat (first | refine blk_drewN ?_ _ | refine blk_drew ?_ | refine blk_alloc ?_ _)); exact BK606.out⟩, ⟨by repeat (first | (with_reducible first | exact HB.out | apply below_alloc | apply pw_below_drewN | apply below_drew1 | refine below_set ?_ GE605.out | refine below_set ?_ GE606.out) | exact HB.out)⟩⟩
                              · rw [if_neg c31] at H
                                exact absurd H (by simp)
                            · rw [if_neg c30] at H
                              have c30b0 : ((Int.tmod (IntKind.u64.wrap (Int.tdiv (rd t607 x10_1) x11_2)) 2) == 1) = false := beq_eq_false_iff_ne.mpr c30
                              have c30b1 : ((Int.tmod (IntKind.u64.wrap (Int.tdiv (rd t607 x10_1) x11_2)) 2) != 1) = true := bne_iff_ne.mpr c30
                              have H' := Aside0.mk H
                              clear H
                              obtain ⟨Ao37, co37, eo37⟩ := Kd.R_slice HO_7.out
                              subst eo37
                              have p617 : 0 ≤ (x10_1 : Int) := of_decide_eq_true (by first | (with_reducible assumption) | assumption)
                              have q617 : x10_1 < (t607.length : Int) := of_decide_eq_true (by first | (with_reducible assumption) | assumption)
                              obtain ⟨ad617, e617, hx617_0⟩ := Kd.at_int (Kd.R_reads' HO_7.out).2.2 x10_1 p617 q617
                              cases e617
                              replace p617 := eq_true p617
                              replace q617 := eq_true q617
                              go_wp2
                              go_roundg k2
                              case measure => have := HK1.out; have := HK2.out; omega
                              case rel => exact ⟨(x8_2), (IntKind.u64.wrap ((IntKind.u64.wrap (2 * x9_2)) + (Int.tmod (IntKind.u64.wrap (Int.tdiv (rd t607 x10_1) x11_2)) 2))), (IntKind.u64.wrap (Int.tdiv x11_2 2)), (by first | rfl | (simp; done) | (simp [*]; done)), (by first | rfl | (simp; done) | (simp [*]; done)), H', ⟨by have := HK1.out; have := HK2.out; omega⟩, ⟨by (with_reducible repeat (first | apply Kd.R_alloc | apply Kd.R_drewN | apply Kd.R_drew)); exact HO_7.out⟩, ⟨by (with_reducible repeat (first | apply Kd.R_alloc | apply Kd.R_drewN | apply Kd.R_drew)); exact HO_8.out⟩, ⟨by (with_reducible repeat (first | refine blk_drewN ?_ _ | refine blk_drew ?_ | refine blk_alloc ?_ _)); exact BK605.out⟩, ⟨by (with_reducible repeat (first | refine blk_drewN ?_ _ | refine blk_drew ?_ | refine blk_alloc ?_ _)); exact BK606.out⟩, ⟨by repeat (first | (with_reducible first | exact HB.out | apply below_alloc | apply pw_below_drewN | apply below_drew1 | refine below_set ?_ GE605.out | refine below_set ?_ GE606.out) | exact HB.out)⟩⟩
                          · rw [if_neg c29] at H
                            have c29b0 : decide ((IntKind.u64.wrap (a1 - x9_2)) ≤ (IntKind.u64.wrap (x9_2 + 1))) = false := decide_eq_false c29
                            clear c29
                            have H' := Aside0.mk H
                            clear H
                            obtain ⟨Ao38, co38, eo38⟩ := Kd.R_slice HO_7.out
                            subst eo38
                            have p617 : 0 ≤ (x10_1 : Int) := of_decide_eq_true (by first | (with_reducible assumption) | assumption)
                            have q617 : x10_1 < (t607.length : Int) := of_decide_eq_true (by first | (with_reducible assumption) | assumption)
                            obtain ⟨ad617, e617, hx617_0⟩ := Kd.at_int (Kd.R_reads' HO_7.out).2.2 x10_1 p617 q617
                            cases e617
                            replace p617 := eq_true p617
                            replace q617 := eq_true q617
                            go_wp2
                            go_roundg k2
                            case measure => have := HK1.out; have := HK2.out; omega
                            case rel => exact ⟨(x8_2), (IntKind.u64.wrap ((IntKind.u64.wrap (2 * x9_2)) + (Int.tmod (IntKind.u64.wrap (Int.tdiv (rd t607 x10_1) x11_2)) 2))), (IntKind.u64.wrap (Int.tdiv x11_2 2)), (by first | rfl | (simp; done) | (simp [*]; done)), (by first | rfl | (simp; done) | (simp [*]; done)), H', ⟨by have := HK1.out; have := HK2.out; omega⟩, ⟨by (with_reducible repeat (first | apply Kd.R_alloc | apply Kd.R_drewN | apply Kd.R_drew)); exact HO_7.out⟩, ⟨by (with_reducible repeat (first | apply Kd.R_alloc | apply Kd.R_drewN | apply Kd.R_drew)); exact HO_8.out⟩, ⟨by (with_reducible repeat (first | refine blk_drewN ?_ _ | refine blk_drew ?_ | refine blk_alloc ?_ _)); exact BK605.out⟩, ⟨by (with_reducible repeat (first | refine blk_drewN ?_ _ | refine blk_drew ?_ | refine blk_alloc ?_ _)); exact BK606.out⟩, ⟨by repeat (first | (with_reducible first | exact HB.out | apply below_alloc | apply pw_below_drewN | apply below_drew1 | refine below_set ?_ GE605.out | refine below_set ?_ GE606.out) | exact HB.out)⟩⟩
                    · rw [if_neg c20] at H
                      exact absurd H (by simp)
                  · rw [if_neg c19] at H
                    exact absurd H (by simp)
                · rw [if_neg c18] at H
                  have c18b0 : decide (0 < x11_2) = false := decide_eq_false c18
                  clear c18
                  have H' := Aside0.mk H
                  clear H
                  go_wp2
                  go_roundg k2
                  case measure => have := HK1.out; have := HK2.out; omega
                  case rel => exact ⟨(x8_2), (x9_2), (wrap64 (x10_1 - 1)), (by first | rfl | (simp; done) | (simp [*]; done)), (by first | rfl | (simp; done) | (simp [*]; done)), H', ⟨by have := HK1.out; have := HK2.out; omega⟩, ⟨by (with_reducible repeat (first | apply Kd.R_alloc | apply Kd.R_drewN | apply Kd.R_drew)); exact HO_7.out⟩, ⟨by (with_reducible repeat (first | apply Kd.R_alloc | apply Kd.R_drewN | apply Kd.R_drew)); exact HO_8.out⟩, ⟨by (with_reducible repeat (first | refine blk_drewN ?_ _ | refine blk_drew ?_ | refine blk_alloc ?_ _)); exact BK605.out⟩, ⟨by (with_reducible repeat (first | refine blk_drewN ?_ _ | refine blk_drew ?_ | refine blk_alloc ?_ _)); exact BK606.out⟩, ⟨by repeat (first | (with_reducible first | exact HB.out | apply below_alloc | apply pw_below_drewN | apply below_drew1 | refine below_set ?_ GE605.out | refine below_set ?_ GE606.out) | exact HB.out)⟩⟩
          · rw [if_neg c17] at H
            have c17b0 : decide (0 ≤ x10_1) = false := decide_eq_false c17
            clear c17
            replace H := Option.bind_eq_some_iff.mp H
            obtain ⟨⟨t613, t614, t615⟩, A390, H⟩ := H
            replace H : (some (t613, t614, x9_1, 0)) = some (r1, r2, r3, r4) := H
            have A39 := Aside0.mk A390
            clear A390
            simp only [Option.some.injEq, Prod.mk.injEq] at H
            obtain ⟨rfl, rfl, rfl, rfl⟩ := H
            obtain ⟨Ao40, co40, eo40⟩ := Kd.R_slice HO_8.out
            subst eo40
            go_wp2_with (first | ((with_reducible refine gate_callee (f := 129) rfl ?_); refine goesL_ (some 75) rfl rfl Tryd.func129 (by kernel_rfl) rfl #[.slice Ao40 x8_1.length co40] rfl (by (try simp only [List.map_toArray, List.map_cons, List.map_nil]); first | done | rfl | (simp only [List.length_drop, List.length_take]; rfl)) ?_; (with_reducible refine (paymasterref01_number.calls k1 _ _ x8_1 t613 t614 t615 _ ?side1 ?side2 A39.out).mono ?_); (case side1 => repeat (first | exact (Kd.R_reads' HO_8.out).2.2 | (with_reducible refine Kd.C_alloc ?_ _) | (with_reducible refine Kd.C_drewN ?_ _) | (with_reducible refine Kd.C_drew ?_))); (case side2 => exact (Kd.R_reads' HO_8.out).2.1); rintro e w41 ⟨rfl, hb⟩; refine ⟨_, rfl, ?_⟩; have n0_ := Aside0.mk (Kd.R_below (by (with_reducible repeat (first | apply Kd.R_alloc | apply Kd.R_drewN | apply Kd.R_drew)); exact HO_7.out) hb); have n1_ := Aside0.mk (Kd.R_below (by (with_reducible repeat (first | apply Kd.R_alloc | apply Kd.R_drewN | apply Kd.R_drew)); exact HO_8.out) hb); have n2_ := Aside0.mk (blk_below (g := gb605) (o := .cells #[.int .u64 a0_0, .int .u64 a0_1] 42 (0, 0)) (by (with_reducible repeat (first | refine blk_drewN ?_ _ | refine blk_drew ?_ | refine blk_alloc ?_ _)); exact BK605.out) hb); have n3_ := Aside0.mk (blk_below (g := gb606) (o := .cells #[.int .u64 0, .int .u64 0] 42 (0, 0)) (by (with_reducible repeat (first | refine blk_drewN ?_ _ | refine blk_drew ?_ | refine blk_alloc ?_ _)); exact BK606.out) hb); have n4_ := Aside0.mk (below_step (by repeat (first | (with_reducible first | exact HB.out | apply below_alloc | apply pw_below_drewN | apply below_drew1 | refine below_set ?_ GE605.out | refine below_set ?_ GE606.out) | exact HB.out)) hb); clear HO_7; clear HO_8; clear BK605; clear BK606; clear HB; have HO_7 := n0_; have HO_8 := n1_; have BK605 := n2_; have BK606 := n3_; have HB := n4_; clear n0_ n1_ n2_ n3_ n4_; (try clear hb); (try clear hb2); (try clear hk); (try clear hi)) | ((with_reducible refine gate_dst (N := 13) rfl ?_); refine box_event ?hg (N := 13) ?hd (cs := #[.int .u64 0, .int .u64 0]) (t := 42) ?hr ?_; (case hd => rfl); (case hg => rfl); (case hr => first | (go_simp; done) | (go_simp; rfl)); intro gb616 hg w42 hbox hb; have n0_ := Aside0.mk (Kd.R_below (by (with_reducible repeat (first | apply Kd.R_alloc | apply Kd.R_drewN | apply Kd.R_drew)); exact HO_7.out) hb); have n1_ := Aside0.mk (Kd.R_below (by (with_reducible repeat (first | apply Kd.R_alloc | apply Kd.R_drewN | apply Kd.R_drew)); exact HO_8.out) hb); have n2_ := Aside0.mk (blk_below (g := gb605) (o := .cells #[.int .u64 a0_0, .int .u64 a0_1] 42 (0, 0)) (by (with_reducible repeat (first | refine blk_drewN ?_ _ | refine blk_drew ?_ | refine blk_alloc ?_ _)); exact BK605.out) hb); have n3_ := Aside0.mk (blk_below (g := gb606) (o := .cells #[.int .u64 0, .int .u64 0] 42 (0, 0)) (by (with_reducible repeat (first | refine blk_drewN ?_ _ | refine blk_drew ?_ | refine blk_alloc ?_ _)); exact BK606.out) hb); have n4_ := Aside0.mk (below_step (by repeat (first | (with_reducible first | exact HB.out | apply below_alloc | apply pw_below_drewN | apply below_drew1 | refine below_set ?_ GE605.out | refine below_set ?_ GE606.out) | exact HB.out)) hb); have n5_ := Aside0.mk (hbox); have n6_ := Aside0.mk ((by rw [hg]; exact (below_size (by repeat (first | (with_reducible first | exact HB.out | apply below_alloc | apply pw_below_drewN | apply below_drew1 | refine below_set ?_ GE605.out | refine below_set ?_ GE606.out) | exact HB.out))) : w.heap.size ≤ gb616)); have n7_ := Aside0.mk ((by rw [hg]; exact (below_size (by repeat (first | (with_reducible first | exact HB.out | apply below_alloc | apply pw_below_drewN | apply below_drew1 | refine below_set ?_ GE605.out | refine below_set ?_ GE606.out) | exact HB.out))) : w.heap.size ≤ gb616)); have n8_ := Aside0.mk ((by rw [hg]; exact Nat.ne_of_lt (blk_lt (g := gb605) (o := .cells #[.int .u64 a0_0, .int .u64 a0_1] 42 (0, 0)) (by (with_reducible repeat (first | refine blk_drewN ?_ _ | refine blk_drew ?_ | refine blk_alloc ?_ _)); exact BK605.out)) : gb605 ≠ gb616)); have n9_ := Aside0.mk ((by rw [hg]; exact Nat.ne_of_gt (blk_lt (g := gb605) (o := .cells #[.int .u64 a0_0, .int .u64 a0_1] 42 (0, 0)) (by (with_reducible repeat (first | refine blk_drewN ?_ _ | refine blk_drew ?_ | refine blk_alloc ?_ _)); exact BK605.out)) : gb616 ≠ gb605)); have n10_ := Aside0.mk ((by rw [hg]; exact Nat.ne_of_lt (blk_lt (g := gb606) (o := .cells #[.int .u64 0, .int .u64 0] 42 (0, 0)) (by (with_reducible repeat (first | refine blk_drewN ?_ _ | refine blk_drew ?_ | refine blk_alloc ?_ _)); exact BK606.out)) : gb606 ≠ gb616)); have n11_ := Aside0.mk ((by rw [hg]; exact Nat.ne_of_gt (blk_lt (g := gb606) (o := .cells #[.int .u64 0, .int .u64 0] 42 (0, 0)) (by (with_reducible repeat (first | refine blk_drewN ?_ _ | refine blk_drew ?_ | refine blk_alloc ?_ _)); exact BK606.out)) : gb616 ≠ gb606)); clear HO_7; clear HO_8; clear BK605; clear BK606; clear HB; have HO_7 := n0_; have HO_8 := n1_; have BK605 := n2_; have BK606 := n3_; have HB := n4_; have BK616 := n5_; have GW616 := n6_; have GE616 := n7_; have NB605_616 := n8_; have NB616_605 := n9_; have NB606_616 := n10_; have NB616_606 := n11_; clear n0_ n1_ n2_ n3_ n4_ n5_ n6_ n7_ n8_ n9_ n10_ n11_; clear hb hbox hg; have hnb43 := NB616_605.out; have hnc43 := NB605_616.out; have hnb44 := NB616_606.out; have hnc44 := NB606_616.out; have hcz45_0 : w42.cell? ⟨gb616, 0, none⟩ = some (.int .u64 0) := (blk_cell BK616.out 0).trans rfl; have hcz45_1 : w42.cell? ⟨gb616, 1, none⟩ = some (.int .u64 0) := (blk_cell BK616.out 1).trans rfl; have hfz45_0 := blk_frozen BK616.out 0; have hfz45_1 := blk_frozen BK616.out 1; have hnb46 := NB606_605.out; have hnc46 := NB605_606.out; have hcz47_0 : w42.cell? ⟨gb606, 0, none⟩ = some (.int .u64 0) := (blk_cell BK606.out 0).trans rfl; have hcz47_1 : w42.cell? ⟨gb606, 1, none⟩ = some (.int .u64 0) := (blk_cell BK606.out 1).trans rfl; have hfz47_0 := blk_frozen BK606.out 0; have hfz47_1 := blk_frozen BK606.out 1))
            refine bodyPost_ret (results_ctt rfl _ _ gb606 42 #[.int .u64 t613, .int .u64 t614] (0, 0) _ rfl (by (with_reducible repeat (first | refine blk_drewN ?_ _ | refine blk_drew ?_ | refine blk_alloc ?_ _)); refine blk_put (cs := #[.int .u64 t613, .int .u64 0]) ?_ 1 _ rfl; (with_reducible repeat (first | refine blk_drewN ?_ _ | refine blk_drew ?_ | refine blk_alloc ?_ _)); refine blk_put (cs := #[.int .u64 0, .int .u64 0]) ?_ 0 _ rfl; (with_reducible repeat (first | refine blk_drewN ?_ _ | refine blk_drew ?_ | refine blk_alloc ?_ _)); refine blk_far ?_ NB606_616.out _; (with_reducible repeat (first | refine blk_drewN ?_ _ | refine blk_drew ?_ | refine blk_alloc ?_ _)); refine blk_far ?_ NB606_616.out _; (with_reducible repeat (first | refine blk_drewN ?_ _ | refine blk_drew ?_ | refine blk_alloc ?_ _)); exact BK606.out) Tryd.underlying42 rfl (by kernel_rfl)) rfl ?_
            exact ⟨by first | rfl | (simp [errW_none, errW_some] <;> rfl) | (simp [*, errW_none, errW_some] <;> rfl), by repeat (first | (with_reducible first | exact HB.out | apply below_alloc | apply pw_below_drewN | apply below_drew1 | refine below_set ?_ GE605.out | refine below_set ?_ GE606.out | refine below_set ?_ GE616.out) | exact HB.out)⟩
    · rw [if_neg c9] at H
      exact absurd H (by simp)
def paymasterref02_Text.f : Nat → Int → Int → Option (ByteArray)
  | 0, _, _ => none
  | k + 1, a0_0, a0_1 => (paymasterref01_Over.f k a0_0 a0_1 10).bind fun bt623 => ((some (([(48 + ((bt623.2.2.1) % 256)) % 256] : List Int) : List Int)).bind fun y628 => (if (bt623.1 == 0 && (bt623.2.1 == 0)) = true then (some (strOfNums y628)) else ((paymasterref02_Text.f k bt623.1 bt623.2.1).bind fun t631 => (if t631.size + (strOfNums y628).size ≤ 9223372036854775807 then (some (t631 ++ (strOfNums y628))) else (none)))))
set_option maxHeartbeats 8000000 in
set_option maxRecDepth 100000 in
theorem paymasterref02_Text.calls (k : Nat) : ∀ (a0_0 : Int) (a0_1 : Int) (r : ByteArray) (w : World) (h : paymasterref02_Text.f k a0_0 a0_1 = some r),
    Calls Tryd.prog 86 #[.agg #[.int .u64 a0_0, .int .u64 a0_1]] w fun e w' => e = .returned (.string r) ∧ Below w.heap.size w w' := by
  induction k using Nat.strongRecOn with
  | _ k ih =>
  intro a0_0 a0_1 r w h
  cases k with
  | zero => exact absurd h (by simp [paymasterref02_Text.f])
  | succ k =>
  simp only [paymasterref02_Text.f] at h
  have hu42 := Tryd.underlying42
  have HB := Aside0.mk (Below.refl w.heap.size w)
  have H : ((paymasterref01_Over.f k a0_0 a0_1 10).bind fun bt623 => ((some (([(48 + ((bt623.2.2.1) % 256)) % 256] : List Int) : List Int)).bind fun y628 => (if (bt623.1 == 0 && (bt623.2.1 == 0)) = true then (some (strOfNums y628)) else ((paymasterref02_Text.f k bt623.1 bt623.2.1).bind fun t631 => (if t631.size + (strOfNums y628).size ≤ 9223372036854775807 then (some (t631 ++ (strOfNums y628))) else (none)))))) = some r := h
  clear h
  replace H := Option.bind_eq_some_iff.mp H
  obtain ⟨⟨t623, t624, t625, t626⟩, A20, H⟩ := H
  replace H : ((some (([(48 + ((t625) % 256)) % 256] : List Int) : List Int)).bind fun y628 => (if (t623 == 0 && (t624 == 0)) = true then (some (strOfNums y628)) else ((paymasterref02_Text.f k t623 t624).bind fun t631 => (if t631.size + (strOfNums y628).size ≤ 9223372036854775807 then (some (t631 ++ (strOfNums y628))) else (none))))) = some r := H
  have A2 := Aside0.mk A20
  clear A20
  obtain ⟨y628, hy628⟩ : ∃ y_ : List Int, y_ = (([(48 + ((t625) % 256)) % 256] : List Int)) := ⟨_, rfl⟩
  replace H : (if (t623 == 0 && (t624 == 0)) = true then (some (strOfNums y628)) else ((paymasterref02_Text.f k t623 t624).bind fun t631 => (if t631.size + (strOfNums y628).size ≤ 9223372036854775807 then (some (t631 ++ (strOfNums y628))) else (none)))) = some r := by first | (rw [hy628]; with_reducible exact H) | (have H2_ := (Option.bind_some _ _).symm.trans H; rw [hy628]; with_reducible exact H2_) | (have H2_ := (Option.bind_some _ _).symm.trans H; with_reducible exact H2_) | with_reducible exact H | (rw [hy628]; exact H) | exact H
  have Ny628 := Aside0.mk hy628
  clear hy628
  by_cases c3 : (t623 == 0 && (t624 == 0)) = true
  · rw [if_pos c3] at H
    have c3b0 : (t623 == 0 && (t624 == 0)) = true := c3
    (try (have c3b1 : decide (t623 = 0 && (t624 == 0)) = true := by simpa using c3))
    (try (have c3b2 : (t623 == 0 && (t624 == 0)) = true := by simpa using c3))
    clear c3
    obtain rfl := Option.some.inj H
    go_enter Tryd.func86, Tryd.ntmps86
    go_wp2_with (first | ((with_reducible refine gate_dst (N := 1) rfl ?_); refine box_event ?hg (N := 1) ?hd (cs := #[.int .u64 a0_0, .int .u64 a0_1]) (t := 42) ?hr ?_; (case hd => rfl); (case hg => rfl); (case hr => first | (go_simp; done) | (go_simp; rfl)); intro gb622 hg w4 hbox hb; have n0_ := Aside0.mk (below_step (by repeat (first | (with_reducible first | exact HB.out | apply below_alloc | apply pw_below_drewN | apply below_drew1) | exact HB.out)) hb); have n1_ := Aside0.mk (hbox); have n2_ := Aside0.mk ((by rw [hg]; exact (below_size (by repeat (first | (with_reducible first | exact HB.out | apply below_alloc | apply pw_below_drewN | apply below_drew1) | exact HB.out))) : w.heap.size ≤ gb622)); have n3_ := Aside0.mk ((by rw [hg]; exact (below_size (by repeat (first | (with_reducible first | exact HB.out | apply below_alloc | apply pw_below_drewN | apply below_drew1) | exact HB.out))) : w.heap.size ≤ gb622)); clear HB; have HB := n0_; have BK622 := n1_; have GW622 := n2_; have GE622 := n3_; clear n0_ n1_ n2_ n3_; clear hb hbox hg; have hcz5_0 : w4.cell? ⟨gb622, 0, none⟩ = some (.int .u64 a0_0) := (blk_cell BK622.out 0).trans rfl; have hcz5_1 : w4.cell? ⟨gb622, 1, none⟩ = some (.int .u64 a0_1) := (blk_cell BK622.out 1).trans rfl; have hfz5_0 := blk_frozen BK622.out 0; have hfz5_1 := blk_frozen BK622.out 1) | ((with_reducible refine gate_callee (f := 116) rfl ?_); refine goesL_ (some 9) rfl rfl Tryd.func116 (by kernel_rfl) rfl #[.agg #[.int .u64 a0_0, .int .u64 a0_1], .int .u64 10] rfl (by (try simp only [List.map_toArray, List.map_cons, List.map_nil]); first | done | rfl | (simp only [List.length_drop, List.length_take]; rfl)) ?_; (with_reducible refine (paymasterref01_Over.calls k a0_0 a0_1 10 t623 t624 t625 t626 _ A2.out).mono ?_); rintro e w6 ⟨rfl, hb⟩; refine ⟨_, rfl, ?_⟩; have n0_ := Aside0.mk (blk_below (g := gb622) (o := .cells #[.int .u64 a0_0, .int .u64 a0_1] 42 (0, 0)) (by (with_reducible repeat (first | refine blk_drewN ?_ _ | refine blk_drew ?_ | refine blk_alloc ?_ _)); exact BK622.out) hb); have n1_ := Aside0.mk (below_step (by repeat (first | (with_reducible first | exact HB.out | apply below_alloc | apply pw_below_drewN | apply below_drew1 | refine below_set ?_ GE622.out) | exact HB.out)) hb); clear BK622; clear HB; have BK622 := n0_; have HB := n1_; clear n0_ n1_; (try clear hb); (try clear hb2); (try clear hk); (try clear hi)) | ((with_reducible refine gate_dst (N := 3) rfl ?_); refine box_event ?hg (N := 3) ?hd (cs := #[.int .u64 0, .int .u64 0]) (t := 42) ?hr ?_; (case hd => rfl); (case hg => rfl); (case hr => first | (go_simp; done) | (go_simp; rfl)); intro gb627 hg w7 hbox hb; have n0_ := Aside0.mk (blk_below (g := gb622) (o := .cells #[.int .u64 a0_0, .int .u64 a0_1] 42 (0, 0)) (by (with_reducible repeat (first | refine blk_drewN ?_ _ | refine blk_drew ?_ | refine blk_alloc ?_ _)); exact BK622.out) hb); have n1_ := Aside0.mk (below_step (by repeat (first | (with_reducible first | exact HB.out | apply below_alloc | apply pw_below_drewN | apply below_drew1 | refine below_set ?_ GE622.out) | exact HB.out)) hb); have n2_ := Aside0.mk (hbox); have n3_ := Aside0.mk ((by rw [hg]; exact (below_size (by repeat (first | (with_reducible first | exact HB.out | apply below_alloc | apply pw_below_drewN | apply below_drew1 | refine below_set ?_ GE622.out) | exact HB.out))) : w.heap.size ≤ gb627)); have n4_ := Aside0.mk ((by rw [hg]; exact (below_size (by repeat (first | (with_reducible first | exact HB.out | apply below_alloc | apply pw_below_drewN | apply below_drew1 | refine below_set ?_ GE622.out) | exact HB.out))) : w.heap.size ≤ gb627)); have n5_ := Aside0.mk ((by rw [hg]; exact Nat.ne_of_lt (blk_lt (g := gb622) (o := .cells #[.int .u64 a0_0, .int .u64 a0_1] 42 (0, 0)) (by (with_reducible repeat (first | refine blk_drewN ?_ _ | refine blk_drew ?_ | refine blk_alloc ?_ _)); exact BK622.out)) : gb622 ≠ gb627)); have n6_ := Aside0.mk ((by rw [hg]; exact Nat.ne_of_gt (blk_lt (g := gb622) (o := .cells #[.int .u64 a0_0, .int .u64 a0_1] 42 (0, 0)) (by (with_reducible repeat (first | refine blk_drewN ?_ _ | refine blk_drew ?_ | refine blk_alloc ?_ _)); exact BK622.out)) : gb627 ≠ gb622)); clear BK622; clear HB; have BK622 := n0_; have HB := n1_; have BK627 := n2_; have GW627 := n3_; have GE627 := n4_; have NB622_627 := n5_; have NB627_622 := n6_; clear n0_ n1_ n2_ n3_ n4_ n5_ n6_; clear hb hbox hg; have hnb8 := NB627_622.out; have hnc8 := NB622_627.out; have hcz9_0 : w7.cell? ⟨gb627, 0, none⟩ = some (.int .u64 0) := (blk_cell BK627.out 0).trans rfl; have hcz9_1 : w7.cell? ⟨gb627, 1, none⟩ = some (.int .u64 0) := (blk_cell BK627.out 1).trans rfl; have hfz9_0 := blk_frozen BK627.out 0; have hfz9_1 := blk_frozen BK627.out 1) | ((with_reducible refine gate_dst (N := 16) rfl ?_); refine Kd.R_lit (Kd.int .u8) _ 5 ?hg (N := 16) ?hd (xs := ([(48 + ((t625) % 256)) % 256] : List Int)) (inner := [.int .u8 ((48 + ((t625) % 256)) % 256)]) (ok := fun _ => True) (okp := fun _ => True) ?hr ?hp (fun _ hk => hk) trivial (Below.refl _ _) (Nat.le_refl _) (by simp) ?_; (case hd => rfl); (case hg => rfl); (case hr => first | (go_simp; done) | (go_simp; rfl)); (case hp => exact (Reps.one (show Kd.M (Kd.int .u8) _ _ _ ((48 + ((t625) % 256)) % 256) [.int .u8 ((48 + ((t625) % 256)) % 256)] from rfl) (Reps.none _ _))); intro v629 w10 ho11 hb hg_ hnew_; clear hg_ hnew_; (first | rw [← Ny628.out] at ho11 | (simp only [Int.reduceToNat] at ho11; rw [← Ny628.out] at ho11)); have n0_ := Aside0.mk (Kd.R_lower ho11 (below_size (by repeat (first | (with_reducible first | exact HB.out | apply below_alloc | apply pw_below_drewN | apply below_drew1 | refine below_set ?_ GE622.out | refine below_set ?_ GE627.out) | exact HB.out)))); have n1_ := Aside0.mk (blk_below (g := gb622) (o := .cells #[.int .u64 a0_0, .int .u64 a0_1] 42 (0, 0)) (by (with_reducible repeat (first | refine blk_drewN ?_ _ | refine blk_drew ?_ | refine blk_alloc ?_ _)); refine blk_far ?_ NB622_627.out _; (with_reducible repeat (first | refine blk_drewN ?_ _ | refine blk_drew ?_ | refine blk_alloc ?_ _)); refine blk_far ?_ NB622_627.out _; (with_reducible repeat (first | refine blk_drewN ?_ _ | refine blk_drew ?_ | refine blk_alloc ?_ _)); exact BK622.out) hb); have n2_ := Aside0.mk (blk_below (g := gb627) (o := .cells #[.int .u64 t623, .int .u64 t624] 42 (0, 0)) (by (with_reducible repeat (first | refine blk_drewN ?_ _ | refine blk_drew ?_ | refine blk_alloc ?_ _)); refine blk_put (cs := #[.int .u64 t623, .int .u64 0]) ?_ 1 _ rfl; (with_reducible repeat (first | refine blk_drewN ?_ _ | refine blk_drew ?_ | refine blk_alloc ?_ _)); refine blk_put (cs := #[.int .u64 0, .int .u64 0]) ?_ 0 _ rfl; (with_reducible repeat (first | refine blk_drewN ?_ _ | refine blk_drew ?_ | refine blk_alloc ?_ _)); exact BK627.out) hb); have n3_ := Aside0.mk (below_step (by repeat (first | (with_reducible first | exact HB.out | apply below_alloc | apply pw_below_drewN | apply below_drew1 | refine below_set ?_ GE622.out | refine below_set ?_ GE627.out) | exact HB.out)) hb); clear BK622; clear BK627; clear HB; have HO630 := n0_; have BK622 := n1_; have BK627 := n2_; have HB := n3_; clear n0_ n1_ n2_ n3_; clear hb ho11; have hcv12 := own_string (P := Tryd.prog) Tryd.underlying82 Tryd.underlying5 Tryd.underlying9 (Kd.own_of_R HO630.out); have hcz13_0 : w10.cell? ⟨gb627, 0, none⟩ = some (.int .u64 t623) := (blk_cell BK627.out 0).trans rfl; have hcz13_1 : w10.cell? ⟨gb627, 1, none⟩ = some (.int .u64 t624) := (blk_cell BK627.out 1).trans rfl; have hfz13_0 := blk_frozen BK627.out 0; have hfz13_1 := blk_frozen BK627.out 1))
    go_ret
    exact ⟨by first | rfl | (simp [errW_none, errW_some] <;> rfl) | (simp [*, errW_none, errW_some] <;> rfl), by repeat (first | (with_reducible first | exact HB.out | apply below_alloc | apply pw_below_drewN | apply below_drew1 | refine below_set ?_ GE622.out | refine below_set ?_ GE627.out) | exact HB.out)⟩
  · rw [if_neg c3] at H
    have c3b0 : (t623 == 0 && (t624 == 0)) = false := by simpa using c3
    (try (have c3b1 : decide (t623 = 0 && (t624 == 0)) = false := by simpa using c3))
    (try (have c3b2 : (t623 == 0 && (t624 == 0)) = false := by simpa using c3))
    (try (have c3b3 : ¬ (t623 = 0 && (t624 == 0)) := by simpa using c3))
    clear c3
    replace H := Option.bind_eq_some_iff.mp H
    obtain ⟨t631, A140, H⟩ := H
    replace H : (if t631.size + (strOfNums y628).size ≤ 9223372036854775807 then (some (t631 ++ (strOfNums y628))) else (none)) = some r := H
    have A14 := Aside0.mk A140
    clear A140
    by_cases c15 : t631.size + (strOfNums y628).size ≤ 9223372036854775807
    · rw [if_pos c15] at H
      have c15b0 := eq_true c15
      have c15b1 : decide (t631.size + (strOfNums y628).size ≤ 9223372036854775807) = true := decide_eq_true c15
      try have c15b2 : (9223372036854775807 < t631.size + (strOfNums y628).size) = False := eq_false (Nat.not_lt.2 c15)
      obtain rfl := Option.some.inj H
      go_enter Tryd.func86, Tryd.ntmps86
      go_wp2_with (first | ((with_reducible refine gate_dst (N := 1) rfl ?_); refine box_event ?hg (N := 1) ?hd (cs := #[.int .u64 a0_0, .int .u64 a0_1]) (t := 42) ?hr ?_; (case hd => rfl); (case hg => rfl); (case hr => first | (go_simp; done) | (go_simp; rfl)); intro gb622 hg w16 hbox hb; have n0_ := Aside0.mk (below_step (by repeat (first | (with_reducible first | exact HB.out | apply below_alloc | apply pw_below_drewN | apply below_drew1) | exact HB.out)) hb); have n1_ := Aside0.mk (hbox); have n2_ := Aside0.mk ((by rw [hg]; exact (below_size (by repeat (first | (with_reducible first | exact HB.out | apply below_alloc | apply pw_below_drewN | apply below_drew1) | exact HB.out))) : w.heap.size ≤ gb622)); have n3_ := Aside0.mk ((by rw [hg]; exact (below_size (by repeat (first | (with_reducible first | exact HB.out | apply below_alloc | apply pw_below_drewN | apply below_drew1) | exact HB.out))) : w.heap.size ≤ gb622)); clear HB; have HB := n0_; have BK622 := n1_; have GW622 := n2_; have GE622 := n3_; clear n0_ n1_ n2_ n3_; clear hb hbox hg; have hcz17_0 : w16.cell? ⟨gb622, 0, none⟩ = some (.int .u64 a0_0) := (blk_cell BK622.out 0).trans rfl; have hcz17_1 : w16.cell? ⟨gb622, 1, none⟩ = some (.int .u64 a0_1) := (blk_cell BK622.out 1).trans rfl; have hfz17_0 := blk_frozen BK622.out 0; have hfz17_1 := blk_frozen BK622.out 1) | ((with_reducible refine gate_callee (f := 116) rfl ?_); refine goesL_ (some 9) rfl rfl Tryd.func116 (by kernel_rfl) rfl #[.agg #[.int .u64 a0_0, .int .u64 a0_1], .int .u64 10] rfl (by (try simp only [List.map_toArray, List.map_cons, List.map_nil]); first | done | rfl | (simp only [List.length_drop, List.length_take]; rfl)) ?_; (with_reducible refine (paymasterref01_Over.calls k a0_0 a0_1 10 t623 t624 t625 t626 _ A2.out).mono ?_); rintro e w18 ⟨rfl, hb⟩; refine ⟨_, rfl, ?_⟩; have n0_ := Aside0.mk (blk_below (g := gb622) (o := .cells #[.int .u64 a0_0, .int .u64 a0_1] 42 (0, 0)) (by (with_reducible repeat (first | refine blk_drewN ?_ _ | refine blk_drew ?_ | refine blk_alloc ?_ _)); exact BK622.out) hb); have n1_ := Aside0.mk (below_step (by repeat (first | (with_reducible first | exact HB.out | apply below_alloc | apply pw_below_drewN | apply below_drew1 | refine below_set ?_ GE622.out) | exact HB.out)) hb); clear BK622; clear HB; have BK622 := n0_; have HB := n1_; clear n0_ n1_; (try clear hb); (try clear hb2); (try clear hk); (try clear hi)) | ((with_reducible refine gate_dst (N := 3) rfl ?_); refine box_event ?hg (N := 3) ?hd (cs := #[.int .u64 0, .int .u64 0]) (t := 42) ?hr ?_; (case hd => rfl); (case hg => rfl); (case hr => first | (go_simp; done) | (go_simp; rfl)); intro gb627 hg w19 hbox hb; have n0_ := Aside0.mk (blk_below (g := gb622) (o := .cells #[.int .u64 a0_0, .int .u64 a0_1] 42 (0, 0)) (by (with_reducible repeat (first | refine blk_drewN ?_ _ | refine blk_drew ?_ | refine blk_alloc ?_ _)); exact BK622.out) hb); have n1_ := Aside0.mk (below_step (by repeat (first | (with_reducible first | exact HB.out | apply below_alloc | apply pw_below_drewN | apply below_drew1 | refine below_set ?_ GE622.out) | exact HB.out)) hb); have n2_ := Aside0.mk (hbox); have n3_ := Aside0.mk ((by rw [hg]; exact (below_size (by repeat (first | (with_reducible first | exact HB.out | apply below_alloc | apply pw_below_drewN | apply below_drew1 | refine below_set ?_ GE622.out) | exact HB.out))) : w.heap.size ≤ gb627)); have n4_ := Aside0.mk ((by rw [hg]; exact (below_size (by repeat (first | (with_reducible first | exact HB.out | apply below_alloc | apply pw_below_drewN | apply below_drew1 | refine below_set ?_ GE622.out) | exact HB.out))) : w.heap.size ≤ gb627)); have n5_ := Aside0.mk ((by rw [hg]; exact Nat.ne_of_lt (blk_lt (g := gb622) (o := .cells #[.int .u64 a0_0, .int .u64 a0_1] 42 (0, 0)) (by (with_reducible repeat (first | refine blk_drewN ?_ _ | refine blk_drew ?_ | refine blk_alloc ?_ _)); exact BK622.out)) : gb622 ≠ gb627)); have n6_ := Aside0.mk ((by rw [hg]; exact Nat.ne_of_gt (blk_lt (g := gb622) (o := .cells #[.int .u64 a0_0, .int .u64 a0_1] 42 (0, 0)) (by (with_reducible repeat (first | refine blk_drewN ?_ _ | refine blk_drew ?_ | refine blk_alloc ?_ _)); exact BK622.out)) : gb627 ≠ gb622)); clear BK622; clear HB; have BK622 := n0_; have HB := n1_; have BK627 := n2_; have GW627 := n3_; have GE627 := n4_; have NB622_627 := n5_; have NB627_622 := n6_; clear n0_ n1_ n2_ n3_ n4_ n5_ n6_; clear hb hbox hg; have hnb20 := NB627_622.out; have hnc20 := NB622_627.out; have hcz21_0 : w19.cell? ⟨gb627, 0, none⟩ = some (.int .u64 0) := (blk_cell BK627.out 0).trans rfl; have hcz21_1 : w19.cell? ⟨gb627, 1, none⟩ = some (.int .u64 0) := (blk_cell BK627.out 1).trans rfl; have hfz21_0 := blk_frozen BK627.out 0; have hfz21_1 := blk_frozen BK627.out 1) | ((with_reducible refine gate_dst (N := 16) rfl ?_); refine Kd.R_lit (Kd.int .u8) _ 5 ?hg (N := 16) ?hd (xs := ([(48 + ((t625) % 256)) % 256] : List Int)) (inner := [.int .u8 ((48 + ((t625) % 256)) % 256)]) (ok := fun _ => True) (okp := fun _ => True) ?hr ?hp (fun _ hk => hk) trivial (Below.refl _ _) (Nat.le_refl _) (by simp) ?_; (case hd => rfl); (case hg => rfl); (case hr => first | (go_simp; done) | (go_simp; rfl)); (case hp => exact (Reps.one (show Kd.M (Kd.int .u8) _ _ _ ((48 + ((t625) % 256)) % 256) [.int .u8 ((48 + ((t625) % 256)) % 256)] from rfl) (Reps.none _ _))); intro v629 w22 ho23 hb hg_ hnew_; clear hg_ hnew_; (first | rw [← Ny628.out] at ho23 | (simp only [Int.reduceToNat] at ho23; rw [← Ny628.out] at ho23)); have n0_ := Aside0.mk (Kd.R_lower ho23 (below_size (by repeat (first | (with_reducible first | exact HB.out | apply below_alloc | apply pw_below_drewN | apply below_drew1 | refine below_set ?_ GE622.out | refine below_set ?_ GE627.out) | exact HB.out)))); have n1_ := Aside0.mk (blk_below (g := gb622) (o := .cells #[.int .u64 a0_0, .int .u64 a0_1] 42 (0, 0)) (by (with_reducible repeat (first | refine blk_drewN ?_ _ | refine blk_drew ?_ | refine blk_alloc ?_ _)); refine blk_far ?_ NB622_627.out _; (with_reducible repeat (first | refine blk_drewN ?_ _ | refine blk_drew ?_ | refine blk_alloc ?_ _)); refine blk_far ?_ NB622_627.out _; (with_reducible repeat (first | refine blk_drewN ?_ _ | refine blk_drew ?_ | refine blk_alloc ?_ _)); exact BK622.out) hb); have n2_ := Aside0.mk (blk_below (g := gb627) (o := .cells #[.int .u64 t623, .int .u64 t624] 42 (0, 0)) (by (with_reducible repeat (first | refine blk_drewN ?_ _ | refine blk_drew ?_ | refine blk_alloc ?_ _)); refine blk_put (cs := #[.int .u64 t623, .int .u64 0]) ?_ 1 _ rfl; (with_reducible repeat (first | refine blk_drewN ?_ _ | refine blk_drew ?_ | refine blk_alloc ?_ _)); refine blk_put (cs := #[.int .u64 0, .int .u64 0]) ?_ 0 _ rfl; (with_reducible repeat (first | refine blk_drewN ?_ _ | refine blk_drew ?_ | refine blk_alloc ?_ _)); exact BK627.out) hb); have n3_ := Aside0.mk (below_step (by repeat (first | (with_reducible first | exact HB.out | apply below_alloc | apply pw_below_drewN | apply below_drew1 | refine below_set ?_ GE622.out | refine below_set ?_ GE627.out) | exact HB.out)) hb); clear BK622; clear BK627; clear HB; have HO630 := n0_; have BK622 := n1_; have BK627 := n2_; have HB := n3_; clear n0_ n1_ n2_ n3_; clear hb ho23; have hcv24 := own_string (P := Tryd.prog) Tryd.underlying82 Tryd.underlying5 Tryd.underlying9 (Kd.own_of_R HO630.out); have hcz25_0 : w22.cell? ⟨gb627, 0, none⟩ = some (.int .u64 t623) := (blk_cell BK627.out 0).trans rfl; have hcz25_1 : w22.cell? ⟨gb627, 1, none⟩ = some (.int .u64 t624) := (blk_cell BK627.out 1).trans rfl; have hfz25_0 := blk_frozen BK627.out 0; have hfz25_1 := blk_frozen BK627.out 1) | ((with_reducible refine gate_callee (f := 86) rfl ?_); refine goesL_ (some 23) rfl rfl Tryd.func86 (by kernel_rfl) rfl #[.agg #[.int .u64 t623, .int .u64 t624]] rfl (by (try simp only [List.map_toArray, List.map_cons, List.map_nil]); first | done | rfl | (simp only [List.length_drop, List.length_take]; rfl)) ?_; (with_reducible refine (ih k (by omega) t623 t624 t631 _ A14.out).mono ?_); rintro e w26 ⟨rfl, hb⟩; refine ⟨_, rfl, ?_⟩; have n0_ := Aside0.mk (Kd.R_below (by (with_reducible repeat (first | apply Kd.R_alloc | apply Kd.R_drewN | apply Kd.R_drew)); exact HO630.out) hb); have n1_ := Aside0.mk (blk_below (g := gb622) (o := .cells #[.int .u64 a0_0, .int .u64 a0_1] 42 (0, 0)) (by (with_reducible repeat (first | refine blk_drewN ?_ _ | refine blk_drew ?_ | refine blk_alloc ?_ _)); exact BK622.out) hb); have n2_ := Aside0.mk (blk_below (g := gb627) (o := .cells #[.int .u64 t623, .int .u64 t624] 42 (0, 0)) (by (with_reducible repeat (first | refine blk_drewN ?_ _ | refine blk_drew ?_ | refine blk_alloc ?_ _)); exact BK627.out) hb); have n3_ := Aside0.mk (below_step (by repeat (first | (with_reducible first | exact HB.out | apply below_alloc | apply pw_below_drewN | apply below_drew1 | refine below_set ?_ GE622.out | refine below_set ?_ GE627.out) | exact HB.out)) hb); clear HO630; clear BK622; clear BK627; clear HB; have HO630 := n0_; have BK622 := n1_; have BK627 := n2_; have HB := n3_; clear n0_ n1_ n2_ n3_; (try clear hb); (try clear hb2); (try clear hk); (try clear hi)))
      go_ret
      exact ⟨by first | rfl | (simp [errW_none, errW_some] <;> rfl) | (simp [*, errW_none, errW_some] <;> rfl), by repeat (first | (with_reducible first | exact HB.out | apply below_alloc | apply pw_below_drewN | apply below_drew1 | refine below_set ?_ GE622.out | refine below_set ?_ GE627.out) | exact HB.out)⟩
    · rw [if_neg c15] at H
      exact absurd H (by simp)
def paymasterref10_Text.f (k : Nat) (a0_0 : ByteArray) (a0_1 : Int) (a0_2 : Int) : Option (ByteArray × Int) := (paymasterref07_MayId.f k a0_0).bind fun t633 => (if t633 = true then (if a0_0.size + 1 ≤ 9223372036854775807 then ((paymasterref02_Text.f k a0_1 a0_2).bind fun t634 => (if (a0_0 ++ (⟨#[32]⟩ : ByteArray)).size + t634.size ≤ 9223372036854775807 then (some ((a0_0 ++ (⟨#[32]⟩ : ByteArray)) ++ t634, 0)) else (none))) else (none)) else (some ((⟨#[]⟩ : ByteArray), 101)))
def paymasterref10_Text.T3 : Bool × List (List Nat × List Nat) := (true, [([], []), ([0], [0]), ([1], [1]), ([], []), ([3], [3]), ([4], [4]), ([2, 5], [2, 5]), ([6, 5, 0, 1, 2, 3, 4, 5, 6], [6]), ([7, 0, 1, 2, 3, 4, 5, 6, 7], [])])
def paymasterref10_Text.B3 : List Nat := [0, 1, 3, 0, 8, 24, 63, 127, 255]
theorem paymasterref10_Text.tab3 : rtab .any (opsOf Tryd.f49 3) = paymasterref10_Text.T3 := by kernel_rfl
theorem paymasterref10_Text.bits3 : waitsOk paymasterref10_Text.T3.2 paymasterref10_Text.B3 = true := by kernel_rfl
set_option maxHeartbeats 8000000 in
set_option maxRecDepth 100000 in
theorem paymasterref10_Text.calls (k : Nat) (a0_0 : ByteArray) (a0_1 : Int) (a0_2 : Int) (r1 : ByteArray) (r2 : Int) (w : World) (h : paymasterref10_Text.f k a0_0 a0_1 a0_2 = some (r1, r2)) :
    Calls Tryd.prog 49 #[.agg #[.string a0_0, .int .u64 a0_1, .int .u64 a0_2]] w fun e w' => e = .returned (.tuple #[.string r1, .int .i64 r2]) ∧ Below w.heap.size w w' := by
  have hu44 := Tryd.underlying44
  have hu42 := Tryd.underlying42
  have HB := Aside0.mk (Below.refl w.heap.size w)
  have H : ((paymasterref07_MayId.f k a0_0).bind fun t633 => (if t633 = true then (if a0_0.size + 1 ≤ 9223372036854775807 then ((paymasterref02_Text.f k a0_1 a0_2).bind fun t634 => (if (a0_0 ++ (⟨#[32]⟩ : ByteArray)).size + t634.size ≤ 9223372036854775807 then (some ((a0_0 ++ (⟨#[32]⟩ : ByteArray)) ++ t634, 0)) else (none))) else (none)) else (some ((⟨#[]⟩ : ByteArray), 101)))) = some (r1, r2) := h
  clear h
  replace H := Option.bind_eq_some_iff.mp H
  obtain ⟨t633, A20, H⟩ := H
  replace H : (if t633 = true then (if a0_0.size + 1 ≤ 9223372036854775807 then ((paymasterref02_Text.f k a0_1 a0_2).bind fun t634 => (if (a0_0 ++ (⟨#[32]⟩ : ByteArray)).size + t634.size ≤ 9223372036854775807 then (some ((a0_0 ++ (⟨#[32]⟩ : ByteArray)) ++ t634, 0)) else (none))) else (none)) else (some ((⟨#[]⟩ : ByteArray), 101))) = some (r1, r2) := H
  have A2 := Aside0.mk A20
  clear A20
  by_cases c3 : t633 = true
  · subst c3
    have H1 : (if a0_0.size + 1 ≤ 9223372036854775807 then ((paymasterref02_Text.f k a0_1 a0_2).bind fun t634 => (if (a0_0 ++ (⟨#[32]⟩ : ByteArray)).size + t634.size ≤ 9223372036854775807 then (some ((a0_0 ++ (⟨#[32]⟩ : ByteArray)) ++ t634, 0)) else (none))) else (none)) = some (r1, r2) := by rw [if_pos rfl] at H; exact H
    clear H
    have H := H1
    clear H1
    by_cases c4 : a0_0.size + 1 ≤ 9223372036854775807
    · rw [if_pos c4] at H
      have c4b0 := eq_true c4
      have c4b1 : decide (a0_0.size + 1 ≤ 9223372036854775807) = true := decide_eq_true c4
      try have c4b2 : (9223372036854775807 < a0_0.size + 1) = False := eq_false (Nat.not_lt.2 c4)
      replace H := Option.bind_eq_some_iff.mp H
      obtain ⟨t634, A50, H⟩ := H
      replace H : (if (a0_0 ++ (⟨#[32]⟩ : ByteArray)).size + t634.size ≤ 9223372036854775807 then (some ((a0_0 ++ (⟨#[32]⟩ : ByteArray)) ++ t634, 0)) else (none)) = some (r1, r2) := H
      have A5 := Aside0.mk A50
      clear A50
      by_cases c6 : (a0_0 ++ (⟨#[32]⟩ : ByteArray)).size + t634.size ≤ 9223372036854775807
      · rw [if_pos c6] at H
        have c6b0 := eq_true c6
        have c6b1 : decide ((a0_0 ++ (⟨#[32]⟩ : ByteArray)).size + t634.size ≤ 9223372036854775807) = true := decide_eq_true c6
        try have c6b2 : (9223372036854775807 < (a0_0 ++ (⟨#[32]⟩ : ByteArray)).size + t634.size) = False := eq_false (Nat.not_lt.2 c6)
        try have c6b3 : (9223372036854775807 < a0_0.size + 1 + t634.size) = False := eq_false (by have e_ := c6; repeat rw [ByteArray.size_append] at e_; exact Nat.not_lt.2 e_)
        simp only [Option.some.injEq, Prod.mk.injEq] at H
        obtain ⟨rfl, rfl⟩ := H
        go_enter Tryd.func49, Tryd.ntmps49
        try go_wp2_with (first | ((with_reducible refine gate_dst (N := 1) rfl ?_); refine box_event ?hg (N := 1) ?hd (cs := #[.string a0_0, .int .u64 a0_1, .int .u64 a0_2]) (t := 44) ?hr ?_; (case hd => rfl); (case hg => rfl); (case hr => first | (go_simp; done) | (go_simp; rfl)); intro gb632 hg w7 hbox hb; have n0_ := Aside0.mk (below_step (by repeat (first | (with_reducible first | exact HB.out | apply below_alloc | apply pw_below_drewN | apply below_drew1) | exact HB.out)) hb); have n1_ := Aside0.mk (hbox); have n2_ := Aside0.mk ((by rw [hg]; exact (below_size (by repeat (first | (with_reducible first | exact HB.out | apply below_alloc | apply pw_below_drewN | apply below_drew1) | exact HB.out))) : w.heap.size ≤ gb632)); have n3_ := Aside0.mk ((by rw [hg]; exact (below_size (by repeat (first | (with_reducible first | exact HB.out | apply below_alloc | apply pw_below_drewN | apply below_drew1) | exact HB.out))) : w.heap.size ≤ gb632)); clear HB; have HB := n0_; have BK632 := n1_; have GW632 := n2_; have GE632 := n3_; clear n0_ n1_ n2_ n3_; clear hb hbox hg; have hcz8_0 : w7.cell? ⟨gb632, 0, none⟩ = some (.string a0_0) := (blk_cell BK632.out 0).trans rfl; have hcz8_1 : w7.cell? ⟨gb632, 1, none⟩ = some (.int .u64 a0_1) := (blk_cell BK632.out 1).trans rfl; have hcz8_2 : w7.cell? ⟨gb632, 2, none⟩ = some (.int .u64 a0_2) := (blk_cell BK632.out 2).trans rfl; have hfz8_0 := blk_frozen BK632.out 0; have hfz8_1 := blk_frozen BK632.out 1; have hfz8_2 := blk_frozen BK632.out 2) | ((with_reducible refine gate_callee (f := 81) rfl ?_); refine goesL_ (some 6) rfl rfl Tryd.func81 (by kernel_rfl) rfl #[.string a0_0] rfl (by (try simp only [List.map_toArray, List.map_cons, List.map_nil]); first | done | rfl | (simp only [List.length_drop, List.length_take]; rfl)) ?_; (with_reducible refine (paymasterref07_MayId.calls k a0_0 true _ A2.out).mono ?_); rintro e w' ⟨rfl, ⟨nd, rfl⟩⟩; refine ⟨_, rfl, ?_⟩))
        (try (rw [drewN_self w7]; generalize hq_ : World.drewN w7 _ = w7; have n0_ : Aside0 (w7.heap[gb632]? = some (.cells #[.string a0_0, .int .u64 a0_1, .int .u64 a0_2] 44 (0, 0))) := ⟨by rw [← hq_]; exact (by (with_reducible repeat (first | refine blk_drewN ?_ _ | refine blk_drew ?_ | refine blk_alloc ?_ _)); exact BK632.out)⟩; have n1_ : Aside0 (Below w.heap.size w w7) := ⟨by rw [← hq_]; exact (by repeat (first | (with_reducible first | exact HB.out | apply below_alloc | apply pw_below_drewN | apply below_drew1 | refine below_set ?_ GE632.out) | exact HB.out))⟩; clear BK632 HB hq_; have BK632 := n0_; have HB := n1_; clear n0_ n1_))
        have n0_ := Aside0.mk (blk_drew BK632.out)
        have n1_ := Aside0.mk (below_drew1 HB.out)
        clear BK632
        clear HB
        have BK632 := n0_
        have HB := n1_
        clear n0_ n1_
        refine start_ (n := 9) (S := fun w' => w'.cell? ⟨gb632, 0, none⟩ = some (.string a0_0) ∧ w'.cell? ⟨gb632, 1, none⟩ = some (.int .u64 a0_1) ∧ w'.cell? ⟨gb632, 2, none⟩ = some (.int .u64 a0_2)) (ds := []) #[false, false, false, false, false, false, false, false, false] (by kernel_rfl) rfl rfl ⟨(blk_cell BK632.out 0).trans rfl, (blk_cell BK632.out 1).trans rfl, (blk_cell BK632.out 2).trans rfl⟩ (fun hHeld => ?_); refine with_tabW paymasterref10_Text.tab3 paymasterref10_Text.bits3 (fun HT_ HW_ => ?_)
        generalize w7.drew = w9 at BK632 HB hHeld ⊢
        refine pure_ (i := 0) (N := some 8) (v := ?_) (a' := ?_) #[true, false, false, false, false, false, false, false, false] rfl rfl (any_of HT_.out (by kernel_rfl)) (fun _ _ _ h => h) (Or.inl ⟨by rfl, ?_⟩) ?_ ?_
        rotate_left
        · intro w'
          go_simp
          with_reducible rfl
        rotate_left
        · simp only [Act.put, List.setIfInBounds_toArray, List.set_cons_zero, List.set_cons_succ, i64_w, i32_w]
          rfl
        refine pure_ (i := 3) (N := some 11) (v := ?_) (a' := ?_) #[true, false, false, true, false, false, false, false, false] rfl rfl (any_of HT_.out (by kernel_rfl)) (fun _ _ _ h => h) (Or.inl ⟨by rfl, ?_⟩) ?_ ?_
        rotate_left
        · intro w'
          go_simp
          with_reducible rfl
        rotate_left
        · simp only [Act.put, List.setIfInBounds_toArray, List.set_cons_zero, List.set_cons_succ, i64_w, i32_w]
          rfl
        refine take_ (i := 1) (N := some 9) (v := ?_) (a' := ?_) #[true, true, false, true, false, false, false, false, false] rfl rfl (take_ofW HT_.out HW_.out (by kernel_rfl)) (fun _ _ _ h => h) (Or.inl ⟨by rfl, ?_⟩) hHeld ?_ ?_
        rotate_left
        · rintro w' ⟨s0, s1, s2⟩
          go_simp
          with_reducible rfl
        rotate_left
        · simp only [Act.put, List.setIfInBounds_toArray, List.set_cons_zero, List.set_cons_succ, i64_w, i32_w]
          rfl
        refine pure_ (i := 2) (N := some 10) (v := ?_) (a' := ?_) #[true, true, true, true, false, false, false, false, false] rfl rfl (any_of HT_.out (by kernel_rfl)) (fun _ _ _ h => h) (Or.inl ⟨by rfl, ?_⟩) ?_ ?_
        rotate_left
        · intro w'
          go_simp
          with_reducible rfl
        rotate_left
        · simp only [Act.put, List.setIfInBounds_toArray, List.set_cons_zero, List.set_cons_succ, i64_w, i32_w]
          rfl
        refine take_ (i := 4) (N := some 12) (v := ?_) (a' := ?_) #[true, true, true, true, true, false, false, false, false] rfl rfl (take_ofW HT_.out HW_.out (by kernel_rfl)) (fun _ _ _ h => h) (Or.inl ⟨by rfl, ?_⟩) hHeld ?_ ?_
        rotate_left
        · rintro w' ⟨s0, s1, s2⟩
          go_simp
          with_reducible rfl
        rotate_left
        · simp only [Act.put, List.setIfInBounds_toArray, List.set_cons_zero, List.set_cons_succ, i64_w, i32_w]
          rfl
        refine one_ (i := 5) (N := some 13) #[true, true, true, true, true, true, false, false, false] rfl rfl (one_of HT_.out (by kernel_rfl)) (by decide) (fun K hK => ?_)
        refine goes_ Tryd.func86 (by kernel_rfl) rfl #[.agg #[.int .u64 a0_1, .int .u64 a0_2]] (by rfl) rfl rfl (by (try simp only [List.map_toArray, List.map_cons, List.map_nil]); first | done | rfl | (simp only [List.length_drop, List.length_take]; rfl)) ?_
        with_reducible refine (paymasterref02_Text.calls k a0_1 a0_2 t634 _ A5.out).mono ?_
        rintro e w10 ⟨rfl, hb⟩
        refine ⟨_, rfl, ?_⟩
        have n0_ := Aside0.mk (blk_below (g := gb632) (o := .cells #[.string a0_0, .int .u64 a0_1, .int .u64 a0_2] 44 (0, 0)) (by (with_reducible repeat (first | refine blk_drewN ?_ _ | refine blk_drew ?_ | refine blk_alloc ?_ _)); exact BK632.out) hb)
        have n1_ := Aside0.mk (below_step (by repeat (first | (with_reducible first | exact HB.out | apply below_alloc | apply pw_below_drewN | apply below_drew1 | refine below_set ?_ GE632.out) | exact HB.out)) hb)
        clear BK632
        clear HB
        have BK632 := n0_
        have HB := n1_
        clear n0_ n1_
        (try clear hb)
        (try clear hb2)
        (try clear hk)
        (try clear hi)
        refine hK.out _ _ ⟨(blk_cell BK632.out 0).trans rfl, (blk_cell BK632.out 1).trans rfl, (blk_cell BK632.out 2).trans rfl⟩ (fun hHeld => ?_)
        clear hK K
        refine norm_ (a' := ?_) ?_ ?_
        rotate_left
        · show Act.put _ (some 13) _ = _
          simp only [Act.put, List.setIfInBounds_toArray, List.set_cons_zero, List.set_cons_succ, i64_w, i32_w]
          rfl
        refine pure_ (i := 6) (N := some 14) (v := ?_) (a' := ?_) #[true, true, true, true, true, true, true, false, false] rfl rfl (any_of HT_.out (by kernel_rfl)) (fun _ _ _ h => h) (Or.inl ⟨by rfl, ?_⟩) ?_ ?_
        rotate_left
        · intro w'
          go_simp
          with_reducible rfl
        rotate_left
        · simp only [Act.put, List.setIfInBounds_toArray, List.set_cons_zero, List.set_cons_succ, i64_w, i32_w]
          rfl
        refine pure_ (i := 7) (N := some 2) (v := ?_) (a' := ?_) #[true, true, true, true, true, true, true, true, false] rfl rfl (any_of HT_.out (by kernel_rfl)) (fun _ _ _ h => h) (Or.inl ⟨by rfl, ?_⟩) ?_ ?_
        rotate_left
        · intro w'
          go_simp
          with_reducible rfl
        rotate_left
        · simp only [Act.put, List.setIfInBounds_toArray, List.set_cons_zero, List.set_cons_succ, i64_w, i32_w]
          rfl
        refine pure_ (i := 8) (N := some 3) (v := ?_) (a' := ?_) #[true, true, true, true, true, true, true, true, true] rfl rfl (any_of HT_.out (by kernel_rfl)) (fun _ _ _ h => h) (Or.inl ⟨by rfl, ?_⟩) ?_ ?_
        rotate_left
        · intro w'
          go_simp
          with_reducible rfl
        rotate_left
        · simp only [Act.put, List.setIfInBounds_toArray, List.set_cons_zero, List.set_cons_succ, i64_w, i32_w]
          rfl
        refine done_ (done_of HT_.out (by kernel_rfl)) ?_
        try go_wp2
        go_ret2
        exact ⟨by first | rfl | (simp [errW_none, errW_some] <;> rfl) | (simp [*, errW_none, errW_some] <;> rfl), by repeat (first | (with_reducible first | exact HB.out | apply below_alloc | apply pw_below_drewN | apply below_drew1 | refine below_set ?_ GE632.out) | exact HB.out)⟩
      · rw [if_neg c6] at H
        exact absurd H (by simp)
    · rw [if_neg c4] at H
      exact absurd H (by simp)
  · replace c3 := Bool.eq_false_iff.mpr c3
    subst c3
    have H1 : (some ((⟨#[]⟩ : ByteArray), 101)) = some (r1, r2) := by rw [if_neg (show ¬ (false = true) by decide)] at H; exact H
    clear H
    have H := H1
    clear H1
    simp only [Option.some.injEq, Prod.mk.injEq] at H
    obtain ⟨rfl, rfl⟩ := H
    go_enter Tryd.func49, Tryd.ntmps49
    go_wp2_with (first | ((with_reducible refine gate_dst (N := 1) rfl ?_); refine box_event ?hg (N := 1) ?hd (cs := #[.string a0_0, .int .u64 a0_1, .int .u64 a0_2]) (t := 44) ?hr ?_; (case hd => rfl); (case hg => rfl); (case hr => first | (go_simp; done) | (go_simp; rfl)); intro gb632 hg w11 hbox hb; have n0_ := Aside0.mk (below_step (by repeat (first | (with_reducible first | exact HB.out | apply below_alloc | apply pw_below_drewN | apply below_drew1) | exact HB.out)) hb); have n1_ := Aside0.mk (hbox); have n2_ := Aside0.mk ((by rw [hg]; exact (below_size (by repeat (first | (with_reducible first | exact HB.out | apply below_alloc | apply pw_below_drewN | apply below_drew1) | exact HB.out))) : w.heap.size ≤ gb632)); have n3_ := Aside0.mk ((by rw [hg]; exact (below_size (by repeat (first | (with_reducible first | exact HB.out | apply below_alloc | apply pw_below_drewN | apply below_drew1) | exact HB.out))) : w.heap.size ≤ gb632)); clear HB; have HB := n0_; have BK632 := n1_; have GW632 := n2_; have GE632 := n3_; clear n0_ n1_ n2_ n3_; clear hb hbox hg; have hcz12_0 : w11.cell? ⟨gb632, 0, none⟩ = some (.string a0_0) := (blk_cell BK632.out 0).trans rfl; have hcz12_1 : w11.cell? ⟨gb632, 1, none⟩ = some (.int .u64 a0_1) := (blk_cell BK632.out 1).trans rfl; have hcz12_2 : w11.cell? ⟨gb632, 2, none⟩ = some (.int .u64 a0_2) := (blk_cell BK632.out 2).trans rfl; have hfz12_0 := blk_frozen BK632.out 0; have hfz12_1 := blk_frozen BK632.out 1; have hfz12_2 := blk_frozen BK632.out 2) | ((with_reducible refine gate_callee (f := 81) rfl ?_); refine goesL_ (some 6) rfl rfl Tryd.func81 (by kernel_rfl) rfl #[.string a0_0] rfl (by (try simp only [List.map_toArray, List.map_cons, List.map_nil]); first | done | rfl | (simp only [List.length_drop, List.length_take]; rfl)) ?_; (with_reducible refine (paymasterref07_MayId.calls k a0_0 false _ A2.out).mono ?_); rintro e w' ⟨rfl, ⟨nd, rfl⟩⟩; refine ⟨_, rfl, ?_⟩))
    go_ret2
    exact ⟨by first | rfl | (simp [errW_none, errW_some] <;> rfl) | (simp [*, errW_none, errW_some] <;> rfl), by repeat (first | (with_reducible first | exact HB.out | apply below_alloc | apply pw_below_drewN | apply below_drew1 | refine below_set ?_ GE632.out) | exact HB.out)⟩
end Go.Proofs.YtpkjpiphjdpegaaDoor.P
namespace Go.Proofs.YtpkjpiphjdpegaaDoor.P
open Go.RowKit Go.Proofs.YtpkjpiphjdpegaaDoorW.PrintWords Go.Proofs.YtpkjpiphjdpegaaDoorW.PrintLast Go.Proofs.YtpkjpiphjdpegaaDoorW.PrintMore
set_option linter.unusedVariables false
set_option linter.unusedSimpArgs false
theorem tm (x : Int) (h0 : 0 ≤ x) : Int.tmod x 65536 = x % 65536 := Int.tmod_eq_emod_of_nonneg h0
theorem td (x : Int) (h0 : 0 ≤ x) : Int.tdiv x 65536 = x / 65536 := Int.tdiv_eq_ediv_of_nonneg h0
def dg (hi lo : Int) : List Int := [lo % 65536, lo / 65536 % 65536, lo / 65536 / 65536 % 65536, lo / 65536 / 65536 / 65536 % 65536, hi % 65536, hi / 65536 % 65536, hi / 65536 / 65536 % 65536, hi / 65536 / 65536 / 65536 % 65536]
theorem dg_step {k : Nat} (l : List Int) (i x y : Int) (hi : 0 ≤ i) (hi4 : i < 4) (hl : l.length < 100) (hx : 0 ≤ y) (hy : y < 18446744073709551616) :
    paymasterref01_digits.l0 (k + 1) l i x y = paymasterref01_digits.l0 k (l ++ [y % 65536]) (i + 1) x (y / 65536) := by
  simp only [paymasterref01_digits.l0]
  rw [if_pos hi4, if_pos (by omega), tm _ hx, td _ hx, wu _ (by omega) (by omega), wi _ (by omega) (by omega)]
theorem dg_step1 {k : Nat} (l : List Int) (i x y : Int) (hi : 0 ≤ i) (hi4 : i < 4) (hl : l.length < 100) (hx : 0 ≤ x) (hy : x < 18446744073709551616) :
    paymasterref01_digits.l1 (k + 1) l i x y = paymasterref01_digits.l1 k (l ++ [x % 65536]) (i + 1) (x / 65536) y := by
  simp only [paymasterref01_digits.l1]
  rw [if_pos hi4, if_pos (by omega), tm _ hx, td _ hx, wu _ (by omega) (by omega), wi _ (by omega) (by omega)]
theorem digits_is (k : Nat) (hi lo : Int) (h : U64 hi) (h' : U64 lo) : paymasterref01_digits.f (k + 10) hi lo = some (dg hi lo) := by
  unfold paymasterref01_digits.f
  rw [dg_step _ 0 _ _ (by omega) (by omega) (by simp) h'.1 h'.2, dg_step _ _ _ _ (by omega) (by omega) (by simp) (by omega) (by omega), dg_step _ _ _ _ (by omega) (by omega) (by simp) (by omega) (by omega), dg_step _ _ _ _ (by omega) (by omega) (by simp) (by omega) (by omega)]
  simp only [paymasterref01_digits.l0]
  rw [if_neg (by omega)]
  rw [dg_step1 _ 0 _ _ (by omega) (by omega) (by simp) h.1 h.2, dg_step1 _ _ _ _ (by omega) (by omega) (by simp) (by omega) (by omega), dg_step1 _ _ _ _ (by omega) (by omega) (by simp) (by omega) (by omega), dg_step1 _ _ _ _ (by omega) (by omega) (by simp) (by omega) (by omega)]
  simp only [paymasterref01_digits.l1]
  rw [if_neg (by omega)]
  rfl
def D16 (x : Int) : Prop := 0 ≤ x ∧ x < 65536
theorem num_hi {k : Nat} (l : List Int) (i j a b : Int) (hj : i = j + 1) (h4 : 4 ≤ i) (h8 : i < 8) (hl : i < l.length) (ha : 0 ≤ a) (ha' : a < 281474976710656) (hd : D16 (rd l i)) :
    paymasterref01_number.l0 (k + 3) l i a b = paymasterref01_number.l0 k l j (a * 65536 + rd l i) b := by
  obtain rfl : j = i - 1 := by omega
  obtain ⟨d0, d1⟩ := hd
  simp only [paymasterref01_number.l0, paymasterref01_number.j1, paymasterref01_number.j2]
  rw [if_pos (by omega), if_neg (by omega), if_neg (by simp), if_pos h8, if_pos (by simpa using h4), if_pos (by omega), if_pos hl, if_neg (by omega), wu (a * 65536) (by omega) (by omega), wu _ (by omega) (by omega), wi _ (by omega) (by omega)]
theorem num_lo {k : Nat} (l : List Int) (i j a b : Int) (hj : i = j + 1) (h4 : 0 ≤ i) (h8 : i < 4) (hl : i < l.length) (ha : 0 ≤ b) (ha' : b < 281474976710656) (hd : D16 (rd l i)) :
    paymasterref01_number.l0 (k + 3) l i a b = paymasterref01_number.l0 k l j a (b * 65536 + rd l i) := by
  obtain rfl : j = i - 1 := by omega
  obtain ⟨d0, d1⟩ := hd
  simp only [paymasterref01_number.l0, paymasterref01_number.j1, paymasterref01_number.j2]
  rw [if_pos (by omega), if_neg (by omega), if_neg (by simp), if_pos (by omega), if_neg (by simp; omega), if_pos (by omega), if_pos (by omega), if_pos hl, wu (b * 65536) (by omega) (by omega), wu _ (by omega) (by omega), wi _ (by omega) (by omega)]
theorem num_end {k : Nat} (l : List Int) (a b : Int) : paymasterref01_number.l0 (k + 1) l (-1) a b = some (a, b, true) := by
  simp only [paymasterref01_number.l0]
  rw [if_neg (by omega)]
theorem num_body (k : Nat) (l : List Int) (a b c d e f g h : Int) (hl : 8 ≤ l.length) (e0 : rd l 0 = a) (e1 : rd l 1 = b) (e2 : rd l 2 = c) (e3 : rd l 3 = d) (e4 : rd l 4 = e) (e5 : rd l 5 = f) (e6 : rd l 6 = g) (e7 : rd l 7 = h)
    (ha : D16 a) (hb : D16 b) (hc : D16 c) (hd : D16 d) (he : D16 e) (hf_ : D16 f) (hg : D16 g) (hh : D16 h) :
    paymasterref01_number.l0 (k + 25) l 7 0 0 = some (hf e f g h, hf a b c d, true) := by
  have b0 := ha; have b1 := hb; have b2 := hc; have b3 := hd; have b4 := he; have b5 := hf_; have b6 := hg; have b7 := hh
  unfold D16 at b0 b1 b2 b3 b4 b5 b6 b7
  subst e0 e1 e2 e3 e4 e5 e6 e7
  rw [num_hi l 7 (6) _ _ rfl (by omega) (by omega) (by omega) (by omega) (by omega) hh, num_hi l 6 (5) _ _ rfl (by omega) (by omega) (by omega) (by omega) (by omega) hg, num_hi l 5 (4) _ _ rfl (by omega) (by omega) (by omega) (by omega) (by omega) hf_, num_hi l 4 (3) _ _ rfl (by omega) (by omega) (by omega) (by omega) (by omega) he, num_lo l 3 (2) _ _ rfl (by omega) (by omega) (by omega) (by omega) (by omega) hd, num_lo l 2 (1) _ _ rfl (by omega) (by omega) (by omega) (by omega) (by omega) hc, num_lo l 1 (0) _ _ rfl (by omega) (by omega) (by omega) (by omega) (by omega) hb, num_lo l 0 (-1) _ _ rfl (by omega) (by omega) (by omega) (by omega) (by omega) ha]
  refine (num_end (k := k) l _ _).trans ?_
  unfold hf
  simp only [Int.zero_mul, Int.zero_add]
theorem number8 (k : Nat) (a b c d e f g h : Int) (ha : D16 a) (hb : D16 b) (hc : D16 c) (hd : D16 d) (he : D16 e) (hf_ : D16 f) (hg : D16 g) (hh : D16 h) :
    paymasterref01_number.f (k + 25) [a, b, c, d, e, f, g, h] = some (hf e f g h, hf a b c d, true) := by
  unfold paymasterref01_number.f
  rw [show wrap64 (([a, b, c, d, e, f, g, h].length : Int) - 1) = 7 from by simp [wrap64]]
  exact num_body k _ a b c d e f g h (by simp) rfl rfl rfl rfl rfl rfl rfl rfl ha hb hc hd he hf_ hg hh
theorem split4 (x : Int) (h : U64 x) : ∃ d0 d1 d2 d3 : Int, x % 65536 = d0 ∧ x / 65536 % 65536 = d1 ∧ x / 65536 / 65536 % 65536 = d2 ∧ x / 65536 / 65536 / 65536 % 65536 = d3 ∧ D16 d0 ∧ D16 d1 ∧ D16 d2 ∧ D16 d3 ∧ x = hf d0 d1 d2 d3 := by
  obtain ⟨h0, h1⟩ := h
  refine ⟨_, _, _, _, rfl, rfl, rfl, rfl, ?_⟩
  unfold D16 hf
  obtain ⟨a, ha⟩ : ∃ a, x / 65536 = a := ⟨_, rfl⟩
  rw [ha]
  obtain ⟨b, hb⟩ : ∃ b, a / 65536 = b := ⟨_, rfl⟩
  rw [hb]
  obtain ⟨c, hc⟩ : ∃ c, b / 65536 = c := ⟨_, rfl⟩
  rw [hc]
  have e0 : x = a * 65536 + x % 65536 := by omega
  have e1 : a = b * 65536 + a % 65536 := by omega
  have e2 : b = c * 65536 + b % 65536 := by omega
  have c1 : 0 ≤ c ∧ c < 65536 := by omega
  generalize hx : x % 65536 = p at *
  generalize hy : a % 65536 = q at *
  generalize hz : b % 65536 = r at *
  have hw : c % 65536 = c := by omega
  rw [hw]
  refine ⟨by omega, by omega, by omega, by omega, ?_⟩
  clear ha hb hc hx hy hz hw h0 h1 c1
  subst e2
  subst e1
  exact e0
end Go.Proofs.YtpkjpiphjdpegaaDoor.P
namespace Go.Proofs.YtpkjpiphjdpegaaDoor.P
open Go.RowKit Go.Proofs.YtpkjpiphjdpegaaDoorW.PrintWords Go.Proofs.YtpkjpiphjdpegaaDoorW.PrintLast Go.Proofs.YtpkjpiphjdpegaaDoorW.PrintMore
set_option linter.unusedVariables false
set_option linter.unusedSimpArgs false
theorem dg_cases (hi lo : Int) (h : U64 hi) (h' : U64 lo) : ∃ d0 d1 d2 d3 d4 d5 d6 d7 : Int, dg hi lo = [d0, d1, d2, d3, d4, d5, d6, d7] ∧ D16 d0 ∧ D16 d1 ∧ D16 d2 ∧ D16 d3 ∧ D16 d4 ∧ D16 d5 ∧ D16 d6 ∧ D16 d7 ∧ hi = hf d4 d5 d6 d7 ∧ lo = hf d0 d1 d2 d3 := by
  obtain ⟨d0, d1, d2, d3, e0, e1, e2, e3, h0, h1, h2, h3, hl⟩ := split4 lo h'
  obtain ⟨d4, d5, d6, d7, e4, e5, e6, e7, h4, h5, h6, h7, hh⟩ := split4 hi h
  refine ⟨d0, d1, d2, d3, d4, d5, d6, d7, ?_, h0, h1, h2, h3, h4, h5, h6, h7, hh, hl⟩
  unfold dg
  rw [e0, e1, e2, e3, e4, e5, e6, e7]
theorem sum_digits (x0 x1 x2 x3 x4 x5 x6 x7 : Int) : hf x4 x5 x6 x7 * 18446744073709551616 + hf x0 x1 x2 x3 = x0 + x1 * 65536 + x2 * 4294967296 + x3 * 281474976710656 + x4 * 18446744073709551616 + x5 * 1208925819614629174706176 + x6 * 79228162514264337593543950336 + x7 * 5192296858534827628530496329220096 := by
  unfold hf; omega
theorem hf_range (a b c d : Int) (ha : D16 a) (hb : D16 b) (hc : D16 c) (hd : D16 d) : U64 (hf a b c d) := by
  unfold D16 at *; unfold hf; constructor <;> omega
end Go.Proofs.YtpkjpiphjdpegaaDoor.P
namespace Go.Proofs.YtpkjpiphjdpegaaDoor.P
open Go.RowKit Go.Proofs.YtpkjpiphjdpegaaDoorW.PrintWords Go.Proofs.YtpkjpiphjdpegaaDoorW.PrintLast Go.Proofs.YtpkjpiphjdpegaaDoorW.PrintMore
set_option linter.unusedVariables false
set_option linter.unusedSimpArgs false
def numL : List Int → Int
  | [] => 0
  | x :: l => x + 65536 * numL l
def Ds (l : List Int) : Prop := ∀ d, d ∈ l → D16 d
theorem numL_append : ∀ (a b : List Int), numL (a ++ b) = numL a + numL b * 65536 ^ a.length
  | [], b => by simp [numL]
  | x :: a, b => by
    simp only [List.cons_append, numL, List.length_cons, Int.pow_succ]
    rw [numL_append a b]
    have e : numL b * (65536 ^ a.length * 65536) = 65536 * (numL b * 65536 ^ a.length) := by rw [← Int.mul_assoc, Int.mul_comm]
    rw [e]
    omega
theorem Ds_getD {l : List Int} {m : Nat} (h : Ds l) (hm : m < l.length) : D16 (l.getD m 0) := by
  rw [List.getD_eq_getElem?_getD, List.getElem?_eq_getElem hm]
  exact h _ (List.getElem_mem hm)
theorem numL_dg (a b : Int) (ha : U64 a) (hb : U64 b) : numL (dg a b) = val a b ∧ Ds (dg a b) ∧ (dg a b).length = 8 := by
  obtain ⟨d0, d1, d2, d3, d4, d5, d6, d7, eX, h0, h1, h2, h3, h4, h5, h6, h7, va, vb⟩ := dg_cases a b ha hb
  rw [eX]
  refine ⟨?_, ?_, rfl⟩
  · unfold val
    rw [va, vb, sum_digits]
    simp only [numL]
    omega
  · intro d hd
    simp only [List.mem_cons, List.not_mem_nil, or_false] at hd
    rcases hd with rfl | rfl | rfl | rfl | rfl | rfl | rfl | rfl <;> assumption
theorem list_cons {α : Type} (l : List α) (n : Nat) (h : l.length = n + 1) : ∃ x t, l = x :: t ∧ t.length = n := by
  cases l with
  | nil => cases h
  | cons x t => exact ⟨x, t, rfl, by simpa using h⟩
theorem number8' (k : Nat) (l : List Int) (hl : l.length = 8) (hd : Ds l) : paymasterref01_number.f (k + 25) l = some (hiOf (numL l), loOf (numL l), true) := by
  obtain ⟨d0, l1, rfl, k1⟩ := list_cons l 7 hl
  obtain ⟨d1, l2, rfl, k2⟩ := list_cons l1 6 k1
  obtain ⟨d2, l3, rfl, k3⟩ := list_cons l2 5 k2
  obtain ⟨d3, l4, rfl, k4⟩ := list_cons l3 4 k3
  obtain ⟨d4, l5, rfl, k5⟩ := list_cons l4 3 k4
  obtain ⟨d5, l6, rfl, k6⟩ := list_cons l5 2 k5
  obtain ⟨d6, l7, rfl, k7⟩ := list_cons l6 1 k6
  obtain ⟨d7, l8, rfl, k8⟩ := list_cons l7 0 k7
  obtain rfl := List.eq_nil_of_length_eq_zero k8
  have h0 := hd d0 (by simp)
  have h1 := hd d1 (by simp)
  have h2 := hd d2 (by simp)
  have h3 := hd d3 (by simp)
  have h4 := hd d4 (by simp)
  have h5 := hd d5 (by simp)
  have h6 := hd d6 (by simp)
  have h7 := hd d7 (by simp)
  rw [number8 k d0 d1 d2 d3 d4 d5 d6 d7 h0 h1 h2 h3 h4 h5 h6 h7]
  have s := sum_digits d0 d1 d2 d3 d4 d5 d6 d7
  have e : numL [d0, d1, d2, d3, d4, d5, d6, d7] = hf d4 d5 d6 d7 * 18446744073709551616 + hf d0 d1 d2 d3 := by
    rw [s]; simp only [numL]; omega
  obtain ⟨e1, e2⟩ := halves _ _ _ (hf_range d0 d1 d2 d3 h0 h1 h2 h3) e
  rw [e1, e2]
end Go.Proofs.YtpkjpiphjdpegaaDoor.P
namespace Go.Proofs.YtpkjpiphjdpegaaDoor.P
open Go.RowKit Go.Proofs.YtpkjpiphjdpegaaDoorW.PrintWords Go.Proofs.YtpkjpiphjdpegaaDoorW.PrintLast Go.Proofs.YtpkjpiphjdpegaaDoorW.PrintMore
set_option linter.unusedVariables false
set_option linter.unusedSimpArgs false
theorem over_bit (k : Nat) (n : Int) (X q : List Int) (i : Nat) (x g rest p one : Int) (hn : 0 < n) (hn' : n < 18446744073709551616) (lX : X.length = 8) (lq : q.length = 8) (hi : i < 8) (hx : rd X i = x) (dx : D16 x) (hg : rd q i = g) (g0 : 0 ≤ g) (p0 : 0 < p) (gp : g + p ≤ 65536) (r0 : 0 ≤ rest) (r1 : rest < n) (ho : x / p % 2 = one) :
    paymasterref01_Over.l1 (k + 1) n X q rest (i : Int) p = if n ≤ 2 * rest + one then paymasterref01_Over.l1 k n X (q.set i (g + p)) (2 * rest + one - n) (i : Int) (p / 2) else paymasterref01_Over.l1 k n X q (2 * rest + one) (i : Int) (p / 2) := by
  obtain ⟨x0, x1⟩ := dx
  have d0 : 0 ≤ x / p := Int.ediv_nonneg x0 (by omega)
  have d1 : x / p ≤ x := Int.ediv_le_self _ x0
  have o0 : 0 ≤ one := by omega
  have o1 : one ≤ 1 := by omega
  simp only [paymasterref01_Over.l1]
  rw [if_pos p0, if_pos (by omega), if_pos (by omega), if_neg (by omega), hx, hg, Int.tdiv_eq_ediv_of_nonneg x0, wu (x / p) d0 (by omega), Int.tmod_eq_emod_of_nonneg d0, ho, Int.tdiv_eq_ediv_of_nonneg (a := p) (by omega), wu (p / 2) (by omega) (by omega), wu (g + p) (by omega) (by omega), wu (n - rest) (by omega) (by omega), Int.toNat_natCast]
  by_cases h1 : rest ≥ n - rest
  · rw [if_pos h1, if_pos (by omega), if_pos (show n ≤ 2 * rest + one by omega), wu (rest - (n - rest)) (by omega) (by omega), wu (rest - (n - rest) + one) (by omega) (by omega), show rest - (n - rest) + one = 2 * rest + one - n from by omega]
  · rw [if_neg h1, wu (rest + 1) (by omega) (by omega)]
    by_cases h2 : rest + 1 ≥ n - rest
    · rw [if_pos h2]
      by_cases h3 : one = 1
      · rw [if_pos h3, if_pos (by omega), if_pos (show n ≤ 2 * rest + one by omega)]
        congr 1
        rw [IntKind.wrap_u64, IntKind.wrap_u64]
        omega
      · rw [if_neg h3, if_neg (show ¬ n ≤ 2 * rest + one by omega), wu (2 * rest) (by omega) (by omega), wu (2 * rest + one) (by omega) (by omega)]
    · rw [if_neg h2, if_neg (show ¬ n ≤ 2 * rest + one by omega), wu (2 * rest) (by omega) (by omega), wu (2 * rest + one) (by omega) (by omega)]
theorem bits_split (x p : Int) (x0 : 0 ≤ x) (p0 : 0 < p) : x % (p * 2) = (x / p % 2) * p + x % p := by
  have e := Int.ediv_mul_add_emod x p
  have m0 := Int.emod_nonneg x (by omega : p ≠ 0)
  have m1 := Int.emod_lt_of_pos x p0
  have f := Int.ediv_mul_add_emod (x / p) 2
  have b0 := Int.emod_nonneg (x / p) (by omega : (2 : Int) ≠ 0)
  have b1 := Int.emod_lt_of_pos (x / p) (by omega : (0 : Int) < 2)
  generalize x / p % 2 = b at *
  generalize x / p / 2 = d at *
  generalize x % p = m at *
  have t : x = b * p + m + d * (p * 2) := by
    rw [← e, ← f, Int.add_mul, Int.mul_assoc, Int.mul_comm 2 p]
    omega
  rw [t, Int.add_mul_emod_self_right]
  have hb : b = 0 ∨ b = 1 := by omega
  rcases hb with rfl | rfl
  · exact Int.emod_eq_of_lt (by omega) (by omega)
  · exact Int.emod_eq_of_lt (by omega) (by omega)
theorem set_self (q : List Int) (i : Nat) (h : i < q.length) : q.set i (rd q i) = q := by
  have e : rd q (i : Int) = q[i] := by
    show q.getD i 0 = q[i]
    rw [List.getD_eq_getElem?_getD, List.getElem?_eq_getElem h]
    rfl
  rw [e]
  exact List.set_getElem_self h
theorem rd_set (q : List Int) (i : Nat) (v : Int) (h : i < q.length) : rd (q.set i v) i = v := by
  show (q.set i v).getD i 0 = v
  rw [List.getD_eq_getElem?_getD, List.getElem?_set_self h]
  rfl
theorem over_l1 (n : Int) (X : List Int) (i : Nat) (x : Int) (hn : 0 < n) (hn' : n < 18446744073709551616) (lX : X.length = 8) (hi : i < 8) (hx : rd X i = x) (dx : D16 x) : ∀ (s : Nat) (q : List Int) (rest g : Int), q.length = 8 → rd q i = g → 0 ≤ g → g + 2 ^ s ≤ 65536 → 0 ≤ rest → rest < n → ∀ k r,
    paymasterref01_Over.l0 k n X (q.set i (g + (rest * 2 ^ s + x % 2 ^ s) / n)) ((rest * 2 ^ s + x % 2 ^ s) % n) (wrap64 ((i : Int) - 1)) = some r → paymasterref01_Over.l1 (k + (s + 1)) n X q rest (i : Int) (2 ^ s / 2) = some r
  | 0, q, rest, g, lq, hg, g0, gs, r0, r1, k, r, h => by
    show paymasterref01_Over.l1 (k + 1) n X q rest (i : Int) ((1 : Int) / 2) = some r
    simp only [paymasterref01_Over.l1]
    rw [if_neg (by omega)]
    rw [Int.pow_zero, Int.mul_one, Int.emod_one, Int.add_zero, Int.ediv_eq_zero_of_lt r0 r1, Int.add_zero, Int.emod_eq_of_lt r0 r1, ← hg, set_self q i (by omega)] at h
    exact h
  | s + 1, q, rest, g, lq, hg, g0, gs, r0, r1, k, r, h => by
    have P0 : (0 : Int) < 2 ^ s := Int.pow_pos (by omega)
    rw [Int.pow_succ] at gs h ⊢
    obtain ⟨p, hp⟩ : ∃ p : Int, 2 ^ s = p := ⟨_, rfl⟩
    have IH := over_l1 n X i x hn hn' lX hi hx dx s
    rw [hp] at gs h IH P0 ⊢
    have dx' := dx
    obtain ⟨x0, x1⟩ := dx'
    obtain ⟨one, ho⟩ : ∃ o : Int, x / p % 2 = o := ⟨_, rfl⟩
    have B := bits_split x p x0 P0
    rw [ho] at B
    rw [show p * 2 / 2 = p from Int.mul_ediv_cancel _ (by omega)]
    have S := over_bit (k + (s + 1)) n X q i x g rest p one hn hn' lX lq hi hx dx hg g0 P0 (by omega) r0 r1 ho
    have o0 : 0 ≤ one := by omega
    have o1 : one ≤ 1 := by omega
    have M : rest * (p * 2) + x % (p * 2) = (2 * rest + one) * p + x % p := by
      rw [B, Int.add_mul, Int.mul_comm p 2, ← Int.mul_assoc, Int.mul_comm rest 2]
      omega
    rw [M] at h
    refine S.trans ?_
    by_cases c : n ≤ 2 * rest + one
    · rw [if_pos c]
      refine IH _ _ (g + p) (by rw [List.length_set]; exact lq) (rd_set q i _ (by omega)) (by omega) (by omega) (by omega) (by omega) k r ?_
      have M2 : (2 * rest + one) * p + x % p = (2 * rest + one - n) * p + x % p + p * n := by
        rw [Int.sub_mul, Int.mul_comm n p]
        omega
      rw [M2, Int.add_mul_ediv_right _ _ (by omega), Int.add_mul_emod_self_right] at h
      rw [List.set_set, show g + p + ((2 * rest + one - n) * p + x % p) / n = g + (((2 * rest + one - n) * p + x % p) / n + p) from by omega]
      exact h
    · rw [if_neg c]
      exact IH q (2 * rest + one) g lq hg g0 (by omega) (by omega) (by omega) k r h
theorem set_mid : ∀ (t : Nat) (Q : List Int) (d : Int), (List.replicate (t + 1) 0 ++ Q).set t d = List.replicate t 0 ++ (d :: Q)
  | 0, Q, d => rfl
  | t + 1, Q, d => by
    rw [List.replicate_succ, List.cons_append, List.set_cons_succ, set_mid t Q d]
    rfl
theorem rd_mid : ∀ (t : Nat) (Q : List Int), rd (List.replicate (t + 1) 0 ++ Q) (t : Int) = 0
  | 0, Q => rfl
  | t + 1, Q => rd_mid t Q
theorem over_l0 (n : Int) (X : List Int) (hn : 0 < n) (hn' : n < 18446744073709551616) (lX : X.length = 8) (dX : Ds X) : ∀ (t : Nat) (Q : List Int) (rest : Int), t + Q.length = 8 → 0 ≤ rest → rest < n →
    ∃ R rest', R.length = t ∧ Ds R ∧ 0 ≤ rest' ∧ rest' < n ∧ numL R * n + rest' = rest * 65536 ^ t + numL (X.take t) ∧ ∀ k r, paymasterref01_Over.l0 k n X (R ++ Q) rest' (-1) = some r → paymasterref01_Over.l0 (k + 18 * t) n X (List.replicate t 0 ++ Q) rest ((t : Int) - 1) = some r
  | 0, Q, rest, hl, r0, r1 => by
    refine ⟨[], rest, rfl, fun d hd => (by cases hd), r0, r1, ?_, fun k r h => h⟩
    simp [numL]
  | t + 1, Q, rest, hl, r0, r1 => by
    have dx := Ds_getD (m := t) dX (by omega)
    obtain ⟨x, hx⟩ : ∃ x, rd X t = x := ⟨_, rfl⟩
    have dx : D16 x := by rw [← hx]; exact dx
    have dx' := dx
    obtain ⟨x0, x1⟩ := dx'
    obtain ⟨d, hd⟩ : ∃ d, (rest * 65536 + x) / n = d := ⟨_, rfl⟩
    obtain ⟨e, he⟩ : ∃ e, (rest * 65536 + x) % n = e := ⟨_, rfl⟩
    have E := Int.ediv_mul_add_emod (rest * 65536 + x) n
    rw [hd, he] at E
    have e0 : 0 ≤ e := by rw [← he]; exact Int.emod_nonneg _ (by omega)
    have e1 : e < n := by rw [← he]; exact Int.emod_lt_of_pos _ hn
    have d0 : 0 ≤ d := by rw [← hd]; exact Int.ediv_nonneg (by omega) (by omega)
    have d1 : d < 65536 := by
      rw [← hd]
      exact Int.ediv_lt_of_lt_mul hn (by omega)
    obtain ⟨R, rest', a1, a2, a3, a4, a5, a6⟩ := over_l0 n X hn hn' lX dX t (d :: Q) e (by simp only [List.length_cons]; omega) e0 e1
    refine ⟨R ++ [d], rest', by simp [a1], ?_, a3, a4, ?_, fun k r h => ?_⟩
    · intro z hz
      rcases List.mem_append.1 hz with h | h
      · exact a2 z h
      · rw [List.mem_singleton] at h
        subst h
        exact ⟨d0, d1⟩
    · have T : X.take (t + 1) = X.take t ++ [x] := by
        have g : X[t]'(by omega) = x := by
          rw [← hx]
          show _ = X.getD t 0
          rw [List.getD_eq_getElem?_getD, List.getElem?_eq_getElem (by omega)]
          rfl
        rw [List.take_succ_eq_append_getElem (by omega), g]
      have ll : (X.take t).length = t := by rw [List.length_take]; omega
      rw [T, numL_append, numL_append, a1, ll, Int.pow_succ]
      have s1 : ∀ z : Int, numL [z] = z := fun z => by simp [numL]
      rw [s1, s1]
      have P : (d * n + e) * 65536 ^ t = (rest * 65536 + x) * 65536 ^ t := by rw [E]
      rw [Int.add_mul, Int.add_mul] at P
      rw [Int.add_mul, Int.mul_right_comm d, Int.mul_comm (65536 ^ t) 65536, ← Int.mul_assoc]
      omega
    · have F := a6 k r (by rw [List.append_assoc] at h; exact h)
      rw [show k + 18 * (t + 1) = k + 18 * t + 17 + 1 from by omega]
      rw [show ((t + 1 : Nat) : Int) - 1 = (t : Int) from by omega]
      simp only [paymasterref01_Over.l0]
      rw [if_pos (by omega)]
      have lq : (List.replicate (t + 1) (0 : Int) ++ Q).length = 8 := by rw [List.length_append, List.length_replicate]; exact hl
      refine over_l1 n X t x hn hn' lX (by omega) hx dx 16 (List.replicate (t + 1) 0 ++ Q) rest 0 lq (rd_mid t Q) (by omega) (by omega) r0 r1 (k + 18 * t) r ?_
      rw [show x % 2 ^ 16 = x from Int.emod_eq_of_lt x0 x1, show rest * 2 ^ 16 + x = rest * 65536 + x from rfl, hd, he, set_mid, Int.zero_add, wi _ (by omega) (by omega)]
      exact F
theorem refOver_is (k : Nat) (a b n : Int) (ha : U64 a) (hb : U64 b) (hn : U64 n) : paymasterref01_Over.f (k + 180) a b n = u128_Over.f a b n := by
  unfold paymasterref01_Over.f
  by_cases h : n = 0
  · rw [if_pos h]
    unfold u128_Over.f
    rw [if_pos (show U64 a ∧ U64 b ∧ U64 n from ⟨ha, hb, hn⟩), if_pos h]
  rw [if_neg h, over_num a b n ha hb hn h]
  have A : paymasterref01_digits.f (k + 180) a b = some (dg a b) := digits_is (k + 170) a b ha hb
  rw [A, Option.bind_some, if_pos (by omega)]
  clear A
  obtain ⟨vX, dX, lX⟩ := numL_dg a b ha hb
  have n0 : 0 < n := by have := hn.1; omega
  obtain ⟨R, rest, a1, a2, a3, a4, a5, a6⟩ := over_l0 n (dg a b) n0 hn.2 lX dX 8 [] 0 rfl (by omega) n0
  rw [Int.zero_mul, Int.zero_add, List.take_of_length_le (by omega), vX] at a5
  have q : val a b / n = numL R := by
    rw [← a5, Int.add_comm, Int.add_mul_ediv_right _ _ h, Int.ediv_eq_zero_of_lt a3 a4, Int.zero_add]
  have m : val a b % n = rest := by
    rw [← a5, Int.add_comm, Int.add_mul_emod_self_right, Int.emod_eq_of_lt a3 a4]
  have N := number8' (k + 10) R a1 a2
  rw [q, m]
  refine a6 (k + 36) _ ?_
  rw [List.append_nil, show k + 36 = k + 35 + 1 from rfl, paymasterref01_Over.l0, if_neg (by omega), show k + 35 = k + 10 + 25 from rfl, N, Option.bind_some]
end Go.Proofs.YtpkjpiphjdpegaaDoor.P
namespace Go.Proofs.YtpkjpiphjdpegaaDoor.P
open Go.RowKit Go.Proofs.YtpkjpiphjdpegaaDoorW.PrintWords Go.Proofs.YtpkjpiphjdpegaaDoorW.PrintLast Go.Proofs.YtpkjpiphjdpegaaDoorW.PrintMore
set_option linter.unusedVariables false
set_option linter.unusedSimpArgs false
theorem u_ten : U64 10 := ⟨by omega, by omega⟩
theorem refText_step (k : Nat) (a b : Int) (ha : U64 a) (hb : U64 b) : paymasterref02_Text.f (k + 180 + 1) a b = if val a b < 10 then some (strOfNums (asc [val a b])) else (paymasterref02_Text.f (k + 180) (hiOf (val a b / 10)) (loOf (val a b / 10))).bind fun t => if t.size + 1 ≤ 9223372036854775807 then some (t ++ strOfNums (asc [val a b % 10])) else none := by
  obtain ⟨v0, v1⟩ := val_range a b ha hb
  rw [paymasterref02_Text.f, refOver_is k a b 10 ha hb u_ten, over_num a b 10 ha hb u_ten (by omega), Option.bind_some, Option.bind_some]
  generalize val a b = v at *
  have e : (48 + v % 10 % 256) % 256 = v % 10 + 48 := by omega
  have s : (strOfNums [v % 10 + 48]).size = 1 := by rw [strOfNums_size]; rfl
  by_cases h : v < 10
  · have q : v / 10 = 0 := by omega
    have r : v % 10 = v := by omega
    rw [r] at e
    rw [if_pos h, q, if_pos (show (hiOf 0 == 0 && loOf 0 == 0) = true from rfl)]
    simp only [r, e]
    rfl
  · have n : (hiOf (v / 10) == 0 && loOf (v / 10) == 0) = false := by
      rw [Bool.and_eq_false_iff, beq_eq_false_iff_ne, beq_eq_false_iff_ne]
      unfold hiOf loOf
      omega
    rw [if_neg h]
    simp only [n, e, s]
    rw [if_neg (by simp)]
    rfl
theorem refText_dec : ∀ (f : Nat) (a b : Int), U64 a → U64 b → val a b < 10 ^ (f + 1) → f ≤ 100 → ∀ k, paymasterref02_Text.f (k + f + 181) a b = some (strOfNums (asc (decF f (val a b))))
  | 0, a, b, ha, hb, hv, hf, k => by
    rw [Int.pow_succ, Int.pow_zero] at hv
    refine (refText_step k a b ha hb).trans ?_
    rw [if_pos (by omega)]
    rfl
  | f + 1, a, b, ha, hb, hv, hf, k => by
    obtain ⟨v0, v1⟩ := val_range a b ha hb
    rw [Int.pow_succ] at hv
    refine (refText_step (k + f + 1) a b ha hb).trans ?_
    unfold decF
    by_cases h : val a b < 10
    · rw [if_pos h, if_pos h]
    · obtain ⟨u1, u2⟩ := u_hiOf (val a b / 10) (by omega) (by omega)
      have ih := refText_dec f _ _ u1 u2 (by rw [val_halves]; omega) (by omega) k
      rw [val_halves] at ih
      have l := (dec_len f (val a b / 10)).2
      rw [if_neg h, if_neg h, show k + f + 1 + 180 = k + f + 181 from by omega, ih, Option.bind_some, strOfNums_size, if_pos (by simp only [asc, List.length_map]; omega), str_append]
      unfold asc
      rw [List.map_append]
theorem refDText_is (k : Nat) (a b : Int) (ha : U64 a) (hb : U64 b) : paymasterref02_Text.f (k + 219) a b = decimal_Text.f a b := by
  obtain ⟨v0, v1⟩ := val_range a b ha hb
  have := m39
  rw [text_num a b ha hb]
  exact refText_dec 38 a b ha hb (by omega) (by omega) k
end Go.Proofs.YtpkjpiphjdpegaaDoor.P
namespace Go.Proofs.YtpkjpiphjdpegaaDoor.P
open Go.RowKit Go.Proofs.YtpkjpiphjdpegaaDoorW.PrintWords Go.Proofs.YtpkjpiphjdpegaaDoorW.PrintLast Go.Proofs.YtpkjpiphjdpegaaDoorW.PrintMore
set_option linter.unusedVariables false
set_option linter.unusedSimpArgs false
theorem refRowText_is (id : ByteArray) (a b : Int) (hs : id.size ≤ 1000000000) (ha : U64 a) (hb : U64 b) (k : Nat) (hk : id.size + 300 ≤ k) : paymasterref10_Text.f k id a b = some (rowText id a b) := by
  have d := dec_size a b ha hb
  have e := sp_size id
  unfold paymasterref10_Text.f rowText
  rw [refMayId_is id hs k (by omega), Option.bind_some]
  by_cases m : mayId id = true
  · have t := refDText_is (k - 219) a b ha hb
    rw [show k - 219 + 219 = k by omega, text_num a b ha hb] at t
    rw [if_pos m, if_pos m, if_pos (by omega), t, Option.bind_some, if_pos (by omega)]
  · rw [if_neg m, if_neg m]
end Go.Proofs.YtpkjpiphjdpegaaDoor.P
namespace Go.Proofs.YtpkjpiphjdpegaaDoor.P
open Go.RowKit Go.Proofs.YtpkjpiphjdpegaaDoorW.PrintWords Go.Proofs.YtpkjpiphjdpegaaDoorW.PrintLast Go.Proofs.YtpkjpiphjdpegaaDoorW.PrintMore
attribute [local go_sem] max2_int min2_int max_two min_two max_three min_three max_four min_four
set_option linter.unusedVariables false
set_option linter.unusedSimpArgs false
mutual
def paymasterref10_Write.j0 : Nat → List (S44) → ByteArray → ByteArray → Option (ByteArray × Int)
  | 0, _, _, _ => none
  | k + 1, x0, x1, x6 => paymasterref10_Write.l0 k x0 x1 x6 0
def paymasterref10_Write.l0 : Nat → List (S44) → ByteArray → ByteArray → Int → Option (ByteArray × Int)
  | 0, _, _, _, _ => none
  | k + 1, x0, x1, x6, x7 => if x7 < (x0.length : Int) then (if 0 ≤ x7 then ((paymasterref10_Text.f k ((rd_T44 x0 x7).f0) ((rd_T44 x0 x7).f1.f0) ((rd_T44 x0 x7).f1.f1)).bind fun bt993 => (if bt993.2 = 0 then (if x6.size + bt993.1.size ≤ 9223372036854775807 then (if (x6 ++ bt993.1).size + 1 ≤ 9223372036854775807 then (paymasterref10_Write.l0 k x0 x1 ((x6 ++ bt993.1) ++ (⟨#[10]⟩ : ByteArray)) (wrap64 (x7 + 1))) else (none)) else (none)) else (some ((⟨#[]⟩ : ByteArray), bt993.2)))) else (none)) else ((paymasterref09_Runes.f k x1).bind fun bt995 => (if bt995.2 = 0 then (if (bt995.1.length : Int) > 78 then (some ((⟨#[]⟩ : ByteArray), 91)) else ((paymasterref09_Split.f k x1).bind fun t999 => (if (t999.length : Int) > 1 then (some ((⟨#[]⟩ : ByteArray), 91)) else (some (x6, 0))))) else (some ((⟨#[]⟩ : ByteArray), 91))))
end
def paymasterref10_Write.f (k : Nat) (l0 : List (S44)) (a1 : ByteArray) : Option (ByteArray × Int) := if a1.toList = ([] : List UInt8) then (paymasterref10_Write.j0 k l0 a1 (⟨#[]⟩ : ByteArray)) else (if 2 + a1.size ≤ 9223372036854775807 then (if ((⟨#[35, 32]⟩ : ByteArray) ++ a1).size + 1 ≤ 9223372036854775807 then (paymasterref10_Write.j0 k l0 a1 (((⟨#[35, 32]⟩ : ByteArray) ++ a1) ++ (⟨#[10]⟩ : ByteArray))) else (none)) else (none))
set_option maxHeartbeats 8000000 in
set_option maxRecDepth 100000 in
theorem paymasterref10_Write.calls (k : Nat) (A0 : Option Addr) (c0 : Nat) (l0 : List (S44)) (a1 : ByteArray) (r1 : ByteArray) (r2 : Int) (w : World) (hr0 : Kd.C k44 w A0 l0.length l0) (hc0 : l0.length ≤ c0) (h : paymasterref10_Write.f k l0 a1 = some (r1, r2)) :
    Calls Tryd.prog 56 #[.slice A0 l0.length c0, .string a1] w fun e w' => e = .returned (.tuple #[.string r1, .int .i64 r2]) ∧ Below w.heap.size w w' := by
  have hu44 := Tryd.underlying44
  have HR0 := Aside0.mk hr0
  have HC0 := Aside0.mk hc0
  clear hr0 hc0
  have HB := Aside0.mk (Below.refl w.heap.size w)
  have H : (if a1.toList = ([] : List UInt8) then (paymasterref10_Write.j0 k l0 a1 (⟨#[]⟩ : ByteArray)) else (if 2 + a1.size ≤ 9223372036854775807 then (if ((⟨#[35, 32]⟩ : ByteArray) ++ a1).size + 1 ≤ 9223372036854775807 then (paymasterref10_Write.j0 k l0 a1 (((⟨#[35, 32]⟩ : ByteArray) ++ a1) ++ (⟨#[10]⟩ : ByteArray))) else (none)) else (none))) = some (r1, r2) := h
  clear h
  have HC3 := Aside0.mk H
  clear H
  go_enter Tryd.func56, Tryd.ntmps56
  go_upto_if 13 with (fail)
  go_cut [6] (fun v6 wc => ∃ (kq : Nat) (x6_2 : ByteArray), v6 = .string x6_2 ∧ Aside0 (paymasterref10_Write.j0 kq l0 a1 x6_2 = some (r1, r2)) ∧ Aside0 (kq ≤ k) ∧ Aside0 (Below w.heap.size w wc))
  case first =>
    have H := HC3.out
    clear HC3
    by_cases c4 : a1.toList = ([] : List UInt8)
    · rw [if_pos c4] at H
      have c4b0 : (a1.toList == ([] : List UInt8)) = true := beq_iff_eq.mpr c4
      try have c4b9 : (a1.toList.isEmpty) = true := by have e_ := c4b0; simp only [show ∀ l_ : List UInt8, (l_ == []) = l_.isEmpty from fun l_ => by cases l_ <;> rfl] at e_; exact e_
      have c4b1 : (a1.toList != ([] : List UInt8)) = false := bne_eq_false_iff_eq.mpr c4
      clear c4
      (first | rw [c4b0] | rw [c4b9] | (simp only [i64_w, i32_w]; rw [c4b0]) | skip)
      have H' := Aside0.mk H
      clear H
      go_wp2
      go_meet
      case rel => exact ⟨_, ((⟨#[]⟩ : ByteArray)), (by first | rfl | (simp; done) | (simp [*]; done)), H', ⟨by first | omega | exact Nat.le_refl _⟩, ⟨by repeat (first | (with_reducible first | exact HB.out | apply below_alloc | apply pw_below_drewN | apply below_drew1) | exact HB.out)⟩⟩
    · rw [if_neg c4] at H
      have c4b0 : (a1.toList == ([] : List UInt8)) = false := beq_eq_false_iff_ne.mpr c4
      try have c4b9 : (a1.toList.isEmpty) = false := by have e_ := c4b0; simp only [show ∀ l_ : List UInt8, (l_ == []) = l_.isEmpty from fun l_ => by cases l_ <;> rfl] at e_; exact e_
      have c4b1 : (a1.toList != ([] : List UInt8)) = true := bne_iff_ne.mpr c4
      (first | rw [c4b0] | rw [c4b9] | (simp only [i64_w, i32_w]; rw [c4b0]) | skip)
      by_cases c5 : 2 + a1.size ≤ 9223372036854775807
      · rw [if_pos c5] at H
        have c5b0 := eq_true c5
        have c5b1 : decide (2 + a1.size ≤ 9223372036854775807) = true := decide_eq_true c5
        try have c5b2 : (9223372036854775807 < 2 + a1.size) = False := eq_false (Nat.not_lt.2 c5)
        by_cases c6 : ((⟨#[35, 32]⟩ : ByteArray) ++ a1).size + 1 ≤ 9223372036854775807
        · rw [if_pos c6] at H
          have c6b0 := eq_true c6
          have c6b1 : decide (((⟨#[35, 32]⟩ : ByteArray) ++ a1).size + 1 ≤ 9223372036854775807) = true := decide_eq_true c6
          try have c6b2 : (9223372036854775807 < ((⟨#[35, 32]⟩ : ByteArray) ++ a1).size + 1) = False := eq_false (Nat.not_lt.2 c6)
          try have c6b3 : (9223372036854775807 < 2 + a1.size + 1) = False := eq_false (by have e_ := c6; repeat rw [ByteArray.size_append] at e_; exact Nat.not_lt.2 e_)
          have H' := Aside0.mk H
          clear H
          go_wp2
          go_meet
          case rel => exact ⟨_, (((⟨#[35, 32]⟩ : ByteArray) ++ a1) ++ (⟨#[10]⟩ : ByteArray)), (by first | rfl | (simp; done) | (simp [*]; done)), H', ⟨by first | omega | exact Nat.le_refl _⟩, ⟨by repeat (first | (with_reducible first | exact HB.out | apply below_alloc | apply pw_below_drewN | apply below_drew1) | exact HB.out)⟩⟩
        · rw [if_neg c6] at H
          exact absurd H (by simp)
      · rw [if_neg c5] at H
        exact absurd H (by simp)
  case rest =>
    clear HC3
    try clear p2
    try clear c4
    try clear c4b0
    try clear c4b1
    try clear c5
    try clear c5b0
    try clear c5b1
    try clear c5b2
    try clear c6
    try clear c6b0
    try clear c6b1
    try clear c6b2
    obtain ⟨kq, x6_2, rfl, HA, HJ2, HB⟩ := hcut
    cases kq with
    | zero => exact absurd HA.out (by simp [paymasterref10_Write.j0])
    | succ kj2 =>
      have H := HA.out
      clear HA
      simp only [paymasterref10_Write.j0] at H
      have H' := Aside0.mk H
      clear H
      go_wp2
      go_loopg [6, 7] kj2 (fun kq v6 v7 w' => ∃ (x6_2 : ByteArray) (x7_2 : Int), v6 = .string x6_2 ∧ v7 = .int .i64 x7_2 ∧ Aside0 (paymasterref10_Write.l0 kq l0 a1 x6_2 x7_2 = some (r1, r2)) ∧ Aside0 (kq ≤ kj2) ∧ Aside0 (Below w.heap.size w w'))
      case atStart => exact ⟨(x6_2), (0), (by first | rfl | (simp; done) | (simp [*]; done)), (by first | rfl | (simp; done) | (simp [*]; done)), H', ⟨Nat.le_refl _⟩, ⟨by repeat (first | (with_reducible first | exact HB.out | apply below_alloc | apply pw_below_drewN | apply below_drew1) | exact HB.out)⟩⟩
      case round =>
        clear H'
        try clear p2
        try clear c4
        try clear c4b0
        try clear c4b1
        try clear c5
        try clear c5b0
        try clear c5b1
        try clear c5b2
        try clear c6
        try clear c6b0
        try clear c6b1
        try clear c6b2
        try clear p2
        obtain ⟨x6_2, x7_2, rfl, rfl, HA, HK2, HB⟩ := hrel
        cases gk with
        | zero => exact absurd HA.out (by simp [paymasterref10_Write.l0])
        | succ k2 =>
          have H := HA.out
          clear HA
          simp only [paymasterref10_Write.l0] at H
          by_cases c7 : x7_2 < (l0.length : Int)
          · rw [if_pos c7] at H
            have c7b0 : decide (x7_2 < (l0.length : Int)) = true := decide_eq_true c7
            clear c7
            by_cases c8 : 0 ≤ x7_2
            · rw [if_pos c8] at H
              have c8b0 : decide (0 ≤ x7_2) = true := decide_eq_true c8
              clear c8
              replace H := Option.bind_eq_some_iff.mp H
              obtain ⟨⟨t993, t994⟩, A90, H⟩ := H
              replace H : (if t994 = 0 then (if x6_2.size + t993.size ≤ 9223372036854775807 then (if (x6_2 ++ t993).size + 1 ≤ 9223372036854775807 then (paymasterref10_Write.l0 k2 l0 a1 ((x6_2 ++ t993) ++ (⟨#[10]⟩ : ByteArray)) (wrap64 (x7_2 + 1))) else (none)) else (none)) else (some ((⟨#[]⟩ : ByteArray), t994))) = some (r1, r2) := H
              have A9 := Aside0.mk A90
              clear A90
              by_cases c10 : t994 = 0
              · rw [if_pos c10] at H
                have c10b0 : (t994 == 0) = true := beq_iff_eq.mpr c10
                have c10b1 : (t994 != 0) = false := bne_eq_false_iff_eq.mpr c10
                clear c10
                by_cases c11 : x6_2.size + t993.size ≤ 9223372036854775807
                · rw [if_pos c11] at H
                  have c11b0 := eq_true c11
                  have c11b1 : decide (x6_2.size + t993.size ≤ 9223372036854775807) = true := decide_eq_true c11
                  try have c11b2 : (9223372036854775807 < x6_2.size + t993.size) = False := eq_false (Nat.not_lt.2 c11)
                  by_cases c12 : (x6_2 ++ t993).size + 1 ≤ 9223372036854775807
                  · rw [if_pos c12] at H
                    have c12b0 := eq_true c12
                    have c12b1 : decide ((x6_2 ++ t993).size + 1 ≤ 9223372036854775807) = true := decide_eq_true c12
                    try have c12b2 : (9223372036854775807 < (x6_2 ++ t993).size + 1) = False := eq_false (Nat.not_lt.2 c12)
                    try have c12b3 : (9223372036854775807 < x6_2.size + t993.size + 1) = False := eq_false (by have e_ := c12; repeat rw [ByteArray.size_append] at e_; exact Nat.not_lt.2 e_)
                    have H' := Aside0.mk H
                    clear H
                    have p992 : 0 ≤ (x7_2 : Int) := of_decide_eq_true (by first | (with_reducible assumption) | assumption)
                    have q992 : x7_2 < (l0.length : Int) := of_decide_eq_true (by first | (with_reducible assumption) | assumption)
                    obtain ⟨ad992, e992, hx992_0, hx992_1, hx992_2⟩ := at_T44 HR0.out x7_2 p992 q992
                    cases e992
                    replace hx992_0 := (HB.out.cell (World.block_lt_of_cell? w _ hx992_0)).trans hx992_0
                    replace hx992_1 := (HB.out.cell (World.block_lt_of_cell? w _ hx992_1)).trans hx992_1
                    replace hx992_2 := (HB.out.cell (World.block_lt_of_cell? w _ hx992_2)).trans hx992_2
                    replace p992 := eq_true p992
                    replace q992 := eq_true q992
                    go_wp2_with (first | ((with_reducible refine gate_callee (f := 49) rfl ?_); refine goesL_ (some 28) rfl rfl Tryd.func49 (by kernel_rfl) rfl #[.agg #[.string ((rd_T44 l0 x7_2).f0), .int .u64 ((rd_T44 l0 x7_2).f1.f0), .int .u64 ((rd_T44 l0 x7_2).f1.f1)]] rfl (by (try simp only [List.map_toArray, List.map_cons, List.map_nil]); first | done | rfl | (simp only [List.length_drop, List.length_take]; rfl)) ?_; (with_reducible refine (paymasterref10_Text.calls k2 ((rd_T44 l0 x7_2).f0) ((rd_T44 l0 x7_2).f1.f0) ((rd_T44 l0 x7_2).f1.f1) t993 t994 _ A9.out).mono ?_); rintro e w13 ⟨rfl, hb⟩; refine ⟨_, rfl, ?_⟩; have n0_ := Aside0.mk (below_step (by repeat (first | (with_reducible first | exact HB.out | apply below_alloc | apply pw_below_drewN | apply below_drew1) | exact HB.out)) hb); clear HB; have HB := n0_; clear n0_; (try clear hb); (try clear hb2); (try clear hk); (try clear hi)))
                    go_roundg k2
                    case measure => have := HJ2.out; have := HK2.out; omega
                    case rel => exact ⟨((x6_2 ++ t993) ++ (⟨#[10]⟩ : ByteArray)), (wrap64 (x7_2 + 1)), (by first | rfl | (simp; done) | (simp [*]; done)), (by first | rfl | (simp; done) | (simp [*]; done)), H', ⟨by have := HJ2.out; have := HK2.out; omega⟩, ⟨by repeat (first | (with_reducible first | exact HB.out | apply below_alloc | apply pw_below_drewN | apply below_drew1) | exact HB.out)⟩⟩
                  · rw [if_neg c12] at H
                    exact absurd H (by simp)
                · rw [if_neg c11] at H
                  exact absurd H (by simp)
              · rw [if_neg c10] at H
                have c10b0 : (t994 == 0) = false := beq_eq_false_iff_ne.mpr c10
                have c10b1 : (t994 != 0) = true := bne_iff_ne.mpr c10
                simp only [Option.some.injEq, Prod.mk.injEq] at H
                obtain ⟨rfl, rfl⟩ := H
                have p992 : 0 ≤ (x7_2 : Int) := of_decide_eq_true (by first | (with_reducible assumption) | assumption)
                have q992 : x7_2 < (l0.length : Int) := of_decide_eq_true (by first | (with_reducible assumption) | assumption)
                obtain ⟨ad992, e992, hx992_0, hx992_1, hx992_2⟩ := at_T44 HR0.out x7_2 p992 q992
                cases e992
                replace hx992_0 := (HB.out.cell (World.block_lt_of_cell? w _ hx992_0)).trans hx992_0
                replace hx992_1 := (HB.out.cell (World.block_lt_of_cell? w _ hx992_1)).trans hx992_1
                replace hx992_2 := (HB.out.cell (World.block_lt_of_cell? w _ hx992_2)).trans hx992_2
                replace p992 := eq_true p992
                replace q992 := eq_true q992
                go_wp2_with (first | ((with_reducible refine gate_callee (f := 49) rfl ?_); refine goesL_ (some 28) rfl rfl Tryd.func49 (by kernel_rfl) rfl #[.agg #[.string ((rd_T44 l0 x7_2).f0), .int .u64 ((rd_T44 l0 x7_2).f1.f0), .int .u64 ((rd_T44 l0 x7_2).f1.f1)]] rfl (by (try simp only [List.map_toArray, List.map_cons, List.map_nil]); first | done | rfl | (simp only [List.length_drop, List.length_take]; rfl)) ?_; (with_reducible refine (paymasterref10_Text.calls k2 ((rd_T44 l0 x7_2).f0) ((rd_T44 l0 x7_2).f1.f0) ((rd_T44 l0 x7_2).f1.f1) t993 t994 _ A9.out).mono ?_); rintro e w14 ⟨rfl, hb⟩; refine ⟨_, rfl, ?_⟩; have n0_ := Aside0.mk (below_step (by repeat (first | (with_reducible first | exact HB.out | apply below_alloc | apply pw_below_drewN | apply below_drew1) | exact HB.out)) hb); clear HB; have HB := n0_; clear n0_; (try clear hb); (try clear hb2); (try clear hk); (try clear hi)))
                go_ret2
                exact ⟨by first | rfl | (simp [errW_none, errW_some] <;> rfl) | (simp [*, errW_none, errW_some] <;> rfl), by repeat (first | (with_reducible first | exact HB.out | apply below_alloc | apply pw_below_drewN | apply below_drew1) | exact HB.out)⟩
            · rw [if_neg c8] at H
              exact absurd H (by simp)
          · rw [if_neg c7] at H
            have c7b0 : decide (x7_2 < (l0.length : Int)) = false := decide_eq_false c7
            clear c7
            replace H := Option.bind_eq_some_iff.mp H
            obtain ⟨⟨t995, t996⟩, A150, H⟩ := H
            replace H : (if t996 = 0 then (if (t995.length : Int) > 78 then (some ((⟨#[]⟩ : ByteArray), 91)) else ((paymasterref09_Split.f k2 a1).bind fun t999 => (if (t999.length : Int) > 1 then (some ((⟨#[]⟩ : ByteArray), 91)) else (some (x6_2, 0))))) else (some ((⟨#[]⟩ : ByteArray), 91))) = some (r1, r2) := H
            have A15 := Aside0.mk A150
            clear A150
            by_cases c16 : t996 = 0
            · rw [if_pos c16] at H
              have c16b0 : (t996 == 0) = true := beq_iff_eq.mpr c16
              have c16b1 : (t996 != 0) = false := bne_eq_false_iff_eq.mpr c16
              clear c16
              by_cases c17 : (t995.length : Int) > 78
              · rw [if_pos c17] at H
                have c17b0 : decide (78 < (t995.length : Int)) = true := decide_eq_true c17
                have c17b1 : decide (78 < t995.length) = true := decide_eq_true (by omega)
                clear c17
                simp only [Option.some.injEq, Prod.mk.injEq] at H
                obtain ⟨rfl, rfl⟩ := H
                go_wp2_with (first | ((with_reducible refine gate_callee (f := 21) rfl ?_); refine goesL_ (some 40) rfl rfl Tryd.func21 (by kernel_rfl) rfl #[.string a1] rfl (by (try simp only [List.map_toArray, List.map_cons, List.map_nil]); first | done | rfl | (simp only [List.length_drop, List.length_take]; rfl)) ?_; (with_reducible refine (paymasterref09_Runes.calls k2 a1 t995 t996 _ A15.out).mono ?_); rintro e w18 ⟨v997, rfl, ho0, hb⟩; refine ⟨_, rfl, ?_⟩; have n0_ := Aside0.mk (Kd.R_lower ho0 (below_size (by repeat (first | (with_reducible first | exact HB.out | apply below_alloc | apply pw_below_drewN | apply below_drew1) | exact HB.out)))); have n1_ := Aside0.mk (below_step (by repeat (first | (with_reducible first | exact HB.out | apply below_alloc | apply pw_below_drewN | apply below_drew1) | exact HB.out)) hb); clear HB; have HO998 := n0_; have HB := n1_; clear n0_ n1_; (try clear hb); (try clear hb2); (try clear hk); (try clear hi); (try clear ho0); obtain ⟨Ao19, co19, eo19⟩ := Kd.R_slice HO998.out; subst eo19))
                go_ret2
                exact ⟨by first | rfl | (simp [errW_none, errW_some] <;> rfl) | (simp [*, errW_none, errW_some] <;> rfl), by repeat (first | (with_reducible first | exact HB.out | apply below_alloc | apply pw_below_drewN | apply below_drew1) | exact HB.out)⟩
              · rw [if_neg c17] at H
                have c17b0 : decide (78 < (t995.length : Int)) = false := decide_eq_false c17
                have c17b1 : decide (78 < t995.length) = false := decide_eq_false (by omega)
                clear c17
                replace H := Option.bind_eq_some_iff.mp H
                obtain ⟨t999, A200, H⟩ := H
                replace H : (if (t999.length : Int) > 1 then (some ((⟨#[]⟩ : ByteArray), 91)) else (some (x6_2, 0))) = some (r1, r2) := H
                have A20 := Aside0.mk A200
                clear A200
                by_cases c21 : (t999.length : Int) > 1
                · rw [if_pos c21] at H
                  have c21b0 : decide (1 < (t999.length : Int)) = true := decide_eq_true c21
                  have c21b1 : decide (1 < t999.length) = true := decide_eq_true (by omega)
                  clear c21
                  simp only [Option.some.injEq, Prod.mk.injEq] at H
                  obtain ⟨rfl, rfl⟩ := H
                  go_wp2_with (first | ((with_reducible refine gate_callee (f := 21) rfl ?_); refine goesL_ (some 40) rfl rfl Tryd.func21 (by kernel_rfl) rfl #[.string a1] rfl (by (try simp only [List.map_toArray, List.map_cons, List.map_nil]); first | done | rfl | (simp only [List.length_drop, List.length_take]; rfl)) ?_; (with_reducible refine (paymasterref09_Runes.calls k2 a1 t995 t996 _ A15.out).mono ?_); rintro e w22 ⟨v997, rfl, ho0, hb⟩; refine ⟨_, rfl, ?_⟩; have n0_ := Aside0.mk (Kd.R_lower ho0 (below_size (by repeat (first | (with_reducible first | exact HB.out | apply below_alloc | apply pw_below_drewN | apply below_drew1) | exact HB.out)))); have n1_ := Aside0.mk (below_step (by repeat (first | (with_reducible first | exact HB.out | apply below_alloc | apply pw_below_drewN | apply below_drew1) | exact HB.out)) hb); clear HB; have HO998 := n0_; have HB := n1_; clear n0_ n1_; (try clear hb); (try clear hb2); (try clear hk); (try clear hi); (try clear ho0); obtain ⟨Ao23, co23, eo23⟩ := Kd.R_slice HO998.out; subst eo23) | (go_at_call 33; (with_reducible refine (paymasterref09_Split.calls k2 a1 t999 _ A20.out).mono ?_); rintro e w24 ⟨v1000, rfl, ho0, hb⟩; have n0_ := Aside0.mk (Kd.R_below (by (with_reducible repeat (first | apply Kd.R_alloc | apply Kd.R_drewN | apply Kd.R_drew)); exact HO998.out) hb); have n1_ := Aside0.mk (Kd.R_lower ho0 (below_size (by repeat (first | (with_reducible first | exact HB.out | apply below_alloc | apply pw_below_drewN | apply below_drew1) | exact HB.out)))); have n2_ := Aside0.mk (below_step (by repeat (first | (with_reducible first | exact HB.out | apply below_alloc | apply pw_below_drewN | apply below_drew1) | exact HB.out)) hb); clear HO998; clear HB; have HO998 := n0_; have HO1001 := n1_; have HB := n2_; clear n0_ n1_ n2_; (try clear hb); (try clear hb2); (try clear hk); (try clear hi); (try clear ho0); obtain ⟨Ao25, co25, eo25⟩ := Kd.R_slice HO1001.out; subst eo25))
                  go_ret2
                  exact ⟨by first | rfl | (simp [errW_none, errW_some] <;> rfl) | (simp [*, errW_none, errW_some] <;> rfl), by repeat (first | (with_reducible first | exact HB.out | apply below_alloc | apply pw_below_drewN | apply below_drew1) | exact HB.out)⟩
                · rw [if_neg c21] at H
                  have c21b0 : decide (1 < (t999.length : Int)) = false := decide_eq_false c21
                  have c21b1 : decide (1 < t999.length) = false := decide_eq_false (by omega)
                  clear c21
                  simp only [Option.some.injEq, Prod.mk.injEq] at H
                  obtain ⟨rfl, rfl⟩ := H
                  go_wp2_with (first | ((with_reducible refine gate_callee (f := 21) rfl ?_); refine goesL_ (some 40) rfl rfl Tryd.func21 (by kernel_rfl) rfl #[.string a1] rfl (by (try simp only [List.map_toArray, List.map_cons, List.map_nil]); first | done | rfl | (simp only [List.length_drop, List.length_take]; rfl)) ?_; (with_reducible refine (paymasterref09_Runes.calls k2 a1 t995 t996 _ A15.out).mono ?_); rintro e w26 ⟨v997, rfl, ho0, hb⟩; refine ⟨_, rfl, ?_⟩; have n0_ := Aside0.mk (Kd.R_lower ho0 (below_size (by repeat (first | (with_reducible first | exact HB.out | apply below_alloc | apply pw_below_drewN | apply below_drew1) | exact HB.out)))); have n1_ := Aside0.mk (below_step (by repeat (first | (with_reducible first | exact HB.out | apply below_alloc | apply pw_below_drewN | apply below_drew1) | exact HB.out)) hb); clear HB; have HO998 := n0_; have HB := n1_; clear n0_ n1_; (try clear hb); (try clear hb2); (try clear hk); (try clear hi); (try clear ho0); obtain ⟨Ao27, co27, eo27⟩ := Kd.R_slice HO998.out; subst eo27) | (go_at_call 33; (with_reducible refine (paymasterref09_Split.calls k2 a1 t999 _ A20.out).mono ?_); rintro e w28 ⟨v1000, rfl, ho0, hb⟩; have n0_ := Aside0.mk (Kd.R_below (by (with_reducible repeat (first | apply Kd.R_alloc | apply Kd.R_drewN | apply Kd.R_drew)); exact HO998.out) hb); have n1_ := Aside0.mk (Kd.R_lower ho0 (below_size (by repeat (first | (with_reducible first | exact HB.out | apply below_alloc | apply pw_below_drewN | apply below_drew1) | exact HB.out)))); have n2_ := Aside0.mk (below_step (by repeat (first | (with_reducible first | exact HB.out | apply below_alloc | apply pw_below_drewN | apply below_drew1) | exact HB.out)) hb); clear HO998; clear HB; have HO998 := n0_; have HO1001 := n1_; have HB := n2_; clear n0_ n1_ n2_; (try clear hb); (try clear hb2); (try clear hk); (try clear hi); (try clear ho0); obtain ⟨Ao29, co29, eo29⟩ := Kd.R_slice HO1001.out; subst eo29))
                  go_ret2
                  exact ⟨by first | rfl | (simp [errW_none, errW_some] <;> rfl) | (simp [*, errW_none, errW_some] <;> rfl), by repeat (first | (with_reducible first | exact HB.out | apply below_alloc | apply pw_below_drewN | apply below_drew1) | exact HB.out)⟩
            · rw [if_neg c16] at H
              have c16b0 : (t996 == 0) = false := beq_eq_false_iff_ne.mpr c16
              have c16b1 : (t996 != 0) = true := bne_iff_ne.mpr c16
              simp only [Option.some.injEq, Prod.mk.injEq] at H
              obtain ⟨rfl, rfl⟩ := H
              go_wp2_with (first | ((with_reducible refine gate_callee (f := 21) rfl ?_); refine goesL_ (some 40) rfl rfl Tryd.func21 (by kernel_rfl) rfl #[.string a1] rfl (by (try simp only [List.map_toArray, List.map_cons, List.map_nil]); first | done | rfl | (simp only [List.length_drop, List.length_take]; rfl)) ?_; (with_reducible refine (paymasterref09_Runes.calls k2 a1 t995 t996 _ A15.out).mono ?_); rintro e w30 ⟨v997, rfl, ho0, hb⟩; refine ⟨_, rfl, ?_⟩; have n0_ := Aside0.mk (Kd.R_lower ho0 (below_size (by repeat (first | (with_reducible first | exact HB.out | apply below_alloc | apply pw_below_drewN | apply below_drew1) | exact HB.out)))); have n1_ := Aside0.mk (below_step (by repeat (first | (with_reducible first | exact HB.out | apply below_alloc | apply pw_below_drewN | apply below_drew1) | exact HB.out)) hb); clear HB; have HO998 := n0_; have HB := n1_; clear n0_ n1_; (try clear hb); (try clear hb2); (try clear hk); (try clear hi); (try clear ho0)))
              go_ret2
              exact ⟨by first | rfl | (simp [errW_none, errW_some] <;> rfl) | (simp [*, errW_none, errW_some] <;> rfl), by repeat (first | (with_reducible first | exact HB.out | apply below_alloc | apply pw_below_drewN | apply below_drew1) | exact HB.out)⟩
end Go.Proofs.YtpkjpiphjdpegaaDoor.P
namespace Go.Proofs.YtpkjpiphjdpegaaDoor.P
open Go.RowKit Go.Proofs.YtpkjpiphjdpegaaDoorW.PrintWords Go.Proofs.YtpkjpiphjdpegaaDoorW.PrintLast Go.Proofs.YtpkjpiphjdpegaaDoorW.PrintMore
open Go.Proofs.YtpkjpiphjdpegaaDoor.Z
set_option linter.unusedVariables false
set_option linter.unusedSimpArgs false
theorem insL_split (x : S44) : ∀ (A B : List S44), (∀ y ∈ A, Op.bytesLess (rowKey x) (rowKey y) = false) → (∀ y ∈ B, Op.bytesLess (rowKey x) (rowKey y) = true) → insL rowKey x (A ++ B) = A ++ x :: B
  | [], [], _, _ => rfl
  | [], y :: B, _, h => by
    rw [List.nil_append, insL, if_pos (h y (List.mem_cons_self ..))]
    rfl
  | y :: A, B, h, h' => by
    rw [List.cons_append, insL, if_neg (by rw [h y (List.mem_cons_self ..)]; decide), insL_split x A B (fun z hz => h z (List.mem_cons_of_mem _ hz)) h']
    rfl
theorem refSort_l1 (l acc : List S44) (i : Nat) (hi : i < l.length) (hl : l.length ≤ 1000) (ha : acc.length ≤ 1000) (hs : ∀ p q, p < q → q < acc.length → Op.bytesLess (rowKey (acc.getD q z44)) (rowKey (acc.getD p z44)) = false) (r : List S44)
    (R : ∃ k, paymasterref10_Sort.l0 k l (insL rowKey (l.getD i z44) acc) ((i + 1 : Nat) : Int) = some r) :
    ∀ p, p ≤ acc.length → (∀ y ∈ acc.drop p, Op.bytesLess (rowKey (l.getD i z44)) (rowKey y) = true) → ∃ k, paymasterref10_Sort.l1 k l acc (i : Int) (p : Int) = some r
  | 0, hp, hd => by
    obtain ⟨k, hk⟩ := R
    refine ⟨k + 1, ?_⟩
    have e := insL_split (l.getD i z44) [] acc (by simp) (by rw [List.drop_zero] at hd; exact hd)
    rw [List.nil_append] at e
    rw [e] at hk
    have ri : rd_T44 l (i : Int) = l.getD i z44 := by unfold rd_T44; rw [Int.toNat_natCast]
    rw [paymasterref10_Sort.l1, if_neg (by omega), Option.bind_some, if_pos (by omega), if_pos (by omega), Option.bind_some, if_pos (by simp; omega), Option.bind_some, Option.bind_some, if_pos (by omega), if_pos (by omega), if_pos (by simp), Option.bind_some, if_pos (by simp; omega), ri, wrapI _ (by omega) (by omega), show (i : Int) + 1 = ((i + 1 : Nat) : Int) from by push_cast; rfl]
    exact hk
  | p + 1, hp, hd => by
    have w1 : wrap64 (((p + 1 : Nat) : Int) - 1) = (p : Int) := by rw [wrapI _ (by omega) (by omega)]; push_cast; omega
    have ri : rd_T44 l (i : Int) = l.getD i z44 := by unfold rd_T44; rw [Int.toNat_natCast]
    have rp : rd_T44 acc (p : Int) = acc.getD p z44 := by unfold rd_T44; rw [Int.toNat_natCast]
    have nx : acc.drop p = acc.getD p z44 :: acc.drop (p + 1) := by
      rw [List.drop_eq_getElem_cons (by omega), List.getD_eq_getElem?_getD, List.getElem?_eq_getElem (by omega)]; rfl
    by_cases c : Op.bytesLess (l.getD i z44).f0.toList (acc.getD p z44).f0.toList = true
    · obtain ⟨k, hk⟩ := refSort_l1 l acc i hi hl ha hs r R p (by omega) (by
        rw [nx]
        intro y hy
        rcases List.mem_cons.1 hy with rfl | hy
        · exact c
        · exact hd y hy)
      refine ⟨k + 1, ?_⟩
      rw [paymasterref10_Sort.l1, if_pos (by omega), w1, if_pos (by omega), if_pos (by omega), if_pos (by omega), if_pos (by omega), ri, rp, if_pos c]
      exact hk
    · obtain ⟨k, hk⟩ := R
      refine ⟨k + 1, ?_⟩
      have cf : Op.bytesLess (rowKey (l.getD i z44)) (rowKey (acc.getD p z44)) = false := by simpa [rowKey] using c
      have e := insL_split (l.getD i z44) (acc.take (p + 1)) (acc.drop (p + 1)) (fun y hy => by
        obtain ⟨q, hq, rfl⟩ := List.getElem_of_mem hy
        rw [List.length_take] at hq
        rw [List.getElem_take]
        have gq : acc.getD q z44 = acc[q] := by rw [List.getD_eq_getElem?_getD, List.getElem?_eq_getElem (by omega)]; rfl
        rw [← gq]
        rcases Nat.lt_or_ge q p with h | h
        · exact kl_ntrans cf (hs q p h (by omega))
        · rw [show q = p by omega]; exact cf) hd
      rw [List.take_append_drop] at e
      rw [e] at hk
      rw [paymasterref10_Sort.l1, if_pos (by omega), w1, if_pos (by omega), if_pos (by omega), if_pos (by omega), if_pos (by omega), ri, rp, if_neg c, Option.bind_some, if_pos (by omega), if_pos (by omega), Option.bind_some, Int.toNat_natCast, if_pos (by simp; omega), Option.bind_some, Option.bind_some, if_pos (by rw [List.length_take]; omega), Option.bind_some, if_pos (by simp; omega), List.nil_append, List.append_assoc, wrapI _ (by omega) (by omega), show (i : Int) + 1 = ((i + 1 : Nat) : Int) from by push_cast; rfl]
      exact hk
theorem refSort_l0 (l : List S44) (hl : l.length ≤ 1000) : ∀ (t i : Nat), i + t = l.length → ∃ k, paymasterref10_Sort.l0 k l (sortL rowKey (l.take i)) (i : Int) = some (sortL rowKey l)
  | 0, i, h => by
    obtain rfl : i = l.length := by omega
    exact ⟨1, by rw [paymasterref10_Sort.l0, if_neg (by omega), List.take_length]⟩
  | t + 1, i, h => by
    have R := refSort_l0 l hl t (i + 1) (by omega)
    have nx : l.take (i + 1) = l.take i ++ [l.getD i z44] := by
      rw [List.take_succ_eq_append_getElem (by omega), List.getD_eq_getElem?_getD, List.getElem?_eq_getElem (by omega)]; rfl
    have e : sortL rowKey (l.take (i + 1)) = insL rowKey (l.getD i z44) (sortL rowKey (l.take i)) := by
      rw [nx]
      unfold sortL
      rw [List.foldl_append]
      rfl
    rw [e] at R
    obtain ⟨T, S⟩ := srt_is (l.take i)
    have sl := S.len
    have tl : (l.take i).length = i := by rw [List.length_take]; omega
    obtain ⟨k, hk⟩ := refSort_l1 l (sortL rowKey (l.take i)) i (by omega) hl (by omega) (fun p q hpq hq => (S.asc p q hpq (by omega)).1) (sortL rowKey l) R (sortL rowKey (l.take i)).length (Nat.le_refl _) (by rw [List.drop_length]; simp)
    refine ⟨k + 1, ?_⟩
    rw [paymasterref10_Sort.l0, if_pos (by omega)]
    exact hk
theorem refSort_is (l : List S44) (hl : l.length ≤ 1000) : ∃ K, ∀ k, K ≤ k → paymasterref10_Sort.f k l = some (sortL rowKey l) := by
  obtain ⟨K, hK⟩ := refSort_l0 l hl l.length 0 (by omega)
  exact ⟨K, fun k hk => up (F := fun k => paymasterref10_Sort.f k l) (paymasterref10_Sort.mono l) hK k hk⟩
theorem valid_ascii (c : UInt8) (l : List UInt8) (h : c.toNat < 128) : Lib.validD (c :: l) = Lib.validD l := by
  have v := valid_at (mk (c :: l)) 0 (by rw [mk_size]; simp)
  have nb0 : nbAt (mk (c :: l)) 0 = c.toNat := by
    unfold nbAt
    rfl
  have d : Utf8.decode (mk (c :: l)) 0 = (c.toNat, 1) := by
    rw [dec_is, nb0, if_pos (by omega)]
  have nbad : ¬ badAt (mk (c :: l)) 0 := by
    unfold badAt
    rw [d]
    simp
    omega
  rw [if_neg nbad, d, mk_list, List.drop_zero] at v
  exact v
theorem rem_valid (s : ByteArray) : Lib.validD (remL s) = Lib.validD s.data.toList := by
  unfold remL
  rw [valid_ascii 35 _ (by decide), valid_ascii 32 _ (by decide)]
theorem rem_runes (s : ByteArray) (v : Lib.validD s.data.toList = true) : (runesAt (mk (remL s)) (remL s).length 0).length = (runesAt s s.size 0).length + 2 := by
  obtain ⟨h1, h2, h3, h4⟩ := runes_enc s s.size 0 (by omega) v
  have e : (35 :: 32 :: runesAt s s.size 0).flatMap enc = nb (mk (remL s)) := by
    rw [List.flatMap_cons, List.flatMap_cons, h2, List.drop_zero]
    rfl
  have o : (35 :: 32 :: runesAt s s.size 0).any oddR = false := by
    rw [List.any_cons, List.any_cons, h1]
    rfl
  have r := enc_runes (35 :: 32 :: runesAt s s.size 0) [] (remL s).length (by simp) o (by rw [e, nb_length, mk_size]; omega)
  rw [List.nil_append, e, nb_str, List.length_nil] at r
  rw [r.1]
  rfl
theorem rem_split (s : ByteArray) : (splitB (remL s)).length = (splitB s.data.toList).length := by
  rw [split_count, split_count]
  unfold remL
  simp
theorem rem_iff (s : ByteArray) : remOk s ↔ Lib.validD s.data.toList = true ∧ (runesAt s s.size 0).length ≤ 78 ∧ (splitB s.data.toList).length ≤ 1 := by
  rw [remOk_is, rem_split]
  unfold wrongOf
  rw [rem_valid]
  by_cases v : Lib.validD s.data.toList = true
  · rw [if_pos v, rem_runes s v]
    by_cases c : (runesAt s s.size 0).length + 2 > 80
    · rw [if_pos c]
      exact ⟨fun h => absurd h.2 (by decide), fun h => by omega⟩
    · rw [if_neg c]
      exact ⟨fun h => ⟨v, by omega, h.1⟩, fun h => ⟨h.2.2, rfl⟩⟩
  · rw [if_neg v]
    exact ⟨fun h => absurd h.2 (by decide), fun h => absurd h.1 v⟩
theorem join_ends : ∀ A : List (List UInt8), Lib.join (A ++ [[]]) [10] = A.flatMap (fun x => x ++ [10])
  | [] => rfl
  | x :: A => by
    have ih := join_ends A
    rw [List.cons_append, joinB_cons, List.flatMap_cons, ← ih, List.append_assoc]
    congr 1
    cases q : A ++ [[]] with
    | nil => exact absurd (congrArg List.length q) (by simp)
    | cons y r => rw [tail_cons, joinB_cons]; rfl
def endsL (A : List ByteArray) : List UInt8 := A.flatMap fun x => x.data.toList ++ [10]
theorem joinL_ends (A : List ByteArray) : joinL (A ++ [mk []]) = mk (endsL A) := by
  unfold joinL
  rw [List.map_append]
  show mk (Lib.join (A.map (·.data.toList) ++ [[]]) [10]) = _
  rw [join_ends, List.flatMap_map]
  rfl
theorem mk_app (X : List UInt8) (s : ByteArray) : (mk X ++ s) = mk (X ++ s.data.toList) := by
  apply ByteArray.ext
  apply Array.toList_inj.1
  rw [ByteArray.data_append, Array.toList_append]
  rfl
theorem refWrite_l0 (s : ByteArray) (l : List S44) (hl : l.length ≤ 900) (hg : ∀ y ∈ l, y.f0.size ≤ 1000 ∧ U64 y.f1.f0 ∧ U64 y.f1.f1) (k : Nat) : ∀ (t i : Nat) (X : List UInt8), i + t = l.length → X.length ≤ 2000 + 200 * i →
    paymasterref10_Write.l0 (k + 2000 + t) l s (mk X) (i : Int) = if (l.drop i).any noId = true then some ((⟨#[]⟩ : ByteArray), 101) else paymasterref10_Write.l0 (k + 2000) l s (mk (X ++ endsL ((l.drop i).map lineR))) (l.length : Int)
  | 0, i, X, h, hX => by
    obtain rfl : i = l.length := by omega
    rw [List.drop_length, List.any_nil, if_neg (by decide), List.map_nil]
    show _ = paymasterref10_Write.l0 (k + 2000) l s (mk (X ++ [])) _
    rw [List.append_nil]
  | t + 1, i, X, h, hX => by
    have hi : i < l.length := by omega
    have nx : l.drop i = l[i] :: l.drop (i + 1) := List.drop_eq_getElem_cons hi
    have hm : l[i] ∈ l := List.getElem_mem hi
    obtain ⟨g1, g2, g3⟩ := hg _ hm
    have w1 : wrap64 ((i : Int) + 1) = ((i + 1 : Nat) : Int) := by rw [wrapI _ (by omega) (by omega)]; push_cast; rfl
    rw [nx, List.any_cons, List.map_cons]
    conv => lhs; rw [show k + 2000 + (t + 1) = (k + 2000 + t) + 1 by omega, paymasterref10_Write.l0, if_pos (show (i : Int) < (l.length : Int) by omega), if_pos (show (0 : Int) ≤ (i : Int) by omega), rd44 l i hi, refRowText_is _ _ _ (by omega) g2 g3 _ (by omega), Option.bind_some]
    unfold rowText noId
    by_cases m : mayId l[i].f0 = true
    · rw [if_pos m, m]
      have ls : (lineR l[i]).size ≤ 136 := line_size _ _ _ m g2 g3
      have el : (lineR l[i]).data.toList.length = (lineR l[i]).size := Array.length_toList
      have ml : (mk X).size = X.length := mk_size X
      have ap : (mk X ++ lineR l[i]) ++ (⟨#[10]⟩ : ByteArray) = mk (X ++ ((lineR l[i]).data.toList ++ [10])) := by
        rw [mk_app, mk_app, List.append_assoc]
      dsimp only
      show (if (0 : Int) = 0 then (if (mk X).size + (lineR l[i]).size ≤ 9223372036854775807 then (if (mk X ++ lineR l[i]).size + 1 ≤ 9223372036854775807 then paymasterref10_Write.l0 (k + 2000 + t) l s ((mk X ++ lineR l[i]) ++ (⟨#[10]⟩ : ByteArray)) (wrap64 ((i : Int) + 1)) else none) else none) else _) = _
      rw [if_pos rfl, if_pos (by omega), if_pos (by rw [ByteArray.size_append]; omega), ap, w1, refWrite_l0 s l hl hg k t (i + 1) _ (by omega) (by rw [List.length_append, List.length_append, List.length_singleton]; omega), List.append_assoc]
      rfl
    · have mf : mayId l[i].f0 = false := by simpa using m
      rw [if_neg m, mf]
      dsimp only
      rw [if_neg (by decide), if_pos (by simp)]
theorem refWrite_is (l : List S44) (hl : l.length ≤ 900) (hg : ∀ y ∈ l, y.f0.size ≤ 1000 ∧ U64 y.f1.f0 ∧ U64 y.f1.f1) (s : ByteArray) (hs : s.size ≤ 1000) (k : Nat) (hk : 5000 ≤ k) : paymasterref10_Write.f k l s = some (writeOf l s) := by
  have e : s.data.toList.length = s.size := Array.length_toList
  have J : ∀ X : List UInt8, X = endsL (preL s) → X.length ≤ 2000 → paymasterref10_Write.j0 k l s (mk X) = some (writeOf l s) := by
    intro X eX hX
    obtain ⟨j, rfl⟩ : ∃ j, k = (j + 2000 + l.length) + 1 := ⟨k - 2001 - l.length, by omega⟩
    have := refWrite_l0 s l hl hg j l.length 0 X (by omega) (by omega)
    rw [List.drop_zero] at this
    rw [paymasterref10_Write.j0]
    refine this.trans ?_
    unfold writeOf
    by_cases c : l.any noId = true
    · rw [if_pos c, if_pos c]
    · rw [if_neg c, if_neg c]
      have T : mk (X ++ endsL (l.map lineR)) = joinL ((preL s ++ l.map lineR) ++ [mk []]) := by
        rw [joinL_ends, eX]
        unfold endsL
        rw [List.flatMap_append]
      rw [T]
      rw [show j + 2000 = (j + 1999) + 1 by omega, paymasterref10_Write.l0, if_neg (by omega), refRunes_up s (by omega) _ (by omega), Option.bind_some]
      by_cases v : Lib.validD s.data.toList = true
      · rw [if_pos v]
        dsimp only
        rw [if_pos rfl]
        by_cases c1 : ((runesAt s s.size 0).length : Int) > 78
        · rw [if_pos c1, if_neg (fun ok => by have := (rem_iff s).1 ok; omega)]
        · rw [if_neg c1, refSplit_is s (by omega) _ (by omega), Option.bind_some, List.length_map]
          by_cases c2 : ((splitB s.data.toList).length : Int) > 1
          · rw [if_pos c2, if_neg (fun ok => by have := (rem_iff s).1 ok; omega)]
          · rw [if_neg c2, if_pos ((rem_iff s).2 ⟨v, by omega, by omega⟩)]
      · rw [if_neg v]
        dsimp only
        rw [if_neg (by decide), if_neg (fun ok => v ((rem_iff s).1 ok).1)]
  unfold paymasterref10_Write.f
  by_cases c : s.data.toList = []
  · rw [if_pos (by rw [toList_eq]; exact c)]
    exact J [] (by unfold preL; rw [if_pos c]; rfl) (by simp)
  · have sz : (mk (remL s)).size = s.size + 2 := by rw [mk_size]; unfold remL; rw [List.length_cons, List.length_cons, e]
    rw [if_neg (by rw [toList_eq]; exact c), if_pos (by omega), rem_is, if_pos (by omega), mk_app]
    exact J _ (by unfold preL; rw [if_neg c]; unfold endsL; rw [List.flatMap_cons, List.flatMap_nil, List.append_nil, mk_list]) (by rw [List.length_append]; unfold remL; rw [List.length_cons, List.length_cons, e]; show s.size + 1 + 1 + 1 ≤ 2000; omega)
end Go.Proofs.YtpkjpiphjdpegaaDoor.P
namespace Go.Proofs.YtpkjpiphjdpegaaDoor.P
open Go.RowKit Go.Proofs.YtpkjpiphjdpegaaDoorW.PrintWords Go.Proofs.YtpkjpiphjdpegaaDoorW.PrintLast Go.Proofs.YtpkjpiphjdpegaaDoorW.PrintMore
set_option linter.unusedVariables false
set_option linter.unusedSimpArgs false
theorem same44_l0 (l : List S44) (hl : l.length ≤ 1000000000) (k : Nat) : ∀ (t i : Nat), i + t = l.length → paymasterref10_Same.l0 (k + 1 + t) l l (i : Int) = some true
  | 0, i, h => by
    show paymasterref10_Same.l0 (k + 1) _ _ _ = _
    rw [paymasterref10_Same.l0, if_neg (by omega)]
  | t + 1, i, h => by
    have ih := same44_l0 l hl k t (i + 1) (by omega)
    show paymasterref10_Same.l0 (k + 1 + t + 1) _ _ _ = _
    rw [paymasterref10_Same.l0, if_pos (show (i : Int) < (l.length : Int) by omega), if_pos (show (0 : Int) ≤ (i : Int) by omega), if_pos (show (i : Int) < (l.length : Int) by omega), if_neg (by simp), wrapI _ (by omega) (by omega), show (i : Int) + 1 = ((i + 1 : Nat) : Int) from by omega]
    exact ih
theorem same44_is (l : List S44) (hl : l.length ≤ 1000000000) (k : Nat) (hk : l.length + 1 ≤ k) : paymasterref10_Same.f k l l = some true := by
  unfold paymasterref10_Same.f
  rw [if_pos rfl]
  have := same44_l0 l hl (k - 1 - l.length) l.length 0 (by omega)
  rw [show k - 1 - l.length + 1 + l.length = k by omega] at this
  exact this
end Go.Proofs.YtpkjpiphjdpegaaDoor.P
namespace Go.Proofs.YtpkjpiphjdpegaaDoor.P
open Go.RowKit Go.Proofs.YtpkjpiphjdpegaaDoorW.PrintWords Go.Proofs.YtpkjpiphjdpegaaDoorW.PrintLast Go.Proofs.YtpkjpiphjdpegaaDoorW.PrintMore
attribute [local go_sem] max2_int min2_int max_two min_two max_three min_three max_four min_four
set_option linter.unusedVariables false
set_option linter.unusedSimpArgs false
attribute [local go_sem high] eqA44
def paymasterlaw10_Long.l0 : Nat → List (S44) → Int → Option (Bool)
  | 0, _, _ => none
  | k + 1, x0, x3 => if x3 < (x0.length : Int) then (if 0 ≤ x3 then (if (((rd_T44 x0 x3).f0).size : Int) > 200 then (some true) else (paymasterlaw10_Long.l0 k x0 (wrap64 (x3 + 1)))) else (none)) else (some false)
def paymasterlaw10_Long.f (k : Nat) (l0 : List (S44)) : Option (Bool) := if (l0.length : Int) > 200 then (some true) else (paymasterlaw10_Long.l0 k l0 0)
set_option maxHeartbeats 8000000 in
set_option maxRecDepth 100000 in
theorem paymasterlaw10_Long.calls (k : Nat) (A0 : Option Addr) (c0 : Nat) (l0 : List (S44)) (r : Bool) (w : World) (hr0 : Kd.C k44 w A0 l0.length l0) (hc0 : l0.length ≤ c0) (h : paymasterlaw10_Long.f k l0 = some r) :
    Calls Tryd.prog 26 #[.slice A0 l0.length c0] w fun e w' => e = .returned (.bool r) ∧ Drawn0 w w' := by
  have HR0 := Aside0.mk hr0
  have HC0 := Aside0.mk hc0
  clear hr0 hc0
  have H : (if (l0.length : Int) > 200 then (some true) else (paymasterlaw10_Long.l0 k l0 0)) = some r := h
  clear h
  by_cases c2 : (l0.length : Int) > 200
  · rw [if_pos c2] at H
    have c2b0 : decide (200 < (l0.length : Int)) = true := decide_eq_true c2
    have c2b1 : decide (200 < l0.length) = true := decide_eq_true (by omega)
    clear c2
    obtain rfl := Option.some.inj H
    go_enter Tryd.func26, Tryd.ntmps26
    go_wp2
    go_ret
    exact ⟨by first | rfl | (simp; done) | (simp [*]; done), by repeat (first | exact Drawn0.refl _ | apply Drawn0.step)⟩
  · rw [if_neg c2] at H
    have c2b0 : decide (200 < (l0.length : Int)) = false := decide_eq_false c2
    have c2b1 : decide (200 < l0.length) = false := decide_eq_false (by omega)
    clear c2
    have H' := Aside0.mk H
    clear H
    go_enter Tryd.func26, Tryd.ntmps26
    go_wp2
    go_loopg [3] k (fun kq v3 w' => ∃ (x3_1 : Int), v3 = .int .i64 x3_1 ∧ Aside0 (paymasterlaw10_Long.l0 kq l0 x3_1 = some r) ∧ Aside0 (kq ≤ k) ∧ Drawn0 w w')
    case atStart => exact ⟨(0), (by first | rfl | (simp; done) | (simp [*]; done)), H', ⟨Nat.le_refl _⟩, by repeat (first | exact Drawn0.refl _ | apply Drawn0.step)⟩
    case round =>
      clear H'
      try clear c2
      try clear c2b0
      try clear c2b1
      try clear p2
      obtain ⟨x3_1, rfl, HA, HK1, ⟨m1, rfl⟩⟩ := hrel
      cases gk with
      | zero => exact absurd HA.out (by simp [paymasterlaw10_Long.l0])
      | succ k1 =>
        have H := HA.out
        clear HA
        simp only [paymasterlaw10_Long.l0] at H
        by_cases c3 : x3_1 < (l0.length : Int)
        · rw [if_pos c3] at H
          have c3b0 : decide (x3_1 < (l0.length : Int)) = true := decide_eq_true c3
          clear c3
          by_cases c4 : 0 ≤ x3_1
          · rw [if_pos c4] at H
            have c4b0 : decide (0 ≤ x3_1) = true := decide_eq_true c4
            clear c4
            by_cases c5 : (((rd_T44 l0 x3_1).f0).size : Int) > 200
            · rw [if_pos c5] at H
              have c5b0 : decide (200 < (((rd_T44 l0 x3_1).f0).size : Int)) = true := decide_eq_true c5
              have c5b1 : decide (200 < ((rd_T44 l0 x3_1).f0).size) = true := decide_eq_true (by omega)
              clear c5
              obtain rfl := Option.some.inj H
              have p828 : 0 ≤ (x3_1 : Int) := of_decide_eq_true (by first | (with_reducible assumption) | assumption)
              have q828 : x3_1 < (l0.length : Int) := of_decide_eq_true (by first | (with_reducible assumption) | assumption)
              obtain ⟨ad828, e828, hx828_0, hx828_1, hx828_2⟩ := at_T44 HR0.out x3_1 p828 q828
              cases e828
              replace p828 := eq_true p828
              replace q828 := eq_true q828
              go_wp2
              go_ret
              exact ⟨by first | rfl | (simp; done) | (simp [*]; done), by repeat (first | exact Drawn0.refl _ | apply Drawn0.step)⟩
            · rw [if_neg c5] at H
              have c5b0 : decide (200 < (((rd_T44 l0 x3_1).f0).size : Int)) = false := decide_eq_false c5
              have c5b1 : decide (200 < ((rd_T44 l0 x3_1).f0).size) = false := decide_eq_false (by omega)
              clear c5
              have H' := Aside0.mk H
              clear H
              have p828 : 0 ≤ (x3_1 : Int) := of_decide_eq_true (by first | (with_reducible assumption) | assumption)
              have q828 : x3_1 < (l0.length : Int) := of_decide_eq_true (by first | (with_reducible assumption) | assumption)
              obtain ⟨ad828, e828, hx828_0, hx828_1, hx828_2⟩ := at_T44 HR0.out x3_1 p828 q828
              cases e828
              replace p828 := eq_true p828
              replace q828 := eq_true q828
              go_wp2
              go_roundg k1
              case measure => have := HK1.out; omega
              case rel => exact ⟨(wrap64 (x3_1 + 1)), (by first | rfl | (simp; done) | (simp [*]; done)), H', ⟨by have := HK1.out; omega⟩, by repeat (first | exact Drawn0.refl _ | apply Drawn0.step)⟩
          · rw [if_neg c4] at H
            exact absurd H (by simp)
        · rw [if_neg c3] at H
          have c3b0 : decide (x3_1 < (l0.length : Int)) = false := decide_eq_false c3
          clear c3
          obtain rfl := Option.some.inj H
          go_wp2
          go_ret
          exact ⟨by first | rfl | (simp; done) | (simp [*]; done), by repeat (first | exact Drawn0.refl _ | apply Drawn0.step)⟩
end Go.Proofs.YtpkjpiphjdpegaaDoor.P
namespace Go.Proofs.YtpkjpiphjdpegaaDoor.P
open Go.RowKit Go.Proofs.YtpkjpiphjdpegaaDoorW.PrintWords Go.Proofs.YtpkjpiphjdpegaaDoorW.PrintLast Go.Proofs.YtpkjpiphjdpegaaDoorW.PrintMore
set_option linter.unusedVariables false
set_option linter.unusedSimpArgs false
theorem long_l0 (l : List S44) (hl : l.length ≤ 200) (k : Nat) : ∀ (t i : Nat), i + t = l.length → ∃ b, paymasterlaw10_Long.l0 (k + 1 + t) l (i : Int) = some b ∧ (b = false → ∀ y ∈ l.drop i, y.f0.size ≤ 200)
  | 0, i, h => by
    refine ⟨false, ?_, fun _ => ?_⟩
    · show paymasterlaw10_Long.l0 (k + 1) _ _ = _
      rw [paymasterlaw10_Long.l0, if_neg (by omega)]
    · obtain rfl : i = l.length := by omega
      rw [List.drop_length]; simp
  | t + 1, i, h => by
    have hi : i < l.length := by omega
    have nx : l.drop i = l[i] :: l.drop (i + 1) := List.drop_eq_getElem_cons hi
    have w1 : wrap64 ((i : Int) + 1) = ((i + 1 : Nat) : Int) := by rw [wrapI _ (by omega) (by omega)]; push_cast; rfl
    rw [show k + 1 + (t + 1) = (k + 1 + t) + 1 by omega, paymasterlaw10_Long.l0, if_pos (show (i : Int) < (l.length : Int) by omega), if_pos (show (0 : Int) ≤ (i : Int) by omega), rd44 l i hi]
    by_cases c : (l[i].f0.size : Int) > 200
    · rw [if_pos c]
      exact ⟨true, rfl, fun e => by cases e⟩
    · rw [if_neg c, w1]
      obtain ⟨b, h1, h2⟩ := long_l0 l hl k t (i + 1) (by omega)
      refine ⟨b, h1, fun e y hy => ?_⟩
      rw [nx] at hy
      rcases List.mem_cons.1 hy with rfl | hy
      · omega
      · exact h2 e y hy
theorem long_is (l : List S44) (k : Nat) (hk : 300 ≤ k) : ∃ b, paymasterlaw10_Long.f k l = some b ∧ (b = false → l.length ≤ 200 ∧ ∀ y ∈ l, y.f0.size ≤ 200) := by
  unfold paymasterlaw10_Long.f
  by_cases c : (l.length : Int) > 200
  · rw [if_pos c]
    exact ⟨true, rfl, fun e => by cases e⟩
  · rw [if_neg c]
    obtain ⟨b, h1, h2⟩ := long_l0 l (by omega) (k - 1 - l.length) l.length 0 (by omega)
    rw [show k - 1 - l.length + 1 + l.length = k by omega] at h1
    exact ⟨b, h1, fun e => ⟨by omega, h2 e⟩⟩
end Go.Proofs.YtpkjpiphjdpegaaDoor.P
