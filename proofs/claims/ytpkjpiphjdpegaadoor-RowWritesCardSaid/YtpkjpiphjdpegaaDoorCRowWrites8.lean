/- A program of this session wrote this text out of the session's own texts. (part 8 of 8) -/
import Derived.Test.YtpkjpiphjdpegaaDoorCRowWrites7
namespace Go.Proofs.YtpkjpiphjdpegaaDoor.P
open Go.RowKit Go.Proofs.YtpkjpiphjdpegaaDoorW.PrintWords Go.Proofs.YtpkjpiphjdpegaaDoorW.PrintLast Go.Proofs.YtpkjpiphjdpegaaDoorW.PrintMore
attribute [local go_sem] max2_int min2_int max_two min_two max_three min_three max_four min_four
set_option linter.unusedVariables false
set_option linter.unusedSimpArgs false
mutual
def paymasterlaw10_RowWrites.j0 : Nat → List (S44) → ByteArray → Bool → Option (Bool)
  | 0, _, _, _ => none
  | k + 1, x0, x1, x19 => if x19 = true then (some true) else ((some (([] : List (S44)) : List (S44))).bind fun y1065 => (if y1065.length + x0.length < 4398046511104 then ((some (y1065 ++ x0 : List (S44))).bind fun y1068 => ((row_Write.f k y1068 x1).bind fun bt1071 => ((paymasterref10_Write.f k x0 x1).bind fun bt1073 => (paymasterlaw10_RowWrites.l0 k x0 y1068 bt1071.1 bt1071.2 bt1073.1 bt1073.2 0)))) else (none)))
def paymasterlaw10_RowWrites.l0 : Nat → List (S44) → List (S44) → ByteArray → Int → ByteArray → Int → Int → Option (Bool)
  | 0, _, _, _, _, _, _, _ => none
  | k + 1, x0, x5, x6, x7, x8, x9, x10 => if x10 < 2 then ((row_Sort.f x5).bind fun t1083 => ((paymasterref10_Sort.f k x0).bind fun t1086 => ((paymasterref10_Same.f k t1083 t1086).bind fun t1089 => (if t1089 = true then ((paymasterref10_Same.f k x5 x0).bind fun t1090 => (if t1090 = true then (paymasterlaw10_RowWrites.l1 k x0 x5 x6 x7 x8 x9 x10 t1083 0) else (none))) else (none))))) else (if x6.toList = x8.toList then (some (x7 == x9)) else (none))
def paymasterlaw10_RowWrites.l1 : Nat → List (S44) → List (S44) → ByteArray → Int → ByteArray → Int → Int → List (S44) → Int → Option (Bool)
  | 0, _, _, _, _, _, _, _, _, _ => none
  | k + 1, x0, x5, x6, x7, x8, x9, x10, x11, x12 => if x12 < (x11.length : Int) then (if 0 ≤ x12 then (paymasterlaw10_RowWrites.l1 k x0 x5 x6 x7 x8 x9 x10 (x11.set (x12 : Int).toNat (⟨(⟨#[63]⟩ : ByteArray), (⟨(rd_T44 x11 x12).f1.f0, (rd_T44 x11 x12).f1.f1⟩ : S42)⟩ : S44)) (wrap64 (x12 + 1))) else (none)) else (paymasterlaw10_RowWrites.l0 k x0 x5 x6 x7 x8 x9 (wrap64 (x10 + 1)))
end
def paymasterlaw10_RowWrites.f (k : Nat) (l0 : List (S44)) (a1 : ByteArray) : Option (Bool) := (paymasterlaw10_Long.f k l0).bind fun t1044 => (if t1044 = true then (paymasterlaw10_RowWrites.j0 k l0 a1 true) else (paymasterlaw10_RowWrites.j0 k l0 a1 (decide ((a1.size : Int) > 500))))
set_option maxHeartbeats 8000000 in
set_option maxRecDepth 100000 in
theorem paymasterlaw10_RowWrites.calls (k : Nat) (A0 : Option Addr) (c0 : Nat) (l0 : List (S44)) (a1 : ByteArray) (r : Bool) (w : World) (hr0 : Kd.C k44 w A0 l0.length l0) (hc0 : l0.length ≤ c0) (hG : GT w) (h : paymasterlaw10_RowWrites.f k l0 a1 = some r) :
    Calls Tryd.prog 18 #[.slice A0 l0.length c0, .string a1] w fun e w' => e = .returned (.bool r) ∧ Below w.heap.size w w' := by
  have HR0 := Aside0.mk hr0
  have HC0 := Aside0.mk hc0
  clear hr0 hc0
  have HB := Aside0.mk (Below.refl w.heap.size w)
  have H : ((paymasterlaw10_Long.f k l0).bind fun t1044 => (if t1044 = true then (paymasterlaw10_RowWrites.j0 k l0 a1 true) else (paymasterlaw10_RowWrites.j0 k l0 a1 (decide ((a1.size : Int) > 500))))) = some r := h
  clear h
  have HC3 := Aside0.mk H
  clear H
  go_enter Tryd.func18, Tryd.ntmps18
  go_upto_region 1 with (fail)
  go_cut [19] (fun v19 wc => ∃ (kq : Nat) (x19_2 : Bool), v19 = .bool x19_2 ∧ Aside0 (paymasterlaw10_RowWrites.j0 kq l0 a1 x19_2 = some r) ∧ Aside0 (kq ≤ k) ∧ Aside0 (Below w.heap.size w wc))
  case first =>
    have H := HC3.out
    clear HC3
    replace H := Option.bind_eq_some_iff.mp H
    obtain ⟨t1044, A40, H⟩ := H
    replace H : (if t1044 = true then (paymasterlaw10_RowWrites.j0 k l0 a1 true) else (paymasterlaw10_RowWrites.j0 k l0 a1 (decide ((a1.size : Int) > 500)))) = some r := H
    have A4 := Aside0.mk A40
    clear A40
    by_cases c5 : t1044 = true
    · subst c5
      have H1 : (paymasterlaw10_RowWrites.j0 k l0 a1 true) = some r := by rw [if_pos rfl] at H; exact H
      clear H
      have H := H1
      clear H1
      have H' := Aside0.mk H
      clear H
      go_wp2_with (first | ((with_reducible refine gate_callee (f := 26) rfl ?_); refine goesL_ (some 14) rfl rfl Tryd.func26 (by kernel_rfl) rfl #[.slice A0 l0.length c0] rfl (by (try simp only [List.map_toArray, List.map_cons, List.map_nil]); first | done | rfl | (simp only [List.length_drop, List.length_take]; rfl)) ?_; (with_reducible refine (paymasterlaw10_Long.calls k _ _ l0 true _ ?side1 ?side2 A4.out).mono ?_); (case side1 => repeat (first | exact (Kd.C_below HR0.out HB.out) | (with_reducible refine Kd.C_alloc ?_ _) | (with_reducible refine Kd.C_drewN ?_ _) | (with_reducible refine Kd.C_drew ?_))); (case side2 => exact HC0.out); rintro e w' ⟨rfl, ⟨nd, rfl⟩⟩; refine ⟨_, rfl, ?_⟩))
      go_meet
      case rel => exact ⟨_, (true), (by first | rfl | (simp; done) | (simp [*]; done)), H', ⟨by first | omega | exact Nat.le_refl _⟩, ⟨by repeat (first | (with_reducible first | exact HB.out | apply below_alloc | apply pw_below_drewN | apply below_drew1) | exact HB.out)⟩⟩
    · replace c5 := Bool.eq_false_iff.mpr c5
      subst c5
      have H1 : (paymasterlaw10_RowWrites.j0 k l0 a1 (decide ((a1.size : Int) > 500))) = some r := by rw [if_neg (show ¬ (false = true) by decide)] at H; exact H
      clear H
      have H := H1
      clear H1
      have H' := Aside0.mk H
      clear H
      go_wp2_with (first | ((with_reducible refine gate_callee (f := 26) rfl ?_); refine goesL_ (some 14) rfl rfl Tryd.func26 (by kernel_rfl) rfl #[.slice A0 l0.length c0] rfl (by (try simp only [List.map_toArray, List.map_cons, List.map_nil]); first | done | rfl | (simp only [List.length_drop, List.length_take]; rfl)) ?_; (with_reducible refine (paymasterlaw10_Long.calls k _ _ l0 false _ ?side1 ?side2 A4.out).mono ?_); (case side1 => repeat (first | exact (Kd.C_below HR0.out HB.out) | (with_reducible refine Kd.C_alloc ?_ _) | (with_reducible refine Kd.C_drewN ?_ _) | (with_reducible refine Kd.C_drew ?_))); (case side2 => exact HC0.out); rintro e w' ⟨rfl, ⟨nd, rfl⟩⟩; refine ⟨_, rfl, ?_⟩))
      go_meet
      case rel => exact ⟨_, (decide ((a1.size : Int) > 500)), (by first | rfl | (simp; done) | (simp [*]; done)), H', ⟨by first | omega | exact Nat.le_refl _⟩, ⟨by repeat (first | (with_reducible first | exact HB.out | apply below_alloc | apply pw_below_drewN | apply below_drew1) | exact HB.out)⟩⟩
  case rest =>
    clear HC3
    try clear c1
    try clear c2
    try clear p2
    try clear c5
    obtain ⟨kq, x19_2, rfl, HA, HJ2, HB⟩ := hcut
    cases kq with
    | zero => exact absurd HA.out (by simp [paymasterlaw10_RowWrites.j0])
    | succ kj2 =>
      have H := HA.out
      clear HA
      simp only [paymasterlaw10_RowWrites.j0] at H
      by_cases c6 : x19_2 = true
      · subst c6
        have H1 : (some true) = some r := by rw [if_pos rfl] at H; exact H
        clear H
        have H := H1
        clear H1
        obtain rfl := Option.some.inj H
        go_wp2
        go_ret
        exact ⟨by first | rfl | (simp [errW_none, errW_some] <;> rfl) | (simp [*, errW_none, errW_some] <;> rfl), by repeat (first | (with_reducible first | exact HB.out | apply below_alloc | apply pw_below_drewN | apply below_drew1) | exact HB.out)⟩
      · replace c6 := Bool.eq_false_iff.mpr c6
        subst c6
        have H1 : ((some (([] : List (S44)) : List (S44))).bind fun y1065 => (if y1065.length + l0.length < 4398046511104 then ((some (y1065 ++ l0 : List (S44))).bind fun y1068 => ((row_Write.f kj2 y1068 a1).bind fun bt1071 => ((paymasterref10_Write.f kj2 l0 a1).bind fun bt1073 => (paymasterlaw10_RowWrites.l0 kj2 l0 y1068 bt1071.1 bt1071.2 bt1073.1 bt1073.2 0)))) else (none))) = some r := by rw [if_neg (show ¬ (false = true) by decide)] at H; exact H
        clear H
        have H := H1
        clear H1
        obtain ⟨y1065, hy1065⟩ : ∃ y_ : List (S44), y_ = (([] : List (S44))) := ⟨_, rfl⟩
        replace H : (if y1065.length + l0.length < 4398046511104 then ((some (y1065 ++ l0 : List (S44))).bind fun y1068 => ((row_Write.f kj2 y1068 a1).bind fun bt1071 => ((paymasterref10_Write.f kj2 l0 a1).bind fun bt1073 => (paymasterlaw10_RowWrites.l0 kj2 l0 y1068 bt1071.1 bt1071.2 bt1073.1 bt1073.2 0)))) else (none)) = some r := by first | (rw [hy1065]; with_reducible exact H) | (have H2_ := (Option.bind_some _ _).symm.trans H; rw [hy1065]; with_reducible exact H2_) | (have H2_ := (Option.bind_some _ _).symm.trans H; with_reducible exact H2_) | with_reducible exact H | (rw [hy1065]; exact H) | exact H
        have Ny1065 := Aside0.mk hy1065
        clear hy1065
        by_cases c7 : y1065.length + l0.length < 4398046511104
        · rw [if_pos c7] at H
          have LMc7 := Aside0.mk c7
          clear c7
          obtain ⟨y1068, hy1068⟩ : ∃ y_ : List (S44), y_ = (y1065 ++ l0) := ⟨_, rfl⟩
          replace H : ((row_Write.f kj2 y1068 a1).bind fun bt1071 => ((paymasterref10_Write.f kj2 l0 a1).bind fun bt1073 => (paymasterlaw10_RowWrites.l0 kj2 l0 y1068 bt1071.1 bt1071.2 bt1073.1 bt1073.2 0))) = some r := by first | (rw [hy1068]; with_reducible exact H) | (have H2_ := (Option.bind_some _ _).symm.trans H; rw [hy1068]; with_reducible exact H2_) | (have H2_ := (Option.bind_some _ _).symm.trans H; with_reducible exact H2_) | with_reducible exact H | (rw [hy1068]; exact H) | exact H
          have Ny1068 := Aside0.mk hy1068
          clear hy1068
          replace H := Option.bind_eq_some_iff.mp H
          obtain ⟨⟨t1071, t1072⟩, A80, H⟩ := H
          replace H : ((paymasterref10_Write.f kj2 l0 a1).bind fun bt1073 => (paymasterlaw10_RowWrites.l0 kj2 l0 y1068 t1071 t1072 bt1073.1 bt1073.2 0)) = some r := H
          have A8 := Aside0.mk A80
          clear A80
          replace H := Option.bind_eq_some_iff.mp H
          obtain ⟨⟨t1073, t1074⟩, A90, H⟩ := H
          replace H : (paymasterlaw10_RowWrites.l0 kj2 l0 y1068 t1071 t1072 t1073 t1074 0) = some r := H
          have A9 := Aside0.mk A90
          clear A90
          have H' := Aside0.mk H
          clear H
          go_wp2_with (first | ((with_reducible refine gate_dst (N := 20) rfl ?_); (try (refine gate_guard (by rfl) ?_; dsimp only)); refine Kd.R_lit k44 _ 44 ?hg (N := 20) ?hd (xs := ([] : List (S44))) (inner := []) (ok := fun _ => True) (okp := fun _ => True) ?hr ?hp (fun _ hk => hk) trivial (Below.refl _ _) (Nat.le_refl _) (by simp) ?_; (case hd => rfl); (case hg => rfl); (case hr => first | (go_simp; done) | (go_simp; rfl)); (case hp => exact (Reps.none _ _)); intro v1066 w10 ho11 hb hg_ hnew_; clear hg_ hnew_; (first | rw [← Ny1065.out] at ho11 | (simp only [Int.reduceToNat] at ho11; rw [← Ny1065.out] at ho11)); have n0_ := Aside0.mk (Kd.R_lower ho11 (below_size (by repeat (first | (with_reducible first | exact HB.out | apply below_alloc | apply pw_below_drewN | apply below_drew1) | exact HB.out)))); have n1_ := Aside0.mk (below_step (by repeat (first | (with_reducible first | exact HB.out | apply below_alloc | apply pw_below_drewN | apply below_drew1) | exact HB.out)) hb); clear HB; have HO1067 := n0_; have HB := n1_; clear n0_ n1_; clear hb ho11) | ((with_reducible refine gate_builtin (b := .append) (xs := #[.tmp 20, .tmp 21]) rfl ?_); (try (refine gate_guard (by rfl) ?_; dsimp only)); at_builtin; refine Kd.R_append_rows k44 (w0 := w) w.heap.size rfl (.tmp 20) (.tmp 21) 34 44 (.agg #[(.string ⟨#[]⟩), (.int .u64 0), (.int .u64 0)]) 32 rfl Tryd.underlying34 info44 rfl (by decide) (by omega) v1066 y1065 l0 _ _ _ (fun _ => True) (fun _ => False) rfl rfl ?aO ?aR (fun _ _ h => h) (fun _ h => h.elim) ?aF ?aB ?aS ?aL ?_; (case aR => repeat (first | exact (Kd.C_below HR0.out HB.out) | (with_reducible refine Kd.C_alloc ?_ _) | (with_reducible refine Kd.C_drewN ?_ _) | (with_reducible refine Kd.C_drew ?_))); (case aB => exact (by repeat (first | (with_reducible first | exact HB.out | apply below_alloc | apply pw_below_drewN | apply below_drew1) | exact HB.out))); (case aF => exact (fun _ _ => trivial)); (case aO => exact (by (with_reducible repeat (first | apply Kd.R_alloc | apply Kd.R_drewN | apply Kd.R_drew)); exact HO1067.out)); (case aS => exact (below_size (by repeat (first | (with_reducible first | exact HB.out | apply below_alloc | apply pw_below_drewN | apply below_drew1) | exact HB.out)))); (case aL => have := LMc7.out; omega); intro v1069 w12 ho hb hg hat; rw [← Ny1068.out] at ho; have n0_ := Aside0.mk (hb); have n1_ := Aside0.mk (ho); clear HB; clear HO1067; have HB := n0_; have HO1070 := n1_; clear n0_ n1_; clear ho hb hg hat; obtain ⟨Ao13, co13, eo13⟩ := Kd.R_slice HO1070.out; subst eo13) | ((with_reducible refine gate_callee (f := 52) rfl ?_); refine goesL_ (some 26) rfl rfl Tryd.func52 (by kernel_rfl) rfl #[.slice Ao13 y1068.length co13, .string a1] rfl (by (try simp only [List.map_toArray, List.map_cons, List.map_nil]); first | done | rfl | (simp only [List.length_drop, List.length_take]; rfl)) ?_; (with_reducible refine (row_Write.calls kj2 _ _ y1068 a1 t1071 t1072 _ ?side1 ?side2 ?side3 A8.out).mono ?_); (case side1 => repeat (first | exact (Kd.R_reads' HO1070.out).2.2 | (with_reducible refine Kd.C_alloc ?_ _) | (with_reducible refine Kd.C_drewN ?_ _) | (with_reducible refine Kd.C_drew ?_))); (case side2 => exact (Kd.R_reads' HO1070.out).2.1); (case side3 => exact gt_below hG (by repeat (first | (with_reducible first | exact HB.out | apply below_alloc | apply pw_below_drewN | apply below_drew1) | exact HB.out))); rintro e w14 ⟨rfl, hb⟩; refine ⟨_, rfl, ?_⟩; have n0_ := Aside0.mk (Kd.R_below (by (with_reducible repeat (first | apply Kd.R_alloc | apply Kd.R_drewN | apply Kd.R_drew)); exact HO1070.out) hb); have n1_ := Aside0.mk (below_step (by repeat (first | (with_reducible first | exact HB.out | apply below_alloc | apply pw_below_drewN | apply below_drew1) | exact HB.out)) hb); clear HO1070; clear HB; have HO1070 := n0_; have HB := n1_; clear n0_ n1_; (try clear hb); (try clear hb2); (try clear hk); (try clear hi)) | ((with_reducible refine gate_callee (f := 56) rfl ?_); refine goesL_ (some 32) rfl rfl Tryd.func56 (by kernel_rfl) rfl #[.slice A0 l0.length c0, .string a1] rfl (by (try simp only [List.map_toArray, List.map_cons, List.map_nil]); first | done | rfl | (simp only [List.length_drop, List.length_take]; rfl)) ?_; (with_reducible refine (paymasterref10_Write.calls kj2 _ _ l0 a1 t1073 t1074 _ ?side1 ?side2 A9.out).mono ?_); (case side1 => repeat (first | exact (Kd.C_below HR0.out HB.out) | (with_reducible refine Kd.C_alloc ?_ _) | (with_reducible refine Kd.C_drewN ?_ _) | (with_reducible refine Kd.C_drew ?_))); (case side2 => exact HC0.out); rintro e w15 ⟨rfl, hb⟩; refine ⟨_, rfl, ?_⟩; have n0_ := Aside0.mk (Kd.R_below (by (with_reducible repeat (first | apply Kd.R_alloc | apply Kd.R_drewN | apply Kd.R_drew)); exact HO1070.out) hb); have n1_ := Aside0.mk (below_step (by repeat (first | (with_reducible first | exact HB.out | apply below_alloc | apply pw_below_drewN | apply below_drew1) | exact HB.out)) hb); clear HO1070; clear HB; have HO1070 := n0_; have HB := n1_; clear n0_ n1_; (try clear hb); (try clear hb2); (try clear hk); (try clear hi)))
          go_loopg [10] kj2 (fun kq v10 w' => ∃ (x5_2 : List (S44)) (x10_2 : Int), v10 = .int .i64 x10_2 ∧ Aside0 (paymasterlaw10_RowWrites.l0 kq l0 x5_2 t1071 t1072 t1073 t1074 x10_2 = some r) ∧ Aside0 (kq ≤ kj2) ∧ Aside0 (Kd.R k44 44 w' w.heap.size (fun _ => True) (.slice Ao13 y1068.length co13) x5_2) ∧ Aside0 (Below w.heap.size w w'))
          case atStart => exact ⟨(y1068), (0), (by first | rfl | (simp; done) | (simp [*]; done)), H', ⟨Nat.le_refl _⟩, ⟨by (with_reducible repeat (first | apply Kd.R_alloc | apply Kd.R_drewN | apply Kd.R_drew)); exact HO1070.out⟩, ⟨by repeat (first | (with_reducible first | exact HB.out | apply below_alloc | apply pw_below_drewN | apply below_drew1) | exact HB.out)⟩⟩
          case round =>
            clear H'
            try clear c1
            try clear c2
            try clear p2
            try clear c5
            try clear c6
            try clear c7
            try clear p2
            obtain ⟨x5_2, x10_2, rfl, HA, HK2, HO_5, HB⟩ := hrel
            have hl5_2 := (Kd.R_reads' HO_5.out).1
            rw [hl5_2] at HO_5
            (try simp only [hl5_2])
            cases gk with
            | zero => exact absurd HA.out (by simp [paymasterlaw10_RowWrites.l0])
            | succ k2 =>
              have H := HA.out
              clear HA
              simp only [paymasterlaw10_RowWrites.l0] at H
              by_cases c16 : x10_2 < 2
              · rw [if_pos c16] at H
                have c16b0 : decide (x10_2 < 2) = true := decide_eq_true c16
                clear c16
                replace H := Option.bind_eq_some_iff.mp H
                obtain ⟨t1083, A170, H⟩ := H
                replace H : ((paymasterref10_Sort.f k2 l0).bind fun t1086 => ((paymasterref10_Same.f k2 t1083 t1086).bind fun t1089 => (if t1089 = true then ((paymasterref10_Same.f k2 x5_2 l0).bind fun t1090 => (if t1090 = true then (paymasterlaw10_RowWrites.l1 k2 l0 x5_2 t1071 t1072 t1073 t1074 x10_2 t1083 0) else (none))) else (none)))) = some r := H
                have A17 := Aside0.mk A170
                clear A170
                replace H := Option.bind_eq_some_iff.mp H
                obtain ⟨t1086, A180, H⟩ := H
                replace H : ((paymasterref10_Same.f k2 t1083 t1086).bind fun t1089 => (if t1089 = true then ((paymasterref10_Same.f k2 x5_2 l0).bind fun t1090 => (if t1090 = true then (paymasterlaw10_RowWrites.l1 k2 l0 x5_2 t1071 t1072 t1073 t1074 x10_2 t1083 0) else (none))) else (none))) = some r := H
                have A18 := Aside0.mk A180
                clear A180
                replace H := Option.bind_eq_some_iff.mp H
                obtain ⟨t1089, A190, H⟩ := H
                replace H : (if t1089 = true then ((paymasterref10_Same.f k2 x5_2 l0).bind fun t1090 => (if t1090 = true then (paymasterlaw10_RowWrites.l1 k2 l0 x5_2 t1071 t1072 t1073 t1074 x10_2 t1083 0) else (none))) else (none)) = some r := H
                have A19 := Aside0.mk A190
                clear A190
                by_cases c20 : t1089 = true
                · subst c20
                  have H1 : ((paymasterref10_Same.f k2 x5_2 l0).bind fun t1090 => (if t1090 = true then (paymasterlaw10_RowWrites.l1 k2 l0 x5_2 t1071 t1072 t1073 t1074 x10_2 t1083 0) else (none))) = some r := by rw [if_pos rfl] at H; exact H
                  clear H
                  have H := H1
                  clear H1
                  replace H := Option.bind_eq_some_iff.mp H
                  obtain ⟨t1090, A210, H⟩ := H
                  replace H : (if t1090 = true then (paymasterlaw10_RowWrites.l1 k2 l0 x5_2 t1071 t1072 t1073 t1074 x10_2 t1083 0) else (none)) = some r := H
                  have A21 := Aside0.mk A210
                  clear A210
                  by_cases c22 : t1090 = true
                  · subst c22
                    have H1 : (paymasterlaw10_RowWrites.l1 k2 l0 x5_2 t1071 t1072 t1073 t1074 x10_2 t1083 0) = some r := by rw [if_pos rfl] at H; exact H
                    clear H
                    have H := H1
                    clear H1
                    have H' := Aside0.mk H
                    clear H
                    go_wp2_with (first | ((with_reducible refine gate_callee (f := 27) rfl ?_); refine goesL_ (some 40) rfl rfl Tryd.func27 (by kernel_rfl) rfl #[.slice Ao13 x5_2.length co13] rfl (by (try simp only [List.map_toArray, List.map_cons, List.map_nil]); first | done | rfl | (simp only [List.length_drop, List.length_take]; rfl)) ?_; (with_reducible refine (row_Sort.calls _ _ x5_2 t1083 _ ?side1 ?side2 A17.out).mono ?_); (case side1 => repeat (first | exact (Kd.R_reads' HO_5.out).2.2 | (with_reducible refine Kd.C_alloc ?_ _) | (with_reducible refine Kd.C_drewN ?_ _) | (with_reducible refine Kd.C_drew ?_))); (case side2 => exact (Kd.R_reads' HO_5.out).2.1); rintro e w23 ⟨v1084, rfl, ho0, hb⟩; refine ⟨_, rfl, ?_⟩; have n0_ := Aside0.mk (Kd.R_elder' (by (with_reducible repeat (first | apply Kd.R_alloc | apply Kd.R_drewN | apply Kd.R_drew)); exact HO_5.out) (Kd.R_base ho0) hb); have n1_ := Aside0.mk (Kd.R_lower (Kd.R_new' ho0 (Kd.R_lt (by (with_reducible repeat (first | apply Kd.R_alloc | apply Kd.R_drewN | apply Kd.R_drew)); exact HO_5.out))) (below_size (by repeat (first | (with_reducible first | exact HB.out | apply below_alloc | apply pw_below_drewN | apply below_drew1) | exact HB.out)))); have n2_ := Aside0.mk (below_step (by repeat (first | (with_reducible first | exact HB.out | apply below_alloc | apply pw_below_drewN | apply below_drew1) | exact HB.out)) hb); clear HO_5; clear HB; have HO_5 := n0_; have HO1085 := n1_; have HB := n2_; clear n0_ n1_ n2_; (try clear hb); (try clear hb2); (try clear hk); (try clear hi); (try clear ho0)) | ((with_reducible refine gate_callee (f := 57) rfl ?_); refine goesL_ (some 43) rfl rfl Tryd.func57 (by kernel_rfl) rfl #[.slice A0 l0.length c0] rfl (by (try simp only [List.map_toArray, List.map_cons, List.map_nil]); first | done | rfl | (simp only [List.length_drop, List.length_take]; rfl)) ?_; (with_reducible refine (paymasterref10_Sort.calls k2 _ _ l0 t1086 _ ?side1 ?side2 A18.out).mono ?_); (case side1 => repeat (first | exact (Kd.C_below HR0.out HB.out) | (with_reducible refine Kd.C_alloc ?_ _) | (with_reducible refine Kd.C_drewN ?_ _) | (with_reducible refine Kd.C_drew ?_))); (case side2 => exact HC0.out); rintro e w24 ⟨v1087, rfl, ho0, hb⟩; refine ⟨_, rfl, ?_⟩; have n0_ := Aside0.mk (Kd.R_elder' (by (with_reducible repeat (first | apply Kd.R_alloc | apply Kd.R_drewN | apply Kd.R_drew)); exact HO_5.out) (Kd.R_base ho0) hb); have n1_ := Aside0.mk (Kd.R_elder' (by (with_reducible repeat (first | apply Kd.R_alloc | apply Kd.R_drewN | apply Kd.R_drew)); exact HO1085.out) (Kd.R_base ho0) hb); have n2_ := Aside0.mk (Kd.R_lower (Kd.R_new' (Kd.R_new' ho0 (Kd.R_lt (by (with_reducible repeat (first | apply Kd.R_alloc | apply Kd.R_drewN | apply Kd.R_drew)); exact HO_5.out))) (Kd.R_lt (by (with_reducible repeat (first | apply Kd.R_alloc | apply Kd.R_drewN | apply Kd.R_drew)); exact HO1085.out))) (below_size (by repeat (first | (with_reducible first | exact HB.out | apply below_alloc | apply pw_below_drewN | apply below_drew1) | exact HB.out)))); have n3_ := Aside0.mk (below_step (by repeat (first | (with_reducible first | exact HB.out | apply below_alloc | apply pw_below_drewN | apply below_drew1) | exact HB.out)) hb); clear HO_5; clear HO1085; clear HB; have HO_5 := n0_; have HO1085 := n1_; have HO1088 := n2_; have HB := n3_; clear n0_ n1_ n2_ n3_; (try clear hb); (try clear hb2); (try clear hk); (try clear hi); (try clear ho0); obtain ⟨Ao25, co25, eo25⟩ := Kd.R_slice HO1085.out; subst eo25; obtain ⟨Ao26, co26, eo26⟩ := Kd.R_slice HO1088.out; subst eo26) | ((with_reducible refine gate_callee (f := 28) rfl ?_); refine goesL_ (some 44) rfl rfl Tryd.func28 (by kernel_rfl) rfl #[.slice Ao25 t1083.length co25, .slice Ao26 t1086.length co26] rfl (by (try simp only [List.map_toArray, List.map_cons, List.map_nil]); first | done | rfl | (simp only [List.length_drop, List.length_take]; rfl)) ?_; (with_reducible refine (paymasterref10_Same.calls k2 _ _ t1083 _ _ t1086 true _ ?side1 ?side2 ?side3 ?side4 A19.out).mono ?_); (case side1 => repeat (first | exact (Kd.R_reads' HO1085.out).2.2 | (with_reducible refine Kd.C_alloc ?_ _) | (with_reducible refine Kd.C_drewN ?_ _) | (with_reducible refine Kd.C_drew ?_))); (case side2 => exact (Kd.R_reads' HO1085.out).2.1); (case side3 => repeat (first | exact (Kd.R_reads' HO1088.out).2.2 | (with_reducible refine Kd.C_alloc ?_ _) | (with_reducible refine Kd.C_drewN ?_ _) | (with_reducible refine Kd.C_drew ?_))); (case side4 => exact (Kd.R_reads' HO1088.out).2.1); rintro e w' ⟨rfl, ⟨nd, rfl⟩⟩; refine ⟨_, rfl, ?_⟩) | (go_at_call 28; (with_reducible refine (paymasterref10_Same.calls k2 _ _ x5_2 _ _ l0 true _ ?side1 ?side2 ?side3 ?side4 A21.out).mono ?_); (case side1 => repeat (first | exact (Kd.R_reads' HO_5.out).2.2 | (with_reducible refine Kd.C_alloc ?_ _) | (with_reducible refine Kd.C_drewN ?_ _) | (with_reducible refine Kd.C_drew ?_))); (case side2 => exact (Kd.R_reads' HO_5.out).2.1); (case side3 => repeat (first | exact (Kd.C_below HR0.out (by repeat (first | (with_reducible first | exact HB.out | apply below_alloc | apply pw_below_drewN | apply below_drew1) | exact HB.out))) | (with_reducible refine Kd.C_alloc ?_ _) | (with_reducible refine Kd.C_drewN ?_ _) | (with_reducible refine Kd.C_drew ?_))); (case side4 => exact HC0.out); rintro e w' ⟨rfl, ⟨nd, rfl⟩⟩))
                    go_loopg [12] k2 (fun kq v12 w' => ∃ (x11_3 : List (S44)) (x12_3 : Int), v12 = .int .i64 x12_3 ∧ Aside0 (paymasterlaw10_RowWrites.l1 kq l0 x5_2 t1071 t1072 t1073 t1074 x10_2 x11_3 x12_3 = some r) ∧ Aside0 (kq ≤ k2) ∧ Aside0 (Kd.R k44 44 w' w.heap.size (fun k_ => some k_ ≠ ((.slice Ao25 t1083.length co25) : Value).ownBlock) (.slice Ao13 x5_2.length co13) x5_2) ∧ Aside0 (Kd.R k44 44 w' w.heap.size (fun k_ => some k_ ≠ ((.slice Ao13 x5_2.length co13) : Value).ownBlock) (.slice Ao25 t1083.length co25) x11_3) ∧ Aside0 (Below w.heap.size w w'))
                    case atStart => exact ⟨(t1083), (0), (by first | rfl | (simp; done) | (simp [*]; done)), H', ⟨Nat.le_refl _⟩, ⟨by (try simp only [hl5_2]); (with_reducible repeat (first | apply Kd.R_alloc | apply Kd.R_drewN | apply Kd.R_drew)); exact Kd.R_mono HO_5.out (fun _ hk => hk.1.2)⟩, ⟨by (try simp only [hl5_2]); (with_reducible repeat (first | apply Kd.R_alloc | apply Kd.R_drewN | apply Kd.R_drew)); exact Kd.R_mono HO1085.out (fun _ hk => hk.1.2)⟩, ⟨by repeat (first | (with_reducible first | exact HB.out | apply below_alloc | apply pw_below_drewN | apply below_drew1) | exact HB.out)⟩⟩
                    case round =>
                      clear H'
                      try clear c1
                      try clear c2
                      try clear p2
                      try clear c5
                      try clear c6
                      try clear c7
                      try clear c16
                      try clear c16b0
                      try clear c18
                      try clear c20
                      try clear c22
                      try clear c26
                      try clear p2
                      obtain ⟨x11_3, x12_3, rfl, HA, HK3, HO_5, HO_11, HB⟩ := hrel
                      have hl11_3 := (Kd.R_reads' HO_11.out).1
                      rw [hl11_3] at HO_11
                      (try simp only [hl11_3])
                      (try simp only [hl11_3] at HO_5)
                      cases gk with
                      | zero => exact absurd HA.out (by simp [paymasterlaw10_RowWrites.l1])
                      | succ k3 =>
                        have H := HA.out
                        clear HA
                        simp only [paymasterlaw10_RowWrites.l1] at H
                        by_cases c27 : x12_3 < (x11_3.length : Int)
                        · rw [if_pos c27] at H
                          have c27b0 : decide (x12_3 < (x11_3.length : Int)) = true := decide_eq_true c27
                          clear c27
                          by_cases c28 : 0 ≤ x12_3
                          · rw [if_pos c28] at H
                            have c28b0 : decide (0 ≤ x12_3) = true := decide_eq_true c28
                            clear c28
                            obtain ⟨y1091, hy1091⟩ : ∃ y_ : List (S44), y_ = (x11_3.set (x12_3 : Int).toNat (⟨(⟨#[63]⟩ : ByteArray), (⟨(rd_T44 x11_3 x12_3).f1.f0, (rd_T44 x11_3 x12_3).f1.f1⟩ : S42)⟩ : S44)) := ⟨_, rfl⟩
                            replace H : (paymasterlaw10_RowWrites.l1 k3 l0 x5_2 t1071 t1072 t1073 t1074 x10_2 y1091 (wrap64 (x12_3 + 1))) = some r := by first | (rw [hy1091]; with_reducible exact H) | (have H2_ := (Option.bind_some _ _).symm.trans H; rw [hy1091]; with_reducible exact H2_) | (have H2_ := (Option.bind_some _ _).symm.trans H; with_reducible exact H2_) | with_reducible exact H | (rw [hy1091]; exact H) | exact H
                            have Ny1091 := Aside0.mk hy1091
                            clear hy1091
                            have H' := Aside0.mk H
                            clear H
                            have p29 : 0 ≤ (x12_3 : Int) := of_decide_eq_true (by first | (with_reducible assumption) | assumption)
                            have q29 : (x12_3 : Int) < ((x11_3.length : Int) : Int) := of_decide_eq_true (by first | (with_reducible assumption) | assumption)
                            obtain ⟨go29, co29, eo29, gb29, gl29, cl29, HG29⟩ := Kd.R_form HO_11.out (by omega)
                            (first | cases eo29 | (injection eo29 with ea_ en_ ec_; (first | subst ea_ | (injection ea_ with ea_; subst ea_)); subst ec_; clear en_))
                            have GB29 := Aside0.mk gb29
                            have GG29 := Aside0.mk HG29
                            clear gb29 gl29 HG29
                            obtain ⟨ce29, hcl29, hM29, hcc29, hfr29⟩ := Kd.R_elem HO_11.out z44 (x12_3 : Int) p29 q29
                            obtain rfl := k44_openM hM29
                            have hx29_0 : wr.cell? ⟨go29, (x12_3 : Int).toNat * 3, none⟩ = some (.string ((rd_T44 x11_3 x12_3).f0)) := hcc29 0 _ rfl
                            have hx29_1 : wr.cell? ⟨go29, (x12_3 : Int).toNat * 3 + 1, none⟩ = some (.int .u64 ((rd_T44 x11_3 x12_3).f1.f0)) := hcc29 1 _ rfl
                            have hx29_2 : wr.cell? ⟨go29, (x12_3 : Int).toNat * 3 + 2, none⟩ = some (.int .u64 ((rd_T44 x11_3 x12_3).f1.f1)) := hcc29 2 _ rfl
                            have hf29_0 : wr.frozen? ⟨go29, (x12_3 : Int).toNat * 3, none⟩ = false := hfr29 0
                            have hf29_1 : wr.frozen? ⟨go29, (x12_3 : Int).toNat * 3 + 1, none⟩ = false := hfr29 1
                            have hf29_2 : wr.frozen? ⟨go29, (x12_3 : Int).toNat * 3 + 2, none⟩ = false := hfr29 2
                            clear hcl29 hcc29 hfr29 hM29
                            replace p29 := eq_true p29
                            replace q29 := eq_true q29
                            have HX30 := Aside0.mk (show Kd.R k44 44 wr w.heap.size (fun k_ => some k_ ≠ (.slice Ao13 x5_2.length co13 : Value).ownBlock) (.slice (some ⟨go29, 0, none⟩) x11_3.length co25) x11_3 from (by (with_reducible repeat (first | apply Kd.R_alloc | apply Kd.R_drewN | apply Kd.R_drew)); exact HO_11.out))
                            obtain ⟨ce30, hcl30, hM30, hcc30, hfr30⟩ := Kd.R_elem HX30.out z44 (x12_3 : Int) (of_decide_eq_true (by first | (with_reducible assumption) | assumption)) (by have h_ : (x12_3 : Int) < ((x11_3.length : Int) : Int) := of_decide_eq_true (by first | (with_reducible assumption) | assumption); first | exact h_ | (have e_ := (Kd.R_reads' HO_11.out).1; omega) | simpa using h_)
                            obtain rfl := k44_openM hM30
                            have HP30 := Kd.R_seg HX30.out (x12_3 : Int) (of_decide_eq_true (by first | (with_reducible assumption) | assumption)) (by have h_ : (x12_3 : Int) < ((x11_3.length : Int) : Int) := of_decide_eq_true (by first | (with_reducible assumption) | assumption); first | exact h_ | (have e_ := (Kd.R_reads' HO_11.out).1; omega) | simpa using h_) (seg := [.string (⟨#[63]⟩ : ByteArray)]) (j := 0) hcl30 hcc30 (show 1 ≤ 3 from by decide) (x' := (⟨(⟨#[63]⟩ : ByteArray), (⟨(rd_T44 x11_3 x12_3).f1.f0, (rd_T44 x11_3 x12_3).f1.f1⟩ : S42)⟩ : S44)) (k44_mkM _ _ _ (⟨(⟨#[63]⟩ : ByteArray), (⟨(rd_T44 x11_3 x12_3).f1.f0, (rd_T44 x11_3 x12_3).f1.f1⟩ : S42)⟩ : S44) ) (fun _ hk => hk)
                            have hx30_0 := hcc30 0 _ rfl
                            (try simp only [show (k44).sz = 3 from rfl, Nat.mul_one, Nat.add_zero] at hx30_0)
                            have hf30_0 := hfr30 0
                            (try simp only [show (k44).sz = 3 from rfl, Nat.mul_one, Nat.add_zero] at hf30_0)
                            clear hcl30 hcc30 hfr30 hM30
                            go_wp2_with (first | ((with_reducible refine gate_store (t := 9) (p := 61) rfl ?_); refine store_event (t := 9) (p := 61) (v := ?vo_w31) (w1 := (wr.setCell ⟨go29, (x12_3 : Int).toNat * 3, none⟩ (.string (⟨#[63]⟩ : ByteArray)))) ?hg ?ho ?hn ?hr ?_; (case ho => rfl); (case hg => rfl); (case hn => rfl); (case hr => first | (go_simp; done) | (go_simp; rfl)); intro w31 hw; have hg : wr.grownBy w31 (some go29) := (by rw [hw]; exact HP30.2); have hp_ : Kd.R k44 44 w31 w.heap.size (fun k_ => some k_ ≠ (.slice Ao13 x5_2.length co13 : Value).ownBlock) (.slice (some ⟨go29, 0, none⟩) x11_3.length co25) y1091 := (by rw [hw, Ny1091.out]; exact HP30.1); clear HP30; have n0_ := Aside0.mk (Kd.R_after (v := (.slice (some ⟨go29, 0, none⟩) x11_3.length co25)) (v1 := (.slice (some ⟨go29, 0, none⟩) x11_3.length co25)) (ok := (fun _ => True)) (by (with_reducible repeat (first | apply Kd.R_alloc | apply Kd.R_drewN | apply Kd.R_drew)); exact Kd.R_mono HO_5.out (fun _ hk => ⟨trivial, hk⟩)) hg (.inl rfl)); have n1_ := Aside0.mk (hp_); have n2_ := Aside0.mk ((by rw [hw]; exact below_set (HB.out) GB29.out : Below w.heap.size w w31)); clear HO_5; clear HO_11; clear HB; have HO_5 := n0_; have HO_11 := n1_; have HB := n2_; clear n0_ n1_ n2_; clear hg hw hp_))
                            (try simp only [← hl11_3])
                            go_roundg k3
                            case measure => have := HJ2.out; have := HK2.out; have := HK3.out; omega
                            case rel => exact ⟨(y1091), (wrap64 (x12_3 + 1)), (by first | rfl | (simp; done) | (simp [*]; done)), H', ⟨by have := HJ2.out; have := HK2.out; have := HK3.out; omega⟩, ⟨by (try simp only [hl5_2]); (try simp only [hl11_3]); (with_reducible repeat (first | apply Kd.R_alloc | apply Kd.R_drewN | apply Kd.R_drew)); exact Kd.R_mono HO_5.out (fun _ hk => hk.2)⟩, ⟨by (try simp only [hl5_2]); (try simp only [hl11_3]); (with_reducible repeat (first | apply Kd.R_alloc | apply Kd.R_drewN | apply Kd.R_drew)); exact HO_11.out⟩, ⟨by repeat (first | (with_reducible first | exact HB.out | apply below_alloc | apply pw_below_drewN | apply below_drew1) | exact HB.out)⟩⟩
                          · rw [if_neg c28] at H
                            exact absurd H (by simp)
                        · rw [if_neg c27] at H
                          have c27b0 : decide (x12_3 < (x11_3.length : Int)) = false := decide_eq_false c27
                          clear c27
                          have H' := Aside0.mk H
                          clear H
                          go_wp2
                          (try simp only [← hl5_2, ← hl11_3])
                          go_roundg k3
                          case measure => have := HJ2.out; have := HK2.out; have := HK3.out; omega
                          case rel => exact ⟨(x5_2), (wrap64 (x10_2 + 1)), (by first | rfl | (simp; done) | (simp [*]; done)), H', ⟨by have := HJ2.out; have := HK2.out; have := HK3.out; omega⟩, ⟨by (try simp only [hl5_2]); (try simp only [hl11_3]); (with_reducible repeat (first | apply Kd.R_alloc | apply Kd.R_drewN | apply Kd.R_drew)); exact Kd.R_mono HO_5.out (fun _ hk => trivial)⟩, ⟨by repeat (first | (with_reducible first | exact HB.out | apply below_alloc | apply pw_below_drewN | apply below_drew1) | exact HB.out)⟩⟩
                  · replace c22 := Bool.eq_false_iff.mpr c22
                    subst c22
                    have H1 : (none) = some r := by rw [if_neg (show ¬ (false = true) by decide)] at H; exact H
                    clear H
                    have H := H1
                    clear H1
                    exact absurd H (by simp)
                · replace c20 := Bool.eq_false_iff.mpr c20
                  subst c20
                  have H1 : (none) = some r := by rw [if_neg (show ¬ (false = true) by decide)] at H; exact H
                  clear H
                  have H := H1
                  clear H1
                  exact absurd H (by simp)
              · rw [if_neg c16] at H
                have c16b0 : decide (x10_2 < 2) = false := decide_eq_false c16
                clear c16
                by_cases c32 : t1071.toList = t1073.toList
                · rw [if_pos c32] at H
                  have c32b0 : (t1071.toList == t1073.toList) = true := beq_iff_eq.mpr c32
                  have c32b1 : (t1071.toList != t1073.toList) = false := bne_eq_false_iff_eq.mpr c32
                  clear c32
                  obtain rfl := Option.some.inj H
                  go_wp2
                  go_ret
                  exact ⟨by first | rfl | (simp [errW_none, errW_some] <;> rfl) | (simp [*, errW_none, errW_some] <;> rfl), by repeat (first | (with_reducible first | exact HB.out | apply below_alloc | apply pw_below_drewN | apply below_drew1) | exact HB.out)⟩
                · rw [if_neg c32] at H
                  exact absurd H (by simp)
        · rw [if_neg c7] at H
          exact absurd H (by simp)
end Go.Proofs.YtpkjpiphjdpegaaDoor.P
namespace Go.Proofs.YtpkjpiphjdpegaaDoor.P
open Go.RowKit Go.Proofs.YtpkjpiphjdpegaaDoorW.PrintWords Go.Proofs.YtpkjpiphjdpegaaDoorW.PrintLast Go.Proofs.YtpkjpiphjdpegaaDoorW.PrintMore
open Go.Proofs.YtpkjpiphjdpegaaDoor.Z
set_option linter.unusedVariables false
set_option linter.unusedSimpArgs false
theorem writes_l1 (l : List S44) (a : ByteArray) (b : Int) (j K : Nat) (hj : j ≤ 2) (R : ∀ k, K ≤ k → paymasterlaw10_RowWrites.l0 k l l a b a b ((j + 1 : Nat) : Int) = some true) :
    ∀ (t i : Nat) (A : List S44), i + t = A.length → A.length ≤ 1000 → ∀ k, K + 1 + t ≤ k → paymasterlaw10_RowWrites.l1 k l l a b a b (j : Int) A (i : Int) = some true
  | 0, i, A, h, hA, k, hk => by
    obtain ⟨q, rfl⟩ : ∃ q, k = q + 1 := ⟨k - 1, by omega⟩
    rw [paymasterlaw10_RowWrites.l1, if_neg (by omega), wrapI _ (by omega) (by omega), show (j : Int) + 1 = ((j + 1 : Nat) : Int) from by push_cast; rfl]
    exact R q (by omega)
  | t + 1, i, A, h, hA, k, hk => by
    obtain ⟨q, rfl⟩ : ∃ q, k = q + 1 := ⟨k - 1, by omega⟩
    rw [paymasterlaw10_RowWrites.l1, if_pos (by omega), if_pos (by omega), wrapI _ (by omega) (by omega), show (i : Int) + 1 = ((i + 1 : Nat) : Int) from by push_cast; rfl]
    exact writes_l1 l a b j K hj R t (i + 1) _ (by rw [List.length_set]; omega) (by rw [List.length_set]; omega) q (by omega)
theorem writes_l0 (l : List S44) (hl : l.length ≤ 900) (a : ByteArray) (b : Int) : ∀ (t j : Nat), j + t = 2 → ∃ K, ∀ k, K ≤ k → paymasterlaw10_RowWrites.l0 k l l a b a b (j : Int) = some true
  | 0, j, h => by
    refine ⟨1, fun k hk => ?_⟩
    obtain ⟨q, rfl⟩ : ∃ q, k = q + 1 := ⟨k - 1, by omega⟩
    rw [paymasterlaw10_RowWrites.l0, if_neg (by omega), if_pos rfl]
    simp
  | t + 1, j, h => by
    obtain ⟨K, R⟩ := writes_l0 l hl a b t (j + 1) (by omega)
    obtain ⟨K2, hS⟩ := refSort_is l (by omega)
    have sl := sort_len l
    refine ⟨K + K2 + 3000, fun k hk => ?_⟩
    obtain ⟨q, rfl⟩ : ∃ q, k = q + 1 := ⟨k - 1, by omega⟩
    rw [paymasterlaw10_RowWrites.l0, if_pos (by omega), sort_f l (by omega), Option.bind_some, hS q (by omega), Option.bind_some, same44_is _ (by omega) q (by omega), Option.bind_some, if_pos rfl, same44_is l (by omega) q (by omega), Option.bind_some, if_pos rfl]
    exact writes_l1 l a b j K (by omega) R (sortL rowKey l).length 0 _ (by omega) (by omega) q (by omega)
theorem rowWrites_pure (l : List S44) (s : ByteArray) (hg : ∀ y ∈ l, U64 y.f1.f0 ∧ U64 y.f1.f1) : ∃ k, paymasterlaw10_RowWrites.f k l s = some true := by
  obtain ⟨b0, h01, h02⟩ := long_is l 1000 (by omega)
  cases b0 with
  | true =>
    refine ⟨1000, ?_⟩
    unfold paymasterlaw10_RowWrites.f
    rw [h01, Option.bind_some, if_pos rfl, paymasterlaw10_RowWrites.j0, if_pos rfl]
  | false =>
    obtain ⟨h3, h4⟩ := h02 rfl
    obtain ⟨K, R⟩ := writes_l0 l (by omega) (writeOf l s).1 (writeOf l s).2 2 0 rfl
    refine ⟨K + 6000 + 1, ?_⟩
    obtain ⟨b, h1, h2⟩ := long_is l (K + 6000 + 1) (by omega)
    unfold paymasterlaw10_RowWrites.f
    rw [h1, Option.bind_some]
    cases b with
    | true => rw [if_pos rfl, paymasterlaw10_RowWrites.j0, if_pos rfl]
    | false =>
      rw [if_neg (by decide)]
      by_cases c : (s.size : Int) > 500
      · rw [decide_eq_true c, paymasterlaw10_RowWrites.j0, if_pos rfl]
      · have h4' : ∀ y ∈ l, y.f0.size ≤ 200 := h4
        rw [decide_eq_false c, paymasterlaw10_RowWrites.j0, if_neg (by decide), Option.bind_some, if_pos (by simp; omega), Option.bind_some, List.nil_append, write_is l (by omega) (fun y hy => ⟨by have := h4' y hy; omega, hg y hy⟩) s (by omega) _ (by omega), Option.bind_some, refWrite_is l (by omega) (fun y hy => ⟨by have := h4' y hy; omega, hg y hy⟩) s (by omega) _ (by omega), Option.bind_some]
        exact R _ (by omega)
theorem rowWrites_walk {w : World} (A0 : Option Addr) (c0 : Nat) (l0 : List S44) (hr0 : k44.C w A0 l0.length l0) (hc0 : l0.length ≤ c0) (g0 : ∀ y ∈ l0, y.f0.size ≤ 9223372036854775807 ∧ U64 y.f1.f0 ∧ U64 y.f1.f1) (a1 : ByteArray) (g1 : a1.size ≤ 9223372036854775807) (hG : GT w) :
    Calls Tryd.prog 18 #[.slice A0 l0.length c0, .string a1] w fun e w' => e = .returned (.bool true) ∧ Below w.heap.size w w' := by
  obtain ⟨k, hk⟩ := rowWrites_pure l0 a1 fun y hy => (g0 y hy).2
  exact paymasterlaw10_RowWrites.calls k A0 c0 l0 a1 true w hr0 hc0 hG hk
end Go.Proofs.YtpkjpiphjdpegaaDoor.P
namespace Go.Proofs.YtpkjpiphjdpegaaDoor.rowWrites
open Go.ChangeShapes Go.WideShapes Go.ChangeAt Go.RowKit Go.Proofs.YtpkjpiphjdpegaaDoor.P
open Go.ChangeMaps (open_string shut_string)
set_option linter.unusedVariables false
set_option maxRecDepth 100000 in
theorem lifted (os : Os) (started : os.Started) (H : Type) (enc : TypeId × Value → H) :
    ReturnsInHanded {} Tryd.checked os 18 .any (fun w args => (Rows.rowWritesSpec.pre enc Tryd.prog Tryd.f18 Rows.rowWritesRow.domain false w args ∧ laidMetH Tryd.prog laid w) ∧ sizedMet enc Tryd.prog Tryd.f18 (OpenSpec.ofChange Rows.rowWritesSpec) false w args) (Rows.rowWritesSpec.post enc Tryd.prog Tryd.f18 false true false false) := by
  refine returnsInHanded_of_change_and (C := Tryd.checked) (X := fun w _ => laidMetH Tryd.prog laid w) (fun _ _ _ hh h => h.of_heap hh) own started (by kernel_rfl) Tryd.func18
    (ChangeSpec.witness_shaped (enc := enc) (C := Tryd.checked) (os := os) (X := fun w _ => laidMetH Tryd.prog laid w) false (World.laidAll Tryd.prog os laid) #[.slice none 0 0, .string ByteArray.empty] 8 (World.laidAll_os _ _ _) (World.shaped_of_ZipB (by kernel_rfl) (by kernel_rfl)) (by kernel_rfl) (by kernel_rfl) (by kernel_rfl) (laid_met os _)) ?_
  intro W base args ds gs before hval0 hW _ _ hL _
  have hval : ∀ (j : Nat) t v, Tryd.f18.params[j]? = some t → args[j]? = some v → Value.okWide Tryd.prog W .any base t v := hval0
  have hW' := hW
  obtain ⟨p, q, hA0, hV, rfl, hfz, hnd⟩ := hW
  have hA : DataW.TrodAll enc Tryd.prog W 0 (fun _ => true) true Tryd.f18.params.toList args.toList ds p := hA0
  rw [Tryd.params18] at hA hval
  have hAll := hA
  obtain ⟨v0, vs0, d0, ds0, p0, q0, hargs, rfl, rfl, h0, r0⟩ := trodAll_cons hA
  obtain ⟨v1, vs1, d1, ds1, p1, q1, rfl, rfl, rfl, h1, r1⟩ := trodAll_cons r0
  obtain ⟨rfl, rfl, rfl⟩ := trodAll_nil r1
  obtain rfl : args = #[v0, v1] := by cases args; simp_all
  obtain ⟨rfl, rfl⟩ := trodVars_none hV
  obtain ⟨A0, c0, l0, rfl, hc0, hr0, g0⟩ := arg_row44 (hval 0 34 v0 rfl rfl) h0
  obtain ⟨a1, rfl, g1⟩ := arg_string (hval 1 9 v1 rfl rfl) h1
  clear hA0 hval0
  refine (rowWrites_walk (w := W) A0 c0 l0 hr0 hc0 g0 a1 g1 (gt_of hL)).mono fun e W' ⟨he, bel⟩ => ?_
  subst he
  exact ⟨_, rfl, _, _, _, [], _, [], hW', trodAll_mk1 (shut_bool Tryd.underlying4 _), args_back laidOut bel (by kernel_rfl) hAll, rfl, bel.frame _, fun h => by cases h⟩
theorem both {a b : Bool} (h : a = true) (k : b = true) : (a && b) = true := by rw [h, k]; rfl
theorem c0 : (Rows.rowWritesRow.wf (OpenSpec.ofChange Rows.rowWritesSpec)) = true := by kernel_rfl
theorem c1 : (laidOutB Tryd.prog) = true := by kernel_rfl
theorem c2 : (mapsRowed Tryd.prog) = true := by kernel_rfl
theorem c3 : (Tryd.f18.params.all (Tryd.prog.readableRec ·)) = true := by kernel_rfl
theorem c4 : (namedTie Tryd.prog Rows.rowWritesRow.named Rows.rowWritesSpec.vars) = true := by kernel_rfl
theorem c5 : ((Rows.rowWritesRow.stops == [])) = true := by kernel_rfl
theorem c6 : ((Tryd.prog.stops == [])) = true := by kernel_rfl
theorem c7 : ((Rows.rowWritesRow.knobs == [])) = true := by kernel_rfl
theorem c8 : ((Tryd.prog.stopKnobs == [])) = true := by kernel_rfl
theorem c9 : ((Rows.rowWritesRow.inPlace == Tryd.prog.inPlace 18)) = true := by kernel_rfl
theorem c10 : ((Rows.rowWritesRow.unfollowed == Tryd.prog.unfollowed 18)) = true := by kernel_rfl
theorem c11 : ((Rows.rowWritesRow.recurses == Tryd.prog.recurses 18)) = true := by kernel_rfl
theorem c12 : ((Rows.rowWritesRow.named == Tryd.prog.varsNamed 18)) = true := by kernel_rfl
theorem c13 : ((Rows.rowWritesRow.maps == (Tryd.f18.params.toList ++ Rows.rowWritesSpec.plain.varTypes Tryd.prog).any (Tryd.prog.mapsRec ·))) = true := by kernel_rfl
theorem c14 : ((Rows.rowWritesRow.ifaces == (Tryd.f18.params.toList ++ Rows.rowWritesSpec.plain.varTypes Tryd.prog).any (Tryd.prog.ifacesRec ·))) = true := by kernel_rfl
theorem c15 : ((Rows.rowWritesRow.mapsOut == Tryd.prog.mapsAmong Tryd.f18.resultTypes.toList)) = true := by kernel_rfl
theorem c16 : ((Rows.rowWritesRow.loops == (Tryd.f18.params.toList ++ Rows.rowWritesSpec.plain.varTypes Tryd.prog).any (Tryd.prog.loopsFrom ·))) = true := by kernel_rfl
theorem c17 : ((Rows.rowWritesRow.wideKeys == (Tryd.f18.params.toList ++ Rows.rowWritesSpec.plain.varTypes Tryd.prog ++ Tryd.f18.resultTypes.toList).any (Tryd.prog.wideKeysFrom ·))) = true := by kernel_rfl
theorem c18 : (Rows.rowWritesSpec.vars.all (Tryd.prog.varReadable ·)) = true := by kernel_rfl
theorem c19 : (Tryd.f18.resultTypes.all (fun t => Tryd.prog.readableRec t && decide (t < Tryd.prog.types.size))) = true := by kernel_rfl
theorem c20 : ((Rows.rowWritesRow.ifacesOut == Tryd.f18.resultTypes.toList.any (Tryd.prog.ifacesRec ·))) = true := by kernel_rfl
theorem c21 : ((Rows.rowWritesRow.loopsOut == Tryd.f18.resultTypes.toList.any (Tryd.prog.loopsFrom ·))) = true := by kernel_rfl
theorem c22 : ((Rows.rowWritesRow.plainKeys == Tryd.prog.plainKeys)) = true := by kernel_rfl
theorem c23 : (Rows.rowWritesRow.shortTexts.isNone) = true := by kernel_rfl
theorem c24 : (Tryd.prog.stopsHeard) = true := by kernel_rfl
theorem c25 : (Tryd.prog.mayEnter) = true := Facts.mayEnter
theorem c26 : ((Rows.rowWritesRow.lifted == Tryd.prog.liftsFinal)) = true := by rw [Facts.liftsFinal]; kernel_rfl
theorem c27 : ((Tryd.prog.make == some Rows.rowWritesRow.make)) = true := by rw [Facts.make]; kernel_rfl
theorem c28 : ((Rows.rowWritesRow.kinds == (if Rows.rowWritesRow.domain.isEmpty then [] else Tryd.f18.params.toList.map fun t => match Tryd.prog.underlying t with | some (.int k) => some k | _ => none))) = true := by kernel_rfl
theorem c29 : ((Rows.rowWritesRow.pinned == Rows.rowWritesRow.pinnedBy)) = true := by kernel_rfl
theorem c30 : ((Rows.rowWritesRow.veiled == (Tryd.f18.params.toList ++ Rows.rowWritesSpec.plain.varTypes Tryd.prog ++ Tryd.f18.resultTypes.toList).any (Tryd.prog.veiledRec ·))) = true := by kernel_rfl
theorem c31 : (Rows.rowWritesRow.veiledFits Tryd.prog Tryd.f18.params.toList (Tryd.f18.params.toList ++ Rows.rowWritesSpec.plain.varTypes Tryd.prog ++ Tryd.f18.resultTypes.toList)) = true := by kernel_rfl
set_option maxRecDepth 100000 in
theorem closed : joinedFacts Tryd.prog 18 Tryd.f18 Rows.rowWritesSpec Rows.rowWritesRow = true := by
  unfold joinedFacts
  exact both (both (both (both (both (both (both (both (both (both (both (both (both (both (both (both (both (both (both (both (both (both (both (both (both (both (both (both (both (both (both (c0) c1) c2) c3) c4) c5) c6) c7) c8) c9) c10) c11) c12) c13) c14) c15) c16) c17) c18) c19) c20) c21) c22) c23) c24) c25) c26) c27) c28) c29) c30) c31
theorem over : Rows.rowWritesRow.holds Tryd.pinned (OpenSpec.ofChange Rows.rowWritesSpec) :=
  OpenClaim.holds_of_wide 18 Tryd.f18 rfl rfl rfl rfl rfl rfl rfl ⟨rfl, rfl, rfl, rfl, rfl⟩ rfl rfl rfl rfl rfl (by kernel_rfl) Tryd.func18 closed
    (of_decide_eq_true (by kernel_rfl)) (by unfold Func.isWrapper; first | (rw [if_pos (by decide +kernel)]; kernel_rfl) | (rw [if_neg (by decide +kernel)]; exact ⟨rfl, rfl⟩))
    (fun os started H enc _ => lifted os started H enc)
end Go.Proofs.YtpkjpiphjdpegaaDoor.rowWrites
namespace Go.Proofs.YtpkjpiphjdpegaaDoor
theorem rowWrites_row_holds : Rows.RowWritesSaid := rowWrites.over
theorem rowWrites_holds : Rows.RowWritesCardSaid :=
  Claim7.holds_tied_plain_at .later [] [.data, .pinned] true (true, "8ed4f517d9b640979c9642b29f1471ad540af19eb7dd2a85df80f51153cdfa49") false
    rowWrites_row_holds (fun _ h => by cases h) (by kernel_rfl) (fun _ h => by cases h) rowWrites_row_tie rfl ⟨rfl, rfl⟩ Facts.mainIs rfl
    (fun f fn hf hfn => by
      obtain rfl : f = 18 := Option.some.inj ((show Tryd.prog.funcNamed "paymaster/paymasterlaw10.RowWrites" = some 18 by kernel_rfl).symm.trans hf) |>.symm
      obtain rfl : fn = Tryd.f18 := (Option.some.inj (Tryd.func18.symm.trans hfn)).symm
      exact ⟨by kernel_rfl, fun j t ht => by
        rw [Tryd.params18] at ht
        have hm : t ∈ [34, 9] := by simpa using Array.mem_of_getElem? ht
        have hall : ([34, 9].all fun u => !Tryd.prog.wantsStandIn u) = true := by kernel_rfl
        exact (show Tryd.prog.wantsStandIn t = false by simpa using List.all_eq_true.1 hall t hm)⟩)
    (by kernel_rfl)
end Go.Proofs.YtpkjpiphjdpegaaDoor
