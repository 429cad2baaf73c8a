/- A program of this session wrote this text out of the session's own texts. (part 6 of 45) -/
import Derived.Test.YtpkjpiphjdpegaaDoorCLedgerImportsQ
import Derived.Test.YtpkjpiphjdpegaaDoorCLedgerImports4
import Derived.Test.YtpkjpiphjdpegaaDoorCLedgerImports5
namespace Go.Proofs.YtpkjpiphjdpegaaDoor.P
open Go.RowKit Go.Proofs.YtpkjpiphjdpegaaDoorW.PrintWords Go.Proofs.YtpkjpiphjdpegaaDoorW.PrintLast Go.Proofs.YtpkjpiphjdpegaaDoorW.PrintMore
attribute [local go_sem] max2_int min2_int max_two min_two max_three min_three max_four min_four
set_option linter.unusedVariables false
set_option linter.unusedSimpArgs false
mutual
def paymasterref10_Sort.l0 : Nat → List (S44) → List (S44) → Int → Option ((List (S44)))
 | 0, _, _, _ => none
 | k + 1, x0, x3, x4 => if x4 < (x0.length : Int) then (paymasterref10_Sort.l1 k x0 x3 x4 (x3.length : Int)) else (some x3)
def paymasterref10_Sort.l1 : Nat → List (S44) → List (S44) → Int → Int → Option ((List (S44)))
 | 0, _, _, _, _ => none
 | k + 1, x0, x3, x4, x5 => if x5 > 0 then (if 0 ≤ (wrap64 (x5 - 1)) then (if (wrap64 (x5 - 1)) < (x3.length : Int) then (if 0 ≤ x4 then (if x4 < (x0.length : Int) then (if (Op.bytesLess (((rd_T44 x0 x4).f0).toList) (((rd_T44 x3 (wrap64 (x5 - 1))).f0).toList)) = true then (paymasterref10_Sort.l1 k x0 x3 x4 (wrap64 (x5 - 1))) else ((some (([] : List (S44)) : List (S44))).bind fun y1004 => (if 0 ≤ x5 then (if x5 ≤ (x3.length : Int) then ((some (x3.drop (x5 : Int).toNat : List (S44))).bind fun y1007 => (if y1004.length + y1007.length < 4398046511104 then ((some (y1004 ++ y1007 : List (S44))).bind fun y1011 => ((some (x3.take (x5 : Int).toNat : List (S44))).bind fun y1014 => (if y1014.length < 4398046511104 then ((some (y1014 ++ [(⟨(rd_T44 x0 x4).f0, (⟨(rd_T44 x0 x4).f1.f0, (rd_T44 x0 x4).f1.f1⟩ : S42)⟩ : S44)] : List (S44))).bind fun y1018 => (if y1018.length + y1011.length < 4398046511104 then (paymasterref10_Sort.l0 k x0 (y1018 ++ y1011) (wrap64 (x4 + 1))) else (none))) else (none)))) else (none))) else (none)) else (none)))) else (none)) else (none)) else (none)) else (none)) else ((some (([] : List (S44)) : List (S44))).bind fun y1024 => (if 0 ≤ x5 then (if x5 ≤ (x3.length : Int) then ((some (x3.drop (x5 : Int).toNat : List (S44))).bind fun y1027 => (if y1024.length + y1027.length < 4398046511104 then ((some (y1024 ++ y1027 : List (S44))).bind fun y1031 => ((some (x3.take (x5 : Int).toNat : List (S44))).bind fun y1034 => (if 0 ≤ x4 then (if x4 < (x0.length : Int) then (if y1034.length < 4398046511104 then ((some (y1034 ++ [(⟨(rd_T44 x0 x4).f0, (⟨(rd_T44 x0 x4).f1.f0, (rd_T44 x0 x4).f1.f1⟩ : S42)⟩ : S44)] : List (S44))).bind fun y1038 => (if y1038.length + y1031.length < 4398046511104 then (paymasterref10_Sort.l0 k x0 (y1038 ++ y1031) (wrap64 (x4 + 1))) else (none))) else (none)) else (none)) else (none)))) else (none))) else (none)) else (none)))
end
def paymasterref10_Sort.f (k : Nat) (l0 : List (S44)) : Option ((List (S44))) := paymasterref10_Sort.l0 k l0 ([] : List (S44)) 0
theorem paymasterref10_Sort.mono_l : ∀ k, (∀ y0 y1 y2, LeO (paymasterref10_Sort.l0 k y0 y1 y2) (paymasterref10_Sort.l0 (k + 1) y0 y1 y2)) ∧ (∀ y0 y1 y2 y3, LeO (paymasterref10_Sort.l1 k y0 y1 y2 y3) (paymasterref10_Sort.l1 (k + 1) y0 y1 y2 y3))
 | 0 => ⟨fun _ _ _ r h => by simp [paymasterref10_Sort.l0] at h, fun _ _ _ _ r h => by simp [paymasterref10_Sort.l1] at h⟩
 | k + 1 => by
  obtain ⟨ih0, ih1⟩ := paymasterref10_Sort.mono_l k; refine ⟨?_, ?_⟩
  ·intro y0 y1 y2; unfold paymasterref10_Sort.l0; repeat' first
   | (with_reducible exact ih0 _ _ _)
   | (with_reducible exact ih1 _ _ _ _)
   | (with_reducible exact LeO.refl _)
   | (with_reducible exact LeO.none _)
   | (with_reducible refine LeO.ite ?_ ?_)
   | (with_reducible refine LeO.bind ?_ (fun _ => ?_))
   | exact ih0 _ _ _
   | exact ih1 _ _ _ _
   | exact LeO.none _
   | refine LeO.ite ?_ ?_
   | refine LeO.bind ?_ (fun _ => ?_)
  ·intro y0 y1 y2 y3; unfold paymasterref10_Sort.l1; repeat' first
   | (with_reducible exact ih0 _ _ _)
   | (with_reducible exact ih1 _ _ _ _)
   | (with_reducible exact LeO.refl _)
   | (with_reducible exact LeO.none _)
   | (with_reducible refine LeO.ite ?_ ?_)
   | (with_reducible refine LeO.bind ?_ (fun _ => ?_))
   | exact ih0 _ _ _
   | exact ih1 _ _ _ _
   | exact LeO.none _
   | refine LeO.ite ?_ ?_
   | refine LeO.bind ?_ (fun _ => ?_)
theorem paymasterref10_Sort.mono : ∀ a0 k, LeO (paymasterref10_Sort.f k a0) (paymasterref10_Sort.f (k + 1) a0) := by
 intro a0 k; obtain ⟨ih0, ih1⟩ := paymasterref10_Sort.mono_l k; unfold paymasterref10_Sort.f
 repeat' first
   | (with_reducible exact ih0 _ _ _)
   | (with_reducible exact ih1 _ _ _ _)
   | (with_reducible exact LeO.refl _)
   | (with_reducible exact LeO.none _)
   | (with_reducible refine LeO.ite ?_ ?_)
   | (with_reducible refine LeO.bind ?_ (fun _ => ?_))
   | exact ih0 _ _ _
   | exact ih1 _ _ _ _
   | exact LeO.none _
   | refine LeO.ite ?_ ?_
   | refine LeO.bind ?_ (fun _ => ?_)
def paymasterref10_Sort.T6 : Bool × List (List Nat × List Nat) := (true, [([], []), ([0], [0]), ([1], [1]), ([2], [2]), ([2], [2]), ([4, 2], [2, 4]), ([3, 5, 2], [2, 3, 5]), ([6, 2], [2, 6]), ([7, 2], [2, 7]), ([2], [2]), ([2], [2]), ([9, 10, 2], [2, 9, 10]), ([11, 2], [2, 11]), ([12, 2], [2, 12]), ([8, 13, 2], [2, 8, 13]), ([2, 14], [2, 14])])
def paymasterref10_Sort.B6 : List Nat := [0, 1, 3, 7, 7, 23, 63, 127, 255, 7, 7, 1543, 3591, 7687, 16383, 32767]
theorem paymasterref10_Sort.tab6 : rtab .any (opsOf Tryd.f57 6) = paymasterref10_Sort.T6 := by kernel_rfl
theorem paymasterref10_Sort.bits6 : waitsOk paymasterref10_Sort.T6.2 paymasterref10_Sort.B6 = true := by kernel_rfl
def paymasterref10_Sort.T9 : Bool × List (List Nat × List Nat) := (true, [([], []), ([], []), ([0, 1], [0, 1]), ([], []), ([], []), ([3, 4], [3, 4]), ([5], [5]), ([6], [6]), ([2, 7], [2, 7]), ([], []), ([8, 9, 8], [8, 9]), ([10, 10, 0, 1, 2, 3, 4, 5, 6, 7, 8, 9, 10], [0, 10])])
def paymasterref10_Sort.B9 : List Nat := [0, 0, 3, 0, 0, 24, 56, 120, 255, 0, 1023, 2047]
theorem paymasterref10_Sort.tab9 : rtab .any (opsOf Tryd.f57 9) = paymasterref10_Sort.T9 := by kernel_rfl
theorem paymasterref10_Sort.bits9 : waitsOk paymasterref10_Sort.T9.2 paymasterref10_Sort.B9 = true := by kernel_rfl
set_option maxHeartbeats 8000000 in
set_option maxRecDepth 100000 in
theorem paymasterref10_Sort.calls (k : Nat) (A0 : Option Addr) (c0 : Nat) (l0 : List (S44)) (r : List (S44)) (w : World) (hr0 : Kd.C k44 w A0 l0.length l0) (hc0 : l0.length ≤ c0) (h : paymasterref10_Sort.f k l0 = some r) :
  Calls Tryd.prog 57 #[.slice A0 l0.length c0] w fun e w' => ∃ v0_ : Value, e = .returned (v0_) ∧ Kd.R k44 44 w' w.heap.size (fun _ => True) v0_ r ∧ Below w.heap.size w w' := by
 have hu44 := Tryd.underlying44; have HR0 := Aside0.mk hr0; have HC0 := Aside0.mk hc0; clear hr0 hc0; have HB := Aside0.mk (Below.refl w.heap.size w); have H : (paymasterref10_Sort.l0 k l0 ([] : List (S44)) 0) = some r := h; clear h; have H' := Aside0.mk H; clear H; go_enter Tryd.func57, Tryd.ntmps57; go_wp2
 go_loopg [3, 4] k (fun kq v3 v4 w' => ∃ (x3_1 : List (S44)) (x4_1 : Int), v4 = .int .i64 x4_1 ∧ Aside0 (paymasterref10_Sort.l0 kq l0 x3_1 x4_1 = some r) ∧ Aside0 (kq ≤ k) ∧ Aside0 (Kd.R k44 44 w' w.heap.size (fun _ => True) v3 x3_1) ∧ Aside0 (Below w.heap.size w w'))
 case atStart => exact ⟨(([] : List (S44))), (0), zv5, H', ⟨Nat.le_refl _⟩, ⟨zvo⟩, ⟨zv0⟩⟩
 case round =>
  clear H'; obtain ⟨x3_1, x4_1, rfl, HA, HK1, HO_3, HB⟩ := hrel; cases gk with
  | zero => exact absurd HA.out (by simp [paymasterref10_Sort.l0])
  | succ k1 =>
   have H := HA.out; clear HA; simp only [paymasterref10_Sort.l0] at H
   by_cases c2 : x4_1 < (l0.length : Int)
   ·rw [if_pos c2] at H; have c2b0 : decide (x4_1 < (l0.length : Int)) = true := decide_eq_true c2; clear c2; have H' := Aside0.mk H; clear H; obtain ⟨Ao3, co3, eo3⟩ := Kd.R_slice HO_3.out; subst eo3; go_wp2
    go_loopg [5] k1 (fun kq v5 w' => ∃ (x5_2 : Int), v5 = .int .i64 x5_2 ∧ Aside0 (paymasterref10_Sort.l1 kq l0 x3_1 x4_1 x5_2 = some r) ∧ Aside0 (kq ≤ k1) ∧ Aside0 (Kd.R k44 44 w' w.heap.size (fun _ => True) (.slice Ao3 x3_1.length co3) x3_1) ∧ Aside0 (Below w.heap.size w w'))
    case atStart => exact ⟨((x3_1.length : Int)), zv5, H', ⟨Nat.le_refl _⟩, ⟨zv1c⟩, ⟨zv0⟩⟩
    case round =>
     clear H'; try clear c2
     try clear c2b0
     try clear p2
     obtain ⟨x5_2, rfl, HA, HK2, HO_3, HB⟩ := hrel; cases gk with
     | zero => exact absurd HA.out (by simp [paymasterref10_Sort.l1])
     | succ k2 =>
      have H := HA.out; clear HA; simp only [paymasterref10_Sort.l1] at H
      by_cases c4 : x5_2 > 0
      ·rw [if_pos c4] at H; have c4b0 : decide (0 < x5_2) = true := decide_eq_true c4; clear c4; obtain ⟨ji5, hji5⟩ : ∃ j_ : Int, (wrap64 (x5_2 - 1)) = j_ := ⟨_, rfl⟩
       replace H : (if 0 ≤ (ji5) then (if (ji5) < (x3_1.length : Int) then (if 0 ≤ x4_1 then (if x4_1 < (l0.length : Int) then (if (Op.bytesLess (((rd_T44 l0 x4_1).f0).toList) (((rd_T44 x3_1 (ji5)).f0).toList)) = true then (paymasterref10_Sort.l1 k2 l0 x3_1 x4_1 ji5) else ((some (([] : List (S44)) : List (S44))).bind fun y1004 => (if 0 ≤ x5_2 then (if x5_2 ≤ (x3_1.length : Int) then ((some (x3_1.drop (x5_2 : Int).toNat : List (S44))).bind fun y1007 => (if y1004.length + y1007.length < 4398046511104 then ((some (y1004 ++ y1007 : List (S44))).bind fun y1011 => ((some (x3_1.take (x5_2 : Int).toNat : List (S44))).bind fun y1014 => (if y1014.length < 4398046511104 then ((some (y1014 ++ [(⟨(rd_T44 l0 x4_1).f0, (⟨(rd_T44 l0 x4_1).f1.f0, (rd_T44 l0 x4_1).f1.f1⟩ : S42)⟩ : S44)] : List (S44))).bind fun y1018 => (if y1018.length + y1011.length < 4398046511104 then (paymasterref10_Sort.l0 k2 l0 (y1018 ++ y1011) (wrap64 (x4_1 + 1))) else (none))) else (none)))) else (none))) else (none)) else (none)))) else (none)) else (none)) else (none)) else (none)) = some r := by first | (rw [hji5] at H; exact H) | (simp only [hji5] at H ⊢; exact H)
       have hji5w : (IntKind.i64.wrap (x5_2 - 1)) = ji5 := (i64_w _).trans hji5
       by_cases c6 : 0 ≤ (ji5)
       ·rw [if_pos c6] at H; have c6b0 : decide (0 ≤ (ji5)) = true := decide_eq_true c6; clear c6
        by_cases c7 : (ji5) < (x3_1.length : Int)
        ·rw [if_pos c7] at H; have c7b0 : decide ((ji5) < (x3_1.length : Int)) = true := decide_eq_true c7; clear c7
         by_cases c8 : 0 ≤ x4_1
         ·rw [if_pos c8] at H; have c8b0 : decide (0 ≤ x4_1) = true := decide_eq_true c8; clear c8
          by_cases c9 : x4_1 < (l0.length : Int)
          ·rw [if_pos c9] at H; have c9b0 : decide (x4_1 < (l0.length : Int)) = true := decide_eq_true c9; clear c9
           by_cases c10 : (Op.bytesLess (((rd_T44 l0 x4_1).f0).toList) (((rd_T44 x3_1 (ji5)).f0).toList)) = true
           ·rw [if_pos c10] at H; have c10b0 : (Op.bytesLess (((rd_T44 l0 x4_1).f0).toList) (((rd_T44 x3_1 (ji5)).f0).toList)) = true := c10; clear c10; have H' := Aside0.mk H; clear H; try go_wp2
            have n0_ := Aside0.mk (Kd.R_drew HO_3.out); have n1_ := Aside0.mk (zRj HB.out); clear HO_3; clear HB; have HO_3 := n0_; have HB := n1_; clear n0_ n1_; have p1002 : 0 ≤ ((ji5) : Int) := of_decide_eq_true zv6; have q1002 : (ji5) < (x3_1.length : Int) := of_decide_eq_true zv6; obtain ⟨ad1002, e1002, hx1002_0, hx1002_1, hx1002_2⟩ := at_T44 (Kd.R_reads' HO_3.out).2.2 (ji5) p1002 q1002; cases e1002; replace p1002 := eq_true p1002; replace q1002 := eq_true q1002; have p1003 : 0 ≤ (x4_1 : Int) := of_decide_eq_true zv6; have q1003 : x4_1 < (l0.length : Int) := of_decide_eq_true zv6; obtain ⟨ad1003, e1003, hx1003_0, hx1003_1, hx1003_2⟩ := at_T44 HR0.out x4_1 p1003 q1003; have hw1003_2 := hx1003_2; have hw1003_1 := hx1003_1; have hw1003_0 := hx1003_0; cases e1003; replace hx1003_0 := (HB.out.cell (World.block_lt_of_cell? w _ hx1003_0)).trans hx1003_0; replace hx1003_1 := (HB.out.cell (World.block_lt_of_cell? w _ hx1003_1)).trans hx1003_1; replace hx1003_2 := (HB.out.cell (World.block_lt_of_cell? w _ hx1003_2)).trans hx1003_2; replace p1003 := eq_true p1003; replace q1003 := eq_true q1003; refine start_ (n := 16) (S := fun w' => w'.cell? (ad1002.add (((ji5)).toNat * 3)) = some (.string ((rd_T44 x3_1 (ji5)).f0)) ∧ w'.cell? ⟨(ad1002.add (((ji5)).toNat * 3)).block, (ad1002.add (((ji5)).toNat * 3)).off + 1, none⟩ = some (.int .u64 ((rd_T44 x3_1 (ji5)).f1.f0)) ∧ w'.cell? ⟨(ad1002.add (((ji5)).toNat * 3)).block, (ad1002.add (((ji5)).toNat * 3)).off + 2, none⟩ = some (.int .u64 ((rd_T44 x3_1 (ji5)).f1.f1)) ∧ w'.cell? (ad1003.add ((x4_1).toNat * 3)) = some (.string ((rd_T44 l0 x4_1).f0)) ∧ w'.cell? ⟨(ad1003.add ((x4_1).toNat * 3)).block, (ad1003.add ((x4_1).toNat * 3)).off + 1, none⟩ = some (.int .u64 ((rd_T44 l0 x4_1).f1.f0)) ∧ w'.cell? ⟨(ad1003.add ((x4_1).toNat * 3)).block, (ad1003.add ((x4_1).toNat * 3)).off + 2, none⟩ = some (.int .u64 ((rd_T44 l0 x4_1).f1.f1))) (ds := []) #[false, false, false, false, false, false, false, false, false, false, false, false, false, false, false, false] (by kernel_rfl) rfl rfl ⟨hx1002_0, hx1002_1, hx1002_2, ((HB.out.cell (World.block_lt_of_cell? w _ hw1003_0)).trans hw1003_0), ((HB.out.cell (World.block_lt_of_cell? w _ hw1003_1)).trans hw1003_1), ((HB.out.cell (World.block_lt_of_cell? w _ hw1003_2)).trans hw1003_2)⟩ (fun hHeld => ?_); refine with_tabW paymasterref10_Sort.tab6 paymasterref10_Sort.bits6 (fun HT_ HW_ => ?_); generalize wr.drew = w11 at HO_3 HB hx1002_0 hx1002_1 hx1002_2 hx1003_0 hx1003_1 hx1003_2 hHeld ⊢; refine pure_ (i := 0) (N := some 15) (v := ?_) (a' := ?_) #[true, false, false, false, false, false, false, false, false, false, false, false, false, false, false, false] rfl rfl (any_of HT_.out (by kernel_rfl)) (fun _ _ _ h => h) (Or.inl ⟨zvv, ?_⟩) ?_ ?_; rotate_left
            ·intro w'; go_simp; with_reducible rfl
            rotate_left
            ·simp only [Act.put, zsa, zsb, zsc, i64_w, i32_w]; rfl
            refine pure_ (i := 1) (N := some 16) (v := ?_) (a' := ?_) #[true, true, false, false, false, false, false, false, false, false, false, false, false, false, false, false] rfl rfl (any_of HT_.out (by kernel_rfl)) (fun _ _ _ h => h) (Or.inl ⟨zvv, ?_⟩) ?_ ?_; rotate_left
            ·intro w'; go_simp; with_reducible rfl
            rotate_left
            ·simp only [Act.put, zsa, zsb, zsc, i64_w, i32_w]; rfl
            refine pure_ (i := 2) (N := some 17) (v := ?_) (a' := ?_) #[true, true, true, false, false, false, false, false, false, false, false, false, false, false, false, false] rfl rfl (any_of HT_.out (by kernel_rfl)) (fun _ _ _ h => h) (Or.inl ⟨zvv, ?_⟩) ?_ ?_; rotate_left
            ·intro w'; go_simp; with_reducible rfl
            rotate_left
            ·simp only [Act.put, zsa, zsb, zsc, i64_w, i32_w]; rfl
            refine pure_ (i := 3) (N := some 18) (v := ?_) (a' := ?_) #[true, true, true, true, false, false, false, false, false, false, false, false, false, false, false, false] rfl rfl (any_of HT_.out (by kernel_rfl)) (fun _ _ _ h => h) (Or.inl ⟨zvv, ?_⟩) ?_ ?_; rotate_left
            ·intro w'; go_simp; with_reducible rfl
            rotate_left
            ·simp only [Act.put, zsa, zsb, zsc, i64_w, i32_w]; rfl
            refine pure_ (i := 4) (N := some 19) (v := ?_) (a' := ?_) #[true, true, true, true, true, false, false, false, false, false, false, false, false, false, false, false] rfl rfl (any_of HT_.out (by kernel_rfl)) (fun _ _ _ h => h) (Or.inl ⟨zvv, ?_⟩) ?_ ?_; rotate_left
            ·intro w'; go_simp; with_reducible rfl
            rotate_left
            ·simp only [Act.put, zsa, zsb, zsc, i64_w, i32_w]; rfl
            refine pure_ (i := 5) (N := some 20) (v := ?_) (a' := ?_) #[true, true, true, true, true, true, false, false, false, false, false, false, false, false, false, false] rfl rfl (any_of HT_.out (by kernel_rfl)) (fun _ _ _ h => h) (Or.inl ⟨zvv, ?_⟩) ?_ ?_; rotate_left
            ·intro w'; go_simp; with_reducible rfl
            rotate_left
            ·simp only [Act.put, zsa, zsb, zsc, i64_w, i32_w]; rfl
            refine pure_ (i := 6) (N := some 21) (v := ?_) (a' := ?_) #[true, true, true, true, true, true, true, false, false, false, false, false, false, false, false, false] rfl rfl (any_of HT_.out (by kernel_rfl)) (fun _ _ _ h => h) (Or.inl ⟨zvv, ?_⟩) ?_ ?_; rotate_left
            ·intro w'; go_simp; with_reducible rfl
            rotate_left
            ·simp only [Act.put, zsa, zsb, zsc, i64_w, i32_w]; rfl
            refine pure_ (i := 7) (N := some 22) (v := ?_) (a' := ?_) #[true, true, true, true, true, true, true, true, false, false, false, false, false, false, false, false] rfl rfl (any_of HT_.out (by kernel_rfl)) (fun _ _ _ h => h) (Or.inl ⟨zvv, ?_⟩) ?_ ?_; rotate_left
            ·intro w'; go_simp; with_reducible rfl
            rotate_left
            ·simp only [Act.put, zsa, zsb, zsc, i64_w, i32_w]; rfl
            refine pure_ (i := 9) (N := some 24) (v := ?_) (a' := ?_) #[true, true, true, true, true, true, true, true, false, true, false, false, false, false, false, false] rfl rfl (any_of HT_.out (by kernel_rfl)) (fun _ _ _ h => h) (Or.inl ⟨zvv, ?_⟩) ?_ ?_; rotate_left
            ·intro w'; go_simp; with_reducible rfl
            rotate_left
            ·simp only [Act.put, zsa, zsb, zsc, i64_w, i32_w]; rfl
            refine pure_ (i := 10) (N := some 25) (v := ?_) (a' := ?_) #[true, true, true, true, true, true, true, true, false, true, true, false, false, false, false, false] rfl rfl (any_of HT_.out (by kernel_rfl)) (fun _ _ _ h => h) (Or.inl ⟨zvv, ?_⟩) ?_ ?_; rotate_left
            ·intro w'; go_simp; with_reducible rfl
            rotate_left
            ·simp only [Act.put, zsa, zsb, zsc, i64_w, i32_w]; rfl
            refine pure_ (i := 11) (N := some 26) (v := ?_) (a' := ?_) #[true, true, true, true, true, true, true, true, false, true, true, true, false, false, false, false] rfl rfl (any_of HT_.out (by kernel_rfl)) (fun _ _ _ h => h) (Or.inl ⟨zvv, ?_⟩) ?_ ?_; rotate_left
            ·intro w'; go_simp; with_reducible rfl
            rotate_left
            ·simp only [Act.put, zsa, zsb, zsc, i64_w, i32_w]; rfl
            refine pure_ (i := 12) (N := some 27) (v := ?_) (a' := ?_) #[true, true, true, true, true, true, true, true, false, true, true, true, true, false, false, false] rfl rfl (any_of HT_.out (by kernel_rfl)) (fun _ _ _ h => h) (Or.inl ⟨zvv, ?_⟩) ?_ ?_; rotate_left
            ·intro w'; go_simp; with_reducible rfl
            rotate_left
            ·simp only [Act.put, zsa, zsb, zsc, i64_w, i32_w]; rfl
            refine take_ (i := 8) (N := some 23) (v := ?_) (a' := ?_) #[true, true, true, true, true, true, true, true, true, true, true, true, true, false, false, false] rfl rfl (zRA HT_.out HW_.out (by kernel_rfl)) (fun _ _ _ h => h) (Or.inl ⟨zvv, ?_⟩) hHeld ?_ ?_; rotate_left
            ·rintro w' ⟨s0, s1, s2, s3, s4, s5⟩; go_simp; with_reducible rfl
            rotate_left
            ·simp only [Act.put, zsa, zsb, zsc, i64_w, i32_w]; rfl
            refine take_ (i := 13) (N := some 28) (v := ?_) (a' := ?_) #[true, true, true, true, true, true, true, true, true, true, true, true, true, true, false, false] rfl rfl (zRA HT_.out HW_.out (by kernel_rfl)) (fun _ _ _ h => h) (Or.inl ⟨zvv, ?_⟩) hHeld ?_ ?_; rotate_left
            ·rintro w' ⟨s0, s1, s2, s3, s4, s5⟩; go_simp; with_reducible rfl
            rotate_left
            ·simp only [Act.put, zsa, zsb, zsc, i64_w, i32_w]; rfl
            refine pure_ (i := 14) (N := some 29) (v := ?_) (a' := ?_) #[true, true, true, true, true, true, true, true, true, true, true, true, true, true, true, false] rfl rfl (any_of HT_.out (by kernel_rfl)) (fun _ _ _ h => h) (Or.inl ⟨zvv, ?_⟩) ?_ ?_; rotate_left
            ·intro w'; go_simp; with_reducible rfl
            rotate_left
            ·simp only [Act.put, zsa, zsb, zsc, i64_w, i32_w]; rfl
            refine pure_ (i := 15) (N := some 30) (v := ?_) (a' := ?_) #[true, true, true, true, true, true, true, true, true, true, true, true, true, true, true, true] rfl rfl (any_of HT_.out (by kernel_rfl)) (fun _ _ _ h => h) (Or.inl ⟨zvv, ?_⟩) ?_ ?_; rotate_left
            ·intro w'; go_simp; with_reducible rfl
            rotate_left
            ·simp only [Act.put, zsa, zsb, zsc, i64_w, i32_w]; rfl
            refine done_ (done_of HT_.out (by kernel_rfl)) ?_; try go_wp2
            go_roundg k2
            case measure => have := HK1.out; have := HK2.out; omega
            case rel => exact ⟨(ji5), (by first | rfl | (simp; done) | (simp only [← hji5] <;> (first | rfl | simp)) | (simp [*]; done)), H', ⟨zv2x⟩, ⟨zv1c⟩, ⟨zv0⟩⟩
           ·rw [if_neg c10] at H; have c10b0 : (Op.bytesLess (((rd_T44 l0 x4_1).f0).toList) (((rd_T44 x3_1 (ji5)).f0).toList)) = false := by simpa using c10
            clear c10; obtain ⟨y1004, hy1004⟩ : ∃ y_ : List (S44), y_ = (([] : List (S44))) := ⟨_, rfl⟩
            replace H : (if 0 ≤ x5_2 then (if x5_2 ≤ (x3_1.length : Int) then ((some (x3_1.drop (x5_2 : Int).toNat : List (S44))).bind fun y1007 => (if y1004.length + y1007.length < 4398046511104 then ((some (y1004 ++ y1007 : List (S44))).bind fun y1011 => ((some (x3_1.take (x5_2 : Int).toNat : List (S44))).bind fun y1014 => (if y1014.length < 4398046511104 then ((some (y1014 ++ [(⟨(rd_T44 l0 x4_1).f0, (⟨(rd_T44 l0 x4_1).f1.f0, (rd_T44 l0 x4_1).f1.f1⟩ : S42)⟩ : S44)] : List (S44))).bind fun y1018 => (if y1018.length + y1011.length < 4398046511104 then (paymasterref10_Sort.l0 k2 l0 (y1018 ++ y1011) (wrap64 (x4_1 + 1))) else (none))) else (none)))) else (none))) else (none)) else (none)) = some r := by first | (rw [hy1004]; with_reducible exact H) | (have H2_ := (Option.bind_some _ _).symm.trans H; rw [hy1004]; with_reducible exact H2_) | (have H2_ := (Option.bind_some _ _).symm.trans H; with_reducible exact H2_) | with_reducible exact H | (rw [hy1004]; exact H) | exact H
            have Ny1004 := Aside0.mk hy1004; clear hy1004
            by_cases c12 : 0 ≤ x5_2
            ·rw [if_pos c12] at H; have c12b0 := eq_true c12; have c12b1 : decide (0 ≤ x5_2) = true := decide_eq_true c12; clear c12
             by_cases c13 : x5_2 ≤ (x3_1.length : Int)
             ·rw [if_pos c13] at H; have c13b0 := eq_true c13; have c13b1 : decide (x5_2 ≤ (x3_1.length : Int)) = true := decide_eq_true c13; clear c13; obtain ⟨y1007, hy1007⟩ : ∃ y_ : List (S44), y_ = (x3_1.drop (x5_2 : Int).toNat) := ⟨_, rfl⟩
              replace H : (if y1004.length + y1007.length < 4398046511104 then ((some (y1004 ++ y1007 : List (S44))).bind fun y1011 => ((some (x3_1.take (x5_2 : Int).toNat : List (S44))).bind fun y1014 => (if y1014.length < 4398046511104 then ((some (y1014 ++ [(⟨(rd_T44 l0 x4_1).f0, (⟨(rd_T44 l0 x4_1).f1.f0, (rd_T44 l0 x4_1).f1.f1⟩ : S42)⟩ : S44)] : List (S44))).bind fun y1018 => (if y1018.length + y1011.length < 4398046511104 then (paymasterref10_Sort.l0 k2 l0 (y1018 ++ y1011) (wrap64 (x4_1 + 1))) else (none))) else (none)))) else (none)) = some r := by first | (rw [hy1007]; with_reducible exact H) | (have H2_ := (Option.bind_some _ _).symm.trans H; rw [hy1007]; with_reducible exact H2_) | (have H2_ := (Option.bind_some _ _).symm.trans H; with_reducible exact H2_) | with_reducible exact H | (rw [hy1007]; exact H) | exact H
              have Ny1007 := Aside0.mk hy1007; clear hy1007
              by_cases c14 : y1004.length + y1007.length < 4398046511104
              ·rw [if_pos c14] at H; have LMc14 := Aside0.mk c14; clear c14; obtain ⟨y1011, hy1011⟩ : ∃ y_ : List (S44), y_ = (y1004 ++ y1007) := ⟨_, rfl⟩
               replace H : ((some (x3_1.take (x5_2 : Int).toNat : List (S44))).bind fun y1014 => (if y1014.length < 4398046511104 then ((some (y1014 ++ [(⟨(rd_T44 l0 x4_1).f0, (⟨(rd_T44 l0 x4_1).f1.f0, (rd_T44 l0 x4_1).f1.f1⟩ : S42)⟩ : S44)] : List (S44))).bind fun y1018 => (if y1018.length + y1011.length < 4398046511104 then (paymasterref10_Sort.l0 k2 l0 (y1018 ++ y1011) (wrap64 (x4_1 + 1))) else (none))) else (none))) = some r := by first | (rw [hy1011]; with_reducible exact H) | (have H2_ := (Option.bind_some _ _).symm.trans H; rw [hy1011]; with_reducible exact H2_) | (have H2_ := (Option.bind_some _ _).symm.trans H; with_reducible exact H2_) | with_reducible exact H | (rw [hy1011]; exact H) | exact H
               have Ny1011 := Aside0.mk hy1011; clear hy1011; have c15b0 := eq_true (of_decide_eq_true zv6 : x5_2 ≤ (x3_1.length : Int)); obtain ⟨y1014, hy1014⟩ : ∃ y_ : List (S44), y_ = (x3_1.take (x5_2 : Int).toNat) := ⟨_, rfl⟩
               replace H : (if y1014.length < 4398046511104 then ((some (y1014 ++ [(⟨(rd_T44 l0 x4_1).f0, (⟨(rd_T44 l0 x4_1).f1.f0, (rd_T44 l0 x4_1).f1.f1⟩ : S42)⟩ : S44)] : List (S44))).bind fun y1018 => (if y1018.length + y1011.length < 4398046511104 then (paymasterref10_Sort.l0 k2 l0 (y1018 ++ y1011) (wrap64 (x4_1 + 1))) else (none))) else (none)) = some r := by first | (rw [hy1014]; with_reducible exact H) | (have H2_ := (Option.bind_some _ _).symm.trans H; rw [hy1014]; with_reducible exact H2_) | (have H2_ := (Option.bind_some _ _).symm.trans H; with_reducible exact H2_) | with_reducible exact H | (rw [hy1014]; exact H) | exact H
               have Ny1014 := Aside0.mk hy1014; clear hy1014
               by_cases c16 : y1014.length < 4398046511104
               ·rw [if_pos c16] at H; have LMc16 := Aside0.mk c16; clear c16; obtain ⟨y1018, hy1018⟩ : ∃ y_ : List (S44), y_ = (y1014 ++ [(⟨(rd_T44 l0 x4_1).f0, (⟨(rd_T44 l0 x4_1).f1.f0, (rd_T44 l0 x4_1).f1.f1⟩ : S42)⟩ : S44)]) := ⟨_, rfl⟩
                replace H : (if y1018.length + y1011.length < 4398046511104 then (paymasterref10_Sort.l0 k2 l0 (y1018 ++ y1011) (wrap64 (x4_1 + 1))) else (none)) = some r := by first | (rw [hy1018]; with_reducible exact H) | (have H2_ := (Option.bind_some _ _).symm.trans H; rw [hy1018]; with_reducible exact H2_) | (have H2_ := (Option.bind_some _ _).symm.trans H; with_reducible exact H2_) | with_reducible exact H | (rw [hy1018]; exact H) | exact H
                have Ny1018 := Aside0.mk hy1018; clear hy1018
                by_cases c17 : y1018.length + y1011.length < 4398046511104
                ·rw [if_pos c17] at H; have LMc17 := Aside0.mk c17; clear c17; obtain ⟨y1021, hy1021⟩ : ∃ y_ : List (S44), y_ = (y1018 ++ y1011) := ⟨_, rfl⟩
                 replace H : (paymasterref10_Sort.l0 k2 l0 y1021 (wrap64 (x4_1 + 1))) = some r := by first | (rw [hy1021]; with_reducible exact H) | (have H2_ := (Option.bind_some _ _).symm.trans H; rw [hy1021]; with_reducible exact H2_) | (have H2_ := (Option.bind_some _ _).symm.trans H; with_reducible exact H2_) | with_reducible exact H | (rw [hy1021]; exact H) | exact H
                 have Ny1021 := Aside0.mk hy1021; clear hy1021; have H' := Aside0.mk H; clear H; try go_wp2
                 have n0_ := Aside0.mk (Kd.R_drew HO_3.out); have n1_ := Aside0.mk (zRj HB.out); clear HO_3; clear HB; have HO_3 := n0_; have HB := n1_; clear n0_ n1_; have p1002 : 0 ≤ ((ji5) : Int) := of_decide_eq_true zv6; have q1002 : (ji5) < (x3_1.length : Int) := of_decide_eq_true zv6; obtain ⟨ad1002, e1002, hx1002_0, hx1002_1, hx1002_2⟩ := at_T44 (Kd.R_reads' HO_3.out).2.2 (ji5) p1002 q1002; cases e1002; replace p1002 := eq_true p1002; replace q1002 := eq_true q1002; have p1003 : 0 ≤ (x4_1 : Int) := of_decide_eq_true zv6; have q1003 : x4_1 < (l0.length : Int) := of_decide_eq_true zv6; obtain ⟨ad1003, e1003, hx1003_0, hx1003_1, hx1003_2⟩ := at_T44 HR0.out x4_1 p1003 q1003; have hw1003_2 := hx1003_2; have hw1003_1 := hx1003_1; have hw1003_0 := hx1003_0; cases e1003; replace hx1003_0 := (HB.out.cell (World.block_lt_of_cell? w _ hx1003_0)).trans hx1003_0; replace hx1003_1 := (HB.out.cell (World.block_lt_of_cell? w _ hx1003_1)).trans hx1003_1; replace hx1003_2 := (HB.out.cell (World.block_lt_of_cell? w _ hx1003_2)).trans hx1003_2; replace p1003 := eq_true p1003; replace q1003 := eq_true q1003; refine start_ (n := 16) (S := fun w' => w'.cell? (ad1002.add (((ji5)).toNat * 3)) = some (.string ((rd_T44 x3_1 (ji5)).f0)) ∧ w'.cell? ⟨(ad1002.add (((ji5)).toNat * 3)).block, (ad1002.add (((ji5)).toNat * 3)).off + 1, none⟩ = some (.int .u64 ((rd_T44 x3_1 (ji5)).f1.f0)) ∧ w'.cell? ⟨(ad1002.add (((ji5)).toNat * 3)).block, (ad1002.add (((ji5)).toNat * 3)).off + 2, none⟩ = some (.int .u64 ((rd_T44 x3_1 (ji5)).f1.f1)) ∧ w'.cell? (ad1003.add ((x4_1).toNat * 3)) = some (.string ((rd_T44 l0 x4_1).f0)) ∧ w'.cell? ⟨(ad1003.add ((x4_1).toNat * 3)).block, (ad1003.add ((x4_1).toNat * 3)).off + 1, none⟩ = some (.int .u64 ((rd_T44 l0 x4_1).f1.f0)) ∧ w'.cell? ⟨(ad1003.add ((x4_1).toNat * 3)).block, (ad1003.add ((x4_1).toNat * 3)).off + 2, none⟩ = some (.int .u64 ((rd_T44 l0 x4_1).f1.f1))) (ds := []) #[false, false, false, false, false, false, false, false, false, false, false, false, false, false, false, false] (by kernel_rfl) rfl rfl ⟨hx1002_0, hx1002_1, hx1002_2, ((HB.out.cell (World.block_lt_of_cell? w _ hw1003_0)).trans hw1003_0), ((HB.out.cell (World.block_lt_of_cell? w _ hw1003_1)).trans hw1003_1), ((HB.out.cell (World.block_lt_of_cell? w _ hw1003_2)).trans hw1003_2)⟩ (fun hHeld => ?_); refine with_tabW paymasterref10_Sort.tab6 paymasterref10_Sort.bits6 (fun HT_ HW_ => ?_); generalize wr.drew = w18 at HO_3 HB hx1002_0 hx1002_1 hx1002_2 hx1003_0 hx1003_1 hx1003_2 hHeld ⊢; refine pure_ (i := 0) (N := some 15) (v := ?_) (a' := ?_) #[true, false, false, false, false, false, false, false, false, false, false, false, false, false, false, false] rfl rfl (any_of HT_.out (by kernel_rfl)) (fun _ _ _ h => h) (Or.inl ⟨zvv, ?_⟩) ?_ ?_; rotate_left
                 ·intro w'; go_simp; with_reducible rfl
                 rotate_left
                 ·simp only [Act.put, zsa, zsb, zsc, i64_w, i32_w]; rfl
                 refine pure_ (i := 1) (N := some 16) (v := ?_) (a' := ?_) #[true, true, false, false, false, false, false, false, false, false, false, false, false, false, false, false] rfl rfl (any_of HT_.out (by kernel_rfl)) (fun _ _ _ h => h) (Or.inl ⟨zvv, ?_⟩) ?_ ?_; rotate_left
                 ·intro w'; go_simp; with_reducible rfl
                 rotate_left
                 ·simp only [Act.put, zsa, zsb, zsc, i64_w, i32_w]; rfl
                 refine pure_ (i := 2) (N := some 17) (v := ?_) (a' := ?_) #[true, true, true, false, false, false, false, false, false, false, false, false, false, false, false, false] rfl rfl (any_of HT_.out (by kernel_rfl)) (fun _ _ _ h => h) (Or.inl ⟨zvv, ?_⟩) ?_ ?_; rotate_left
                 ·intro w'; go_simp; with_reducible rfl
                 rotate_left
                 ·simp only [Act.put, zsa, zsb, zsc, i64_w, i32_w]; rfl
                 refine pure_ (i := 3) (N := some 18) (v := ?_) (a' := ?_) #[true, true, true, true, false, false, false, false, false, false, false, false, false, false, false, false] rfl rfl (any_of HT_.out (by kernel_rfl)) (fun _ _ _ h => h) (Or.inl ⟨zvv, ?_⟩) ?_ ?_; rotate_left
                 ·intro w'; go_simp; with_reducible rfl
                 rotate_left
                 ·simp only [Act.put, zsa, zsb, zsc, i64_w, i32_w]; rfl
                 refine pure_ (i := 4) (N := some 19) (v := ?_) (a' := ?_) #[true, true, true, true, true, false, false, false, false, false, false, false, false, false, false, false] rfl rfl (any_of HT_.out (by kernel_rfl)) (fun _ _ _ h => h) (Or.inl ⟨zvv, ?_⟩) ?_ ?_; rotate_left
                 ·intro w'; go_simp; with_reducible rfl
                 rotate_left
                 ·simp only [Act.put, zsa, zsb, zsc, i64_w, i32_w]; rfl
                 refine pure_ (i := 5) (N := some 20) (v := ?_) (a' := ?_) #[true, true, true, true, true, true, false, false, false, false, false, false, false, false, false, false] rfl rfl (any_of HT_.out (by kernel_rfl)) (fun _ _ _ h => h) (Or.inl ⟨zvv, ?_⟩) ?_ ?_; rotate_left
                 ·intro w'; go_simp; with_reducible rfl
                 rotate_left
                 ·simp only [Act.put, zsa, zsb, zsc, i64_w, i32_w]; rfl
                 refine pure_ (i := 6) (N := some 21) (v := ?_) (a' := ?_) #[true, true, true, true, true, true, true, false, false, false, false, false, false, false, false, false] rfl rfl (any_of HT_.out (by kernel_rfl)) (fun _ _ _ h => h) (Or.inl ⟨zvv, ?_⟩) ?_ ?_; rotate_left
                 ·intro w'; go_simp; with_reducible rfl
                 rotate_left
                 ·simp only [Act.put, zsa, zsb, zsc, i64_w, i32_w]; rfl
                 refine pure_ (i := 7) (N := some 22) (v := ?_) (a' := ?_) #[true, true, true, true, true, true, true, true, false, false, false, false, false, false, false, false] rfl rfl (any_of HT_.out (by kernel_rfl)) (fun _ _ _ h => h) (Or.inl ⟨zvv, ?_⟩) ?_ ?_; rotate_left
                 ·intro w'; go_simp; with_reducible rfl
                 rotate_left
                 ·simp only [Act.put, zsa, zsb, zsc, i64_w, i32_w]; rfl
                 refine pure_ (i := 9) (N := some 24) (v := ?_) (a' := ?_) #[true, true, true, true, true, true, true, true, false, true, false, false, false, false, false, false] rfl rfl (any_of HT_.out (by kernel_rfl)) (fun _ _ _ h => h) (Or.inl ⟨zvv, ?_⟩) ?_ ?_; rotate_left
                 ·intro w'; go_simp; with_reducible rfl
                 rotate_left
                 ·simp only [Act.put, zsa, zsb, zsc, i64_w, i32_w]; rfl
                 refine pure_ (i := 10) (N := some 25) (v := ?_) (a' := ?_) #[true, true, true, true, true, true, true, true, false, true, true, false, false, false, false, false] rfl rfl (any_of HT_.out (by kernel_rfl)) (fun _ _ _ h => h) (Or.inl ⟨zvv, ?_⟩) ?_ ?_; rotate_left
                 ·intro w'; go_simp; with_reducible rfl
                 rotate_left
                 ·simp only [Act.put, zsa, zsb, zsc, i64_w, i32_w]; rfl
                 refine pure_ (i := 11) (N := some 26) (v := ?_) (a' := ?_) #[true, true, true, true, true, true, true, true, false, true, true, true, false, false, false, false] rfl rfl (any_of HT_.out (by kernel_rfl)) (fun _ _ _ h => h) (Or.inl ⟨zvv, ?_⟩) ?_ ?_; rotate_left
                 ·intro w'; go_simp; with_reducible rfl
                 rotate_left
                 ·simp only [Act.put, zsa, zsb, zsc, i64_w, i32_w]; rfl
                 refine pure_ (i := 12) (N := some 27) (v := ?_) (a' := ?_) #[true, true, true, true, true, true, true, true, false, true, true, true, true, false, false, false] rfl rfl (any_of HT_.out (by kernel_rfl)) (fun _ _ _ h => h) (Or.inl ⟨zvv, ?_⟩) ?_ ?_; rotate_left
                 ·intro w'; go_simp; with_reducible rfl
                 rotate_left
                 ·simp only [Act.put, zsa, zsb, zsc, i64_w, i32_w]; rfl
                 refine take_ (i := 8) (N := some 23) (v := ?_) (a' := ?_) #[true, true, true, true, true, true, true, true, true, true, true, true, true, false, false, false] rfl rfl (zRA HT_.out HW_.out (by kernel_rfl)) (fun _ _ _ h => h) (Or.inl ⟨zvv, ?_⟩) hHeld ?_ ?_; rotate_left
                 ·rintro w' ⟨s0, s1, s2, s3, s4, s5⟩; go_simp; with_reducible rfl
                 rotate_left
                 ·simp only [Act.put, zsa, zsb, zsc, i64_w, i32_w]; rfl
                 refine take_ (i := 13) (N := some 28) (v := ?_) (a' := ?_) #[true, true, true, true, true, true, true, true, true, true, true, true, true, true, false, false] rfl rfl (zRA HT_.out HW_.out (by kernel_rfl)) (fun _ _ _ h => h) (Or.inl ⟨zvv, ?_⟩) hHeld ?_ ?_; rotate_left
                 ·rintro w' ⟨s0, s1, s2, s3, s4, s5⟩; go_simp; with_reducible rfl
                 rotate_left
                 ·simp only [Act.put, zsa, zsb, zsc, i64_w, i32_w]; rfl
                 refine pure_ (i := 14) (N := some 29) (v := ?_) (a' := ?_) #[true, true, true, true, true, true, true, true, true, true, true, true, true, true, true, false] rfl rfl (any_of HT_.out (by kernel_rfl)) (fun _ _ _ h => h) (Or.inl ⟨zvv, ?_⟩) ?_ ?_; rotate_left
                 ·intro w'; go_simp; with_reducible rfl
                 rotate_left
                 ·simp only [Act.put, zsa, zsb, zsc, i64_w, i32_w]; rfl
                 refine pure_ (i := 15) (N := some 30) (v := ?_) (a' := ?_) #[true, true, true, true, true, true, true, true, true, true, true, true, true, true, true, true] rfl rfl (any_of HT_.out (by kernel_rfl)) (fun _ _ _ h => h) (Or.inl ⟨zvv, ?_⟩) ?_ ?_; rotate_left
                 ·intro w'; go_simp; with_reducible rfl
                 rotate_left
                 ·simp only [Act.put, zsa, zsb, zsc, i64_w, i32_w]; rfl
                 refine done_ (done_of HT_.out (by kernel_rfl)) ?_; try go_wp2_with (first | ((with_reducible refine zRq (N := 33) rfl ?_); refine Kd.R_lit k44 _ 44 ?hg (N := 33) ?hd (xs := ([] : List (S44))) (inner := []) (ok := fun _ => True) (okp := fun _ => True) ?hr ?hp (fun _ hk => hk) trivial (Below.refl _ _) (Nat.le_refl _) zv10 ?_; (case hd => rfl); (case hg => rfl); (case hr => first | (go_simp; done) | (go_simp; rfl)); (case hp => exact (Reps.none _ _)); intro v1005 w19 ho20 hb hg_ hnew_; clear hg_ hnew_; (first | rw [← Ny1004.out] at ho20 | (simp only [Int.reduceToNat] at ho20; rw [← Ny1004.out] at ho20)); have n0_ := Aside0.mk (Kd.R_elder' (zqr HO_3.out) (Kd.R_base ho20) hb); have n1_ := Aside0.mk (Kd.R_lower (Kd.R_new' ho20 (Kd.R_lt (zqr HO_3.out))) (zRg zv0)); have n2_ := Aside0.mk (zRd zv0 hb); clear HO_3; clear HB; have HO_3 := n0_; have HO1006 := n1_; have HB := n2_; clear n0_ n1_ n2_; clear hb ho20; have q21 : (x5_2 : Int) ≤ ((x3_1.length : Int) : Int) := of_decide_eq_true zv6; obtain ⟨i021, hi021, _, hsz21, _⟩ := info_parts info44; have hroom21 : x3_1.length ≤ co3 := (Kd.R_reads' HO_3.out).2.1; have hC21 : Kd.C k44 _ (some ad1002) x3_1.length x3_1 := (Kd.R_reads' HO_3.out).2.2; have q021 : (0 : Int) ≤ (x5_2 : Int) := of_decide_eq_true zv6; have hcut21 := cut_from (P := Tryd.prog) 34 44 .i64 Tryd.underlying34 hi021 3 hsz21 (some ad1002) x3_1.length co3 x5_2 q021 q21; have hr21 := Kd.C_drop (m := (x5_2 : Int).toNat) (c := co3) hC21 zv1 hroom21; obtain ⟨A21, hA21⟩ : ∃ A1, A1 = (if co3 = (x5_2 : Int).toNat then (some ad1002) else ((some ad1002) : Option Addr).map (·.add ((x5_2 : Int).toNat * 3))) := ⟨_, rfl⟩; obtain ⟨c21, hc21⟩ : ∃ c1, c1 = co3 - (x5_2 : Int).toNat := ⟨_, rfl⟩; have hy21 : y1007.length = x3_1.length - (x5_2 : Int).toNat := (by rw [Ny1007.out, List.length_drop] <;> omega); rw [show (x3_1).drop (x5_2 : Int).toNat = y1007 from Ny1007.out.symm] at hr21; replace hr21 : Kd.C k44 _ A21 y1007.length y1007 := (by rw [hA21]; exact hr21); rw [← hy21, ← hA21, ← hc21] at hcut21; have HR1010 := Aside0.mk hr21; have HC1010 := Aside0.mk (show y1007.length ≤ c21 from by rw [hy21, hc21]; exact Nat.sub_le_sub_right hroom21 _); clear hr21 hC21 hroom21 hi021 hsz21 hc21; have KY21 := Aside0.mk hy21; have KA21 := Aside0.mk hA21; clear hy21 hA21; have KL21 := Aside0.mk (show (x5_2 : Int).toNat ≤ x3_1.length from by omega); replace q21 := eq_true q21) | ((with_reducible refine gate_builtin (b := .append) (xs := #[.tmp 33, .tmp 36]) rfl ?_); at_builtin; refine Kd.R_append_rows k44 (w0 := w) w.heap.size rfl (.tmp 33) (.tmp 36) 34 44 (.agg #[(.string ⟨#[]⟩), (.int .u64 0), (.int .u64 0)]) 32 rfl Tryd.underlying34 info44 rfl zvz zv1 v1005 y1004 y1007 _ _ _ (fun k_ => some k_ ≠ (.slice (some ad1002) x3_1.length co3 : Value).ownBlock) (fun _ => False) rfl rfl ?aO ?aR (fun _ _ h => h) (fun _ h => h.elim) ?aF ?aB ?aS ?aL ?_; (case aR => repeat (first | exact (by repeat (first | (with_reducible exact HR1010.out) | (with_reducible refine Kd.C_alloc ?_ _) | (with_reducible refine Kd.C_drewN ?_ _) | (with_reducible refine Kd.C_drew ?_) | exact HR1010.out)) | (with_reducible refine Kd.C_alloc ?_ _) | (with_reducible refine Kd.C_drewN ?_ _) | (with_reducible refine Kd.C_drew ?_))); (case aB => exact zv0); (case aF => exact (fun k_ hk => Kd.fresh' (Kd.R_lt (zqr HO_3.out)) k_ hk)); (case aO => exact (by (with_reducible repeat (first | apply Kd.R_alloc | apply Kd.R_drewN | apply Kd.R_drew)); exact Kd.R_mono HO1006.out (fun _ hk => hk.2))); (case aS => exact (zRg zv0)); (case aL => have := LMc14.out; omega); intro v1012 w22 ho hb hg hat; rw [← Ny1011.out] at ho; have n0_ := Aside0.mk (Kd.R_after (ok := (fun _ => True)) (zqr HO_3.out) hg hat); have n1_ := Aside0.mk (hb); have n2_ := Aside0.mk ((show Kd.C k44 w22 A21 y1007.length y1007 from by rw [Ny1007.out, KA21.out]; exact Kd.C_drop (m := (x5_2 : Int).toNat) (c := co3) ((Kd.R_reads' (Kd.R_after (ok := (fun _ => True)) (zqr HO_3.out) hg hat)).2.2) KL21.out ((Kd.R_reads' (Kd.R_after (ok := (fun _ => True)) (zqr HO_3.out) hg hat)).2.1))); have n3_ := Aside0.mk (ho); clear HO_3; clear HB; clear HR1010; clear HO1006; have HO_3 := n0_; have HB := n1_; have HR1010 := n2_; have HO1013 := n3_; clear n0_ n1_ n2_ n3_; clear ho hb hg hat))
                 have n0_ := Aside0.mk (Kd.R_drew HO_3.out); have n1_ := Aside0.mk (Kd.R_drew HO1013.out); have n2_ := Aside0.mk (Kd.C_drew HR1010.out); have n3_ := Aside0.mk (zRj HB.out); clear HO_3; clear HO1013; clear HR1010; clear HB; have HO_3 := n0_; have HO1013 := n1_; have HR1010 := n2_; have HB := n3_; clear n0_ n1_ n2_ n3_; have q24 : (x5_2 : Int) ≤ ((x3_1.length : Int) : Int) := of_decide_eq_true zv6; obtain ⟨i024, hi024, _, hsz24, _⟩ := info_parts info44; have hcut24 := cut_to (P := Tryd.prog) 34 44 .i64 Tryd.underlying34 hi024 (some ad1002) x3_1.length co3 x5_2 (of_decide_eq_true zv6) q24 (Kd.R_reads' HO_3.out).2.1; have hr24 := Kd.R_take (m := (x5_2 : Int).toNat) HO_3.out zv1; have hy24 : y1014.length = (x5_2 : Int).toNat := (by rw [Ny1014.out, List.length_take]; omega)
                 rw [← Ny1014.out] at hr24; rw [← hy24] at hr24 hcut24; clear hy24 hi024 hsz24 HO_3; have HO1016 := Aside0.mk hr24; clear hr24; replace q24 := eq_true q24; have p1017 : 0 ≤ (x4_1 : Int) := of_decide_eq_true zv6; have q1017 : x4_1 < (l0.length : Int) := of_decide_eq_true zv6; obtain ⟨ad1017, e1017, hx1017_0, hx1017_1, hx1017_2⟩ := at_T44 HR0.out x4_1 p1017 q1017; have hw1017_2 := hx1017_2; have hw1017_1 := hx1017_1; have hw1017_0 := hx1017_0; obtain rfl : ad1003 = ad1017 := (by injection e1017)
                 replace hx1017_0 := (HB.out.cell (World.block_lt_of_cell? w _ hx1017_0)).trans hx1017_0; replace hx1017_1 := (HB.out.cell (World.block_lt_of_cell? w _ hx1017_1)).trans hx1017_1; replace hx1017_2 := (HB.out.cell (World.block_lt_of_cell? w _ hx1017_2)).trans hx1017_2; replace p1017 := eq_true p1017; replace q1017 := eq_true q1017; refine start_ (n := 12) (S := fun w' => w'.cell? (ad1003.add ((x4_1).toNat * 3)) = some (.string ((rd_T44 l0 x4_1).f0)) ∧ w'.cell? ⟨(ad1003.add ((x4_1).toNat * 3)).block, (ad1003.add ((x4_1).toNat * 3)).off + 1, none⟩ = some (.int .u64 ((rd_T44 l0 x4_1).f1.f0)) ∧ w'.cell? ⟨(ad1003.add ((x4_1).toNat * 3)).block, (ad1003.add ((x4_1).toNat * 3)).off + 2, none⟩ = some (.int .u64 ((rd_T44 l0 x4_1).f1.f1))) (ds := []) #[false, false, false, false, false, false, false, false, false, false, false, false] (by kernel_rfl) rfl rfl ⟨((HB.out.cell (World.block_lt_of_cell? w _ hw1017_0)).trans hw1017_0), ((HB.out.cell (World.block_lt_of_cell? w _ hw1017_1)).trans hw1017_1), ((HB.out.cell (World.block_lt_of_cell? w _ hw1017_2)).trans hw1017_2)⟩ (fun hHeld => ?_); refine with_tabW paymasterref10_Sort.tab9 paymasterref10_Sort.bits9 (fun HT_ HW_ => ?_); generalize w22.drew = w23 at HO_3 HO1013 HR1010 HB HO1016 hx1017_0 hx1017_1 hx1017_2 hHeld ⊢; refine pure_ (i := 0) (N := some 38) (v := ?_) (a' := ?_) #[true, false, false, false, false, false, false, false, false, false, false, false] rfl rfl (any_of HT_.out (by kernel_rfl)) (fun _ _ _ h => h) (Or.inl ⟨zvv, ?_⟩) ?_ ?_; rotate_left
                 ·intro w'; go_simp; with_reducible rfl
                 rotate_left
                 ·simp only [Act.put, zsa, zsb, zsc, i64_w, i32_w]; rfl
                 refine pure_ (i := 1) (N := some 39) (v := ?_) (a' := ?_) #[true, true, false, false, false, false, false, false, false, false, false, false] rfl rfl (any_of HT_.out (by kernel_rfl)) (fun _ _ _ h => h) (Or.inl ⟨zvv, ?_⟩) ?_ ?_; rotate_left
                 ·intro w'; go_simp; with_reducible rfl
                 rotate_left
                 ·simp only [Act.put, zsa, zsb, zsc, i64_w, i32_w]; rfl
                 refine pure_ (i := 2) (N := some 40) (v := ?_) (a' := ?_) #[true, true, true, false, false, false, false, false, false, false, false, false] rfl rfl (any_of HT_.out (by kernel_rfl)) (fun _ _ _ h => h) (Or.inl ⟨zvv, ?_⟩) ?_ ?_; rotate_left
                 ·intro w'; go_simp; with_reducible rfl
                 rotate_left
                 ·simp only [Act.put, zsa, zsb, zsc, i64_w, i32_w]; rfl
                 refine pure_ (i := 3) (N := some 41) (v := ?_) (a' := ?_) #[true, true, true, true, false, false, false, false, false, false, false, false] rfl rfl (any_of HT_.out (by kernel_rfl)) (fun _ _ _ h => h) (Or.inl ⟨zvv, ?_⟩) ?_ ?_; rotate_left
                 ·intro w'; go_simp; with_reducible rfl
                 rotate_left
                 ·simp only [Act.put, zsa, zsb, zsc, i64_w, i32_w]; rfl
                 refine pure_ (i := 4) (N := some 42) (v := ?_) (a' := ?_) #[true, true, true, true, true, false, false, false, false, false, false, false] rfl rfl (any_of HT_.out (by kernel_rfl)) (fun _ _ _ h => h) (Or.inl ⟨zvv, ?_⟩) ?_ ?_; rotate_left
                 ·intro w'; go_simp; with_reducible rfl
                 rotate_left
                 ·simp only [Act.put, zsa, zsb, zsc, i64_w, i32_w]; rfl
                 refine pure_ (i := 5) (N := some 43) (v := ?_) (a' := ?_) #[true, true, true, true, true, true, false, false, false, false, false, false] rfl rfl (any_of HT_.out (by kernel_rfl)) (fun _ _ _ h => h) (Or.inl ⟨zvv, ?_⟩) ?_ ?_; rotate_left
                 ·intro w'; go_simp; with_reducible rfl
                 rotate_left
                 ·simp only [Act.put, zsa, zsb, zsc, i64_w, i32_w]; rfl
                 refine pure_ (i := 9) (N := some 47) (v := ?_) (a' := ?_) #[true, true, true, true, true, true, false, false, false, true, false, false] rfl rfl (any_of HT_.out (by kernel_rfl)) (fun _ _ _ h => h) (Or.inl ⟨zvv, ?_⟩) ?_ ?_; rotate_left
                 ·intro w'; go_simp; with_reducible rfl
                 rotate_left
                 ·simp only [Act.put, zsa, zsb, zsc, i64_w, i32_w]; rfl
                 refine take_ (i := 6) (N := some 44) (v := ?_) (a' := ?_) #[true, true, true, true, true, true, true, false, false, true, false, false] rfl rfl (zRA HT_.out HW_.out (by kernel_rfl)) (fun _ _ _ h => h) (Or.inl ⟨zvv, ?_⟩) hHeld ?_ ?_; rotate_left
                 ·rintro w' ⟨s0, s1, s2⟩; go_simp; with_reducible rfl
                 rotate_left
                 ·simp only [Act.put, zsa, zsb, zsc, i64_w, i32_w]; rfl
                 refine one_ (i := 7) (N := some 45) #[true, true, true, true, true, true, true, true, false, true, false, false] rfl rfl (one_of HT_.out (by kernel_rfl)) zvz (fun K hK => ?_); refine value_ (w1 := ?_) (v := ?_) zvv rfl ?_ ?_; rotate_left 2
                 ·go_simp
                  constructor
                  ·rfl
                  ·rfl
                 refine hK.out _ _ ⟨(World.cell?_alloc_lt _ _ _ (World.block_lt_of_cell? _ _ (((HB.out.cell (World.block_lt_of_cell? w _ hw1017_0)).trans hw1017_0)))).trans (((HB.out.cell (World.block_lt_of_cell? w _ hw1017_0)).trans hw1017_0)), (World.cell?_alloc_lt _ _ _ (World.block_lt_of_cell? _ _ (((HB.out.cell (World.block_lt_of_cell? w _ hw1017_1)).trans hw1017_1)))).trans (((HB.out.cell (World.block_lt_of_cell? w _ hw1017_1)).trans hw1017_1)), (World.cell?_alloc_lt _ _ _ (World.block_lt_of_cell? _ _ (((HB.out.cell (World.block_lt_of_cell? w _ hw1017_2)).trans hw1017_2)))).trans (((HB.out.cell (World.block_lt_of_cell? w _ hw1017_2)).trans hw1017_2))⟩ (fun hHeld => ?_); clear hK K; refine norm_ (a' := ?_) ?_ ?_; rotate_left
                 ·show Act.put _ (some 45) _ = _; simp only [Act.put, zsa, zsb, zsc, i64_w, i32_w]; rfl
                 refine one_ (i := 8) (N := some 46) #[true, true, true, true, true, true, true, true, true, true, false, false] rfl rfl (one_of HT_.out (by kernel_rfl)) zvz (fun K hK => ?_); refine Kd.R_append_step k44 (w0 := w) w.heap.size zvv (.tmp 40) (.tmp 45) 34 44 (.agg #[(.string ⟨#[]⟩), (.int .u64 0), (.int .u64 0)]) 32 rfl Tryd.underlying34 info44 rfl zvz zv1 (.slice (some ad1002) y1014.length co3) y1014 (⟨(rd_T44 l0 x4_1).f0, (⟨(rd_T44 l0 x4_1).f1.f0, (rd_T44 l0 x4_1).f1.f1⟩ : S42)⟩ : S44) [.string ((rd_T44 l0 x4_1).f0), .int .u64 ((rd_T44 l0 x4_1).f1.f0), .int .u64 ((rd_T44 l0 x4_1).f1.f1)] (fun k_ => some k_ ≠ (v1012 : Value).ownBlock) (fun _ => False) rfl rfl ?aP (fun _ hk => hk.elim) ?aF ?aO ?aB ?aS ?aL ?_; (case aP => exact k44_mkM _ _ _ (⟨(rd_T44 l0 x4_1).f0, (⟨(rd_T44 l0 x4_1).f1.f0, (rd_T44 l0 x4_1).f1.f1⟩ : S42)⟩ : S44))
                 (case aB => exact zv0)
                 (case aF => exact (fun k_ hk => Kd.fresh' (Kd.R_lt (zqr HO1013.out)) k_ hk))
                 (case aO => exact (by (with_reducible repeat (first | apply Kd.R_alloc | apply Kd.R_drewN | apply Kd.R_drew)); exact Kd.R_mono HO1016.out (fun _ hk => hk.2)))
                 (case aS => exact (zRg zv0))
                 (case aL => have := LMc16.out; omega)
                 intro v1019 w25 ho hb hg hat; rw [← Ny1018.out] at ho; have n0_ := Aside0.mk (Kd.R_after (ok := (fun _ => True)) (by (with_reducible repeat (first | apply Kd.R_alloc | apply Kd.R_drewN | apply Kd.R_drew)); exact Kd.R_mono HO1013.out (fun _ hk => ⟨trivial, (by first | exact hk | (revert hk; cases Ao3 <;> exact fun h => h))⟩)) hg hat); have n1_ := Aside0.mk (hb); have n2_ := Aside0.mk (ho); clear HO1013; clear HB; clear HO1016; have HO1013 := n0_; have HB := n1_; have HO1020 := n2_; clear n0_ n1_ n2_; clear ho hb hg hat; obtain ⟨Ao27, co27, eo27⟩ := Kd.R_slice HO1013.out; (first | subst eo27 | (injection eo27 with f1_ f2_ f3_; have f4_ := f1_.symm; have f5_ := f3_.symm; clear f1_ f2_ f3_; subst f4_; subst f5_))
                 refine hK.out _ _ ⟨((HB.out.cell (World.block_lt_of_cell? w _ hw1017_0)).trans hw1017_0), ((HB.out.cell (World.block_lt_of_cell? w _ hw1017_1)).trans hw1017_1), ((HB.out.cell (World.block_lt_of_cell? w _ hw1017_2)).trans hw1017_2)⟩ (fun hHeld => ?_); clear hK K; refine norm_ (a' := ?_) ?_ ?_; rotate_left
                 ·show Act.put _ (some 46) _ = _; simp only [Act.put, zsa, zsb, zsc, i64_w, i32_w]; rfl
                 refine one_ (i := 10) (N := some 48) #[true, true, true, true, true, true, true, true, true, true, true, false] rfl rfl (one_of HT_.out (by kernel_rfl)) zvz (fun K hK => ?_); refine Kd.R_append_rows_step k44 (w0 := w) w.heap.size zvv (.tmp 46) (.tmp 47) 34 44 (.agg #[(.string ⟨#[]⟩), (.int .u64 0), (.int .u64 0)]) 32 rfl Tryd.underlying34 info44 rfl zvz zv1 v1019 y1018 y1011 _ _ _ (fun k_ => some k_ ≠ (.slice Ao27 y1011.length co27 : Value).ownBlock) (fun _ => False) rfl rfl ?aO ?aR (fun _ _ h => h) (fun _ h => h.elim) ?aF ?aB ?aS ?aL ?_; (case aR => repeat (first | exact (Kd.R_reads' HO1013.out).2.2 | (with_reducible refine Kd.C_alloc ?_ _) | (with_reducible refine Kd.C_drewN ?_ _) | (with_reducible refine Kd.C_drew ?_)))
                 (case aB => exact zv0)
                 (case aF => exact (fun k_ hk => Kd.fresh' (Kd.R_lt (zqr HO1013.out)) k_ hk))
                 (case aO => exact (zqr HO1020.out))
                 (case aS => exact (zRg zv0))
                 (case aL => have := LMc17.out; omega)
                 intro v1022 w26 ho hb hg hat; rw [← Ny1021.out] at ho; have n0_ := Aside0.mk (Kd.R_after (ok := (fun _ => True)) (zqr HO1013.out) hg hat); have n1_ := Aside0.mk (hb); have n2_ := Aside0.mk (ho); clear HO1013; clear HB; clear HO1020; have HO1013 := n0_; have HB := n1_; have HO1023 := n2_; clear n0_ n1_ n2_; clear ho hb hg hat; refine hK.out _ _ ⟨((HB.out.cell (World.block_lt_of_cell? w _ hw1017_0)).trans hw1017_0), ((HB.out.cell (World.block_lt_of_cell? w _ hw1017_1)).trans hw1017_1), ((HB.out.cell (World.block_lt_of_cell? w _ hw1017_2)).trans hw1017_2)⟩ (fun hHeld => ?_); clear hK K; refine norm_ (a' := ?_) ?_ ?_; rotate_left
                 ·show Act.put _ (some 48) _ = _; simp only [Act.put, zsa, zsb, zsc, i64_w, i32_w]; rfl
                 refine pure_ (i := 11) (N := some 3) (v := ?_) (a' := ?_) #[true, true, true, true, true, true, true, true, true, true, true, true] rfl rfl (any_of HT_.out (by kernel_rfl)) (fun _ _ _ h => h) (Or.inl ⟨zvv, ?_⟩) ?_ ?_; rotate_left
                 ·intro w'; go_simp; with_reducible rfl
                 rotate_left
                 ·simp only [Act.put, zsa, zsb, zsc, i64_w, i32_w]; rfl
                 refine done_ (done_of HT_.out (by kernel_rfl)) ?_; try go_wp2
                 go_roundg k2
                 case measure => have := HK1.out; have := HK2.out; omega
                 case rel => exact ⟨(y1021), (wrap64 (x4_1 + 1)), zv5, H', ⟨zv2x⟩, ⟨(by (with_reducible repeat (first | apply Kd.R_alloc | apply Kd.R_drewN | apply Kd.R_drew)); exact Kd.R_mono HO1023.out (fun _ hk => trivial))⟩, ⟨zv0⟩⟩
                ·rw [if_neg c17] at H; exact absurd H zv10
               ·rw [if_neg c16] at H; exact absurd H zv10
              ·rw [if_neg c14] at H; exact absurd H zv10
             ·rw [if_neg c13] at H; exact absurd H zv10
            ·rw [if_neg c12] at H; exact absurd H zv10
          ·rw [if_neg c9] at H; exact absurd H zv10
         ·rw [if_neg c8] at H; exact absurd H zv10
        ·rw [if_neg c7] at H; exact absurd H zv10
       ·rw [if_neg c6] at H; exact absurd H zv10
      ·rw [if_neg c4] at H; have c4b0 : decide (0 < x5_2) = false := decide_eq_false c4; clear c4; obtain ⟨y1024, hy1024⟩ : ∃ y_ : List (S44), y_ = (([] : List (S44))) := ⟨_, rfl⟩
       replace H : (if 0 ≤ x5_2 then (if x5_2 ≤ (x3_1.length : Int) then ((some (x3_1.drop (x5_2 : Int).toNat : List (S44))).bind fun y1027 => (if y1024.length + y1027.length < 4398046511104 then ((some (y1024 ++ y1027 : List (S44))).bind fun y1031 => ((some (x3_1.take (x5_2 : Int).toNat : List (S44))).bind fun y1034 => (if 0 ≤ x4_1 then (if x4_1 < (l0.length : Int) then (if y1034.length < 4398046511104 then ((some (y1034 ++ [(⟨(rd_T44 l0 x4_1).f0, (⟨(rd_T44 l0 x4_1).f1.f0, (rd_T44 l0 x4_1).f1.f1⟩ : S42)⟩ : S44)] : List (S44))).bind fun y1038 => (if y1038.length + y1031.length < 4398046511104 then (paymasterref10_Sort.l0 k2 l0 (y1038 ++ y1031) (wrap64 (x4_1 + 1))) else (none))) else (none)) else (none)) else (none)))) else (none))) else (none)) else (none)) = some r := by first | (rw [hy1024]; with_reducible exact H) | (have H2_ := (Option.bind_some _ _).symm.trans H; rw [hy1024]; with_reducible exact H2_) | (have H2_ := (Option.bind_some _ _).symm.trans H; with_reducible exact H2_) | with_reducible exact H | (rw [hy1024]; exact H) | exact H
       have Ny1024 := Aside0.mk hy1024; clear hy1024
       by_cases c28 : 0 ≤ x5_2
       ·rw [if_pos c28] at H; have c28b0 := eq_true c28; have c28b1 : decide (0 ≤ x5_2) = true := decide_eq_true c28; clear c28
        by_cases c29 : x5_2 ≤ (x3_1.length : Int)
        ·rw [if_pos c29] at H; have c29b0 := eq_true c29; have c29b1 : decide (x5_2 ≤ (x3_1.length : Int)) = true := decide_eq_true c29; clear c29; obtain ⟨y1027, hy1027⟩ : ∃ y_ : List (S44), y_ = (x3_1.drop (x5_2 : Int).toNat) := ⟨_, rfl⟩
         replace H : (if y1024.length + y1027.length < 4398046511104 then ((some (y1024 ++ y1027 : List (S44))).bind fun y1031 => ((some (x3_1.take (x5_2 : Int).toNat : List (S44))).bind fun y1034 => (if 0 ≤ x4_1 then (if x4_1 < (l0.length : Int) then (if y1034.length < 4398046511104 then ((some (y1034 ++ [(⟨(rd_T44 l0 x4_1).f0, (⟨(rd_T44 l0 x4_1).f1.f0, (rd_T44 l0 x4_1).f1.f1⟩ : S42)⟩ : S44)] : List (S44))).bind fun y1038 => (if y1038.length + y1031.length < 4398046511104 then (paymasterref10_Sort.l0 k2 l0 (y1038 ++ y1031) (wrap64 (x4_1 + 1))) else (none))) else (none)) else (none)) else (none)))) else (none)) = some r := by first | (rw [hy1027]; with_reducible exact H) | (have H2_ := (Option.bind_some _ _).symm.trans H; rw [hy1027]; with_reducible exact H2_) | (have H2_ := (Option.bind_some _ _).symm.trans H; with_reducible exact H2_) | with_reducible exact H | (rw [hy1027]; exact H) | exact H
         have Ny1027 := Aside0.mk hy1027; clear hy1027
         by_cases c30 : y1024.length + y1027.length < 4398046511104
         ·rw [if_pos c30] at H; have LMc30 := Aside0.mk c30; clear c30; obtain ⟨y1031, hy1031⟩ : ∃ y_ : List (S44), y_ = (y1024 ++ y1027) := ⟨_, rfl⟩
          replace H : ((some (x3_1.take (x5_2 : Int).toNat : List (S44))).bind fun y1034 => (if 0 ≤ x4_1 then (if x4_1 < (l0.length : Int) then (if y1034.length < 4398046511104 then ((some (y1034 ++ [(⟨(rd_T44 l0 x4_1).f0, (⟨(rd_T44 l0 x4_1).f1.f0, (rd_T44 l0 x4_1).f1.f1⟩ : S42)⟩ : S44)] : List (S44))).bind fun y1038 => (if y1038.length + y1031.length < 4398046511104 then (paymasterref10_Sort.l0 k2 l0 (y1038 ++ y1031) (wrap64 (x4_1 + 1))) else (none))) else (none)) else (none)) else (none))) = some r := by first | (rw [hy1031]; with_reducible exact H) | (have H2_ := (Option.bind_some _ _).symm.trans H; rw [hy1031]; with_reducible exact H2_) | (have H2_ := (Option.bind_some _ _).symm.trans H; with_reducible exact H2_) | with_reducible exact H | (rw [hy1031]; exact H) | exact H
          have Ny1031 := Aside0.mk hy1031; clear hy1031; have c31b0 := eq_true (of_decide_eq_true zv6 : x5_2 ≤ (x3_1.length : Int)); obtain ⟨y1034, hy1034⟩ : ∃ y_ : List (S44), y_ = (x3_1.take (x5_2 : Int).toNat) := ⟨_, rfl⟩
          replace H : (if 0 ≤ x4_1 then (if x4_1 < (l0.length : Int) then (if y1034.length < 4398046511104 then ((some (y1034 ++ [(⟨(rd_T44 l0 x4_1).f0, (⟨(rd_T44 l0 x4_1).f1.f0, (rd_T44 l0 x4_1).f1.f1⟩ : S42)⟩ : S44)] : List (S44))).bind fun y1038 => (if y1038.length + y1031.length < 4398046511104 then (paymasterref10_Sort.l0 k2 l0 (y1038 ++ y1031) (wrap64 (x4_1 + 1))) else (none))) else (none)) else (none)) else (none)) = some r := by first | (rw [hy1034]; with_reducible exact H) | (have H2_ := (Option.bind_some _ _).symm.trans H; rw [hy1034]; with_reducible exact H2_) | (have H2_ := (Option.bind_some _ _).symm.trans H; with_reducible exact H2_) | with_reducible exact H | (rw [hy1034]; exact H) | exact H
          have Ny1034 := Aside0.mk hy1034; clear hy1034
          by_cases c32 : 0 ≤ x4_1
          ·rw [if_pos c32] at H; have c32b0 : decide (0 ≤ x4_1) = true := decide_eq_true c32; clear c32
           by_cases c33 : x4_1 < (l0.length : Int)
           ·rw [if_pos c33] at H; have c33b0 : decide (x4_1 < (l0.length : Int)) = true := decide_eq_true c33; clear c33
            by_cases c34 : y1034.length < 4398046511104
            ·rw [if_pos c34] at H; have LMc34 := Aside0.mk c34; clear c34; obtain ⟨y1038, hy1038⟩ : ∃ y_ : List (S44), y_ = (y1034 ++ [(⟨(rd_T44 l0 x4_1).f0, (⟨(rd_T44 l0 x4_1).f1.f0, (rd_T44 l0 x4_1).f1.f1⟩ : S42)⟩ : S44)]) := ⟨_, rfl⟩
             replace H : (if y1038.length + y1031.length < 4398046511104 then (paymasterref10_Sort.l0 k2 l0 (y1038 ++ y1031) (wrap64 (x4_1 + 1))) else (none)) = some r := by first | (rw [hy1038]; with_reducible exact H) | (have H2_ := (Option.bind_some _ _).symm.trans H; rw [hy1038]; with_reducible exact H2_) | (have H2_ := (Option.bind_some _ _).symm.trans H; with_reducible exact H2_) | with_reducible exact H | (rw [hy1038]; exact H) | exact H
             have Ny1038 := Aside0.mk hy1038; clear hy1038
             by_cases c35 : y1038.length + y1031.length < 4398046511104
             ·rw [if_pos c35] at H; have LMc35 := Aside0.mk c35; clear c35; obtain ⟨y1041, hy1041⟩ : ∃ y_ : List (S44), y_ = (y1038 ++ y1031) := ⟨_, rfl⟩
              replace H : (paymasterref10_Sort.l0 k2 l0 y1041 (wrap64 (x4_1 + 1))) = some r := by first | (rw [hy1041]; with_reducible exact H) | (have H2_ := (Option.bind_some _ _).symm.trans H; rw [hy1041]; with_reducible exact H2_) | (have H2_ := (Option.bind_some _ _).symm.trans H; with_reducible exact H2_) | with_reducible exact H | (rw [hy1041]; exact H) | exact H
              have Ny1041 := Aside0.mk hy1041; clear hy1041; have H' := Aside0.mk H; clear H; try go_wp2
              have n0_ := Aside0.mk (Kd.R_drew HO_3.out); have n1_ := Aside0.mk (zRj HB.out); clear HO_3; clear HB; have HO_3 := n0_; have HB := n1_; clear n0_ n1_; refine start_ (n := 16) (S := fun w' => True) (ds := []) #[false, false, false, false, false, false, false, false, false, false, false, false, false, false, false, false] (by kernel_rfl) rfl rfl trivial (fun hHeld => ?_); refine with_tabW paymasterref10_Sort.tab6 paymasterref10_Sort.bits6 (fun HT_ HW_ => ?_); generalize wr.drew = w36 at HO_3 HB hHeld ⊢; refine pure_ (i := 0) (N := some 15) (v := ?_) (a' := ?_) #[true, false, false, false, false, false, false, false, false, false, false, false, false, false, false, false] rfl rfl (any_of HT_.out (by kernel_rfl)) (fun _ _ _ h => h) (Or.inl ⟨zvv, ?_⟩) ?_ ?_; rotate_left
              ·intro w'; go_simp; with_reducible rfl
              rotate_left
              ·simp only [Act.put, zsa, zsb, zsc, i64_w, i32_w]; rfl
              refine pure_ (i := 1) (N := some 16) (v := ?_) (a' := ?_) #[true, true, false, false, false, false, false, false, false, false, false, false, false, false, false, false] rfl rfl (any_of HT_.out (by kernel_rfl)) (fun _ _ _ h => h) (Or.inl ⟨zvv, ?_⟩) ?_ ?_; rotate_left
              ·intro w'; go_simp; with_reducible rfl
              rotate_left
              ·simp only [Act.put, zsa, zsb, zsc, i64_w, i32_w]; rfl
              refine pure_ (i := 2) (N := some 17) (v := ?_) (a' := ?_) #[true, true, true, false, false, false, false, false, false, false, false, false, false, false, false, false] rfl rfl (any_of HT_.out (by kernel_rfl)) (fun _ _ _ h => h) (Or.inl ⟨zvv, ?_⟩) ?_ ?_; rotate_left
              ·intro w'; go_simp; with_reducible rfl
              rotate_left
              ·simp only [Act.put, zsa, zsb, zsc, i64_w, i32_w]; rfl
              refine pure_ (i := 3) (N := some 18) (v := undef) (a' := ?_) #[true, true, true, true, false, false, false, false, false, false, false, false, false, false, false, false] rfl rfl (any_of HT_.out (by kernel_rfl)) (fun _ _ _ h => h) (Or.inr ⟨zvv, rfl⟩) ?_ ?_; rotate_left
              ·simp only [Act.put, zsa, zsb, zsc, i64_w, i32_w]; rfl
              refine pure_ (i := 4) (N := some 19) (v := undef) (a' := ?_) #[true, true, true, true, true, false, false, false, false, false, false, false, false, false, false, false] rfl rfl (any_of HT_.out (by kernel_rfl)) (fun _ _ _ h => h) (Or.inr ⟨zvv, rfl⟩) ?_ ?_; rotate_left
              ·simp only [Act.put, zsa, zsb, zsc, i64_w, i32_w]; rfl
              refine pure_ (i := 5) (N := some 20) (v := undef) (a' := ?_) #[true, true, true, true, true, true, false, false, false, false, false, false, false, false, false, false] rfl rfl (any_of HT_.out (by kernel_rfl)) (fun _ _ _ h => h) (Or.inr ⟨zvv, rfl⟩) ?_ ?_; rotate_left
              ·simp only [Act.put, zsa, zsb, zsc, i64_w, i32_w]; rfl
              refine pure_ (i := 6) (N := some 21) (v := undef) (a' := ?_) #[true, true, true, true, true, true, true, false, false, false, false, false, false, false, false, false] rfl rfl (any_of HT_.out (by kernel_rfl)) (fun _ _ _ h => h) (Or.inr ⟨zvv, rfl⟩) ?_ ?_; rotate_left
              ·simp only [Act.put, zsa, zsb, zsc, i64_w, i32_w]; rfl
              refine pure_ (i := 7) (N := some 22) (v := undef) (a' := ?_) #[true, true, true, true, true, true, true, true, false, false, false, false, false, false, false, false] rfl rfl (any_of HT_.out (by kernel_rfl)) (fun _ _ _ h => h) (Or.inr ⟨zvv, rfl⟩) ?_ ?_; rotate_left
              ·simp only [Act.put, zsa, zsb, zsc, i64_w, i32_w]; rfl
              refine pure_ (i := 8) (N := some 23) (v := undef) (a' := ?_) #[true, true, true, true, true, true, true, true, true, false, false, false, false, false, false, false] rfl rfl (any_of HT_.out (by kernel_rfl)) (fun _ _ _ h => h) (Or.inr ⟨zvv, rfl⟩) ?_ ?_; rotate_left
              ·simp only [Act.put, zsa, zsb, zsc, i64_w, i32_w]; rfl
              refine pure_ (i := 9) (N := some 24) (v := undef) (a' := ?_) #[true, true, true, true, true, true, true, true, true, true, false, false, false, false, false, false] rfl rfl (any_of HT_.out (by kernel_rfl)) (fun _ _ _ h => h) (Or.inr ⟨zvv, rfl⟩) ?_ ?_; rotate_left
              ·simp only [Act.put, zsa, zsb, zsc, i64_w, i32_w]; rfl
              refine pure_ (i := 10) (N := some 25) (v := undef) (a' := ?_) #[true, true, true, true, true, true, true, true, true, true, true, false, false, false, false, false] rfl rfl (any_of HT_.out (by kernel_rfl)) (fun _ _ _ h => h) (Or.inr ⟨zvv, rfl⟩) ?_ ?_; rotate_left
              ·simp only [Act.put, zsa, zsb, zsc, i64_w, i32_w]; rfl
              refine pure_ (i := 11) (N := some 26) (v := undef) (a' := ?_) #[true, true, true, true, true, true, true, true, true, true, true, true, false, false, false, false] rfl rfl (any_of HT_.out (by kernel_rfl)) (fun _ _ _ h => h) (Or.inr ⟨zvv, rfl⟩) ?_ ?_; rotate_left
              ·simp only [Act.put, zsa, zsb, zsc, i64_w, i32_w]; rfl
              refine pure_ (i := 12) (N := some 27) (v := undef) (a' := ?_) #[true, true, true, true, true, true, true, true, true, true, true, true, true, false, false, false] rfl rfl (any_of HT_.out (by kernel_rfl)) (fun _ _ _ h => h) (Or.inr ⟨zvv, rfl⟩) ?_ ?_; rotate_left
              ·simp only [Act.put, zsa, zsb, zsc, i64_w, i32_w]; rfl
              refine pure_ (i := 13) (N := some 28) (v := undef) (a' := ?_) #[true, true, true, true, true, true, true, true, true, true, true, true, true, true, false, false] rfl rfl (any_of HT_.out (by kernel_rfl)) (fun _ _ _ h => h) (Or.inr ⟨zvv, rfl⟩) ?_ ?_; rotate_left
              ·simp only [Act.put, zsa, zsb, zsc, i64_w, i32_w]; rfl
              refine pure_ (i := 14) (N := some 29) (v := undef) (a' := ?_) #[true, true, true, true, true, true, true, true, true, true, true, true, true, true, true, false] rfl rfl (any_of HT_.out (by kernel_rfl)) (fun _ _ _ h => h) (Or.inr ⟨zvv, rfl⟩) ?_ ?_; rotate_left
              ·simp only [Act.put, zsa, zsb, zsc, i64_w, i32_w]; rfl
              refine pure_ (i := 15) (N := some 30) (v := ?_) (a' := ?_) #[true, true, true, true, true, true, true, true, true, true, true, true, true, true, true, true] rfl rfl (any_of HT_.out (by kernel_rfl)) (fun _ _ _ h => h) (Or.inl ⟨zvv, ?_⟩) ?_ ?_; rotate_left
              ·intro w'; go_simp; with_reducible rfl
              rotate_left
              ·simp only [Act.put, zsa, zsb, zsc, i64_w, i32_w]; rfl
              refine done_ (done_of HT_.out (by kernel_rfl)) ?_; try go_wp2_with (first | ((with_reducible refine zRq (N := 33) rfl ?_); refine Kd.R_lit k44 _ 44 ?hg (N := 33) ?hd (xs := ([] : List (S44))) (inner := []) (ok := fun _ => True) (okp := fun _ => True) ?hr ?hp (fun _ hk => hk) trivial (Below.refl _ _) (Nat.le_refl _) zv10 ?_; (case hd => rfl); (case hg => rfl); (case hr => first | (go_simp; done) | (go_simp; rfl)); (case hp => exact (Reps.none _ _)); intro v1025 w37 ho38 hb hg_ hnew_; clear hg_ hnew_; (first | rw [← Ny1024.out] at ho38 | (simp only [Int.reduceToNat] at ho38; rw [← Ny1024.out] at ho38)); have n0_ := Aside0.mk (Kd.R_elder' (zqr HO_3.out) (Kd.R_base ho38) hb); have n1_ := Aside0.mk (Kd.R_lower (Kd.R_new' ho38 (Kd.R_lt (zqr HO_3.out))) (zRg zv0)); have n2_ := Aside0.mk (zRd zv0 hb); clear HO_3; clear HB; have HO_3 := n0_; have HO1026 := n1_; have HB := n2_; clear n0_ n1_ n2_; clear hb ho38; have q39 : (x5_2 : Int) ≤ ((x3_1.length : Int) : Int) := of_decide_eq_true zv6; obtain ⟨i039, hi039, _, hsz39, _⟩ := info_parts info44; have hroom39 : x3_1.length ≤ co3 := (Kd.R_reads' HO_3.out).2.1; have hC39 : Kd.C k44 _ Ao3 x3_1.length x3_1 := (Kd.R_reads' HO_3.out).2.2; have q039 : (0 : Int) ≤ (x5_2 : Int) := of_decide_eq_true zv6; have hcut39 := cut_from (P := Tryd.prog) 34 44 .i64 Tryd.underlying34 hi039 3 hsz39 Ao3 x3_1.length co3 x5_2 q039 q39; have hr39 := Kd.C_drop (m := (x5_2 : Int).toNat) (c := co3) hC39 zv1 hroom39; obtain ⟨A39, hA39⟩ : ∃ A1, A1 = (if co3 = (x5_2 : Int).toNat then Ao3 else (Ao3 : Option Addr).map (·.add ((x5_2 : Int).toNat * 3))) := ⟨_, rfl⟩; obtain ⟨c39, hc39⟩ : ∃ c1, c1 = co3 - (x5_2 : Int).toNat := ⟨_, rfl⟩; have hy39 : y1027.length = x3_1.length - (x5_2 : Int).toNat := (by rw [Ny1027.out, List.length_drop] <;> omega); rw [show (x3_1).drop (x5_2 : Int).toNat = y1027 from Ny1027.out.symm] at hr39; replace hr39 : Kd.C k44 _ A39 y1027.length y1027 := (by rw [hA39]; exact hr39); rw [← hy39, ← hA39, ← hc39] at hcut39; have HR1030 := Aside0.mk hr39; have HC1030 := Aside0.mk (show y1027.length ≤ c39 from by rw [hy39, hc39]; exact Nat.sub_le_sub_right hroom39 _); clear hr39 hC39 hroom39 hi039 hsz39 hc39; have KY39 := Aside0.mk hy39; have KA39 := Aside0.mk hA39; clear hy39 hA39; have KL39 := Aside0.mk (show (x5_2 : Int).toNat ≤ x3_1.length from by omega); replace q39 := eq_true q39) | ((with_reducible refine gate_builtin (b := .append) (xs := #[.tmp 33, .tmp 36]) rfl ?_); at_builtin; refine Kd.R_append_rows k44 (w0 := w) w.heap.size rfl (.tmp 33) (.tmp 36) 34 44 (.agg #[(.string ⟨#[]⟩), (.int .u64 0), (.int .u64 0)]) 32 rfl Tryd.underlying34 info44 rfl zvz zv1 v1025 y1024 y1027 _ _ _ (fun k_ => some k_ ≠ (.slice Ao3 x3_1.length co3 : Value).ownBlock) (fun _ => False) rfl rfl ?aO ?aR (fun _ _ h => h) (fun _ h => h.elim) ?aF ?aB ?aS ?aL ?_; (case aR => repeat (first | exact (by repeat (first | (with_reducible exact HR1030.out) | (with_reducible refine Kd.C_alloc ?_ _) | (with_reducible refine Kd.C_drewN ?_ _) | (with_reducible refine Kd.C_drew ?_) | exact HR1030.out)) | (with_reducible refine Kd.C_alloc ?_ _) | (with_reducible refine Kd.C_drewN ?_ _) | (with_reducible refine Kd.C_drew ?_))); (case aB => exact zv0); (case aF => exact (fun k_ hk => Kd.fresh' (Kd.R_lt (zqr HO_3.out)) k_ hk)); (case aO => exact (by (with_reducible repeat (first | apply Kd.R_alloc | apply Kd.R_drewN | apply Kd.R_drew)); exact Kd.R_mono HO1026.out (fun _ hk => hk.2))); (case aS => exact (zRg zv0)); (case aL => have := LMc30.out; omega); intro v1032 w40 ho hb hg hat; rw [← Ny1031.out] at ho; have n0_ := Aside0.mk (Kd.R_after (ok := (fun _ => True)) (zqr HO_3.out) hg hat); have n1_ := Aside0.mk (hb); have n2_ := Aside0.mk ((show Kd.C k44 w40 A39 y1027.length y1027 from by rw [Ny1027.out, KA39.out]; exact Kd.C_drop (m := (x5_2 : Int).toNat) (c := co3) ((Kd.R_reads' (Kd.R_after (ok := (fun _ => True)) (zqr HO_3.out) hg hat)).2.2) KL39.out ((Kd.R_reads' (Kd.R_after (ok := (fun _ => True)) (zqr HO_3.out) hg hat)).2.1))); have n3_ := Aside0.mk (ho); clear HO_3; clear HB; clear HR1030; clear HO1026; have HO_3 := n0_; have HB := n1_; have HR1030 := n2_; have HO1033 := n3_; clear n0_ n1_ n2_ n3_; clear ho hb hg hat))
              have n0_ := Aside0.mk (Kd.R_drew HO_3.out); have n1_ := Aside0.mk (Kd.R_drew HO1033.out); have n2_ := Aside0.mk (Kd.C_drew HR1030.out); have n3_ := Aside0.mk (zRj HB.out); clear HO_3; clear HO1033; clear HR1030; clear HB; have HO_3 := n0_; have HO1033 := n1_; have HR1030 := n2_; have HB := n3_; clear n0_ n1_ n2_ n3_; have q42 : (x5_2 : Int) ≤ ((x3_1.length : Int) : Int) := of_decide_eq_true zv6; obtain ⟨i042, hi042, _, hsz42, _⟩ := info_parts info44; have hcut42 := cut_to (P := Tryd.prog) 34 44 .i64 Tryd.underlying34 hi042 Ao3 x3_1.length co3 x5_2 (of_decide_eq_true zv6) q42 (Kd.R_reads' HO_3.out).2.1; have hr42 := Kd.R_take (m := (x5_2 : Int).toNat) HO_3.out zv1; have hy42 : y1034.length = (x5_2 : Int).toNat := (by rw [Ny1034.out, List.length_take]; omega)
              rw [← Ny1034.out] at hr42; rw [← hy42] at hr42 hcut42; clear hy42 hi042 hsz42 HO_3; have HO1036 := Aside0.mk hr42; clear hr42; replace q42 := eq_true q42; have p1037 : 0 ≤ (x4_1 : Int) := of_decide_eq_true zv6; have q1037 : x4_1 < (l0.length : Int) := of_decide_eq_true zv6; obtain ⟨ad1037, e1037, hx1037_0, hx1037_1, hx1037_2⟩ := at_T44 HR0.out x4_1 p1037 q1037; have hw1037_2 := hx1037_2; have hw1037_1 := hx1037_1; have hw1037_0 := hx1037_0; cases e1037; replace hx1037_0 := (HB.out.cell (World.block_lt_of_cell? w _ hx1037_0)).trans hx1037_0; replace hx1037_1 := (HB.out.cell (World.block_lt_of_cell? w _ hx1037_1)).trans hx1037_1; replace hx1037_2 := (HB.out.cell (World.block_lt_of_cell? w _ hx1037_2)).trans hx1037_2; replace p1037 := eq_true p1037; replace q1037 := eq_true q1037; refine start_ (n := 12) (S := fun w' => w'.cell? (ad1037.add ((x4_1).toNat * 3)) = some (.string ((rd_T44 l0 x4_1).f0)) ∧ w'.cell? ⟨(ad1037.add ((x4_1).toNat * 3)).block, (ad1037.add ((x4_1).toNat * 3)).off + 1, none⟩ = some (.int .u64 ((rd_T44 l0 x4_1).f1.f0)) ∧ w'.cell? ⟨(ad1037.add ((x4_1).toNat * 3)).block, (ad1037.add ((x4_1).toNat * 3)).off + 2, none⟩ = some (.int .u64 ((rd_T44 l0 x4_1).f1.f1))) (ds := []) #[false, false, false, false, false, false, false, false, false, false, false, false] (by kernel_rfl) rfl rfl ⟨((HB.out.cell (World.block_lt_of_cell? w _ hw1037_0)).trans hw1037_0), ((HB.out.cell (World.block_lt_of_cell? w _ hw1037_1)).trans hw1037_1), ((HB.out.cell (World.block_lt_of_cell? w _ hw1037_2)).trans hw1037_2)⟩ (fun hHeld => ?_); refine with_tabW paymasterref10_Sort.tab9 paymasterref10_Sort.bits9 (fun HT_ HW_ => ?_); generalize w40.drew = w41 at HO_3 HO1033 HR1030 HB HO1036 hx1037_0 hx1037_1 hx1037_2 hHeld ⊢; refine pure_ (i := 0) (N := some 38) (v := ?_) (a' := ?_) #[true, false, false, false, false, false, false, false, false, false, false, false] rfl rfl (any_of HT_.out (by kernel_rfl)) (fun _ _ _ h => h) (Or.inl ⟨zvv, ?_⟩) ?_ ?_; rotate_left
              ·intro w'; go_simp; with_reducible rfl
              rotate_left
              ·simp only [Act.put, zsa, zsb, zsc, i64_w, i32_w]; rfl
              refine pure_ (i := 1) (N := some 39) (v := ?_) (a' := ?_) #[true, true, false, false, false, false, false, false, false, false, false, false] rfl rfl (any_of HT_.out (by kernel_rfl)) (fun _ _ _ h => h) (Or.inl ⟨zvv, ?_⟩) ?_ ?_; rotate_left
              ·intro w'; go_simp; with_reducible rfl
              rotate_left
              ·simp only [Act.put, zsa, zsb, zsc, i64_w, i32_w]; rfl
              refine pure_ (i := 2) (N := some 40) (v := ?_) (a' := ?_) #[true, true, true, false, false, false, false, false, false, false, false, false] rfl rfl (any_of HT_.out (by kernel_rfl)) (fun _ _ _ h => h) (Or.inl ⟨zvv, ?_⟩) ?_ ?_; rotate_left
              ·intro w'; go_simp; with_reducible rfl
              rotate_left
              ·simp only [Act.put, zsa, zsb, zsc, i64_w, i32_w]; rfl
              refine pure_ (i := 3) (N := some 41) (v := ?_) (a' := ?_) #[true, true, true, true, false, false, false, false, false, false, false, false] rfl rfl (any_of HT_.out (by kernel_rfl)) (fun _ _ _ h => h) (Or.inl ⟨zvv, ?_⟩) ?_ ?_; rotate_left
              ·intro w'; go_simp; with_reducible rfl
              rotate_left
              ·simp only [Act.put, zsa, zsb, zsc, i64_w, i32_w]; rfl
              refine pure_ (i := 4) (N := some 42) (v := ?_) (a' := ?_) #[true, true, true, true, true, false, false, false, false, false, false, false] rfl rfl (any_of HT_.out (by kernel_rfl)) (fun _ _ _ h => h) (Or.inl ⟨zvv, ?_⟩) ?_ ?_; rotate_left
              ·intro w'; go_simp; with_reducible rfl
              rotate_left
              ·simp only [Act.put, zsa, zsb, zsc, i64_w, i32_w]; rfl
              refine pure_ (i := 5) (N := some 43) (v := ?_) (a' := ?_) #[true, true, true, true, true, true, false, false, false, false, false, false] rfl rfl (any_of HT_.out (by kernel_rfl)) (fun _ _ _ h => h) (Or.inl ⟨zvv, ?_⟩) ?_ ?_; rotate_left
              ·intro w'; go_simp; with_reducible rfl
              rotate_left
              ·simp only [Act.put, zsa, zsb, zsc, i64_w, i32_w]; rfl
              refine pure_ (i := 9) (N := some 47) (v := ?_) (a' := ?_) #[true, true, true, true, true, true, false, false, false, true, false, false] rfl rfl (any_of HT_.out (by kernel_rfl)) (fun _ _ _ h => h) (Or.inl ⟨zvv, ?_⟩) ?_ ?_; rotate_left
              ·intro w'; go_simp; with_reducible rfl
              rotate_left
              ·simp only [Act.put, zsa, zsb, zsc, i64_w, i32_w]; rfl
              refine take_ (i := 6) (N := some 44) (v := ?_) (a' := ?_) #[true, true, true, true, true, true, true, false, false, true, false, false] rfl rfl (zRA HT_.out HW_.out (by kernel_rfl)) (fun _ _ _ h => h) (Or.inl ⟨zvv, ?_⟩) hHeld ?_ ?_; rotate_left
              ·rintro w' ⟨s0, s1, s2⟩; go_simp; with_reducible rfl
              rotate_left
              ·simp only [Act.put, zsa, zsb, zsc, i64_w, i32_w]; rfl
              refine one_ (i := 7) (N := some 45) #[true, true, true, true, true, true, true, true, false, true, false, false] rfl rfl (one_of HT_.out (by kernel_rfl)) zvz (fun K hK => ?_); refine value_ (w1 := ?_) (v := ?_) zvv rfl ?_ ?_; rotate_left 2
              ·go_simp
               constructor
               ·rfl
               ·rfl
              refine hK.out _ _ ⟨(World.cell?_alloc_lt _ _ _ (World.block_lt_of_cell? _ _ (((HB.out.cell (World.block_lt_of_cell? w _ hw1037_0)).trans hw1037_0)))).trans (((HB.out.cell (World.block_lt_of_cell? w _ hw1037_0)).trans hw1037_0)), (World.cell?_alloc_lt _ _ _ (World.block_lt_of_cell? _ _ (((HB.out.cell (World.block_lt_of_cell? w _ hw1037_1)).trans hw1037_1)))).trans (((HB.out.cell (World.block_lt_of_cell? w _ hw1037_1)).trans hw1037_1)), (World.cell?_alloc_lt _ _ _ (World.block_lt_of_cell? _ _ (((HB.out.cell (World.block_lt_of_cell? w _ hw1037_2)).trans hw1037_2)))).trans (((HB.out.cell (World.block_lt_of_cell? w _ hw1037_2)).trans hw1037_2))⟩ (fun hHeld => ?_); clear hK K; refine norm_ (a' := ?_) ?_ ?_; rotate_left
              ·show Act.put _ (some 45) _ = _; simp only [Act.put, zsa, zsb, zsc, i64_w, i32_w]; rfl
              refine one_ (i := 8) (N := some 46) #[true, true, true, true, true, true, true, true, true, true, false, false] rfl rfl (one_of HT_.out (by kernel_rfl)) zvz (fun K hK => ?_); refine Kd.R_append_step k44 (w0 := w) w.heap.size zvv (.tmp 40) (.tmp 45) 34 44 (.agg #[(.string ⟨#[]⟩), (.int .u64 0), (.int .u64 0)]) 32 rfl Tryd.underlying34 info44 rfl zvz zv1 (.slice Ao3 y1034.length co3) y1034 (⟨(rd_T44 l0 x4_1).f0, (⟨(rd_T44 l0 x4_1).f1.f0, (rd_T44 l0 x4_1).f1.f1⟩ : S42)⟩ : S44) [.string ((rd_T44 l0 x4_1).f0), .int .u64 ((rd_T44 l0 x4_1).f1.f0), .int .u64 ((rd_T44 l0 x4_1).f1.f1)] (fun k_ => some k_ ≠ (v1032 : Value).ownBlock) (fun _ => False) rfl rfl ?aP (fun _ hk => hk.elim) ?aF ?aO ?aB ?aS ?aL ?_; (case aP => exact k44_mkM _ _ _ (⟨(rd_T44 l0 x4_1).f0, (⟨(rd_T44 l0 x4_1).f1.f0, (rd_T44 l0 x4_1).f1.f1⟩ : S42)⟩ : S44))
              (case aB => exact zv0)
              (case aF => exact (fun k_ hk => Kd.fresh' (Kd.R_lt (zqr HO1033.out)) k_ hk))
              (case aO => exact (by (with_reducible repeat (first | apply Kd.R_alloc | apply Kd.R_drewN | apply Kd.R_drew)); exact Kd.R_mono HO1036.out (fun _ hk => hk.2)))
              (case aS => exact (zRg zv0))
              (case aL => have := LMc34.out; omega)
              intro v1039 w43 ho hb hg hat; rw [← Ny1038.out] at ho; have n0_ := Aside0.mk (Kd.R_after (ok := (fun _ => True)) (by (with_reducible repeat (first | apply Kd.R_alloc | apply Kd.R_drewN | apply Kd.R_drew)); exact Kd.R_mono HO1033.out (fun _ hk => ⟨trivial, (by first | exact hk | (revert hk; cases Ao3 <;> exact fun h => h))⟩)) hg hat); have n1_ := Aside0.mk (hb); have n2_ := Aside0.mk (ho); clear HO1033; clear HB; clear HO1036; have HO1033 := n0_; have HB := n1_; have HO1040 := n2_; clear n0_ n1_ n2_; clear ho hb hg hat; obtain ⟨Ao45, co45, eo45⟩ := Kd.R_slice HO1033.out; (first | subst eo45 | (injection eo45 with f1_ f2_ f3_; have f4_ := f1_.symm; have f5_ := f3_.symm; clear f1_ f2_ f3_; subst f4_; subst f5_))
              refine hK.out _ _ ⟨((HB.out.cell (World.block_lt_of_cell? w _ hw1037_0)).trans hw1037_0), ((HB.out.cell (World.block_lt_of_cell? w _ hw1037_1)).trans hw1037_1), ((HB.out.cell (World.block_lt_of_cell? w _ hw1037_2)).trans hw1037_2)⟩ (fun hHeld => ?_); clear hK K; refine norm_ (a' := ?_) ?_ ?_; rotate_left
              ·show Act.put _ (some 46) _ = _; simp only [Act.put, zsa, zsb, zsc, i64_w, i32_w]; rfl
              refine one_ (i := 10) (N := some 48) #[true, true, true, true, true, true, true, true, true, true, true, false] rfl rfl (one_of HT_.out (by kernel_rfl)) zvz (fun K hK => ?_); refine Kd.R_append_rows_step k44 (w0 := w) w.heap.size zvv (.tmp 46) (.tmp 47) 34 44 (.agg #[(.string ⟨#[]⟩), (.int .u64 0), (.int .u64 0)]) 32 rfl Tryd.underlying34 info44 rfl zvz zv1 v1039 y1038 y1031 _ _ _ (fun k_ => some k_ ≠ (.slice Ao45 y1031.length co45 : Value).ownBlock) (fun _ => False) rfl rfl ?aO ?aR (fun _ _ h => h) (fun _ h => h.elim) ?aF ?aB ?aS ?aL ?_; (case aR => repeat (first | exact (Kd.R_reads' HO1033.out).2.2 | (with_reducible refine Kd.C_alloc ?_ _) | (with_reducible refine Kd.C_drewN ?_ _) | (with_reducible refine Kd.C_drew ?_)))
              (case aB => exact zv0)
              (case aF => exact (fun k_ hk => Kd.fresh' (Kd.R_lt (zqr HO1033.out)) k_ hk))
              (case aO => exact (zqr HO1040.out))
              (case aS => exact (zRg zv0))
              (case aL => have := LMc35.out; omega)
              intro v1042 w44 ho hb hg hat; rw [← Ny1041.out] at ho; have n0_ := Aside0.mk (Kd.R_after (ok := (fun _ => True)) (zqr HO1033.out) hg hat); have n1_ := Aside0.mk (hb); have n2_ := Aside0.mk (ho); clear HO1033; clear HB; clear HO1040; have HO1033 := n0_; have HB := n1_; have HO1043 := n2_; clear n0_ n1_ n2_; clear ho hb hg hat; refine hK.out _ _ ⟨((HB.out.cell (World.block_lt_of_cell? w _ hw1037_0)).trans hw1037_0), ((HB.out.cell (World.block_lt_of_cell? w _ hw1037_1)).trans hw1037_1), ((HB.out.cell (World.block_lt_of_cell? w _ hw1037_2)).trans hw1037_2)⟩ (fun hHeld => ?_); clear hK K; refine norm_ (a' := ?_) ?_ ?_; rotate_left
              ·show Act.put _ (some 48) _ = _; simp only [Act.put, zsa, zsb, zsc, i64_w, i32_w]; rfl
              refine pure_ (i := 11) (N := some 3) (v := ?_) (a' := ?_) #[true, true, true, true, true, true, true, true, true, true, true, true] rfl rfl (any_of HT_.out (by kernel_rfl)) (fun _ _ _ h => h) (Or.inl ⟨zvv, ?_⟩) ?_ ?_; rotate_left
              ·intro w'; go_simp; with_reducible rfl
              rotate_left
              ·simp only [Act.put, zsa, zsb, zsc, i64_w, i32_w]; rfl
              refine done_ (done_of HT_.out (by kernel_rfl)) ?_; try go_wp2
              go_roundg k2
              case measure => have := HK1.out; have := HK2.out; omega
              case rel => exact ⟨(y1041), (wrap64 (x4_1 + 1)), zv5, H', ⟨zv2x⟩, ⟨(by (with_reducible repeat (first | apply Kd.R_alloc | apply Kd.R_drewN | apply Kd.R_drew)); exact Kd.R_mono HO1043.out (fun _ hk => trivial))⟩, ⟨zv0⟩⟩
             ·rw [if_neg c35] at H; exact absurd H zv10
            ·rw [if_neg c34] at H; exact absurd H zv10
           ·rw [if_neg c33] at H; exact absurd H zv10
          ·rw [if_neg c32] at H; exact absurd H zv10
         ·rw [if_neg c30] at H; exact absurd H zv10
        ·rw [if_neg c29] at H; exact absurd H zv10
       ·rw [if_neg c28] at H; exact absurd H zv10
   ·rw [if_neg c2] at H; have c2b0 : decide (x4_1 < (l0.length : Int)) = false := decide_eq_false c2; clear c2; obtain rfl := Option.some.inj H; go_wp2; go_ret; exact ⟨_, zv8, zv1c, zv0⟩
def paymasterref11_Find.l0 : Nat → List (S44) → ByteArray → Int → Option (ByteArray × Int × Int × Bool)
 | 0, _, _, _ => none
 | k + 1, x0, x1, x6 => if x6 < (x0.length : Int) then (if 0 ≤ x6 then (if ((rd_T44 x0 x6).f0).toList = x1.toList then (some ((rd_T44 x0 x6).f0, (rd_T44 x0 x6).f1.f0, (rd_T44 x0 x6).f1.f1, true)) else (paymasterref11_Find.l0 k x0 x1 (wrap64 (x6 + 1)))) else (none)) else (some ((⟨#[]⟩ : ByteArray), 0, 0, false))
def paymasterref11_Find.f (k : Nat) (l0 : List (S44)) (a1 : ByteArray) : Option (ByteArray × Int × Int × Bool) := paymasterref11_Find.l0 k l0 a1 0
set_option maxHeartbeats 8000000 in
set_option maxRecDepth 100000 in
theorem paymasterref11_Find.calls (k : Nat) (A0 : Option Addr) (c0 : Nat) (l0 : List (S44)) (a1 : ByteArray) (r1 : ByteArray) (r2 : Int) (r3 : Int) (r4 : Bool) (w : World) (hr0 : Kd.C k44 w A0 l0.length l0) (hc0 : l0.length ≤ c0) (h : paymasterref11_Find.f k l0 a1 = some (r1, r2, r3, r4)) :
  Calls Tryd.prog 117 #[.slice A0 l0.length c0, .string a1] w fun e w' => e = .returned (.tuple #[.agg #[.string r1, .int .u64 r2, .int .u64 r3], .bool r4]) ∧ Below w.heap.size w w' := by
 have hu44 := Tryd.underlying44; have HR0 := Aside0.mk hr0; have HC0 := Aside0.mk hc0; clear hr0 hc0; have HB := Aside0.mk (Below.refl w.heap.size w); have H : (paymasterref11_Find.l0 k l0 a1 0) = some (r1, r2, r3, r4) := h; clear h; have H' := Aside0.mk H; clear H; go_enter Tryd.func117, Tryd.ntmps117
 go_wp2_with (first | ((with_reducible refine zRq (N := 4) rfl ?_); refine zRn ?hg (N := 4) ?hd (cs := #[.string (⟨#[]⟩ : ByteArray), .int .u64 0, .int .u64 0]) (t := 44) ?hr ?_; (case hd => rfl); (case hg => rfl); (case hr => first | (go_simp; done) | (go_simp; rfl)); intro gb1158 hg w3 hbox hb; have n0_ := Aside0.mk (zRd zv0 hb); have n1_ := Aside0.mk (hbox); have n2_ := Aside0.mk ((zv3w : w.heap.size ≤ gb1158)); have n3_ := Aside0.mk ((zv3w : w.heap.size ≤ gb1158)); clear HB; have HB := n0_; have BK1158 := n1_; have GW1158 := n2_; have GE1158 := n3_; clear n0_ n1_ n2_ n3_; clear hb hbox hg))
 go_loopg [6] k (fun kq v6 w' => ∃ (x6_1 : Int) (x1159000_1 : ByteArray) (x1159001_1 : Int) (x1159002_1 : Int), v6 = .int .i64 x6_1 ∧ Aside0 (paymasterref11_Find.l0 kq l0 a1 x6_1 = some (r1, r2, r3, r4)) ∧ Aside0 (kq ≤ k) ∧ Aside0 (w'.heap[gb1158]? = some (.cells #[.string x1159000_1, .int .u64 x1159001_1, .int .u64 x1159002_1] 44 (0, 0))) ∧ Aside0 (Below w.heap.size w w'))
 case atStart => exact ⟨(0), ((⟨#[]⟩ : ByteArray)), (0), (0), zv5, H', ⟨Nat.le_refl _⟩, ⟨zv3c⟩, ⟨zv1j⟩⟩
 case round =>
  clear H'; try clear c1
  try clear p2
  obtain ⟨x6_1, x1159000_1, x1159001_1, x1159002_1, rfl, HA, HK1, BK1158, HB⟩ := hrel; cases gk with
  | zero => exact absurd HA.out (by simp [paymasterref11_Find.l0])
  | succ k1 =>
   have H := HA.out; clear HA; simp only [paymasterref11_Find.l0] at H
   by_cases c4 : x6_1 < (l0.length : Int)
   ·rw [if_pos c4] at H; have c4b0 : decide (x6_1 < (l0.length : Int)) = true := decide_eq_true c4; clear c4
    by_cases c5 : 0 ≤ x6_1
    ·rw [if_pos c5] at H; have c5b0 : decide (0 ≤ x6_1) = true := decide_eq_true c5; clear c5
     by_cases c6 : ((rd_T44 l0 x6_1).f0).toList = a1.toList
     ·rw [if_pos c6] at H; have c6b0 : (((rd_T44 l0 x6_1).f0).toList == a1.toList) = true := beq_iff_eq.mpr c6; have c6b1 : (((rd_T44 l0 x6_1).f0).toList != a1.toList) = false := bne_eq_false_iff_eq.mpr c6; clear c6; simp only [Option.some.injEq, Prod.mk.injEq] at H; obtain ⟨rfl, rfl, rfl, rfl⟩ := H; have p1159 : 0 ≤ (x6_1 : Int) := of_decide_eq_true zv6; have q1159 : x6_1 < (l0.length : Int) := of_decide_eq_true zv6; obtain ⟨ad1159, e1159, hx1159_0, hx1159_1, hx1159_2⟩ := at_T44 HR0.out x6_1 p1159 q1159; cases e1159; replace hx1159_0 := (HB.out.cell (World.block_lt_of_cell? w _ hx1159_0)).trans hx1159_0; replace hx1159_1 := (HB.out.cell (World.block_lt_of_cell? w _ hx1159_1)).trans hx1159_1; replace hx1159_2 := (HB.out.cell (World.block_lt_of_cell? w _ hx1159_2)).trans hx1159_2; replace p1159 := eq_true p1159; replace q1159 := eq_true q1159; have p1160 : 0 ≤ (x6_1 : Int) := of_decide_eq_true zv6; have q1160 : x6_1 < (l0.length : Int) := of_decide_eq_true zv6; obtain ⟨ad1160, e1160, hx1160_0, hx1160_1, hx1160_2⟩ := at_T44 HR0.out x6_1 p1160 q1160; obtain rfl : ad1159 = ad1160 := (by injection e1160)
      replace hx1160_0 := (HB.out.cell (World.block_lt_of_cell? w _ hx1160_0)).trans hx1160_0; replace hx1160_1 := (HB.out.cell (World.block_lt_of_cell? w _ hx1160_1)).trans hx1160_1; replace hx1160_2 := (HB.out.cell (World.block_lt_of_cell? w _ hx1160_2)).trans hx1160_2; replace p1160 := eq_true p1160; replace q1160 := eq_true q1160; have hcz7_0 : wr.cell? ⟨gb1158, 0, none⟩ = some (.string x1159000_1) := (zRa BK1158.out 0).trans rfl; have hcz7_1 : wr.cell? ⟨gb1158, 1, none⟩ = some (.int .u64 x1159001_1) := (zRa BK1158.out 1).trans rfl; have hcz7_2 : wr.cell? ⟨gb1158, 2, none⟩ = some (.int .u64 x1159002_1) := (zRa BK1158.out 2).trans rfl; have hfz7_0 := zRb BK1158.out 0; have hfz7_1 := zRb BK1158.out 1; have hfz7_2 := zRb BK1158.out 2; go_wp2; refine bodyPost_ret (zRu rfl _ _ gb1158 44 #[.string ((rd_T44 l0 x6_1).f0), .int .u64 ((rd_T44 l0 x6_1).f1.f0), .int .u64 ((rd_T44 l0 x6_1).f1.f1)] (0, 0) _ rfl (by refine zqb ?_; refine zRm (cs := #[.string ((rd_T44 l0 x6_1).f0), .int .u64 ((rd_T44 l0 x6_1).f1.f0), .int .u64 x1159002_1]) ?_ 2 _ rfl; refine zqb ?_; refine zRm (cs := #[.string ((rd_T44 l0 x6_1).f0), .int .u64 x1159001_1, .int .u64 x1159002_1]) ?_ 1 _ rfl; refine zqb ?_; refine zRm (cs := #[.string x1159000_1, .int .u64 x1159001_1, .int .u64 x1159002_1]) ?_ 0 _ rfl; refine zqb ?_; exact BK1158.out) Tryd.underlying44 rfl (by kernel_rfl)) rfl ?_; exact ⟨zv8, zv1j⟩
     ·rw [if_neg c6] at H; have c6b0 : (((rd_T44 l0 x6_1).f0).toList == a1.toList) = false := beq_eq_false_iff_ne.mpr c6; have c6b1 : (((rd_T44 l0 x6_1).f0).toList != a1.toList) = true := bne_iff_ne.mpr c6; have H' := Aside0.mk H; clear H; have p1159 : 0 ≤ (x6_1 : Int) := of_decide_eq_true zv6; have q1159 : x6_1 < (l0.length : Int) := of_decide_eq_true zv6; obtain ⟨ad1159, e1159, hx1159_0, hx1159_1, hx1159_2⟩ := at_T44 HR0.out x6_1 p1159 q1159; cases e1159; replace hx1159_0 := (HB.out.cell (World.block_lt_of_cell? w _ hx1159_0)).trans hx1159_0; replace hx1159_1 := (HB.out.cell (World.block_lt_of_cell? w _ hx1159_1)).trans hx1159_1; replace hx1159_2 := (HB.out.cell (World.block_lt_of_cell? w _ hx1159_2)).trans hx1159_2; replace p1159 := eq_true p1159; replace q1159 := eq_true q1159; go_wp2; go_roundg k1
      case measure => have := HK1.out; omega
      case rel => exact ⟨(wrap64 (x6_1 + 1)), (x1159000_1), (x1159001_1), (x1159002_1), zv5, H', ⟨zv2g⟩, ⟨zv3c⟩, ⟨zv1j⟩⟩
    ·rw [if_neg c5] at H; exact absurd H zv10
   ·rw [if_neg c4] at H; have c4b0 : decide (x6_1 < (l0.length : Int)) = false := decide_eq_false c4; clear c4; simp only [Option.some.injEq, Prod.mk.injEq] at H; obtain ⟨rfl, rfl, rfl, rfl⟩ := H; have hcz8_0 : wr.cell? ⟨gb1158, 0, none⟩ = some (.string x1159000_1) := (zRa BK1158.out 0).trans rfl; have hcz8_1 : wr.cell? ⟨gb1158, 1, none⟩ = some (.int .u64 x1159001_1) := (zRa BK1158.out 1).trans rfl; have hcz8_2 : wr.cell? ⟨gb1158, 2, none⟩ = some (.int .u64 x1159002_1) := (zRa BK1158.out 2).trans rfl; have hfz8_0 := zRb BK1158.out 0; have hfz8_1 := zRb BK1158.out 1; have hfz8_2 := zRb BK1158.out 2; go_wp2; refine bodyPost_ret (zRu rfl _ _ gb1158 44 #[.string (⟨#[]⟩ : ByteArray), .int .u64 0, .int .u64 0] (0, 0) _ rfl (by refine zqb ?_; refine zRm (cs := #[.string (⟨#[]⟩ : ByteArray), .int .u64 0, .int .u64 x1159002_1]) ?_ 2 _ rfl; refine zqb ?_; refine zRm (cs := #[.string (⟨#[]⟩ : ByteArray), .int .u64 x1159001_1, .int .u64 x1159002_1]) ?_ 1 _ rfl; refine zqb ?_; refine zRm (cs := #[.string x1159000_1, .int .u64 x1159001_1, .int .u64 x1159002_1]) ?_ 0 _ rfl; refine zqb ?_; exact BK1158.out) Tryd.underlying44 rfl (by kernel_rfl)) rfl ?_; exact ⟨zv8, zv1j⟩
def paymasterref11_Total.l0 : Nat → List (S44) → Int → Int → Int → Option (Int × Int × Int)
 | 0, _, _, _, _ => none
 | k + 1, x0, x5, x1163000, x1163001 => if x5 < (x0.length : Int) then (if 0 ≤ x5 then ((paymasterref01_Add.f k x1163000 x1163001 ((rd_T44 x0 x5).f1.f0) ((rd_T44 x0 x5).f1.f1)).bind fun bt1164 => (if bt1164.2.2 = 0 then (paymasterref11_Total.l0 k x0 (wrap64 (x5 + 1)) bt1164.1 bt1164.2.1) else (some (0, 0, 112)))) else (none)) else (some (x1163000, x1163001, 0))
def paymasterref11_Total.f (k : Nat) (l0 : List (S44)) : Option (Int × Int × Int) := paymasterref11_Total.l0 k l0 0 0 0
def paymasterref11_Total.T5 : Bool × List (List Nat × List Nat) := (true, [([], []), ([], []), ([], []), ([1, 2], [1, 2]), ([3], [3]), ([4], [4]), ([0, 5], [0, 5]), ([6], [6]), ([7], [7]), ([7], [7]), ([], []), ([10, 8, 6, 0, 1, 2, 3, 4, 5, 6, 7, 8, 10], [8, 10]), ([9, 11, 0, 1, 2, 3, 4, 5, 6, 7, 8, 9, 10, 11], [9])])
def paymasterref11_Total.B5 : List Nat := [0, 0, 0, 6, 14, 30, 63, 127, 255, 255, 0, 1535, 4095]
theorem paymasterref11_Total.tab5 : rtab .any (opsOf Tryd.f118 5) = paymasterref11_Total.T5 := by kernel_rfl
theorem paymasterref11_Total.bits5 : waitsOk paymasterref11_Total.T5.2 paymasterref11_Total.B5 = true := by kernel_rfl
set_option maxHeartbeats 8000000 in
set_option maxRecDepth 100000 in
theorem paymasterref11_Total.calls (k : Nat) (A0 : Option Addr) (c0 : Nat) (l0 : List (S44)) (r1 : Int) (r2 : Int) (r3 : Int) (w : World) (hr0 : Kd.C k44 w A0 l0.length l0) (hc0 : l0.length ≤ c0) (h : paymasterref11_Total.f k l0 = some (r1, r2, r3)) :
  Calls Tryd.prog 118 #[.slice A0 l0.length c0] w fun e w' => e = .returned (.tuple #[.agg #[.int .u64 r1, .int .u64 r2], .int .i64 r3]) ∧ Below w.heap.size w w' := by
 have hu42 := Tryd.underlying42; have HR0 := Aside0.mk hr0; have HC0 := Aside0.mk hc0; clear hr0 hc0; have HB := Aside0.mk (Below.refl w.heap.size w); have H : (paymasterref11_Total.l0 k l0 0 0 0) = some (r1, r2, r3) := h; clear h; have H' := Aside0.mk H; clear H; go_enter Tryd.func118, Tryd.ntmps118
 go_wp2_with (first | ((with_reducible refine zRq (N := 2) rfl ?_); refine zRn ?hg (N := 2) ?hd (cs := #[.int .u64 0, .int .u64 0]) (t := 42) ?hr ?_; (case hd => rfl); (case hg => rfl); (case hr => first | (go_simp; done) | (go_simp; rfl)); intro gb1161 hg w2 hbox hb; have n0_ := Aside0.mk (zRd zv0 hb); have n1_ := Aside0.mk (hbox); have n2_ := Aside0.mk ((zv3w : w.heap.size ≤ gb1161)); have n3_ := Aside0.mk ((zv3w : w.heap.size ≤ gb1161)); clear HB; have HB := n0_; have BK1161 := n1_; have GW1161 := n2_; have GE1161 := n3_; clear n0_ n1_ n2_ n3_; clear hb hbox hg) | ((with_reducible refine zRq (N := 4) rfl ?_); refine zRn ?hg (N := 4) ?hd (cs := #[.int .u64 0, .int .u64 0]) (t := 42) ?hr ?_; (case hd => rfl); (case hg => rfl); (case hr => first | (go_simp; done) | (go_simp; rfl)); intro gb1162 hg w3 hbox hb; have n0_ := Aside0.mk (zRc (g := gb1161) (o := .cells #[.int .u64 0, .int .u64 0] 42 (0, 0)) (zqb BK1161.out) hb); have n1_ := Aside0.mk (zRd zv2a hb); have n2_ := Aside0.mk (hbox); have n3_ := Aside0.mk ((by rw [hg]; exact (zRg zv2a) : w.heap.size ≤ gb1162)); have n4_ := Aside0.mk ((by rw [hg]; exact (zRg zv2a) : w.heap.size ≤ gb1162)); have n5_ := Aside0.mk ((by rw [hg]; exact Nat.ne_of_lt (blk_lt (g := gb1161) (o := .cells #[.int .u64 0, .int .u64 0] 42 (0, 0)) (zqb BK1161.out)) : gb1161 ≠ gb1162)); have n6_ := Aside0.mk ((by rw [hg]; exact Nat.ne_of_gt (blk_lt (g := gb1161) (o := .cells #[.int .u64 0, .int .u64 0] 42 (0, 0)) (zqb BK1161.out)) : gb1162 ≠ gb1161)); clear BK1161; clear HB; have BK1161 := n0_; have HB := n1_; have BK1162 := n2_; have GW1162 := n3_; have GE1162 := n4_; have NB1161_1162 := n5_; have NB1162_1161 := n6_; clear n0_ n1_ n2_ n3_ n4_ n5_ n6_; clear hb hbox hg))
 go_loopg [5] k (fun kq v5 w' => ∃ (x5_1 : Int) (x1162000_1 : Int) (x1162001_1 : Int) (x1163000_1 : Int) (x1163001_1 : Int), v5 = .int .i64 x5_1 ∧ Aside0 (paymasterref11_Total.l0 kq l0 x5_1 x1163000_1 x1163001_1 = some (r1, r2, r3)) ∧ Aside0 (kq ≤ k) ∧ Aside0 (w'.heap[gb1161]? = some (.cells #[.int .u64 x1162000_1, .int .u64 x1162001_1] 42 (0, 0))) ∧ Aside0 (w'.heap[gb1162]? = some (.cells #[.int .u64 x1163000_1, .int .u64 x1163001_1] 42 (0, 0))) ∧ Aside0 (Below w.heap.size w w'))
 case atStart => exact ⟨(0), (0), (0), (0), (0), zv5, H', ⟨Nat.le_refl _⟩, ⟨(by (with_reducible repeat (first | refine zRv ?_ _ | refine zRk ?_ | refine zRf ?_ _)); exact BK1161.out)⟩, ⟨(by (with_reducible repeat (first | refine zRv ?_ _ | refine zRk ?_ | refine zRf ?_ _)); exact BK1162.out)⟩, ⟨zve⟩⟩
 case round =>
  clear H'; try clear c1
  try clear p2
  obtain ⟨x5_1, x1162000_1, x1162001_1, x1163000_1, x1163001_1, rfl, HA, HK1, BK1161, BK1162, HB⟩ := hrel; cases gk with
  | zero => exact absurd HA.out (by simp [paymasterref11_Total.l0])
  | succ k1 =>
   have H := HA.out; clear HA; simp only [paymasterref11_Total.l0] at H
   by_cases c4 : x5_1 < (l0.length : Int)
   ·rw [if_pos c4] at H; have c4b0 : decide (x5_1 < (l0.length : Int)) = true := decide_eq_true c4; clear c4
    by_cases c5 : 0 ≤ x5_1
    ·rw [if_pos c5] at H; have c5b0 : decide (0 ≤ x5_1) = true := decide_eq_true c5; clear c5; replace H := Option.bind_eq_some_iff.mp H; obtain ⟨⟨t1164, t1165, t1166⟩, A60, H⟩ := H; replace H : (if t1166 = 0 then (paymasterref11_Total.l0 k1 l0 (wrap64 (x5_1 + 1)) t1164 t1165) else (some (0, 0, 112))) = some (r1, r2, r3) := H; have A6 := Aside0.mk A60; clear A60
     by_cases c7 : t1166 = 0
     ·rw [if_pos c7] at H; have c7b0 : (t1166 == 0) = true := beq_iff_eq.mpr c7; have c7b1 : (t1166 != 0) = false := bne_eq_false_iff_eq.mpr c7; clear c7; have H' := Aside0.mk H; clear H; try go_wp2
      have n0_ := Aside0.mk (zRk BK1161.out); have n1_ := Aside0.mk (zRk BK1162.out); have n2_ := Aside0.mk (zRj HB.out); clear BK1161; clear BK1162; clear HB; have BK1161 := n0_; have BK1162 := n1_; have HB := n2_; clear n0_ n1_ n2_; have p1163 : 0 ≤ (x5_1 : Int) := of_decide_eq_true zv6; have q1163 : x5_1 < (l0.length : Int) := of_decide_eq_true zv6; obtain ⟨ad1163, e1163, hx1163_0, hx1163_1, hx1163_2⟩ := at_T44 HR0.out x5_1 p1163 q1163; have hw1163_2 := hx1163_2; have hw1163_1 := hx1163_1; have hw1163_0 := hx1163_0; cases e1163; replace hx1163_0 := (HB.out.cell (World.block_lt_of_cell? w _ hx1163_0)).trans hx1163_0; replace hx1163_1 := (HB.out.cell (World.block_lt_of_cell? w _ hx1163_1)).trans hx1163_1; replace hx1163_2 := (HB.out.cell (World.block_lt_of_cell? w _ hx1163_2)).trans hx1163_2; replace p1163 := eq_true p1163; replace q1163 := eq_true q1163; refine start_ (n := 13) (S := fun w' => w'.cell? ⟨gb1162, 0, none⟩ = some (.int .u64 x1163000_1) ∧ w'.cell? ⟨gb1162, 1, none⟩ = some (.int .u64 x1163001_1) ∧ w'.cell? (ad1163.add ((x5_1).toNat * 3)) = some (.string ((rd_T44 l0 x5_1).f0)) ∧ w'.cell? ⟨(ad1163.add ((x5_1).toNat * 3)).block, (ad1163.add ((x5_1).toNat * 3)).off + 1, none⟩ = some (.int .u64 ((rd_T44 l0 x5_1).f1.f0)) ∧ w'.cell? ⟨(ad1163.add ((x5_1).toNat * 3)).block, (ad1163.add ((x5_1).toNat * 3)).off + 2, none⟩ = some (.int .u64 ((rd_T44 l0 x5_1).f1.f1))) (ds := []) #[false, false, false, false, false, false, false, false, false, false, false, false, false] (by kernel_rfl) rfl rfl ⟨(zRa BK1162.out 0).trans rfl, (zRa BK1162.out 1).trans rfl, ((HB.out.cell (World.block_lt_of_cell? w _ hw1163_0)).trans hw1163_0), ((HB.out.cell (World.block_lt_of_cell? w _ hw1163_1)).trans hw1163_1), ((HB.out.cell (World.block_lt_of_cell? w _ hw1163_2)).trans hw1163_2)⟩ (fun hHeld => ?_); refine with_tabW paymasterref11_Total.tab5 paymasterref11_Total.bits5 (fun HT_ HW_ => ?_); generalize wr.drew = w8 at BK1161 BK1162 HB hx1163_0 hx1163_1 hx1163_2 hHeld ⊢; refine pure_ (i := 1) (N := some 16) (v := ?_) (a' := ?_) #[false, true, false, false, false, false, false, false, false, false, false, false, false] rfl rfl (any_of HT_.out (by kernel_rfl)) (fun _ _ _ h => h) (Or.inl ⟨zvv, ?_⟩) ?_ ?_; rotate_left
      ·intro w'; go_simp; with_reducible rfl
      rotate_left
      ·simp only [Act.put, zsa, zsb, zsc, i64_w, i32_w]; rfl
      refine pure_ (i := 2) (N := some 17) (v := ?_) (a' := ?_) #[false, true, true, false, false, false, false, false, false, false, false, false, false] rfl rfl (any_of HT_.out (by kernel_rfl)) (fun _ _ _ h => h) (Or.inl ⟨zvv, ?_⟩) ?_ ?_; rotate_left
      ·intro w'; go_simp; with_reducible rfl
      rotate_left
      ·simp only [Act.put, zsa, zsb, zsc, i64_w, i32_w]; rfl
      refine pure_ (i := 3) (N := some 18) (v := ?_) (a' := ?_) #[false, true, true, true, false, false, false, false, false, false, false, false, false] rfl rfl (any_of HT_.out (by kernel_rfl)) (fun _ _ _ h => h) (Or.inl ⟨zvv, ?_⟩) ?_ ?_; rotate_left
      ·intro w'; go_simp; with_reducible rfl
      rotate_left
      ·simp only [Act.put, zsa, zsb, zsc, i64_w, i32_w]; rfl
      refine pure_ (i := 4) (N := some 19) (v := ?_) (a' := ?_) #[false, true, true, true, true, false, false, false, false, false, false, false, false] rfl rfl (any_of HT_.out (by kernel_rfl)) (fun _ _ _ h => h) (Or.inl ⟨zvv, ?_⟩) ?_ ?_; rotate_left
      ·intro w'; go_simp; with_reducible rfl
      rotate_left
      ·simp only [Act.put, zsa, zsb, zsc, i64_w, i32_w]; rfl
      refine take_ (i := 0) (N := some 15) (v := ?_) (a' := ?_) #[true, true, true, true, true, false, false, false, false, false, false, false, false] rfl rfl (zRA HT_.out HW_.out (by kernel_rfl)) (fun _ _ _ h => h) (Or.inl ⟨zvv, ?_⟩) hHeld ?_ ?_; rotate_left
      ·rintro w' ⟨s0, s1, s2, s3, s4⟩; go_simp; with_reducible rfl
      rotate_left
      ·simp only [Act.put, zsa, zsb, zsc, i64_w, i32_w]; rfl
      refine take_ (i := 5) (N := some 20) (v := ?_) (a' := ?_) #[true, true, true, true, true, true, false, false, false, false, false, false, false] rfl rfl (zRA HT_.out HW_.out (by kernel_rfl)) (fun _ _ _ h => h) (Or.inl ⟨zvv, ?_⟩) hHeld ?_ ?_; rotate_left
      ·rintro w' ⟨s0, s1, s2, s3, s4⟩; go_simp; with_reducible rfl
      rotate_left
      ·simp only [Act.put, zsa, zsb, zsc, i64_w, i32_w]; rfl
      refine join_ (σ := Nat) 2 #[true, true, true, true, true, true, true, true, true, true, true, false, false] (fun s_ => [(21, .tuple #[.agg #[.int .u64 t1164, .int .u64 t1165], .int .i64 t1166]), (6, .pointer (some ⟨s_, 0, none⟩)), (14, .tuple #[.agg #[.int .u64 t1164, .int .u64 t1165], .int .i64 t1166]), (22, .agg #[.int .u64 t1164, .int .u64 t1165]), (23, .int .i64 t1166)]) (fun s_ w' => (w'.cell? ⟨gb1162, 0, none⟩ = some (.int .u64 x1163000_1) ∧ w'.cell? ⟨gb1162, 1, none⟩ = some (.int .u64 x1163001_1) ∧ w'.cell? (ad1163.add ((x5_1).toNat * 3)) = some (.string ((rd_T44 l0 x5_1).f0)) ∧ w'.cell? ⟨(ad1163.add ((x5_1).toNat * 3)).block, (ad1163.add ((x5_1).toNat * 3)).off + 1, none⟩ = some (.int .u64 ((rd_T44 l0 x5_1).f1.f0)) ∧ w'.cell? ⟨(ad1163.add ((x5_1).toNat * 3)).block, (ad1163.add ((x5_1).toNat * 3)).off + 2, none⟩ = some (.int .u64 ((rd_T44 l0 x5_1).f1.f1))) ∧ (w'.heap[gb1161]? = some (.cells #[.int .u64 x1162000_1, .int .u64 x1162001_1] 42 (0, 0))) ∧ (w'.heap[gb1162]? = some (.cells #[.int .u64 x1163000_1, .int .u64 x1163001_1] 42 (0, 0))) ∧ (w'.heap[s_]? = some (.cells #[.int .u64 0, .int .u64 0] 42 (0, 0))) ∧ (w.heap.size ≤ s_) ∧ (w.heap.size ≤ s_) ∧ (gb1161 ≠ s_) ∧ (s_ ≠ gb1161) ∧ (gb1162 ≠ s_) ∧ (s_ ≠ gb1162) ∧ (Below w.heap.size w w')) ?_ ?_; rotate_left
      ·intro hCont; refine two_ (i := 6) (j := 10) (Ni := some 21) (Nj := some 6) #[true, true, true, true, true, true, true, false, false, false, false, false, false] #[true, true, true, true, true, true, false, false, false, false, true, false, false] rfl rfl rfl rfl (two_of HT_.out (by kernel_rfl)) zvz zvz (fun K hK => ?_) (fun K hK => ?_)
       ·skip
        refine goes_ Tryd.func111 (by kernel_rfl) rfl #[.agg #[.int .u64 x1163000_1, .int .u64 x1163001_1], .agg #[.int .u64 ((rd_T44 l0 x5_1).f1.f0), .int .u64 ((rd_T44 l0 x5_1).f1.f1)]] zvv rfl rfl zv3 ?_; with_reducible refine (paymasterref01_Add.calls k1 x1163000_1 x1163001_1 ((rd_T44 l0 x5_1).f1.f0) ((rd_T44 l0 x5_1).f1.f1) t1164 t1165 t1166 _ A6.out).mono ?_; rintro e w9 ⟨rfl, hb⟩; refine ⟨_, rfl, ?_⟩; have n0_ := Aside0.mk (zRc (g := gb1161) (o := .cells #[.int .u64 x1162000_1, .int .u64 x1162001_1] 42 (0, 0)) (zqb BK1161.out) hb); have n1_ := Aside0.mk (zRc (g := gb1162) (o := .cells #[.int .u64 x1163000_1, .int .u64 x1163001_1] 42 (0, 0)) (zqb BK1162.out) hb); have n2_ := Aside0.mk (zRd zve hb); clear BK1161; clear BK1162; clear HB; have BK1161 := n0_; have BK1162 := n1_; have HB := n2_; clear n0_ n1_ n2_; (try clear hb)
        (try clear hb2)
        (try clear hk)
        (try clear hi)
        refine hK.out _ _ ⟨(zRa BK1162.out 0).trans rfl, (zRa BK1162.out 1).trans rfl, ((HB.out.cell (World.block_lt_of_cell? w _ hw1163_0)).trans hw1163_0), ((HB.out.cell (World.block_lt_of_cell? w _ hw1163_1)).trans hw1163_1), ((HB.out.cell (World.block_lt_of_cell? w _ hw1163_2)).trans hw1163_2)⟩ (fun hHeld => ?_); clear hK K; refine norm_ (a' := ?_) ?_ ?_; rotate_left
        ·show Act.put _ (some 21) _ = _; simp only [Act.put, zsa, zsb, zsc, i64_w, i32_w]; rfl
        refine pure_ (i := 7) (N := some 14) (v := ?_) (a' := ?_) #[true, true, true, true, true, true, true, true, false, false, false, false, false] rfl rfl (any_of HT_.out (by kernel_rfl)) (fun _ _ _ h => h) (Or.inl ⟨zvv, ?_⟩) ?_ ?_; rotate_left
        ·intro w'; go_simp; with_reducible rfl
        rotate_left
        ·simp only [Act.put, zsa, zsb, zsc, i64_w, i32_w]; rfl
        refine pure_ (i := 8) (N := some 22) (v := ?_) (a' := ?_) #[true, true, true, true, true, true, true, true, true, false, false, false, false] rfl rfl (any_of HT_.out (by kernel_rfl)) (fun _ _ _ h => h) (Or.inl ⟨zvv, ?_⟩) ?_ ?_; rotate_left
        ·intro w'; go_simp; with_reducible rfl
        rotate_left
        ·simp only [Act.put, zsa, zsb, zsc, i64_w, i32_w]; rfl
        refine pure_ (i := 9) (N := some 23) (v := ?_) (a' := ?_) #[true, true, true, true, true, true, true, true, true, true, false, false, false] rfl rfl (any_of HT_.out (by kernel_rfl)) (fun _ _ _ h => h) (Or.inl ⟨zvv, ?_⟩) ?_ ?_; rotate_left
        ·intro w'; go_simp; with_reducible rfl
        rotate_left
        ·simp only [Act.put, zsa, zsb, zsc, i64_w, i32_w]; rfl
        refine one_ (i := 10) (N := some 6) #[true, true, true, true, true, true, true, true, true, true, true, false, false] rfl rfl (one_of HT_.out (by kernel_rfl)) zvz (fun K hK => ?_); refine box_step ?hg (N := 6) ?hd (cs := #[.int .u64 0, .int .u64 0]) (t := 42) ?hr ?_; (case hd => rfl); (case hg => rfl); (case hr => first | (go_simp; done) | (go_simp; rfl)); intro gb1167 hg w10 hbox hb; have n0_ := Aside0.mk (zRc (g := gb1161) (o := .cells #[.int .u64 x1162000_1, .int .u64 x1162001_1] 42 (0, 0)) (zqb BK1161.out) hb); have n1_ := Aside0.mk (zRc (g := gb1162) (o := .cells #[.int .u64 x1163000_1, .int .u64 x1163001_1] 42 (0, 0)) (zqb BK1162.out) hb); have n2_ := Aside0.mk (zRd zve hb); have n3_ := Aside0.mk (hbox); have n4_ := Aside0.mk ((zv44 : w.heap.size ≤ gb1167)); have n5_ := Aside0.mk ((zv44 : w.heap.size ≤ gb1167)); have n6_ := Aside0.mk ((zv1t : gb1161 ≠ gb1167)); have n7_ := Aside0.mk ((zv1u : gb1167 ≠ gb1161)); have n8_ := Aside0.mk ((zv1v : gb1162 ≠ gb1167)); have n9_ := Aside0.mk ((zv1w : gb1167 ≠ gb1162)); clear BK1161; clear BK1162; clear HB; have BK1161 := n0_; have BK1162 := n1_; have HB := n2_; have BK1167 := n3_; have GW1167 := n4_; have GE1167 := n5_; have NB1161_1167 := n6_; have NB1167_1161 := n7_; have NB1162_1167 := n8_; have NB1167_1162 := n9_; clear n0_ n1_ n2_ n3_ n4_ n5_ n6_ n7_ n8_ n9_; clear hb hbox hg; refine hK.out _ _ ⟨(zRa BK1162.out 0).trans rfl, (zRa BK1162.out 1).trans rfl, ((HB.out.cell (World.block_lt_of_cell? w _ hw1163_0)).trans hw1163_0), ((HB.out.cell (World.block_lt_of_cell? w _ hw1163_1)).trans hw1163_1), ((HB.out.cell (World.block_lt_of_cell? w _ hw1163_2)).trans hw1163_2)⟩ (fun hHeld => ?_); clear hK K; refine norm_ (a' := ?_) ?_ ?_; rotate_left
        ·show Act.put _ (some 6) _ = _; simp only [Act.put, zsa, zsb, zsc, i64_w, i32_w]; rfl
        exact norm_ zv1b (hCont (gb1167) _ ⟨hHeld, (zqb BK1161.out), (zqb BK1162.out), (zqb BK1167.out), GW1167.out, GE1167.out, NB1161_1167.out, NB1167_1161.out, NB1162_1167.out, NB1167_1162.out, zvm⟩)
       ·skip
        refine box_step ?hg (N := 6) ?hd (cs := #[.int .u64 0, .int .u64 0]) (t := 42) ?hr ?_; (case hd => rfl); (case hg => rfl); (case hr => first | (go_simp; done) | (go_simp; rfl)); intro gb1167 hg w9 hbox hb; have n0_ := Aside0.mk (zRc (g := gb1161) (o := .cells #[.int .u64 x1162000_1, .int .u64 x1162001_1] 42 (0, 0)) (zqb BK1161.out) hb); have n1_ := Aside0.mk (zRc (g := gb1162) (o := .cells #[.int .u64 x1163000_1, .int .u64 x1163001_1] 42 (0, 0)) (zqb BK1162.out) hb); have n2_ := Aside0.mk (zRd zve hb); have n3_ := Aside0.mk (hbox); have n4_ := Aside0.mk ((zv44 : w.heap.size ≤ gb1167)); have n5_ := Aside0.mk ((zv44 : w.heap.size ≤ gb1167)); have n6_ := Aside0.mk ((zv1t : gb1161 ≠ gb1167)); have n7_ := Aside0.mk ((zv1u : gb1167 ≠ gb1161)); have n8_ := Aside0.mk ((zv1v : gb1162 ≠ gb1167)); have n9_ := Aside0.mk ((zv1w : gb1167 ≠ gb1162)); clear BK1161; clear BK1162; clear HB; have BK1161 := n0_; have BK1162 := n1_; have HB := n2_; have BK1167 := n3_; have GW1167 := n4_; have GE1167 := n5_; have NB1161_1167 := n6_; have NB1167_1161 := n7_; have NB1162_1167 := n8_; have NB1167_1162 := n9_; clear n0_ n1_ n2_ n3_ n4_ n5_ n6_ n7_ n8_ n9_; clear hb hbox hg; refine hK.out _ _ ⟨(zRa BK1162.out 0).trans rfl, (zRa BK1162.out 1).trans rfl, ((HB.out.cell (World.block_lt_of_cell? w _ hw1163_0)).trans hw1163_0), ((HB.out.cell (World.block_lt_of_cell? w _ hw1163_1)).trans hw1163_1), ((HB.out.cell (World.block_lt_of_cell? w _ hw1163_2)).trans hw1163_2)⟩ (fun hHeld => ?_); clear hK K; refine norm_ (a' := ?_) ?_ ?_; rotate_left
        ·show Act.put _ (some 6) _ = _; simp only [Act.put, zsa, zsb, zsc, i64_w, i32_w]; rfl
        refine one_ (i := 6) (N := some 21) #[true, true, true, true, true, true, true, false, false, false, true, false, false] rfl rfl (one_of HT_.out (by kernel_rfl)) zvz (fun K hK => ?_); refine goes_ Tryd.func111 (by kernel_rfl) rfl #[.agg #[.int .u64 x1163000_1, .int .u64 x1163001_1], .agg #[.int .u64 ((rd_T44 l0 x5_1).f1.f0), .int .u64 ((rd_T44 l0 x5_1).f1.f1)]] zvv rfl rfl zv3 ?_; with_reducible refine (paymasterref01_Add.calls k1 x1163000_1 x1163001_1 ((rd_T44 l0 x5_1).f1.f0) ((rd_T44 l0 x5_1).f1.f1) t1164 t1165 t1166 _ A6.out).mono ?_; rintro e w10 ⟨rfl, hb⟩; refine ⟨_, rfl, ?_⟩; have n0_ := Aside0.mk (zRc (g := gb1161) (o := .cells #[.int .u64 x1162000_1, .int .u64 x1162001_1] 42 (0, 0)) (zqb BK1161.out) hb); have n1_ := Aside0.mk (zRc (g := gb1162) (o := .cells #[.int .u64 x1163000_1, .int .u64 x1163001_1] 42 (0, 0)) (zqb BK1162.out) hb); have n2_ := Aside0.mk (zRc (g := gb1167) (o := .cells #[.int .u64 0, .int .u64 0] 42 (0, 0)) (zqb BK1167.out) hb); have n3_ := Aside0.mk (zRd zvm hb); clear BK1161; clear BK1162; clear BK1167; clear HB; have BK1161 := n0_; have BK1162 := n1_; have BK1167 := n2_; have HB := n3_; clear n0_ n1_ n2_ n3_; (try clear hb)
        (try clear hb2)
        (try clear hk)
        (try clear hi)
        refine hK.out _ _ ⟨(zRa BK1162.out 0).trans rfl, (zRa BK1162.out 1).trans rfl, ((HB.out.cell (World.block_lt_of_cell? w _ hw1163_0)).trans hw1163_0), ((HB.out.cell (World.block_lt_of_cell? w _ hw1163_1)).trans hw1163_1), ((HB.out.cell (World.block_lt_of_cell? w _ hw1163_2)).trans hw1163_2)⟩ (fun hHeld => ?_); clear hK K; refine norm_ (a' := ?_) ?_ ?_; rotate_left
        ·show Act.put _ (some 21) _ = _; simp only [Act.put, zsa, zsb, zsc, i64_w, i32_w]; rfl
        refine pure_ (i := 7) (N := some 14) (v := ?_) (a' := ?_) #[true, true, true, true, true, true, true, true, false, false, true, false, false] rfl rfl (any_of HT_.out (by kernel_rfl)) (fun _ _ _ h => h) (Or.inl ⟨zvv, ?_⟩) ?_ ?_; rotate_left
        ·intro w'; go_simp; with_reducible rfl
        rotate_left
        ·simp only [Act.put, zsa, zsb, zsc, i64_w, i32_w]; rfl
        refine pure_ (i := 8) (N := some 22) (v := ?_) (a' := ?_) #[true, true, true, true, true, true, true, true, true, false, true, false, false] rfl rfl (any_of HT_.out (by kernel_rfl)) (fun _ _ _ h => h) (Or.inl ⟨zvv, ?_⟩) ?_ ?_; rotate_left
        ·intro w'; go_simp; with_reducible rfl
        rotate_left
        ·simp only [Act.put, zsa, zsb, zsc, i64_w, i32_w]; rfl
        refine pure_ (i := 9) (N := some 23) (v := ?_) (a' := ?_) #[true, true, true, true, true, true, true, true, true, true, true, false, false] rfl rfl (any_of HT_.out (by kernel_rfl)) (fun _ _ _ h => h) (Or.inl ⟨zvv, ?_⟩) ?_ ?_; rotate_left
        ·intro w'; go_simp; with_reducible rfl
        rotate_left
        ·simp only [Act.put, zsa, zsb, zsc, i64_w, i32_w]; rfl
        exact norm_ zv1b (hCont (gb1167) _ ⟨hHeld, (zqb BK1161.out), (zqb BK1162.out), (zqb BK1167.out), GW1167.out, GE1167.out, NB1161_1167.out, NB1167_1161.out, NB1162_1167.out, NB1167_1162.out, zvm⟩)
      rintro gb1167 w11 ⟨hS_, h0_, h1_, h2_, h3_, h4_, h5_, h6_, h7_, h8_, h9_⟩; have n0_ : Aside0 (w11.heap[gb1161]? = some (.cells #[.int .u64 x1162000_1, .int .u64 x1162001_1] 42 (0, 0))) := ⟨h0_⟩
      have n1_ : Aside0 (w11.heap[gb1162]? = some (.cells #[.int .u64 x1163000_1, .int .u64 x1163001_1] 42 (0, 0))) := ⟨h1_⟩
      have n2_ : Aside0 (w11.heap[gb1167]? = some (.cells #[.int .u64 0, .int .u64 0] 42 (0, 0))) := ⟨h2_⟩
      have n3_ : Aside0 (w.heap.size ≤ gb1167) := ⟨h3_⟩
      have n4_ : Aside0 (w.heap.size ≤ gb1167) := ⟨h4_⟩
      have n5_ : Aside0 (gb1161 ≠ gb1167) := ⟨h5_⟩
      have n6_ : Aside0 (gb1167 ≠ gb1161) := ⟨h6_⟩
      have n7_ : Aside0 (gb1162 ≠ gb1167) := ⟨h7_⟩
      have n8_ : Aside0 (gb1167 ≠ gb1162) := ⟨h8_⟩
      have n9_ : Aside0 (Below w.heap.size w w11) := ⟨h9_⟩
      clear BK1161; clear BK1162; clear HB; clear h0_ h1_ h2_ h3_ h4_ h5_ h6_ h7_ h8_ h9_; have BK1161 := n0_; have BK1162 := n1_; have BK1167 := n2_; have GW1167 := n3_; have GE1167 := n4_; have NB1161_1167 := n5_; have NB1167_1161 := n6_; have NB1162_1167 := n7_; have NB1167_1162 := n8_; have HB := n9_; clear n0_ n1_ n2_ n3_ n4_ n5_ n6_ n7_ n8_ n9_; have hHeld : w11.cell? ⟨gb1162, 0, none⟩ = some (.int .u64 x1163000_1) ∧ w11.cell? ⟨gb1162, 1, none⟩ = some (.int .u64 x1163001_1) ∧ w11.cell? (ad1163.add ((x5_1).toNat * 3)) = some (.string ((rd_T44 l0 x5_1).f0)) ∧ w11.cell? ⟨(ad1163.add ((x5_1).toNat * 3)).block, (ad1163.add ((x5_1).toNat * 3)).off + 1, none⟩ = some (.int .u64 ((rd_T44 l0 x5_1).f1.f0)) ∧ w11.cell? ⟨(ad1163.add ((x5_1).toNat * 3)).block, (ad1163.add ((x5_1).toNat * 3)).off + 2, none⟩ = some (.int .u64 ((rd_T44 l0 x5_1).f1.f1)) := hS_; refine norm_ (a' := ?_) ?_ ?_; rotate_left
      ·simp only [putAll, Act.put, zsa, zsb, zsc]; rfl
      refine one_ (i := 11) (N := none) #[true, true, true, true, true, true, true, true, true, true, true, true, false] rfl rfl (one_of HT_.out (by kernel_rfl)) zvz (fun K hK => ?_); have hs12 : w11.cell? ⟨gb1167, 0, none⟩ = some (.int .u64 0) := (zRa BK1167.out 0).trans rfl; have hfs12 := zRb BK1167.out 0; have hns12_0 := NB1161_1167.out; have hns12_1 := NB1162_1167.out; have hms12_0 := NB1167_1161.out; have hms12_1 := NB1167_1162.out; have hs13 : w11.cell? ⟨gb1167, 1, none⟩ = some (.int .u64 0) := (zRa BK1167.out 1).trans rfl; have hfs13 := zRb BK1167.out 1; have hns13_0 := NB1161_1167.out; have hns13_1 := NB1162_1167.out; have hms13_0 := NB1167_1161.out; have hms13_1 := NB1167_1162.out; refine skip_ (w1 := ?_) zvv rfl ?_ ?_; rotate_left
      ·go_simp; rfl
      refine hK.out _ _ ⟨((cell_far (p := ⟨gb1167, _, none⟩) NB1162_1167.out _).trans (((cell_far (p := ⟨gb1167, _, none⟩) NB1162_1167.out _).trans (hHeld.1)))), ((cell_far (p := ⟨gb1167, _, none⟩) NB1162_1167.out _).trans (((cell_far (p := ⟨gb1167, _, none⟩) NB1162_1167.out _).trans (hHeld.2.1)))), ((cell_far (p := ⟨gb1167, _, none⟩) zv3x _).trans (((cell_far (p := ⟨gb1167, _, none⟩) zv3x _).trans (hHeld.2.2.1)))), ((cell_far (p := ⟨gb1167, _, none⟩) zv3y _).trans (((cell_far (p := ⟨gb1167, _, none⟩) zv3y _).trans (hHeld.2.2.2.1)))), ((cell_far (p := ⟨gb1167, _, none⟩) zv3z _).trans (((cell_far (p := ⟨gb1167, _, none⟩) zv3z _).trans (hHeld.2.2.2.2))))⟩ (fun hHeld => ?_); clear hK K; refine pure_ (i := 12) (N := some 7) (v := ?_) (a' := ?_) #[true, true, true, true, true, true, true, true, true, true, true, true, true] rfl rfl (any_of HT_.out (by kernel_rfl)) (fun _ _ _ h => h) (Or.inl ⟨zvv, ?_⟩) ?_ ?_; rotate_left
      ·intro w'; go_simp; with_reducible rfl
      rotate_left
      ·simp only [Act.put, zsa, zsb, zsc, i64_w, i32_w]; rfl
      refine done_ (done_of HT_.out (by kernel_rfl)) ?_; have hnb14 := NB1167_1161.out; have hnc14 := NB1161_1167.out; have hnb15 := NB1167_1162.out; have hnc15 := NB1162_1167.out; have hcz16_0 : w11.cell? ⟨gb1167, 0, none⟩ = some (.int .u64 0) := (zRa BK1167.out 0).trans rfl; have hcz16_1 : w11.cell? ⟨gb1167, 1, none⟩ = some (.int .u64 0) := (zRa BK1167.out 1).trans rfl; have hfz16_0 := zRb BK1167.out 0; have hfz16_1 := zRb BK1167.out 1; have hnb17 := NB1162_1161.out; have hnc17 := NB1161_1162.out; have hcz18_0 : w11.cell? ⟨gb1162, 0, none⟩ = some (.int .u64 x1163000_1) := (zRa BK1162.out 0).trans rfl; have hcz18_1 : w11.cell? ⟨gb1162, 1, none⟩ = some (.int .u64 x1163001_1) := (zRa BK1162.out 1).trans rfl; have hfz18_0 := zRb BK1162.out 0; have hfz18_1 := zRb BK1162.out 1; try go_wp2
      go_roundg k1
      case measure => have := HK1.out; omega
      case rel => exact ⟨(wrap64 (x5_1 + 1)), (x1162000_1), (x1162001_1), (t1164), (t1165), zv5, H', ⟨zv2g⟩, ⟨(by refine zqb ?_; refine zRr ?_ NB1161_1162.out _; refine zqb ?_; refine zRr ?_ NB1161_1162.out _; refine zqb ?_; refine zRr ?_ NB1161_1167.out _; refine zqb ?_; refine zRr ?_ NB1161_1167.out _; refine zqb ?_; exact BK1161.out)⟩, ⟨(by refine zqb ?_; refine zRm (cs := #[.int .u64 t1164, .int .u64 x1163001_1]) ?_ 1 _ rfl; refine zqb ?_; refine zRm (cs := #[.int .u64 x1163000_1, .int .u64 x1163001_1]) ?_ 0 _ rfl; refine zqb ?_; refine zRr ?_ NB1162_1167.out _; refine zqb ?_; refine zRr ?_ NB1162_1167.out _; refine zqb ?_; exact BK1162.out)⟩, ⟨zvm⟩⟩
     ·rw [if_neg c7] at H; have c7b0 : (t1166 == 0) = false := beq_eq_false_iff_ne.mpr c7; have c7b1 : (t1166 != 0) = true := bne_iff_ne.mpr c7; simp only [Option.some.injEq, Prod.mk.injEq] at H; obtain ⟨rfl, rfl, rfl⟩ := H; try go_wp2
      have n0_ := Aside0.mk (zRk BK1161.out); have n1_ := Aside0.mk (zRk BK1162.out); have n2_ := Aside0.mk (zRj HB.out); clear BK1161; clear BK1162; clear HB; have BK1161 := n0_; have BK1162 := n1_; have HB := n2_; clear n0_ n1_ n2_; have p1163 : 0 ≤ (x5_1 : Int) := of_decide_eq_true zv6; have q1163 : x5_1 < (l0.length : Int) := of_decide_eq_true zv6; obtain ⟨ad1163, e1163, hx1163_0, hx1163_1, hx1163_2⟩ := at_T44 HR0.out x5_1 p1163 q1163; have hw1163_2 := hx1163_2; have hw1163_1 := hx1163_1; have hw1163_0 := hx1163_0; cases e1163; replace hx1163_0 := (HB.out.cell (World.block_lt_of_cell? w _ hx1163_0)).trans hx1163_0; replace hx1163_1 := (HB.out.cell (World.block_lt_of_cell? w _ hx1163_1)).trans hx1163_1; replace hx1163_2 := (HB.out.cell (World.block_lt_of_cell? w _ hx1163_2)).trans hx1163_2; replace p1163 := eq_true p1163; replace q1163 := eq_true q1163; refine start_ (n := 13) (S := fun w' => w'.cell? ⟨gb1162, 0, none⟩ = some (.int .u64 x1163000_1) ∧ w'.cell? ⟨gb1162, 1, none⟩ = some (.int .u64 x1163001_1) ∧ w'.cell? (ad1163.add ((x5_1).toNat * 3)) = some (.string ((rd_T44 l0 x5_1).f0)) ∧ w'.cell? ⟨(ad1163.add ((x5_1).toNat * 3)).block, (ad1163.add ((x5_1).toNat * 3)).off + 1, none⟩ = some (.int .u64 ((rd_T44 l0 x5_1).f1.f0)) ∧ w'.cell? ⟨(ad1163.add ((x5_1).toNat * 3)).block, (ad1163.add ((x5_1).toNat * 3)).off + 2, none⟩ = some (.int .u64 ((rd_T44 l0 x5_1).f1.f1))) (ds := []) #[false, false, false, false, false, false, false, false, false, false, false, false, false] (by kernel_rfl) rfl rfl ⟨(zRa BK1162.out 0).trans rfl, (zRa BK1162.out 1).trans rfl, ((HB.out.cell (World.block_lt_of_cell? w _ hw1163_0)).trans hw1163_0), ((HB.out.cell (World.block_lt_of_cell? w _ hw1163_1)).trans hw1163_1), ((HB.out.cell (World.block_lt_of_cell? w _ hw1163_2)).trans hw1163_2)⟩ (fun hHeld => ?_); refine with_tabW paymasterref11_Total.tab5 paymasterref11_Total.bits5 (fun HT_ HW_ => ?_); generalize wr.drew = w19 at BK1161 BK1162 HB hx1163_0 hx1163_1 hx1163_2 hHeld ⊢; refine pure_ (i := 1) (N := some 16) (v := ?_) (a' := ?_) #[false, true, false, false, false, false, false, false, false, false, false, false, false] rfl rfl (any_of HT_.out (by kernel_rfl)) (fun _ _ _ h => h) (Or.inl ⟨zvv, ?_⟩) ?_ ?_; rotate_left
      ·intro w'; go_simp; with_reducible rfl
      rotate_left
      ·simp only [Act.put, zsa, zsb, zsc, i64_w, i32_w]; rfl
      refine pure_ (i := 2) (N := some 17) (v := ?_) (a' := ?_) #[false, true, true, false, false, false, false, false, false, false, false, false, false] rfl rfl (any_of HT_.out (by kernel_rfl)) (fun _ _ _ h => h) (Or.inl ⟨zvv, ?_⟩) ?_ ?_; rotate_left
      ·intro w'; go_simp; with_reducible rfl
      rotate_left
      ·simp only [Act.put, zsa, zsb, zsc, i64_w, i32_w]; rfl
      refine pure_ (i := 3) (N := some 18) (v := ?_) (a' := ?_) #[false, true, true, true, false, false, false, false, false, false, false, false, false] rfl rfl (any_of HT_.out (by kernel_rfl)) (fun _ _ _ h => h) (Or.inl ⟨zvv, ?_⟩) ?_ ?_; rotate_left
      ·intro w'; go_simp; with_reducible rfl
      rotate_left
      ·simp only [Act.put, zsa, zsb, zsc, i64_w, i32_w]; rfl
      refine pure_ (i := 4) (N := some 19) (v := ?_) (a' := ?_) #[false, true, true, true, true, false, false, false, false, false, false, false, false] rfl rfl (any_of HT_.out (by kernel_rfl)) (fun _ _ _ h => h) (Or.inl ⟨zvv, ?_⟩) ?_ ?_; rotate_left
      ·intro w'; go_simp; with_reducible rfl
      rotate_left
      ·simp only [Act.put, zsa, zsb, zsc, i64_w, i32_w]; rfl
      refine take_ (i := 0) (N := some 15) (v := ?_) (a' := ?_) #[true, true, true, true, true, false, false, false, false, false, false, false, false] rfl rfl (zRA HT_.out HW_.out (by kernel_rfl)) (fun _ _ _ h => h) (Or.inl ⟨zvv, ?_⟩) hHeld ?_ ?_; rotate_left
      ·rintro w' ⟨s0, s1, s2, s3, s4⟩; go_simp; with_reducible rfl
      rotate_left
      ·simp only [Act.put, zsa, zsb, zsc, i64_w, i32_w]; rfl
      refine take_ (i := 5) (N := some 20) (v := ?_) (a' := ?_) #[true, true, true, true, true, true, false, false, false, false, false, false, false] rfl rfl (zRA HT_.out HW_.out (by kernel_rfl)) (fun _ _ _ h => h) (Or.inl ⟨zvv, ?_⟩) hHeld ?_ ?_; rotate_left
      ·rintro w' ⟨s0, s1, s2, s3, s4⟩; go_simp; with_reducible rfl
      rotate_left
      ·simp only [Act.put, zsa, zsb, zsc, i64_w, i32_w]; rfl
      refine join_ (σ := Nat) 2 #[true, true, true, true, true, true, true, true, true, true, true, false, false] (fun s_ => [(21, .tuple #[.agg #[.int .u64 t1164, .int .u64 t1165], .int .i64 t1166]), (6, .pointer (some ⟨s_, 0, none⟩)), (14, .tuple #[.agg #[.int .u64 t1164, .int .u64 t1165], .int .i64 t1166]), (22, .agg #[.int .u64 t1164, .int .u64 t1165]), (23, .int .i64 t1166)]) (fun s_ w' => (w'.cell? ⟨gb1162, 0, none⟩ = some (.int .u64 x1163000_1) ∧ w'.cell? ⟨gb1162, 1, none⟩ = some (.int .u64 x1163001_1) ∧ w'.cell? (ad1163.add ((x5_1).toNat * 3)) = some (.string ((rd_T44 l0 x5_1).f0)) ∧ w'.cell? ⟨(ad1163.add ((x5_1).toNat * 3)).block, (ad1163.add ((x5_1).toNat * 3)).off + 1, none⟩ = some (.int .u64 ((rd_T44 l0 x5_1).f1.f0)) ∧ w'.cell? ⟨(ad1163.add ((x5_1).toNat * 3)).block, (ad1163.add ((x5_1).toNat * 3)).off + 2, none⟩ = some (.int .u64 ((rd_T44 l0 x5_1).f1.f1))) ∧ (w'.heap[gb1161]? = some (.cells #[.int .u64 x1162000_1, .int .u64 x1162001_1] 42 (0, 0))) ∧ (w'.heap[gb1162]? = some (.cells #[.int .u64 x1163000_1, .int .u64 x1163001_1] 42 (0, 0))) ∧ (w'.heap[s_]? = some (.cells #[.int .u64 0, .int .u64 0] 42 (0, 0))) ∧ (w.heap.size ≤ s_) ∧ (w.heap.size ≤ s_) ∧ (gb1161 ≠ s_) ∧ (s_ ≠ gb1161) ∧ (gb1162 ≠ s_) ∧ (s_ ≠ gb1162) ∧ (Below w.heap.size w w')) ?_ ?_; rotate_left
      ·intro hCont; refine two_ (i := 6) (j := 10) (Ni := some 21) (Nj := some 6) #[true, true, true, true, true, true, true, false, false, false, false, false, false] #[true, true, true, true, true, true, false, false, false, false, true, false, false] rfl rfl rfl rfl (two_of HT_.out (by kernel_rfl)) zvz zvz (fun K hK => ?_) (fun K hK => ?_)
       ·skip
        refine goes_ Tryd.func111 (by kernel_rfl) rfl #[.agg #[.int .u64 x1163000_1, .int .u64 x1163001_1], .agg #[.int .u64 ((rd_T44 l0 x5_1).f1.f0), .int .u64 ((rd_T44 l0 x5_1).f1.f1)]] zvv rfl rfl zv3 ?_; with_reducible refine (paymasterref01_Add.calls k1 x1163000_1 x1163001_1 ((rd_T44 l0 x5_1).f1.f0) ((rd_T44 l0 x5_1).f1.f1) t1164 t1165 t1166 _ A6.out).mono ?_; rintro e w20 ⟨rfl, hb⟩; refine ⟨_, rfl, ?_⟩; have n0_ := Aside0.mk (zRc (g := gb1161) (o := .cells #[.int .u64 x1162000_1, .int .u64 x1162001_1] 42 (0, 0)) (zqb BK1161.out) hb); have n1_ := Aside0.mk (zRc (g := gb1162) (o := .cells #[.int .u64 x1163000_1, .int .u64 x1163001_1] 42 (0, 0)) (zqb BK1162.out) hb); have n2_ := Aside0.mk (zRd zve hb); clear BK1161; clear BK1162; clear HB; have BK1161 := n0_; have BK1162 := n1_; have HB := n2_; clear n0_ n1_ n2_; (try clear hb)
        (try clear hb2)
        (try clear hk)
        (try clear hi)
        refine hK.out _ _ ⟨(zRa BK1162.out 0).trans rfl, (zRa BK1162.out 1).trans rfl, ((HB.out.cell (World.block_lt_of_cell? w _ hw1163_0)).trans hw1163_0), ((HB.out.cell (World.block_lt_of_cell? w _ hw1163_1)).trans hw1163_1), ((HB.out.cell (World.block_lt_of_cell? w _ hw1163_2)).trans hw1163_2)⟩ (fun hHeld => ?_); clear hK K; refine norm_ (a' := ?_) ?_ ?_; rotate_left
        ·show Act.put _ (some 21) _ = _; simp only [Act.put, zsa, zsb, zsc, i64_w, i32_w]; rfl
        refine pure_ (i := 7) (N := some 14) (v := ?_) (a' := ?_) #[true, true, true, true, true, true, true, true, false, false, false, false, false] rfl rfl (any_of HT_.out (by kernel_rfl)) (fun _ _ _ h => h) (Or.inl ⟨zvv, ?_⟩) ?_ ?_; rotate_left
        ·intro w'; go_simp; with_reducible rfl
        rotate_left
        ·simp only [Act.put, zsa, zsb, zsc, i64_w, i32_w]; rfl
        refine pure_ (i := 8) (N := some 22) (v := ?_) (a' := ?_) #[true, true, true, true, true, true, true, true, true, false, false, false, false] rfl rfl (any_of HT_.out (by kernel_rfl)) (fun _ _ _ h => h) (Or.inl ⟨zvv, ?_⟩) ?_ ?_; rotate_left
        ·intro w'; go_simp; with_reducible rfl
        rotate_left
        ·simp only [Act.put, zsa, zsb, zsc, i64_w, i32_w]; rfl
        refine pure_ (i := 9) (N := some 23) (v := ?_) (a' := ?_) #[true, true, true, true, true, true, true, true, true, true, false, false, false] rfl rfl (any_of HT_.out (by kernel_rfl)) (fun _ _ _ h => h) (Or.inl ⟨zvv, ?_⟩) ?_ ?_; rotate_left
        ·intro w'; go_simp; with_reducible rfl
        rotate_left
        ·simp only [Act.put, zsa, zsb, zsc, i64_w, i32_w]; rfl
        refine one_ (i := 10) (N := some 6) #[true, true, true, true, true, true, true, true, true, true, true, false, false] rfl rfl (one_of HT_.out (by kernel_rfl)) zvz (fun K hK => ?_); refine box_step ?hg (N := 6) ?hd (cs := #[.int .u64 0, .int .u64 0]) (t := 42) ?hr ?_; (case hd => rfl); (case hg => rfl); (case hr => first | (go_simp; done) | (go_simp; rfl)); intro gb1167 hg w21 hbox hb; have n0_ := Aside0.mk (zRc (g := gb1161) (o := .cells #[.int .u64 x1162000_1, .int .u64 x1162001_1] 42 (0, 0)) (zqb BK1161.out) hb); have n1_ := Aside0.mk (zRc (g := gb1162) (o := .cells #[.int .u64 x1163000_1, .int .u64 x1163001_1] 42 (0, 0)) (zqb BK1162.out) hb); have n2_ := Aside0.mk (zRd zve hb); have n3_ := Aside0.mk (hbox); have n4_ := Aside0.mk ((zv44 : w.heap.size ≤ gb1167)); have n5_ := Aside0.mk ((zv44 : w.heap.size ≤ gb1167)); have n6_ := Aside0.mk ((zv1t : gb1161 ≠ gb1167)); have n7_ := Aside0.mk ((zv1u : gb1167 ≠ gb1161)); have n8_ := Aside0.mk ((zv1v : gb1162 ≠ gb1167)); have n9_ := Aside0.mk ((zv1w : gb1167 ≠ gb1162)); clear BK1161; clear BK1162; clear HB; have BK1161 := n0_; have BK1162 := n1_; have HB := n2_; have BK1167 := n3_; have GW1167 := n4_; have GE1167 := n5_; have NB1161_1167 := n6_; have NB1167_1161 := n7_; have NB1162_1167 := n8_; have NB1167_1162 := n9_; clear n0_ n1_ n2_ n3_ n4_ n5_ n6_ n7_ n8_ n9_; clear hb hbox hg; refine hK.out _ _ ⟨(zRa BK1162.out 0).trans rfl, (zRa BK1162.out 1).trans rfl, ((HB.out.cell (World.block_lt_of_cell? w _ hw1163_0)).trans hw1163_0), ((HB.out.cell (World.block_lt_of_cell? w _ hw1163_1)).trans hw1163_1), ((HB.out.cell (World.block_lt_of_cell? w _ hw1163_2)).trans hw1163_2)⟩ (fun hHeld => ?_); clear hK K; refine norm_ (a' := ?_) ?_ ?_; rotate_left
        ·show Act.put _ (some 6) _ = _; simp only [Act.put, zsa, zsb, zsc, i64_w, i32_w]; rfl
        exact norm_ zv1b (hCont (gb1167) _ ⟨hHeld, (zqb BK1161.out), (zqb BK1162.out), (zqb BK1167.out), GW1167.out, GE1167.out, NB1161_1167.out, NB1167_1161.out, NB1162_1167.out, NB1167_1162.out, zvm⟩)
       ·skip
        refine box_step ?hg (N := 6) ?hd (cs := #[.int .u64 0, .int .u64 0]) (t := 42) ?hr ?_; (case hd => rfl); (case hg => rfl); (case hr => first | (go_simp; done) | (go_simp; rfl)); intro gb1167 hg w20 hbox hb; have n0_ := Aside0.mk (zRc (g := gb1161) (o := .cells #[.int .u64 x1162000_1, .int .u64 x1162001_1] 42 (0, 0)) (zqb BK1161.out) hb); have n1_ := Aside0.mk (zRc (g := gb1162) (o := .cells #[.int .u64 x1163000_1, .int .u64 x1163001_1] 42 (0, 0)) (zqb BK1162.out) hb); have n2_ := Aside0.mk (zRd zve hb); have n3_ := Aside0.mk (hbox); have n4_ := Aside0.mk ((zv44 : w.heap.size ≤ gb1167)); have n5_ := Aside0.mk ((zv44 : w.heap.size ≤ gb1167)); have n6_ := Aside0.mk ((zv1t : gb1161 ≠ gb1167)); have n7_ := Aside0.mk ((zv1u : gb1167 ≠ gb1161)); have n8_ := Aside0.mk ((zv1v : gb1162 ≠ gb1167)); have n9_ := Aside0.mk ((zv1w : gb1167 ≠ gb1162)); clear BK1161; clear BK1162; clear HB; have BK1161 := n0_; have BK1162 := n1_; have HB := n2_; have BK1167 := n3_; have GW1167 := n4_; have GE1167 := n5_; have NB1161_1167 := n6_; have NB1167_1161 := n7_; have NB1162_1167 := n8_; have NB1167_1162 := n9_; clear n0_ n1_ n2_ n3_ n4_ n5_ n6_ n7_ n8_ n9_; clear hb hbox hg; refine hK.out _ _ ⟨(zRa BK1162.out 0).trans rfl, (zRa BK1162.out 1).trans rfl, ((HB.out.cell (World.block_lt_of_cell? w _ hw1163_0)).trans hw1163_0), ((HB.out.cell (World.block_lt_of_cell? w _ hw1163_1)).trans hw1163_1), ((HB.out.cell (World.block_lt_of_cell? w _ hw1163_2)).trans hw1163_2)⟩ (fun hHeld => ?_); clear hK K; refine norm_ (a' := ?_) ?_ ?_; rotate_left
        ·show Act.put _ (some 6) _ = _; simp only [Act.put, zsa, zsb, zsc, i64_w, i32_w]; rfl
        refine one_ (i := 6) (N := some 21) #[true, true, true, true, true, true, true, false, false, false, true, false, false] rfl rfl (one_of HT_.out (by kernel_rfl)) zvz (fun K hK => ?_); refine goes_ Tryd.func111 (by kernel_rfl) rfl #[.agg #[.int .u64 x1163000_1, .int .u64 x1163001_1], .agg #[.int .u64 ((rd_T44 l0 x5_1).f1.f0), .int .u64 ((rd_T44 l0 x5_1).f1.f1)]] zvv rfl rfl zv3 ?_; with_reducible refine (paymasterref01_Add.calls k1 x1163000_1 x1163001_1 ((rd_T44 l0 x5_1).f1.f0) ((rd_T44 l0 x5_1).f1.f1) t1164 t1165 t1166 _ A6.out).mono ?_; rintro e w21 ⟨rfl, hb⟩; refine ⟨_, rfl, ?_⟩; have n0_ := Aside0.mk (zRc (g := gb1161) (o := .cells #[.int .u64 x1162000_1, .int .u64 x1162001_1] 42 (0, 0)) (zqb BK1161.out) hb); have n1_ := Aside0.mk (zRc (g := gb1162) (o := .cells #[.int .u64 x1163000_1, .int .u64 x1163001_1] 42 (0, 0)) (zqb BK1162.out) hb); have n2_ := Aside0.mk (zRc (g := gb1167) (o := .cells #[.int .u64 0, .int .u64 0] 42 (0, 0)) (zqb BK1167.out) hb); have n3_ := Aside0.mk (zRd zvm hb); clear BK1161; clear BK1162; clear BK1167; clear HB; have BK1161 := n0_; have BK1162 := n1_; have BK1167 := n2_; have HB := n3_; clear n0_ n1_ n2_ n3_; (try clear hb)
        (try clear hb2)
        (try clear hk)
        (try clear hi)
        refine hK.out _ _ ⟨(zRa BK1162.out 0).trans rfl, (zRa BK1162.out 1).trans rfl, ((HB.out.cell (World.block_lt_of_cell? w _ hw1163_0)).trans hw1163_0), ((HB.out.cell (World.block_lt_of_cell? w _ hw1163_1)).trans hw1163_1), ((HB.out.cell (World.block_lt_of_cell? w _ hw1163_2)).trans hw1163_2)⟩ (fun hHeld => ?_); clear hK K; refine norm_ (a' := ?_) ?_ ?_; rotate_left
        ·show Act.put _ (some 21) _ = _; simp only [Act.put, zsa, zsb, zsc, i64_w, i32_w]; rfl
        refine pure_ (i := 7) (N := some 14) (v := ?_) (a' := ?_) #[true, true, true, true, true, true, true, true, false, false, true, false, false] rfl rfl (any_of HT_.out (by kernel_rfl)) (fun _ _ _ h => h) (Or.inl ⟨zvv, ?_⟩) ?_ ?_; rotate_left
        ·intro w'; go_simp; with_reducible rfl
        rotate_left
        ·simp only [Act.put, zsa, zsb, zsc, i64_w, i32_w]; rfl
        refine pure_ (i := 8) (N := some 22) (v := ?_) (a' := ?_) #[true, true, true, true, true, true, true, true, true, false, true, false, false] rfl rfl (any_of HT_.out (by kernel_rfl)) (fun _ _ _ h => h) (Or.inl ⟨zvv, ?_⟩) ?_ ?_; rotate_left
        ·intro w'; go_simp; with_reducible rfl
        rotate_left
        ·simp only [Act.put, zsa, zsb, zsc, i64_w, i32_w]; rfl
        refine pure_ (i := 9) (N := some 23) (v := ?_) (a' := ?_) #[true, true, true, true, true, true, true, true, true, true, true, false, false] rfl rfl (any_of HT_.out (by kernel_rfl)) (fun _ _ _ h => h) (Or.inl ⟨zvv, ?_⟩) ?_ ?_; rotate_left
        ·intro w'; go_simp; with_reducible rfl
        rotate_left
        ·simp only [Act.put, zsa, zsb, zsc, i64_w, i32_w]; rfl
        exact norm_ zv1b (hCont (gb1167) _ ⟨hHeld, (zqb BK1161.out), (zqb BK1162.out), (zqb BK1167.out), GW1167.out, GE1167.out, NB1161_1167.out, NB1167_1161.out, NB1162_1167.out, NB1167_1162.out, zvm⟩)
      rintro gb1167 w22 ⟨hS_, h0_, h1_, h2_, h3_, h4_, h5_, h6_, h7_, h8_, h9_⟩; have n0_ : Aside0 (w22.heap[gb1161]? = some (.cells #[.int .u64 x1162000_1, .int .u64 x1162001_1] 42 (0, 0))) := ⟨h0_⟩
      have n1_ : Aside0 (w22.heap[gb1162]? = some (.cells #[.int .u64 x1163000_1, .int .u64 x1163001_1] 42 (0, 0))) := ⟨h1_⟩
      have n2_ : Aside0 (w22.heap[gb1167]? = some (.cells #[.int .u64 0, .int .u64 0] 42 (0, 0))) := ⟨h2_⟩
      have n3_ : Aside0 (w.heap.size ≤ gb1167) := ⟨h3_⟩
      have n4_ : Aside0 (w.heap.size ≤ gb1167) := ⟨h4_⟩
      have n5_ : Aside0 (gb1161 ≠ gb1167) := ⟨h5_⟩
      have n6_ : Aside0 (gb1167 ≠ gb1161) := ⟨h6_⟩
      have n7_ : Aside0 (gb1162 ≠ gb1167) := ⟨h7_⟩
      have n8_ : Aside0 (gb1167 ≠ gb1162) := ⟨h8_⟩
      have n9_ : Aside0 (Below w.heap.size w w22) := ⟨h9_⟩
      clear BK1161; clear BK1162; clear HB; clear h0_ h1_ h2_ h3_ h4_ h5_ h6_ h7_ h8_ h9_; have BK1161 := n0_; have BK1162 := n1_; have BK1167 := n2_; have GW1167 := n3_; have GE1167 := n4_; have NB1161_1167 := n5_; have NB1167_1161 := n6_; have NB1162_1167 := n7_; have NB1167_1162 := n8_; have HB := n9_; clear n0_ n1_ n2_ n3_ n4_ n5_ n6_ n7_ n8_ n9_; have hHeld : w22.cell? ⟨gb1162, 0, none⟩ = some (.int .u64 x1163000_1) ∧ w22.cell? ⟨gb1162, 1, none⟩ = some (.int .u64 x1163001_1) ∧ w22.cell? (ad1163.add ((x5_1).toNat * 3)) = some (.string ((rd_T44 l0 x5_1).f0)) ∧ w22.cell? ⟨(ad1163.add ((x5_1).toNat * 3)).block, (ad1163.add ((x5_1).toNat * 3)).off + 1, none⟩ = some (.int .u64 ((rd_T44 l0 x5_1).f1.f0)) ∧ w22.cell? ⟨(ad1163.add ((x5_1).toNat * 3)).block, (ad1163.add ((x5_1).toNat * 3)).off + 2, none⟩ = some (.int .u64 ((rd_T44 l0 x5_1).f1.f1)) := hS_; refine norm_ (a' := ?_) ?_ ?_; rotate_left
      ·simp only [putAll, Act.put, zsa, zsb, zsc]; rfl
      refine one_ (i := 11) (N := none) #[true, true, true, true, true, true, true, true, true, true, true, true, false] rfl rfl (one_of HT_.out (by kernel_rfl)) zvz (fun K hK => ?_); have hs23 : w22.cell? ⟨gb1167, 0, none⟩ = some (.int .u64 0) := (zRa BK1167.out 0).trans rfl; have hfs23 := zRb BK1167.out 0; have hns23_0 := NB1161_1167.out; have hns23_1 := NB1162_1167.out; have hms23_0 := NB1167_1161.out; have hms23_1 := NB1167_1162.out; have hs24 : w22.cell? ⟨gb1167, 1, none⟩ = some (.int .u64 0) := (zRa BK1167.out 1).trans rfl; have hfs24 := zRb BK1167.out 1; have hns24_0 := NB1161_1167.out; have hns24_1 := NB1162_1167.out; have hms24_0 := NB1167_1161.out; have hms24_1 := NB1167_1162.out; refine skip_ (w1 := ?_) zvv rfl ?_ ?_; rotate_left
      ·go_simp; rfl
      refine hK.out _ _ ⟨((cell_far (p := ⟨gb1167, _, none⟩) NB1162_1167.out _).trans (((cell_far (p := ⟨gb1167, _, none⟩) NB1162_1167.out _).trans (hHeld.1)))), ((cell_far (p := ⟨gb1167, _, none⟩) NB1162_1167.out _).trans (((cell_far (p := ⟨gb1167, _, none⟩) NB1162_1167.out _).trans (hHeld.2.1)))), ((cell_far (p := ⟨gb1167, _, none⟩) zv3x _).trans (((cell_far (p := ⟨gb1167, _, none⟩) zv3x _).trans (hHeld.2.2.1)))), ((cell_far (p := ⟨gb1167, _, none⟩) zv3y _).trans (((cell_far (p := ⟨gb1167, _, none⟩) zv3y _).trans (hHeld.2.2.2.1)))), ((cell_far (p := ⟨gb1167, _, none⟩) zv3z _).trans (((cell_far (p := ⟨gb1167, _, none⟩) zv3z _).trans (hHeld.2.2.2.2))))⟩ (fun hHeld => ?_); clear hK K; refine pure_ (i := 12) (N := some 7) (v := ?_) (a' := ?_) #[true, true, true, true, true, true, true, true, true, true, true, true, true] rfl rfl (any_of HT_.out (by kernel_rfl)) (fun _ _ _ h => h) (Or.inl ⟨zvv, ?_⟩) ?_ ?_; rotate_left
      ·intro w'; go_simp; with_reducible rfl
      rotate_left
      ·simp only [Act.put, zsa, zsb, zsc, i64_w, i32_w]; rfl
      refine done_ (done_of HT_.out (by kernel_rfl)) ?_; have hnb25 := NB1161_1162.out; have hnc25 := NB1162_1161.out; have hnb26 := NB1161_1167.out; have hnc26 := NB1167_1161.out; have hcz27_0 : w22.cell? ⟨gb1161, 0, none⟩ = some (.int .u64 x1162000_1) := (zRa BK1161.out 0).trans rfl; have hcz27_1 : w22.cell? ⟨gb1161, 1, none⟩ = some (.int .u64 x1162001_1) := (zRa BK1161.out 1).trans rfl; have hfz27_0 := zRb BK1161.out 0; have hfz27_1 := zRb BK1161.out 1; try go_wp2
      refine bodyPost_ret (zRu rfl _ _ gb1161 42 #[.int .u64 0, .int .u64 0] (0, 0) _ rfl (by refine zqb ?_; refine zRm (cs := #[.int .u64 0, .int .u64 x1162001_1]) ?_ 1 _ rfl; refine zqb ?_; refine zRm (cs := #[.int .u64 x1162000_1, .int .u64 x1162001_1]) ?_ 0 _ rfl; refine zqb ?_; refine zRr ?_ NB1161_1167.out _; refine zqb ?_; refine zRr ?_ NB1161_1167.out _; refine zqb ?_; exact BK1161.out) Tryd.underlying42 rfl (by kernel_rfl)) rfl ?_; exact ⟨zv8, zvm⟩
    ·rw [if_neg c5] at H; exact absurd H zv10
   ·rw [if_neg c4] at H; have c4b0 : decide (x5_1 < (l0.length : Int)) = false := decide_eq_false c4; clear c4; simp only [Option.some.injEq, Prod.mk.injEq] at H; obtain ⟨rfl, rfl, rfl⟩ := H; have hnb28 := NB1162_1161.out; have hnc28 := NB1161_1162.out; have hcz29_0 : wr.cell? ⟨gb1162, 0, none⟩ = some (.int .u64 x1163000_1) := (zRa BK1162.out 0).trans rfl; have hcz29_1 : wr.cell? ⟨gb1162, 1, none⟩ = some (.int .u64 x1163001_1) := (zRa BK1162.out 1).trans rfl; have hfz29_0 := zRb BK1162.out 0; have hfz29_1 := zRb BK1162.out 1; have hcz30_0 : wr.cell? ⟨gb1161, 0, none⟩ = some (.int .u64 x1162000_1) := (zRa BK1161.out 0).trans rfl; have hcz30_1 : wr.cell? ⟨gb1161, 1, none⟩ = some (.int .u64 x1162001_1) := (zRa BK1161.out 1).trans rfl; have hfz30_0 := zRb BK1161.out 0; have hfz30_1 := zRb BK1161.out 1; go_wp2; refine bodyPost_ret (zRu rfl _ _ gb1161 42 #[.int .u64 x1163000_1, .int .u64 x1163001_1] (0, 0) _ rfl (by refine zqb ?_; refine zRm (cs := #[.int .u64 x1163000_1, .int .u64 x1162001_1]) ?_ 1 _ rfl; refine zqb ?_; refine zRm (cs := #[.int .u64 x1162000_1, .int .u64 x1162001_1]) ?_ 0 _ rfl; refine zqb ?_; exact BK1161.out) Tryd.underlying42 rfl (by kernel_rfl)) rfl ?_; exact ⟨zv8, zve⟩
end Go.Proofs.YtpkjpiphjdpegaaDoor.P
