/- A program of this session wrote this text out of the session's own texts. (part 42 of 45) -/
import Derived.Test.YtpkjpiphjdpegaaDoorCLedgerImportsQ
import Derived.Test.YtpkjpiphjdpegaaDoorCLedgerImports4
import Derived.Test.YtpkjpiphjdpegaaDoorCLedgerImports6
import Derived.Test.YtpkjpiphjdpegaaDoorCLedgerImports7
import Derived.Test.YtpkjpiphjdpegaaDoorCLedgerImports17
import Derived.Test.YtpkjpiphjdpegaaDoorCLedgerImports20
import Derived.Test.YtpkjpiphjdpegaaDoorCLedgerImports25
import Derived.Test.YtpkjpiphjdpegaaDoorCLedgerImports28
import Derived.Test.YtpkjpiphjdpegaaDoorCLedgerImports29
import Derived.Test.YtpkjpiphjdpegaaDoorCLedgerImports32
import Derived.Test.YtpkjpiphjdpegaaDoorCLedgerImports33
import Derived.Test.YtpkjpiphjdpegaaDoorCLedgerImports34
import Derived.Test.YtpkjpiphjdpegaaDoorCLedgerImports41
namespace Go.Proofs.YtpkjpiphjdpegaaDoor.P
open Go.RowKit Go.Proofs.YtpkjpiphjdpegaaDoorW.PrintWords Go.Proofs.YtpkjpiphjdpegaaDoorW.PrintLast Go.Proofs.YtpkjpiphjdpegaaDoorW.PrintMore
attribute [local go_sem] max2_int min2_int max_two min_two max_three min_three max_four min_four
set_option linter.unusedVariables false
set_option linter.unusedSimpArgs false
def paymasterref11_most.l0 : Nat → Int → Int → Int → Option (Int)
 | 0, _, _, _ => none
 | k + 1, x0, x3, x4 => if x4 < x0 then (paymasterref11_most.l0 k x0 (wrap64 (2 * x3)) (wrap64 (x4 + 1))) else (some x3)
def paymasterref11_most.f (k : Nat) (a0 : Int) : Option (Int) := paymasterref11_most.l0 k a0 1 0
set_option maxHeartbeats 8000000 in
set_option maxRecDepth 100000 in
theorem paymasterref11_most.calls (k : Nat) (a0 : Int) (r : Int) (w : World) (h : paymasterref11_most.f k a0 = some r) :
  Calls Tryd.prog 88 #[.int .i64 a0] w fun e w' => e = .returned (.int .i64 r) ∧ Drawn0 w w' := by
 have H : (paymasterref11_most.l0 k a0 1 0) = some r := h; clear h; have H' := Aside0.mk H; clear H; go_enter Tryd.func88, Tryd.ntmps88; go_wp2
 go_loopg [3, 4] k (fun kq v3 v4 w' => ∃ (x3_1 : Int) (x4_1 : Int), v3 = .int .i64 x3_1 ∧ v4 = .int .i64 x4_1 ∧ Aside0 (paymasterref11_most.l0 kq a0 x3_1 x4_1 = some r) ∧ Aside0 (kq ≤ k) ∧ Drawn0 w w')
 case atStart => exact ⟨(1), (0), zv5, zv5, H', ⟨Nat.le_refl _⟩, zv9⟩
 case round =>
  clear H'; obtain ⟨x3_1, x4_1, rfl, rfl, HA, HK1, ⟨m1, rfl⟩⟩ := hrel; cases gk with
  | zero => exact absurd HA.out (by simp [paymasterref11_most.l0])
  | succ k1 =>
   have H := HA.out; clear HA; simp only [paymasterref11_most.l0] at H
   by_cases c2 : x4_1 < a0
   ·rw [if_pos c2] at H; have c2b0 : decide (x4_1 < a0) = true := decide_eq_true c2; clear c2; have H' := Aside0.mk H; clear H; go_wp2; go_roundg k1
    case measure => have := HK1.out; omega
    case rel => exact ⟨(wrap64 (2 * x3_1)), (wrap64 (x4_1 + 1)), zv5, zv5, H', ⟨zv2g⟩, zv9⟩
   ·rw [if_neg c2] at H; have c2b0 : decide (x4_1 < a0) = false := decide_eq_false c2; clear c2; obtain rfl := Option.some.inj H; go_wp2; go_ret; exact ⟨zv5, zv9⟩
mutual
def paymasterref11_Import.j0 : Nat → ByteArray → Int → Bool → Option ((List (S44)) × Int × Int)
 | 0, _, _, _ => none
 | k + 1, x0, x1, x18 => if x18 = true then (some (([] : List (S44)), 0, 120)) else (if (x0.size : Int) > 65536 then (some (([] : List (S44)), 0, 3)) else ((paymasterref09_Split.f k x0).bind fun t1190 => (paymasterref11_Import.l0 k x1 t1190 ([] : List (S44)) 0)))
def paymasterref11_Import.l0 : Nat → Int → List ByteArray → List (S44) → Int → Option ((List (S44)) × Int × Int)
 | 0, _, _, _, _ => none
 | k + 1, x1, x7, x8, x9 => if x9 < (x7.length : Int) then (if 0 ≤ x9 then ((paymasterref10_One.f k (rdOf ByteArray.empty x7 x9)).bind fun bt1197 => (if bt1197.2.2.2.2 = 0 then (if bt1197.2.2.2.1 = true then ((paymasterref11_most.f k x1).bind fun t1203 => ((paymasterref11_put.f k x8 bt1197.1 bt1197.2.1 bt1197.2.2.1 t1203).bind fun t1204 => (if t1204 = 0 then (if x8.length < 4398046511104 then (paymasterref11_Import.l0 k x1 x7 (x8 ++ [(⟨bt1197.1, (⟨bt1197.2.1, bt1197.2.2.1⟩ : S42)⟩ : S44)]) (wrap64 (x9 + 1))) else (none)) else (some (([] : List (S44)), wrap64 (x9 + 1), t1204))))) else (paymasterref11_Import.l0 k x1 x7 x8 (wrap64 (x9 + 1)))) else (some (([] : List (S44)), wrap64 (x9 + 1), bt1197.2.2.2.2)))) else (none)) else ((paymasterref10_Sort.f k x8).bind fun t1193 => (some (t1193, 0, 0)))
end
def paymasterref11_Import.f (k : Nat) (a0 : ByteArray) (a1 : Int) : Option ((List (S44)) × Int × Int) := if a1 < 0 then (paymasterref11_Import.j0 k a0 a1 true) else (paymasterref11_Import.j0 k a0 a1 (decide (a1 > 10)))
set_option maxHeartbeats 8000000 in
set_option maxRecDepth 100000 in
theorem paymasterref11_Import.calls (k : Nat) (a0 : ByteArray) (a1 : Int) (r1 : List (S44)) (r2 : Int) (r3 : Int) (w : World) (h : paymasterref11_Import.f k a0 a1 = some (r1, r2, r3)) :
  Calls Tryd.prog 50 #[.string a0, .int .i64 a1] w fun e w' => ∃ v0_ : Value, e = .returned (.tuple #[v0_, .int .i64 r2, .int .i64 r3]) ∧ Kd.R k44 44 w' w.heap.size (fun _ => True) v0_ r1 ∧ Below w.heap.size w w' := by
 have hu44 := Tryd.underlying44; have HB := Aside0.mk (Below.refl w.heap.size w); have H : (if a1 < 0 then (paymasterref11_Import.j0 k a0 a1 true) else (paymasterref11_Import.j0 k a0 a1 (decide (a1 > 10)))) = some (r1, r2, r3) := h; clear h; have HC3 := Aside0.mk H; clear H; go_enter Tryd.func50, Tryd.ntmps50
 go_upto_region 1 with (fail)
 go_cut [18] (fun v18 wc => ∃ (kq : Nat) (x18_2 : Bool), v18 = .bool x18_2 ∧ Aside0 (paymasterref11_Import.j0 kq a0 a1 x18_2 = some (r1, r2, r3)) ∧ Aside0 (kq ≤ k) ∧ Aside0 (Below w.heap.size w wc))
 case first =>
  have H := HC3.out; clear HC3
  by_cases c4 : a1 < 0
  ·rw [if_pos c4] at H; have c4b0 : decide (a1 < 0) = true := decide_eq_true c4; clear c4; (first | rw [c4b0] | (simp only [i64_w, i32_w]; rw [c4b0]) | skip)
   have H' := Aside0.mk H; clear H; go_wp2; go_meet
   case rel => exact ⟨_, (true), zv5, H', ⟨zv3o⟩, ⟨zv0⟩⟩
  ·rw [if_neg c4] at H; have c4b0 : decide (a1 < 0) = false := decide_eq_false c4; clear c4; (first | rw [c4b0] | (simp only [i64_w, i32_w]; rw [c4b0]) | skip)
   have H' := Aside0.mk H; clear H; go_wp2; go_meet
   case rel => exact ⟨_, (decide (a1 > 10)), zv5, H', ⟨zv3o⟩, ⟨zv0⟩⟩
 case rest =>
  clear HC3; try clear p2
  try clear c4
  try clear c4b0
  obtain ⟨kq, x18_2, rfl, HA, HJ2, HB⟩ := hcut; cases kq with
  | zero => exact absurd HA.out (by simp [paymasterref11_Import.j0])
  | succ kj2 =>
   have H := HA.out; clear HA; simp only [paymasterref11_Import.j0] at H
   by_cases c5 : x18_2 = true
   ·subst c5; have H1 : (some (([] : List (S44)), 0, 120)) = some (r1, r2, r3) := by rw [if_pos rfl] at H; exact H
    clear H; have H := H1; clear H1; simp only [Option.some.injEq, Prod.mk.injEq] at H; obtain ⟨rfl, rfl, rfl⟩ := H; go_wp2
    go_ret3
    exact ⟨_, zv8, zvo, zv0⟩
   ·replace c5 := Bool.eq_false_iff.mpr c5; subst c5; have H1 : (if (a0.size : Int) > 65536 then (some (([] : List (S44)), 0, 3)) else ((paymasterref09_Split.f kj2 a0).bind fun t1190 => (paymasterref11_Import.l0 kj2 a1 t1190 ([] : List (S44)) 0))) = some (r1, r2, r3) := by rw [if_neg (show ¬ (false = true) by decide)] at H; exact H
    clear H; have H := H1; clear H1
    by_cases c6 : (a0.size : Int) > 65536
    ·rw [if_pos c6] at H; have c6b0 : decide (65536 < (a0.size : Int)) = true := decide_eq_true c6; have c6b1 : decide (65536 < a0.size) = true := decide_eq_true zv1; clear c6; simp only [Option.some.injEq, Prod.mk.injEq] at H; obtain ⟨rfl, rfl, rfl⟩ := H; go_wp2
     go_ret3
     exact ⟨_, zv8, zvo, zv0⟩
    ·rw [if_neg c6] at H; have c6b0 : decide (65536 < (a0.size : Int)) = false := decide_eq_false c6; have c6b1 : decide (65536 < a0.size) = false := decide_eq_false zv1; clear c6; replace H := Option.bind_eq_some_iff.mp H; obtain ⟨t1190, A70, H⟩ := H; replace H : (paymasterref11_Import.l0 kj2 a1 t1190 ([] : List (S44)) 0) = some (r1, r2, r3) := H; have A7 := Aside0.mk A70; clear A70; have H' := Aside0.mk H; clear H
     go_wp2_with (first | ((with_reducible refine zRl (f := 33) rfl ?_); refine goesL_ (some 23) rfl rfl Tryd.func33 (by kernel_rfl) rfl #[.string a0] rfl zv3 ?_; (with_reducible refine (paymasterref09_Split.calls kj2 a0 t1190 _ A7.out).mono ?_); rintro e w8 ⟨v1191, rfl, ho0, hb⟩; refine ⟨_, rfl, ?_⟩; have n0_ := Aside0.mk (Kd.R_lower ho0 (zRg zv0)); have n1_ := Aside0.mk (zRd zv0 hb); clear HB; have HO1192 := n0_; have HB := n1_; clear n0_ n1_; (try clear hb); (try clear hb2); (try clear hk); (try clear hi); (try clear ho0)))
     go_loopg [8, 9] kj2 (fun kq v8 v9 w' => ∃ (x8_2 : List (S44)) (x9_2 : Int), v9 = .int .i64 x9_2 ∧ Aside0 (paymasterref11_Import.l0 kq a1 t1190 x8_2 x9_2 = some (r1, r2, r3)) ∧ Aside0 (kq ≤ kj2) ∧ Aside0 (Kd.R Kd.string 9 w' w.heap.size (fun _ => True) v1191 t1190) ∧ Aside0 (Kd.R k44 44 w' w.heap.size (fun _ => True) v8 x8_2) ∧ Aside0 (Below w.heap.size w w'))
     case atStart => exact ⟨(([] : List (S44))), (0), zv5, H', ⟨Nat.le_refl _⟩, ⟨(by (with_reducible repeat (first | apply Kd.R_alloc | apply Kd.R_drewN | apply Kd.R_drew)); exact HO1192.out)⟩, ⟨zvo⟩, ⟨zv0⟩⟩
     case round =>
      clear H'; try clear p2
      try clear c3
      try clear c4
      try clear c4b0
      try clear c5
      try clear c6
      try clear c6b0
      try clear c6b1
      try clear p2
      obtain ⟨x8_2, x9_2, rfl, HA, HK2, HO_7, HO_8, HB⟩ := hrel; cases gk with
      | zero => exact absurd HA.out (by simp [paymasterref11_Import.l0])
      | succ k2 =>
       have H := HA.out; clear HA; simp only [paymasterref11_Import.l0] at H
       by_cases c9 : x9_2 < (t1190.length : Int)
       ·rw [if_pos c9] at H; have c9b0 : decide (x9_2 < (t1190.length : Int)) = true := decide_eq_true c9; clear c9
        by_cases c10 : 0 ≤ x9_2
        ·rw [if_pos c10] at H; have c10b0 : decide (0 ≤ x9_2) = true := decide_eq_true c10; clear c10; replace H := Option.bind_eq_some_iff.mp H; obtain ⟨⟨t1197, t1198, t1199, t1200, t1201⟩, A110, H⟩ := H; replace H : (if t1201 = 0 then (if t1200 = true then ((paymasterref11_most.f k2 a1).bind fun t1203 => ((paymasterref11_put.f k2 x8_2 t1197 t1198 t1199 t1203).bind fun t1204 => (if t1204 = 0 then (if x8_2.length < 4398046511104 then (paymasterref11_Import.l0 k2 a1 t1190 (x8_2 ++ [(⟨t1197, (⟨t1198, t1199⟩ : S42)⟩ : S44)]) (wrap64 (x9_2 + 1))) else (none)) else (some (([] : List (S44)), wrap64 (x9_2 + 1), t1204))))) else (paymasterref11_Import.l0 k2 a1 t1190 x8_2 (wrap64 (x9_2 + 1)))) else (some (([] : List (S44)), wrap64 (x9_2 + 1), t1201))) = some (r1, r2, r3) := H; have A11 := Aside0.mk A110; clear A110
         by_cases c12 : t1201 = 0
         ·rw [if_pos c12] at H; have c12b0 : (t1201 == 0) = true := beq_iff_eq.mpr c12; have c12b1 : (t1201 != 0) = false := bne_eq_false_iff_eq.mpr c12; clear c12
          by_cases c13 : t1200 = true
          ·subst c13; have H1 : ((paymasterref11_most.f k2 a1).bind fun t1203 => ((paymasterref11_put.f k2 x8_2 t1197 t1198 t1199 t1203).bind fun t1204 => (if t1204 = 0 then (if x8_2.length < 4398046511104 then (paymasterref11_Import.l0 k2 a1 t1190 (x8_2 ++ [(⟨t1197, (⟨t1198, t1199⟩ : S42)⟩ : S44)]) (wrap64 (x9_2 + 1))) else (none)) else (some (([] : List (S44)), wrap64 (x9_2 + 1), t1204))))) = some (r1, r2, r3) := by rw [if_pos rfl] at H; exact H
           clear H; have H := H1; clear H1; replace H := Option.bind_eq_some_iff.mp H; obtain ⟨t1203, A140, H⟩ := H; replace H : ((paymasterref11_put.f k2 x8_2 t1197 t1198 t1199 t1203).bind fun t1204 => (if t1204 = 0 then (if x8_2.length < 4398046511104 then (paymasterref11_Import.l0 k2 a1 t1190 (x8_2 ++ [(⟨t1197, (⟨t1198, t1199⟩ : S42)⟩ : S44)]) (wrap64 (x9_2 + 1))) else (none)) else (some (([] : List (S44)), wrap64 (x9_2 + 1), t1204)))) = some (r1, r2, r3) := H; have A14 := Aside0.mk A140; clear A140; replace H := Option.bind_eq_some_iff.mp H; obtain ⟨t1204, A150, H⟩ := H; replace H : (if t1204 = 0 then (if x8_2.length < 4398046511104 then (paymasterref11_Import.l0 k2 a1 t1190 (x8_2 ++ [(⟨t1197, (⟨t1198, t1199⟩ : S42)⟩ : S44)]) (wrap64 (x9_2 + 1))) else (none)) else (some (([] : List (S44)), wrap64 (x9_2 + 1), t1204))) = some (r1, r2, r3) := H; have A15 := Aside0.mk A150; clear A150
           by_cases c16 : t1204 = 0
           ·rw [if_pos c16] at H; have c16b0 : (t1204 == 0) = true := beq_iff_eq.mpr c16; have c16b1 : (t1204 != 0) = false := bne_eq_false_iff_eq.mpr c16; clear c16
            by_cases c17 : x8_2.length < 4398046511104
            ·rw [if_pos c17] at H; have LMc17 := Aside0.mk c17; clear c17; obtain ⟨y1205, hy1205⟩ : ∃ y_ : List (S44), y_ = (x8_2 ++ [(⟨t1197, (⟨t1198, t1199⟩ : S42)⟩ : S44)]) := ⟨_, rfl⟩
             replace H : (paymasterref11_Import.l0 k2 a1 t1190 y1205 (wrap64 (x9_2 + 1))) = some (r1, r2, r3) := by first | (rw [hy1205]; with_reducible exact H) | (have H2_ := (Option.bind_some _ _).symm.trans H; rw [hy1205]; with_reducible exact H2_) | (have H2_ := (Option.bind_some _ _).symm.trans H; with_reducible exact H2_) | with_reducible exact H | (rw [hy1205]; exact H) | exact H
             have Ny1205 := Aside0.mk hy1205; clear hy1205; have H' := Aside0.mk H; clear H; obtain ⟨Ao18, co18, eo18⟩ := Kd.R_slice HO_7.out; subst eo18; have p1196 : 0 ≤ (x9_2 : Int) := of_decide_eq_true zv6; have q1196 : x9_2 < (t1190.length : Int) := of_decide_eq_true zv6; obtain ⟨ad1196, e1196, hx1196_0⟩ := Kd.at_string (Kd.R_reads' HO_7.out).2.2 x9_2 p1196 q1196; cases e1196; replace p1196 := eq_true p1196; replace q1196 := eq_true q1196; try go_wp2_with (first | ((with_reducible refine zRl (f := 83) rfl ?_); refine goesL_ (some 35) rfl rfl Tryd.func83 (by kernel_rfl) rfl #[.string (rdOf ByteArray.empty t1190 x9_2)] rfl zv3 ?_; (with_reducible refine (paymasterref10_One.calls k2 (rdOf ByteArray.empty t1190 x9_2) t1197 t1198 t1199 true t1201 _ A11.out).mono ?_); rintro e w19 ⟨rfl, hb⟩; refine ⟨_, rfl, ?_⟩; have n0_ := Aside0.mk (Kd.R_below (zqr HO_7.out) hb); have n1_ := Aside0.mk (Kd.R_below (zqr HO_8.out) hb); have n2_ := Aside0.mk (zRd zv0 hb); clear HO_7; clear HO_8; clear HB; have HO_7 := n0_; have HO_8 := n1_; have HB := n2_; clear n0_ n1_ n2_; (try clear hb); (try clear hb2); (try clear hk); (try clear hi)) | ((with_reducible refine zRq (N := 10) rfl ?_); refine zRn ?hg (N := 10) ?hd (cs := #[.string (⟨#[]⟩ : ByteArray), .int .u64 0, .int .u64 0]) (t := 44) ?hr ?_; (case hd => rfl); (case hg => rfl); (case hr => first | (go_simp; done) | (go_simp; rfl)); intro gb1202 hg w20 hbox hb; have n0_ := Aside0.mk (Kd.R_below (zqr HO_7.out) hb); have n1_ := Aside0.mk (Kd.R_below (Kd.R_elderB (zqr HO_8.out) gb1202 (Nat.le_of_eq hg.symm)) hb); have n2_ := Aside0.mk (zRd zv0 hb); have n3_ := Aside0.mk (hbox); have n4_ := Aside0.mk ((zv3w : w.heap.size ≤ gb1202)); have n5_ := Aside0.mk ((zv3w : w.heap.size ≤ gb1202)); clear HO_7; clear HO_8; clear HB; have HO_7 := n0_; have HO_8 := n1_; have HB := n2_; have BK1202 := n3_; have GW1202 := n4_; have GE1202 := n5_; clear n0_ n1_ n2_ n3_ n4_ n5_; clear hb hbox hg; have hcz21_0 : w20.cell? ⟨gb1202, 0, none⟩ = some (.string (⟨#[]⟩ : ByteArray)) := (zRa BK1202.out 0).trans rfl; have hcz21_1 : w20.cell? ⟨gb1202, 1, none⟩ = some (.int .u64 0) := (zRa BK1202.out 1).trans rfl; have hcz21_2 : w20.cell? ⟨gb1202, 2, none⟩ = some (.int .u64 0) := (zRa BK1202.out 2).trans rfl; have hfz21_0 := zRb BK1202.out 0; have hfz21_1 := zRb BK1202.out 1; have hfz21_2 := zRb BK1202.out 2))
             have n0_ : Aside0 (Kd.R Kd.string 9 (((w20.setCell ⟨gb1202, 0, none⟩ (.string t1197)).setCell ⟨gb1202, 1, none⟩ (.int .u64 t1198)).setCell ⟨gb1202, 2, none⟩ (.int .u64 t1199)) w.heap.size (fun _ => True) (.slice (some ad1196) t1190.length co18) t1190) := ⟨zv40⟩
             have n1_ : Aside0 (Kd.R k44 44 (((w20.setCell ⟨gb1202, 0, none⟩ (.string t1197)).setCell ⟨gb1202, 1, none⟩ (.int .u64 t1198)).setCell ⟨gb1202, 2, none⟩ (.int .u64 t1199)) w.heap.size (fun k_ => k_ ≠ gb1202) u8 x8_2) := ⟨zv1q⟩
             have n2_ : Aside0 ((((w20.setCell ⟨gb1202, 0, none⟩ (.string t1197)).setCell ⟨gb1202, 1, none⟩ (.int .u64 t1198)).setCell ⟨gb1202, 2, none⟩ (.int .u64 t1199)).heap[gb1202]? = some (.cells #[.string t1197, .int .u64 t1198, .int .u64 t1199] 44 (0, 0))) := ⟨zv2b⟩
             have n3_ : Aside0 (Below w.heap.size w (((w20.setCell ⟨gb1202, 0, none⟩ (.string t1197)).setCell ⟨gb1202, 1, none⟩ (.int .u64 t1198)).setCell ⟨gb1202, 2, none⟩ (.int .u64 t1199))) := ⟨zvn⟩
             (try clear HO_7)
             (try clear HO_8)
             (try clear BK1202)
             (try clear HB)
             generalize (((w20.setCell ⟨gb1202, 0, none⟩ (.string t1197)).setCell ⟨gb1202, 1, none⟩ (.int .u64 t1198)).setCell ⟨gb1202, 2, none⟩ (.int .u64 t1199)) = w22 at n0_ n1_ n2_ n3_ ⊢; have HO_7 := n0_; have HO_8 := n1_; have BK1202 := n2_; have HB := n3_; clear n0_ n1_ n2_ n3_; have n0_ := Aside0.mk (Kd.R_drew HO_7.out); have n1_ := Aside0.mk (Kd.R_drew HO_8.out); have n2_ := Aside0.mk (zRk BK1202.out); have n3_ := Aside0.mk (zRj HB.out); clear HO_7; clear HO_8; clear BK1202; clear HB; have HO_7 := n0_; have HO_8 := n1_; have BK1202 := n2_; have HB := n3_; clear n0_ n1_ n2_ n3_; refine start_ (n := 6) (S := fun w' => w'.cell? ⟨gb1202, 0, none⟩ = some (.string t1197) ∧ w'.cell? ⟨gb1202, 1, none⟩ = some (.int .u64 t1198) ∧ w'.cell? ⟨gb1202, 2, none⟩ = some (.int .u64 t1199)) (ds := []) #[false, false, false, false, false, false] (by kernel_rfl) rfl rfl ⟨(zRa BK1202.out 0).trans rfl, (zRa BK1202.out 1).trans rfl, (zRa BK1202.out 2).trans rfl⟩ (fun hHeld => ?_); generalize w22.drew = w23 at HO_7 HO_8 BK1202 HB hHeld ⊢; refine pure_ (i := 0) (N := some 46) (v := ?_) (a' := ?_) #[true, false, false, false, false, false] rfl rfl (by kernel_rfl) (fun _ _ _ h => h) (Or.inl ⟨zvv, ?_⟩) ?_ ?_; rotate_left
             ·intro w'; go_simp; with_reducible rfl
             rotate_left
             ·simp only [Act.put, zsa, zsb, zsc, i64_w, i32_w]; rfl
             refine pure_ (i := 2) (N := some 48) (v := ?_) (a' := ?_) #[true, false, true, false, false, false] rfl rfl (by kernel_rfl) (fun _ _ _ h => h) (Or.inl ⟨zvv, ?_⟩) ?_ ?_; rotate_left
             ·intro w'; go_simp; with_reducible rfl
             rotate_left
             ·simp only [Act.put, zsa, zsb, zsc, i64_w, i32_w]; rfl
             refine take_ (i := 1) (N := some 47) (v := ?_) (a' := ?_) #[true, true, true, false, false, false] rfl rfl (by kernel_rfl) (fun _ _ _ h => h) (Or.inl ⟨zvv, ?_⟩) hHeld ?_ ?_; rotate_left
             ·rintro w' ⟨s0, s1, s2⟩; go_simp; with_reducible rfl
             rotate_left
             ·simp only [Act.put, zsa, zsb, zsc, i64_w, i32_w]; rfl
             refine one_ (i := 3) (N := some 49) #[true, true, true, true, false, false] rfl rfl (by kernel_rfl) zvz (fun K hK => ?_); refine goes_ Tryd.func88 (by kernel_rfl) rfl #[.int .i64 a1] zvv rfl rfl zv3 ?_; with_reducible refine (paymasterref11_most.calls k2 a1 t1203 _ A14.out).mono ?_; rintro e w' ⟨rfl, ⟨nd, rfl⟩⟩; refine ⟨_, rfl, ?_⟩; obtain ⟨Ao24, co24, eo24⟩ := Kd.R_slice HO_8.out; (first | subst eo24 | (injection eo24 with f1_ f2_ f3_; have f4_ := f1_.symm; have f5_ := f3_.symm; clear f1_ f2_ f3_; subst f4_; subst f5_))
             refine hK.out _ _ ⟨(zRa BK1202.out 0).trans rfl, (zRa BK1202.out 1).trans rfl, (zRa BK1202.out 2).trans rfl⟩ (fun hHeld => ?_); clear hK K; refine norm_ (a' := ?_) ?_ ?_; rotate_left
             ·show Act.put _ (some 49) _ = _; simp only [Act.put, zsa, zsb, zsc, i64_w, i32_w]; rfl
             refine one_ (i := 4) (N := some 50) #[true, true, true, true, true, false] rfl rfl (by kernel_rfl) zvz (fun K hK => ?_); refine goes_ Tryd.func87 (by kernel_rfl) rfl #[.slice Ao24 x8_2.length co24, .agg #[.string t1197, .int .u64 t1198, .int .u64 t1199], .int .i64 t1203] zvv rfl rfl zv3 ?_; with_reducible refine (paymasterref11_put.calls k2 _ _ x8_2 t1197 t1198 t1199 t1203 t1204 _ ?side1 ?side2 A15.out).mono ?_; (case side1 => repeat (first | exact (Kd.R_reads' HO_8.out).2.2 | (with_reducible refine Kd.C_alloc ?_ _) | (with_reducible refine Kd.C_drewN ?_ _) | (with_reducible refine Kd.C_drew ?_)))
             (case side2 => exact (Kd.R_reads' HO_8.out).2.1)
             rintro e w25 ⟨rfl, hb⟩; refine ⟨_, rfl, ?_⟩; have n0_ := Aside0.mk (Kd.R_below (zqr HO_7.out) hb); have n1_ := Aside0.mk (Kd.R_below (zqr HO_8.out) hb); have n2_ := Aside0.mk (zRc (g := gb1202) (o := .cells #[.string t1197, .int .u64 t1198, .int .u64 t1199] 44 (0, 0)) (zqb BK1202.out) hb); have n3_ := Aside0.mk (zRd zvn hb); clear HO_7; clear HO_8; clear BK1202; clear HB; have HO_7 := n0_; have HO_8 := n1_; have BK1202 := n2_; have HB := n3_; clear n0_ n1_ n2_ n3_; (try clear hb)
             (try clear hb2)
             (try clear hk)
             (try clear hi)
             refine hK.out _ _ ⟨(zRa BK1202.out 0).trans rfl, (zRa BK1202.out 1).trans rfl, (zRa BK1202.out 2).trans rfl⟩ (fun hHeld => ?_); clear hK K; refine norm_ (a' := ?_) ?_ ?_; rotate_left
             ·show Act.put _ (some 50) _ = _; simp only [Act.put, zsa, zsb, zsc, i64_w, i32_w]; rfl
             refine pure_ (i := 5) (N := some 12) (v := ?_) (a' := ?_) #[true, true, true, true, true, true] rfl rfl (by kernel_rfl) (fun _ _ _ h => h) (Or.inl ⟨zvv, ?_⟩) ?_ ?_; rotate_left
             ·intro w'; go_simp; with_reducible rfl
             rotate_left
             ·simp only [Act.put, zsa, zsb, zsc, i64_w, i32_w]; rfl
             refine done_ (by kernel_rfl) ?_; have hcz26_0 : w25.cell? ⟨gb1202, 0, none⟩ = some (.string t1197) := (zRa BK1202.out 0).trans rfl; have hcz26_1 : w25.cell? ⟨gb1202, 1, none⟩ = some (.int .u64 t1198) := (zRa BK1202.out 1).trans rfl; have hcz26_2 : w25.cell? ⟨gb1202, 2, none⟩ = some (.int .u64 t1199) := (zRa BK1202.out 2).trans rfl; have hfz26_0 := zRb BK1202.out 0; have hfz26_1 := zRb BK1202.out 1; have hfz26_2 := zRb BK1202.out 2; try go_wp2_with (first | ((with_reducible refine gate_builtin (b := .append) (xs := #[.tmp 56, .tmp 58]) rfl ?_); at_builtin; refine Kd.R_append k44 (w0 := w) w.heap.size rfl (.tmp 56) (.tmp 58) 34 44 (.agg #[(.string ⟨#[]⟩), (.int .u64 0), (.int .u64 0)]) 32 rfl Tryd.underlying34 info44 rfl zvz zv1 (.slice Ao24 x8_2.length co24) x8_2 (⟨t1197, (⟨t1198, t1199⟩ : S42)⟩ : S44) [.string t1197, .int .u64 t1198, .int .u64 t1199] (fun k_ => k_ ≠ gb1202) (fun _ => False) rfl rfl ?aP (fun _ hk => hk.elim) ?aF ?aO ?aB ?aS ?aL ?_; (case aP => exact k44_mkM _ _ _ (⟨t1197, (⟨t1198, t1199⟩ : S42)⟩ : S44)); (case aB => exact zvn); (case aF => exact (fun k_ hk => Kd.freshB (g := gb1202) (o := .cells #[.string t1197, .int .u64 t1198, .int .u64 t1199] 44 (0, 0)) (zqb BK1202.out) k_ hk)); (case aO => exact (zqr HO_8.out)); (case aS => exact (zRg zvn)); (case aL => have := LMc17.out; omega); intro v1206 w27 ho hb hg hat; rw [← Ny1205.out] at ho; have n0_ := Aside0.mk (Kd.R_over' (zqr HO_7.out) (Kd.R_typed (zqr HO_8.out)) zvz hg); have n1_ := Aside0.mk (zRt (g := gb1202) (o := .cells #[.string t1197, .int .u64 t1198, .int .u64 t1199] 44 (0, 0)) (zqb BK1202.out) hg (Kd.R_away HO_8.out (fun _ hk => hk))); have n2_ := Aside0.mk (hb); have n3_ := Aside0.mk (ho); clear HO_7; clear BK1202; clear HB; clear HO_8; have HO_7 := n0_; have BK1202 := n1_; have HB := n2_; have HO1207 := n3_; clear n0_ n1_ n2_ n3_; clear ho hb hg hat))
             go_roundg k2
             case measure => have := HJ2.out; have := HK2.out; omega
             case rel => exact ⟨(y1205), (wrap64 (x9_2 + 1)), zv5, H', ⟨(by have := HJ2.out; have := HK2.out; omega)⟩, ⟨zv1d⟩, ⟨(by (with_reducible repeat (first | apply Kd.R_alloc | apply Kd.R_drewN | apply Kd.R_drew)); exact Kd.R_mono HO1207.out (fun _ hk => trivial))⟩, ⟨zvn⟩⟩
            ·rw [if_neg c17] at H; exact absurd H zv10
           ·rw [if_neg c16] at H; have c16b0 : (t1204 == 0) = false := beq_eq_false_iff_ne.mpr c16; have c16b1 : (t1204 != 0) = true := bne_iff_ne.mpr c16; simp only [Option.some.injEq, Prod.mk.injEq] at H; obtain ⟨rfl, rfl, rfl⟩ := H; obtain ⟨Ao28, co28, eo28⟩ := Kd.R_slice HO_7.out; subst eo28; have p1196 : 0 ≤ (x9_2 : Int) := of_decide_eq_true zv6; have q1196 : x9_2 < (t1190.length : Int) := of_decide_eq_true zv6; obtain ⟨ad1196, e1196, hx1196_0⟩ := Kd.at_string (Kd.R_reads' HO_7.out).2.2 x9_2 p1196 q1196; cases e1196; replace p1196 := eq_true p1196; replace q1196 := eq_true q1196; try go_wp2_with (first | ((with_reducible refine zRl (f := 83) rfl ?_); refine goesL_ (some 35) rfl rfl Tryd.func83 (by kernel_rfl) rfl #[.string (rdOf ByteArray.empty t1190 x9_2)] rfl zv3 ?_; (with_reducible refine (paymasterref10_One.calls k2 (rdOf ByteArray.empty t1190 x9_2) t1197 t1198 t1199 true t1201 _ A11.out).mono ?_); rintro e w29 ⟨rfl, hb⟩; refine ⟨_, rfl, ?_⟩; have n0_ := Aside0.mk (Kd.R_below (zqr HO_7.out) hb); have n1_ := Aside0.mk (Kd.R_below (zqr HO_8.out) hb); have n2_ := Aside0.mk (zRd zv0 hb); clear HO_7; clear HO_8; clear HB; have HO_7 := n0_; have HO_8 := n1_; have HB := n2_; clear n0_ n1_ n2_; (try clear hb); (try clear hb2); (try clear hk); (try clear hi)) | ((with_reducible refine zRq (N := 10) rfl ?_); refine zRn ?hg (N := 10) ?hd (cs := #[.string (⟨#[]⟩ : ByteArray), .int .u64 0, .int .u64 0]) (t := 44) ?hr ?_; (case hd => rfl); (case hg => rfl); (case hr => first | (go_simp; done) | (go_simp; rfl)); intro gb1202 hg w30 hbox hb; have n0_ := Aside0.mk (Kd.R_below (zqr HO_7.out) hb); have n1_ := Aside0.mk (Kd.R_below (Kd.R_elderB (zqr HO_8.out) gb1202 (Nat.le_of_eq hg.symm)) hb); have n2_ := Aside0.mk (zRd zv0 hb); have n3_ := Aside0.mk (hbox); have n4_ := Aside0.mk ((zv3w : w.heap.size ≤ gb1202)); have n5_ := Aside0.mk ((zv3w : w.heap.size ≤ gb1202)); clear HO_7; clear HO_8; clear HB; have HO_7 := n0_; have HO_8 := n1_; have HB := n2_; have BK1202 := n3_; have GW1202 := n4_; have GE1202 := n5_; clear n0_ n1_ n2_ n3_ n4_ n5_; clear hb hbox hg; have hcz31_0 : w30.cell? ⟨gb1202, 0, none⟩ = some (.string (⟨#[]⟩ : ByteArray)) := (zRa BK1202.out 0).trans rfl; have hcz31_1 : w30.cell? ⟨gb1202, 1, none⟩ = some (.int .u64 0) := (zRa BK1202.out 1).trans rfl; have hcz31_2 : w30.cell? ⟨gb1202, 2, none⟩ = some (.int .u64 0) := (zRa BK1202.out 2).trans rfl; have hfz31_0 := zRb BK1202.out 0; have hfz31_1 := zRb BK1202.out 1; have hfz31_2 := zRb BK1202.out 2))
            have n0_ : Aside0 (Kd.R Kd.string 9 (((w30.setCell ⟨gb1202, 0, none⟩ (.string t1197)).setCell ⟨gb1202, 1, none⟩ (.int .u64 t1198)).setCell ⟨gb1202, 2, none⟩ (.int .u64 t1199)) w.heap.size (fun _ => True) (.slice (some ad1196) t1190.length co28) t1190) := ⟨zv40⟩
            have n1_ : Aside0 (Kd.R k44 44 (((w30.setCell ⟨gb1202, 0, none⟩ (.string t1197)).setCell ⟨gb1202, 1, none⟩ (.int .u64 t1198)).setCell ⟨gb1202, 2, none⟩ (.int .u64 t1199)) w.heap.size (fun k_ => k_ ≠ gb1202) u8 x8_2) := ⟨zv1q⟩
            have n2_ : Aside0 ((((w30.setCell ⟨gb1202, 0, none⟩ (.string t1197)).setCell ⟨gb1202, 1, none⟩ (.int .u64 t1198)).setCell ⟨gb1202, 2, none⟩ (.int .u64 t1199)).heap[gb1202]? = some (.cells #[.string t1197, .int .u64 t1198, .int .u64 t1199] 44 (0, 0))) := ⟨zv2b⟩
            have n3_ : Aside0 (Below w.heap.size w (((w30.setCell ⟨gb1202, 0, none⟩ (.string t1197)).setCell ⟨gb1202, 1, none⟩ (.int .u64 t1198)).setCell ⟨gb1202, 2, none⟩ (.int .u64 t1199))) := ⟨zvn⟩
            (try clear HO_7)
            (try clear HO_8)
            (try clear BK1202)
            (try clear HB)
            generalize (((w30.setCell ⟨gb1202, 0, none⟩ (.string t1197)).setCell ⟨gb1202, 1, none⟩ (.int .u64 t1198)).setCell ⟨gb1202, 2, none⟩ (.int .u64 t1199)) = w32 at n0_ n1_ n2_ n3_ ⊢; have HO_7 := n0_; have HO_8 := n1_; have BK1202 := n2_; have HB := n3_; clear n0_ n1_ n2_ n3_; have n0_ := Aside0.mk (Kd.R_drew HO_7.out); have n1_ := Aside0.mk (Kd.R_drew HO_8.out); have n2_ := Aside0.mk (zRk BK1202.out); have n3_ := Aside0.mk (zRj HB.out); clear HO_7; clear HO_8; clear BK1202; clear HB; have HO_7 := n0_; have HO_8 := n1_; have BK1202 := n2_; have HB := n3_; clear n0_ n1_ n2_ n3_; refine start_ (n := 6) (S := fun w' => w'.cell? ⟨gb1202, 0, none⟩ = some (.string t1197) ∧ w'.cell? ⟨gb1202, 1, none⟩ = some (.int .u64 t1198) ∧ w'.cell? ⟨gb1202, 2, none⟩ = some (.int .u64 t1199)) (ds := []) #[false, false, false, false, false, false] (by kernel_rfl) rfl rfl ⟨(zRa BK1202.out 0).trans rfl, (zRa BK1202.out 1).trans rfl, (zRa BK1202.out 2).trans rfl⟩ (fun hHeld => ?_); generalize w32.drew = w33 at HO_7 HO_8 BK1202 HB hHeld ⊢; refine pure_ (i := 0) (N := some 46) (v := ?_) (a' := ?_) #[true, false, false, false, false, false] rfl rfl (by kernel_rfl) (fun _ _ _ h => h) (Or.inl ⟨zvv, ?_⟩) ?_ ?_; rotate_left
            ·intro w'; go_simp; with_reducible rfl
            rotate_left
            ·simp only [Act.put, zsa, zsb, zsc, i64_w, i32_w]; rfl
            refine pure_ (i := 2) (N := some 48) (v := ?_) (a' := ?_) #[true, false, true, false, false, false] rfl rfl (by kernel_rfl) (fun _ _ _ h => h) (Or.inl ⟨zvv, ?_⟩) ?_ ?_; rotate_left
            ·intro w'; go_simp; with_reducible rfl
            rotate_left
            ·simp only [Act.put, zsa, zsb, zsc, i64_w, i32_w]; rfl
            refine take_ (i := 1) (N := some 47) (v := ?_) (a' := ?_) #[true, true, true, false, false, false] rfl rfl (by kernel_rfl) (fun _ _ _ h => h) (Or.inl ⟨zvv, ?_⟩) hHeld ?_ ?_; rotate_left
            ·rintro w' ⟨s0, s1, s2⟩; go_simp; with_reducible rfl
            rotate_left
            ·simp only [Act.put, zsa, zsb, zsc, i64_w, i32_w]; rfl
            refine one_ (i := 3) (N := some 49) #[true, true, true, true, false, false] rfl rfl (by kernel_rfl) zvz (fun K hK => ?_); refine goes_ Tryd.func88 (by kernel_rfl) rfl #[.int .i64 a1] zvv rfl rfl zv3 ?_; with_reducible refine (paymasterref11_most.calls k2 a1 t1203 _ A14.out).mono ?_; rintro e w' ⟨rfl, ⟨nd, rfl⟩⟩; refine ⟨_, rfl, ?_⟩; obtain ⟨Ao34, co34, eo34⟩ := Kd.R_slice HO_8.out; (first | subst eo34 | (injection eo34 with f1_ f2_ f3_; have f4_ := f1_.symm; have f5_ := f3_.symm; clear f1_ f2_ f3_; subst f4_; subst f5_))
            refine hK.out _ _ ⟨(zRa BK1202.out 0).trans rfl, (zRa BK1202.out 1).trans rfl, (zRa BK1202.out 2).trans rfl⟩ (fun hHeld => ?_); clear hK K; refine norm_ (a' := ?_) ?_ ?_; rotate_left
            ·show Act.put _ (some 49) _ = _; simp only [Act.put, zsa, zsb, zsc, i64_w, i32_w]; rfl
            refine one_ (i := 4) (N := some 50) #[true, true, true, true, true, false] rfl rfl (by kernel_rfl) zvz (fun K hK => ?_); refine goes_ Tryd.func87 (by kernel_rfl) rfl #[.slice Ao34 x8_2.length co34, .agg #[.string t1197, .int .u64 t1198, .int .u64 t1199], .int .i64 t1203] zvv rfl rfl zv3 ?_; with_reducible refine (paymasterref11_put.calls k2 _ _ x8_2 t1197 t1198 t1199 t1203 t1204 _ ?side1 ?side2 A15.out).mono ?_; (case side1 => repeat (first | exact (Kd.R_reads' HO_8.out).2.2 | (with_reducible refine Kd.C_alloc ?_ _) | (with_reducible refine Kd.C_drewN ?_ _) | (with_reducible refine Kd.C_drew ?_)))
            (case side2 => exact (Kd.R_reads' HO_8.out).2.1)
            rintro e w35 ⟨rfl, hb⟩; refine ⟨_, rfl, ?_⟩; have n0_ := Aside0.mk (Kd.R_below (zqr HO_7.out) hb); have n1_ := Aside0.mk (Kd.R_below (zqr HO_8.out) hb); have n2_ := Aside0.mk (zRc (g := gb1202) (o := .cells #[.string t1197, .int .u64 t1198, .int .u64 t1199] 44 (0, 0)) (zqb BK1202.out) hb); have n3_ := Aside0.mk (zRd zvn hb); clear HO_7; clear HO_8; clear BK1202; clear HB; have HO_7 := n0_; have HO_8 := n1_; have BK1202 := n2_; have HB := n3_; clear n0_ n1_ n2_ n3_; (try clear hb)
            (try clear hb2)
            (try clear hk)
            (try clear hi)
            refine hK.out _ _ ⟨(zRa BK1202.out 0).trans rfl, (zRa BK1202.out 1).trans rfl, (zRa BK1202.out 2).trans rfl⟩ (fun hHeld => ?_); clear hK K; refine norm_ (a' := ?_) ?_ ?_; rotate_left
            ·show Act.put _ (some 50) _ = _; simp only [Act.put, zsa, zsb, zsc, i64_w, i32_w]; rfl
            refine pure_ (i := 5) (N := some 12) (v := ?_) (a' := ?_) #[true, true, true, true, true, true] rfl rfl (by kernel_rfl) (fun _ _ _ h => h) (Or.inl ⟨zvv, ?_⟩) ?_ ?_; rotate_left
            ·intro w'; go_simp; with_reducible rfl
            rotate_left
            ·simp only [Act.put, zsa, zsb, zsc, i64_w, i32_w]; rfl
            refine done_ (by kernel_rfl) ?_; try go_wp2
            go_ret3
            exact ⟨_, zv8, zvo, zvn⟩
          ·replace c13 := Bool.eq_false_iff.mpr c13; subst c13; have H1 : (paymasterref11_Import.l0 k2 a1 t1190 x8_2 (wrap64 (x9_2 + 1))) = some (r1, r2, r3) := by rw [if_neg (show ¬ (false = true) by decide)] at H; exact H
           clear H; have H := H1; clear H1; have H' := Aside0.mk H; clear H; obtain ⟨Ao36, co36, eo36⟩ := Kd.R_slice HO_7.out; subst eo36; have p1196 : 0 ≤ (x9_2 : Int) := of_decide_eq_true zv6; have q1196 : x9_2 < (t1190.length : Int) := of_decide_eq_true zv6; obtain ⟨ad1196, e1196, hx1196_0⟩ := Kd.at_string (Kd.R_reads' HO_7.out).2.2 x9_2 p1196 q1196; cases e1196; replace p1196 := eq_true p1196; replace q1196 := eq_true q1196
           go_wp2_with (first | ((with_reducible refine zRl (f := 83) rfl ?_); refine goesL_ (some 35) rfl rfl Tryd.func83 (by kernel_rfl) rfl #[.string (rdOf ByteArray.empty t1190 x9_2)] rfl zv3 ?_; (with_reducible refine (paymasterref10_One.calls k2 (rdOf ByteArray.empty t1190 x9_2) t1197 t1198 t1199 false t1201 _ A11.out).mono ?_); rintro e w37 ⟨rfl, hb⟩; refine ⟨_, rfl, ?_⟩; have n0_ := Aside0.mk (Kd.R_below (zqr HO_7.out) hb); have n1_ := Aside0.mk (Kd.R_below (zqr HO_8.out) hb); have n2_ := Aside0.mk (zRd zv0 hb); clear HO_7; clear HO_8; clear HB; have HO_7 := n0_; have HO_8 := n1_; have HB := n2_; clear n0_ n1_ n2_; (try clear hb); (try clear hb2); (try clear hk); (try clear hi)) | ((with_reducible refine zRq (N := 10) rfl ?_); refine zRn ?hg (N := 10) ?hd (cs := #[.string (⟨#[]⟩ : ByteArray), .int .u64 0, .int .u64 0]) (t := 44) ?hr ?_; (case hd => rfl); (case hg => rfl); (case hr => first | (go_simp; done) | (go_simp; rfl)); intro gb1202 hg w38 hbox hb; have n0_ := Aside0.mk (Kd.R_below (zqr HO_7.out) hb); have n1_ := Aside0.mk (Kd.R_below (Kd.R_elderB (zqr HO_8.out) gb1202 (Nat.le_of_eq hg.symm)) hb); have n2_ := Aside0.mk (zRd zv0 hb); have n3_ := Aside0.mk (hbox); have n4_ := Aside0.mk ((zv3w : w.heap.size ≤ gb1202)); have n5_ := Aside0.mk ((zv3w : w.heap.size ≤ gb1202)); clear HO_7; clear HO_8; clear HB; have HO_7 := n0_; have HO_8 := n1_; have HB := n2_; have BK1202 := n3_; have GW1202 := n4_; have GE1202 := n5_; clear n0_ n1_ n2_ n3_ n4_ n5_; clear hb hbox hg; have hcz39_0 : w38.cell? ⟨gb1202, 0, none⟩ = some (.string (⟨#[]⟩ : ByteArray)) := (zRa BK1202.out 0).trans rfl; have hcz39_1 : w38.cell? ⟨gb1202, 1, none⟩ = some (.int .u64 0) := (zRa BK1202.out 1).trans rfl; have hcz39_2 : w38.cell? ⟨gb1202, 2, none⟩ = some (.int .u64 0) := (zRa BK1202.out 2).trans rfl; have hfz39_0 := zRb BK1202.out 0; have hfz39_1 := zRb BK1202.out 1; have hfz39_2 := zRb BK1202.out 2))
           go_roundg k2
           case measure => have := HJ2.out; have := HK2.out; omega
           case rel => exact ⟨(x8_2), (wrap64 (x9_2 + 1)), zv5, H', ⟨(by have := HJ2.out; have := HK2.out; omega)⟩, ⟨zv40⟩, ⟨(by (with_reducible repeat (first | apply Kd.R_alloc | apply Kd.R_drewN | apply Kd.R_drew)); exact Kd.R_mono (Kd.R_far (p := ⟨gb1202, 2, none⟩) (Kd.R_far (p := ⟨gb1202, 1, none⟩) (Kd.R_far (p := ⟨gb1202, 0, none⟩) (Kd.R_mono HO_8.out (fun k_ hk => (⟨hk, hk.2⟩ : _ ∧ k_ ≠ gb1202))) (fun _ hk => hk.2) (.string t1197)) (fun _ hk => hk.2) (.int .u64 t1198)) (fun _ hk => hk.2) (.int .u64 t1199)) (fun _ hk => trivial))⟩, ⟨zvn⟩⟩
         ·rw [if_neg c12] at H; have c12b0 : (t1201 == 0) = false := beq_eq_false_iff_ne.mpr c12; have c12b1 : (t1201 != 0) = true := bne_iff_ne.mpr c12; simp only [Option.some.injEq, Prod.mk.injEq] at H; obtain ⟨rfl, rfl, rfl⟩ := H; obtain ⟨Ao40, co40, eo40⟩ := Kd.R_slice HO_7.out; subst eo40; have p1196 : 0 ≤ (x9_2 : Int) := of_decide_eq_true zv6; have q1196 : x9_2 < (t1190.length : Int) := of_decide_eq_true zv6; obtain ⟨ad1196, e1196, hx1196_0⟩ := Kd.at_string (Kd.R_reads' HO_7.out).2.2 x9_2 p1196 q1196; cases e1196; replace p1196 := eq_true p1196; replace q1196 := eq_true q1196
          go_wp2_with (first | ((with_reducible refine zRl (f := 83) rfl ?_); refine goesL_ (some 35) rfl rfl Tryd.func83 (by kernel_rfl) rfl #[.string (rdOf ByteArray.empty t1190 x9_2)] rfl zv3 ?_; (with_reducible refine (paymasterref10_One.calls k2 (rdOf ByteArray.empty t1190 x9_2) t1197 t1198 t1199 t1200 t1201 _ A11.out).mono ?_); rintro e w41 ⟨rfl, hb⟩; refine ⟨_, rfl, ?_⟩; have n0_ := Aside0.mk (Kd.R_below (zqr HO_7.out) hb); have n1_ := Aside0.mk (Kd.R_below (zqr HO_8.out) hb); have n2_ := Aside0.mk (zRd zv0 hb); clear HO_7; clear HO_8; clear HB; have HO_7 := n0_; have HO_8 := n1_; have HB := n2_; clear n0_ n1_ n2_; (try clear hb); (try clear hb2); (try clear hk); (try clear hi)) | ((with_reducible refine zRq (N := 10) rfl ?_); refine zRn ?hg (N := 10) ?hd (cs := #[.string (⟨#[]⟩ : ByteArray), .int .u64 0, .int .u64 0]) (t := 44) ?hr ?_; (case hd => rfl); (case hg => rfl); (case hr => first | (go_simp; done) | (go_simp; rfl)); intro gb1202 hg w42 hbox hb; have n0_ := Aside0.mk (Kd.R_below (zqr HO_7.out) hb); have n1_ := Aside0.mk (Kd.R_below (Kd.R_elderB (zqr HO_8.out) gb1202 (Nat.le_of_eq hg.symm)) hb); have n2_ := Aside0.mk (zRd zv0 hb); have n3_ := Aside0.mk (hbox); have n4_ := Aside0.mk ((zv3w : w.heap.size ≤ gb1202)); have n5_ := Aside0.mk ((zv3w : w.heap.size ≤ gb1202)); clear HO_7; clear HO_8; clear HB; have HO_7 := n0_; have HO_8 := n1_; have HB := n2_; have BK1202 := n3_; have GW1202 := n4_; have GE1202 := n5_; clear n0_ n1_ n2_ n3_ n4_ n5_; clear hb hbox hg; have hcz43_0 : w42.cell? ⟨gb1202, 0, none⟩ = some (.string (⟨#[]⟩ : ByteArray)) := (zRa BK1202.out 0).trans rfl; have hcz43_1 : w42.cell? ⟨gb1202, 1, none⟩ = some (.int .u64 0) := (zRa BK1202.out 1).trans rfl; have hcz43_2 : w42.cell? ⟨gb1202, 2, none⟩ = some (.int .u64 0) := (zRa BK1202.out 2).trans rfl; have hfz43_0 := zRb BK1202.out 0; have hfz43_1 := zRb BK1202.out 1; have hfz43_2 := zRb BK1202.out 2))
          go_ret3
          exact ⟨_, zv8, zvo, zvn⟩
        ·rw [if_neg c10] at H; exact absurd H zv10
       ·rw [if_neg c9] at H; have c9b0 : decide (x9_2 < (t1190.length : Int)) = false := decide_eq_false c9; clear c9; replace H := Option.bind_eq_some_iff.mp H; obtain ⟨t1193, A440, H⟩ := H; replace H : (some (t1193, 0, 0)) = some (r1, r2, r3) := H; have A44 := Aside0.mk A440; clear A440; simp only [Option.some.injEq, Prod.mk.injEq] at H; obtain ⟨rfl, rfl, rfl⟩ := H; obtain ⟨Ao45, co45, eo45⟩ := Kd.R_slice HO_7.out; subst eo45; obtain ⟨Ao46, co46, eo46⟩ := Kd.R_slice HO_8.out; subst eo46
        go_wp2_with (first | ((with_reducible refine zRl (f := 57) rfl ?_); refine goesL_ (some 61) rfl rfl Tryd.func57 (by kernel_rfl) rfl #[.slice Ao46 x8_2.length co46] rfl zv3 ?_; (with_reducible refine (paymasterref10_Sort.calls k2 _ _ x8_2 t1193 _ ?side1 ?side2 A44.out).mono ?_); (case side1 => repeat (first | exact (Kd.R_reads' HO_8.out).2.2 | (with_reducible refine Kd.C_alloc ?_ _) | (with_reducible refine Kd.C_drewN ?_ _) | (with_reducible refine Kd.C_drew ?_))); (case side2 => exact (Kd.R_reads' HO_8.out).2.1); rintro e w47 ⟨v1194, rfl, ho0, hb⟩; refine ⟨_, rfl, ?_⟩; have n0_ := Aside0.mk (Kd.R_below (zqr HO_7.out) hb); have n1_ := Aside0.mk (Kd.R_elder' (zqr HO_8.out) (Kd.R_base ho0) hb); have n2_ := Aside0.mk (Kd.R_lower (Kd.R_new' ho0 (Kd.R_lt (zqr HO_8.out))) (zRg zv0)); have n3_ := Aside0.mk (zRd zv0 hb); clear HO_7; clear HO_8; clear HB; have HO_7 := n0_; have HO_8 := n1_; have HO1195 := n2_; have HB := n3_; clear n0_ n1_ n2_ n3_; (try clear hb); (try clear hb2); (try clear hk); (try clear hi); (try clear ho0)))
        go_ret3
        exact ⟨_, zv8, (by (with_reducible repeat (first | apply Kd.R_alloc | apply Kd.R_drewN | apply Kd.R_drew)); exact Kd.R_mono HO1195.out (fun _ hk => trivial)), zv0⟩
end Go.Proofs.YtpkjpiphjdpegaaDoor.P
