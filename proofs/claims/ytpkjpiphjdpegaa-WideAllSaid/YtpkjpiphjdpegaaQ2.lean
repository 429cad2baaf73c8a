/- Pure facts of layer 1's reference: its sums, differences, comparisons are those of the numbers. -/
import Derived.Test.YtpkjpiphjdpegaaQ1
namespace Go.Proofs.Ytpkjpiphjdpegaa.P
open Go.RowKit Go.Proofs.YtpkjpiphjdpegaaW.PrintWords Go.Proofs.YtpkjpiphjdpegaaW.PrintLast Go.Proofs.YtpkjpiphjdpegaaW.PrintMore
set_option linter.unusedVariables false
set_option linter.unusedSimpArgs false

/-- a number's eight digits -/
theorem dg_cases (hi lo : Int) (h : U64 hi) (h' : U64 lo) : ∃ d0 d1 d2 d3 d4 d5 d6 d7 : Int, dg hi lo = [d0, d1, d2, d3, d4, d5, d6, d7] ∧ D16 d0 ∧ D16 d1 ∧ D16 d2 ∧ D16 d3 ∧ D16 d4 ∧ D16 d5 ∧ D16 d6 ∧ D16 d7 ∧ hi = hf d4 d5 d6 d7 ∧ lo = hf d0 d1 d2 d3 := by
  obtain ⟨d0, d1, d2, d3, e0, e1, e2, e3, h0, h1, h2, h3, hl⟩ := split4 lo h'
  obtain ⟨d4, d5, d6, d7, e4, e5, e6, e7, h4, h5, h6, h7, hh⟩ := split4 hi h
  refine ⟨d0, d1, d2, d3, d4, d5, d6, d7, ?_, h0, h1, h2, h3, h4, h5, h6, h7, hh, hl⟩
  unfold dg
  rw [e0, e1, e2, e3, e4, e5, e6, e7]

theorem add_step {k : Nat} (X Y out : List Int) (c i j x y : Int) (hj : j = i + 1) (h0 : 0 ≤ i) (h8 : i < 8) (hX : (X.length : Int) = 8) (hY : (Y.length : Int) = 8) (hx : rd X i = x) (hy : rd Y i = y) (dx : D16 x) (dy : D16 y) (hc : 0 ≤ c) (hc1 : c ≤ 1) (hl : out.length < 100) :
    paymasterref01_Add.l0 (k + 1) X Y c out i = paymasterref01_Add.l0 k X Y ((x + y + c) / 65536) (out ++ [(x + y + c) % 65536]) j := by
  obtain ⟨x0, x1⟩ := dx
  obtain ⟨y0, y1⟩ := dy
  subst hj hx hy
  simp only [paymasterref01_Add.l0]
  rw [if_pos h8, if_pos h0, if_pos (by omega), if_pos (by omega), if_pos (by omega), wu (rd X i + rd Y i) (by omega) (by omega), wu (rd X i + rd Y i + c) (by omega) (by omega), tm _ (by omega), td _ (by omega), wu _ (by omega) (by omega), wi _ (by omega) (by omega)]

theorem sum_digits (x0 x1 x2 x3 x4 x5 x6 x7 : Int) : hf x4 x5 x6 x7 * 18446744073709551616 + hf x0 x1 x2 x3 = x0 + x1 * 65536 + x2 * 4294967296 + x3 * 281474976710656 + x4 * 18446744073709551616 + x5 * 1208925819614629174706176 + x6 * 79228162514264337593543950336 + x7 * 5192296858534827628530496329220096 := by
  unfold hf; omega
theorem hf_range (a b c d : Int) (ha : D16 a) (hb : D16 b) (hc : D16 c) (hd : D16 d) : U64 (hf a b c d) := by
  unfold D16 at *; unfold hf; constructor <;> omega
theorem halves (n hi lo : Int) (h : U64 lo) (e : n = hi * 18446744073709551616 + lo) : hiOf n = hi ∧ loOf n = lo := by
  unfold hiOf loOf; constructor <;> omega

set_option maxHeartbeats 400000 in
theorem refAdd_is (k : Nat) (a b c d : Int) (ha : U64 a) (hb : U64 b) (hc : U64 c) (hd : U64 d) : paymasterref01_Add.f (k + 50) a b c d = u128_Add.f a b c d := by
  unfold paymasterref01_Add.f
  have A : paymasterref01_digits.f (k + 50) a b = some (dg a b) := digits_is (k + 40) a b ha hb
  have B : paymasterref01_digits.f (k + 50) c d = some (dg c d) := digits_is (k + 40) c d hc hd
  rw [A, B]
  clear A B
  simp only [Option.bind_some]
  obtain ⟨x0, x1, x2, x3, x4, x5, x6, x7, eX, hx0, hx1, hx2, hx3, hx4, hx5, hx6, hx7, va, vb⟩ := dg_cases a b ha hb
  obtain ⟨y0, y1, y2, y3, y4, y5, y6, y7, eY, hy0, hy1, hy2, hy3, hy4, hy5, hy6, hy7, vc, vd⟩ := dg_cases c d hc hd
  have lx : ((dg a b).length : Int) = 8 := rfl
  have ly : ((dg c d).length : Int) = 8 := rfl
  have e0 : rd (dg a b) 0 = x0 := by rw [eX]; rfl
  have e1 : rd (dg a b) 1 = x1 := by rw [eX]; rfl
  have e2 : rd (dg a b) 2 = x2 := by rw [eX]; rfl
  have e3 : rd (dg a b) 3 = x3 := by rw [eX]; rfl
  have e4 : rd (dg a b) 4 = x4 := by rw [eX]; rfl
  have e5 : rd (dg a b) 5 = x5 := by rw [eX]; rfl
  have e6 : rd (dg a b) 6 = x6 := by rw [eX]; rfl
  have e7 : rd (dg a b) 7 = x7 := by rw [eX]; rfl
  have f0 : rd (dg c d) 0 = y0 := by rw [eY]; rfl
  have f1 : rd (dg c d) 1 = y1 := by rw [eY]; rfl
  have f2 : rd (dg c d) 2 = y2 := by rw [eY]; rfl
  have f3 : rd (dg c d) 3 = y3 := by rw [eY]; rfl
  have f4 : rd (dg c d) 4 = y4 := by rw [eY]; rfl
  have f5 : rd (dg c d) 5 = y5 := by rw [eY]; rfl
  have f6 : rd (dg c d) 6 = y6 := by rw [eY]; rfl
  have f7 : rd (dg c d) 7 = y7 := by rw [eY]; rfl
  generalize dg a b = X at *
  generalize dg c d = Y at *
  have vx : val a b = x0 + x1 * 65536 + x2 * 4294967296 + x3 * 281474976710656 + x4 * 18446744073709551616 + x5 * 1208925819614629174706176 + x6 * 79228162514264337593543950336 + x7 * 5192296858534827628530496329220096 := by
    unfold val; rw [va, vb, sum_digits]
  have vy : val c d = y0 + y1 * 65536 + y2 * 4294967296 + y3 * 281474976710656 + y4 * 18446744073709551616 + y5 * 1208925819614629174706176 + y6 * 79228162514264337593543950336 + y7 * 5192296858534827628530496329220096 := by
    unfold val; rw [vc, vd, sum_digits]
  clear eX eY va vb vc vd
  have key : ∀ x y c : Int, D16 x → D16 y → 0 ≤ c → c ≤ 1 → ∃ s q : Int, (x + y + c) % 65536 = s ∧ (x + y + c) / 65536 = q ∧ D16 s ∧ 0 ≤ q ∧ q ≤ 1 ∧ x + y + c = q * 65536 + s := by
    intro x y c hx hy h0 h1
    unfold D16 at *
    exact ⟨_, _, rfl, rfl, by omega, by omega, by omega, by omega⟩
  obtain ⟨s0, c1, p0, q0, t0, g0, g0', v0⟩ := key x0 y0 0 hx0 hy0 (by omega) (by omega)
  obtain ⟨s1, c2, p1, q1, t1, g1, g1', v1⟩ := key x1 y1 c1 hx1 hy1 g0 g0'
  obtain ⟨s2, c3, p2, q2, t2, g2, g2', v2⟩ := key x2 y2 c2 hx2 hy2 g1 g1'
  obtain ⟨s3, c4, p3, q3, t3, g3, g3', v3⟩ := key x3 y3 c3 hx3 hy3 g2 g2'
  obtain ⟨s4, c5, p4, q4, t4, g4, g4', v4⟩ := key x4 y4 c4 hx4 hy4 g3 g3'
  obtain ⟨s5, c6, p5, q5, t5, g5, g5', v5⟩ := key x5 y5 c5 hx5 hy5 g4 g4'
  obtain ⟨s6, c7, p6, q6, t6, g6, g6', v6⟩ := key x6 y6 c6 hx6 hy6 g5 g5'
  obtain ⟨s7, c8, p7, q7, t7, g7, g7', v7⟩ := key x7 y7 c7 hx7 hy7 g6 g6'
  refine (add_step (k := k + 49) X Y [] 0 0 1 x0 y0 rfl (by omega) (by omega) lx ly e0 f0 hx0 hy0 (by omega) (by omega) (by simp)).trans ?_
  rw [p0, q0]
  simp only [List.nil_append]
  refine (add_step (k := k + 48) X Y [s0] c1 1 2 x1 y1 rfl (by omega) (by omega) lx ly e1 f1 hx1 hy1 g0 g0' (by simp)).trans ?_
  rw [p1, q1]
  simp only [List.cons_append, List.nil_append]
  refine (add_step (k := k + 47) X Y [s0, s1] c2 2 3 x2 y2 rfl (by omega) (by omega) lx ly e2 f2 hx2 hy2 g1 g1' (by simp)).trans ?_
  rw [p2, q2]
  simp only [List.cons_append, List.nil_append]
  refine (add_step (k := k + 46) X Y [s0, s1, s2] c3 3 4 x3 y3 rfl (by omega) (by omega) lx ly e3 f3 hx3 hy3 g2 g2' (by simp)).trans ?_
  rw [p3, q3]
  simp only [List.cons_append, List.nil_append]
  refine (add_step (k := k + 45) X Y [s0, s1, s2, s3] c4 4 5 x4 y4 rfl (by omega) (by omega) lx ly e4 f4 hx4 hy4 g3 g3' (by simp)).trans ?_
  rw [p4, q4]
  simp only [List.cons_append, List.nil_append]
  refine (add_step (k := k + 44) X Y [s0, s1, s2, s3, s4] c5 5 6 x5 y5 rfl (by omega) (by omega) lx ly e5 f5 hx5 hy5 g4 g4' (by simp)).trans ?_
  rw [p5, q5]
  simp only [List.cons_append, List.nil_append]
  refine (add_step (k := k + 43) X Y [s0, s1, s2, s3, s4, s5] c6 6 7 x6 y6 rfl (by omega) (by omega) lx ly e6 f6 hx6 hy6 g5 g5' (by simp)).trans ?_
  rw [p6, q6]
  simp only [List.cons_append, List.nil_append]
  refine (add_step (k := k + 42) X Y [s0, s1, s2, s3, s4, s5, s6] c7 7 8 x7 y7 rfl (by omega) (by omega) lx ly e7 f7 hx7 hy7 g6 g6' (by simp)).trans ?_
  rw [p7, q7]
  simp only [List.cons_append, List.nil_append]
  have fin : paymasterref01_Add.l0 (k + 42) X Y c8 [s0, s1, s2, s3, s4, s5, s6, s7] 8 = (paymasterref01_number.f (k + 41) [s0, s1, s2, s3, s4, s5, s6, s7, c8]).bind fun bt153 => (if bt153.2.2 = true then (some (bt153.1, bt153.2.1, 0)) else (some (0, 0, 10))) := by
    rw [paymasterref01_Add.l0, if_neg (by omega), if_pos (by simp)]
    rfl
  refine fin.trans ?_
  have N := number9 (k + 13) s0 s1 s2 s3 s4 s5 s6 s7 c8 t0 t1 t2 t3 t4 t5 t6 t7
  rw [show k + 13 + 28 = k + 41 from rfl] at N
  rw [N]
  clear N fin
  have sd := sum_digits s0 s1 s2 s3 s4 s5 s6 s7
  have hr := hf_range s4 s5 s6 s7 t4 t5 t6 t7
  have hr' := hf_range s0 s1 s2 s3 t0 t1 t2 t3
  have tot : val a b + val c d = c8 * 340282366920938463463374607431768211456 + (hf s4 s5 s6 s7 * 18446744073709551616 + hf s0 s1 s2 s3) := by
    rw [sd, vx, vy]
    omega
  obtain ⟨r0, r1⟩ := hr
  obtain ⟨r2, r3⟩ := hr'
  generalize hf s4 s5 s6 s7 = H at *
  generalize hf s0 s1 s2 s3 = L at *
  clear sd vx vy key
  by_cases h8 : c8 = 0
  · have hlt : val a b + val c d < m128 := by unfold m128; omega
    have hh := halves (val a b + val c d) H L ⟨r2, r3⟩ (by rw [tot, h8]; omega)
    have hA : u128_Add.f a b c d = some (H, L, 0) := by
      unfold u128_Add.f
      rw [if_pos (show U64 a ∧ U64 b ∧ U64 c ∧ U64 d from ⟨ha, hb, hc, hd⟩), if_pos hlt, hh.1, hh.2]
    rw [hA, if_pos h8]
    rfl
  · have hge : ¬ (val a b + val c d < m128) := by unfold m128; omega
    have hA : u128_Add.f a b c d = some (0, 0, 10) := by
      unfold u128_Add.f
      rw [if_pos (show U64 a ∧ U64 b ∧ U64 c ∧ U64 d from ⟨ha, hb, hc, hd⟩), if_neg hge]
    rw [hA, if_neg h8]
    rfl
end Go.Proofs.Ytpkjpiphjdpegaa.P
