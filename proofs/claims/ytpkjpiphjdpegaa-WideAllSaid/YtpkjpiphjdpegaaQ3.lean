/- Pure facts of layer 1's reference: how numbers compare, their differences. -/
import Derived.Test.YtpkjpiphjdpegaaQ2
namespace Go.Proofs.Ytpkjpiphjdpegaa.P
open Go.RowKit Go.Proofs.YtpkjpiphjdpegaaW.PrintWords Go.Proofs.YtpkjpiphjdpegaaW.PrintLast Go.Proofs.YtpkjpiphjdpegaaW.PrintMore
set_option linter.unusedVariables false
set_option linter.unusedSimpArgs false

def cmpI (x y : Int) : Int := if x < y then -1 else if x = y then 0 else 1

theorem cmp_step {k : Nat} (X Y : List Int) (i j x y : Int) (hj : i = j + 1) (h0 : 0 ≤ i) (h8 : i < 8) (hX : (X.length : Int) = 8) (hY : (Y.length : Int) = 8) (hx : rd X i = x) (hy : rd Y i = y) :
    paymasterref01_Cmp.l0 (k + 1) X Y i = if x < y then some (-1) else if x > y then some 1 else paymasterref01_Cmp.l0 k X Y j := by
  obtain rfl : j = i - 1 := by omega
  subst hx hy
  simp only [paymasterref01_Cmp.l0]
  rw [if_pos (by omega), if_pos h0, if_pos (by omega), if_pos (by omega), wi _ (by omega) (by omega)]
theorem cmp_end {k : Nat} (X Y : List Int) : paymasterref01_Cmp.l0 (k + 1) X Y (-1) = some 0 := by
  simp only [paymasterref01_Cmp.l0]
  rw [if_neg (by omega)]

theorem d16 (x : Int) (h : D16 x) : 0 ≤ x ∧ x < 65536 := h
theorem refCmp_is (k : Nat) (a b c d : Int) (ha : U64 a) (hb : U64 b) (hc : U64 c) (hd : U64 d) : paymasterref01_Cmp.f (k + 20) a b c d = some (cmpI (val a b) (val c d)) := by
  unfold paymasterref01_Cmp.f
  have A : paymasterref01_digits.f (k + 20) a b = some (dg a b) := digits_is (k + 10) a b ha hb
  have B : paymasterref01_digits.f (k + 20) c d = some (dg c d) := digits_is (k + 10) c d hc hd
  rw [A, B]
  clear A B
  simp only [Option.bind_some]
  obtain ⟨x0, x1, x2, x3, x4, x5, x6, x7, eX, hx0, hx1, hx2, hx3, hx4, hx5, hx6, hx7, va, vb⟩ := dg_cases a b ha hb
  obtain ⟨y0, y1, y2, y3, y4, y5, y6, y7, eY, hy0, hy1, hy2, hy3, hy4, hy5, hy6, hy7, vc, vd⟩ := dg_cases c d hc hd
  have lx : ((dg a b).length : Int) = 8 := rfl
  have ly : ((dg c d).length : Int) = 8 := rfl
  have e0 : rd (dg a b) 0 = x0 := by rw [eX]; rfl
  have f0 : rd (dg c d) 0 = y0 := by rw [eY]; rfl
  have e1 : rd (dg a b) 1 = x1 := by rw [eX]; rfl
  have f1 : rd (dg c d) 1 = y1 := by rw [eY]; rfl
  have e2 : rd (dg a b) 2 = x2 := by rw [eX]; rfl
  have f2 : rd (dg c d) 2 = y2 := by rw [eY]; rfl
  have e3 : rd (dg a b) 3 = x3 := by rw [eX]; rfl
  have f3 : rd (dg c d) 3 = y3 := by rw [eY]; rfl
  have e4 : rd (dg a b) 4 = x4 := by rw [eX]; rfl
  have f4 : rd (dg c d) 4 = y4 := by rw [eY]; rfl
  have e5 : rd (dg a b) 5 = x5 := by rw [eX]; rfl
  have f5 : rd (dg c d) 5 = y5 := by rw [eY]; rfl
  have e6 : rd (dg a b) 6 = x6 := by rw [eX]; rfl
  have f6 : rd (dg c d) 6 = y6 := by rw [eY]; rfl
  have e7 : rd (dg a b) 7 = x7 := by rw [eX]; rfl
  have f7 : rd (dg c d) 7 = y7 := by rw [eY]; rfl
  generalize dg a b = X at *
  generalize dg c d = Y at *
  have vx : val a b = x0 + x1 * 65536 + x2 * 4294967296 + x3 * 281474976710656 + x4 * 18446744073709551616 + x5 * 1208925819614629174706176 + x6 * 79228162514264337593543950336 + x7 * 5192296858534827628530496329220096 := by
    unfold val; rw [va, vb, sum_digits]
  have vy : val c d = y0 + y1 * 65536 + y2 * 4294967296 + y3 * 281474976710656 + y4 * 18446744073709551616 + y5 * 1208925819614629174706176 + y6 * 79228162514264337593543950336 + y7 * 5192296858534827628530496329220096 := by
    unfold val; rw [vc, vd, sum_digits]
  clear eX eY va vb vc vd
  generalize val a b = V at *
  generalize val c d = W at *
  have rx0 := d16 _ hx0
  have ry0 := d16 _ hy0
  have rx1 := d16 _ hx1
  have ry1 := d16 _ hy1
  have rx2 := d16 _ hx2
  have ry2 := d16 _ hy2
  have rx3 := d16 _ hx3
  have ry3 := d16 _ hy3
  have rx4 := d16 _ hx4
  have ry4 := d16 _ hy4
  have rx5 := d16 _ hx5
  have ry5 := d16 _ hy5
  have rx6 := d16 _ hx6
  have ry6 := d16 _ hy6
  have rx7 := d16 _ hx7
  have ry7 := d16 _ hy7
  refine (cmp_step (k := k + 19) X Y 7 (6) x7 y7 rfl (by omega) (by omega) lx ly e7 f7).trans ?_
  by_cases l7 : x7 < y7
  · rw [if_pos l7]
    have : V < W := by omega
    unfold cmpI
    rw [if_pos this]
  · rw [if_neg l7]
    by_cases g7 : x7 > y7
    · rw [if_pos g7]
      have h1 : ¬ V < W := by omega
      have h2 : ¬ V = W := by omega
      unfold cmpI
      rw [if_neg h1, if_neg h2]
    · rw [if_neg g7]
      have t7 : x7 = y7 := by omega
      clear l7 g7
      refine (cmp_step (k := k + 18) X Y 6 (5) x6 y6 rfl (by omega) (by omega) lx ly e6 f6).trans ?_
      by_cases l6 : x6 < y6
      · rw [if_pos l6]
        have : V < W := by omega
        unfold cmpI
        rw [if_pos this]
      · rw [if_neg l6]
        by_cases g6 : x6 > y6
        · rw [if_pos g6]
          have h1 : ¬ V < W := by omega
          have h2 : ¬ V = W := by omega
          unfold cmpI
          rw [if_neg h1, if_neg h2]
        · rw [if_neg g6]
          have t6 : x6 = y6 := by omega
          clear l6 g6
          refine (cmp_step (k := k + 17) X Y 5 (4) x5 y5 rfl (by omega) (by omega) lx ly e5 f5).trans ?_
          by_cases l5 : x5 < y5
          · rw [if_pos l5]
            have : V < W := by omega
            unfold cmpI
            rw [if_pos this]
          · rw [if_neg l5]
            by_cases g5 : x5 > y5
            · rw [if_pos g5]
              have h1 : ¬ V < W := by omega
              have h2 : ¬ V = W := by omega
              unfold cmpI
              rw [if_neg h1, if_neg h2]
            · rw [if_neg g5]
              have t5 : x5 = y5 := by omega
              clear l5 g5
              refine (cmp_step (k := k + 16) X Y 4 (3) x4 y4 rfl (by omega) (by omega) lx ly e4 f4).trans ?_
              by_cases l4 : x4 < y4
              · rw [if_pos l4]
                have : V < W := by omega
                unfold cmpI
                rw [if_pos this]
              · rw [if_neg l4]
                by_cases g4 : x4 > y4
                · rw [if_pos g4]
                  have h1 : ¬ V < W := by omega
                  have h2 : ¬ V = W := by omega
                  unfold cmpI
                  rw [if_neg h1, if_neg h2]
                · rw [if_neg g4]
                  have t4 : x4 = y4 := by omega
                  clear l4 g4
                  refine (cmp_step (k := k + 15) X Y 3 (2) x3 y3 rfl (by omega) (by omega) lx ly e3 f3).trans ?_
                  by_cases l3 : x3 < y3
                  · rw [if_pos l3]
                    have : V < W := by omega
                    unfold cmpI
                    rw [if_pos this]
                  · rw [if_neg l3]
                    by_cases g3 : x3 > y3
                    · rw [if_pos g3]
                      have h1 : ¬ V < W := by omega
                      have h2 : ¬ V = W := by omega
                      unfold cmpI
                      rw [if_neg h1, if_neg h2]
                    · rw [if_neg g3]
                      have t3 : x3 = y3 := by omega
                      clear l3 g3
                      refine (cmp_step (k := k + 14) X Y 2 (1) x2 y2 rfl (by omega) (by omega) lx ly e2 f2).trans ?_
                      by_cases l2 : x2 < y2
                      · rw [if_pos l2]
                        have : V < W := by omega
                        unfold cmpI
                        rw [if_pos this]
                      · rw [if_neg l2]
                        by_cases g2 : x2 > y2
                        · rw [if_pos g2]
                          have h1 : ¬ V < W := by omega
                          have h2 : ¬ V = W := by omega
                          unfold cmpI
                          rw [if_neg h1, if_neg h2]
                        · rw [if_neg g2]
                          have t2 : x2 = y2 := by omega
                          clear l2 g2
                          refine (cmp_step (k := k + 13) X Y 1 (0) x1 y1 rfl (by omega) (by omega) lx ly e1 f1).trans ?_
                          by_cases l1 : x1 < y1
                          · rw [if_pos l1]
                            have : V < W := by omega
                            unfold cmpI
                            rw [if_pos this]
                          · rw [if_neg l1]
                            by_cases g1 : x1 > y1
                            · rw [if_pos g1]
                              have h1 : ¬ V < W := by omega
                              have h2 : ¬ V = W := by omega
                              unfold cmpI
                              rw [if_neg h1, if_neg h2]
                            · rw [if_neg g1]
                              have t1 : x1 = y1 := by omega
                              clear l1 g1
                              refine (cmp_step (k := k + 12) X Y 0 (-1) x0 y0 rfl (by omega) (by omega) lx ly e0 f0).trans ?_
                              by_cases l0 : x0 < y0
                              · rw [if_pos l0]
                                have : V < W := by omega
                                unfold cmpI
                                rw [if_pos this]
                              · rw [if_neg l0]
                                by_cases g0 : x0 > y0
                                · rw [if_pos g0]
                                  have h1 : ¬ V < W := by omega
                                  have h2 : ¬ V = W := by omega
                                  unfold cmpI
                                  rw [if_neg h1, if_neg h2]
                                · rw [if_neg g0]
                                  have t0 : x0 = y0 := by omega
                                  clear l0 g0
                                  refine (cmp_end (k := k + 11) X Y).trans ?_
                                  have : V = W := by omega
                                  unfold cmpI
                                  rw [if_neg (by omega), if_pos this]
end Go.Proofs.Ytpkjpiphjdpegaa.P
