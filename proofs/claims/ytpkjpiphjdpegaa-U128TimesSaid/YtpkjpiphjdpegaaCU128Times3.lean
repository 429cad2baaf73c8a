/- A program of this session wrote this text out of the session's own texts. (part 3 of 3) -/
import Derived.Test.YtpkjpiphjdpegaaCU128Times2
namespace Go.Proofs.Ytpkjpiphjdpegaa.P
open Go.RowKit Go.Proofs.YtpkjpiphjdpegaaW.PrintWords Go.Proofs.YtpkjpiphjdpegaaW.PrintLast Go.Proofs.YtpkjpiphjdpegaaW.PrintMore
attribute [local go_sem] max2_int min2_int max_two min_two max_three min_three max_four min_four
set_option linter.unusedVariables false
set_option linter.unusedSimpArgs false
mutual
def bits_Div64.j2 : Nat → Int → Int → Int → Int → Int → Int → Int → Int → Option (Int × Int)
  | 0, _, _, _, _, _, _, _, _ => none
  | k + 1, x2, x8, x9, x10, x11, x13, x14, x15 => if x9 = 0 then (none) else (bits_Div64.l1 k x2 x8 x9 x10 x14 x15 (IntKind.u64.wrap ((IntKind.u64.wrap ((IntKind.u64.wrap ((IntKind.u64.wrap (x11 * 4294967296)) + x13)) - (IntKind.u64.wrap (x15 * x2)))) - (IntKind.u64.wrap ((IntKind.u64.wrap (Int.tdiv (IntKind.u64.wrap ((IntKind.u64.wrap ((IntKind.u64.wrap (x11 * 4294967296)) + x13)) - (IntKind.u64.wrap (x15 * x2)))) x9)) * x9)))) (IntKind.u64.wrap ((IntKind.u64.wrap ((IntKind.u64.wrap (x11 * 4294967296)) + x13)) - (IntKind.u64.wrap (x15 * x2)))) (IntKind.u64.wrap (Int.tdiv (IntKind.u64.wrap ((IntKind.u64.wrap ((IntKind.u64.wrap (x11 * 4294967296)) + x13)) - (IntKind.u64.wrap (x15 * x2)))) x9)))
def bits_Div64.l1 : Nat → Int → Int → Int → Int → Int → Int → Int → Int → Int → Option (Int × Int)
  | 0, _, _, _, _, _, _, _, _, _ => none
  | k + 1, x2, x8, x9, x10, x14, x15, x16, x17, x18 => if x18 ≥ 4294967296 then (bits_Div64.j4 k x2 x8 x9 x10 x14 x15 x16 x17 x18 true) else (bits_Div64.j4 k x2 x8 x9 x10 x14 x15 x16 x17 x18 (decide ((IntKind.u64.wrap (x18 * x10)) > (IntKind.u64.wrap ((IntKind.u64.wrap (4294967296 * x16)) + x14)))))
def bits_Div64.j4 : Nat → Int → Int → Int → Int → Int → Int → Int → Int → Int → Bool → Option (Int × Int)
  | 0, _, _, _, _, _, _, _, _, _, _ => none
  | k + 1, x2, x8, x9, x10, x14, x15, x16, x17, x18, x113 => if x113 = true then (if (IntKind.u64.wrap (x16 + x9)) ≥ 4294967296 then (if 0 ≤ x8 then (some (IntKind.u64.wrap ((IntKind.u64.wrap (x15 * 4294967296)) + (IntKind.u64.wrap (x18 - 1))), shr .u64 (IntKind.u64.wrap ((IntKind.u64.wrap ((IntKind.u64.wrap (x17 * 4294967296)) + x14)) - (IntKind.u64.wrap ((IntKind.u64.wrap (x18 - 1)) * x2)))) x8)) else (none)) else (bits_Div64.l1 k x2 x8 x9 x10 x14 x15 (IntKind.u64.wrap (x16 + x9)) x17 (IntKind.u64.wrap (x18 - 1)))) else (if 0 ≤ x8 then (some (IntKind.u64.wrap ((IntKind.u64.wrap (x15 * 4294967296)) + x18), shr .u64 (IntKind.u64.wrap ((IntKind.u64.wrap ((IntKind.u64.wrap (x17 * 4294967296)) + x14)) - (IntKind.u64.wrap (x18 * x2)))) x8)) else (none))
def bits_Div64.l0 : Nat → Int → Int → Int → Int → Int → Int → Int → Int → Int → Option (Int × Int)
  | 0, _, _, _, _, _, _, _, _, _ => none
  | k + 1, x2, x8, x9, x10, x11, x13, x14, x15, x16 => if x15 ≥ 4294967296 then (bits_Div64.j1 k x2 x8 x9 x10 x11 x13 x14 x15 x16 true) else (bits_Div64.j1 k x2 x8 x9 x10 x11 x13 x14 x15 x16 (decide ((IntKind.u64.wrap (x15 * x10)) > (IntKind.u64.wrap ((IntKind.u64.wrap (4294967296 * x16)) + x13)))))
def bits_Div64.j1 : Nat → Int → Int → Int → Int → Int → Int → Int → Int → Int → Bool → Option (Int × Int)
  | 0, _, _, _, _, _, _, _, _, _, _ => none
  | k + 1, x2, x8, x9, x10, x11, x13, x14, x15, x16, x78 => if x78 = true then (if (IntKind.u64.wrap (x16 + x9)) ≥ 4294967296 then (bits_Div64.j2 k x2 x8 x9 x10 x11 x13 x14 (IntKind.u64.wrap (x15 - 1))) else (bits_Div64.l0 k x2 x8 x9 x10 x11 x13 x14 (IntKind.u64.wrap (x15 - 1)) (IntKind.u64.wrap (x16 + x9)))) else (bits_Div64.j2 k x2 x8 x9 x10 x11 x13 x14 x15)
end
def bits_Div64.f (k : Nat) (a0 : Int) (a1 : Int) (a2 : Int) : Option (Int × Int) := if a2 = 0 then (none) else (if a2 ≤ a0 then (none) else (if a0 = 0 then (some (IntKind.u64.wrap (Int.tdiv a1 a2), Int.tmod a1 a2)) else ((bits_LeadingZeros64.f k a2).bind fun t878 => (if 0 ≤ (IntKind.u64.wrap (t878)) then (if 0 ≤ (IntKind.u64.wrap (64 - (IntKind.u64.wrap (t878)))) then (if ((shl .u64 a2 (IntKind.u64.wrap (t878))) / 4294967296) = 0 then (none) else (bits_Div64.l0 k (shl .u64 a2 (IntKind.u64.wrap (t878))) (IntKind.u64.wrap (t878)) ((shl .u64 a2 (IntKind.u64.wrap (t878))) / 4294967296) (Go.bits .and .u64 (shl .u64 a2 (IntKind.u64.wrap (t878))) 4294967295) (Go.bits .or .u64 (shl .u64 a0 (IntKind.u64.wrap (t878))) (shr .u64 a1 (IntKind.u64.wrap (64 - (IntKind.u64.wrap (t878)))))) ((shl .u64 a1 (IntKind.u64.wrap (t878))) / 4294967296) (Go.bits .and .u64 (shl .u64 a1 (IntKind.u64.wrap (t878))) 4294967295) (IntKind.u64.wrap (Int.tdiv (Go.bits .or .u64 (shl .u64 a0 (IntKind.u64.wrap (t878))) (shr .u64 a1 (IntKind.u64.wrap (64 - (IntKind.u64.wrap (t878)))))) ((shl .u64 a2 (IntKind.u64.wrap (t878))) / 4294967296))) (IntKind.u64.wrap ((Go.bits .or .u64 (shl .u64 a0 (IntKind.u64.wrap (t878))) (shr .u64 a1 (IntKind.u64.wrap (64 - (IntKind.u64.wrap (t878)))))) - (IntKind.u64.wrap ((IntKind.u64.wrap (Int.tdiv (Go.bits .or .u64 (shl .u64 a0 (IntKind.u64.wrap (t878))) (shr .u64 a1 (IntKind.u64.wrap (64 - (IntKind.u64.wrap (t878)))))) ((shl .u64 a2 (IntKind.u64.wrap (t878))) / 4294967296))) * ((shl .u64 a2 (IntKind.u64.wrap (t878))) / 4294967296))))))) else (none)) else (none)))))
set_option maxHeartbeats 8000000 in
set_option maxRecDepth 100000 in
theorem bits_Div64.calls (k : Nat) (a0 : Int) (a1 : Int) (a2 : Int) (r1 : Int) (r2 : Int) (w : World) (h : bits_Div64.f k a0 a1 a2 = some (r1, r2)) :
    Calls Try.prog 90 #[.int .u64 a0, .int .u64 a1, .int .u64 a2] w fun e w' => e = .returned (.tuple #[.int .u64 r1, .int .u64 r2]) ∧ Drawn0 w w' := by
  have H : (if a2 = 0 then (none) else (if a2 ≤ a0 then (none) else (if a0 = 0 then (some (IntKind.u64.wrap (Int.tdiv a1 a2), Int.tmod a1 a2)) else ((bits_LeadingZeros64.f k a2).bind fun t878 => (if 0 ≤ (IntKind.u64.wrap (t878)) then (if 0 ≤ (IntKind.u64.wrap (64 - (IntKind.u64.wrap (t878)))) then (if ((shl .u64 a2 (IntKind.u64.wrap (t878))) / 4294967296) = 0 then (none) else (bits_Div64.l0 k (shl .u64 a2 (IntKind.u64.wrap (t878))) (IntKind.u64.wrap (t878)) ((shl .u64 a2 (IntKind.u64.wrap (t878))) / 4294967296) (Go.bits .and .u64 (shl .u64 a2 (IntKind.u64.wrap (t878))) 4294967295) (Go.bits .or .u64 (shl .u64 a0 (IntKind.u64.wrap (t878))) (shr .u64 a1 (IntKind.u64.wrap (64 - (IntKind.u64.wrap (t878)))))) ((shl .u64 a1 (IntKind.u64.wrap (t878))) / 4294967296) (Go.bits .and .u64 (shl .u64 a1 (IntKind.u64.wrap (t878))) 4294967295) (IntKind.u64.wrap (Int.tdiv (Go.bits .or .u64 (shl .u64 a0 (IntKind.u64.wrap (t878))) (shr .u64 a1 (IntKind.u64.wrap (64 - (IntKind.u64.wrap (t878)))))) ((shl .u64 a2 (IntKind.u64.wrap (t878))) / 4294967296))) (IntKind.u64.wrap ((Go.bits .or .u64 (shl .u64 a0 (IntKind.u64.wrap (t878))) (shr .u64 a1 (IntKind.u64.wrap (64 - (IntKind.u64.wrap (t878)))))) - (IntKind.u64.wrap ((IntKind.u64.wrap (Int.tdiv (Go.bits .or .u64 (shl .u64 a0 (IntKind.u64.wrap (t878))) (shr .u64 a1 (IntKind.u64.wrap (64 - (IntKind.u64.wrap (t878)))))) ((shl .u64 a2 (IntKind.u64.wrap (t878))) / 4294967296))) * ((shl .u64 a2 (IntKind.u64.wrap (t878))) / 4294967296))))))) else (none)) else (none)))))) = some (r1, r2) := h
  clear h
  by_cases c4 : a2 = 0
  · rw [if_pos c4] at H
    exact absurd H (by simp)
  · rw [if_neg c4] at H
    have c4b0 : (a2 == 0) = false := beq_eq_false_iff_ne.mpr c4
    have c4b1 : (a2 != 0) = true := bne_iff_ne.mpr c4
    by_cases c5 : a2 ≤ a0
    · rw [if_pos c5] at H
      exact absurd H (by simp)
    · rw [if_neg c5] at H
      have c5b0 : decide (a2 ≤ a0) = false := decide_eq_false c5
      clear c5
      by_cases c6 : a0 = 0
      · rw [if_pos c6] at H
        have c6b0 : (a0 == 0) = true := beq_iff_eq.mpr c6
        have c6b1 : (a0 != 0) = false := bne_eq_false_iff_eq.mpr c6
        clear c6
        simp only [Option.some.injEq, Prod.mk.injEq] at H
        obtain ⟨rfl, rfl⟩ := H
        go_enter Try.func90, Try.ntmps90
        go_wp2
        repeat (go_quiet (fail); try go_wp2)
        go_ret2
        exact ⟨by first | rfl | (simp; done) | (simp [*]; done), by repeat (first | exact Drawn0.refl _ | apply Drawn0.step)⟩
      · rw [if_neg c6] at H
        have c6b0 : (a0 == 0) = false := beq_eq_false_iff_ne.mpr c6
        have c6b1 : (a0 != 0) = true := bne_iff_ne.mpr c6
        replace H := Option.bind_eq_some_iff.mp H
        obtain ⟨t878, A70, H⟩ := H
        replace H : (if 0 ≤ (IntKind.u64.wrap (t878)) then (if 0 ≤ (IntKind.u64.wrap (64 - (IntKind.u64.wrap (t878)))) then (if ((shl .u64 a2 (IntKind.u64.wrap (t878))) / 4294967296) = 0 then (none) else (bits_Div64.l0 k (shl .u64 a2 (IntKind.u64.wrap (t878))) (IntKind.u64.wrap (t878)) ((shl .u64 a2 (IntKind.u64.wrap (t878))) / 4294967296) (Go.bits .and .u64 (shl .u64 a2 (IntKind.u64.wrap (t878))) 4294967295) (Go.bits .or .u64 (shl .u64 a0 (IntKind.u64.wrap (t878))) (shr .u64 a1 (IntKind.u64.wrap (64 - (IntKind.u64.wrap (t878)))))) ((shl .u64 a1 (IntKind.u64.wrap (t878))) / 4294967296) (Go.bits .and .u64 (shl .u64 a1 (IntKind.u64.wrap (t878))) 4294967295) (IntKind.u64.wrap (Int.tdiv (Go.bits .or .u64 (shl .u64 a0 (IntKind.u64.wrap (t878))) (shr .u64 a1 (IntKind.u64.wrap (64 - (IntKind.u64.wrap (t878)))))) ((shl .u64 a2 (IntKind.u64.wrap (t878))) / 4294967296))) (IntKind.u64.wrap ((Go.bits .or .u64 (shl .u64 a0 (IntKind.u64.wrap (t878))) (shr .u64 a1 (IntKind.u64.wrap (64 - (IntKind.u64.wrap (t878)))))) - (IntKind.u64.wrap ((IntKind.u64.wrap (Int.tdiv (Go.bits .or .u64 (shl .u64 a0 (IntKind.u64.wrap (t878))) (shr .u64 a1 (IntKind.u64.wrap (64 - (IntKind.u64.wrap (t878)))))) ((shl .u64 a2 (IntKind.u64.wrap (t878))) / 4294967296))) * ((shl .u64 a2 (IntKind.u64.wrap (t878))) / 4294967296))))))) else (none)) else (none)) = some (r1, r2) := H
        have A7 := Aside0.mk A70
        clear A70
        obtain ⟨ji8, hji8⟩ : ∃ j_ : Int, (IntKind.u64.wrap (t878)) = j_ := ⟨_, rfl⟩
        replace H : (if 0 ≤ (ji8) then (if 0 ≤ (IntKind.u64.wrap (64 - (ji8))) then (if ((shl .u64 a2 (ji8)) / 4294967296) = 0 then (none) else (bits_Div64.l0 k (shl .u64 a2 (ji8)) ji8 ((shl .u64 a2 (ji8)) / 4294967296) (Go.bits .and .u64 (shl .u64 a2 (ji8)) 4294967295) (Go.bits .or .u64 (shl .u64 a0 (ji8)) (shr .u64 a1 (IntKind.u64.wrap (64 - (ji8))))) ((shl .u64 a1 (ji8)) / 4294967296) (Go.bits .and .u64 (shl .u64 a1 (ji8)) 4294967295) (IntKind.u64.wrap (Int.tdiv (Go.bits .or .u64 (shl .u64 a0 (ji8)) (shr .u64 a1 (IntKind.u64.wrap (64 - (ji8))))) ((shl .u64 a2 (ji8)) / 4294967296))) (IntKind.u64.wrap ((Go.bits .or .u64 (shl .u64 a0 (ji8)) (shr .u64 a1 (IntKind.u64.wrap (64 - (ji8))))) - (IntKind.u64.wrap ((IntKind.u64.wrap (Int.tdiv (Go.bits .or .u64 (shl .u64 a0 (ji8)) (shr .u64 a1 (IntKind.u64.wrap (64 - (ji8))))) ((shl .u64 a2 (ji8)) / 4294967296))) * ((shl .u64 a2 (ji8)) / 4294967296))))))) else (none)) else (none)) = some (r1, r2) := by first | (rw [hji8] at H; exact H) | (simp only [hji8] at H ⊢; exact H)
        (try rw [hji8] at A7)
        by_cases c9 : 0 ≤ (ji8)
        · rw [if_pos c9] at H
          have c9b0 := eq_true c9
          have c9b1 : decide (0 ≤ (ji8)) = true := decide_eq_true c9
          clear c9
          obtain ⟨ji10, hji10⟩ : ∃ j_ : Int, (shl .u64 a2 (ji8)) = j_ := ⟨_, rfl⟩
          replace H : (if 0 ≤ (IntKind.u64.wrap (64 - (ji8))) then (if ((ji10) / 4294967296) = 0 then (none) else (bits_Div64.l0 k ji10 ji8 ((ji10) / 4294967296) (Go.bits .and .u64 (ji10) 4294967295) (Go.bits .or .u64 (shl .u64 a0 (ji8)) (shr .u64 a1 (IntKind.u64.wrap (64 - (ji8))))) ((shl .u64 a1 (ji8)) / 4294967296) (Go.bits .and .u64 (shl .u64 a1 (ji8)) 4294967295) (IntKind.u64.wrap (Int.tdiv (Go.bits .or .u64 (shl .u64 a0 (ji8)) (shr .u64 a1 (IntKind.u64.wrap (64 - (ji8))))) ((ji10) / 4294967296))) (IntKind.u64.wrap ((Go.bits .or .u64 (shl .u64 a0 (ji8)) (shr .u64 a1 (IntKind.u64.wrap (64 - (ji8))))) - (IntKind.u64.wrap ((IntKind.u64.wrap (Int.tdiv (Go.bits .or .u64 (shl .u64 a0 (ji8)) (shr .u64 a1 (IntKind.u64.wrap (64 - (ji8))))) ((ji10) / 4294967296))) * ((ji10) / 4294967296))))))) else (none)) = some (r1, r2) := by first | (rw [hji10] at H; exact H) | (simp only [hji10] at H ⊢; exact H)
          (try rw [hji10] at A7)
          have hji10_ : (IntKind.u64.wrap (a2 * 2 ^ min (ji8).toNat 64)) = ji10 := hji10
          have hji10z : (ji8) ≤ 64 → (IntKind.u64.wrap (a2 * 2 ^ (ji8).toNat)) = ji10 := shl_small hji10
          have c11b0 := eq_true (of_decide_eq_true (by first | (with_reducible assumption) | assumption) : 0 ≤ (ji8))
          obtain ⟨ji12, hji12⟩ : ∃ j_ : Int, (shl .u64 a0 (ji8)) = j_ := ⟨_, rfl⟩
          replace H : (if 0 ≤ (IntKind.u64.wrap (64 - (ji8))) then (if ((ji10) / 4294967296) = 0 then (none) else (bits_Div64.l0 k ji10 ji8 ((ji10) / 4294967296) (Go.bits .and .u64 (ji10) 4294967295) (Go.bits .or .u64 (ji12) (shr .u64 a1 (IntKind.u64.wrap (64 - (ji8))))) ((shl .u64 a1 (ji8)) / 4294967296) (Go.bits .and .u64 (shl .u64 a1 (ji8)) 4294967295) (IntKind.u64.wrap (Int.tdiv (Go.bits .or .u64 (ji12) (shr .u64 a1 (IntKind.u64.wrap (64 - (ji8))))) ((ji10) / 4294967296))) (IntKind.u64.wrap ((Go.bits .or .u64 (ji12) (shr .u64 a1 (IntKind.u64.wrap (64 - (ji8))))) - (IntKind.u64.wrap ((IntKind.u64.wrap (Int.tdiv (Go.bits .or .u64 (ji12) (shr .u64 a1 (IntKind.u64.wrap (64 - (ji8))))) ((ji10) / 4294967296))) * ((ji10) / 4294967296))))))) else (none)) = some (r1, r2) := by first | (rw [hji12] at H; exact H) | (simp only [hji12] at H ⊢; exact H)
          (try rw [hji12] at A7)
          have hji12_ : (IntKind.u64.wrap (a0 * 2 ^ min (ji8).toNat 64)) = ji12 := hji12
          have hji12z : (ji8) ≤ 64 → (IntKind.u64.wrap (a0 * 2 ^ (ji8).toNat)) = ji12 := shl_small hji12
          obtain ⟨ji13, hji13⟩ : ∃ j_ : Int, (IntKind.u64.wrap (64 - (ji8))) = j_ := ⟨_, rfl⟩
          replace H : (if 0 ≤ (ji13) then (if ((ji10) / 4294967296) = 0 then (none) else (bits_Div64.l0 k ji10 ji8 ((ji10) / 4294967296) (Go.bits .and .u64 (ji10) 4294967295) (Go.bits .or .u64 (ji12) (shr .u64 a1 (ji13))) ((shl .u64 a1 (ji8)) / 4294967296) (Go.bits .and .u64 (shl .u64 a1 (ji8)) 4294967295) (IntKind.u64.wrap (Int.tdiv (Go.bits .or .u64 (ji12) (shr .u64 a1 (ji13))) ((ji10) / 4294967296))) (IntKind.u64.wrap ((Go.bits .or .u64 (ji12) (shr .u64 a1 (ji13))) - (IntKind.u64.wrap ((IntKind.u64.wrap (Int.tdiv (Go.bits .or .u64 (ji12) (shr .u64 a1 (ji13))) ((ji10) / 4294967296))) * ((ji10) / 4294967296))))))) else (none)) = some (r1, r2) := by first | (rw [hji13] at H; exact H) | (simp only [hji13] at H ⊢; exact H)
          (try rw [hji13] at A7)
          by_cases c14 : 0 ≤ (ji13)
          · rw [if_pos c14] at H
            have c14b0 := eq_true c14
            have c14b1 : decide (0 ≤ (ji13)) = true := decide_eq_true c14
            clear c14
            obtain ⟨ji15, hji15⟩ : ∃ j_ : Int, (shr .u64 a1 (ji13)) = j_ := ⟨_, rfl⟩
            replace H : (if ((ji10) / 4294967296) = 0 then (none) else (bits_Div64.l0 k ji10 ji8 ((ji10) / 4294967296) (Go.bits .and .u64 (ji10) 4294967295) (Go.bits .or .u64 (ji12) (ji15)) ((shl .u64 a1 (ji8)) / 4294967296) (Go.bits .and .u64 (shl .u64 a1 (ji8)) 4294967295) (IntKind.u64.wrap (Int.tdiv (Go.bits .or .u64 (ji12) (ji15)) ((ji10) / 4294967296))) (IntKind.u64.wrap ((Go.bits .or .u64 (ji12) (ji15)) - (IntKind.u64.wrap ((IntKind.u64.wrap (Int.tdiv (Go.bits .or .u64 (ji12) (ji15)) ((ji10) / 4294967296))) * ((ji10) / 4294967296))))))) = some (r1, r2) := by first | (rw [hji15] at H; exact H) | (simp only [hji15] at H ⊢; exact H)
            (try rw [hji15] at A7)
            have hji15_ : (a1 / 2 ^ min (ji13).toNat 64) = ji15 := hji15
            have hji15z : (ji13) ≤ 64 → (a1 / 2 ^ (ji13).toNat) = ji15 := shr_small hji15
            have c16b0 := eq_true (of_decide_eq_true (by first | (with_reducible assumption) | assumption) : 0 ≤ (ji8))
            obtain ⟨ji17, hji17⟩ : ∃ j_ : Int, (shl .u64 a1 (ji8)) = j_ := ⟨_, rfl⟩
            replace H : (if ((ji10) / 4294967296) = 0 then (none) else (bits_Div64.l0 k ji10 ji8 ((ji10) / 4294967296) (Go.bits .and .u64 (ji10) 4294967295) (Go.bits .or .u64 (ji12) (ji15)) ((ji17) / 4294967296) (Go.bits .and .u64 (ji17) 4294967295) (IntKind.u64.wrap (Int.tdiv (Go.bits .or .u64 (ji12) (ji15)) ((ji10) / 4294967296))) (IntKind.u64.wrap ((Go.bits .or .u64 (ji12) (ji15)) - (IntKind.u64.wrap ((IntKind.u64.wrap (Int.tdiv (Go.bits .or .u64 (ji12) (ji15)) ((ji10) / 4294967296))) * ((ji10) / 4294967296))))))) = some (r1, r2) := by first | (rw [hji17] at H; exact H) | (simp only [hji17] at H ⊢; exact H)
            (try rw [hji17] at A7)
            have hji17_ : (IntKind.u64.wrap (a1 * 2 ^ min (ji8).toNat 64)) = ji17 := hji17
            have hji17z : (ji8) ≤ 64 → (IntKind.u64.wrap (a1 * 2 ^ (ji8).toNat)) = ji17 := shl_small hji17
            by_cases c18 : ((ji10) / 4294967296) = 0
            · rw [if_pos c18] at H
              exact absurd H (by simp)
            · rw [if_neg c18] at H
              have c18b0 : (((ji10) / 4294967296) == 0) = false := beq_eq_false_iff_ne.mpr c18
              have c18b1 : (((ji10) / 4294967296) != 0) = true := bne_iff_ne.mpr c18
              have HC19 := Aside0.mk H
              clear H
              go_enter Try.func90, Try.ntmps90
              go_upto_block 0 with (first | (go_at_call 105; (with_reducible refine (bits_LeadingZeros64.calls k a2 t878 _ A7.out).mono ?_); rintro e w' ⟨rfl, ⟨nd, rfl⟩⟩; (try first | exact ⟨rfl, _, World.drewN_drewN _ _ _⟩ | exact ⟨rfl, _, Eq.trans (World.drewN_drewN _ _ _) (congrArg (World.drewN _) (Nat.add_assoc _ _ _))⟩)))
              repeat (go_quiet (first | (go_at_call 105; (with_reducible refine (bits_LeadingZeros64.calls k a2 t878 _ A7.out).mono ?_); rintro e w' ⟨rfl, ⟨nd, rfl⟩⟩; (try first | exact ⟨rfl, _, World.drewN_drewN _ _ _⟩ | exact ⟨rfl, _, Eq.trans (World.drewN_drewN _ _ _) (congrArg (World.drewN _) (Nat.add_assoc _ _ _))⟩))); go_upto_block 0 with (first | (go_at_call 105; (with_reducible refine (bits_LeadingZeros64.calls k a2 t878 _ A7.out).mono ?_); rintro e w' ⟨rfl, ⟨nd, rfl⟩⟩; (try first | exact ⟨rfl, _, World.drewN_drewN _ _ _⟩ | exact ⟨rfl, _, Eq.trans (World.drewN_drewN _ _ _) (congrArg (World.drewN _) (Nat.add_assoc _ _ _))⟩))))
              (try simp only [Act.put, List.setIfInBounds_toArray, List.set_cons_zero, List.set_cons_succ])
              go_cut [15] (fun v15 wc => ∃ (kq : Nat) (x15_18 : Int), v15 = .int .u64 x15_18 ∧ Aside0 (bits_Div64.j2 kq ji10 ji8 ((ji10) / 4294967296) (Go.bits .and .u64 (ji10) 4294967295) (Go.bits .or .u64 (ji12) (ji15)) ((ji17) / 4294967296) (Go.bits .and .u64 (ji17) 4294967295) x15_18 = some (r1, r2)) ∧ Aside0 (kq ≤ k) ∧ Drawn0 w wc)
              case first =>
                have H := HC19.out
                clear HC19
                have H' := Aside0.mk H
                clear H
                go_wp2
                repeat (go_quiet (fail); try go_wp2)
                go_loopg [15, 16] k (fun kq v15 v16 w' => ∃ (x15_1 : Int) (x16_1 : Int), v15 = .int .u64 x15_1 ∧ v16 = .int .u64 x16_1 ∧ Aside0 (bits_Div64.l0 kq ji10 ji8 ((ji10) / 4294967296) (Go.bits .and .u64 (ji10) 4294967295) (Go.bits .or .u64 (ji12) (ji15)) ((ji17) / 4294967296) (Go.bits .and .u64 (ji17) 4294967295) x15_1 x16_1 = some (r1, r2)) ∧ Aside0 (kq ≤ k) ∧ Drawn0 w w')
                case atStart => exact ⟨(IntKind.u64.wrap (Int.tdiv (Go.bits .or .u64 (ji12) (ji15)) ((ji10) / 4294967296))), (IntKind.u64.wrap ((Go.bits .or .u64 (ji12) (ji15)) - (IntKind.u64.wrap ((IntKind.u64.wrap (Int.tdiv (Go.bits .or .u64 (ji12) (ji15)) ((ji10) / 4294967296))) * ((ji10) / 4294967296))))), (by first | rfl | (simp; done) | (simp only [← hji10, ← hji12, ← hji15] <;> (first | rfl | simp)) | (simp [*]; done)), (by first | rfl | (simp; done) | (simp only [← hji10, ← hji12, ← hji15] <;> (first | rfl | simp)) | (simp [*]; done)), H', ⟨Nat.le_refl _⟩, by repeat (first | exact Drawn0.refl _ | apply Drawn0.step)⟩
                case round =>
                  clear H'
                  try clear c1
                  try clear p2
                  try clear c4
                  try clear c4b0
                  try clear c4b1
                  try clear c5
                  try clear c5b0
                  try clear c6
                  try clear c6b0
                  try clear c6b1
                  try clear c9
                  try clear c9b0
                  try clear c9b1
                  try clear c11
                  try clear c11b0
                  try clear c14
                  try clear c14b0
                  try clear c14b1
                  try clear c16
                  try clear c16b0
                  try clear c18
                  try clear c18b0
                  try clear c18b1
                  obtain ⟨x15_1, x16_1, rfl, rfl, HA, HK1, ⟨m1, rfl⟩⟩ := hrel
                  cases gk with
                  | zero => exact absurd HA.out (by simp [bits_Div64.l0])
                  | succ k1 =>
                    have H := HA.out
                    clear HA
                    simp only [bits_Div64.l0] at H
                    have HC20 := Aside0.mk H
                    clear H
                    go_upto_region 17 with (fail)
                    repeat (go_quiet (fail); go_upto_region 17 with (fail))
                    go_cut [78] (fun v78 wc => ∃ (kq : Nat) (x78_19 : Bool), v78 = .bool x78_19 ∧ Aside0 (bits_Div64.j1 kq ji10 ji8 ((ji10) / 4294967296) (Go.bits .and .u64 (ji10) 4294967295) (Go.bits .or .u64 (ji12) (ji15)) ((ji17) / 4294967296) (Go.bits .and .u64 (ji17) 4294967295) x15_1 x16_1 x78_19 = some (r1, r2)) ∧ Aside0 (kq ≤ k1) ∧ Drawn0 w wc)
                    case first =>
                      have H := HC20.out
                      clear HC20
                      by_cases c21 : x15_1 ≥ 4294967296
                      · rw [if_pos c21] at H
                        have c21b0 : decide (4294967296 ≤ x15_1) = true := decide_eq_true c21
                        clear c21
                        (first | rw [c21b0] | (simp only [i64_w, i32_w]; rw [c21b0]) | skip)
                        have H' := Aside0.mk H
                        clear H
                        go_wp2
                        repeat (go_quiet (fail); try go_wp2)
                        go_meet
                        case rel => exact ⟨_, (true), (by first | rfl | (simp; done) | (simp [*]; done)), H', ⟨by have := HK1.out; first | omega | exact Nat.le_refl _⟩, by repeat (first | exact Drawn0.refl _ | apply Drawn0.step)⟩
                      · rw [if_neg c21] at H
                        have c21b0 : decide (4294967296 ≤ x15_1) = false := decide_eq_false c21
                        clear c21
                        (first | rw [c21b0] | (simp only [i64_w, i32_w]; rw [c21b0]) | skip)
                        have H' := Aside0.mk H
                        clear H
                        go_wp2
                        repeat (go_quiet (fail); try go_wp2)
                        go_meet
                        case rel => exact ⟨_, (decide ((IntKind.u64.wrap (x15_1 * (Go.bits .and .u64 (ji10) 4294967295))) > (IntKind.u64.wrap ((IntKind.u64.wrap (4294967296 * x16_1)) + ((ji17) / 4294967296))))), (by first | rfl | (simp; done) | (simp only [← hji10, ← hji17] <;> (first | rfl | simp)) | (simp [*]; done)), H', ⟨by have := HK1.out; first | omega | exact Nat.le_refl _⟩, by repeat (first | exact Drawn0.refl _ | apply Drawn0.step)⟩
                    case rest =>
                      clear HC20
                      try clear c1
                      try clear c2
                      try clear p2
                      try clear c4
                      try clear c4b0
                      try clear c4b1
                      try clear c5
                      try clear c5b0
                      try clear c6
                      try clear c6b0
                      try clear c6b1
                      try clear c9
                      try clear c9b0
                      try clear c9b1
                      try clear c11
                      try clear c11b0
                      try clear c14
                      try clear c14b0
                      try clear c14b1
                      try clear c16
                      try clear c16b0
                      try clear c18
                      try clear c18b0
                      try clear c18b1
                      try clear c21
                      try clear c21b0
                      try clear p2
                      obtain ⟨kq, x78_19, rfl, HA, HJ19, ⟨mc19, rfl⟩⟩ := hcut
                      cases kq with
                      | zero => exact absurd HA.out (by simp [bits_Div64.j1])
                      | succ kj19 =>
                        have H := HA.out
                        clear HA
                        simp only [bits_Div64.j1] at H
                        by_cases c22 : x78_19 = true
                        · subst c22
                          have H1 : (if (IntKind.u64.wrap (x16_1 + ((ji10) / 4294967296))) ≥ 4294967296 then (bits_Div64.j2 kj19 ji10 ji8 ((ji10) / 4294967296) (Go.bits .and .u64 (ji10) 4294967295) (Go.bits .or .u64 (ji12) (ji15)) ((ji17) / 4294967296) (Go.bits .and .u64 (ji17) 4294967295) (IntKind.u64.wrap (x15_1 - 1))) else (bits_Div64.l0 kj19 ji10 ji8 ((ji10) / 4294967296) (Go.bits .and .u64 (ji10) 4294967295) (Go.bits .or .u64 (ji12) (ji15)) ((ji17) / 4294967296) (Go.bits .and .u64 (ji17) 4294967295) (IntKind.u64.wrap (x15_1 - 1)) (IntKind.u64.wrap (x16_1 + ((ji10) / 4294967296))))) = some (r1, r2) := by rw [if_pos rfl] at H; exact H
                          clear H
                          have H := H1
                          clear H1
                          by_cases c23 : (IntKind.u64.wrap (x16_1 + ((ji10) / 4294967296))) ≥ 4294967296
                          · rw [if_pos c23] at H
                            have c23b0 : decide (4294967296 ≤ (IntKind.u64.wrap (x16_1 + ((ji10) / 4294967296)))) = true := decide_eq_true c23
                            clear c23
                            have H' := Aside0.mk H
                            clear H
                            go_wp2
                            repeat (go_quiet (fail); try go_wp2)
                            go_meet
                            case rel => exact ⟨_, (IntKind.u64.wrap (x15_1 - 1)), (by first | rfl | (simp; done) | (simp [*]; done)), H', ⟨by have := HK1.out; have := HJ19.out; first | omega | exact Nat.le_refl _⟩, by repeat (first | exact Drawn0.refl _ | apply Drawn0.step)⟩
                          · rw [if_neg c23] at H
                            have c23b0 : decide (4294967296 ≤ (IntKind.u64.wrap (x16_1 + ((ji10) / 4294967296)))) = false := decide_eq_false c23
                            clear c23
                            have H' := Aside0.mk H
                            clear H
                            go_wp2
                            repeat (go_quiet (fail); try go_wp2)
                            go_roundg kj19
                            case measure => have := HK1.out; have := HJ19.out; omega
                            case rel => exact ⟨(IntKind.u64.wrap (x15_1 - 1)), (IntKind.u64.wrap (x16_1 + ((ji10) / 4294967296))), (by first | rfl | (simp; done) | (simp [*]; done)), (by first | rfl | (simp; done) | (simp only [← hji10] <;> (first | rfl | simp)) | (simp [*]; done)), H', ⟨by have := HK1.out; have := HJ19.out; omega⟩, by repeat (first | exact Drawn0.refl _ | apply Drawn0.step)⟩
                        · replace c22 := Bool.eq_false_iff.mpr c22
                          subst c22
                          have H1 : (bits_Div64.j2 kj19 ji10 ji8 ((ji10) / 4294967296) (Go.bits .and .u64 (ji10) 4294967295) (Go.bits .or .u64 (ji12) (ji15)) ((ji17) / 4294967296) (Go.bits .and .u64 (ji17) 4294967295) x15_1) = some (r1, r2) := by rw [if_neg (show ¬ (false = true) by decide)] at H; exact H
                          clear H
                          have H := H1
                          clear H1
                          have H' := Aside0.mk H
                          clear H
                          go_wp2
                          repeat (go_quiet (fail); try go_wp2)
                          go_meet
                          case rel => exact ⟨_, (x15_1), (by first | rfl | (simp; done) | (simp [*]; done)), H', ⟨by have := HK1.out; have := HJ19.out; first | omega | exact Nat.le_refl _⟩, by repeat (first | exact Drawn0.refl _ | apply Drawn0.step)⟩
              case rest =>
                clear HC19
                try clear c1
                try clear c2
                try clear p2
                try clear c4
                try clear c4b0
                try clear c4b1
                try clear c5
                try clear c5b0
                try clear c6
                try clear c6b0
                try clear c6b1
                try clear c9
                try clear c9b0
                try clear c9b1
                try clear c11
                try clear c11b0
                try clear c14
                try clear c14b0
                try clear c14b1
                try clear c16
                try clear c16b0
                try clear c18
                try clear c18b0
                try clear c18b1
                try clear c19
                try clear c21
                try clear c21b0
                try clear c22
                try clear c23
                try clear c23b0
                try clear p2
                obtain ⟨kq, x15_18, rfl, HA, HJ18, ⟨mc18, rfl⟩⟩ := hcut
                cases kq with
                | zero => exact absurd HA.out (by simp [bits_Div64.j2])
                | succ kj18 =>
                  have H := HA.out
                  clear HA
                  simp only [bits_Div64.j2] at H
                  by_cases c24 : ((ji10) / 4294967296) = 0
                  · rw [if_pos c24] at H
                    exact absurd H (by simp)
                  · rw [if_neg c24] at H
                    have c24b0 : (((ji10) / 4294967296) == 0) = false := beq_eq_false_iff_ne.mpr c24
                    have c24b1 : (((ji10) / 4294967296) != 0) = true := bne_iff_ne.mpr c24
                    have H' := Aside0.mk H
                    clear H
                    go_wp2
                    repeat (go_quiet (fail); try go_wp2)
                    go_loopg [16, 18] kj18 (fun kq v16 v18 w' => ∃ (x16_2 : Int) (x18_2 : Int), v16 = .int .u64 x16_2 ∧ v18 = .int .u64 x18_2 ∧ Aside0 (bits_Div64.l1 kq ji10 ji8 ((ji10) / 4294967296) (Go.bits .and .u64 (ji10) 4294967295) (Go.bits .and .u64 (ji17) 4294967295) x15_18 x16_2 (IntKind.u64.wrap ((IntKind.u64.wrap ((IntKind.u64.wrap ((Go.bits .or .u64 (ji12) (ji15)) * 4294967296)) + ((ji17) / 4294967296))) - (IntKind.u64.wrap (x15_18 * ji10)))) x18_2 = some (r1, r2)) ∧ Aside0 (kq ≤ kj18) ∧ Drawn0 w w')
                    case atStart => exact ⟨(IntKind.u64.wrap ((IntKind.u64.wrap ((IntKind.u64.wrap ((IntKind.u64.wrap ((Go.bits .or .u64 (ji12) (ji15)) * 4294967296)) + ((ji17) / 4294967296))) - (IntKind.u64.wrap (x15_18 * ji10)))) - (IntKind.u64.wrap ((IntKind.u64.wrap (Int.tdiv (IntKind.u64.wrap ((IntKind.u64.wrap ((IntKind.u64.wrap ((Go.bits .or .u64 (ji12) (ji15)) * 4294967296)) + ((ji17) / 4294967296))) - (IntKind.u64.wrap (x15_18 * ji10)))) ((ji10) / 4294967296))) * ((ji10) / 4294967296))))), (IntKind.u64.wrap (Int.tdiv (IntKind.u64.wrap ((IntKind.u64.wrap ((IntKind.u64.wrap ((Go.bits .or .u64 (ji12) (ji15)) * 4294967296)) + ((ji17) / 4294967296))) - (IntKind.u64.wrap (x15_18 * ji10)))) ((ji10) / 4294967296))), (by first | rfl | (simp; done) | (simp only [← hji10, ← hji12, ← hji15, ← hji17] <;> (first | rfl | simp)) | (simp [*]; done)), (by first | rfl | (simp; done) | (simp only [← hji10, ← hji12, ← hji15, ← hji17] <;> (first | rfl | simp)) | (simp [*]; done)), H', ⟨Nat.le_refl _⟩, by repeat (first | exact Drawn0.refl _ | apply Drawn0.step)⟩
                    case round =>
                      clear H'
                      try clear c1
                      try clear c2
                      try clear p2
                      try clear c4
                      try clear c4b0
                      try clear c4b1
                      try clear c5
                      try clear c5b0
                      try clear c6
                      try clear c6b0
                      try clear c6b1
                      try clear c9
                      try clear c9b0
                      try clear c9b1
                      try clear c11
                      try clear c11b0
                      try clear c14
                      try clear c14b0
                      try clear c14b1
                      try clear c16
                      try clear c16b0
                      try clear c18
                      try clear c18b0
                      try clear c18b1
                      try clear c19
                      try clear c21
                      try clear c21b0
                      try clear c22
                      try clear c23
                      try clear c23b0
                      try clear c24
                      try clear c24b0
                      try clear c24b1
                      try clear p2
                      obtain ⟨x16_2, x18_2, rfl, rfl, HA, HK2, ⟨m2, rfl⟩⟩ := hrel
                      cases gk with
                      | zero => exact absurd HA.out (by simp [bits_Div64.l1])
                      | succ k2 =>
                        have H := HA.out
                        clear HA
                        simp only [bits_Div64.l1] at H
                        have HC25 := Aside0.mk H
                        clear H
                        go_upto_region 24 with (fail)
                        repeat (go_quiet (fail); go_upto_region 24 with (fail))
                        go_cut [113] (fun v113 wc => ∃ (kq : Nat) (x113_24 : Bool), v113 = .bool x113_24 ∧ Aside0 (bits_Div64.j4 kq ji10 ji8 ((ji10) / 4294967296) (Go.bits .and .u64 (ji10) 4294967295) (Go.bits .and .u64 (ji17) 4294967295) x15_18 x16_2 (IntKind.u64.wrap ((IntKind.u64.wrap ((IntKind.u64.wrap ((Go.bits .or .u64 (ji12) (ji15)) * 4294967296)) + ((ji17) / 4294967296))) - (IntKind.u64.wrap (x15_18 * ji10)))) x18_2 x113_24 = some (r1, r2)) ∧ Aside0 (kq ≤ k2) ∧ Drawn0 w wc)
                        case first =>
                          have H := HC25.out
                          clear HC25
                          by_cases c26 : x18_2 ≥ 4294967296
                          · rw [if_pos c26] at H
                            have c26b0 : decide (4294967296 ≤ x18_2) = true := decide_eq_true c26
                            clear c26
                            (first | rw [c26b0] | (simp only [i64_w, i32_w]; rw [c26b0]) | skip)
                            have H' := Aside0.mk H
                            clear H
                            go_wp2
                            repeat (go_quiet (fail); try go_wp2)
                            go_meet
                            case rel => exact ⟨_, (true), (by first | rfl | (simp; done) | (simp [*]; done)), H', ⟨by have := HJ18.out; have := HK2.out; first | omega | exact Nat.le_refl _⟩, by repeat (first | exact Drawn0.refl _ | apply Drawn0.step)⟩
                          · rw [if_neg c26] at H
                            have c26b0 : decide (4294967296 ≤ x18_2) = false := decide_eq_false c26
                            clear c26
                            (first | rw [c26b0] | (simp only [i64_w, i32_w]; rw [c26b0]) | skip)
                            have H' := Aside0.mk H
                            clear H
                            go_wp2
                            repeat (go_quiet (fail); try go_wp2)
                            go_meet
                            case rel => exact ⟨_, (decide ((IntKind.u64.wrap (x18_2 * (Go.bits .and .u64 (ji10) 4294967295))) > (IntKind.u64.wrap ((IntKind.u64.wrap (4294967296 * x16_2)) + (Go.bits .and .u64 (ji17) 4294967295))))), (by first | rfl | (simp; done) | (simp only [← hji10, ← hji17] <;> (first | rfl | simp)) | (simp [*]; done)), H', ⟨by have := HJ18.out; have := HK2.out; first | omega | exact Nat.le_refl _⟩, by repeat (first | exact Drawn0.refl _ | apply Drawn0.step)⟩
                        case rest =>
                          clear HC25
                          try clear c1
                          try clear c2
                          try clear p2
                          try clear c4
                          try clear c4b0
                          try clear c4b1
                          try clear c5
                          try clear c5b0
                          try clear c6
                          try clear c6b0
                          try clear c6b1
                          try clear c9
                          try clear c9b0
                          try clear c9b1
                          try clear c11
                          try clear c11b0
                          try clear c14
                          try clear c14b0
                          try clear c14b1
                          try clear c16
                          try clear c16b0
                          try clear c18
                          try clear c18b0
                          try clear c18b1
                          try clear c19
                          try clear c21
                          try clear c21b0
                          try clear c22
                          try clear c23
                          try clear c23b0
                          try clear c24
                          try clear c24b0
                          try clear c24b1
                          try clear c26
                          try clear c26b0
                          try clear p2
                          obtain ⟨kq, x113_24, rfl, HA, HJ24, ⟨mc24, rfl⟩⟩ := hcut
                          cases kq with
                          | zero => exact absurd HA.out (by simp [bits_Div64.j4])
                          | succ kj24 =>
                            have H := HA.out
                            clear HA
                            simp only [bits_Div64.j4] at H
                            by_cases c27 : x113_24 = true
                            · subst c27
                              have H1 : (if (IntKind.u64.wrap (x16_2 + ((ji10) / 4294967296))) ≥ 4294967296 then (if 0 ≤ ji8 then (some (IntKind.u64.wrap ((IntKind.u64.wrap (x15_18 * 4294967296)) + (IntKind.u64.wrap (x18_2 - 1))), shr .u64 (IntKind.u64.wrap ((IntKind.u64.wrap ((IntKind.u64.wrap ((IntKind.u64.wrap ((IntKind.u64.wrap ((IntKind.u64.wrap ((Go.bits .or .u64 (ji12) (ji15)) * 4294967296)) + ((ji17) / 4294967296))) - (IntKind.u64.wrap (x15_18 * ji10)))) * 4294967296)) + (Go.bits .and .u64 (ji17) 4294967295))) - (IntKind.u64.wrap ((IntKind.u64.wrap (x18_2 - 1)) * ji10)))) ji8)) else (none)) else (bits_Div64.l1 kj24 ji10 ji8 ((ji10) / 4294967296) (Go.bits .and .u64 (ji10) 4294967295) (Go.bits .and .u64 (ji17) 4294967295) x15_18 (IntKind.u64.wrap (x16_2 + ((ji10) / 4294967296))) (IntKind.u64.wrap ((IntKind.u64.wrap ((IntKind.u64.wrap ((Go.bits .or .u64 (ji12) (ji15)) * 4294967296)) + ((ji17) / 4294967296))) - (IntKind.u64.wrap (x15_18 * ji10)))) (IntKind.u64.wrap (x18_2 - 1)))) = some (r1, r2) := by rw [if_pos rfl] at H; exact H
                              clear H
                              have H := H1
                              clear H1
                              by_cases c28 : (IntKind.u64.wrap (x16_2 + ((ji10) / 4294967296))) ≥ 4294967296
                              · rw [if_pos c28] at H
                                have c28b0 : decide (4294967296 ≤ (IntKind.u64.wrap (x16_2 + ((ji10) / 4294967296)))) = true := decide_eq_true c28
                                clear c28
                                by_cases c29 : 0 ≤ ji8
                                · rw [if_pos c29] at H
                                  have c29b0 := eq_true c29
                                  have c29b1 : decide (0 ≤ ji8) = true := decide_eq_true c29
                                  clear c29
                                  obtain ⟨ji30, hji30⟩ : ∃ j_ : Int, (shr .u64 (IntKind.u64.wrap ((IntKind.u64.wrap ((IntKind.u64.wrap ((IntKind.u64.wrap ((IntKind.u64.wrap ((IntKind.u64.wrap ((Go.bits .or .u64 (ji12) (ji15)) * 4294967296)) + ((ji17) / 4294967296))) - (IntKind.u64.wrap (x15_18 * ji10)))) * 4294967296)) + (Go.bits .and .u64 (ji17) 4294967295))) - (IntKind.u64.wrap ((IntKind.u64.wrap (x18_2 - 1)) * ji10)))) ji8) = j_ := ⟨_, rfl⟩
                                  replace H : (some (IntKind.u64.wrap ((IntKind.u64.wrap (x15_18 * 4294967296)) + (IntKind.u64.wrap (x18_2 - 1))), ji30)) = some (r1, r2) := by first | (rw [hji30] at H; exact H) | (simp only [hji30] at H ⊢; exact H)
                                  have hji30_ : ((IntKind.u64.wrap ((IntKind.u64.wrap ((IntKind.u64.wrap ((IntKind.u64.wrap ((IntKind.u64.wrap ((IntKind.u64.wrap ((Go.bits .or .u64 (ji12) (ji15)) * 4294967296)) + ((ji17) / 4294967296))) - (IntKind.u64.wrap (x15_18 * ji10)))) * 4294967296)) + (Go.bits .and .u64 (ji17) 4294967295))) - (IntKind.u64.wrap ((IntKind.u64.wrap (x18_2 - 1)) * ji10)))) / 2 ^ min ji8.toNat 64) = ji30 := hji30
                                  have hji30z : ji8 ≤ 64 → ((IntKind.u64.wrap ((IntKind.u64.wrap ((IntKind.u64.wrap ((IntKind.u64.wrap ((IntKind.u64.wrap ((IntKind.u64.wrap ((Go.bits .or .u64 (ji12) (ji15)) * 4294967296)) + ((ji17) / 4294967296))) - (IntKind.u64.wrap (x15_18 * ji10)))) * 4294967296)) + (Go.bits .and .u64 (ji17) 4294967295))) - (IntKind.u64.wrap ((IntKind.u64.wrap (x18_2 - 1)) * ji10)))) / 2 ^ ji8.toNat) = ji30 := shr_small hji30
                                  simp only [Option.some.injEq, Prod.mk.injEq] at H
                                  obtain ⟨rfl, rfl⟩ := H
                                  go_wp2
                                  repeat (go_quiet (fail); try go_wp2)
                                  go_ret2
                                  exact ⟨by first | rfl | (simp; done) | (simp only [← hji8, ← hji10, ← hji12, ← hji13, ← hji15, ← hji17, ← hji30] <;> (first | rfl | simp)) | (simp [*]; done), by repeat (first | exact Drawn0.refl _ | apply Drawn0.step)⟩
                                · rw [if_neg c29] at H
                                  exact absurd H (by simp)
                              · rw [if_neg c28] at H
                                have c28b0 : decide (4294967296 ≤ (IntKind.u64.wrap (x16_2 + ((ji10) / 4294967296)))) = false := decide_eq_false c28
                                clear c28
                                have H' := Aside0.mk H
                                clear H
                                go_wp2
                                repeat (go_quiet (fail); try go_wp2)
                                go_roundg kj24
                                case measure => have := HJ18.out; have := HK2.out; have := HJ24.out; omega
                                case rel => exact ⟨(IntKind.u64.wrap (x16_2 + ((ji10) / 4294967296))), (IntKind.u64.wrap (x18_2 - 1)), (by first | rfl | (simp; done) | (simp only [← hji10] <;> (first | rfl | simp)) | (simp [*]; done)), (by first | rfl | (simp; done) | (simp [*]; done)), H', ⟨by have := HJ18.out; have := HK2.out; have := HJ24.out; omega⟩, by repeat (first | exact Drawn0.refl _ | apply Drawn0.step)⟩
                            · replace c27 := Bool.eq_false_iff.mpr c27
                              subst c27
                              have H1 : (if 0 ≤ ji8 then (some (IntKind.u64.wrap ((IntKind.u64.wrap (x15_18 * 4294967296)) + x18_2), shr .u64 (IntKind.u64.wrap ((IntKind.u64.wrap ((IntKind.u64.wrap ((IntKind.u64.wrap ((IntKind.u64.wrap ((IntKind.u64.wrap ((Go.bits .or .u64 (ji12) (ji15)) * 4294967296)) + ((ji17) / 4294967296))) - (IntKind.u64.wrap (x15_18 * ji10)))) * 4294967296)) + (Go.bits .and .u64 (ji17) 4294967295))) - (IntKind.u64.wrap (x18_2 * ji10)))) ji8)) else (none)) = some (r1, r2) := by rw [if_neg (show ¬ (false = true) by decide)] at H; exact H
                              clear H
                              have H := H1
                              clear H1
                              by_cases c31 : 0 ≤ ji8
                              · rw [if_pos c31] at H
                                have c31b0 := eq_true c31
                                have c31b1 : decide (0 ≤ ji8) = true := decide_eq_true c31
                                clear c31
                                obtain ⟨ji32, hji32⟩ : ∃ j_ : Int, (shr .u64 (IntKind.u64.wrap ((IntKind.u64.wrap ((IntKind.u64.wrap ((IntKind.u64.wrap ((IntKind.u64.wrap ((IntKind.u64.wrap ((Go.bits .or .u64 (ji12) (ji15)) * 4294967296)) + ((ji17) / 4294967296))) - (IntKind.u64.wrap (x15_18 * ji10)))) * 4294967296)) + (Go.bits .and .u64 (ji17) 4294967295))) - (IntKind.u64.wrap (x18_2 * ji10)))) ji8) = j_ := ⟨_, rfl⟩
                                replace H : (some (IntKind.u64.wrap ((IntKind.u64.wrap (x15_18 * 4294967296)) + x18_2), ji32)) = some (r1, r2) := by first | (rw [hji32] at H; exact H) | (simp only [hji32] at H ⊢; exact H)
                                have hji32_ : ((IntKind.u64.wrap ((IntKind.u64.wrap ((IntKind.u64.wrap ((IntKind.u64.wrap ((IntKind.u64.wrap ((IntKind.u64.wrap ((Go.bits .or .u64 (ji12) (ji15)) * 4294967296)) + ((ji17) / 4294967296))) - (IntKind.u64.wrap (x15_18 * ji10)))) * 4294967296)) + (Go.bits .and .u64 (ji17) 4294967295))) - (IntKind.u64.wrap (x18_2 * ji10)))) / 2 ^ min ji8.toNat 64) = ji32 := hji32
                                have hji32z : ji8 ≤ 64 → ((IntKind.u64.wrap ((IntKind.u64.wrap ((IntKind.u64.wrap ((IntKind.u64.wrap ((IntKind.u64.wrap ((IntKind.u64.wrap ((Go.bits .or .u64 (ji12) (ji15)) * 4294967296)) + ((ji17) / 4294967296))) - (IntKind.u64.wrap (x15_18 * ji10)))) * 4294967296)) + (Go.bits .and .u64 (ji17) 4294967295))) - (IntKind.u64.wrap (x18_2 * ji10)))) / 2 ^ ji8.toNat) = ji32 := shr_small hji32
                                simp only [Option.some.injEq, Prod.mk.injEq] at H
                                obtain ⟨rfl, rfl⟩ := H
                                go_wp2
                                repeat (go_quiet (fail); try go_wp2)
                                go_ret2
                                exact ⟨by first | rfl | (simp; done) | (simp only [← hji8, ← hji10, ← hji12, ← hji13, ← hji15, ← hji17, ← hji32] <;> (first | rfl | simp)) | (simp [*]; done), by repeat (first | exact Drawn0.refl _ | apply Drawn0.step)⟩
                              · rw [if_neg c31] at H
                                exact absurd H (by simp)
          · rw [if_neg c14] at H
            exact absurd H (by simp)
        · rw [if_neg c9] at H
          exact absurd H (by simp)
end Go.Proofs.Ytpkjpiphjdpegaa.P
namespace Go.Proofs.Ytpkjpiphjdpegaa.P
open Go.RowKit Go.Proofs.YtpkjpiphjdpegaaW.PrintWords Go.Proofs.YtpkjpiphjdpegaaW.PrintLast Go.Proofs.YtpkjpiphjdpegaaW.PrintMore
set_option linter.unusedVariables false
set_option linter.unusedSimpArgs false
theorem quot_lt {y Q R T q : Int} (hy : 0 < y) (e : Q * y + R = T) (hR : 0 ≤ R) (h : T < q * y) : Q < q := by
  rcases Int.lt_or_le Q q with h1 | h1
  · exact h1
  · have := Int.mul_le_mul_of_nonneg_right h1 (Int.le_of_lt hy)
    omega
theorem quot_le {y Q R T q : Int} (hy : 0 < y) (e : Q * y + R = T) (hR : R < y) (h : q * y ≤ T) : q ≤ Q := by
  rcases Int.lt_or_le Q q with h1 | h1
  · have h2 : Q + 1 ≤ q := h1
    have := Int.mul_le_mul_of_nonneg_right h2 (Int.le_of_lt hy)
    rw [Int.add_mul, Int.one_mul] at this
    omega
  · exact h1
structure Est (x2 v1 v0 u d Q R : Int) : Prop where
  hy : x2 = v1 * 4294967296 + v0
  v1l : 2147483648 ≤ v1
  v1u : v1 < 4294967296
  v0l : 0 ≤ v0
  v0u : v0 < 4294967296
  dl : 0 ≤ d
  du : d < 4294967296
  ul : 0 ≤ u
  hQ : Q * x2 + R = u * 4294967296 + d
  Rl : 0 ≤ R
  Ru : R < x2
  Ql : 0 ≤ Q
  Qu : Q < 4294967296
theorem Est.made {x2 v1 v0 u d Q R q rh : Int} (h : Est x2 v1 v0 u d Q R) (e : q * v1 + rh = u) : q * x2 = (u - rh) * 4294967296 + q * v0 := by
  rw [h.hy, Int.mul_add, ← Int.mul_assoc, show q * v1 = u - rh by omega]
theorem Est.pos {x2 v1 v0 u d Q R : Int} (h : Est x2 v1 v0 u d Q R) : 0 < x2 := by
  have := h.hy
  have := h.v1l
  have := h.v0l
  omega
theorem Est.big {x2 v1 v0 u d Q R q rh : Int} (h : Est x2 v1 v0 u d Q R) (e : q * v1 + rh = u) (t : q ≥ 4294967296 ∨ q * v0 > 4294967296 * rh + d) : Q < q := by
  rcases t with t | t
  · have := h.Qu
    omega
  · have m := h.made e
    exact quot_lt h.pos h.hQ h.Rl (by omega)
theorem Est.fits {x2 v1 v0 u d Q R q rh : Int} (h : Est x2 v1 v0 u d Q R) (e : q * v1 + rh = u) (hq : Q ≤ q) (t : ¬ (q * v0 > 4294967296 * rh + d)) : q = Q := by
  have m := h.made e
  have := quot_le h.pos h.hQ h.Ru (q := q) (by omega)
  omega
theorem Est.over {x2 v1 v0 u d Q R q rh : Int} (h : Est x2 v1 v0 u d Q R) (e : q * v1 + rh = u) (hq : Q ≤ q) (hq' : q ≤ 4294967296) (t : rh ≥ 4294967296) : q = Q := by
  have m := h.made e
  have h0 : 0 ≤ q := by
    have := h.Ql
    omega
  have w : q * v0 ≤ 4294967296 * v0 := Int.mul_le_mul_of_nonneg_right hq' h.v0l
  have := h.v0u
  have := h.dl
  have := quot_le h.pos h.hQ h.Ru (q := q) (by omega)
  omega
theorem Est.word {x2 v1 v0 u d Q R q : Int} (h : Est x2 v1 v0 u d Q R) (hq : 0 ≤ q) (hq' : q < 4294967296) : 0 ≤ q * v0 ∧ q * v0 < 18446744073709551616 := by
  have w : q * v0 ≤ 4294967296 * v0 := Int.mul_le_mul_of_nonneg_right (by omega) h.v0l
  have := h.v0u
  exact ⟨Int.mul_nonneg hq h.v0l, by omega⟩
theorem wuu (x : Int) (h : 0 ≤ x) (h' : x < 18446744073709551616) : IntKind.u64.wrap x = x := by rw [IntKind.wrap_u64]; omega
theorem div_l0 {x2 v1 v0 u d Q R : Int} (h : Est x2 v1 v0 u d Q R) (x8 x14 : Int) : ∀ (n k : Nat) (q rh : Int), q * v1 + rh = u → Q ≤ q → q ≤ 4294967297 → 0 ≤ rh → rh < 4294967296 → 4294967296 ≤ rh + n * 2147483648 →
    ∃ k' : Nat, k' ≤ 2 * n ∧ bits_Div64.l0 (k + 2 * n) x2 x8 v1 v0 u d x14 q rh = bits_Div64.j2 (k + k') x2 x8 v1 v0 u d x14 Q
  | 0, k, q, rh, e, hq, hq1, r0, r1, hn => by omega
  | n + 1, k, q, rh, e, hq, hq1, r0, r1, hn => by
    have v1l := h.v1l
    have v1u := h.v1u
    have Ql := h.Ql
    have dl := h.dl
    have du := h.du
    have T : Q < q → ∃ k' : Nat, k' ≤ 2 * (n + 1) ∧ bits_Div64.j1 (k + 2 * n + 1) x2 x8 v1 v0 u d x14 q rh true = bits_Div64.j2 (k + k') x2 x8 v1 v0 u d x14 Q := by
      intro hlt
      have e' : (q - 1) * v1 + (rh + v1) = u := by rw [Int.sub_mul, Int.one_mul]; omega
      rw [bits_Div64.j1, if_pos rfl, wuu (rh + v1) (by omega) (by omega), wuu (q - 1) (by omega) (by omega)]
      by_cases hb : rh + v1 ≥ 4294967296
      · rw [if_pos hb, h.over e' (by omega) (by omega) hb]
        exact ⟨2 * n, by omega, rfl⟩
      · rw [if_neg hb]
        obtain ⟨k', hk, ee⟩ := div_l0 h x8 x14 n k (q - 1) (rh + v1) e' (by omega) (by omega) (by omega) (by omega) (by omega)
        exact ⟨k', by omega, ee⟩
    show ∃ k' : Nat, k' ≤ 2 * (n + 1) ∧ bits_Div64.l0 (k + 2 * n + 1 + 1) x2 x8 v1 v0 u d x14 q rh = bits_Div64.j2 (k + k') x2 x8 v1 v0 u d x14 Q
    rw [bits_Div64.l0]
    by_cases hb : q ≥ 4294967296
    · rw [if_pos hb]
      exact T (h.big e (.inl hb))
    · rw [if_neg hb]
      have w := h.word (q := q) (by omega) (by omega)
      rw [wuu (q * v0) w.1 w.2, wuu (4294967296 * rh) (by omega) (by omega), wuu (4294967296 * rh + d) (by omega) (by omega)]
      by_cases ht : q * v0 > 4294967296 * rh + d
      · rw [decide_eq_true ht]
        exact T (h.big e (.inr ht))
      · rw [decide_eq_false ht, bits_Div64.j1, if_neg (by simp), h.fits e hq ht]
        exact ⟨2 * n, by omega, rfl⟩
theorem div_l1 {x2 v1 v0 u d Q R : Int} (h : Est x2 v1 v0 u d Q R) (x8 x15 : Int) (h8 : 0 ≤ x8) : ∀ (n k : Nat) (q rh : Int), q * v1 + rh = u → Q ≤ q → q ≤ 4294967297 → 0 ≤ rh → rh < 4294967296 → 4294967296 ≤ rh + n * 2147483648 →
    bits_Div64.l1 (k + 2 * n) x2 x8 v1 v0 d x15 rh u q = some (IntKind.u64.wrap (IntKind.u64.wrap (x15 * 4294967296) + Q), shr .u64 (IntKind.u64.wrap (IntKind.u64.wrap (IntKind.u64.wrap (u * 4294967296) + d) - IntKind.u64.wrap (Q * x2))) x8)
  | 0, k, q, rh, e, hq, hq1, r0, r1, hn => by omega
  | n + 1, k, q, rh, e, hq, hq1, r0, r1, hn => by
    have v1l := h.v1l
    have v1u := h.v1u
    have Ql := h.Ql
    have dl := h.dl
    have du := h.du
    have T : Q < q → bits_Div64.j4 (k + 2 * n + 1) x2 x8 v1 v0 d x15 rh u q true = some (IntKind.u64.wrap (IntKind.u64.wrap (x15 * 4294967296) + Q), shr .u64 (IntKind.u64.wrap (IntKind.u64.wrap (IntKind.u64.wrap (u * 4294967296) + d) - IntKind.u64.wrap (Q * x2))) x8) := by
      intro hlt
      have e' : (q - 1) * v1 + (rh + v1) = u := by rw [Int.sub_mul, Int.one_mul]; omega
      rw [bits_Div64.j4, if_pos rfl, wuu (rh + v1) (by omega) (by omega), wuu (q - 1) (by omega) (by omega)]
      by_cases hb : rh + v1 ≥ 4294967296
      · rw [if_pos hb, if_pos h8, h.over e' (by omega) (by omega) hb]
      · rw [if_neg hb]
        exact div_l1 h x8 x15 h8 n k (q - 1) (rh + v1) e' (by omega) (by omega) (by omega) (by omega) (by omega)
    show bits_Div64.l1 (k + 2 * n + 1 + 1) x2 x8 v1 v0 d x15 rh u q = _
    rw [bits_Div64.l1]
    by_cases hb : q ≥ 4294967296
    · rw [if_pos hb]
      exact T (h.big e (.inl hb))
    · rw [if_neg hb]
      have w := h.word (q := q) (by omega) (by omega)
      rw [wuu (q * v0) w.1 w.2, wuu (4294967296 * rh) (by omega) (by omega), wuu (4294967296 * rh + d) (by omega) (by omega)]
      by_cases ht : q * v0 > 4294967296 * rh + d
      · rw [decide_eq_true ht]
        exact T (h.big e (.inr ht))
      · rw [decide_eq_false ht, bits_Div64.j4, if_neg (by simp), if_pos h8, h.fits e hq ht]
end Go.Proofs.Ytpkjpiphjdpegaa.P
namespace Go.Proofs.Ytpkjpiphjdpegaa.P
open Go.RowKit Go.Proofs.YtpkjpiphjdpegaaW.PrintWords Go.Proofs.YtpkjpiphjdpegaaW.PrintLast Go.Proofs.YtpkjpiphjdpegaaW.PrintMore
set_option linter.unusedVariables false
set_option linter.unusedSimpArgs false
def lenTab : ByteArray := (⟨#[0, 1, 2, 2, 3, 3, 3, 3, 4, 4, 4, 4, 4, 4, 4, 4, 5, 5, 5, 5, 5, 5, 5, 5, 5, 5, 5, 5, 5, 5, 5, 5, 6, 6, 6, 6, 6, 6, 6, 6, 6, 6, 6, 6, 6, 6, 6, 6, 6, 6, 6, 6, 6, 6, 6, 6, 6, 6, 6, 6, 6, 6, 6, 6, 7, 7, 7, 7, 7, 7, 7, 7, 7, 7, 7, 7, 7, 7, 7, 7, 7, 7, 7, 7, 7, 7, 7, 7, 7, 7, 7, 7, 7, 7, 7, 7, 7, 7, 7, 7, 7, 7, 7, 7, 7, 7, 7, 7, 7, 7, 7, 7, 7, 7, 7, 7, 7, 7, 7, 7, 7, 7, 7, 7, 7, 7, 7, 7, 8, 8, 8, 8, 8, 8, 8, 8, 8, 8, 8, 8, 8, 8, 8, 8, 8, 8, 8, 8, 8, 8, 8, 8, 8, 8, 8, 8, 8, 8, 8, 8, 8, 8, 8, 8, 8, 8, 8, 8, 8, 8, 8, 8, 8, 8, 8, 8, 8, 8, 8, 8, 8, 8, 8, 8, 8, 8, 8, 8, 8, 8, 8, 8, 8, 8, 8, 8, 8, 8, 8, 8, 8, 8, 8, 8, 8, 8, 8, 8, 8, 8, 8, 8, 8, 8, 8, 8, 8, 8, 8, 8, 8, 8, 8, 8, 8, 8, 8, 8, 8, 8, 8, 8, 8, 8, 8, 8, 8, 8, 8, 8, 8, 8, 8, 8, 8, 8, 8, 8, 8, 8, 8, 8, 8, 8, 8, 8]⟩ : ByteArray)
set_option maxRecDepth 100000 in
theorem lenTab_all : ∀ b : Fin 256, 0 < b.val → ∃ n : Fin 9, bt lenTab (b.val : Int) = (n.val : Int) ∧ 2 ^ n.val ≤ 2 * b.val ∧ b.val < 2 ^ n.val := by decide +kernel
theorem lenTab_is (b : Int) (h0 : 0 < b) (h1 : b < 256) : ∃ n : Nat, n ≤ 8 ∧ 1 ≤ n ∧ bt lenTab b = (n : Int) ∧ (2 : Nat) ^ n ≤ 2 * b.toNat ∧ b.toNat < 2 ^ n := by
  obtain ⟨n, e, l, u⟩ := lenTab_all ⟨b.toNat, by omega⟩ (by show 0 < b.toNat; omega)
  have hb : ((⟨b.toNat, by omega⟩ : Fin 256).val : Int) = b := by show (b.toNat : Int) = b; omega
  rw [hb] at e
  refine ⟨n.val, by omega, ?_, e, l, u⟩
  rcases Nat.eq_zero_or_pos n.val with h | h
  · rw [h] at u
    have : b.toNat < 1 := u
    omega
  · exact h
structure Len (x : Int) (n : Nat) : Prop where
  pos : 1 ≤ n
  le : n ≤ 64
  low : 9223372036854775808 ≤ x * ((2 ^ (64 - n) : Nat) : Int)
  high : x * ((2 ^ (64 - n) : Nat) : Int) < 18446744073709551616
theorem len_at (x : Int) (off n : Nat) (hx : 0 < x) (P : Nat) (hP : P = 2 ^ off) (hn : n ≤ 8) (hn1 : 1 ≤ n) (ho : off + n ≤ 64) (b : Int) (hb : b = x / (P : Int)) (hb0 : 0 < b) (l : (2 : Nat) ^ n ≤ 2 * b.toNat) (u : b.toNat < 2 ^ n) : Len x (off + n) := by
  obtain ⟨X, rfl⟩ := Int.eq_ofNat_of_zero_le (Int.le_of_lt hx)
  have hPp : 0 < P := by rw [hP]; exact Nat.two_pow_pos _
  have eb : b = ((X / P : Nat) : Int) := by rw [hb]; rfl
  have eb' : b.toNat = X / P := by omega
  rw [eb'] at l u
  have h1 : P * (X / P) ≤ X := Nat.mul_div_le X P
  have h2 : X < P * 2 ^ n := by
    have := Nat.lt_mul_of_div_lt u hPp
    rw [Nat.mul_comm] at this
    exact this
  have e64 : P * 2 ^ n * 2 ^ (64 - (off + n)) = 2 ^ 64 := by
    rw [hP, ← Nat.pow_add, ← Nat.pow_add]
    congr 1
    omega
  have hQ : 0 < 2 ^ (64 - (off + n)) := Nat.two_pow_pos _
  have l2 : P * 2 ^ n ≤ 2 * X := by
    have := Nat.mul_le_mul_left P l
    rw [Nat.mul_left_comm] at this
    omega
  refine ⟨by omega, ho, ?_, ?_⟩
  · have := Nat.mul_le_mul_right (2 ^ (64 - (off + n))) l2
    rw [e64, Nat.mul_assoc] at this
    have h : (9223372036854775808 : Nat) ≤ X * 2 ^ (64 - (off + n)) := by
      have e : (2 : Nat) ^ 64 = 18446744073709551616 := by decide
      omega
    rw [← Int.natCast_mul]
    exact Int.ofNat_le.2 h
  · have := Nat.mul_lt_mul_of_pos_right h2 hQ
    rw [e64] at this
    rw [← Int.natCast_mul]
    exact Int.ofNat_lt.2 this
theorem len_part (x y base : Int) (off : Nat) (P : Nat) (hP : P = 2 ^ off) (hx : 0 < x) (b : Int) (hb : b = x / (P : Int)) (hb0 : 0 < b) (hb1 : b < 256) (ho : off ≤ 56) (hbase : y = (off : Int)) :
    ∃ n : Nat, wrap64 (y + wrap64 (bt lenTab b)) = (n : Int) ∧ Len x n := by
  obtain ⟨n, h1, h2, e, l, u⟩ := lenTab_is b hb0 hb1
  refine ⟨off + n, ?_, len_at x off n hx P hP h1 h2 (by omega) b hb hb0 l u⟩
  rw [e, hbase, wi (n : Int) (by omega) (by omega), wi _ (by omega) (by omega)]
  omega
theorem len_j (x : Int) (hx : 0 < x) (k : Nat) (y base : Int) (off : Nat) (hy : 0 < y) (hy1 : y < 4294967296) (P : Nat) (hP : P = 2 ^ off) (hyx : y = x / (P : Int)) (ho : off = 0 ∨ off = 32) (hb : base = (off : Int)) :
    ∃ n : Nat, bits_Len64.j0 (k + 1) y base = some (n : Int) ∧ Len x n := by
  rw [bits_Len64.j0, show (⟨#[0, 1, 2, 2, 3, 3, 3, 3, 4, 4, 4, 4, 4, 4, 4, 4, 5, 5, 5, 5, 5, 5, 5, 5, 5, 5, 5, 5, 5, 5, 5, 5, 6, 6, 6, 6, 6, 6, 6, 6, 6, 6, 6, 6, 6, 6, 6, 6, 6, 6, 6, 6, 6, 6, 6, 6, 6, 6, 6, 6, 6, 6, 6, 6, 7, 7, 7, 7, 7, 7, 7, 7, 7, 7, 7, 7, 7, 7, 7, 7, 7, 7, 7, 7, 7, 7, 7, 7, 7, 7, 7, 7, 7, 7, 7, 7, 7, 7, 7, 7, 7, 7, 7, 7, 7, 7, 7, 7, 7, 7, 7, 7, 7, 7, 7, 7, 7, 7, 7, 7, 7, 7, 7, 7, 7, 7, 7, 7, 8, 8, 8, 8, 8, 8, 8, 8, 8, 8, 8, 8, 8, 8, 8, 8, 8, 8, 8, 8, 8, 8, 8, 8, 8, 8, 8, 8, 8, 8, 8, 8, 8, 8, 8, 8, 8, 8, 8, 8, 8, 8, 8, 8, 8, 8, 8, 8, 8, 8, 8, 8, 8, 8, 8, 8, 8, 8, 8, 8, 8, 8, 8, 8, 8, 8, 8, 8, 8, 8, 8, 8, 8, 8, 8, 8, 8, 8, 8, 8, 8, 8, 8, 8, 8, 8, 8, 8, 8, 8, 8, 8, 8, 8, 8, 8, 8, 8, 8, 8, 8, 8, 8, 8, 8, 8, 8, 8, 8, 8, 8, 8, 8, 8, 8, 8, 8, 8, 8, 8, 8, 8, 8, 8, 8, 8, 8, 8]⟩ : ByteArray) = lenTab from rfl]
  have hPP : (P : Int) = 1 ∨ (P : Int) = 4294967296 := by
    rcases ho with rfl | rfl
    · left; rw [hP]; rfl
    · right; rw [hP]; rfl
  have wb : ∀ a c : Int, base + a = c → 0 ≤ a → a ≤ 100 → wrap64 (base + a) = c := by
    intro a c e a0 a1
    rw [e, wi _ (by omega) (by omega)]
  have p : ∀ (m : Nat), m ≤ 24 → ((P * 2 ^ m : Nat) = 2 ^ (off + m)) := by
    intro m hm
    rw [hP, ← Nat.pow_add]
  by_cases h1 : y ≥ 65536
  · rw [if_pos h1]
    by_cases h2 : y / 65536 ≥ 256
    · rw [if_pos h2, if_pos (by omega), if_pos (by omega), wb 16 (base + 16) rfl (by omega) (by omega), wi (base + 16 + 8) (by omega) (by omega)]
      obtain ⟨n, e, hl⟩ := len_part x (base + 16 + 8) base (off + 24) (P * 2 ^ 24) (p 24 (by omega)) hx (y / 65536 / 256 % 256) (by rcases hPP with h | h <;> (rw [h] at hyx; rw [Int.natCast_mul, h]; omega)) (by omega) (by omega) (by omega) (by omega)
      exact ⟨n, by rw [e], hl⟩
    · rw [if_neg h2, if_pos (by omega), if_pos (by omega), wb 16 (base + 16) rfl (by omega) (by omega)]
      obtain ⟨n, e, hl⟩ := len_part x (base + 16) base (off + 16) (P * 2 ^ 16) (p 16 (by omega)) hx (y / 65536 % 256) (by rcases hPP with h | h <;> (rw [h] at hyx; rw [Int.natCast_mul, h]; omega)) (by omega) (by omega) (by omega) (by omega)
      exact ⟨n, by rw [e], hl⟩
  · rw [if_neg h1]
    by_cases h2 : y ≥ 256
    · rw [if_pos h2, if_pos (by omega), if_pos (by omega), wb 8 (base + 8) rfl (by omega) (by omega)]
      obtain ⟨n, e, hl⟩ := len_part x (base + 8) base (off + 8) (P * 2 ^ 8) (p 8 (by omega)) hx (y / 256 % 256) (by rcases hPP with h | h <;> (rw [h] at hyx; rw [Int.natCast_mul, h]; omega)) (by omega) (by omega) (by omega) (by omega)
      exact ⟨n, by rw [e], hl⟩
    · rw [if_neg h2, if_pos (by omega), if_pos (by omega)]
      obtain ⟨n, e, hl⟩ := len_part x base base off P hP hx (y % 256) (by rcases hPP with h | h <;> (rw [h] at hyx; rw [h]; omega)) (by omega) (by omega) (by omega) (by omega)
      exact ⟨n, by rw [e], hl⟩
theorem lead_is (x : Int) (hx : 0 < x) (hx1 : x < 18446744073709551616) (k : Nat) : ∃ s : Nat, s ≤ 63 ∧ bits_LeadingZeros64.f (k + 1) x = some (s : Int) ∧ 9223372036854775808 ≤ x * ((2 ^ s : Nat) : Int) ∧ x * ((2 ^ s : Nat) : Int) < 18446744073709551616 := by
  have H : ∃ n : Nat, bits_Len64.f (k + 1) x = some (n : Int) ∧ Len x n := by
    unfold bits_Len64.f
    by_cases h : x ≥ 4294967296
    · rw [if_pos h]
      exact len_j x hx k (x / 4294967296) 32 32 (by omega) (by omega) 4294967296 (by decide) rfl (.inr rfl) rfl
    · rw [if_neg h]
      exact len_j x hx k x 0 0 (by omega) (by omega) 1 (by decide) (by omega) (.inl rfl) rfl
  obtain ⟨n, e, hl⟩ := H
  have := hl.pos
  have := hl.le
  refine ⟨64 - n, by omega, ?_, hl.low, hl.high⟩
  unfold bits_LeadingZeros64.f
  rw [e]
  simp only [Option.bind_some]
  rw [wi _ (by omega) (by omega)]
  congr 1
  omega
end Go.Proofs.Ytpkjpiphjdpegaa.P
namespace Go.Proofs.Ytpkjpiphjdpegaa.P
open Go.RowKit Go.Proofs.YtpkjpiphjdpegaaW.PrintWords Go.Proofs.YtpkjpiphjdpegaaW.PrintLast Go.Proofs.YtpkjpiphjdpegaaW.PrintMore
set_option linter.unusedVariables false
set_option linter.unusedSimpArgs false
theorem shl_is (x : Int) (s : Nat) (hs : s ≤ 64) : shl .u64 x (s : Int) = IntKind.u64.wrap (x * ((2 ^ s : Nat) : Int)) := by
  unfold shl
  rw [show ((s : Int)).toNat = s by omega, show min s IntKind.u64.bits = s from Nat.min_eq_left hs, Int.natCast_pow]
  rfl
theorem shr_is (x : Int) (s : Nat) (hs : s ≤ 64) : shr .u64 x (s : Int) = x / ((2 ^ s : Nat) : Int) := by
  unfold shr
  rw [show ((s : Int)).toNat = s by omega, show min s IntKind.u64.bits = s from Nat.min_eq_left hs, Int.natCast_pow]
  rfl
theorem mask_is (x : Int) (h0 : 0 ≤ x) (h1 : x < 18446744073709551616) : Go.bits .and .u64 x 4294967295 = x % 4294967296 := by
  obtain ⟨X, rfl⟩ := Int.eq_ofNat_of_zero_le h0
  rw [Go.Proofs.Mul64.maskN X (by omega)]
  omega
theorem or_is2 (x y : Int) (s : Nat) (hx : 0 ≤ x) (hx1 : x < 18446744073709551616) (hd : x % ((2 ^ s : Nat) : Int) = 0) (hy : 0 ≤ y) (hy1 : y < ((2 ^ s : Nat) : Int)) (hs : s ≤ 63) : Go.bits .or .u64 x y = x + y := by
  have e : ((2 ^ s : Nat) : Int) = 2 ^ s := by rw [Int.natCast_pow]; rfl
  have hle : (2 : Nat) ^ s ≤ 2 ^ 63 := Nat.pow_le_pow_right (by omega) hs
  have hle' : ((2 ^ s : Nat) : Int) ≤ 9223372036854775808 := Int.ofNat_le.2 hle
  rw [e] at hd
  refine bits_join .u64 64 (by decide) (fun n h0 h1 => wuu n h0 (by omega)) s x y hx hd (by omega) hy (by rw [← e]; exact hy1) (by omega)
theorem est_mk (V u d : Int) (hV : 9223372036854775808 ≤ V) (hV1 : V < 18446744073709551616) (hu : 0 ≤ u) (hu1 : u < V) (hd : 0 ≤ d) (hd1 : d < 4294967296) :
    Est V (V / 4294967296) (V % 4294967296) u d ((u * 4294967296 + d) / V) ((u * 4294967296 + d) % V) :=
  ⟨by omega, by omega, by omega, by omega, by omega, hd, hd1, hu, Int.ediv_mul_add_emod _ _, Int.emod_nonneg _ (by omega), Int.emod_lt_of_pos _ (by omega), Int.ediv_nonneg (by omega) (by omega),
    Int.ediv_lt_of_lt_mul (by omega) (by omega)⟩
theorem Est.first {x2 v1 v0 u d Q R : Int} (h : Est x2 v1 v0 u d Q R) : Q ≤ u / v1 ∧ u / v1 ≤ 4294967297 ∧ u / v1 * v1 + u % v1 = u ∧ 0 ≤ u % v1 ∧ u % v1 < 4294967296 := by
  obtain ⟨hy, v1l, v1u, v0l, v0u, dl, du, ul, hQ, Rl, Ru, Ql, Qu⟩ := h
  have e : Q * x2 = Q * v1 * 4294967296 + Q * v0 := by rw [hy, Int.mul_add, ← Int.mul_assoc]
  have w := Int.mul_nonneg Ql v0l
  have hv : 0 < v1 := by omega
  have q1 := Int.emod_lt_of_pos u hv
  have q0 := Int.emod_nonneg u (show v1 ≠ 0 by omega)
  have hm : Q * x2 ≤ 4294967295 * x2 := Int.mul_le_mul_of_nonneg_right (by omega) (by omega)
  have hlt : u < 4294967298 * v1 := by omega
  have := Int.ediv_lt_of_lt_mul hv hlt
  exact ⟨Int.le_ediv_of_mul_le hv (by omega), by omega, Int.ediv_mul_add_emod _ _, q0, by omega⟩
theorem div_core (V u d1 d0 : Int) (s : Nat) (hs : s ≤ 63) (hV : 9223372036854775808 ≤ V) (hV1 : V < 18446744073709551616) (hu : 0 ≤ u) (hu1 : u < V) (hd : 0 ≤ d1) (hd1 : d1 < 4294967296) (hd' : 0 ≤ d0) (hd1' : d0 < 4294967296) (k : Nat) :
    ∃ Qt R : Int, bits_Div64.l0 (k + 16) V (s : Int) (V / 4294967296) (V % 4294967296) u d1 d0 (IntKind.u64.wrap (Int.tdiv u (V / 4294967296))) (IntKind.u64.wrap (u - IntKind.u64.wrap (IntKind.u64.wrap (Int.tdiv u (V / 4294967296)) * (V / 4294967296)))) = some (Qt, R / ((2 ^ s : Nat) : Int)) ∧
      Qt * V + R = (u * 4294967296 + d1) * 4294967296 + d0 ∧ 0 ≤ R ∧ R < V ∧ 0 ≤ Qt ∧ Qt < 18446744073709551616 := by
  have E := est_mk V u d1 hV hV1 hu hu1 hd hd1
  obtain ⟨f1, f2, f3, f4, f5⟩ := E.first
  have hR0 := E.Rl
  have hR1 := E.Ru
  have hQ0 := E.Ql
  have hQ1 := E.Qu
  have hE := E.hQ
  have hdiv : ∀ x : Int, 0 ≤ x → x < V → IntKind.u64.wrap (Int.tdiv x (V / 4294967296)) = x / (V / 4294967296) := by
    intro x h0 h1
    have hp := Int.ediv_nonneg h0 (show 0 ≤ V / 4294967296 by omega)
    have hq : x / (V / 4294967296) ≤ x := Int.ediv_le_self _ h0
    rw [Int.tdiv_eq_ediv_of_nonneg h0, wuu _ hp (by omega)]
  have hrest : ∀ x : Int, 0 ≤ x → x < V → IntKind.u64.wrap (x - IntKind.u64.wrap (x / (V / 4294967296) * (V / 4294967296))) = x % (V / 4294967296) := by
    intro x h0 h1
    have e := Int.ediv_mul_add_emod x (V / 4294967296)
    have r0 := Int.emod_nonneg x (show V / 4294967296 ≠ 0 by omega)
    have r1 := Int.emod_lt_of_pos x (show 0 < V / 4294967296 by omega)
    have p0 := Int.mul_nonneg (Int.ediv_nonneg h0 (show 0 ≤ V / 4294967296 by omega)) (show 0 ≤ V / 4294967296 by omega)
    generalize x / (V / 4294967296) * (V / 4294967296) = P at *
    rw [wuu P p0 (by omega), wuu _ (by omega) (by omega)]
    omega
  rw [hdiv u hu hu1, hrest u hu hu1]
  generalize hQn : (u * 4294967296 + d1) / V = Q1 at *
  generalize hRn : (u * 4294967296 + d1) % V = R1 at *
  obtain ⟨k', hk, e1⟩ := div_l0 E (s : Int) d0 2 (k + 12) (u / (V / 4294967296)) (u % (V / 4294967296)) f3 f1 f2 f4 f5 (by omega)
  have E2 := est_mk V R1 d0 hV hV1 hR0 hR1 hd' hd1'
  obtain ⟨g1, g2, g3, g4, g5⟩ := E2.first
  have hR20 := E2.Rl
  have hR21 := E2.Ru
  have hQ20 := E2.Ql
  have hQ21 := E2.Qu
  have hE2 := E2.hQ
  have hd2 := hdiv R1 hR0 hR1
  have hr2 := hrest R1 hR0 hR1
  generalize (R1 * 4294967296 + d0) / V = Q0 at *
  generalize (R1 * 4294967296 + d0) % V = R0 at *
  have e2 := div_l1 E2 (s : Int) Q1 (by omega) 2 (k + 7 + k') (R1 / (V / 4294967296)) (R1 % (V / 4294967296)) g3 g1 g2 g4 g5 (by omega)
  have u21 : IntKind.u64.wrap (IntKind.u64.wrap (IntKind.u64.wrap (u * 4294967296) + d1) - IntKind.u64.wrap (Q1 * V)) = R1 := by
    generalize Q1 * V = P at *
    rw [IntKind.wrap_u64, IntKind.wrap_u64, IntKind.wrap_u64, IntKind.wrap_u64]
    omega
  have u20 : IntKind.u64.wrap (IntKind.u64.wrap (IntKind.u64.wrap (R1 * 4294967296) + d0) - IntKind.u64.wrap (Q0 * V)) = R0 := by
    generalize Q0 * V = P at *
    rw [IntKind.wrap_u64, IntKind.wrap_u64, IntKind.wrap_u64, IntKind.wrap_u64]
    omega
  have e3 : bits_Div64.l0 (k + 16) V (s : Int) (V / 4294967296) (V % 4294967296) u d1 d0 (u / (V / 4294967296)) (u % (V / 4294967296)) = bits_Div64.j2 (k + 12 + k') V (s : Int) (V / 4294967296) (V % 4294967296) u d1 d0 Q1 := e1
  refine ⟨Q1 * 4294967296 + Q0, R0, ?_, ?_, hR20, hR21, by omega, by omega⟩
  · rw [e3, show k + 12 + k' = (k + 11 + k') + 1 by omega, bits_Div64.j2, if_neg (by omega), u21, hd2, hr2, show k + 11 + k' = k + 7 + k' + 2 * 2 by omega, e2, u20, shr_is R0 s (by omega), wuu (Q1 * 4294967296) (by omega) (by omega), wuu _ (by omega) (by omega)]
  · rw [Int.add_mul, Int.mul_right_comm]
    omega
theorem div64_is (hi lo y : Int) (h1 : U64 hi) (h2 : U64 lo) (h3 : U64 y) (hlt : hi < y) (k : Nat) :
    bits_Div64.f (k + 20) hi lo y = some ((hi * 18446744073709551616 + lo) / y, (hi * 18446744073709551616 + lo) % y) := by
  obtain ⟨a0, a1⟩ := h1
  obtain ⟨b0, b1⟩ := h2
  obtain ⟨c0, c1⟩ := h3
  unfold bits_Div64.f
  rw [if_neg (by omega), if_neg (by omega)]
  by_cases h0 : hi = 0
  · subst h0
    have hq : lo / y ≤ lo := Int.ediv_le_self _ b0
    have hq0 := Int.ediv_nonneg b0 (show 0 ≤ y by omega)
    rw [if_pos rfl, Int.tdiv_eq_ediv_of_nonneg b0, Int.tmod_eq_emod_of_nonneg b0, wuu _ hq0 (by omega), show (0 : Int) * 18446744073709551616 + lo = lo by omega]
  rw [if_neg h0]
  obtain ⟨s, hs, es, low, high⟩ := lead_is y (by omega) c1 (k + 19)
  have es' : bits_LeadingZeros64.f (k + 20) y = some (s : Int) := es
  rw [es']
  simp only [Option.bind_some]
  have hST : (2 ^ s) * (2 ^ (64 - s)) = (18446744073709551616 : Nat) := by
    rw [← Nat.pow_add, show s + (64 - s) = 64 by omega]
  have hSp : 0 < 2 ^ s := Nat.two_pow_pos s
  have hTp : 0 < 2 ^ (64 - s) := Nat.two_pow_pos (64 - s)
  have hSi : ((2 ^ s : Nat) : Int) * ((2 ^ (64 - s) : Nat) : Int) = 18446744073709551616 := by
    rw [← Int.natCast_mul, hST]
    rfl
  have hle : (2 : Nat) ^ s ≤ 2 ^ 63 := Nat.pow_le_pow_right (by omega) hs
  have hle' : ((2 ^ s : Nat) : Int) ≤ 9223372036854775808 := Int.ofNat_le.2 hle
  rw [wuu (s : Int) (by omega) (by omega), wuu (64 - (s : Int)) (by omega) (by omega), if_pos (by omega), if_pos (by omega), show (64 : Int) - (s : Int) = ((64 - s : Nat) : Int) by omega]
  rw [shl_is y s (by omega), shl_is hi s (by omega), shl_is lo s (by omega), shr_is lo (64 - s) (by omega)]
  have hor : ∀ x z, _ := fun x z => or_is2 x z s
  generalize hS : ((2 ^ s : Nat) : Int) = S at *
  generalize hT : ((2 ^ (64 - s) : Nat) : Int) = T at *
  have hS0 : 0 < S := by omega
  have hT0 : 0 < T := by omega
  have hL : lo / T = lo * S / 18446744073709551616 := by
    rw [← hSi, Int.mul_comm S T, Int.mul_ediv_mul_of_pos_left _ _ hS0]
  have hH : (hi + 1) * S ≤ y * S := Int.mul_le_mul_of_nonneg_right (by omega) (by omega)
  rw [Int.add_mul, Int.one_mul] at hH
  have hH0 : 0 ≤ hi * S := Int.mul_nonneg a0 (by omega)
  have hHd : hi * S % S = 0 := Int.mul_emod_left hi S
  have hL0 : 0 ≤ lo * S := Int.mul_nonneg b0 (by omega)
  have hL1 : lo * S ≤ 18446744073709551615 * S := Int.mul_le_mul_of_nonneg_right (by omega) (by omega)
  have hN : (hi * 18446744073709551616 + lo) * S = hi * S * 18446744073709551616 + lo * S := by rw [Int.add_mul, Int.mul_right_comm]
  have hMS := Int.mul_ediv_mul_of_pos_left (hi * 18446744073709551616 + lo) y hS0
  have hMr := Int.mul_emod_mul_of_pos (hi * 18446744073709551616 + lo) y hS0
  rw [Int.mul_comm S, Int.mul_comm S] at hMr
  rw [hN] at hMS hMr
  rw [hL]
  generalize hi * S = H at *
  generalize lo * S = L at *
  generalize y * S = V at *
  rw [wuu V (by omega) high, wuu H hH0 (by omega), hor H (L / 18446744073709551616) hH0 (by omega) hHd (by omega) (by omega) hs, mask_is V (by omega) high, show IntKind.u64.wrap L = L % 18446744073709551616 from IntKind.wrap_u64 L, mask_is (L % 18446744073709551616) (by omega) (by omega), if_neg (by omega)]
  obtain ⟨Qt, R, e, eq, r0, r1, q0, q1⟩ := div_core V (H + L / 18446744073709551616) (L % 18446744073709551616 / 4294967296) (L % 18446744073709551616 % 4294967296) s hs low high (by omega) (by omega) (by omega) (by omega) (by omega) (by omega) (k + 4)
  rw [hS] at e
  have hTt : H * 18446744073709551616 + L = R + V * Qt := by rw [Int.mul_comm V]; omega
  obtain ⟨d1, d2⟩ := (Int.ediv_emod_unique (show 0 < V by omega)).2 ⟨hTt.symm, r0, r1⟩
  rw [hMS] at d1
  rw [hMr, Int.mul_comm] at d2
  have hr : R / S = (hi * 18446744073709551616 + lo) % y := by rw [← d2]; exact Int.mul_ediv_cancel _ (by omega)
  rw [← hr, d1]
  exact e
end Go.Proofs.Ytpkjpiphjdpegaa.P
namespace Go.Proofs.Ytpkjpiphjdpegaa.P
open Go.RowKit Go.Proofs.YtpkjpiphjdpegaaW.PrintWords Go.Proofs.YtpkjpiphjdpegaaW.PrintLast Go.Proofs.YtpkjpiphjdpegaaW.PrintMore
set_option linter.unusedVariables false
set_option linter.unusedSimpArgs false
theorem dg_cases (hi lo : Int) (h : U64 hi) (h' : U64 lo) : ∃ d0 d1 d2 d3 d4 d5 d6 d7 : Int, dg hi lo = [d0, d1, d2, d3, d4, d5, d6, d7] ∧ D16 d0 ∧ D16 d1 ∧ D16 d2 ∧ D16 d3 ∧ D16 d4 ∧ D16 d5 ∧ D16 d6 ∧ D16 d7 ∧ hi = hf d4 d5 d6 d7 ∧ lo = hf d0 d1 d2 d3 := by
  obtain ⟨d0, d1, d2, d3, e0, e1, e2, e3, h0, h1, h2, h3, hl⟩ := split4 lo h'
  obtain ⟨d4, d5, d6, d7, e4, e5, e6, e7, h4, h5, h6, h7, hh⟩ := split4 hi h
  refine ⟨d0, d1, d2, d3, d4, d5, d6, d7, ?_, h0, h1, h2, h3, h4, h5, h6, h7, hh, hl⟩
  unfold dg
  rw [e0, e1, e2, e3, e4, e5, e6, e7]
theorem sum_digits (x0 x1 x2 x3 x4 x5 x6 x7 : Int) : hf x4 x5 x6 x7 * 18446744073709551616 + hf x0 x1 x2 x3 = x0 + x1 * 65536 + x2 * 4294967296 + x3 * 281474976710656 + x4 * 18446744073709551616 + x5 * 1208925819614629174706176 + x6 * 79228162514264337593543950336 + x7 * 5192296858534827628530496329220096 := by
  unfold hf; omega
theorem hf_range (a b c d : Int) (ha : D16 a) (hb : D16 b) (hc : D16 c) (hd : D16 d) : U64 (hf a b c d) := by
  unfold D16 at *; unfold hf; constructor <;> omega
theorem halves (n hi lo : Int) (h : U64 lo) (e : n = hi * 18446744073709551616 + lo) : hiOf n = hi ∧ loOf n = lo := by
  unfold hiOf loOf; constructor <;> omega
end Go.Proofs.Ytpkjpiphjdpegaa.P
namespace Go.Proofs.Ytpkjpiphjdpegaa.P
open Go.RowKit Go.Proofs.YtpkjpiphjdpegaaW.PrintWords Go.Proofs.YtpkjpiphjdpegaaW.PrintLast Go.Proofs.YtpkjpiphjdpegaaW.PrintMore
set_option linter.unusedVariables false
set_option linter.unusedSimpArgs false
open Go.Proofs.Mul64 in
theorem mul64_nat (x y : Nat) (hx : x < 18446744073709551616) (hy : y < 18446744073709551616) :
    bits_Mul64.f (x : Int) (y : Int) = some (((x * y / 18446744073709551616 : Nat) : Int), ((x * y % 18446744073709551616 : Nat) : Int)) := by
  obtain ⟨bd, bt, bw, hhi⟩ := Lib.mul64_hi x y hx hy
  have ba := Lib.half_mul_le (a := x / 4294967296) (b := y / 4294967296) (by omega) (by omega)
  have bb := Lib.half_mul_le (a := x / 4294967296) (b := y % 4294967296) (by omega) (by omega)
  have bc := Lib.half_mul_le (a := x % 4294967296) (b := y / 4294967296) (by omega) (by omega)
  have ba' : x / 4294967296 * (y / 4294967296) < 18446744073709551616 := by omega
  have bb' : x / 4294967296 * (y % 4294967296) < 18446744073709551616 := by omega
  have bc' : x % 4294967296 * (y / 4294967296) < 18446744073709551616 := by omega
  have bh1 : x / 4294967296 * (y / 4294967296) + (x / 4294967296 * (y % 4294967296) + x % 4294967296 * (y % 4294967296) / 4294967296) / 4294967296 < 18446744073709551616 := by omega
  have bh : x / 4294967296 * (y / 4294967296) + (x / 4294967296 * (y % 4294967296) + x % 4294967296 * (y % 4294967296) / 4294967296) / 4294967296 + ((x / 4294967296 * (y % 4294967296) + x % 4294967296 * (y % 4294967296) / 4294967296) % 4294967296 + x % 4294967296 * (y / 4294967296)) / 4294967296 < 18446744073709551616 := by omega
  unfold bits_Mul64.f
  rw [maskN x hx, maskN y hy, divN x, divN y]
  simp only [mulN, addN, divN]
  rw [wrapN _ ba', wrapN _ bb', wrapN _ bc', wrapN _ bd]
  simp only [mulN, addN, divN]
  rw [wrapN _ bt]
  simp only [mulN, addN, divN]
  rw [maskN _ bt, wrapN _ bh1]
  simp only [mulN, addN, divN]
  rw [wrapN _ bw]
  simp only [mulN, addN, divN]
  rw [wrapN _ bh, wrapM, hhi]
theorem mul64_is (x y : Int) (hx : U64 x) (hy : U64 y) : bits_Mul64.f x y = some (hiOf (x * y), loOf (x * y)) := by
  obtain ⟨x1, x2⟩ := hx
  obtain ⟨y1, y2⟩ := hy
  obtain ⟨X, rfl⟩ := Int.eq_ofNat_of_zero_le x1
  obtain ⟨Y, rfl⟩ := Int.eq_ofNat_of_zero_le y1
  rw [mul64_nat X Y (by omega) (by omega)]
  unfold hiOf loOf
  rw [← Int.natCast_mul]
  rfl
theorem idx105_0 (x y : Int) (W : World) : (Instr.index 105 (.agg #[.int .u64 x, .int .u64 y]) (.int .i64 0)).run Try.prog W = .ok (.int .u64 x) W := by
  simp [Instr.index, run_underlying Try.underlying105, asIntOf, go_sem]
theorem idx105_1 (x y : Int) (W : World) : (Instr.index 105 (.agg #[.int .u64 x, .int .u64 y]) (.int .i64 1)).run Try.prog W = .ok (.int .u64 y) W := by
  simp [Instr.index, run_underlying Try.underlying105, asIntOf, go_sem]
attribute [local go_sem] idx105_0 idx105_1
def u128_Times.f (a0_0 a0_1 a1 : Int) : Option (Int × Int × Int) :=
  if U64 a0_0 ∧ U64 a0_1 ∧ U64 a1 then
    (if val a0_0 a0_1 * a1 < m128 then some (hiOf (val a0_0 a0_1 * a1), loOf (val a0_0 a0_1 * a1), 0) else some (0, 0, 10))
  else none
theorem times_plan (a b n : Int) (ha : U64 a) (hb : U64 b) (hn : U64 n) :
    ∃ H0 L0 H1 L1 hi c, bits_Mul64.f b n = some (H0, L0) ∧ bits_Mul64.f a n = some (H1, L1) ∧ 0 ≤ L1 ∧ 0 ≤ H0 ∧ (L1 + H0 + 0) % 18446744073709551616 = hi ∧ (L1 + H0 + 0) / 18446744073709551616 = c ∧
      ((c = 0 ∧ H1 = 0 ∧ u128_Times.f a b n = some (hi, L0, 0)) ∨ (c = 0 ∧ H1 ≠ 0 ∧ u128_Times.f a b n = some (0, 0, 10)) ∨ (c ≠ 0 ∧ u128_Times.f a b n = some (0, 0, 10))) := by
  have h0 : 0 ≤ a * n := Int.mul_nonneg ha.1 hn.1
  have h1 : 0 ≤ b * n := Int.mul_nonneg hb.1 hn.1
  have e : val a b * n = a * n * 18446744073709551616 + b * n := by
    unfold val
    rw [Int.add_mul, Int.mul_right_comm]
  refine ⟨_, _, _, _, _, _, mul64_is b n hb hn, mul64_is a n ha hn, by unfold loOf; omega, by unfold hiOf; omega, rfl, rfl, ?_⟩
  unfold u128_Times.f
  rw [if_pos ⟨ha, hb, hn⟩, e]
  generalize a * n = X at *
  generalize b * n = Y at *
  clear e
  by_cases hc : (loOf X + hiOf Y + 0) / 18446744073709551616 = 0
  · by_cases hh : hiOf X = 0
    · left
      refine ⟨hc, hh, ?_⟩
      unfold hiOf loOf m128 at *
      rw [if_pos (by omega)]
      congr 2
      · omega
      · congr 1
        omega
    · right; left
      refine ⟨hc, hh, ?_⟩
      unfold hiOf loOf m128 at *
      rw [if_neg (by omega)]
  · right; right
    refine ⟨hc, ?_⟩
    unfold hiOf loOf m128 at *
    rw [if_neg (by omega)]
set_option maxHeartbeats 4000000 in
set_option maxRecDepth 100000 in
theorem u128_Times.calls (a0_0 a0_1 a1 r1 r2 r3 : Int) (w : World) (h : u128_Times.f a0_0 a0_1 a1 = some (r1, r2, r3)) :
    Calls Try.prog 56 #[.agg #[.int .u64 a0_0, .int .u64 a0_1], .int .u64 a1] w fun e w' => e = .returned (.tuple #[.agg #[.int .u64 r1, .int .u64 r2], .int .i64 r3]) ∧ Below w.heap.size w w' := by
  have hu : U64 a0_0 ∧ U64 a0_1 ∧ U64 a1 := by
    unfold u128_Times.f at h
    split at h
    · assumption
    · cases h
  obtain ⟨H0, L0, H1, L1, hi, c, m0, m1, l1, l2, e1, e2, hf⟩ := times_plan a0_0 a0_1 a1 hu.1 hu.2.1 hu.2.2
  have k1 : ∀ W : World, (callFunc 85 #[.int .u64 L1, .int .u64 H0, .int .u64 0]).run Try.prog W = .ok (.value (.tuple #[.int .u64 hi, .int .u64 c])) W := by
    intro W
    rw [call_add64 _ _ _ l1 l2 (by omega) (by omega), e1, e2]
  have M0 := Aside0.mk m0
  have M1 := Aside0.mk m1
  clear e1 e2 l1 l2 hu m0 m1
  rcases hf with ⟨hc, hh, hf⟩ | ⟨hc, hh, hf⟩ | ⟨hc, hf⟩
  · rw [hf] at h
    simp only [Option.some.injEq, Prod.mk.injEq] at h
    obtain ⟨rfl, rfl, rfl⟩ := h
    subst hc
    subst hh
    clear hf
    go_enter Try.func56, Try.ntmps56
    go_wp2
    refine wp_loop_rounds 3 ?_
    rw [rounds_succ]
    go_wp2_with (first | (go_at_call 89; (with_reducible refine (bits_Mul64.calls _ _ _ _ _ M0.out).mono ?_); rintro e w' ⟨rfl, ⟨nd, rfl⟩⟩) | (go_at_call 89; (with_reducible refine (bits_Mul64.calls _ _ _ _ _ M1.out).mono ?_); rintro e w' ⟨rfl, ⟨nd', rfl⟩⟩))
    rw [rounds_succ]
    go_wp2_with (first | (go_at_call 89; (with_reducible refine (bits_Mul64.calls _ _ _ _ _ M0.out).mono ?_); rintro e w' ⟨rfl, ⟨nd, rfl⟩⟩) | (go_at_call 89; (with_reducible refine (bits_Mul64.calls _ _ _ _ _ M1.out).mono ?_); rintro e w' ⟨rfl, ⟨nd', rfl⟩⟩))
    rw [rounds_succ]
    go_wp2
    exact bodyPost_ret (v := .tuple #[.agg #[.int .u64 hi, .int .u64 L0], .int .i64 0]) (by simp [results, Try.results56, go_sem]) rfl ⟨rfl, by repeat (first | (with_reducible exact Below.refl _ _) | (with_reducible apply below_alloc) | (with_reducible apply pw_below_drewN) | (with_reducible refine below_set ?_ (by omega)))⟩
  · rw [hf] at h
    simp only [Option.some.injEq, Prod.mk.injEq] at h
    obtain ⟨rfl, rfl, rfl⟩ := h
    subst hc
    have hn : (H1 != 0) = true := by simpa using hh
    clear hf hh
    go_enter Try.func56, Try.ntmps56
    go_wp2
    refine wp_loop_rounds 3 ?_
    rw [rounds_succ]
    go_wp2_with (first | (go_at_call 89; (with_reducible refine (bits_Mul64.calls _ _ _ _ _ M0.out).mono ?_); rintro e w' ⟨rfl, ⟨nd, rfl⟩⟩) | (go_at_call 89; (with_reducible refine (bits_Mul64.calls _ _ _ _ _ M1.out).mono ?_); rintro e w' ⟨rfl, ⟨nd', rfl⟩⟩))
    rw [rounds_succ]
    go_wp2_with (first | (go_at_call 89; (with_reducible refine (bits_Mul64.calls _ _ _ _ _ M0.out).mono ?_); rintro e w' ⟨rfl, ⟨nd, rfl⟩⟩) | (go_at_call 89; (with_reducible refine (bits_Mul64.calls _ _ _ _ _ M1.out).mono ?_); rintro e w' ⟨rfl, ⟨nd', rfl⟩⟩))
    rw [rounds_succ]
    go_wp2
    exact bodyPost_ret (v := .tuple #[.agg #[.int .u64 0, .int .u64 0], .int .i64 10]) (by simp [results, Try.results56, go_sem]) rfl ⟨rfl, by repeat (first | (with_reducible exact Below.refl _ _) | (with_reducible apply below_alloc) | (with_reducible apply pw_below_drewN) | (with_reducible refine below_set ?_ (by omega)))⟩
  · rw [hf] at h
    simp only [Option.some.injEq, Prod.mk.injEq] at h
    obtain ⟨rfl, rfl, rfl⟩ := h
    have hn : (c != 0) = true := by simpa using hc
    clear hf hc
    go_enter Try.func56, Try.ntmps56
    go_wp2
    refine wp_loop_rounds 3 ?_
    rw [rounds_succ]
    go_wp2_with (first | (go_at_call 89; (with_reducible refine (bits_Mul64.calls _ _ _ _ _ M0.out).mono ?_); rintro e w' ⟨rfl, ⟨nd, rfl⟩⟩) | (go_at_call 89; (with_reducible refine (bits_Mul64.calls _ _ _ _ _ M1.out).mono ?_); rintro e w' ⟨rfl, ⟨nd', rfl⟩⟩))
    rw [rounds_succ]
    go_wp2_with (first | (go_at_call 89; (with_reducible refine (bits_Mul64.calls _ _ _ _ _ M0.out).mono ?_); rintro e w' ⟨rfl, ⟨nd, rfl⟩⟩) | (go_at_call 89; (with_reducible refine (bits_Mul64.calls _ _ _ _ _ M1.out).mono ?_); rintro e w' ⟨rfl, ⟨nd', rfl⟩⟩))
    rw [rounds_succ]
    go_wp2
    exact bodyPost_ret (v := .tuple #[.agg #[.int .u64 0, .int .u64 0], .int .i64 10]) (by simp [results, Try.results56, go_sem]) rfl ⟨rfl, by repeat (first | (with_reducible exact Below.refl _ _) | (with_reducible apply below_alloc) | (with_reducible apply pw_below_drewN) | (with_reducible refine below_set ?_ (by omega)))⟩
end Go.Proofs.Ytpkjpiphjdpegaa.P
namespace Go.Proofs.Ytpkjpiphjdpegaa.P
open Go.RowKit Go.Proofs.YtpkjpiphjdpegaaW.PrintWords Go.Proofs.YtpkjpiphjdpegaaW.PrintLast Go.Proofs.YtpkjpiphjdpegaaW.PrintMore
attribute [local go_sem] max2_int min2_int max_two min_two max_three min_three max_four min_four
set_option linter.unusedVariables false
set_option linter.unusedSimpArgs false
def u128_OverP.f (k : Nat) (a0_0 : Int) (a0_1 : Int) (a1 : Int) : Option (Int × Int × Int × Int) := if a1 = 0 then (some (0, 0, 0, 2)) else ((bits_Div64.f k (Int.tmod a0_0 a1) a0_1 a1).bind fun bt137 => (some (IntKind.u64.wrap (Int.tdiv a0_0 a1), bt137.1, bt137.2, 0)))
set_option maxHeartbeats 8000000 in
set_option maxRecDepth 100000 in
theorem u128_OverP.calls (k : Nat) (a0_0 : Int) (a0_1 : Int) (a1 : Int) (r1 : Int) (r2 : Int) (r3 : Int) (r4 : Int) (w : World) (h : u128_OverP.f k a0_0 a0_1 a1 = some (r1, r2, r3, r4)) :
    Calls Try.prog 58 #[.agg #[.int .u64 a0_0, .int .u64 a0_1], .int .u64 a1] w fun e w' => e = .returned (.tuple #[.agg #[.int .u64 r1, .int .u64 r2], .int .u64 r3, .int .i64 r4]) ∧ Below w.heap.size w w' := by
  have hu25 := Try.underlying25
  have HB := Aside0.mk (Below.refl w.heap.size w)
  have H : (if a1 = 0 then (some (0, 0, 0, 2)) else ((bits_Div64.f k (Int.tmod a0_0 a1) a0_1 a1).bind fun bt137 => (some (IntKind.u64.wrap (Int.tdiv a0_0 a1), bt137.1, bt137.2, 0)))) = some (r1, r2, r3, r4) := h
  clear h
  by_cases c3 : a1 = 0
  · rw [if_pos c3] at H
    have c3b0 : (a1 == 0) = true := beq_iff_eq.mpr c3
    have c3b1 : (a1 != 0) = false := bne_eq_false_iff_eq.mpr c3
    clear c3
    simp only [Option.some.injEq, Prod.mk.injEq] at H
    obtain ⟨rfl, rfl, rfl, rfl⟩ := H
    go_enter Try.func58, Try.ntmps58
    go_wp2_with (first | ((with_reducible refine gate_dst (N := 2) rfl ?_); refine box_event ?hg (N := 2) ?hd (cs := #[.int .u64 a0_0, .int .u64 a0_1]) (t := 25) ?hr ?_; (case hd => rfl); (case hg => rfl); (case hr => first | (go_simp; done) | (go_simp; rfl)); intro gb135 hg w4 hbox hb; have n0_ := Aside0.mk (below_step (by repeat (first | (with_reducible first | exact HB.out | apply below_alloc | apply pw_below_drewN | apply below_drew1) | exact HB.out)) hb); have n1_ := Aside0.mk (hbox); have n2_ := Aside0.mk ((by rw [hg]; exact (below_size (by repeat (first | (with_reducible first | exact HB.out | apply below_alloc | apply pw_below_drewN | apply below_drew1) | exact HB.out))) : w.heap.size ≤ gb135)); have n3_ := Aside0.mk ((by rw [hg]; exact (below_size (by repeat (first | (with_reducible first | exact HB.out | apply below_alloc | apply pw_below_drewN | apply below_drew1) | exact HB.out))) : w.heap.size ≤ gb135)); clear HB; have HB := n0_; have BK135 := n1_; have GW135 := n2_; have GE135 := n3_; clear n0_ n1_ n2_ n3_; clear hb hbox hg) | ((with_reducible refine gate_dst (N := 4) rfl ?_); refine box_event ?hg (N := 4) ?hd (cs := #[.int .u64 0, .int .u64 0]) (t := 25) ?hr ?_; (case hd => rfl); (case hg => rfl); (case hr => first | (go_simp; done) | (go_simp; rfl)); intro gb136 hg w5 hbox hb; have n0_ := Aside0.mk (blk_below (g := gb135) (o := .cells #[.int .u64 a0_0, .int .u64 a0_1] 25 (0, 0)) (by (with_reducible repeat (first | refine blk_drewN ?_ _ | refine blk_drew ?_ | refine blk_alloc ?_ _)); exact BK135.out) hb); have n1_ := Aside0.mk (below_step (by repeat (first | (with_reducible first | exact HB.out | apply below_alloc | apply pw_below_drewN | apply below_drew1 | refine below_set ?_ GE135.out) | exact HB.out)) hb); have n2_ := Aside0.mk (hbox); have n3_ := Aside0.mk ((by rw [hg]; exact (below_size (by repeat (first | (with_reducible first | exact HB.out | apply below_alloc | apply pw_below_drewN | apply below_drew1 | refine below_set ?_ GE135.out) | exact HB.out))) : w.heap.size ≤ gb136)); have n4_ := Aside0.mk ((by rw [hg]; exact (below_size (by repeat (first | (with_reducible first | exact HB.out | apply below_alloc | apply pw_below_drewN | apply below_drew1 | refine below_set ?_ GE135.out) | exact HB.out))) : w.heap.size ≤ gb136)); have n5_ := Aside0.mk ((by rw [hg]; exact Nat.ne_of_lt (blk_lt (g := gb135) (o := .cells #[.int .u64 a0_0, .int .u64 a0_1] 25 (0, 0)) (by (with_reducible repeat (first | refine blk_drewN ?_ _ | refine blk_drew ?_ | refine blk_alloc ?_ _)); exact BK135.out)) : gb135 ≠ gb136)); have n6_ := Aside0.mk ((by rw [hg]; exact Nat.ne_of_gt (blk_lt (g := gb135) (o := .cells #[.int .u64 a0_0, .int .u64 a0_1] 25 (0, 0)) (by (with_reducible repeat (first | refine blk_drewN ?_ _ | refine blk_drew ?_ | refine blk_alloc ?_ _)); exact BK135.out)) : gb136 ≠ gb135)); clear BK135; clear HB; have BK135 := n0_; have HB := n1_; have BK136 := n2_; have GW136 := n3_; have GE136 := n4_; have NB135_136 := n5_; have NB136_135 := n6_; clear n0_ n1_ n2_ n3_ n4_ n5_ n6_; clear hb hbox hg; have hnb6 := NB136_135.out; have hnc6 := NB135_136.out; have hcz7_0 : w5.cell? ⟨gb136, 0, none⟩ = some (.int .u64 0) := (blk_cell BK136.out 0).trans rfl; have hcz7_1 : w5.cell? ⟨gb136, 1, none⟩ = some (.int .u64 0) := (blk_cell BK136.out 1).trans rfl; have hfz7_0 := blk_frozen BK136.out 0; have hfz7_1 := blk_frozen BK136.out 1))
    repeat (go_quiet (first | ((with_reducible refine gate_dst (N := 2) rfl ?_); refine box_event ?hg (N := 2) ?hd (cs := #[.int .u64 a0_0, .int .u64 a0_1]) (t := 25) ?hr ?_; (case hd => rfl); (case hg => rfl); (case hr => first | (go_simp; done) | (go_simp; rfl)); intro gb135 hg w4 hbox hb; have n0_ := Aside0.mk (below_step (by repeat (first | (with_reducible first | exact HB.out | apply below_alloc | apply pw_below_drewN | apply below_drew1) | exact HB.out)) hb); have n1_ := Aside0.mk (hbox); have n2_ := Aside0.mk ((by rw [hg]; exact (below_size (by repeat (first | (with_reducible first | exact HB.out | apply below_alloc | apply pw_below_drewN | apply below_drew1) | exact HB.out))) : w.heap.size ≤ gb135)); have n3_ := Aside0.mk ((by rw [hg]; exact (below_size (by repeat (first | (with_reducible first | exact HB.out | apply below_alloc | apply pw_below_drewN | apply below_drew1) | exact HB.out))) : w.heap.size ≤ gb135)); clear HB; have HB := n0_; have BK135 := n1_; have GW135 := n2_; have GE135 := n3_; clear n0_ n1_ n2_ n3_; clear hb hbox hg) | ((with_reducible refine gate_dst (N := 4) rfl ?_); refine box_event ?hg (N := 4) ?hd (cs := #[.int .u64 0, .int .u64 0]) (t := 25) ?hr ?_; (case hd => rfl); (case hg => rfl); (case hr => first | (go_simp; done) | (go_simp; rfl)); intro gb136 hg w5 hbox hb; have n0_ := Aside0.mk (blk_below (g := gb135) (o := .cells #[.int .u64 a0_0, .int .u64 a0_1] 25 (0, 0)) (by (with_reducible repeat (first | refine blk_drewN ?_ _ | refine blk_drew ?_ | refine blk_alloc ?_ _)); exact BK135.out) hb); have n1_ := Aside0.mk (below_step (by repeat (first | (with_reducible first | exact HB.out | apply below_alloc | apply pw_below_drewN | apply below_drew1 | refine below_set ?_ GE135.out) | exact HB.out)) hb); have n2_ := Aside0.mk (hbox); have n3_ := Aside0.mk ((by rw [hg]; exact (below_size (by repeat (first | (with_reducible first | exact HB.out | apply below_alloc | apply pw_below_drewN | apply below_drew1 | refine below_set ?_ GE135.out) | exact HB.out))) : w.heap.size ≤ gb136)); have n4_ := Aside0.mk ((by rw [hg]; exact (below_size (by repeat (first | (with_reducible first | exact HB.out | apply below_alloc | apply pw_below_drewN | apply below_drew1 | refine below_set ?_ GE135.out) | exact HB.out))) : w.heap.size ≤ gb136)); have n5_ := Aside0.mk ((by rw [hg]; exact Nat.ne_of_lt (blk_lt (g := gb135) (o := .cells #[.int .u64 a0_0, .int .u64 a0_1] 25 (0, 0)) (by (with_reducible repeat (first | refine blk_drewN ?_ _ | refine blk_drew ?_ | refine blk_alloc ?_ _)); exact BK135.out)) : gb135 ≠ gb136)); have n6_ := Aside0.mk ((by rw [hg]; exact Nat.ne_of_gt (blk_lt (g := gb135) (o := .cells #[.int .u64 a0_0, .int .u64 a0_1] 25 (0, 0)) (by (with_reducible repeat (first | refine blk_drewN ?_ _ | refine blk_drew ?_ | refine blk_alloc ?_ _)); exact BK135.out)) : gb136 ≠ gb135)); clear BK135; clear HB; have BK135 := n0_; have HB := n1_; have BK136 := n2_; have GW136 := n3_; have GE136 := n4_; have NB135_136 := n5_; have NB136_135 := n6_; clear n0_ n1_ n2_ n3_ n4_ n5_ n6_; clear hb hbox hg; have hnb6 := NB136_135.out; have hnc6 := NB135_136.out; have hcz7_0 : w5.cell? ⟨gb136, 0, none⟩ = some (.int .u64 0) := (blk_cell BK136.out 0).trans rfl; have hcz7_1 : w5.cell? ⟨gb136, 1, none⟩ = some (.int .u64 0) := (blk_cell BK136.out 1).trans rfl; have hfz7_0 := blk_frozen BK136.out 0; have hfz7_1 := blk_frozen BK136.out 1)); try go_wp2_with (first | ((with_reducible refine gate_dst (N := 2) rfl ?_); refine box_event ?hg (N := 2) ?hd (cs := #[.int .u64 a0_0, .int .u64 a0_1]) (t := 25) ?hr ?_; (case hd => rfl); (case hg => rfl); (case hr => first | (go_simp; done) | (go_simp; rfl)); intro gb135 hg w4 hbox hb; have n0_ := Aside0.mk (below_step (by repeat (first | (with_reducible first | exact HB.out | apply below_alloc | apply pw_below_drewN | apply below_drew1) | exact HB.out)) hb); have n1_ := Aside0.mk (hbox); have n2_ := Aside0.mk ((by rw [hg]; exact (below_size (by repeat (first | (with_reducible first | exact HB.out | apply below_alloc | apply pw_below_drewN | apply below_drew1) | exact HB.out))) : w.heap.size ≤ gb135)); have n3_ := Aside0.mk ((by rw [hg]; exact (below_size (by repeat (first | (with_reducible first | exact HB.out | apply below_alloc | apply pw_below_drewN | apply below_drew1) | exact HB.out))) : w.heap.size ≤ gb135)); clear HB; have HB := n0_; have BK135 := n1_; have GW135 := n2_; have GE135 := n3_; clear n0_ n1_ n2_ n3_; clear hb hbox hg) | ((with_reducible refine gate_dst (N := 4) rfl ?_); refine box_event ?hg (N := 4) ?hd (cs := #[.int .u64 0, .int .u64 0]) (t := 25) ?hr ?_; (case hd => rfl); (case hg => rfl); (case hr => first | (go_simp; done) | (go_simp; rfl)); intro gb136 hg w5 hbox hb; have n0_ := Aside0.mk (blk_below (g := gb135) (o := .cells #[.int .u64 a0_0, .int .u64 a0_1] 25 (0, 0)) (by (with_reducible repeat (first | refine blk_drewN ?_ _ | refine blk_drew ?_ | refine blk_alloc ?_ _)); exact BK135.out) hb); have n1_ := Aside0.mk (below_step (by repeat (first | (with_reducible first | exact HB.out | apply below_alloc | apply pw_below_drewN | apply below_drew1 | refine below_set ?_ GE135.out) | exact HB.out)) hb); have n2_ := Aside0.mk (hbox); have n3_ := Aside0.mk ((by rw [hg]; exact (below_size (by repeat (first | (with_reducible first | exact HB.out | apply below_alloc | apply pw_below_drewN | apply below_drew1 | refine below_set ?_ GE135.out) | exact HB.out))) : w.heap.size ≤ gb136)); have n4_ := Aside0.mk ((by rw [hg]; exact (below_size (by repeat (first | (with_reducible first | exact HB.out | apply below_alloc | apply pw_below_drewN | apply below_drew1 | refine below_set ?_ GE135.out) | exact HB.out))) : w.heap.size ≤ gb136)); have n5_ := Aside0.mk ((by rw [hg]; exact Nat.ne_of_lt (blk_lt (g := gb135) (o := .cells #[.int .u64 a0_0, .int .u64 a0_1] 25 (0, 0)) (by (with_reducible repeat (first | refine blk_drewN ?_ _ | refine blk_drew ?_ | refine blk_alloc ?_ _)); exact BK135.out)) : gb135 ≠ gb136)); have n6_ := Aside0.mk ((by rw [hg]; exact Nat.ne_of_gt (blk_lt (g := gb135) (o := .cells #[.int .u64 a0_0, .int .u64 a0_1] 25 (0, 0)) (by (with_reducible repeat (first | refine blk_drewN ?_ _ | refine blk_drew ?_ | refine blk_alloc ?_ _)); exact BK135.out)) : gb136 ≠ gb135)); clear BK135; clear HB; have BK135 := n0_; have HB := n1_; have BK136 := n2_; have GW136 := n3_; have GE136 := n4_; have NB135_136 := n5_; have NB136_135 := n6_; clear n0_ n1_ n2_ n3_ n4_ n5_ n6_; clear hb hbox hg; have hnb6 := NB136_135.out; have hnc6 := NB135_136.out; have hcz7_0 : w5.cell? ⟨gb136, 0, none⟩ = some (.int .u64 0) := (blk_cell BK136.out 0).trans rfl; have hcz7_1 : w5.cell? ⟨gb136, 1, none⟩ = some (.int .u64 0) := (blk_cell BK136.out 1).trans rfl; have hfz7_0 := blk_frozen BK136.out 0; have hfz7_1 := blk_frozen BK136.out 1)))
    refine bodyPost_ret (results_ctt rfl _ _ gb136 25 #[.int .u64 0, .int .u64 0] (0, 0) _ rfl (by (with_reducible repeat (first | refine blk_drewN ?_ _ | refine blk_drew ?_ | refine blk_alloc ?_ _)); refine blk_put (cs := #[.int .u64 0, .int .u64 0]) ?_ 1 _ rfl; (with_reducible repeat (first | refine blk_drewN ?_ _ | refine blk_drew ?_ | refine blk_alloc ?_ _)); refine blk_put (cs := #[.int .u64 0, .int .u64 0]) ?_ 0 _ rfl; (with_reducible repeat (first | refine blk_drewN ?_ _ | refine blk_drew ?_ | refine blk_alloc ?_ _)); exact BK136.out) Try.underlying25 rfl (by kernel_rfl)) rfl ?_
    exact ⟨by first | rfl | (simp [errW_none, errW_some] <;> rfl) | (simp [*, errW_none, errW_some] <;> rfl), by repeat (first | (with_reducible first | exact HB.out | apply below_alloc | apply pw_below_drewN | apply below_drew1 | refine below_set ?_ GE135.out | refine below_set ?_ GE136.out) | exact HB.out)⟩
  · rw [if_neg c3] at H
    have c3b0 : (a1 == 0) = false := beq_eq_false_iff_ne.mpr c3
    have c3b1 : (a1 != 0) = true := bne_iff_ne.mpr c3
    replace H := Option.bind_eq_some_iff.mp H
    obtain ⟨⟨t137, t138⟩, A80, H⟩ := H
    replace H : (some (IntKind.u64.wrap (Int.tdiv a0_0 a1), t137, t138, 0)) = some (r1, r2, r3, r4) := H
    have A8 := Aside0.mk A80
    clear A80
    simp only [Option.some.injEq, Prod.mk.injEq] at H
    obtain ⟨rfl, rfl, rfl, rfl⟩ := H
    go_enter Try.func58, Try.ntmps58
    go_wp2_with (first | ((with_reducible refine gate_dst (N := 2) rfl ?_); refine box_event ?hg (N := 2) ?hd (cs := #[.int .u64 a0_0, .int .u64 a0_1]) (t := 25) ?hr ?_; (case hd => rfl); (case hg => rfl); (case hr => first | (go_simp; done) | (go_simp; rfl)); intro gb135 hg w9 hbox hb; have n0_ := Aside0.mk (below_step (by repeat (first | (with_reducible first | exact HB.out | apply below_alloc | apply pw_below_drewN | apply below_drew1) | exact HB.out)) hb); have n1_ := Aside0.mk (hbox); have n2_ := Aside0.mk ((by rw [hg]; exact (below_size (by repeat (first | (with_reducible first | exact HB.out | apply below_alloc | apply pw_below_drewN | apply below_drew1) | exact HB.out))) : w.heap.size ≤ gb135)); have n3_ := Aside0.mk ((by rw [hg]; exact (below_size (by repeat (first | (with_reducible first | exact HB.out | apply below_alloc | apply pw_below_drewN | apply below_drew1) | exact HB.out))) : w.heap.size ≤ gb135)); clear HB; have HB := n0_; have BK135 := n1_; have GW135 := n2_; have GE135 := n3_; clear n0_ n1_ n2_ n3_; clear hb hbox hg) | ((with_reducible refine gate_dst (N := 4) rfl ?_); refine box_event ?hg (N := 4) ?hd (cs := #[.int .u64 0, .int .u64 0]) (t := 25) ?hr ?_; (case hd => rfl); (case hg => rfl); (case hr => first | (go_simp; done) | (go_simp; rfl)); intro gb136 hg w10 hbox hb; have n0_ := Aside0.mk (blk_below (g := gb135) (o := .cells #[.int .u64 a0_0, .int .u64 a0_1] 25 (0, 0)) (by (with_reducible repeat (first | refine blk_drewN ?_ _ | refine blk_drew ?_ | refine blk_alloc ?_ _)); exact BK135.out) hb); have n1_ := Aside0.mk (below_step (by repeat (first | (with_reducible first | exact HB.out | apply below_alloc | apply pw_below_drewN | apply below_drew1 | refine below_set ?_ GE135.out) | exact HB.out)) hb); have n2_ := Aside0.mk (hbox); have n3_ := Aside0.mk ((by rw [hg]; exact (below_size (by repeat (first | (with_reducible first | exact HB.out | apply below_alloc | apply pw_below_drewN | apply below_drew1 | refine below_set ?_ GE135.out) | exact HB.out))) : w.heap.size ≤ gb136)); have n4_ := Aside0.mk ((by rw [hg]; exact (below_size (by repeat (first | (with_reducible first | exact HB.out | apply below_alloc | apply pw_below_drewN | apply below_drew1 | refine below_set ?_ GE135.out) | exact HB.out))) : w.heap.size ≤ gb136)); have n5_ := Aside0.mk ((by rw [hg]; exact Nat.ne_of_lt (blk_lt (g := gb135) (o := .cells #[.int .u64 a0_0, .int .u64 a0_1] 25 (0, 0)) (by (with_reducible repeat (first | refine blk_drewN ?_ _ | refine blk_drew ?_ | refine blk_alloc ?_ _)); exact BK135.out)) : gb135 ≠ gb136)); have n6_ := Aside0.mk ((by rw [hg]; exact Nat.ne_of_gt (blk_lt (g := gb135) (o := .cells #[.int .u64 a0_0, .int .u64 a0_1] 25 (0, 0)) (by (with_reducible repeat (first | refine blk_drewN ?_ _ | refine blk_drew ?_ | refine blk_alloc ?_ _)); exact BK135.out)) : gb136 ≠ gb135)); clear BK135; clear HB; have BK135 := n0_; have HB := n1_; have BK136 := n2_; have GW136 := n3_; have GE136 := n4_; have NB135_136 := n5_; have NB136_135 := n6_; clear n0_ n1_ n2_ n3_ n4_ n5_ n6_; clear hb hbox hg; have hnb11 := NB135_136.out; have hnc11 := NB136_135.out; have hcz12_0 : w10.cell? ⟨gb135, 0, none⟩ = some (.int .u64 a0_0) := (blk_cell BK135.out 0).trans rfl; have hcz12_1 : w10.cell? ⟨gb135, 1, none⟩ = some (.int .u64 a0_1) := (blk_cell BK135.out 1).trans rfl; have hfz12_0 := blk_frozen BK135.out 0; have hfz12_1 := blk_frozen BK135.out 1) | (go_at_call 90; (with_reducible refine (bits_Div64.calls k (Int.tmod a0_0 a1) a0_1 a1 t137 t138 _ A8.out).mono ?_); rintro e w' ⟨rfl, ⟨nd, rfl⟩⟩; (try first | exact ⟨rfl, _, World.drewN_drewN _ _ _⟩ | exact ⟨rfl, _, Eq.trans (World.drewN_drewN _ _ _) (congrArg (World.drewN _) (Nat.add_assoc _ _ _))⟩); have hcz13_0 : w10.cell? ⟨gb136, 0, none⟩ = some (.int .u64 0) := (blk_cell BK136.out 0).trans rfl; have hcz13_1 : w10.cell? ⟨gb136, 1, none⟩ = some (.int .u64 0) := (blk_cell BK136.out 1).trans rfl; have hfz13_0 := blk_frozen BK136.out 0; have hfz13_1 := blk_frozen BK136.out 1))
    repeat (go_quiet (first | ((with_reducible refine gate_dst (N := 2) rfl ?_); refine box_event ?hg (N := 2) ?hd (cs := #[.int .u64 a0_0, .int .u64 a0_1]) (t := 25) ?hr ?_; (case hd => rfl); (case hg => rfl); (case hr => first | (go_simp; done) | (go_simp; rfl)); intro gb135 hg w9 hbox hb; have n0_ := Aside0.mk (below_step (by repeat (first | (with_reducible first | exact HB.out | apply below_alloc | apply pw_below_drewN | apply below_drew1) | exact HB.out)) hb); have n1_ := Aside0.mk (hbox); have n2_ := Aside0.mk ((by rw [hg]; exact (below_size (by repeat (first | (with_reducible first | exact HB.out | apply below_alloc | apply pw_below_drewN | apply below_drew1) | exact HB.out))) : w.heap.size ≤ gb135)); have n3_ := Aside0.mk ((by rw [hg]; exact (below_size (by repeat (first | (with_reducible first | exact HB.out | apply below_alloc | apply pw_below_drewN | apply below_drew1) | exact HB.out))) : w.heap.size ≤ gb135)); clear HB; have HB := n0_; have BK135 := n1_; have GW135 := n2_; have GE135 := n3_; clear n0_ n1_ n2_ n3_; clear hb hbox hg) | ((with_reducible refine gate_dst (N := 4) rfl ?_); refine box_event ?hg (N := 4) ?hd (cs := #[.int .u64 0, .int .u64 0]) (t := 25) ?hr ?_; (case hd => rfl); (case hg => rfl); (case hr => first | (go_simp; done) | (go_simp; rfl)); intro gb136 hg w10 hbox hb; have n0_ := Aside0.mk (blk_below (g := gb135) (o := .cells #[.int .u64 a0_0, .int .u64 a0_1] 25 (0, 0)) (by (with_reducible repeat (first | refine blk_drewN ?_ _ | refine blk_drew ?_ | refine blk_alloc ?_ _)); exact BK135.out) hb); have n1_ := Aside0.mk (below_step (by repeat (first | (with_reducible first | exact HB.out | apply below_alloc | apply pw_below_drewN | apply below_drew1 | refine below_set ?_ GE135.out) | exact HB.out)) hb); have n2_ := Aside0.mk (hbox); have n3_ := Aside0.mk ((by rw [hg]; exact (below_size (by repeat (first | (with_reducible first | exact HB.out | apply below_alloc | apply pw_below_drewN | apply below_drew1 | refine below_set ?_ GE135.out) | exact HB.out))) : w.heap.size ≤ gb136)); have n4_ := Aside0.mk ((by rw [hg]; exact (below_size (by repeat (first | (with_reducible first | exact HB.out | apply below_alloc | apply pw_below_drewN | apply below_drew1 | refine below_set ?_ GE135.out) | exact HB.out))) : w.heap.size ≤ gb136)); have n5_ := Aside0.mk ((by rw [hg]; exact Nat.ne_of_lt (blk_lt (g := gb135) (o := .cells #[.int .u64 a0_0, .int .u64 a0_1] 25 (0, 0)) (by (with_reducible repeat (first | refine blk_drewN ?_ _ | refine blk_drew ?_ | refine blk_alloc ?_ _)); exact BK135.out)) : gb135 ≠ gb136)); have n6_ := Aside0.mk ((by rw [hg]; exact Nat.ne_of_gt (blk_lt (g := gb135) (o := .cells #[.int .u64 a0_0, .int .u64 a0_1] 25 (0, 0)) (by (with_reducible repeat (first | refine blk_drewN ?_ _ | refine blk_drew ?_ | refine blk_alloc ?_ _)); exact BK135.out)) : gb136 ≠ gb135)); clear BK135; clear HB; have BK135 := n0_; have HB := n1_; have BK136 := n2_; have GW136 := n3_; have GE136 := n4_; have NB135_136 := n5_; have NB136_135 := n6_; clear n0_ n1_ n2_ n3_ n4_ n5_ n6_; clear hb hbox hg; have hnb11 := NB135_136.out; have hnc11 := NB136_135.out; have hcz12_0 : w10.cell? ⟨gb135, 0, none⟩ = some (.int .u64 a0_0) := (blk_cell BK135.out 0).trans rfl; have hcz12_1 : w10.cell? ⟨gb135, 1, none⟩ = some (.int .u64 a0_1) := (blk_cell BK135.out 1).trans rfl; have hfz12_0 := blk_frozen BK135.out 0; have hfz12_1 := blk_frozen BK135.out 1) | (go_at_call 90; (with_reducible refine (bits_Div64.calls k (Int.tmod a0_0 a1) a0_1 a1 t137 t138 _ A8.out).mono ?_); rintro e w' ⟨rfl, ⟨nd, rfl⟩⟩; (try first | exact ⟨rfl, _, World.drewN_drewN _ _ _⟩ | exact ⟨rfl, _, Eq.trans (World.drewN_drewN _ _ _) (congrArg (World.drewN _) (Nat.add_assoc _ _ _))⟩); have hcz13_0 : w10.cell? ⟨gb136, 0, none⟩ = some (.int .u64 0) := (blk_cell BK136.out 0).trans rfl; have hcz13_1 : w10.cell? ⟨gb136, 1, none⟩ = some (.int .u64 0) := (blk_cell BK136.out 1).trans rfl; have hfz13_0 := blk_frozen BK136.out 0; have hfz13_1 := blk_frozen BK136.out 1)); try go_wp2_with (first | ((with_reducible refine gate_dst (N := 2) rfl ?_); refine box_event ?hg (N := 2) ?hd (cs := #[.int .u64 a0_0, .int .u64 a0_1]) (t := 25) ?hr ?_; (case hd => rfl); (case hg => rfl); (case hr => first | (go_simp; done) | (go_simp; rfl)); intro gb135 hg w9 hbox hb; have n0_ := Aside0.mk (below_step (by repeat (first | (with_reducible first | exact HB.out | apply below_alloc | apply pw_below_drewN | apply below_drew1) | exact HB.out)) hb); have n1_ := Aside0.mk (hbox); have n2_ := Aside0.mk ((by rw [hg]; exact (below_size (by repeat (first | (with_reducible first | exact HB.out | apply below_alloc | apply pw_below_drewN | apply below_drew1) | exact HB.out))) : w.heap.size ≤ gb135)); have n3_ := Aside0.mk ((by rw [hg]; exact (below_size (by repeat (first | (with_reducible first | exact HB.out | apply below_alloc | apply pw_below_drewN | apply below_drew1) | exact HB.out))) : w.heap.size ≤ gb135)); clear HB; have HB := n0_; have BK135 := n1_; have GW135 := n2_; have GE135 := n3_; clear n0_ n1_ n2_ n3_; clear hb hbox hg) | ((with_reducible refine gate_dst (N := 4) rfl ?_); refine box_event ?hg (N := 4) ?hd (cs := #[.int .u64 0, .int .u64 0]) (t := 25) ?hr ?_; (case hd => rfl); (case hg => rfl); (case hr => first | (go_simp; done) | (go_simp; rfl)); intro gb136 hg w10 hbox hb; have n0_ := Aside0.mk (blk_below (g := gb135) (o := .cells #[.int .u64 a0_0, .int .u64 a0_1] 25 (0, 0)) (by (with_reducible repeat (first | refine blk_drewN ?_ _ | refine blk_drew ?_ | refine blk_alloc ?_ _)); exact BK135.out) hb); have n1_ := Aside0.mk (below_step (by repeat (first | (with_reducible first | exact HB.out | apply below_alloc | apply pw_below_drewN | apply below_drew1 | refine below_set ?_ GE135.out) | exact HB.out)) hb); have n2_ := Aside0.mk (hbox); have n3_ := Aside0.mk ((by rw [hg]; exact (below_size (by repeat (first | (with_reducible first | exact HB.out | apply below_alloc | apply pw_below_drewN | apply below_drew1 | refine below_set ?_ GE135.out) | exact HB.out))) : w.heap.size ≤ gb136)); have n4_ := Aside0.mk ((by rw [hg]; exact (below_size (by repeat (first | (with_reducible first | exact HB.out | apply below_alloc | apply pw_below_drewN | apply below_drew1 | refine below_set ?_ GE135.out) | exact HB.out))) : w.heap.size ≤ gb136)); have n5_ := Aside0.mk ((by rw [hg]; exact Nat.ne_of_lt (blk_lt (g := gb135) (o := .cells #[.int .u64 a0_0, .int .u64 a0_1] 25 (0, 0)) (by (with_reducible repeat (first | refine blk_drewN ?_ _ | refine blk_drew ?_ | refine blk_alloc ?_ _)); exact BK135.out)) : gb135 ≠ gb136)); have n6_ := Aside0.mk ((by rw [hg]; exact Nat.ne_of_gt (blk_lt (g := gb135) (o := .cells #[.int .u64 a0_0, .int .u64 a0_1] 25 (0, 0)) (by (with_reducible repeat (first | refine blk_drewN ?_ _ | refine blk_drew ?_ | refine blk_alloc ?_ _)); exact BK135.out)) : gb136 ≠ gb135)); clear BK135; clear HB; have BK135 := n0_; have HB := n1_; have BK136 := n2_; have GW136 := n3_; have GE136 := n4_; have NB135_136 := n5_; have NB136_135 := n6_; clear n0_ n1_ n2_ n3_ n4_ n5_ n6_; clear hb hbox hg; have hnb11 := NB135_136.out; have hnc11 := NB136_135.out; have hcz12_0 : w10.cell? ⟨gb135, 0, none⟩ = some (.int .u64 a0_0) := (blk_cell BK135.out 0).trans rfl; have hcz12_1 : w10.cell? ⟨gb135, 1, none⟩ = some (.int .u64 a0_1) := (blk_cell BK135.out 1).trans rfl; have hfz12_0 := blk_frozen BK135.out 0; have hfz12_1 := blk_frozen BK135.out 1) | (go_at_call 90; (with_reducible refine (bits_Div64.calls k (Int.tmod a0_0 a1) a0_1 a1 t137 t138 _ A8.out).mono ?_); rintro e w' ⟨rfl, ⟨nd, rfl⟩⟩; (try first | exact ⟨rfl, _, World.drewN_drewN _ _ _⟩ | exact ⟨rfl, _, Eq.trans (World.drewN_drewN _ _ _) (congrArg (World.drewN _) (Nat.add_assoc _ _ _))⟩); have hcz13_0 : w10.cell? ⟨gb136, 0, none⟩ = some (.int .u64 0) := (blk_cell BK136.out 0).trans rfl; have hcz13_1 : w10.cell? ⟨gb136, 1, none⟩ = some (.int .u64 0) := (blk_cell BK136.out 1).trans rfl; have hfz13_0 := blk_frozen BK136.out 0; have hfz13_1 := blk_frozen BK136.out 1)))
    refine bodyPost_ret (results_ctt rfl _ _ gb136 25 #[.int .u64 (IntKind.u64.wrap (Int.tdiv a0_0 a1)), .int .u64 t137] (0, 0) _ rfl (by (with_reducible repeat (first | refine blk_drewN ?_ _ | refine blk_drew ?_ | refine blk_alloc ?_ _)); refine blk_put (cs := #[.int .u64 (IntKind.u64.wrap (Int.tdiv a0_0 a1)), .int .u64 0]) ?_ 1 _ rfl; (with_reducible repeat (first | refine blk_drewN ?_ _ | refine blk_drew ?_ | refine blk_alloc ?_ _)); refine blk_put (cs := #[.int .u64 0, .int .u64 0]) ?_ 0 _ rfl; (with_reducible repeat (first | refine blk_drewN ?_ _ | refine blk_drew ?_ | refine blk_alloc ?_ _)); exact BK136.out) Try.underlying25 rfl (by kernel_rfl)) rfl ?_
    exact ⟨by first | rfl | (simp [errW_none, errW_some] <;> rfl) | (simp [*, errW_none, errW_some] <;> rfl), by repeat (first | (with_reducible first | exact HB.out | apply below_alloc | apply pw_below_drewN | apply below_drew1 | refine below_set ?_ GE135.out | refine below_set ?_ GE136.out) | exact HB.out)⟩
def u128_Over.f (a0_0 a0_1 a1 : Int) : Option (Int × Int × Int × Int) :=
  if U64 a0_0 ∧ U64 a0_1 ∧ U64 a1 then
    (if a1 = 0 then some (0, 0, 0, 2) else some (hiOf (val a0_0 a0_1 / a1), loOf (val a0_0 a0_1 / a1), val a0_0 a0_1 % a1, 0))
  else none
theorem over_plan (a b n : Int) (ha : U64 a) (hb : U64 b) (hn : U64 n) (k : Nat) : u128_OverP.f (k + 20) a b n = u128_Over.f a b n := by
  unfold u128_OverP.f u128_Over.f
  rw [if_pos (show U64 a ∧ U64 b ∧ U64 n from ⟨ha, hb, hn⟩)]
  by_cases h : n = 0
  · rw [if_pos h, if_pos h]
  · have hn' := hn
    obtain ⟨n0, n1⟩ := hn
    have hp : 0 < n := by omega
    have r0 := Int.emod_nonneg a h
    have r1 := Int.emod_lt_of_pos a hp
    have hq : a / n ≤ a := Int.ediv_le_self _ ha.1
    have hq0 := Int.ediv_nonneg ha.1 n0
    rw [if_neg h, if_neg h, Int.tmod_eq_emod_of_nonneg ha.1, div64_is (a % n) b n ⟨r0, by omega⟩ hb hn' r1 k, Int.tdiv_eq_ediv_of_nonneg ha.1]
    simp only [Option.bind_some]
    rw [wuu _ hq0 (by have := ha.2; omega)]
    have ea := Int.ediv_mul_add_emod a n
    have e : val a b = (a % n * 18446744073709551616 + b) + a / n * 18446744073709551616 * n := by
      unfold val
      rw [Int.mul_right_comm]
      omega
    have e1 : val a b / n = a / n * 18446744073709551616 + (a % n * 18446744073709551616 + b) / n := by
      rw [e, Int.add_mul_ediv_right _ _ h]
      omega
    have e2 : val a b % n = (a % n * 18446744073709551616 + b) % n := by
      rw [e, Int.add_mul_emod_self_right]
    have l0 := Int.ediv_nonneg (show 0 ≤ a % n * 18446744073709551616 + b by have := hb.1; omega) n0
    have l1 := Int.ediv_lt_of_lt_mul hp (show a % n * 18446744073709551616 + b < 18446744073709551616 * n by have := hb.2; omega)
    rw [e1, e2]
    obtain ⟨x1, x2⟩ := halves (a / n * 18446744073709551616 + (a % n * 18446744073709551616 + b) / n) (a / n) ((a % n * 18446744073709551616 + b) / n) ⟨l0, by omega⟩ rfl
    rw [x1, x2]
theorem u128_Over.calls (a0_0 a0_1 a1 r1 r2 r3 r4 : Int) (w : World) (h : u128_Over.f a0_0 a0_1 a1 = some (r1, r2, r3, r4)) :
    Calls Try.prog 58 #[.agg #[.int .u64 a0_0, .int .u64 a0_1], .int .u64 a1] w fun e w' => e = .returned (.tuple #[.agg #[.int .u64 r1, .int .u64 r2], .int .u64 r3, .int .i64 r4]) ∧ Below w.heap.size w w' := by
  have hu : U64 a0_0 ∧ U64 a0_1 ∧ U64 a1 := by
    unfold u128_Over.f at h
    split at h
    · assumption
    · cases h
  exact u128_OverP.calls 20 a0_0 a0_1 a1 r1 r2 r3 r4 w ((over_plan a0_0 a0_1 a1 hu.1 hu.2.1 hu.2.2 0).trans h)
end Go.Proofs.Ytpkjpiphjdpegaa.P
namespace Go.Proofs.Ytpkjpiphjdpegaa.P
open Go.RowKit Go.Proofs.YtpkjpiphjdpegaaW.PrintWords Go.Proofs.YtpkjpiphjdpegaaW.PrintLast Go.Proofs.YtpkjpiphjdpegaaW.PrintMore
set_option linter.unusedVariables false
set_option linter.unusedSimpArgs false
theorem d16 (x : Int) (h : D16 x) : 0 ≤ x ∧ x < 65536 := h
end Go.Proofs.Ytpkjpiphjdpegaa.P
namespace Go.Proofs.Ytpkjpiphjdpegaa.P
open Go.RowKit Go.Proofs.YtpkjpiphjdpegaaW.PrintWords Go.Proofs.YtpkjpiphjdpegaaW.PrintLast Go.Proofs.YtpkjpiphjdpegaaW.PrintMore
attribute [local go_sem] max2_int min2_int max_two min_two max_three min_three max_four min_four
set_option linter.unusedVariables false
set_option linter.unusedSimpArgs false
theorem eqA25 (d : Nat) (w : World) (x0 y0 : Int) (x1 y1 : Int) :
    (Op.equalIn (d + 2) 25 (.agg #[.int .u64 x0, .int .u64 x1]) (.agg #[.int .u64 y0, .int .u64 y1])).run Try.prog w = .ok (x0 == y0 && (x1 == y1)) w := by
  refine eqA_of Try.underlying25 (by kernel_rfl) ?_
  refine eqf_cons (by rfl) (by go_simp; rfl) (by go_simp; rfl) (by go_simp) ?_
  exact eqf_last (by rfl) (by go_simp; rfl) (by go_simp; rfl) (by go_simp)
end Go.Proofs.Ytpkjpiphjdpegaa.P
namespace Go.Proofs.Ytpkjpiphjdpegaa.P
open Go.RowKit Go.Proofs.YtpkjpiphjdpegaaW.PrintWords Go.Proofs.YtpkjpiphjdpegaaW.PrintLast Go.Proofs.YtpkjpiphjdpegaaW.PrintMore
set_option linter.unusedVariables false
set_option linter.unusedSimpArgs false
theorem val_range (a b : Int) (ha : U64 a) (hb : U64 b) : 0 ≤ val a b ∧ val a b < m128 := by
  obtain ⟨a0, a1⟩ := ha
  obtain ⟨b0, b1⟩ := hb
  unfold val m128; omega
end Go.Proofs.Ytpkjpiphjdpegaa.P
namespace Go.Proofs.Ytpkjpiphjdpegaa.P
open Go.RowKit Go.Proofs.YtpkjpiphjdpegaaW.PrintWords Go.Proofs.YtpkjpiphjdpegaaW.PrintLast Go.Proofs.YtpkjpiphjdpegaaW.PrintMore
set_option linter.unusedVariables false
set_option linter.unusedSimpArgs false
theorem times_num (a b n : Int) (ha : U64 a) (hb : U64 b) (hn : U64 n) :
    u128_Times.f a b n = if val a b * n < m128 then some (hiOf (val a b * n), loOf (val a b * n), 0) else some (0, 0, 10) := by
  unfold u128_Times.f
  rw [if_pos ⟨ha, hb, hn⟩]
theorem over_num (a b n : Int) (ha : U64 a) (hb : U64 b) (hn : U64 n) (h : n ≠ 0) :
    u128_Over.f a b n = some (hiOf (val a b / n), loOf (val a b / n), val a b % n, 0) := by
  unfold u128_Over.f
  rw [if_pos (show U64 a ∧ U64 b ∧ U64 n from ⟨ha, hb, hn⟩), if_neg h]
theorem u0 : U64 0 := ⟨by omega, by omega⟩
theorem lit_u64 {n : Int} (h : (Lit.int .u64 n).wf = true) : U64 n := by
  have h2 : (decide (IntKind.u64.min ≤ n) && decide (n ≤ IntKind.u64.max)) = true := h
  simp only [Bool.and_eq_true, decide_eq_true_eq] at h2
  have m1 : IntKind.u64.min = 0 := by decide
  have m2 : IntKind.u64.max = 18446744073709551615 := by decide
  rw [m1, m2] at h2
  exact ⟨h2.1, by omega⟩
end Go.Proofs.Ytpkjpiphjdpegaa.P
namespace Go.Proofs.Ytpkjpiphjdpegaa.P
open Go.RowKit Go.Proofs.YtpkjpiphjdpegaaW.PrintWords Go.Proofs.YtpkjpiphjdpegaaW.PrintLast Go.Proofs.YtpkjpiphjdpegaaW.PrintMore
set_option linter.unusedVariables false
set_option linter.unusedSimpArgs false
def numL : List Int → Int
  | [] => 0
  | x :: l => x + 65536 * numL l
def Ds (l : List Int) : Prop := ∀ d, d ∈ l → D16 d
theorem numL_nonneg : ∀ (l : List Int), Ds l → 0 ≤ numL l
  | [], _ => by simp [numL]
  | x :: l, h => by
    have h0 := numL_nonneg l (fun d hd => h d (List.mem_cons_of_mem _ hd))
    have h1 := h x (List.mem_cons_self ..)
    unfold D16 at h1
    simp only [numL]
    omega
theorem numL_set : ∀ (l : List Int) (m : Nat) (v : Int), m < l.length → numL (l.set m v) = numL l + (v - l.getD m 0) * 65536 ^ m
  | x :: l, 0, v, _ => by
    simp only [List.set_cons_zero, numL, List.getD_cons_zero, Int.pow_zero]
    omega
  | x :: l, m + 1, v, h => by
    simp only [List.set_cons_succ, numL, List.getD_cons_succ, Int.pow_succ]
    rw [numL_set l m v (by simpa using h)]
    have e : (v - l.getD m 0) * (65536 ^ m * 65536) = 65536 * ((v - l.getD m 0) * 65536 ^ m) := by rw [← Int.mul_assoc, Int.mul_comm]
    rw [e]
    omega
theorem numL_append : ∀ (a b : List Int), numL (a ++ b) = numL a + numL b * 65536 ^ a.length
  | [], b => by simp [numL]
  | x :: a, b => by
    simp only [List.cons_append, numL, List.length_cons, Int.pow_succ]
    rw [numL_append a b]
    have e : numL b * (65536 ^ a.length * 65536) = 65536 * (numL b * 65536 ^ a.length) := by rw [← Int.mul_assoc, Int.mul_comm]
    rw [e]
    omega
theorem Ds_set {l : List Int} {m : Nat} {v : Int} (h : Ds l) (hv : D16 v) : Ds (l.set m v) := by
  intro d hd
  rcases List.mem_or_eq_of_mem_set hd with h1 | h1
  · exact h d h1
  · subst h1; exact hv
theorem Ds_getD {l : List Int} {m : Nat} (h : Ds l) (hm : m < l.length) : D16 (l.getD m 0) := by
  rw [List.getD_eq_getElem?_getD, List.getElem?_eq_getElem hm]
  exact h _ (List.getElem_mem hm)
theorem pow_pos' (m : Nat) : (0 : Int) < 65536 ^ m := Int.pow_pos (by omega)
theorem times_l1_mono {X Y out : List Int} {i c : Int} {r : Int × Int × Int} : ∀ (j k : Nat), paymasterref01_Times.l1 k X Y out i c = some r → paymasterref01_Times.l1 (k + j) X Y out i c = some r
  | 0, k, h => h
  | j + 1, k, h => (paymasterref01_Times.mono_l (k + j)).2.1 _ _ _ _ _ r (times_l1_mono j k h)
theorem times_l2 (X Y : List Int) (i c : Int) : ∀ (j : Nat) (out : List Int) (more : Int) (m : Nat), out.length = 17 → Ds out → m + j = 17 → 0 ≤ more → more < 4294967296 → numL out + more * 65536 ^ m < 65536 ^ 17 →
    ∃ out', out'.length = 17 ∧ Ds out' ∧ numL out' = numL out + more * 65536 ^ m ∧ ∀ k r, paymasterref01_Times.l1 k X Y out' i (wrap64 (c + 1)) = some r → paymasterref01_Times.l2 (k + (j + 1)) X Y out i c more (m : Int) = some r
  | 0, out, more, m, hl, hd, hm, h0, h1, hT => by
    obtain rfl : m = 17 := by omega
    have n0 := numL_nonneg out hd
    have z : more = 0 := by omega
    subst z
    refine ⟨out, hl, hd, by omega, fun k r h => ?_⟩
    show paymasterref01_Times.l2 (k + 1) X Y out i c 0 _ = some r
    simp only [paymasterref01_Times.l2]
    rw [if_neg (by omega)]
    exact h
  | j + 1, out, more, m, hl, hd, hm, h0, h1, hT => by
    by_cases hp : more > 0
    · have hD := Ds_getD (m := m) hd (by omega)
      have S := numL_set out m ((more + out.getD m 0) % 65536) (by omega)
      generalize e : out.getD m 0 = y at hD S
      obtain ⟨y0, y1⟩ := hD
      obtain ⟨q, hq⟩ : ∃ q, (more + y) / 65536 = q := ⟨_, rfl⟩
      obtain ⟨s, hs⟩ : ∃ s, (more + y) % 65536 = s := ⟨_, rfl⟩
      rw [hs] at S
      have hD' : D16 s := ⟨by omega, by omega⟩
      have E : numL (out.set m s) + q * 65536 ^ (m + 1) = numL out + more * 65536 ^ m := by
        rw [S, Int.pow_succ]
        have e1 : more = q * 65536 + (s - y) := by omega
        rw [e1, Int.add_mul, Int.mul_assoc q 65536, Int.mul_comm 65536 (65536 ^ m)]
        omega
      obtain ⟨out', a1, a2, a3, a4⟩ := times_l2 X Y i c j (out.set m s) q (m + 1) (by simpa using hl) (Ds_set hd hD') (by omega) (by omega) (by omega) (by rw [E]; exact hT)
      refine ⟨out', a1, a2, a3.trans E, fun k r h => ?_⟩
      have F := a4 k r h
      show paymasterref01_Times.l2 (k + (j + 1) + 1) X Y out i c more (m : Int) = some r
      simp only [paymasterref01_Times.l2]
      rw [if_pos hp, if_pos (by omega), if_pos (by rw [hl]; omega), show rd out (m : Int) = y from e, wu (more + y) (by omega) (by omega), tm _ (by omega), td _ (by omega), hs, hq, wu q (by omega) (by omega), show wrap64 ((m : Int) + 1) = ((m + 1 : Nat) : Int) from by rw [wi _ (by omega) (by omega)]; omega, Int.toNat_natCast]
      exact F
    · obtain rfl : more = 0 := by omega
      refine ⟨out, hl, hd, by omega, fun k r h => ?_⟩
      show paymasterref01_Times.l2 (k + (j + 1) + 1) X Y out i c 0 _ = some r
      simp only [paymasterref01_Times.l2]
      rw [if_neg (by omega)]
      exact times_l1_mono (j + 1) k h
theorem times_l1 (X Y out : List Int) (i c : Nat) (x y : Int) (hi : i < 8) (hc : c < 4) (lX : X.length = 8) (lY : Y.length = 8) (hx : rd X i = x) (hy : rd Y c = y) (dx : D16 x) (dy : D16 y) (hl : out.length = 17) (hd : Ds out) (hT : numL out + x * y * 65536 ^ (i + c) < 65536 ^ 17) :
    ∃ out', out'.length = 17 ∧ Ds out' ∧ numL out' = numL out + x * y * 65536 ^ (i + c) ∧ ∀ k r, paymasterref01_Times.l1 k X Y out' i ((c + 1 : Nat) : Int) = some r → paymasterref01_Times.l1 (k + 20) X Y out i (c : Int) = some r := by
  obtain ⟨x0, x1⟩ := dx
  obtain ⟨y0, y1⟩ := dy
  have p0 : 0 ≤ x * y := Int.mul_nonneg x0 y0
  have p1 : x * y ≤ 65535 * 65535 := Int.mul_le_mul (by omega) (by omega) y0 (by omega)
  obtain ⟨out', a1, a2, a3, a4⟩ := times_l2 X Y i c (17 - (i + c)) out (x * y) (i + c) hl hd (by omega) p0 (by omega) hT
  refine ⟨out', a1, a2, a3, fun k r h => ?_⟩
  rw [show wrap64 ((c : Int) + 1) = ((c + 1 : Nat) : Int) from by rw [wi _ (by omega) (by omega)]; omega] at a4
  have F := a4 (k + (18 - (17 - (i + c)))) r (times_l1_mono _ k h)
  rw [show k + (18 - (17 - (i + c))) + (17 - (i + c) + 1) = k + 19 from by omega] at F
  show paymasterref01_Times.l1 (k + 19 + 1) X Y out i (c : Int) = some r
  simp only [paymasterref01_Times.l1]
  rw [if_pos (by omega), if_pos (by omega), if_pos (by omega), if_pos (by omega), if_pos (by omega), hx, hy, wu (x * y) p0 (by omega), show wrap64 ((i : Int) + (c : Int)) = ((i + c : Nat) : Int) from by rw [wi _ (by omega) (by omega)]; omega]
  exact F
theorem times_row (X Y out : List Int) (i : Nat) (x a b c d : Int) (hi : i < 8) (lX : X.length = 8) (lY : Y.length = 8) (hx : rd X i = x) (ha : rd Y 0 = a) (hb : rd Y 1 = b) (hc : rd Y 2 = c) (hd : rd Y 3 = d) (dx : D16 x) (da : D16 a) (db : D16 b) (dc : D16 c) (dd : D16 d) (hl : out.length = 17) (hD : Ds out)
    (hT : numL out + x * 65536 ^ i * hf a b c d < 65536 ^ 17) :
    ∃ out', out'.length = 17 ∧ Ds out' ∧ numL out' = numL out + x * 65536 ^ i * hf a b c d ∧ ∀ k r, paymasterref01_Times.l0 k X Y out' ((i + 1 : Nat) : Int) = some r → paymasterref01_Times.l0 (k + 82) X Y out (i : Int) = some r := by
  have P0 := pow_pos' i
  have u : ∀ z : Int, 0 ≤ z → 0 ≤ x * z * 65536 ^ i := fun z hz => Int.mul_nonneg (Int.mul_nonneg dx.1 hz) (by omega)
  have u0 := u a da.1
  have u1 := u b db.1
  have u2 := u c dc.1
  have u3 := u d dd.1
  have sh : ∀ (z : Int) (t : Nat), x * z * 65536 ^ (i + t) = x * z * 65536 ^ i * 65536 ^ t := fun z t => by rw [Int.pow_add, ← Int.mul_assoc]
  have E : x * 65536 ^ i * hf a b c d = x * a * 65536 ^ i + x * b * 65536 ^ i * 65536 + x * c * 65536 ^ i * 4294967296 + x * d * 65536 ^ i * 281474976710656 := by
    have s : ∀ z : Int, x * z * 65536 ^ i = x * 65536 ^ i * z := fun z => Int.mul_right_comm ..
    rw [s, s, s, s]
    generalize x * 65536 ^ i = g
    unfold hf
    simp only [Int.mul_add, ← Int.mul_assoc]
    omega
  rw [E] at hT
  obtain ⟨o1, a1, a2, a3, a4⟩ := times_l1 X Y out i 0 x a hi (by omega) lX lY hx ha dx da hl hD (by rw [sh]; omega)
  rw [sh] at a3
  obtain ⟨o2, b1, b2, b3, b4⟩ := times_l1 X Y o1 i 1 x b hi (by omega) lX lY hx hb dx db a1 a2 (by rw [sh, a3]; omega)
  rw [sh] at b3
  obtain ⟨o3, c1, c2, c3, c4⟩ := times_l1 X Y o2 i 2 x c hi (by omega) lX lY hx hc dx dc b1 b2 (by rw [sh, b3, a3]; omega)
  rw [sh] at c3
  obtain ⟨o4, d1, d2, d3, d4⟩ := times_l1 X Y o3 i 3 x d hi (by omega) lX lY hx hd dx dd c1 c2 (by rw [sh, c3, b3, a3]; omega)
  rw [sh] at d3
  refine ⟨o4, d1, d2, by rw [d3, c3, b3, a3, E]; omega, fun k r h => ?_⟩
  show paymasterref01_Times.l0 (k + 81 + 1) X Y out (i : Int) = some r
  simp only [paymasterref01_Times.l0]
  rw [if_pos (by omega)]
  refine a4 (k + 61) r (b4 (k + 41) r (c4 (k + 21) r (d4 (k + 1) r ?_)))
  simp only [paymasterref01_Times.l1]
  rw [if_neg (by omega), show wrap64 ((i : Int) + 1) = ((i + 1 : Nat) : Int) from by rw [wi _ (by omega) (by omega)]; omega]
  exact h
theorem rd_drop (X : List Int) (i : Nat) (h : i < X.length) : X.drop i = rd X i :: X.drop (i + 1) := by
  rw [List.drop_eq_getElem_cons h]
  congr 1
  show X[i] = X.getD i 0
  rw [List.getD_eq_getElem?_getD, List.getElem?_eq_getElem h]
  rfl
theorem times_l0 (X Y : List Int) (a b c d : Int) (lX : X.length = 8) (lY : Y.length = 8) (dX : Ds X) (ha : rd Y 0 = a) (hb : rd Y 1 = b) (hc : rd Y 2 = c) (hd : rd Y 3 = d) (da : D16 a) (db : D16 b) (dc : D16 c) (dd : D16 d) : ∀ (t i : Nat) (out : List Int), i + t = 8 → out.length = 17 → Ds out → numL out + numL (X.drop i) * 65536 ^ i * hf a b c d < 65536 ^ 17 →
    ∃ out', out'.length = 17 ∧ Ds out' ∧ numL out' = numL out + numL (X.drop i) * 65536 ^ i * hf a b c d ∧ ∀ k r, paymasterref01_Times.l0 k X Y out' 8 = some r → paymasterref01_Times.l0 (k + 82 * t) X Y out (i : Int) = some r
  | 0, i, out, hi, hl, hD, hT => by
    obtain rfl : i = 8 := by omega
    have e : X.drop 8 = [] := List.drop_eq_nil_of_le (by omega)
    refine ⟨out, hl, hD, ?_, fun k r h => h⟩
    rw [e]
    simp [numL]
  | t + 1, i, out, hi, hl, hD, hT => by
    have hN := hf_range a b c d da db dc dd
    have dx := Ds_getD (m := i) dX (by omega)
    have e := rd_drop X i (by omega)
    have P0 := pow_pos' i
    have R0 : 0 ≤ numL (X.drop (i + 1)) := numL_nonneg _ (fun d hd => dX d (List.mem_of_mem_drop hd))
    have hx : rd X i = X.getD i 0 := rfl
    have E : numL (X.drop i) * 65536 ^ i * hf a b c d = rd X i * 65536 ^ i * hf a b c d + numL (X.drop (i + 1)) * 65536 ^ (i + 1) * hf a b c d := by
      rw [e]
      simp only [numL]
      rw [← Int.add_mul, Int.pow_succ, Int.add_mul, Int.mul_comm 65536, Int.mul_assoc (numL (X.drop (i + 1))), Int.mul_comm 65536 (65536 ^ i)]
    rw [E] at hT
    have z : 0 ≤ numL (X.drop (i + 1)) * 65536 ^ (i + 1) * hf a b c d := Int.mul_nonneg (Int.mul_nonneg R0 (Int.le_of_lt (pow_pos' _))) hN.1
    obtain ⟨o1, a1, a2, a3, a4⟩ := times_row X Y out i (rd X i) a b c d (by omega) lX lY rfl ha hb hc hd dx da db dc dd hl hD (by omega)
    obtain ⟨o2, b1, b2, b3, b4⟩ := times_l0 X Y a b c d lX lY dX ha hb hc hd da db dc dd t (i + 1) o1 (by omega) a1 a2 (by rw [a3]; omega)
    refine ⟨o2, b1, b2, by rw [b3, a3, E]; omega, fun k r h => ?_⟩
    rw [show k + 82 * (t + 1) = k + 82 * t + 82 from by omega]
    exact a4 _ r (b4 k r h)
theorem numL_dg (a b : Int) (ha : U64 a) (hb : U64 b) : numL (dg a b) = val a b ∧ Ds (dg a b) ∧ (dg a b).length = 8 := by
  obtain ⟨d0, d1, d2, d3, d4, d5, d6, d7, eX, h0, h1, h2, h3, h4, h5, h6, h7, va, vb⟩ := dg_cases a b ha hb
  rw [eX]
  refine ⟨?_, ?_, rfl⟩
  · unfold val
    rw [va, vb, sum_digits]
    simp only [numL]
    omega
  · intro d hd
    simp only [List.mem_cons, List.not_mem_nil, or_false] at hd
    rcases hd with rfl | rfl | rfl | rfl | rfl | rfl | rfl | rfl <;> assumption
theorem list_cons {α : Type} (l : List α) (n : Nat) (h : l.length = n + 1) : ∃ x t, l = x :: t ∧ t.length = n := by
  cases l with
  | nil => cases h
  | cons x t => exact ⟨x, t, rfl, by simpa using h⟩
theorem number8' (k : Nat) (l : List Int) (hl : l.length = 8) (hd : Ds l) : paymasterref01_number.f (k + 25) l = some (hiOf (numL l), loOf (numL l), true) := by
  obtain ⟨d0, l1, rfl, k1⟩ := list_cons l 7 hl
  obtain ⟨d1, l2, rfl, k2⟩ := list_cons l1 6 k1
  obtain ⟨d2, l3, rfl, k3⟩ := list_cons l2 5 k2
  obtain ⟨d3, l4, rfl, k4⟩ := list_cons l3 4 k3
  obtain ⟨d4, l5, rfl, k5⟩ := list_cons l4 3 k4
  obtain ⟨d5, l6, rfl, k6⟩ := list_cons l5 2 k5
  obtain ⟨d6, l7, rfl, k7⟩ := list_cons l6 1 k6
  obtain ⟨d7, l8, rfl, k8⟩ := list_cons l7 0 k7
  obtain rfl := List.eq_nil_of_length_eq_zero k8
  have h0 := hd d0 (by simp)
  have h1 := hd d1 (by simp)
  have h2 := hd d2 (by simp)
  have h3 := hd d3 (by simp)
  have h4 := hd d4 (by simp)
  have h5 := hd d5 (by simp)
  have h6 := hd d6 (by simp)
  have h7 := hd d7 (by simp)
  rw [number8 k d0 d1 d2 d3 d4 d5 d6 d7 h0 h1 h2 h3 h4 h5 h6 h7]
  have s := sum_digits d0 d1 d2 d3 d4 d5 d6 d7
  have e : numL [d0, d1, d2, d3, d4, d5, d6, d7] = hf d4 d5 d6 d7 * 18446744073709551616 + hf d0 d1 d2 d3 := by
    rw [s]; simp only [numL]; omega
  obtain ⟨e1, e2⟩ := halves _ _ _ (hf_range d0 d1 d2 d3 h0 h1 h2 h3) e
  rw [e1, e2]
theorem number17 (k : Nat) (l : List Int) (hl : l.length = 17) (hd : Ds l) : paymasterref01_number.f (k + 55) l = some (if numL l < m128 then (hiOf (numL l), loOf (numL l), true) else (0, 0, false)) := by
  obtain ⟨d0, l1, rfl, k1⟩ := list_cons l 16 hl
  obtain ⟨d1, l2, rfl, k2⟩ := list_cons l1 15 k1
  obtain ⟨d2, l3, rfl, k3⟩ := list_cons l2 14 k2
  obtain ⟨d3, l4, rfl, k4⟩ := list_cons l3 13 k3
  obtain ⟨d4, l5, rfl, k5⟩ := list_cons l4 12 k4
  obtain ⟨d5, l6, rfl, k6⟩ := list_cons l5 11 k5
  obtain ⟨d6, l7, rfl, k7⟩ := list_cons l6 10 k6
  obtain ⟨d7, l8, rfl, k8⟩ := list_cons l7 9 k7
  obtain ⟨d8, l9, rfl, k9⟩ := list_cons l8 8 k8
  obtain ⟨d9, l10, rfl, k10⟩ := list_cons l9 7 k9
  obtain ⟨d10, l11, rfl, k11⟩ := list_cons l10 6 k10
  obtain ⟨d11, l12, rfl, k12⟩ := list_cons l11 5 k11
  obtain ⟨d12, l13, rfl, k13⟩ := list_cons l12 4 k12
  obtain ⟨d13, l14, rfl, k14⟩ := list_cons l13 3 k13
  obtain ⟨d14, l15, rfl, k15⟩ := list_cons l14 2 k14
  obtain ⟨d15, l16, rfl, k16⟩ := list_cons l15 1 k15
  obtain ⟨d16, l17, rfl, k17⟩ := list_cons l16 0 k16
  obtain rfl := List.eq_nil_of_length_eq_zero k17
  have h0 := hd d0 (by simp)
  have h1 := hd d1 (by simp)
  have h2 := hd d2 (by simp)
  have h3 := hd d3 (by simp)
  have h4 := hd d4 (by simp)
  have h5 := hd d5 (by simp)
  have h6 := hd d6 (by simp)
  have h7 := hd d7 (by simp)
  have h8 := (hd d8 (by simp)).1
  have h9 := (hd d9 (by simp)).1
  have h10 := (hd d10 (by simp)).1
  have h11 := (hd d11 (by simp)).1
  have h12 := (hd d12 (by simp)).1
  have h13 := (hd d13 (by simp)).1
  have h14 := (hd d14 (by simp)).1
  have h15 := (hd d15 (by simp)).1
  have h16 := (hd d16 (by simp)).1
  clear hd
  have s := sum_digits d0 d1 d2 d3 d4 d5 d6 d7
  have r0 := hf_range d0 d1 d2 d3 h0 h1 h2 h3
  have r1 := hf_range d4 d5 d6 d7 h4 h5 h6 h7
  generalize eL : [d0, d1, d2, d3, d4, d5, d6, d7, d8, d9, d10, d11, d12, d13, d14, d15, d16] = L
  have B := fun k => num_body k L d0 d1 d2 d3 d4 d5 d6 d7 (by rw [← eL]; simp) (by rw [← eL]; rfl) (by rw [← eL]; rfl) (by rw [← eL]; rfl) (by rw [← eL]; rfl) (by rw [← eL]; rfl) (by rw [← eL]; rfl) (by rw [← eL]; rfl) (by rw [← eL]; rfl) h0 h1 h2 h3 h4 h5 h6 h7
  have lL : (L.length : Int) = 17 := by rw [← eL]; rfl
  have e8 : rd L 8 = d8 := by rw [← eL]; rfl
  have e9 : rd L 9 = d9 := by rw [← eL]; rfl
  have e10 : rd L 10 = d10 := by rw [← eL]; rfl
  have e11 : rd L 11 = d11 := by rw [← eL]; rfl
  have e12 : rd L 12 = d12 := by rw [← eL]; rfl
  have e13 : rd L 13 = d13 := by rw [← eL]; rfl
  have e14 : rd L 14 = d14 := by rw [← eL]; rfl
  have e15 : rd L 15 = d15 := by rw [← eL]; rfl
  have e16 : rd L 16 = d16 := by rw [← eL]; rfl
  have e : numL L = d16 * 115792089237316195423570985008687907853269984665640564039457584007913129639936 + d15 * 1766847064778384329583297500742918515827483896875618958121606201292619776 + d14 * 26959946667150639794667015087019630673637144422540572481103610249216 + d13 * 411376139330301510538742295639337626245683966408394965837152256 + d12 * 6277101735386680763835789423207666416102355444464034512896 + d11 * 95780971304118053647396689196894323976171195136475136 + d10 * 1461501637330902918203684832716283019655932542976 + d9 * 22300745198530623141535718272648361505980416 + d8 * 340282366920938463463374607431768211456 + (hf d4 d5 d6 d7 * 18446744073709551616 + hf d0 d1 d2 d3) := by
    rw [s, ← eL]; simp only [numL]; omega
  obtain ⟨q0, q1⟩ := r0
  obtain ⟨q2, q3⟩ := r1
  generalize hf d4 d5 d6 d7 = H at *
  generalize hf d0 d1 d2 d3 = J at *
  clear h0 h1 h2 h3 h4 h5 h6 h7 s eL hl
  unfold paymasterref01_number.f
  rw [lL, show wrap64 ((17 : Int) - 1) = 16 from by simp [wrap64]]
  have T := fun k i => num_top (k := k) L i 0 0
  have fin : ∀ v : Int, 0 < v → numL L = v * 340282366920938463463374607431768211456 + (H * 18446744073709551616 + J) → (some ((0 : Int), (0 : Int), false) : Option (Int × Int × Bool)) = some (if numL L < m128 then (hiOf (numL L), loOf (numL L), true) else (0, 0, false)) := by
    intro v hv he
    rw [if_neg (by unfold m128; omega)]
  rw [show k + 55 = k + 52 + 3 from rfl, T (k + 52) 16 (by omega) (by omega) (by omega), e16]
  by_cases z16 : d16 = 0
  case neg => rw [if_neg z16]; exact fin (d16 * 340282366920938463463374607431768211456 + d15 * 5192296858534827628530496329220096 + d14 * 79228162514264337593543950336 + d13 * 1208925819614629174706176 + d12 * 18446744073709551616 + d11 * 281474976710656 + d10 * 4294967296 + d9 * 65536 + d8) (by omega) (by omega)
  rw [if_pos z16, show (16 : Int) - 1 = 15 from rfl, show k + 52 = k + 49 + 3 from rfl, T (k + 49) 15 (by omega) (by omega) (by omega), e15]
  by_cases z15 : d15 = 0
  case neg => rw [if_neg z15]; exact fin (d15 * 5192296858534827628530496329220096 + d14 * 79228162514264337593543950336 + d13 * 1208925819614629174706176 + d12 * 18446744073709551616 + d11 * 281474976710656 + d10 * 4294967296 + d9 * 65536 + d8) (by omega) (by omega)
  rw [if_pos z15, show (15 : Int) - 1 = 14 from rfl, show k + 49 = k + 46 + 3 from rfl, T (k + 46) 14 (by omega) (by omega) (by omega), e14]
  by_cases z14 : d14 = 0
  case neg => rw [if_neg z14]; exact fin (d14 * 79228162514264337593543950336 + d13 * 1208925819614629174706176 + d12 * 18446744073709551616 + d11 * 281474976710656 + d10 * 4294967296 + d9 * 65536 + d8) (by omega) (by omega)
  rw [if_pos z14, show (14 : Int) - 1 = 13 from rfl, show k + 46 = k + 43 + 3 from rfl, T (k + 43) 13 (by omega) (by omega) (by omega), e13]
  by_cases z13 : d13 = 0
  case neg => rw [if_neg z13]; exact fin (d13 * 1208925819614629174706176 + d12 * 18446744073709551616 + d11 * 281474976710656 + d10 * 4294967296 + d9 * 65536 + d8) (by omega) (by omega)
  rw [if_pos z13, show (13 : Int) - 1 = 12 from rfl, show k + 43 = k + 40 + 3 from rfl, T (k + 40) 12 (by omega) (by omega) (by omega), e12]
  by_cases z12 : d12 = 0
  case neg => rw [if_neg z12]; exact fin (d12 * 18446744073709551616 + d11 * 281474976710656 + d10 * 4294967296 + d9 * 65536 + d8) (by omega) (by omega)
  rw [if_pos z12, show (12 : Int) - 1 = 11 from rfl, show k + 40 = k + 37 + 3 from rfl, T (k + 37) 11 (by omega) (by omega) (by omega), e11]
  by_cases z11 : d11 = 0
  case neg => rw [if_neg z11]; exact fin (d11 * 281474976710656 + d10 * 4294967296 + d9 * 65536 + d8) (by omega) (by omega)
  rw [if_pos z11, show (11 : Int) - 1 = 10 from rfl, show k + 37 = k + 34 + 3 from rfl, T (k + 34) 10 (by omega) (by omega) (by omega), e10]
  by_cases z10 : d10 = 0
  case neg => rw [if_neg z10]; exact fin (d10 * 4294967296 + d9 * 65536 + d8) (by omega) (by omega)
  rw [if_pos z10, show (10 : Int) - 1 = 9 from rfl, show k + 34 = k + 31 + 3 from rfl, T (k + 31) 9 (by omega) (by omega) (by omega), e9]
  by_cases z9 : d9 = 0
  case neg => rw [if_neg z9]; exact fin (d9 * 65536 + d8) (by omega) (by omega)
  rw [if_pos z9, show (9 : Int) - 1 = 8 from rfl, show k + 31 = k + 28 + 3 from rfl, T (k + 28) 8 (by omega) (by omega) (by omega), e8]
  by_cases z8 : d8 = 0
  case neg => rw [if_neg z8]; exact fin d8 (by omega) (by omega)
  rw [if_pos z8, show (8 : Int) - 1 = 7 from rfl, show k + 28 = k + 3 + 25 from rfl, B (k + 3)]
  have e' : numL L = H * 18446744073709551616 + J := by omega
  obtain ⟨w1, w2⟩ := halves (numL L) H J ⟨q0, q1⟩ e'
  rw [if_pos (by unfold m128; omega), w1, w2]
theorem refTimes_is (k : Nat) (a b n : Int) (ha : U64 a) (hb : U64 b) (hn : U64 n) : paymasterref01_Times.f (k + 720) a b n = u128_Times.f a b n := by
  rw [times_num a b n ha hb hn]
  have u0' := u0
  have A : paymasterref01_digits.f (k + 720) a b = some (dg a b) := digits_is (k + 710) a b ha hb
  have B : paymasterref01_digits.f (k + 720) 0 n = some (dg 0 n) := digits_is (k + 710) 0 n u0' hn
  unfold paymasterref01_Times.f
  rw [A, Option.bind_some, B, Option.bind_some, if_pos (by omega)]
  clear A B
  obtain ⟨vX, dX, lX⟩ := numL_dg a b ha hb
  obtain ⟨y0, y1, y2, y3, y4, y5, y6, y7, eY, g0, g1, g2, g3, g4, g5, g6, g7, vc, vd⟩ := dg_cases 0 n u0' hn
  have lY : (dg 0 n).length = 8 := rfl
  have f0 : rd (dg 0 n) 0 = y0 := by rw [eY]; rfl
  have f1 : rd (dg 0 n) 1 = y1 := by rw [eY]; rfl
  have f2 : rd (dg 0 n) 2 = y2 := by rw [eY]; rfl
  have f3 : rd (dg 0 n) 3 = y3 := by rw [eY]; rfl
  have v0 := val_range a b ha hb
  have z17 : numL (List.replicate 17 0) = 0 := by decide
  have d17 : Ds (List.replicate 17 0) := by
    intro d hd
    rw [List.eq_of_mem_replicate hd]
    exact ⟨by omega, by omega⟩
  have V : numL (List.replicate 17 0) + numL ((dg a b).drop 0) * 65536 ^ 0 * hf y0 y1 y2 y3 = val a b * n := by
    rw [z17, List.drop_zero, vX, ← vd, Int.pow_zero, Int.mul_one, Int.zero_add]
  have p0 : 0 ≤ val a b * n := Int.mul_nonneg v0.1 hn.1
  have p1 : val a b * n ≤ m128 * 18446744073709551616 := Int.mul_le_mul (by omega) (by have := hn.2; omega) hn.1 (by unfold m128; omega)
  obtain ⟨out, a1, a2, a3, a4⟩ := times_l0 (dg a b) (dg 0 n) y0 y1 y2 y3 lX lY dX f0 f1 f2 f3 g0 g1 g2 g3 8 0 (List.replicate 17 0) rfl rfl d17 (by rw [V]; unfold m128 at p1; omega)
  rw [V] at a3
  have N := number17 (k + 8) out a1 a2
  rw [a3] at N
  have L : paymasterref01_Times.l0 (k + 64) (dg a b) (dg 0 n) out 8 = if val a b * n < m128 then some (hiOf (val a b * n), loOf (val a b * n), 0) else some (0, 0, 10) := by
    rw [show k + 64 = k + 63 + 1 from rfl, paymasterref01_Times.l0, if_neg (by omega), show k + 63 = k + 8 + 55 from rfl, N, Option.bind_some]
    by_cases h : val a b * n < m128
    · rw [if_pos h, if_pos h, if_pos rfl]
    · rw [if_neg h, if_neg h, if_neg (by simp)]
  have G : ∀ r, (if val a b * n < m128 then some (hiOf (val a b * n), loOf (val a b * n), (0 : Int)) else some (0, 0, 10)) = some r → paymasterref01_Times.l0 (k + 720) (dg a b) (dg 0 n) (List.replicate 17 0) 0 = some r := by
    intro r h
    exact a4 (k + 64) r (L.trans h)
  by_cases h : val a b * n < m128
  · rw [if_pos h] at G ⊢
    exact G _ rfl
  · rw [if_neg h] at G ⊢
    exact G _ rfl
end Go.Proofs.Ytpkjpiphjdpegaa.P
namespace Go.Proofs.Ytpkjpiphjdpegaa.P
open Go.RowKit Go.Proofs.YtpkjpiphjdpegaaW.PrintWords Go.Proofs.YtpkjpiphjdpegaaW.PrintLast Go.Proofs.YtpkjpiphjdpegaaW.PrintMore
attribute [local go_sem] max2_int min2_int max_two min_two max_three min_three max_four min_four
set_option linter.unusedVariables false
set_option linter.unusedSimpArgs false
attribute [local go_sem high] eqA25
mutual
def paymasterref01_Over.l0 : Nat → Int → List Int → List Int → Int → Int → Option (Int × Int × Int × Int)
  | 0, _, _, _, _, _ => none
  | k + 1, x1, x7, x8, x9, x10 => if x10 ≥ 0 then (paymasterref01_Over.l1 k x1 x7 x8 x9 x10 32768) else ((paymasterref01_number.f k x8).bind fun bt887 => (some (bt887.1, bt887.2.1, x9, 0)))
def paymasterref01_Over.l1 : Nat → Int → List Int → List Int → Int → Int → Int → Option (Int × Int × Int × Int)
  | 0, _, _, _, _, _, _ => none
  | k + 1, x1, x7, x8, x9, x10, x11 => if x11 > 0 then (if 0 ≤ x10 then (if x10 < (x7.length : Int) then (if x11 = 0 then (none) else (if x9 ≥ (IntKind.u64.wrap (x1 - x9)) then (if x10 < (x8.length : Int) then (paymasterref01_Over.l1 k x1 x7 (x8.set (x10 : Int).toNat (IntKind.u64.wrap ((rd x8 x10) + x11))) (IntKind.u64.wrap ((IntKind.u64.wrap (x9 - (IntKind.u64.wrap (x1 - x9)))) + (Int.tmod (IntKind.u64.wrap (Int.tdiv (rd x7 x10) x11)) 2))) x10 (IntKind.u64.wrap (Int.tdiv x11 2))) else (none)) else (if (IntKind.u64.wrap (x9 + 1)) ≥ (IntKind.u64.wrap (x1 - x9)) then (if (Int.tmod (IntKind.u64.wrap (Int.tdiv (rd x7 x10) x11)) 2) = 1 then (if x10 < (x8.length : Int) then (paymasterref01_Over.l1 k x1 x7 (x8.set (x10 : Int).toNat (IntKind.u64.wrap ((rd x8 x10) + x11))) (IntKind.u64.wrap ((IntKind.u64.wrap (x9 - (IntKind.u64.wrap (x1 - x9)))) + (Int.tmod (IntKind.u64.wrap (Int.tdiv (rd x7 x10) x11)) 2))) x10 (IntKind.u64.wrap (Int.tdiv x11 2))) else (none)) else (paymasterref01_Over.l1 k x1 x7 x8 (IntKind.u64.wrap ((IntKind.u64.wrap (2 * x9)) + (Int.tmod (IntKind.u64.wrap (Int.tdiv (rd x7 x10) x11)) 2))) x10 (IntKind.u64.wrap (Int.tdiv x11 2)))) else (paymasterref01_Over.l1 k x1 x7 x8 (IntKind.u64.wrap ((IntKind.u64.wrap (2 * x9)) + (Int.tmod (IntKind.u64.wrap (Int.tdiv (rd x7 x10) x11)) 2))) x10 (IntKind.u64.wrap (Int.tdiv x11 2)))))) else (none)) else (none)) else (paymasterref01_Over.l0 k x1 x7 x8 x9 (wrap64 (x10 - 1)))
end
def paymasterref01_Over.f (k : Nat) (a0_0 : Int) (a0_1 : Int) (a1 : Int) : Option (Int × Int × Int × Int) := if a1 = 0 then (some (0, 0, 0, 2)) else ((paymasterref01_digits.f k a0_0 a0_1).bind fun t881 => (if 8 ≤ 35184372088832 then (paymasterref01_Over.l0 k a1 t881 (List.replicate 8 0) 0 7) else (none)))
set_option maxHeartbeats 8000000 in
set_option maxRecDepth 100000 in
theorem paymasterref01_Over.calls (k : Nat) (a0_0 : Int) (a0_1 : Int) (a1 : Int) (r1 : Int) (r2 : Int) (r3 : Int) (r4 : Int) (w : World) (h : paymasterref01_Over.f k a0_0 a0_1 a1 = some (r1, r2, r3, r4)) :
    Calls Try.prog 59 #[.agg #[.int .u64 a0_0, .int .u64 a0_1], .int .u64 a1] w fun e w' => e = .returned (.tuple #[.agg #[.int .u64 r1, .int .u64 r2], .int .u64 r3, .int .i64 r4]) ∧ Below w.heap.size w w' := by
  have hu25 := Try.underlying25
  have HB := Aside0.mk (Below.refl w.heap.size w)
  have H : (if a1 = 0 then (some (0, 0, 0, 2)) else ((paymasterref01_digits.f k a0_0 a0_1).bind fun t881 => (if 8 ≤ 35184372088832 then (paymasterref01_Over.l0 k a1 t881 (List.replicate 8 0) 0 7) else (none)))) = some (r1, r2, r3, r4) := h
  clear h
  by_cases c3 : a1 = 0
  · rw [if_pos c3] at H
    have c3b0 : (a1 == 0) = true := beq_iff_eq.mpr c3
    have c3b1 : (a1 != 0) = false := bne_eq_false_iff_eq.mpr c3
    clear c3
    simp only [Option.some.injEq, Prod.mk.injEq] at H
    obtain ⟨rfl, rfl, rfl, rfl⟩ := H
    go_enter Try.func59, Try.ntmps59
    go_wp2_with (first | ((with_reducible refine gate_dst (N := 2) rfl ?_); refine box_event ?hg (N := 2) ?hd (cs := #[.int .u64 a0_0, .int .u64 a0_1]) (t := 25) ?hr ?_; (case hd => rfl); (case hg => rfl); (case hr => first | (go_simp; done) | (go_simp; rfl)); intro gb879 hg w4 hbox hb; have n0_ := Aside0.mk (below_step (by repeat (first | (with_reducible first | exact HB.out | apply below_alloc | apply pw_below_drewN | apply below_drew1) | exact HB.out)) hb); have n1_ := Aside0.mk (hbox); have n2_ := Aside0.mk ((by rw [hg]; exact (below_size (by repeat (first | (with_reducible first | exact HB.out | apply below_alloc | apply pw_below_drewN | apply below_drew1) | exact HB.out))) : w.heap.size ≤ gb879)); have n3_ := Aside0.mk ((by rw [hg]; exact (below_size (by repeat (first | (with_reducible first | exact HB.out | apply below_alloc | apply pw_below_drewN | apply below_drew1) | exact HB.out))) : w.heap.size ≤ gb879)); clear HB; have HB := n0_; have BK879 := n1_; have GW879 := n2_; have GE879 := n3_; clear n0_ n1_ n2_ n3_; clear hb hbox hg) | ((with_reducible refine gate_dst (N := 4) rfl ?_); refine box_event ?hg (N := 4) ?hd (cs := #[.int .u64 0, .int .u64 0]) (t := 25) ?hr ?_; (case hd => rfl); (case hg => rfl); (case hr => first | (go_simp; done) | (go_simp; rfl)); intro gb880 hg w5 hbox hb; have n0_ := Aside0.mk (blk_below (g := gb879) (o := .cells #[.int .u64 a0_0, .int .u64 a0_1] 25 (0, 0)) (by (with_reducible repeat (first | refine blk_drewN ?_ _ | refine blk_drew ?_ | refine blk_alloc ?_ _)); exact BK879.out) hb); have n1_ := Aside0.mk (below_step (by repeat (first | (with_reducible first | exact HB.out | apply below_alloc | apply pw_below_drewN | apply below_drew1 | refine below_set ?_ GE879.out) | exact HB.out)) hb); have n2_ := Aside0.mk (hbox); have n3_ := Aside0.mk ((by rw [hg]; exact (below_size (by repeat (first | (with_reducible first | exact HB.out | apply below_alloc | apply pw_below_drewN | apply below_drew1 | refine below_set ?_ GE879.out) | exact HB.out))) : w.heap.size ≤ gb880)); have n4_ := Aside0.mk ((by rw [hg]; exact (below_size (by repeat (first | (with_reducible first | exact HB.out | apply below_alloc | apply pw_below_drewN | apply below_drew1 | refine below_set ?_ GE879.out) | exact HB.out))) : w.heap.size ≤ gb880)); have n5_ := Aside0.mk ((by rw [hg]; exact Nat.ne_of_lt (blk_lt (g := gb879) (o := .cells #[.int .u64 a0_0, .int .u64 a0_1] 25 (0, 0)) (by (with_reducible repeat (first | refine blk_drewN ?_ _ | refine blk_drew ?_ | refine blk_alloc ?_ _)); exact BK879.out)) : gb879 ≠ gb880)); have n6_ := Aside0.mk ((by rw [hg]; exact Nat.ne_of_gt (blk_lt (g := gb879) (o := .cells #[.int .u64 a0_0, .int .u64 a0_1] 25 (0, 0)) (by (with_reducible repeat (first | refine blk_drewN ?_ _ | refine blk_drew ?_ | refine blk_alloc ?_ _)); exact BK879.out)) : gb880 ≠ gb879)); clear BK879; clear HB; have BK879 := n0_; have HB := n1_; have BK880 := n2_; have GW880 := n3_; have GE880 := n4_; have NB879_880 := n5_; have NB880_879 := n6_; clear n0_ n1_ n2_ n3_ n4_ n5_ n6_; clear hb hbox hg; have hnb6 := NB880_879.out; have hnc6 := NB879_880.out; have hcz7_0 : w5.cell? ⟨gb880, 0, none⟩ = some (.int .u64 0) := (blk_cell BK880.out 0).trans rfl; have hcz7_1 : w5.cell? ⟨gb880, 1, none⟩ = some (.int .u64 0) := (blk_cell BK880.out 1).trans rfl; have hfz7_0 := blk_frozen BK880.out 0; have hfz7_1 := blk_frozen BK880.out 1))
    refine bodyPost_ret (results_ctt rfl _ _ gb880 25 #[.int .u64 0, .int .u64 0] (0, 0) _ rfl (by (with_reducible repeat (first | refine blk_drewN ?_ _ | refine blk_drew ?_ | refine blk_alloc ?_ _)); refine blk_put (cs := #[.int .u64 0, .int .u64 0]) ?_ 1 _ rfl; (with_reducible repeat (first | refine blk_drewN ?_ _ | refine blk_drew ?_ | refine blk_alloc ?_ _)); refine blk_put (cs := #[.int .u64 0, .int .u64 0]) ?_ 0 _ rfl; (with_reducible repeat (first | refine blk_drewN ?_ _ | refine blk_drew ?_ | refine blk_alloc ?_ _)); exact BK880.out) Try.underlying25 rfl (by kernel_rfl)) rfl ?_
    exact ⟨by first | rfl | (simp [errW_none, errW_some] <;> rfl) | (simp [*, errW_none, errW_some] <;> rfl), by repeat (first | (with_reducible first | exact HB.out | apply below_alloc | apply pw_below_drewN | apply below_drew1 | refine below_set ?_ GE879.out | refine below_set ?_ GE880.out) | exact HB.out)⟩
  · rw [if_neg c3] at H
    have c3b0 : (a1 == 0) = false := beq_eq_false_iff_ne.mpr c3
    have c3b1 : (a1 != 0) = true := bne_iff_ne.mpr c3
    replace H := Option.bind_eq_some_iff.mp H
    obtain ⟨t881, A80, H⟩ := H
    replace H : (if 8 ≤ 35184372088832 then (paymasterref01_Over.l0 k a1 t881 (List.replicate 8 0) 0 7) else (none)) = some (r1, r2, r3, r4) := H
    have A8 := Aside0.mk A80
    clear A80
    by_cases c9 : 8 ≤ 35184372088832
    · rw [if_pos c9] at H
      have c9b0 := eq_true c9
      have c9b1 : decide (8 ≤ 35184372088832) = true := decide_eq_true c9
      clear c9
      obtain ⟨y884, hy884⟩ : ∃ y_ : List Int, y_ = (List.replicate 8 0) := ⟨_, rfl⟩
      replace H : (paymasterref01_Over.l0 k a1 t881 y884 0 7) = some (r1, r2, r3, r4) := by first | (rw [hy884]; with_reducible exact H) | (have H2_ := (Option.bind_some _ _).symm.trans H; rw [hy884]; with_reducible exact H2_) | (have H2_ := (Option.bind_some _ _).symm.trans H; with_reducible exact H2_) | with_reducible exact H | (rw [hy884]; exact H) | exact H
      have Ny884 := Aside0.mk hy884
      clear hy884
      have H' := Aside0.mk H
      clear H
      go_enter Try.func59, Try.ntmps59
      go_wp2_with (first | ((with_reducible refine gate_dst (N := 2) rfl ?_); refine box_event ?hg (N := 2) ?hd (cs := #[.int .u64 a0_0, .int .u64 a0_1]) (t := 25) ?hr ?_; (case hd => rfl); (case hg => rfl); (case hr => first | (go_simp; done) | (go_simp; rfl)); intro gb879 hg w10 hbox hb; have n0_ := Aside0.mk (below_step (by repeat (first | (with_reducible first | exact HB.out | apply below_alloc | apply pw_below_drewN | apply below_drew1) | exact HB.out)) hb); have n1_ := Aside0.mk (hbox); have n2_ := Aside0.mk ((by rw [hg]; exact (below_size (by repeat (first | (with_reducible first | exact HB.out | apply below_alloc | apply pw_below_drewN | apply below_drew1) | exact HB.out))) : w.heap.size ≤ gb879)); have n3_ := Aside0.mk ((by rw [hg]; exact (below_size (by repeat (first | (with_reducible first | exact HB.out | apply below_alloc | apply pw_below_drewN | apply below_drew1) | exact HB.out))) : w.heap.size ≤ gb879)); clear HB; have HB := n0_; have BK879 := n1_; have GW879 := n2_; have GE879 := n3_; clear n0_ n1_ n2_ n3_; clear hb hbox hg) | ((with_reducible refine gate_dst (N := 4) rfl ?_); refine box_event ?hg (N := 4) ?hd (cs := #[.int .u64 0, .int .u64 0]) (t := 25) ?hr ?_; (case hd => rfl); (case hg => rfl); (case hr => first | (go_simp; done) | (go_simp; rfl)); intro gb880 hg w11 hbox hb; have n0_ := Aside0.mk (blk_below (g := gb879) (o := .cells #[.int .u64 a0_0, .int .u64 a0_1] 25 (0, 0)) (by (with_reducible repeat (first | refine blk_drewN ?_ _ | refine blk_drew ?_ | refine blk_alloc ?_ _)); exact BK879.out) hb); have n1_ := Aside0.mk (below_step (by repeat (first | (with_reducible first | exact HB.out | apply below_alloc | apply pw_below_drewN | apply below_drew1 | refine below_set ?_ GE879.out) | exact HB.out)) hb); have n2_ := Aside0.mk (hbox); have n3_ := Aside0.mk ((by rw [hg]; exact (below_size (by repeat (first | (with_reducible first | exact HB.out | apply below_alloc | apply pw_below_drewN | apply below_drew1 | refine below_set ?_ GE879.out) | exact HB.out))) : w.heap.size ≤ gb880)); have n4_ := Aside0.mk ((by rw [hg]; exact (below_size (by repeat (first | (with_reducible first | exact HB.out | apply below_alloc | apply pw_below_drewN | apply below_drew1 | refine below_set ?_ GE879.out) | exact HB.out))) : w.heap.size ≤ gb880)); have n5_ := Aside0.mk ((by rw [hg]; exact Nat.ne_of_lt (blk_lt (g := gb879) (o := .cells #[.int .u64 a0_0, .int .u64 a0_1] 25 (0, 0)) (by (with_reducible repeat (first | refine blk_drewN ?_ _ | refine blk_drew ?_ | refine blk_alloc ?_ _)); exact BK879.out)) : gb879 ≠ gb880)); have n6_ := Aside0.mk ((by rw [hg]; exact Nat.ne_of_gt (blk_lt (g := gb879) (o := .cells #[.int .u64 a0_0, .int .u64 a0_1] 25 (0, 0)) (by (with_reducible repeat (first | refine blk_drewN ?_ _ | refine blk_drew ?_ | refine blk_alloc ?_ _)); exact BK879.out)) : gb880 ≠ gb879)); clear BK879; clear HB; have BK879 := n0_; have HB := n1_; have BK880 := n2_; have GW880 := n3_; have GE880 := n4_; have NB879_880 := n5_; have NB880_879 := n6_; clear n0_ n1_ n2_ n3_ n4_ n5_ n6_; clear hb hbox hg; have hnb12 := NB879_880.out; have hnc12 := NB880_879.out; have hcz13_0 : w11.cell? ⟨gb879, 0, none⟩ = some (.int .u64 a0_0) := (blk_cell BK879.out 0).trans rfl; have hcz13_1 : w11.cell? ⟨gb879, 1, none⟩ = some (.int .u64 a0_1) := (blk_cell BK879.out 1).trans rfl; have hfz13_0 := blk_frozen BK879.out 0; have hfz13_1 := blk_frozen BK879.out 1) | ((with_reducible refine gate_callee (f := 84) rfl ?_); refine goesL_ (some 19) rfl rfl Try.func84 (by kernel_rfl) rfl #[.agg #[.int .u64 a0_0, .int .u64 a0_1]] rfl (by (try simp only [List.map_toArray, List.map_cons, List.map_nil]); first | done | rfl | (simp only [List.length_drop, List.length_take]; rfl)) ?_; (with_reducible refine (paymasterref01_digits.calls k a0_0 a0_1 t881 _ A8.out).mono ?_); rintro e w14 ⟨v882, rfl, ho0, hb⟩; refine ⟨_, rfl, ?_⟩; have n0_ := Aside0.mk (Kd.R_lower ho0 (below_size (by repeat (first | (with_reducible first | exact HB.out | apply below_alloc | apply pw_below_drewN | apply below_drew1 | refine below_set ?_ GE879.out | refine below_set ?_ GE880.out) | exact HB.out)))); have n1_ := Aside0.mk (blk_below (g := gb879) (o := .cells #[.int .u64 a0_0, .int .u64 a0_1] 25 (0, 0)) (by (with_reducible repeat (first | refine blk_drewN ?_ _ | refine blk_drew ?_ | refine blk_alloc ?_ _)); exact BK879.out) hb); have n2_ := Aside0.mk (blk_below (g := gb880) (o := .cells #[.int .u64 0, .int .u64 0] 25 (0, 0)) (by (with_reducible repeat (first | refine blk_drewN ?_ _ | refine blk_drew ?_ | refine blk_alloc ?_ _)); exact BK880.out) hb); have n3_ := Aside0.mk (below_step (by repeat (first | (with_reducible first | exact HB.out | apply below_alloc | apply pw_below_drewN | apply below_drew1 | refine below_set ?_ GE879.out | refine below_set ?_ GE880.out) | exact HB.out)) hb); clear BK879; clear BK880; clear HB; have HO883 := n0_; have BK879 := n1_; have BK880 := n2_; have HB := n3_; clear n0_ n1_ n2_ n3_; (try clear hb); (try clear hb2); (try clear hk); (try clear hi); (try clear ho0)) | ((with_reducible refine gate_dst (N := 20) rfl ?_); refine Kd.R_make (Kd.int .u64) _ 23 rfl (N := 20) rfl 95 _ _ rfl 8 rfl rfl Try.underlying95 (.int .u64 0) 8 info23 rfl (by decide) (by omega) 0 (ok := fun _ => True) (okp := fun _ => True) rfl (fun _ hk => hk) trivial (by omega) (by omega) (Below.refl _ _) (Nat.le_refl _) ?_; intro v885 w15 ho16 hb hg_ hnew_; clear hg_ hnew_; (first | rw [← Ny884.out] at ho16 | (simp only [Int.reduceToNat] at ho16; rw [← Ny884.out] at ho16)); have n0_ := Aside0.mk (Kd.R_elder' (by (with_reducible repeat (first | apply Kd.R_alloc | apply Kd.R_drewN | apply Kd.R_drew)); exact HO883.out) (Kd.R_base ho16) hb); have n1_ := Aside0.mk (Kd.R_lower (Kd.R_new' ho16 (Kd.R_lt (by (with_reducible repeat (first | apply Kd.R_alloc | apply Kd.R_drewN | apply Kd.R_drew)); exact HO883.out))) (below_size (by repeat (first | (with_reducible first | exact HB.out | apply below_alloc | apply pw_below_drewN | apply below_drew1 | refine below_set ?_ GE879.out | refine below_set ?_ GE880.out) | exact HB.out)))); have n2_ := Aside0.mk (blk_below (g := gb879) (o := .cells #[.int .u64 a0_0, .int .u64 a0_1] 25 (0, 0)) (by (with_reducible repeat (first | refine blk_drewN ?_ _ | refine blk_drew ?_ | refine blk_alloc ?_ _)); exact BK879.out) hb); have n3_ := Aside0.mk (blk_below (g := gb880) (o := .cells #[.int .u64 0, .int .u64 0] 25 (0, 0)) (by (with_reducible repeat (first | refine blk_drewN ?_ _ | refine blk_drew ?_ | refine blk_alloc ?_ _)); exact BK880.out) hb); have n4_ := Aside0.mk (below_step (by repeat (first | (with_reducible first | exact HB.out | apply below_alloc | apply pw_below_drewN | apply below_drew1 | refine below_set ?_ GE879.out | refine below_set ?_ GE880.out) | exact HB.out)) hb); clear HO883; clear BK879; clear BK880; clear HB; have HO883 := n0_; have HO886 := n1_; have BK879 := n2_; have BK880 := n3_; have HB := n4_; clear n0_ n1_ n2_ n3_ n4_; clear hb ho16))
      go_loopg [9, 10] k (fun kq v9 v10 w' => ∃ (x8_1 : List Int) (x9_1 : Int) (x10_1 : Int), v9 = .int .u64 x9_1 ∧ v10 = .int .i64 x10_1 ∧ Aside0 (paymasterref01_Over.l0 kq a1 t881 x8_1 x9_1 x10_1 = some (r1, r2, r3, r4)) ∧ Aside0 (kq ≤ k) ∧ Aside0 (Kd.R (Kd.int .u64) 23 w' w.heap.size (fun k_ => some k_ ≠ (v885 : Value).ownBlock) v882 t881) ∧ Aside0 (Kd.R (Kd.int .u64) 23 w' w.heap.size (fun k_ => some k_ ≠ (v882 : Value).ownBlock) v885 x8_1) ∧ Aside0 (w'.heap[gb879]? = some (.cells #[.int .u64 a0_0, .int .u64 a0_1] 25 (0, 0))) ∧ Aside0 (w'.heap[gb880]? = some (.cells #[.int .u64 0, .int .u64 0] 25 (0, 0))) ∧ Aside0 (Below w.heap.size w w'))
      case atStart => exact ⟨(y884), (0), (7), (by first | rfl | (simp; done) | (simp [*]; done)), (by first | rfl | (simp; done) | (simp [*]; done)), H', ⟨Nat.le_refl _⟩, ⟨by (with_reducible repeat (first | apply Kd.R_alloc | apply Kd.R_drewN | apply Kd.R_drew)); exact Kd.R_mono HO883.out (fun _ hk => hk.2)⟩, ⟨by (with_reducible repeat (first | apply Kd.R_alloc | apply Kd.R_drewN | apply Kd.R_drew)); exact Kd.R_mono HO886.out (fun _ hk => hk.2)⟩, ⟨by (with_reducible repeat (first | refine blk_drewN ?_ _ | refine blk_drew ?_ | refine blk_alloc ?_ _)); exact BK879.out⟩, ⟨by (with_reducible repeat (first | refine blk_drewN ?_ _ | refine blk_drew ?_ | refine blk_alloc ?_ _)); exact BK880.out⟩, ⟨by repeat (first | (with_reducible first | exact HB.out | apply below_alloc | apply pw_below_drewN | apply below_drew1 | refine below_set ?_ GE879.out | refine below_set ?_ GE880.out) | exact HB.out)⟩⟩
      case round =>
        clear H'
        try clear c1
        try clear p2
        try clear c3
        try clear c3b0
        try clear c3b1
        try clear c5
        try clear c6
        try clear c8
        try clear c9
        try clear c9b0
        try clear c9b1
        try clear c12
        try clear hcz13_0
        try clear hcz13_1
        try clear hcz7_0
        try clear hcz7_1
        try clear hfz13_0
        try clear hfz13_1
        try clear hfz7_0
        try clear hfz7_1
        obtain ⟨x8_1, x9_1, x10_1, rfl, rfl, HA, HK1, HO_7, HO_8, BK879, BK880, HB⟩ := hrel
        cases gk with
        | zero => exact absurd HA.out (by simp [paymasterref01_Over.l0])
        | succ k1 =>
          have H := HA.out
          clear HA
          simp only [paymasterref01_Over.l0] at H
          by_cases c17 : x10_1 ≥ 0
          · rw [if_pos c17] at H
            have c17b0 : decide (0 ≤ x10_1) = true := decide_eq_true c17
            clear c17
            have H' := Aside0.mk H
            clear H
            go_wp2
            go_loopg [9, 11] k1 (fun kq v9 v11 w' => ∃ (x8_2 : List Int) (x9_2 : Int) (x11_2 : Int), v9 = .int .u64 x9_2 ∧ v11 = .int .u64 x11_2 ∧ Aside0 (paymasterref01_Over.l1 kq a1 t881 x8_2 x9_2 x10_1 x11_2 = some (r1, r2, r3, r4)) ∧ Aside0 (kq ≤ k1) ∧ Aside0 (Kd.R (Kd.int .u64) 23 w' w.heap.size (fun k_ => some k_ ≠ (v885 : Value).ownBlock) v882 t881) ∧ Aside0 (Kd.R (Kd.int .u64) 23 w' w.heap.size (fun k_ => some k_ ≠ (v882 : Value).ownBlock) v885 x8_2) ∧ Aside0 (w'.heap[gb879]? = some (.cells #[.int .u64 a0_0, .int .u64 a0_1] 25 (0, 0))) ∧ Aside0 (w'.heap[gb880]? = some (.cells #[.int .u64 0, .int .u64 0] 25 (0, 0))) ∧ Aside0 (Below w.heap.size w w'))
            case atStart => exact ⟨(x8_1), (x9_1), (32768), (by first | rfl | (simp; done) | (simp [*]; done)), (by first | rfl | (simp; done) | (simp [*]; done)), H', ⟨Nat.le_refl _⟩, ⟨by (with_reducible repeat (first | apply Kd.R_alloc | apply Kd.R_drewN | apply Kd.R_drew)); exact HO_7.out⟩, ⟨by (with_reducible repeat (first | apply Kd.R_alloc | apply Kd.R_drewN | apply Kd.R_drew)); exact HO_8.out⟩, ⟨by (with_reducible repeat (first | refine blk_drewN ?_ _ | refine blk_drew ?_ | refine blk_alloc ?_ _)); exact BK879.out⟩, ⟨by (with_reducible repeat (first | refine blk_drewN ?_ _ | refine blk_drew ?_ | refine blk_alloc ?_ _)); exact BK880.out⟩, ⟨by repeat (first | (with_reducible first | exact HB.out | apply below_alloc | apply pw_below_drewN | apply below_drew1 | refine below_set ?_ GE879.out | refine below_set ?_ GE880.out) | exact HB.out)⟩⟩
            case round =>
              clear H'
              try clear c1
              try clear p2
              try clear c3
              try clear c3b0
              try clear c3b1
              try clear c5
              try clear c6
              try clear c8
              try clear c9
              try clear c9b0
              try clear c9b1
              try clear c12
              try clear c17
              try clear c17b0
              try clear hcz13_0
              try clear hcz13_1
              try clear hcz7_0
              try clear hcz7_1
              try clear hfz13_0
              try clear hfz13_1
              try clear hfz7_0
              try clear hfz7_1
              try clear p2
              obtain ⟨x8_2, x9_2, x11_2, rfl, rfl, HA, HK2, HO_7, HO_8, BK879, BK880, HB⟩ := hrel
              cases gk with
              | zero => exact absurd HA.out (by simp [paymasterref01_Over.l1])
              | succ k2 =>
                have H := HA.out
                clear HA
                simp only [paymasterref01_Over.l1] at H
                by_cases c18 : x11_2 > 0
                · rw [if_pos c18] at H
                  have c18b0 : decide (0 < x11_2) = true := decide_eq_true c18
                  clear c18
                  by_cases c19 : 0 ≤ x10_1
                  · rw [if_pos c19] at H
                    have c19b0 : decide (0 ≤ x10_1) = true := decide_eq_true c19
                    clear c19
                    by_cases c20 : x10_1 < (t881.length : Int)
                    · rw [if_pos c20] at H
                      have c20b0 : decide (x10_1 < (t881.length : Int)) = true := decide_eq_true c20
                      clear c20
                      by_cases c21 : x11_2 = 0
                      · rw [if_pos c21] at H
                        exact absurd H (by simp)
                      · rw [if_neg c21] at H
                        have c21b0 : (x11_2 == 0) = false := beq_eq_false_iff_ne.mpr c21
                        have c21b1 : (x11_2 != 0) = true := bne_iff_ne.mpr c21
                        by_cases c22 : x9_2 ≥ (IntKind.u64.wrap (a1 - x9_2))
                        · rw [if_pos c22] at H
                          have c22b0 : decide ((IntKind.u64.wrap (a1 - x9_2)) ≤ x9_2) = true := decide_eq_true c22
                          clear c22
                          by_cases c23 : x10_1 < (x8_2.length : Int)
                          · rw [if_pos c23] at H
                            have c23b0 : decide (x10_1 < (x8_2.length : Int)) = true := decide_eq_true c23
                            clear c23
                            obtain ⟨y893, hy893⟩ : ∃ y_ : List Int, y_ = (x8_2.set (x10_1 : Int).toNat (IntKind.u64.wrap ((rd x8_2 x10_1) + x11_2))) := ⟨_, rfl⟩
                            replace H : (paymasterref01_Over.l1 k2 a1 t881 y893 (IntKind.u64.wrap ((IntKind.u64.wrap (x9_2 - (IntKind.u64.wrap (a1 - x9_2)))) + (Int.tmod (IntKind.u64.wrap (Int.tdiv (rd t881 x10_1) x11_2)) 2))) x10_1 (IntKind.u64.wrap (Int.tdiv x11_2 2))) = some (r1, r2, r3, r4) := by first | (rw [hy893]; with_reducible exact H) | (have H2_ := (Option.bind_some _ _).symm.trans H; rw [hy893]; with_reducible exact H2_) | (have H2_ := (Option.bind_some _ _).symm.trans H; with_reducible exact H2_) | with_reducible exact H | (rw [hy893]; exact H) | exact H
                            have Ny893 := Aside0.mk hy893
                            clear hy893
                            have H' := Aside0.mk H
                            clear H
                            obtain ⟨Ao25, co25, eo25⟩ := Kd.R_slice HO_7.out
                            subst eo25
                            have p891 : 0 ≤ (x10_1 : Int) := of_decide_eq_true (by first | (with_reducible assumption) | assumption)
                            have q891 : x10_1 < (t881.length : Int) := of_decide_eq_true (by first | (with_reducible assumption) | assumption)
                            obtain ⟨ad891, e891, hx891_0⟩ := Kd.at_int (Kd.R_reads' HO_7.out).2.2 x10_1 p891 q891
                            cases e891
                            replace p891 := eq_true p891
                            replace q891 := eq_true q891
                            obtain ⟨Ao26, co26, eo26⟩ := Kd.R_slice HO_8.out
                            subst eo26
                            have p892 : 0 ≤ (x10_1 : Int) := of_decide_eq_true (by first | (with_reducible assumption) | assumption)
                            have q892 : x10_1 < (x8_2.length : Int) := of_decide_eq_true (by first | (with_reducible assumption) | assumption)
                            obtain ⟨ad892, e892, hx892_0⟩ := Kd.at_int (Kd.R_reads' HO_8.out).2.2 x10_1 p892 q892
                            cases e892
                            replace p892 := eq_true p892
                            replace q892 := eq_true q892
                            have p24 : 0 ≤ (x10_1 : Int) := of_decide_eq_true (by first | (with_reducible assumption) | assumption)
                            have q24 : (x10_1 : Int) < ((x8_2.length : Int) : Int) := of_decide_eq_true (by first | (with_reducible assumption) | assumption)
                            obtain ⟨go24, co24, eo24, gb24, gl24, cl24, HG24⟩ := Kd.R_form HO_8.out (by omega)
                            (first | cases eo24 | (injection eo24 with ea_ en_ ec_; (first | subst ea_ | (injection ea_ with ea_; subst ea_)); subst ec_; clear en_))
                            have GB24 := Aside0.mk gb24
                            have GG24 := Aside0.mk HG24
                            clear gb24 gl24 HG24
                            (first | simp only [add_plain] at hx892_0 | skip)
                            obtain ⟨hx24_0, hf24_0⟩ := Kd.R_celln 0 HO_8.out (x10_1 : Int) p24 q24
                            replace p24 := eq_true p24
                            replace q24 := eq_true q24
                            have HP27 := Kd.R_putg HO_8.out (x10_1 : Int) (IntKind.u64.wrap ((rd x8_2 x10_1) + x11_2))
                            go_wp2_with (first | ((with_reducible refine gate_store (t := 23) (p := 68) rfl ?_); refine store_event (t := 23) (p := 68) (v := ?vo_w28) (w1 := (wr.setCell ⟨go24, (x10_1 : Int).toNat, none⟩ (.int .u64 (IntKind.u64.wrap ((rd x8_2 x10_1) + x11_2))))) ?hg ?ho ?hn ?hr ?_; (case ho => rfl); (case hg => rfl); (case hn => rfl); (case hr => first | (go_simp; done) | (go_simp; rfl)); intro w28 hw; have hg : wr.grownBy w28 (some go24) := (by rw [hw]; exact HP27.2); have hp_ : Kd.R (Kd.int .u64) 23 w28 w.heap.size (fun k_ => some k_ ≠ (.slice (some ad891) t881.length co25 : Value).ownBlock) (.slice (some ⟨go24, 0, none⟩) x8_2.length co26) y893 := (by rw [hw, Ny893.out]; exact HP27.1); clear HP27; have n0_ := Aside0.mk (Kd.R_after (v := (.slice (some ⟨go24, 0, none⟩) x8_2.length co26)) (v1 := (.slice (some ⟨go24, 0, none⟩) x8_2.length co26)) (ok := (fun _ => True)) (by (with_reducible repeat (first | apply Kd.R_alloc | apply Kd.R_drewN | apply Kd.R_drew)); exact Kd.R_mono HO_7.out (fun _ hk => ⟨trivial, hk⟩)) hg (.inl rfl)); have n1_ := Aside0.mk (hp_); have n2_ := Aside0.mk (blk_grown (g := gb879) (o := .cells #[.int .u64 a0_0, .int .u64 a0_1] 25 (0, 0)) (by (with_reducible repeat (first | refine blk_drewN ?_ _ | refine blk_drew ?_ | refine blk_alloc ?_ _)); exact BK879.out) hg (Kd.R_ne HO_8.out BK879.out (by decide))); have n3_ := Aside0.mk (blk_grown (g := gb880) (o := .cells #[.int .u64 0, .int .u64 0] 25 (0, 0)) (by (with_reducible repeat (first | refine blk_drewN ?_ _ | refine blk_drew ?_ | refine blk_alloc ?_ _)); exact BK880.out) hg (Kd.R_ne HO_8.out BK880.out (by decide))); have n4_ := Aside0.mk ((by rw [hw]; exact below_set (HB.out) GB24.out : Below w.heap.size w w28)); clear HO_7; clear HO_8; clear BK879; clear BK880; clear HB; have HO_7 := n0_; have HO_8 := n1_; have BK879 := n2_; have BK880 := n3_; have HB := n4_; clear n0_ n1_ n2_ n3_ n4_; clear hg hw hp_))
                            go_roundg k2
                            case measure => have := HK1.out; have := HK2.out; omega
                            case rel => exact ⟨(y893), (IntKind.u64.wrap ((IntKind.u64.wrap (x9_2 - (IntKind.u64.wrap (a1 - x9_2)))) + (Int.tmod (IntKind.u64.wrap (Int.tdiv (rd t881 x10_1) x11_2)) 2))), (IntKind.u64.wrap (Int.tdiv x11_2 2)), (by first | rfl | (simp; done) | (simp [*]; done)), (by first | rfl | (simp; done) | (simp [*]; done)), H', ⟨by have := HK1.out; have := HK2.out; omega⟩, ⟨by (with_reducible repeat (first | apply Kd.R_alloc | apply Kd.R_drewN | apply Kd.R_drew)); exact Kd.R_mono HO_7.out (fun _ hk => hk.2)⟩, ⟨by (with_reducible repeat (first | apply Kd.R_alloc | apply Kd.R_drewN | apply Kd.R_drew)); exact HO_8.out⟩, ⟨by (with_reducible repeat (first | refine blk_drewN ?_ _ | refine blk_drew ?_ | refine blk_alloc ?_ _)); exact BK879.out⟩, ⟨by (with_reducible repeat (first | refine blk_drewN ?_ _ | refine blk_drew ?_ | refine blk_alloc ?_ _)); exact BK880.out⟩, ⟨by repeat (first | (with_reducible first | exact HB.out | apply below_alloc | apply pw_below_drewN | apply below_drew1 | refine below_set ?_ GE879.out | refine below_set ?_ GE880.out) | exact HB.out)⟩⟩
                          · rw [if_neg c23] at H
                            exact absurd H (by simp)
                        · rw [if_neg c22] at H
                          have c22b0 : decide ((IntKind.u64.wrap (a1 - x9_2)) ≤ x9_2) = false := decide_eq_false c22
                          clear c22
                          by_cases c29 : (IntKind.u64.wrap (x9_2 + 1)) ≥ (IntKind.u64.wrap (a1 - x9_2))
                          · rw [if_pos c29] at H
                            have c29b0 : decide ((IntKind.u64.wrap (a1 - x9_2)) ≤ (IntKind.u64.wrap (x9_2 + 1))) = true := decide_eq_true c29
                            clear c29
                            by_cases c30 : (Int.tmod (IntKind.u64.wrap (Int.tdiv (rd t881 x10_1) x11_2)) 2) = 1
                            · rw [if_pos c30] at H
                              have c30b0 : ((Int.tmod (IntKind.u64.wrap (Int.tdiv (rd t881 x10_1) x11_2)) 2) == 1) = true := beq_iff_eq.mpr c30
                              have c30b1 : ((Int.tmod (IntKind.u64.wrap (Int.tdiv (rd t881 x10_1) x11_2)) 2) != 1) = false := bne_eq_false_iff_eq.mpr c30
                              clear c30
                              by_cases c31 : x10_1 < (x8_2.length : Int)
                              · rw [if_pos c31] at H
                                have c31b0 : decide (x10_1 < (x8_2.length : Int)) = true := decide_eq_true c31
                                clear c31
                                obtain ⟨y895, hy895⟩ : ∃ y_ : List Int, y_ = (x8_2.set (x10_1 : Int).toNat (IntKind.u64.wrap ((rd x8_2 x10_1) + x11_2))) := ⟨_, rfl⟩
                                replace H : (paymasterref01_Over.l1 k2 a1 t881 y895 (IntKind.u64.wrap ((IntKind.u64.wrap (x9_2 - (IntKind.u64.wrap (a1 - x9_2)))) + (Int.tmod (IntKind.u64.wrap (Int.tdiv (rd t881 x10_1) x11_2)) 2))) x10_1 (IntKind.u64.wrap (Int.tdiv x11_2 2))) = some (r1, r2, r3, r4) := by first | (rw [hy895]; with_reducible exact H) | (have H2_ := (Option.bind_some _ _).symm.trans H; rw [hy895]; with_reducible exact H2_) | (have H2_ := (Option.bind_some _ _).symm.trans H; with_reducible exact H2_) | with_reducible exact H | (rw [hy895]; exact H) | exact H
                                have Ny895 := Aside0.mk hy895
                                clear hy895
                                have H' := Aside0.mk H
                                clear H
                                obtain ⟨Ao33, co33, eo33⟩ := Kd.R_slice HO_7.out
                                subst eo33
                                have p891 : 0 ≤ (x10_1 : Int) := of_decide_eq_true (by first | (with_reducible assumption) | assumption)
                                have q891 : x10_1 < (t881.length : Int) := of_decide_eq_true (by first | (with_reducible assumption) | assumption)
                                obtain ⟨ad891, e891, hx891_0⟩ := Kd.at_int (Kd.R_reads' HO_7.out).2.2 x10_1 p891 q891
                                cases e891
                                replace p891 := eq_true p891
                                replace q891 := eq_true q891
                                obtain ⟨Ao34, co34, eo34⟩ := Kd.R_slice HO_8.out
                                subst eo34
                                have p894 : 0 ≤ (x10_1 : Int) := of_decide_eq_true (by first | (with_reducible assumption) | assumption)
                                have q894 : x10_1 < (x8_2.length : Int) := of_decide_eq_true (by first | (with_reducible assumption) | assumption)
                                obtain ⟨ad894, e894, hx894_0⟩ := Kd.at_int (Kd.R_reads' HO_8.out).2.2 x10_1 p894 q894
                                cases e894
                                replace p894 := eq_true p894
                                replace q894 := eq_true q894
                                have p32 : 0 ≤ (x10_1 : Int) := of_decide_eq_true (by first | (with_reducible assumption) | assumption)
                                have q32 : (x10_1 : Int) < ((x8_2.length : Int) : Int) := of_decide_eq_true (by first | (with_reducible assumption) | assumption)
                                obtain ⟨go32, co32, eo32, gb32, gl32, cl32, HG32⟩ := Kd.R_form HO_8.out (by omega)
                                (first | cases eo32 | (injection eo32 with ea_ en_ ec_; (first | subst ea_ | (injection ea_ with ea_; subst ea_)); subst ec_; clear en_))
                                have GB32 := Aside0.mk gb32
                                have GG32 := Aside0.mk HG32
                                clear gb32 gl32 HG32
                                (first | simp only [add_plain] at hx894_0 | skip)
                                obtain ⟨hx32_0, hf32_0⟩ := Kd.R_celln 0 HO_8.out (x10_1 : Int) p32 q32
                                replace p32 := eq_true p32
                                replace q32 := eq_true q32
                                have HP35 := Kd.R_putg HO_8.out (x10_1 : Int) (IntKind.u64.wrap ((rd x8_2 x10_1) + x11_2))
                                go_wp2_with (first | ((with_reducible refine gate_store (t := 23) (p := 68) rfl ?_); refine store_event (t := 23) (p := 68) (v := ?vo_w36) (w1 := (wr.setCell ⟨go32, (x10_1 : Int).toNat, none⟩ (.int .u64 (IntKind.u64.wrap ((rd x8_2 x10_1) + x11_2))))) ?hg ?ho ?hn ?hr ?_; (case ho => rfl); (case hg => rfl); (case hn => rfl); (case hr => first | (go_simp; done) | (go_simp; rfl)); intro w36 hw; have hg : wr.grownBy w36 (some go32) := (by rw [hw]; exact HP35.2); have hp_ : Kd.R (Kd.int .u64) 23 w36 w.heap.size (fun k_ => some k_ ≠ (.slice (some ad891) t881.length co33 : Value).ownBlock) (.slice (some ⟨go32, 0, none⟩) x8_2.length co34) y895 := (by rw [hw, Ny895.out]; exact HP35.1); clear HP35; have n0_ := Aside0.mk (Kd.R_after (v := (.slice (some ⟨go32, 0, none⟩) x8_2.length co34)) (v1 := (.slice (some ⟨go32, 0, none⟩) x8_2.length co34)) (ok := (fun _ => True)) (by (with_reducible repeat (first | apply Kd.R_alloc | apply Kd.R_drewN | apply Kd.R_drew)); exact Kd.R_mono HO_7.out (fun _ hk => ⟨trivial, hk⟩)) hg (.inl rfl)); have n1_ := Aside0.mk (hp_); have n2_ := Aside0.mk (blk_grown (g := gb879) (o := .cells #[.int .u64 a0_0, .int .u64 a0_1] 25 (0, 0)) (by (with_reducible repeat (first | refine blk_drewN ?_ _ | refine blk_drew ?_ | refine blk_alloc ?_ _)); exact BK879.out) hg (Kd.R_ne HO_8.out BK879.out (by decide))); have n3_ := Aside0.mk (blk_grown (g := gb880) (o := .cells #[.int .u64 0, .int .u64 0] 25 (0, 0)) (by (with_reducible repeat (first | refine blk_drewN ?_ _ | refine blk_drew ?_ | refine blk_alloc ?_ _)); exact BK880.out) hg (Kd.R_ne HO_8.out BK880.out (by decide))); have n4_ := Aside0.mk ((by rw [hw]; exact below_set (HB.out) GB32.out : Below w.heap.size w w36)); clear HO_7; clear HO_8; clear BK879; clear BK880; clear HB; have HO_7 := n0_; have HO_8 := n1_; have BK879 := n2_; have BK880 := n3_; have HB := n4_; clear n0_ n1_ n2_ n3_ n4_; clear hg hw hp_))
                                go_roundg k2
                                case measure => have := HK1.out; have := HK2.out; omega
                                case rel => exact ⟨(y895), (IntKind.u64.wrap ((IntKind.u64.wrap (x9_2 - (IntKind.u64.wrap (a1 - x9_2)))) + (Int.tmod (IntKind.u64.wrap (Int.tdiv (rd t881 x10_1) x11_2)) 2))), (IntKind.u64.wrap (Int.tdiv x11_2 2)), (by first | rfl | (simp; done) | (simp [*]; done)), (by first | rfl | (simp; done) | (simp [*]; done)), H', ⟨by have := HK1.out; have := HK2.out; omega⟩, ⟨by (with_reducible repeat (first | apply Kd.R_alloc | apply Kd.R_drewN | apply Kd.R_drew)); exact Kd.R_mono HO_7.out (fun _ hk => hk.2)⟩, ⟨by (with_reducible repeat (first | apply Kd.R_alloc | apply Kd.R_drewN | apply Kd.R_drew)); exact HO_8.out⟩, ⟨by (with_reducible repeat (first | refine blk_drewN ?_ _ | refine blk_drew ?_ | refine blk_alloc ?_ _)); exact BK879.out⟩, ⟨by (with_reducible repeat (first | refine blk_drewN ?_ _ | refine blk_drew ?_ | refine blk_alloc ?_ _)); exact BK880.out⟩, ⟨by repeat (first | (with_reducible first | exact HB.out | apply below_alloc | apply pw_below_drewN | apply below_drew1 | refine below_set ?_ GE879.out | refine below_set ?_ GE880.out) | exact HB.out)⟩⟩
                              · rw [if_neg c31] at H
                                exact absurd H (by simp)
                            · rw [if_neg c30] at H
                              have c30b0 : ((Int.tmod (IntKind.u64.wrap (Int.tdiv (rd t881 x10_1) x11_2)) 2) == 1) = false := beq_eq_false_iff_ne.mpr c30
                              have c30b1 : ((Int.tmod (IntKind.u64.wrap (Int.tdiv (rd t881 x10_1) x11_2)) 2) != 1) = true := bne_iff_ne.mpr c30
                              have H' := Aside0.mk H
                              clear H
                              obtain ⟨Ao37, co37, eo37⟩ := Kd.R_slice HO_7.out
                              subst eo37
                              have p891 : 0 ≤ (x10_1 : Int) := of_decide_eq_true (by first | (with_reducible assumption) | assumption)
                              have q891 : x10_1 < (t881.length : Int) := of_decide_eq_true (by first | (with_reducible assumption) | assumption)
                              obtain ⟨ad891, e891, hx891_0⟩ := Kd.at_int (Kd.R_reads' HO_7.out).2.2 x10_1 p891 q891
                              cases e891
                              replace p891 := eq_true p891
                              replace q891 := eq_true q891
                              go_wp2
                              go_roundg k2
                              case measure => have := HK1.out; have := HK2.out; omega
                              case rel => exact ⟨(x8_2), (IntKind.u64.wrap ((IntKind.u64.wrap (2 * x9_2)) + (Int.tmod (IntKind.u64.wrap (Int.tdiv (rd t881 x10_1) x11_2)) 2))), (IntKind.u64.wrap (Int.tdiv x11_2 2)), (by first | rfl | (simp; done) | (simp [*]; done)), (by first | rfl | (simp; done) | (simp [*]; done)), H', ⟨by have := HK1.out; have := HK2.out; omega⟩, ⟨by (with_reducible repeat (first | apply Kd.R_alloc | apply Kd.R_drewN | apply Kd.R_drew)); exact HO_7.out⟩, ⟨by (with_reducible repeat (first | apply Kd.R_alloc | apply Kd.R_drewN | apply Kd.R_drew)); exact HO_8.out⟩, ⟨by (with_reducible repeat (first | refine blk_drewN ?_ _ | refine blk_drew ?_ | refine blk_alloc ?_ _)); exact BK879.out⟩, ⟨by (with_reducible repeat (first | refine blk_drewN ?_ _ | refine blk_drew ?_ | refine blk_alloc ?_ _)); exact BK880.out⟩, ⟨by repeat (first | (with_reducible first | exact HB.out | apply below_alloc | apply pw_below_drewN | apply below_drew1 | refine below_set ?_ GE879.out | refine below_set ?_ GE880.out) | exact HB.out)⟩⟩
                          · rw [if_neg c29] at H
                            have c29b0 : decide ((IntKind.u64.wrap (a1 - x9_2)) ≤ (IntKind.u64.wrap (x9_2 + 1))) = false := decide_eq_false c29
                            clear c29
                            have H' := Aside0.mk H
                            clear H
                            obtain ⟨Ao38, co38, eo38⟩ := Kd.R_slice HO_7.out
                            subst eo38
                            have p891 : 0 ≤ (x10_1 : Int) := of_decide_eq_true (by first | (with_reducible assumption) | assumption)
                            have q891 : x10_1 < (t881.length : Int) := of_decide_eq_true (by first | (with_reducible assumption) | assumption)
                            obtain ⟨ad891, e891, hx891_0⟩ := Kd.at_int (Kd.R_reads' HO_7.out).2.2 x10_1 p891 q891
                            cases e891
                            replace p891 := eq_true p891
                            replace q891 := eq_true q891
                            go_wp2
                            go_roundg k2
                            case measure => have := HK1.out; have := HK2.out; omega
                            case rel => exact ⟨(x8_2), (IntKind.u64.wrap ((IntKind.u64.wrap (2 * x9_2)) + (Int.tmod (IntKind.u64.wrap (Int.tdiv (rd t881 x10_1) x11_2)) 2))), (IntKind.u64.wrap (Int.tdiv x11_2 2)), (by first | rfl | (simp; done) | (simp [*]; done)), (by first | rfl | (simp; done) | (simp [*]; done)), H', ⟨by have := HK1.out; have := HK2.out; omega⟩, ⟨by (with_reducible repeat (first | apply Kd.R_alloc | apply Kd.R_drewN | apply Kd.R_drew)); exact HO_7.out⟩, ⟨by (with_reducible repeat (first | apply Kd.R_alloc | apply Kd.R_drewN | apply Kd.R_drew)); exact HO_8.out⟩, ⟨by (with_reducible repeat (first | refine blk_drewN ?_ _ | refine blk_drew ?_ | refine blk_alloc ?_ _)); exact BK879.out⟩, ⟨by (with_reducible repeat (first | refine blk_drewN ?_ _ | refine blk_drew ?_ | refine blk_alloc ?_ _)); exact BK880.out⟩, ⟨by repeat (first | (with_reducible first | exact HB.out | apply below_alloc | apply pw_below_drewN | apply below_drew1 | refine below_set ?_ GE879.out | refine below_set ?_ GE880.out) | exact HB.out)⟩⟩
                    · rw [if_neg c20] at H
                      exact absurd H (by simp)
                  · rw [if_neg c19] at H
                    exact absurd H (by simp)
                · rw [if_neg c18] at H
                  have c18b0 : decide (0 < x11_2) = false := decide_eq_false c18
                  clear c18
                  have H' := Aside0.mk H
                  clear H
                  go_wp2
                  go_roundg k2
                  case measure => have := HK1.out; have := HK2.out; omega
                  case rel => exact ⟨(x8_2), (x9_2), (wrap64 (x10_1 - 1)), (by first | rfl | (simp; done) | (simp [*]; done)), (by first | rfl | (simp; done) | (simp [*]; done)), H', ⟨by have := HK1.out; have := HK2.out; omega⟩, ⟨by (with_reducible repeat (first | apply Kd.R_alloc | apply Kd.R_drewN | apply Kd.R_drew)); exact HO_7.out⟩, ⟨by (with_reducible repeat (first | apply Kd.R_alloc | apply Kd.R_drewN | apply Kd.R_drew)); exact HO_8.out⟩, ⟨by (with_reducible repeat (first | refine blk_drewN ?_ _ | refine blk_drew ?_ | refine blk_alloc ?_ _)); exact BK879.out⟩, ⟨by (with_reducible repeat (first | refine blk_drewN ?_ _ | refine blk_drew ?_ | refine blk_alloc ?_ _)); exact BK880.out⟩, ⟨by repeat (first | (with_reducible first | exact HB.out | apply below_alloc | apply pw_below_drewN | apply below_drew1 | refine below_set ?_ GE879.out | refine below_set ?_ GE880.out) | exact HB.out)⟩⟩
          · rw [if_neg c17] at H
            have c17b0 : decide (0 ≤ x10_1) = false := decide_eq_false c17
            clear c17
            replace H := Option.bind_eq_some_iff.mp H
            obtain ⟨⟨t887, t888, t889⟩, A390, H⟩ := H
            replace H : (some (t887, t888, x9_1, 0)) = some (r1, r2, r3, r4) := H
            have A39 := Aside0.mk A390
            clear A390
            simp only [Option.some.injEq, Prod.mk.injEq] at H
            obtain ⟨rfl, rfl, rfl, rfl⟩ := H
            obtain ⟨Ao40, co40, eo40⟩ := Kd.R_slice HO_8.out
            subst eo40
            go_wp2_with (first | ((with_reducible refine gate_callee (f := 83) rfl ?_); refine goesL_ (some 75) rfl rfl Try.func83 (by kernel_rfl) rfl #[.slice Ao40 x8_1.length co40] rfl (by (try simp only [List.map_toArray, List.map_cons, List.map_nil]); first | done | rfl | (simp only [List.length_drop, List.length_take]; rfl)) ?_; (with_reducible refine (paymasterref01_number.calls k1 _ _ x8_1 t887 t888 t889 _ ?side1 ?side2 A39.out).mono ?_); (case side1 => repeat (first | exact (Kd.R_reads' HO_8.out).2.2 | (with_reducible refine Kd.C_alloc ?_ _) | (with_reducible refine Kd.C_drewN ?_ _) | (with_reducible refine Kd.C_drew ?_))); (case side2 => exact (Kd.R_reads' HO_8.out).2.1); rintro e w41 ⟨rfl, hb⟩; refine ⟨_, rfl, ?_⟩; have n0_ := Aside0.mk (Kd.R_below (by (with_reducible repeat (first | apply Kd.R_alloc | apply Kd.R_drewN | apply Kd.R_drew)); exact HO_7.out) hb); have n1_ := Aside0.mk (Kd.R_below (by (with_reducible repeat (first | apply Kd.R_alloc | apply Kd.R_drewN | apply Kd.R_drew)); exact HO_8.out) hb); have n2_ := Aside0.mk (blk_below (g := gb879) (o := .cells #[.int .u64 a0_0, .int .u64 a0_1] 25 (0, 0)) (by (with_reducible repeat (first | refine blk_drewN ?_ _ | refine blk_drew ?_ | refine blk_alloc ?_ _)); exact BK879.out) hb); have n3_ := Aside0.mk (blk_below (g := gb880) (o := .cells #[.int .u64 0, .int .u64 0] 25 (0, 0)) (by (with_reducible repeat (first | refine blk_drewN ?_ _ | refine blk_drew ?_ | refine blk_alloc ?_ _)); exact BK880.out) hb); have n4_ := Aside0.mk (below_step (by repeat (first | (with_reducible first | exact HB.out | apply below_alloc | apply pw_below_drewN | apply below_drew1 | refine below_set ?_ GE879.out | refine below_set ?_ GE880.out) | exact HB.out)) hb); clear HO_7; clear HO_8; clear BK879; clear BK880; clear HB; have HO_7 := n0_; have HO_8 := n1_; have BK879 := n2_; have BK880 := n3_; have HB := n4_; clear n0_ n1_ n2_ n3_ n4_; (try clear hb); (try clear hb2); (try clear hk); (try clear hi)) | ((with_reducible refine gate_dst (N := 13) rfl ?_); refine box_event ?hg (N := 13) ?hd (cs := #[.int .u64 0, .int .u64 0]) (t := 25) ?hr ?_; (case hd => rfl); (case hg => rfl); (case hr => first | (go_simp; done) | (go_simp; rfl)); intro gb890 hg w42 hbox hb; have n0_ := Aside0.mk (Kd.R_below (by (with_reducible repeat (first | apply Kd.R_alloc | apply Kd.R_drewN | apply Kd.R_drew)); exact HO_7.out) hb); have n1_ := Aside0.mk (Kd.R_below (by (with_reducible repeat (first | apply Kd.R_alloc | apply Kd.R_drewN | apply Kd.R_drew)); exact HO_8.out) hb); have n2_ := Aside0.mk (blk_below (g := gb879) (o := .cells #[.int .u64 a0_0, .int .u64 a0_1] 25 (0, 0)) (by (with_reducible repeat (first | refine blk_drewN ?_ _ | refine blk_drew ?_ | refine blk_alloc ?_ _)); exact BK879.out) hb); have n3_ := Aside0.mk (blk_below (g := gb880) (o := .cells #[.int .u64 0, .int .u64 0] 25 (0, 0)) (by (with_reducible repeat (first | refine blk_drewN ?_ _ | refine blk_drew ?_ | refine blk_alloc ?_ _)); exact BK880.out) hb); have n4_ := Aside0.mk (below_step (by repeat (first | (with_reducible first | exact HB.out | apply below_alloc | apply pw_below_drewN | apply below_drew1 | refine below_set ?_ GE879.out | refine below_set ?_ GE880.out) | exact HB.out)) hb); have n5_ := Aside0.mk (hbox); have n6_ := Aside0.mk ((by rw [hg]; exact (below_size (by repeat (first | (with_reducible first | exact HB.out | apply below_alloc | apply pw_below_drewN | apply below_drew1 | refine below_set ?_ GE879.out | refine below_set ?_ GE880.out) | exact HB.out))) : w.heap.size ≤ gb890)); have n7_ := Aside0.mk ((by rw [hg]; exact (below_size (by repeat (first | (with_reducible first | exact HB.out | apply below_alloc | apply pw_below_drewN | apply below_drew1 | refine below_set ?_ GE879.out | refine below_set ?_ GE880.out) | exact HB.out))) : w.heap.size ≤ gb890)); have n8_ := Aside0.mk ((by rw [hg]; exact Nat.ne_of_lt (blk_lt (g := gb879) (o := .cells #[.int .u64 a0_0, .int .u64 a0_1] 25 (0, 0)) (by (with_reducible repeat (first | refine blk_drewN ?_ _ | refine blk_drew ?_ | refine blk_alloc ?_ _)); exact BK879.out)) : gb879 ≠ gb890)); have n9_ := Aside0.mk ((by rw [hg]; exact Nat.ne_of_gt (blk_lt (g := gb879) (o := .cells #[.int .u64 a0_0, .int .u64 a0_1] 25 (0, 0)) (by (with_reducible repeat (first | refine blk_drewN ?_ _ | refine blk_drew ?_ | refine blk_alloc ?_ _)); exact BK879.out)) : gb890 ≠ gb879)); have n10_ := Aside0.mk ((by rw [hg]; exact Nat.ne_of_lt (blk_lt (g := gb880) (o := .cells #[.int .u64 0, .int .u64 0] 25 (0, 0)) (by (with_reducible repeat (first | refine blk_drewN ?_ _ | refine blk_drew ?_ | refine blk_alloc ?_ _)); exact BK880.out)) : gb880 ≠ gb890)); have n11_ := Aside0.mk ((by rw [hg]; exact Nat.ne_of_gt (blk_lt (g := gb880) (o := .cells #[.int .u64 0, .int .u64 0] 25 (0, 0)) (by (with_reducible repeat (first | refine blk_drewN ?_ _ | refine blk_drew ?_ | refine blk_alloc ?_ _)); exact BK880.out)) : gb890 ≠ gb880)); clear HO_7; clear HO_8; clear BK879; clear BK880; clear HB; have HO_7 := n0_; have HO_8 := n1_; have BK879 := n2_; have BK880 := n3_; have HB := n4_; have BK890 := n5_; have GW890 := n6_; have GE890 := n7_; have NB879_890 := n8_; have NB890_879 := n9_; have NB880_890 := n10_; have NB890_880 := n11_; clear n0_ n1_ n2_ n3_ n4_ n5_ n6_ n7_ n8_ n9_ n10_ n11_; clear hb hbox hg; have hnb43 := NB890_879.out; have hnc43 := NB879_890.out; have hnb44 := NB890_880.out; have hnc44 := NB880_890.out; have hcz45_0 : w42.cell? ⟨gb890, 0, none⟩ = some (.int .u64 0) := (blk_cell BK890.out 0).trans rfl; have hcz45_1 : w42.cell? ⟨gb890, 1, none⟩ = some (.int .u64 0) := (blk_cell BK890.out 1).trans rfl; have hfz45_0 := blk_frozen BK890.out 0; have hfz45_1 := blk_frozen BK890.out 1; have hnb46 := NB880_879.out; have hnc46 := NB879_880.out; have hcz47_0 : w42.cell? ⟨gb880, 0, none⟩ = some (.int .u64 0) := (blk_cell BK880.out 0).trans rfl; have hcz47_1 : w42.cell? ⟨gb880, 1, none⟩ = some (.int .u64 0) := (blk_cell BK880.out 1).trans rfl; have hfz47_0 := blk_frozen BK880.out 0; have hfz47_1 := blk_frozen BK880.out 1))
            refine bodyPost_ret (results_ctt rfl _ _ gb880 25 #[.int .u64 t887, .int .u64 t888] (0, 0) _ rfl (by (with_reducible repeat (first | refine blk_drewN ?_ _ | refine blk_drew ?_ | refine blk_alloc ?_ _)); refine blk_put (cs := #[.int .u64 t887, .int .u64 0]) ?_ 1 _ rfl; (with_reducible repeat (first | refine blk_drewN ?_ _ | refine blk_drew ?_ | refine blk_alloc ?_ _)); refine blk_put (cs := #[.int .u64 0, .int .u64 0]) ?_ 0 _ rfl; (with_reducible repeat (first | refine blk_drewN ?_ _ | refine blk_drew ?_ | refine blk_alloc ?_ _)); refine blk_far ?_ NB880_890.out _; (with_reducible repeat (first | refine blk_drewN ?_ _ | refine blk_drew ?_ | refine blk_alloc ?_ _)); refine blk_far ?_ NB880_890.out _; (with_reducible repeat (first | refine blk_drewN ?_ _ | refine blk_drew ?_ | refine blk_alloc ?_ _)); exact BK880.out) Try.underlying25 rfl (by kernel_rfl)) rfl ?_
            exact ⟨by first | rfl | (simp [errW_none, errW_some] <;> rfl) | (simp [*, errW_none, errW_some] <;> rfl), by repeat (first | (with_reducible first | exact HB.out | apply below_alloc | apply pw_below_drewN | apply below_drew1 | refine below_set ?_ GE879.out | refine below_set ?_ GE880.out | refine below_set ?_ GE890.out) | exact HB.out)⟩
    · rw [if_neg c9] at H
      exact absurd H (by simp)
def paymasterlaw01_U128Times.f (k : Nat) (a0_0 : Int) (a0_1 : Int) (a1 : Int) : Option (Bool) := (u128_Times.f a0_0 a0_1 a1).bind fun bt897 => ((paymasterref01_Times.f k a0_0 a0_1 a1).bind fun bt901 => ((u128_Over.f a0_0 a0_1 a1).bind fun bt905 => ((paymasterref01_Over.f k a0_0 a0_1 a1).bind fun bt910 => (if (bt897.1 == bt901.1 && (bt897.2.1 == bt901.2.1)) = true then (if bt897.2.2 = bt901.2.2 then (if (bt905.1 == bt910.1 && (bt905.2.1 == bt910.2.1)) = true then (if bt905.2.2.1 = bt910.2.2.1 then (some (bt905.2.2.2 == bt910.2.2.2)) else (none)) else (none)) else (none)) else (none)))))
set_option maxHeartbeats 8000000 in
set_option maxRecDepth 100000 in
theorem paymasterlaw01_U128Times.calls (k : Nat) (a0_0 : Int) (a0_1 : Int) (a1 : Int) (r : Bool) (w : World) (h : paymasterlaw01_U128Times.f k a0_0 a0_1 a1 = some r) :
    Calls Try.prog 10 #[.agg #[.int .u64 a0_0, .int .u64 a0_1], .int .u64 a1] w fun e w' => e = .returned (.bool r) ∧ Below w.heap.size w w' := by
  have hu25 := Try.underlying25
  have HB := Aside0.mk (Below.refl w.heap.size w)
  have H : ((u128_Times.f a0_0 a0_1 a1).bind fun bt897 => ((paymasterref01_Times.f k a0_0 a0_1 a1).bind fun bt901 => ((u128_Over.f a0_0 a0_1 a1).bind fun bt905 => ((paymasterref01_Over.f k a0_0 a0_1 a1).bind fun bt910 => (if (bt897.1 == bt901.1 && (bt897.2.1 == bt901.2.1)) = true then (if bt897.2.2 = bt901.2.2 then (if (bt905.1 == bt910.1 && (bt905.2.1 == bt910.2.1)) = true then (if bt905.2.2.1 = bt910.2.2.1 then (some (bt905.2.2.2 == bt910.2.2.2)) else (none)) else (none)) else (none)) else (none)))))) = some r := h
  clear h
  replace H := Option.bind_eq_some_iff.mp H
  obtain ⟨⟨t897, t898, t899⟩, A30, H⟩ := H
  replace H : ((paymasterref01_Times.f k a0_0 a0_1 a1).bind fun bt901 => ((u128_Over.f a0_0 a0_1 a1).bind fun bt905 => ((paymasterref01_Over.f k a0_0 a0_1 a1).bind fun bt910 => (if (t897 == bt901.1 && (t898 == bt901.2.1)) = true then (if t899 = bt901.2.2 then (if (bt905.1 == bt910.1 && (bt905.2.1 == bt910.2.1)) = true then (if bt905.2.2.1 = bt910.2.2.1 then (some (bt905.2.2.2 == bt910.2.2.2)) else (none)) else (none)) else (none)) else (none))))) = some r := H
  have A3 := Aside0.mk A30
  clear A30
  replace H := Option.bind_eq_some_iff.mp H
  obtain ⟨⟨t901, t902, t903⟩, A40, H⟩ := H
  replace H : ((u128_Over.f a0_0 a0_1 a1).bind fun bt905 => ((paymasterref01_Over.f k a0_0 a0_1 a1).bind fun bt910 => (if (t897 == t901 && (t898 == t902)) = true then (if t899 = t903 then (if (bt905.1 == bt910.1 && (bt905.2.1 == bt910.2.1)) = true then (if bt905.2.2.1 = bt910.2.2.1 then (some (bt905.2.2.2 == bt910.2.2.2)) else (none)) else (none)) else (none)) else (none)))) = some r := H
  have A4 := Aside0.mk A40
  clear A40
  replace H := Option.bind_eq_some_iff.mp H
  obtain ⟨⟨t905, t906, t907, t908⟩, A50, H⟩ := H
  replace H : ((paymasterref01_Over.f k a0_0 a0_1 a1).bind fun bt910 => (if (t897 == t901 && (t898 == t902)) = true then (if t899 = t903 then (if (t905 == bt910.1 && (t906 == bt910.2.1)) = true then (if t907 = bt910.2.2.1 then (some (t908 == bt910.2.2.2)) else (none)) else (none)) else (none)) else (none))) = some r := H
  have A5 := Aside0.mk A50
  clear A50
  replace H := Option.bind_eq_some_iff.mp H
  obtain ⟨⟨t910, t911, t912, t913⟩, A60, H⟩ := H
  replace H : (if (t897 == t901 && (t898 == t902)) = true then (if t899 = t903 then (if (t905 == t910 && (t906 == t911)) = true then (if t907 = t912 then (some (t908 == t913)) else (none)) else (none)) else (none)) else (none)) = some r := H
  have A6 := Aside0.mk A60
  clear A60
  by_cases c7 : (t897 == t901 && (t898 == t902)) = true
  · rw [if_pos c7] at H
    have c7b0 : (t897 == t901 && (t898 == t902)) = true := c7
    (try (have c7b1 : decide (t897 = t901 && (t898 == t902)) = true := by simpa using c7))
    (try (have c7b2 : (t897 == t901 && (t898 == t902)) = true := by simpa using c7))
    clear c7
    by_cases c8 : t899 = t903
    · rw [if_pos c8] at H
      have c8b0 : (t899 == t903) = true := beq_iff_eq.mpr c8
      have c8b1 : (t899 != t903) = false := bne_eq_false_iff_eq.mpr c8
      clear c8
      by_cases c9 : (t905 == t910 && (t906 == t911)) = true
      · rw [if_pos c9] at H
        have c9b0 : (t905 == t910 && (t906 == t911)) = true := c9
        (try (have c9b1 : decide (t905 = t910 && (t906 == t911)) = true := by simpa using c9))
        (try (have c9b2 : (t905 == t910 && (t906 == t911)) = true := by simpa using c9))
        clear c9
        by_cases c10 : t907 = t912
        · rw [if_pos c10] at H
          have c10b0 : (t907 == t912) = true := beq_iff_eq.mpr c10
          have c10b1 : (t907 != t912) = false := bne_eq_false_iff_eq.mpr c10
          clear c10
          obtain rfl := Option.some.inj H
          go_enter Try.func10, Try.ntmps10
          go_wp2_with (first | ((with_reducible refine gate_dst (N := 2) rfl ?_); refine box_event ?hg (N := 2) ?hd (cs := #[.int .u64 a0_0, .int .u64 a0_1]) (t := 25) ?hr ?_; (case hd => rfl); (case hg => rfl); (case hr => first | (go_simp; done) | (go_simp; rfl)); intro gb896 hg w11 hbox hb; have n0_ := Aside0.mk (below_step (by repeat (first | (with_reducible first | exact HB.out | apply below_alloc | apply pw_below_drewN | apply below_drew1) | exact HB.out)) hb); have n1_ := Aside0.mk (hbox); have n2_ := Aside0.mk ((by rw [hg]; exact (below_size (by repeat (first | (with_reducible first | exact HB.out | apply below_alloc | apply pw_below_drewN | apply below_drew1) | exact HB.out))) : w.heap.size ≤ gb896)); have n3_ := Aside0.mk ((by rw [hg]; exact (below_size (by repeat (first | (with_reducible first | exact HB.out | apply below_alloc | apply pw_below_drewN | apply below_drew1) | exact HB.out))) : w.heap.size ≤ gb896)); clear HB; have HB := n0_; have BK896 := n1_; have GW896 := n2_; have GE896 := n3_; clear n0_ n1_ n2_ n3_; clear hb hbox hg; have hcz12_0 : w11.cell? ⟨gb896, 0, none⟩ = some (.int .u64 a0_0) := (blk_cell BK896.out 0).trans rfl; have hcz12_1 : w11.cell? ⟨gb896, 1, none⟩ = some (.int .u64 a0_1) := (blk_cell BK896.out 1).trans rfl; have hfz12_0 := blk_frozen BK896.out 0; have hfz12_1 := blk_frozen BK896.out 1) | ((with_reducible refine gate_callee (f := 56) rfl ?_); refine goesL_ (some 18) rfl rfl Try.func56 (by kernel_rfl) rfl #[.agg #[.int .u64 a0_0, .int .u64 a0_1], .int .u64 a1] rfl (by (try simp only [List.map_toArray, List.map_cons, List.map_nil]); first | done | rfl | (simp only [List.length_drop, List.length_take]; rfl)) ?_; (with_reducible refine (u128_Times.calls a0_0 a0_1 a1 t897 t898 t899 _ A3.out).mono ?_); rintro e w13 ⟨rfl, hb⟩; refine ⟨_, rfl, ?_⟩; have n0_ := Aside0.mk (blk_below (g := gb896) (o := .cells #[.int .u64 a0_0, .int .u64 a0_1] 25 (0, 0)) (by (with_reducible repeat (first | refine blk_drewN ?_ _ | refine blk_drew ?_ | refine blk_alloc ?_ _)); exact BK896.out) hb); have n1_ := Aside0.mk (below_step (by repeat (first | (with_reducible first | exact HB.out | apply below_alloc | apply pw_below_drewN | apply below_drew1 | refine below_set ?_ GE896.out) | exact HB.out)) hb); clear BK896; clear HB; have BK896 := n0_; have HB := n1_; clear n0_ n1_; (try clear hb); (try clear hb2); (try clear hk); (try clear hi)) | ((with_reducible refine gate_dst (N := 5) rfl ?_); refine box_event ?hg (N := 5) ?hd (cs := #[.int .u64 0, .int .u64 0]) (t := 25) ?hr ?_; (case hd => rfl); (case hg => rfl); (case hr => first | (go_simp; done) | (go_simp; rfl)); intro gb900 hg w14 hbox hb; have n0_ := Aside0.mk (blk_below (g := gb896) (o := .cells #[.int .u64 a0_0, .int .u64 a0_1] 25 (0, 0)) (by (with_reducible repeat (first | refine blk_drewN ?_ _ | refine blk_drew ?_ | refine blk_alloc ?_ _)); exact BK896.out) hb); have n1_ := Aside0.mk (below_step (by repeat (first | (with_reducible first | exact HB.out | apply below_alloc | apply pw_below_drewN | apply below_drew1 | refine below_set ?_ GE896.out) | exact HB.out)) hb); have n2_ := Aside0.mk (hbox); have n3_ := Aside0.mk ((by rw [hg]; exact (below_size (by repeat (first | (with_reducible first | exact HB.out | apply below_alloc | apply pw_below_drewN | apply below_drew1 | refine below_set ?_ GE896.out) | exact HB.out))) : w.heap.size ≤ gb900)); have n4_ := Aside0.mk ((by rw [hg]; exact (below_size (by repeat (first | (with_reducible first | exact HB.out | apply below_alloc | apply pw_below_drewN | apply below_drew1 | refine below_set ?_ GE896.out) | exact HB.out))) : w.heap.size ≤ gb900)); have n5_ := Aside0.mk ((by rw [hg]; exact Nat.ne_of_lt (blk_lt (g := gb896) (o := .cells #[.int .u64 a0_0, .int .u64 a0_1] 25 (0, 0)) (by (with_reducible repeat (first | refine blk_drewN ?_ _ | refine blk_drew ?_ | refine blk_alloc ?_ _)); exact BK896.out)) : gb896 ≠ gb900)); have n6_ := Aside0.mk ((by rw [hg]; exact Nat.ne_of_gt (blk_lt (g := gb896) (o := .cells #[.int .u64 a0_0, .int .u64 a0_1] 25 (0, 0)) (by (with_reducible repeat (first | refine blk_drewN ?_ _ | refine blk_drew ?_ | refine blk_alloc ?_ _)); exact BK896.out)) : gb900 ≠ gb896)); clear BK896; clear HB; have BK896 := n0_; have HB := n1_; have BK900 := n2_; have GW900 := n3_; have GE900 := n4_; have NB896_900 := n5_; have NB900_896 := n6_; clear n0_ n1_ n2_ n3_ n4_ n5_ n6_; clear hb hbox hg; have hnb15 := NB900_896.out; have hnc15 := NB896_900.out; have hcz16_0 : w14.cell? ⟨gb900, 0, none⟩ = some (.int .u64 0) := (blk_cell BK900.out 0).trans rfl; have hcz16_1 : w14.cell? ⟨gb900, 1, none⟩ = some (.int .u64 0) := (blk_cell BK900.out 1).trans rfl; have hfz16_0 := blk_frozen BK900.out 0; have hfz16_1 := blk_frozen BK900.out 1; have hcz17_0 : w14.cell? ⟨gb896, 0, none⟩ = some (.int .u64 a0_0) := (blk_cell BK896.out 0).trans rfl; have hcz17_1 : w14.cell? ⟨gb896, 1, none⟩ = some (.int .u64 a0_1) := (blk_cell BK896.out 1).trans rfl; have hfz17_0 := blk_frozen BK896.out 0; have hfz17_1 := blk_frozen BK896.out 1) | ((with_reducible refine gate_callee (f := 57) rfl ?_); refine goesL_ (some 24) rfl rfl Try.func57 (by kernel_rfl) rfl #[.agg #[.int .u64 a0_0, .int .u64 a0_1], .int .u64 a1] rfl (by (try simp only [List.map_toArray, List.map_cons, List.map_nil]); first | done | rfl | (simp only [List.length_drop, List.length_take]; rfl)) ?_; (with_reducible refine (paymasterref01_Times.calls k a0_0 a0_1 a1 t901 t902 t903 _ A4.out).mono ?_); rintro e w18 ⟨rfl, hb⟩; refine ⟨_, rfl, ?_⟩; have n0_ := Aside0.mk (blk_below (g := gb896) (o := .cells #[.int .u64 a0_0, .int .u64 a0_1] 25 (0, 0)) (by (with_reducible repeat (first | refine blk_drewN ?_ _ | refine blk_drew ?_ | refine blk_alloc ?_ _)); refine blk_far ?_ NB896_900.out _; (with_reducible repeat (first | refine blk_drewN ?_ _ | refine blk_drew ?_ | refine blk_alloc ?_ _)); refine blk_far ?_ NB896_900.out _; (with_reducible repeat (first | refine blk_drewN ?_ _ | refine blk_drew ?_ | refine blk_alloc ?_ _)); exact BK896.out) hb); have n1_ := Aside0.mk (blk_below (g := gb900) (o := .cells #[.int .u64 t897, .int .u64 t898] 25 (0, 0)) (by (with_reducible repeat (first | refine blk_drewN ?_ _ | refine blk_drew ?_ | refine blk_alloc ?_ _)); refine blk_put (cs := #[.int .u64 t897, .int .u64 0]) ?_ 1 _ rfl; (with_reducible repeat (first | refine blk_drewN ?_ _ | refine blk_drew ?_ | refine blk_alloc ?_ _)); refine blk_put (cs := #[.int .u64 0, .int .u64 0]) ?_ 0 _ rfl; (with_reducible repeat (first | refine blk_drewN ?_ _ | refine blk_drew ?_ | refine blk_alloc ?_ _)); exact BK900.out) hb); have n2_ := Aside0.mk (below_step (by repeat (first | (with_reducible first | exact HB.out | apply below_alloc | apply pw_below_drewN | apply below_drew1 | refine below_set ?_ GE896.out | refine below_set ?_ GE900.out) | exact HB.out)) hb); clear BK896; clear BK900; clear HB; have BK896 := n0_; have BK900 := n1_; have HB := n2_; clear n0_ n1_ n2_; (try clear hb); (try clear hb2); (try clear hk); (try clear hi)) | ((with_reducible refine gate_dst (N := 7) rfl ?_); refine box_event ?hg (N := 7) ?hd (cs := #[.int .u64 0, .int .u64 0]) (t := 25) ?hr ?_; (case hd => rfl); (case hg => rfl); (case hr => first | (go_simp; done) | (go_simp; rfl)); intro gb904 hg w19 hbox hb; have n0_ := Aside0.mk (blk_below (g := gb896) (o := .cells #[.int .u64 a0_0, .int .u64 a0_1] 25 (0, 0)) (by (with_reducible repeat (first | refine blk_drewN ?_ _ | refine blk_drew ?_ | refine blk_alloc ?_ _)); exact BK896.out) hb); have n1_ := Aside0.mk (blk_below (g := gb900) (o := .cells #[.int .u64 t897, .int .u64 t898] 25 (0, 0)) (by (with_reducible repeat (first | refine blk_drewN ?_ _ | refine blk_drew ?_ | refine blk_alloc ?_ _)); exact BK900.out) hb); have n2_ := Aside0.mk (below_step (by repeat (first | (with_reducible first | exact HB.out | apply below_alloc | apply pw_below_drewN | apply below_drew1 | refine below_set ?_ GE896.out | refine below_set ?_ GE900.out) | exact HB.out)) hb); have n3_ := Aside0.mk (hbox); have n4_ := Aside0.mk ((by rw [hg]; exact (below_size (by repeat (first | (with_reducible first | exact HB.out | apply below_alloc | apply pw_below_drewN | apply below_drew1 | refine below_set ?_ GE896.out | refine below_set ?_ GE900.out) | exact HB.out))) : w.heap.size ≤ gb904)); have n5_ := Aside0.mk ((by rw [hg]; exact (below_size (by repeat (first | (with_reducible first | exact HB.out | apply below_alloc | apply pw_below_drewN | apply below_drew1 | refine below_set ?_ GE896.out | refine below_set ?_ GE900.out) | exact HB.out))) : w.heap.size ≤ gb904)); have n6_ := Aside0.mk ((by rw [hg]; exact Nat.ne_of_lt (blk_lt (g := gb896) (o := .cells #[.int .u64 a0_0, .int .u64 a0_1] 25 (0, 0)) (by (with_reducible repeat (first | refine blk_drewN ?_ _ | refine blk_drew ?_ | refine blk_alloc ?_ _)); exact BK896.out)) : gb896 ≠ gb904)); have n7_ := Aside0.mk ((by rw [hg]; exact Nat.ne_of_gt (blk_lt (g := gb896) (o := .cells #[.int .u64 a0_0, .int .u64 a0_1] 25 (0, 0)) (by (with_reducible repeat (first | refine blk_drewN ?_ _ | refine blk_drew ?_ | refine blk_alloc ?_ _)); exact BK896.out)) : gb904 ≠ gb896)); have n8_ := Aside0.mk ((by rw [hg]; exact Nat.ne_of_lt (blk_lt (g := gb900) (o := .cells #[.int .u64 t897, .int .u64 t898] 25 (0, 0)) (by (with_reducible repeat (first | refine blk_drewN ?_ _ | refine blk_drew ?_ | refine blk_alloc ?_ _)); exact BK900.out)) : gb900 ≠ gb904)); have n9_ := Aside0.mk ((by rw [hg]; exact Nat.ne_of_gt (blk_lt (g := gb900) (o := .cells #[.int .u64 t897, .int .u64 t898] 25 (0, 0)) (by (with_reducible repeat (first | refine blk_drewN ?_ _ | refine blk_drew ?_ | refine blk_alloc ?_ _)); exact BK900.out)) : gb904 ≠ gb900)); clear BK896; clear BK900; clear HB; have BK896 := n0_; have BK900 := n1_; have HB := n2_; have BK904 := n3_; have GW904 := n4_; have GE904 := n5_; have NB896_904 := n6_; have NB904_896 := n7_; have NB900_904 := n8_; have NB904_900 := n9_; clear n0_ n1_ n2_ n3_ n4_ n5_ n6_ n7_ n8_ n9_; clear hb hbox hg; have hnb20 := NB904_896.out; have hnc20 := NB896_904.out; have hnb21 := NB904_900.out; have hnc21 := NB900_904.out; have hcz22_0 : w19.cell? ⟨gb904, 0, none⟩ = some (.int .u64 0) := (blk_cell BK904.out 0).trans rfl; have hcz22_1 : w19.cell? ⟨gb904, 1, none⟩ = some (.int .u64 0) := (blk_cell BK904.out 1).trans rfl; have hfz22_0 := blk_frozen BK904.out 0; have hfz22_1 := blk_frozen BK904.out 1; have hcz23_0 : w19.cell? ⟨gb896, 0, none⟩ = some (.int .u64 a0_0) := (blk_cell BK896.out 0).trans rfl; have hcz23_1 : w19.cell? ⟨gb896, 1, none⟩ = some (.int .u64 a0_1) := (blk_cell BK896.out 1).trans rfl; have hfz23_0 := blk_frozen BK896.out 0; have hfz23_1 := blk_frozen BK896.out 1) | ((with_reducible refine gate_callee (f := 58) rfl ?_); refine goesL_ (some 30) rfl rfl Try.func58 (by kernel_rfl) rfl #[.agg #[.int .u64 a0_0, .int .u64 a0_1], .int .u64 a1] rfl (by (try simp only [List.map_toArray, List.map_cons, List.map_nil]); first | done | rfl | (simp only [List.length_drop, List.length_take]; rfl)) ?_; (with_reducible refine (u128_Over.calls a0_0 a0_1 a1 t905 t906 t907 t908 _ A5.out).mono ?_); rintro e w24 ⟨rfl, hb⟩; refine ⟨_, rfl, ?_⟩; have n0_ := Aside0.mk (blk_below (g := gb896) (o := .cells #[.int .u64 a0_0, .int .u64 a0_1] 25 (0, 0)) (by (with_reducible repeat (first | refine blk_drewN ?_ _ | refine blk_drew ?_ | refine blk_alloc ?_ _)); refine blk_far ?_ NB896_904.out _; (with_reducible repeat (first | refine blk_drewN ?_ _ | refine blk_drew ?_ | refine blk_alloc ?_ _)); refine blk_far ?_ NB896_904.out _; (with_reducible repeat (first | refine blk_drewN ?_ _ | refine blk_drew ?_ | refine blk_alloc ?_ _)); exact BK896.out) hb); have n1_ := Aside0.mk (blk_below (g := gb900) (o := .cells #[.int .u64 t897, .int .u64 t898] 25 (0, 0)) (by (with_reducible repeat (first | refine blk_drewN ?_ _ | refine blk_drew ?_ | refine blk_alloc ?_ _)); refine blk_far ?_ NB900_904.out _; (with_reducible repeat (first | refine blk_drewN ?_ _ | refine blk_drew ?_ | refine blk_alloc ?_ _)); refine blk_far ?_ NB900_904.out _; (with_reducible repeat (first | refine blk_drewN ?_ _ | refine blk_drew ?_ | refine blk_alloc ?_ _)); exact BK900.out) hb); have n2_ := Aside0.mk (blk_below (g := gb904) (o := .cells #[.int .u64 t901, .int .u64 t902] 25 (0, 0)) (by (with_reducible repeat (first | refine blk_drewN ?_ _ | refine blk_drew ?_ | refine blk_alloc ?_ _)); refine blk_put (cs := #[.int .u64 t901, .int .u64 0]) ?_ 1 _ rfl; (with_reducible repeat (first | refine blk_drewN ?_ _ | refine blk_drew ?_ | refine blk_alloc ?_ _)); refine blk_put (cs := #[.int .u64 0, .int .u64 0]) ?_ 0 _ rfl; (with_reducible repeat (first | refine blk_drewN ?_ _ | refine blk_drew ?_ | refine blk_alloc ?_ _)); exact BK904.out) hb); have n3_ := Aside0.mk (below_step (by repeat (first | (with_reducible first | exact HB.out | apply below_alloc | apply pw_below_drewN | apply below_drew1 | refine below_set ?_ GE896.out | refine below_set ?_ GE900.out | refine below_set ?_ GE904.out) | exact HB.out)) hb); clear BK896; clear BK900; clear BK904; clear HB; have BK896 := n0_; have BK900 := n1_; have BK904 := n2_; have HB := n3_; clear n0_ n1_ n2_ n3_; (try clear hb); (try clear hb2); (try clear hk); (try clear hi)) | ((with_reducible refine gate_dst (N := 9) rfl ?_); refine box_event ?hg (N := 9) ?hd (cs := #[.int .u64 0, .int .u64 0]) (t := 25) ?hr ?_; (case hd => rfl); (case hg => rfl); (case hr => first | (go_simp; done) | (go_simp; rfl)); intro gb909 hg w25 hbox hb; have n0_ := Aside0.mk (blk_below (g := gb896) (o := .cells #[.int .u64 a0_0, .int .u64 a0_1] 25 (0, 0)) (by (with_reducible repeat (first | refine blk_drewN ?_ _ | refine blk_drew ?_ | refine blk_alloc ?_ _)); exact BK896.out) hb); have n1_ := Aside0.mk (blk_below (g := gb900) (o := .cells #[.int .u64 t897, .int .u64 t898] 25 (0, 0)) (by (with_reducible repeat (first | refine blk_drewN ?_ _ | refine blk_drew ?_ | refine blk_alloc ?_ _)); exact BK900.out) hb); have n2_ := Aside0.mk (blk_below (g := gb904) (o := .cells #[.int .u64 t901, .int .u64 t902] 25 (0, 0)) (by (with_reducible repeat (first | refine blk_drewN ?_ _ | refine blk_drew ?_ | refine blk_alloc ?_ _)); exact BK904.out) hb); have n3_ := Aside0.mk (below_step (by repeat (first | (with_reducible first | exact HB.out | apply below_alloc | apply pw_below_drewN | apply below_drew1 | refine below_set ?_ GE896.out | refine below_set ?_ GE900.out | refine below_set ?_ GE904.out) | exact HB.out)) hb); have n4_ := Aside0.mk (hbox); have n5_ := Aside0.mk ((by rw [hg]; exact (below_size (by repeat (first | (with_reducible first | exact HB.out | apply below_alloc | apply pw_below_drewN | apply below_drew1 | refine below_set ?_ GE896.out | refine below_set ?_ GE900.out | refine below_set ?_ GE904.out) | exact HB.out))) : w.heap.size ≤ gb909)); have n6_ := Aside0.mk ((by rw [hg]; exact (below_size (by repeat (first | (with_reducible first | exact HB.out | apply below_alloc | apply pw_below_drewN | apply below_drew1 | refine below_set ?_ GE896.out | refine below_set ?_ GE900.out | refine below_set ?_ GE904.out) | exact HB.out))) : w.heap.size ≤ gb909)); have n7_ := Aside0.mk ((by rw [hg]; exact Nat.ne_of_lt (blk_lt (g := gb896) (o := .cells #[.int .u64 a0_0, .int .u64 a0_1] 25 (0, 0)) (by (with_reducible repeat (first | refine blk_drewN ?_ _ | refine blk_drew ?_ | refine blk_alloc ?_ _)); exact BK896.out)) : gb896 ≠ gb909)); have n8_ := Aside0.mk ((by rw [hg]; exact Nat.ne_of_gt (blk_lt (g := gb896) (o := .cells #[.int .u64 a0_0, .int .u64 a0_1] 25 (0, 0)) (by (with_reducible repeat (first | refine blk_drewN ?_ _ | refine blk_drew ?_ | refine blk_alloc ?_ _)); exact BK896.out)) : gb909 ≠ gb896)); have n9_ := Aside0.mk ((by rw [hg]; exact Nat.ne_of_lt (blk_lt (g := gb900) (o := .cells #[.int .u64 t897, .int .u64 t898] 25 (0, 0)) (by (with_reducible repeat (first | refine blk_drewN ?_ _ | refine blk_drew ?_ | refine blk_alloc ?_ _)); exact BK900.out)) : gb900 ≠ gb909)); have n10_ := Aside0.mk ((by rw [hg]; exact Nat.ne_of_gt (blk_lt (g := gb900) (o := .cells #[.int .u64 t897, .int .u64 t898] 25 (0, 0)) (by (with_reducible repeat (first | refine blk_drewN ?_ _ | refine blk_drew ?_ | refine blk_alloc ?_ _)); exact BK900.out)) : gb909 ≠ gb900)); have n11_ := Aside0.mk ((by rw [hg]; exact Nat.ne_of_lt (blk_lt (g := gb904) (o := .cells #[.int .u64 t901, .int .u64 t902] 25 (0, 0)) (by (with_reducible repeat (first | refine blk_drewN ?_ _ | refine blk_drew ?_ | refine blk_alloc ?_ _)); exact BK904.out)) : gb904 ≠ gb909)); have n12_ := Aside0.mk ((by rw [hg]; exact Nat.ne_of_gt (blk_lt (g := gb904) (o := .cells #[.int .u64 t901, .int .u64 t902] 25 (0, 0)) (by (with_reducible repeat (first | refine blk_drewN ?_ _ | refine blk_drew ?_ | refine blk_alloc ?_ _)); exact BK904.out)) : gb909 ≠ gb904)); clear BK896; clear BK900; clear BK904; clear HB; have BK896 := n0_; have BK900 := n1_; have BK904 := n2_; have HB := n3_; have BK909 := n4_; have GW909 := n5_; have GE909 := n6_; have NB896_909 := n7_; have NB909_896 := n8_; have NB900_909 := n9_; have NB909_900 := n10_; have NB904_909 := n11_; have NB909_904 := n12_; clear n0_ n1_ n2_ n3_ n4_ n5_ n6_ n7_ n8_ n9_ n10_ n11_ n12_; clear hb hbox hg; have hnb26 := NB909_896.out; have hnc26 := NB896_909.out; have hnb27 := NB909_900.out; have hnc27 := NB900_909.out; have hnb28 := NB909_904.out; have hnc28 := NB904_909.out; have hcz29_0 : w25.cell? ⟨gb909, 0, none⟩ = some (.int .u64 0) := (blk_cell BK909.out 0).trans rfl; have hcz29_1 : w25.cell? ⟨gb909, 1, none⟩ = some (.int .u64 0) := (blk_cell BK909.out 1).trans rfl; have hfz29_0 := blk_frozen BK909.out 0; have hfz29_1 := blk_frozen BK909.out 1; have hcz30_0 : w25.cell? ⟨gb896, 0, none⟩ = some (.int .u64 a0_0) := (blk_cell BK896.out 0).trans rfl; have hcz30_1 : w25.cell? ⟨gb896, 1, none⟩ = some (.int .u64 a0_1) := (blk_cell BK896.out 1).trans rfl; have hfz30_0 := blk_frozen BK896.out 0; have hfz30_1 := blk_frozen BK896.out 1) | ((with_reducible refine gate_callee (f := 59) rfl ?_); refine goesL_ (some 37) rfl rfl Try.func59 (by kernel_rfl) rfl #[.agg #[.int .u64 a0_0, .int .u64 a0_1], .int .u64 a1] rfl (by (try simp only [List.map_toArray, List.map_cons, List.map_nil]); first | done | rfl | (simp only [List.length_drop, List.length_take]; rfl)) ?_; (with_reducible refine (paymasterref01_Over.calls k a0_0 a0_1 a1 t910 t911 t912 t913 _ A6.out).mono ?_); rintro e w31 ⟨rfl, hb⟩; refine ⟨_, rfl, ?_⟩; have n0_ := Aside0.mk (blk_below (g := gb896) (o := .cells #[.int .u64 a0_0, .int .u64 a0_1] 25 (0, 0)) (by (with_reducible repeat (first | refine blk_drewN ?_ _ | refine blk_drew ?_ | refine blk_alloc ?_ _)); refine blk_far ?_ NB896_909.out _; (with_reducible repeat (first | refine blk_drewN ?_ _ | refine blk_drew ?_ | refine blk_alloc ?_ _)); refine blk_far ?_ NB896_909.out _; (with_reducible repeat (first | refine blk_drewN ?_ _ | refine blk_drew ?_ | refine blk_alloc ?_ _)); exact BK896.out) hb); have n1_ := Aside0.mk (blk_below (g := gb900) (o := .cells #[.int .u64 t897, .int .u64 t898] 25 (0, 0)) (by (with_reducible repeat (first | refine blk_drewN ?_ _ | refine blk_drew ?_ | refine blk_alloc ?_ _)); refine blk_far ?_ NB900_909.out _; (with_reducible repeat (first | refine blk_drewN ?_ _ | refine blk_drew ?_ | refine blk_alloc ?_ _)); refine blk_far ?_ NB900_909.out _; (with_reducible repeat (first | refine blk_drewN ?_ _ | refine blk_drew ?_ | refine blk_alloc ?_ _)); exact BK900.out) hb); have n2_ := Aside0.mk (blk_below (g := gb904) (o := .cells #[.int .u64 t901, .int .u64 t902] 25 (0, 0)) (by (with_reducible repeat (first | refine blk_drewN ?_ _ | refine blk_drew ?_ | refine blk_alloc ?_ _)); refine blk_far ?_ NB904_909.out _; (with_reducible repeat (first | refine blk_drewN ?_ _ | refine blk_drew ?_ | refine blk_alloc ?_ _)); refine blk_far ?_ NB904_909.out _; (with_reducible repeat (first | refine blk_drewN ?_ _ | refine blk_drew ?_ | refine blk_alloc ?_ _)); exact BK904.out) hb); have n3_ := Aside0.mk (blk_below (g := gb909) (o := .cells #[.int .u64 t905, .int .u64 t906] 25 (0, 0)) (by (with_reducible repeat (first | refine blk_drewN ?_ _ | refine blk_drew ?_ | refine blk_alloc ?_ _)); refine blk_put (cs := #[.int .u64 t905, .int .u64 0]) ?_ 1 _ rfl; (with_reducible repeat (first | refine blk_drewN ?_ _ | refine blk_drew ?_ | refine blk_alloc ?_ _)); refine blk_put (cs := #[.int .u64 0, .int .u64 0]) ?_ 0 _ rfl; (with_reducible repeat (first | refine blk_drewN ?_ _ | refine blk_drew ?_ | refine blk_alloc ?_ _)); exact BK909.out) hb); have n4_ := Aside0.mk (below_step (by repeat (first | (with_reducible first | exact HB.out | apply below_alloc | apply pw_below_drewN | apply below_drew1 | refine below_set ?_ GE896.out | refine below_set ?_ GE900.out | refine below_set ?_ GE904.out | refine below_set ?_ GE909.out) | exact HB.out)) hb); clear BK896; clear BK900; clear BK904; clear BK909; clear HB; have BK896 := n0_; have BK900 := n1_; have BK904 := n2_; have BK909 := n3_; have HB := n4_; clear n0_ n1_ n2_ n3_ n4_; (try clear hb); (try clear hb2); (try clear hk); (try clear hi)) | ((with_reducible refine gate_dst (N := 12) rfl ?_); refine box_event ?hg (N := 12) ?hd (cs := #[.int .u64 0, .int .u64 0]) (t := 25) ?hr ?_; (case hd => rfl); (case hg => rfl); (case hr => first | (go_simp; done) | (go_simp; rfl)); intro gb914 hg w32 hbox hb; have n0_ := Aside0.mk (blk_below (g := gb896) (o := .cells #[.int .u64 a0_0, .int .u64 a0_1] 25 (0, 0)) (by (with_reducible repeat (first | refine blk_drewN ?_ _ | refine blk_drew ?_ | refine blk_alloc ?_ _)); exact BK896.out) hb); have n1_ := Aside0.mk (blk_below (g := gb900) (o := .cells #[.int .u64 t897, .int .u64 t898] 25 (0, 0)) (by (with_reducible repeat (first | refine blk_drewN ?_ _ | refine blk_drew ?_ | refine blk_alloc ?_ _)); exact BK900.out) hb); have n2_ := Aside0.mk (blk_below (g := gb904) (o := .cells #[.int .u64 t901, .int .u64 t902] 25 (0, 0)) (by (with_reducible repeat (first | refine blk_drewN ?_ _ | refine blk_drew ?_ | refine blk_alloc ?_ _)); exact BK904.out) hb); have n3_ := Aside0.mk (blk_below (g := gb909) (o := .cells #[.int .u64 t905, .int .u64 t906] 25 (0, 0)) (by (with_reducible repeat (first | refine blk_drewN ?_ _ | refine blk_drew ?_ | refine blk_alloc ?_ _)); exact BK909.out) hb); have n4_ := Aside0.mk (below_step (by repeat (first | (with_reducible first | exact HB.out | apply below_alloc | apply pw_below_drewN | apply below_drew1 | refine below_set ?_ GE896.out | refine below_set ?_ GE900.out | refine below_set ?_ GE904.out | refine below_set ?_ GE909.out) | exact HB.out)) hb); have n5_ := Aside0.mk (hbox); have n6_ := Aside0.mk ((by rw [hg]; exact (below_size (by repeat (first | (with_reducible first | exact HB.out | apply below_alloc | apply pw_below_drewN | apply below_drew1 | refine below_set ?_ GE896.out | refine below_set ?_ GE900.out | refine below_set ?_ GE904.out | refine below_set ?_ GE909.out) | exact HB.out))) : w.heap.size ≤ gb914)); have n7_ := Aside0.mk ((by rw [hg]; exact (below_size (by repeat (first | (with_reducible first | exact HB.out | apply below_alloc | apply pw_below_drewN | apply below_drew1 | refine below_set ?_ GE896.out | refine below_set ?_ GE900.out | refine below_set ?_ GE904.out | refine below_set ?_ GE909.out) | exact HB.out))) : w.heap.size ≤ gb914)); have n8_ := Aside0.mk ((by rw [hg]; exact Nat.ne_of_lt (blk_lt (g := gb896) (o := .cells #[.int .u64 a0_0, .int .u64 a0_1] 25 (0, 0)) (by (with_reducible repeat (first | refine blk_drewN ?_ _ | refine blk_drew ?_ | refine blk_alloc ?_ _)); exact BK896.out)) : gb896 ≠ gb914)); have n9_ := Aside0.mk ((by rw [hg]; exact Nat.ne_of_gt (blk_lt (g := gb896) (o := .cells #[.int .u64 a0_0, .int .u64 a0_1] 25 (0, 0)) (by (with_reducible repeat (first | refine blk_drewN ?_ _ | refine blk_drew ?_ | refine blk_alloc ?_ _)); exact BK896.out)) : gb914 ≠ gb896)); have n10_ := Aside0.mk ((by rw [hg]; exact Nat.ne_of_lt (blk_lt (g := gb900) (o := .cells #[.int .u64 t897, .int .u64 t898] 25 (0, 0)) (by (with_reducible repeat (first | refine blk_drewN ?_ _ | refine blk_drew ?_ | refine blk_alloc ?_ _)); exact BK900.out)) : gb900 ≠ gb914)); have n11_ := Aside0.mk ((by rw [hg]; exact Nat.ne_of_gt (blk_lt (g := gb900) (o := .cells #[.int .u64 t897, .int .u64 t898] 25 (0, 0)) (by (with_reducible repeat (first | refine blk_drewN ?_ _ | refine blk_drew ?_ | refine blk_alloc ?_ _)); exact BK900.out)) : gb914 ≠ gb900)); have n12_ := Aside0.mk ((by rw [hg]; exact Nat.ne_of_lt (blk_lt (g := gb904) (o := .cells #[.int .u64 t901, .int .u64 t902] 25 (0, 0)) (by (with_reducible repeat (first | refine blk_drewN ?_ _ | refine blk_drew ?_ | refine blk_alloc ?_ _)); exact BK904.out)) : gb904 ≠ gb914)); have n13_ := Aside0.mk ((by rw [hg]; exact Nat.ne_of_gt (blk_lt (g := gb904) (o := .cells #[.int .u64 t901, .int .u64 t902] 25 (0, 0)) (by (with_reducible repeat (first | refine blk_drewN ?_ _ | refine blk_drew ?_ | refine blk_alloc ?_ _)); exact BK904.out)) : gb914 ≠ gb904)); have n14_ := Aside0.mk ((by rw [hg]; exact Nat.ne_of_lt (blk_lt (g := gb909) (o := .cells #[.int .u64 t905, .int .u64 t906] 25 (0, 0)) (by (with_reducible repeat (first | refine blk_drewN ?_ _ | refine blk_drew ?_ | refine blk_alloc ?_ _)); exact BK909.out)) : gb909 ≠ gb914)); have n15_ := Aside0.mk ((by rw [hg]; exact Nat.ne_of_gt (blk_lt (g := gb909) (o := .cells #[.int .u64 t905, .int .u64 t906] 25 (0, 0)) (by (with_reducible repeat (first | refine blk_drewN ?_ _ | refine blk_drew ?_ | refine blk_alloc ?_ _)); exact BK909.out)) : gb914 ≠ gb909)); clear BK896; clear BK900; clear BK904; clear BK909; clear HB; have BK896 := n0_; have BK900 := n1_; have BK904 := n2_; have BK909 := n3_; have HB := n4_; have BK914 := n5_; have GW914 := n6_; have GE914 := n7_; have NB896_914 := n8_; have NB914_896 := n9_; have NB900_914 := n10_; have NB914_900 := n11_; have NB904_914 := n12_; have NB914_904 := n13_; have NB909_914 := n14_; have NB914_909 := n15_; clear n0_ n1_ n2_ n3_ n4_ n5_ n6_ n7_ n8_ n9_ n10_ n11_ n12_ n13_ n14_ n15_; clear hb hbox hg; have hnb33 := NB914_896.out; have hnc33 := NB896_914.out; have hnb34 := NB914_900.out; have hnc34 := NB900_914.out; have hnb35 := NB914_904.out; have hnc35 := NB904_914.out; have hnb36 := NB914_909.out; have hnc36 := NB909_914.out; have hcz37_0 : w32.cell? ⟨gb914, 0, none⟩ = some (.int .u64 0) := (blk_cell BK914.out 0).trans rfl; have hcz37_1 : w32.cell? ⟨gb914, 1, none⟩ = some (.int .u64 0) := (blk_cell BK914.out 1).trans rfl; have hfz37_0 := blk_frozen BK914.out 0; have hfz37_1 := blk_frozen BK914.out 1; have hcz38_0 : w32.cell? ⟨gb900, 0, none⟩ = some (.int .u64 t897) := (blk_cell BK900.out 0).trans rfl; have hcz38_1 : w32.cell? ⟨gb900, 1, none⟩ = some (.int .u64 t898) := (blk_cell BK900.out 1).trans rfl; have hfz38_0 := blk_frozen BK900.out 0; have hfz38_1 := blk_frozen BK900.out 1; have hcz39_0 : w32.cell? ⟨gb904, 0, none⟩ = some (.int .u64 t901) := (blk_cell BK904.out 0).trans rfl; have hcz39_1 : w32.cell? ⟨gb904, 1, none⟩ = some (.int .u64 t902) := (blk_cell BK904.out 1).trans rfl; have hfz39_0 := blk_frozen BK904.out 0; have hfz39_1 := blk_frozen BK904.out 1; have hcz40_0 : w32.cell? ⟨gb909, 0, none⟩ = some (.int .u64 t905) := (blk_cell BK909.out 0).trans rfl; have hcz40_1 : w32.cell? ⟨gb909, 1, none⟩ = some (.int .u64 t906) := (blk_cell BK909.out 1).trans rfl; have hfz40_0 := blk_frozen BK909.out 0; have hfz40_1 := blk_frozen BK909.out 1))
          go_ret
          exact ⟨by first | rfl | (simp [errW_none, errW_some] <;> rfl) | (simp [*, errW_none, errW_some] <;> rfl), by repeat (first | (with_reducible first | exact HB.out | apply below_alloc | apply pw_below_drewN | apply below_drew1 | refine below_set ?_ GE896.out | refine below_set ?_ GE900.out | refine below_set ?_ GE904.out | refine below_set ?_ GE909.out | refine below_set ?_ GE914.out) | exact HB.out)⟩
        · rw [if_neg c10] at H
          exact absurd H (by simp)
      · rw [if_neg c9] at H
        exact absurd H (by simp)
    · rw [if_neg c8] at H
      exact absurd H (by simp)
  · rw [if_neg c7] at H
    exact absurd H (by simp)
end Go.Proofs.Ytpkjpiphjdpegaa.P
namespace Go.Proofs.Ytpkjpiphjdpegaa.P
open Go.RowKit Go.Proofs.YtpkjpiphjdpegaaW.PrintWords Go.Proofs.YtpkjpiphjdpegaaW.PrintLast Go.Proofs.YtpkjpiphjdpegaaW.PrintMore
set_option linter.unusedVariables false
set_option linter.unusedSimpArgs false
theorem over_bit (k : Nat) (n : Int) (X q : List Int) (i : Nat) (x g rest p one : Int) (hn : 0 < n) (hn' : n < 18446744073709551616) (lX : X.length = 8) (lq : q.length = 8) (hi : i < 8) (hx : rd X i = x) (dx : D16 x) (hg : rd q i = g) (g0 : 0 ≤ g) (p0 : 0 < p) (gp : g + p ≤ 65536) (r0 : 0 ≤ rest) (r1 : rest < n) (ho : x / p % 2 = one) :
    paymasterref01_Over.l1 (k + 1) n X q rest (i : Int) p = if n ≤ 2 * rest + one then paymasterref01_Over.l1 k n X (q.set i (g + p)) (2 * rest + one - n) (i : Int) (p / 2) else paymasterref01_Over.l1 k n X q (2 * rest + one) (i : Int) (p / 2) := by
  obtain ⟨x0, x1⟩ := dx
  have d0 : 0 ≤ x / p := Int.ediv_nonneg x0 (by omega)
  have d1 : x / p ≤ x := Int.ediv_le_self _ x0
  have o0 : 0 ≤ one := by omega
  have o1 : one ≤ 1 := by omega
  simp only [paymasterref01_Over.l1]
  rw [if_pos p0, if_pos (by omega), if_pos (by omega), if_neg (by omega), hx, hg, Int.tdiv_eq_ediv_of_nonneg x0, wu (x / p) d0 (by omega), Int.tmod_eq_emod_of_nonneg d0, ho, Int.tdiv_eq_ediv_of_nonneg (a := p) (by omega), wu (p / 2) (by omega) (by omega), wu (g + p) (by omega) (by omega), wu (n - rest) (by omega) (by omega), Int.toNat_natCast]
  by_cases h1 : rest ≥ n - rest
  · rw [if_pos h1, if_pos (by omega), if_pos (show n ≤ 2 * rest + one by omega), wu (rest - (n - rest)) (by omega) (by omega), wu (rest - (n - rest) + one) (by omega) (by omega), show rest - (n - rest) + one = 2 * rest + one - n from by omega]
  · rw [if_neg h1, wu (rest + 1) (by omega) (by omega)]
    by_cases h2 : rest + 1 ≥ n - rest
    · rw [if_pos h2]
      by_cases h3 : one = 1
      · rw [if_pos h3, if_pos (by omega), if_pos (show n ≤ 2 * rest + one by omega)]
        congr 1
        rw [IntKind.wrap_u64, IntKind.wrap_u64]
        omega
      · rw [if_neg h3, if_neg (show ¬ n ≤ 2 * rest + one by omega), wu (2 * rest) (by omega) (by omega), wu (2 * rest + one) (by omega) (by omega)]
    · rw [if_neg h2, if_neg (show ¬ n ≤ 2 * rest + one by omega), wu (2 * rest) (by omega) (by omega), wu (2 * rest + one) (by omega) (by omega)]
theorem bits_split (x p : Int) (x0 : 0 ≤ x) (p0 : 0 < p) : x % (p * 2) = (x / p % 2) * p + x % p := by
  have e := Int.ediv_mul_add_emod x p
  have m0 := Int.emod_nonneg x (by omega : p ≠ 0)
  have m1 := Int.emod_lt_of_pos x p0
  have f := Int.ediv_mul_add_emod (x / p) 2
  have b0 := Int.emod_nonneg (x / p) (by omega : (2 : Int) ≠ 0)
  have b1 := Int.emod_lt_of_pos (x / p) (by omega : (0 : Int) < 2)
  generalize x / p % 2 = b at *
  generalize x / p / 2 = d at *
  generalize x % p = m at *
  have t : x = b * p + m + d * (p * 2) := by
    rw [← e, ← f, Int.add_mul, Int.mul_assoc, Int.mul_comm 2 p]
    omega
  rw [t, Int.add_mul_emod_self_right]
  have hb : b = 0 ∨ b = 1 := by omega
  rcases hb with rfl | rfl
  · exact Int.emod_eq_of_lt (by omega) (by omega)
  · exact Int.emod_eq_of_lt (by omega) (by omega)
theorem set_self (q : List Int) (i : Nat) (h : i < q.length) : q.set i (rd q i) = q := by
  have e : rd q (i : Int) = q[i] := by
    show q.getD i 0 = q[i]
    rw [List.getD_eq_getElem?_getD, List.getElem?_eq_getElem h]
    rfl
  rw [e]
  exact List.set_getElem_self h
theorem rd_set (q : List Int) (i : Nat) (v : Int) (h : i < q.length) : rd (q.set i v) i = v := by
  show (q.set i v).getD i 0 = v
  rw [List.getD_eq_getElem?_getD, List.getElem?_set_self h]
  rfl
theorem over_l1 (n : Int) (X : List Int) (i : Nat) (x : Int) (hn : 0 < n) (hn' : n < 18446744073709551616) (lX : X.length = 8) (hi : i < 8) (hx : rd X i = x) (dx : D16 x) : ∀ (s : Nat) (q : List Int) (rest g : Int), q.length = 8 → rd q i = g → 0 ≤ g → g + 2 ^ s ≤ 65536 → 0 ≤ rest → rest < n → ∀ k r,
    paymasterref01_Over.l0 k n X (q.set i (g + (rest * 2 ^ s + x % 2 ^ s) / n)) ((rest * 2 ^ s + x % 2 ^ s) % n) (wrap64 ((i : Int) - 1)) = some r → paymasterref01_Over.l1 (k + (s + 1)) n X q rest (i : Int) (2 ^ s / 2) = some r
  | 0, q, rest, g, lq, hg, g0, gs, r0, r1, k, r, h => by
    show paymasterref01_Over.l1 (k + 1) n X q rest (i : Int) ((1 : Int) / 2) = some r
    simp only [paymasterref01_Over.l1]
    rw [if_neg (by omega)]
    rw [Int.pow_zero, Int.mul_one, Int.emod_one, Int.add_zero, Int.ediv_eq_zero_of_lt r0 r1, Int.add_zero, Int.emod_eq_of_lt r0 r1, ← hg, set_self q i (by omega)] at h
    exact h
  | s + 1, q, rest, g, lq, hg, g0, gs, r0, r1, k, r, h => by
    have P0 : (0 : Int) < 2 ^ s := Int.pow_pos (by omega)
    rw [Int.pow_succ] at gs h ⊢
    obtain ⟨p, hp⟩ : ∃ p : Int, 2 ^ s = p := ⟨_, rfl⟩
    have IH := over_l1 n X i x hn hn' lX hi hx dx s
    rw [hp] at gs h IH P0 ⊢
    have dx' := dx
    obtain ⟨x0, x1⟩ := dx'
    obtain ⟨one, ho⟩ : ∃ o : Int, x / p % 2 = o := ⟨_, rfl⟩
    have B := bits_split x p x0 P0
    rw [ho] at B
    rw [show p * 2 / 2 = p from Int.mul_ediv_cancel _ (by omega)]
    have S := over_bit (k + (s + 1)) n X q i x g rest p one hn hn' lX lq hi hx dx hg g0 P0 (by omega) r0 r1 ho
    have o0 : 0 ≤ one := by omega
    have o1 : one ≤ 1 := by omega
    have M : rest * (p * 2) + x % (p * 2) = (2 * rest + one) * p + x % p := by
      rw [B, Int.add_mul, Int.mul_comm p 2, ← Int.mul_assoc, Int.mul_comm rest 2]
      omega
    rw [M] at h
    refine S.trans ?_
    by_cases c : n ≤ 2 * rest + one
    · rw [if_pos c]
      refine IH _ _ (g + p) (by rw [List.length_set]; exact lq) (rd_set q i _ (by omega)) (by omega) (by omega) (by omega) (by omega) k r ?_
      have M2 : (2 * rest + one) * p + x % p = (2 * rest + one - n) * p + x % p + p * n := by
        rw [Int.sub_mul, Int.mul_comm n p]
        omega
      rw [M2, Int.add_mul_ediv_right _ _ (by omega), Int.add_mul_emod_self_right] at h
      rw [List.set_set, show g + p + ((2 * rest + one - n) * p + x % p) / n = g + (((2 * rest + one - n) * p + x % p) / n + p) from by omega]
      exact h
    · rw [if_neg c]
      exact IH q (2 * rest + one) g lq hg g0 (by omega) (by omega) (by omega) k r h
theorem set_mid : ∀ (t : Nat) (Q : List Int) (d : Int), (List.replicate (t + 1) 0 ++ Q).set t d = List.replicate t 0 ++ (d :: Q)
  | 0, Q, d => rfl
  | t + 1, Q, d => by
    rw [List.replicate_succ, List.cons_append, List.set_cons_succ, set_mid t Q d]
    rfl
theorem rd_mid : ∀ (t : Nat) (Q : List Int), rd (List.replicate (t + 1) 0 ++ Q) (t : Int) = 0
  | 0, Q => rfl
  | t + 1, Q => rd_mid t Q
theorem over_l0 (n : Int) (X : List Int) (hn : 0 < n) (hn' : n < 18446744073709551616) (lX : X.length = 8) (dX : Ds X) : ∀ (t : Nat) (Q : List Int) (rest : Int), t + Q.length = 8 → 0 ≤ rest → rest < n →
    ∃ R rest', R.length = t ∧ Ds R ∧ 0 ≤ rest' ∧ rest' < n ∧ numL R * n + rest' = rest * 65536 ^ t + numL (X.take t) ∧ ∀ k r, paymasterref01_Over.l0 k n X (R ++ Q) rest' (-1) = some r → paymasterref01_Over.l0 (k + 18 * t) n X (List.replicate t 0 ++ Q) rest ((t : Int) - 1) = some r
  | 0, Q, rest, hl, r0, r1 => by
    refine ⟨[], rest, rfl, fun d hd => (by cases hd), r0, r1, ?_, fun k r h => h⟩
    simp [numL]
  | t + 1, Q, rest, hl, r0, r1 => by
    have dx := Ds_getD (m := t) dX (by omega)
    obtain ⟨x, hx⟩ : ∃ x, rd X t = x := ⟨_, rfl⟩
    have dx : D16 x := by rw [← hx]; exact dx
    have dx' := dx
    obtain ⟨x0, x1⟩ := dx'
    obtain ⟨d, hd⟩ : ∃ d, (rest * 65536 + x) / n = d := ⟨_, rfl⟩
    obtain ⟨e, he⟩ : ∃ e, (rest * 65536 + x) % n = e := ⟨_, rfl⟩
    have E := Int.ediv_mul_add_emod (rest * 65536 + x) n
    rw [hd, he] at E
    have e0 : 0 ≤ e := by rw [← he]; exact Int.emod_nonneg _ (by omega)
    have e1 : e < n := by rw [← he]; exact Int.emod_lt_of_pos _ hn
    have d0 : 0 ≤ d := by rw [← hd]; exact Int.ediv_nonneg (by omega) (by omega)
    have d1 : d < 65536 := by
      rw [← hd]
      exact Int.ediv_lt_of_lt_mul hn (by omega)
    obtain ⟨R, rest', a1, a2, a3, a4, a5, a6⟩ := over_l0 n X hn hn' lX dX t (d :: Q) e (by simp only [List.length_cons]; omega) e0 e1
    refine ⟨R ++ [d], rest', by simp [a1], ?_, a3, a4, ?_, fun k r h => ?_⟩
    · intro z hz
      rcases List.mem_append.1 hz with h | h
      · exact a2 z h
      · rw [List.mem_singleton] at h
        subst h
        exact ⟨d0, d1⟩
    · have T : X.take (t + 1) = X.take t ++ [x] := by
        have g : X[t]'(by omega) = x := by
          rw [← hx]
          show _ = X.getD t 0
          rw [List.getD_eq_getElem?_getD, List.getElem?_eq_getElem (by omega)]
          rfl
        rw [List.take_succ_eq_append_getElem (by omega), g]
      have ll : (X.take t).length = t := by rw [List.length_take]; omega
      rw [T, numL_append, numL_append, a1, ll, Int.pow_succ]
      have s1 : ∀ z : Int, numL [z] = z := fun z => by simp [numL]
      rw [s1, s1]
      have P : (d * n + e) * 65536 ^ t = (rest * 65536 + x) * 65536 ^ t := by rw [E]
      rw [Int.add_mul, Int.add_mul] at P
      rw [Int.add_mul, Int.mul_right_comm d, Int.mul_comm (65536 ^ t) 65536, ← Int.mul_assoc]
      omega
    · have F := a6 k r (by rw [List.append_assoc] at h; exact h)
      rw [show k + 18 * (t + 1) = k + 18 * t + 17 + 1 from by omega]
      rw [show ((t + 1 : Nat) : Int) - 1 = (t : Int) from by omega]
      simp only [paymasterref01_Over.l0]
      rw [if_pos (by omega)]
      have lq : (List.replicate (t + 1) (0 : Int) ++ Q).length = 8 := by rw [List.length_append, List.length_replicate]; exact hl
      refine over_l1 n X t x hn hn' lX (by omega) hx dx 16 (List.replicate (t + 1) 0 ++ Q) rest 0 lq (rd_mid t Q) (by omega) (by omega) r0 r1 (k + 18 * t) r ?_
      rw [show x % 2 ^ 16 = x from Int.emod_eq_of_lt x0 x1, show rest * 2 ^ 16 + x = rest * 65536 + x from rfl, hd, he, set_mid, Int.zero_add, wi _ (by omega) (by omega)]
      exact F
theorem refOver_is (k : Nat) (a b n : Int) (ha : U64 a) (hb : U64 b) (hn : U64 n) : paymasterref01_Over.f (k + 180) a b n = u128_Over.f a b n := by
  unfold paymasterref01_Over.f
  by_cases h : n = 0
  · rw [if_pos h]
    unfold u128_Over.f
    rw [if_pos (show U64 a ∧ U64 b ∧ U64 n from ⟨ha, hb, hn⟩), if_pos h]
  rw [if_neg h, over_num a b n ha hb hn h]
  have A : paymasterref01_digits.f (k + 180) a b = some (dg a b) := digits_is (k + 170) a b ha hb
  rw [A, Option.bind_some, if_pos (by omega)]
  clear A
  obtain ⟨vX, dX, lX⟩ := numL_dg a b ha hb
  have n0 : 0 < n := by have := hn.1; omega
  obtain ⟨R, rest, a1, a2, a3, a4, a5, a6⟩ := over_l0 n (dg a b) n0 hn.2 lX dX 8 [] 0 rfl (by omega) n0
  rw [Int.zero_mul, Int.zero_add, List.take_of_length_le (by omega), vX] at a5
  have q : val a b / n = numL R := by
    rw [← a5, Int.add_comm, Int.add_mul_ediv_right _ _ h, Int.ediv_eq_zero_of_lt a3 a4, Int.zero_add]
  have m : val a b % n = rest := by
    rw [← a5, Int.add_comm, Int.add_mul_emod_self_right, Int.emod_eq_of_lt a3 a4]
  have N := number8' (k + 10) R a1 a2
  rw [q, m]
  refine a6 (k + 36) _ ?_
  rw [List.append_nil, show k + 36 = k + 35 + 1 from rfl, paymasterref01_Over.l0, if_neg (by omega), show k + 35 = k + 10 + 25 from rfl, N, Option.bind_some]
end Go.Proofs.Ytpkjpiphjdpegaa.P
namespace Go.Proofs.Ytpkjpiphjdpegaa.P
open Go.RowKit Go.Proofs.YtpkjpiphjdpegaaW.PrintWords Go.Proofs.YtpkjpiphjdpegaaW.PrintLast Go.Proofs.YtpkjpiphjdpegaaW.PrintMore
set_option linter.unusedVariables false
set_option linter.unusedSimpArgs false
theorem u128Times_pure (a b n : Int) (ha : U64 a) (hb : U64 b) (hn : U64 n) : paymasterlaw01_U128Times.f 720 a b n = some true := by
  have T : paymasterref01_Times.f 720 a b n = u128_Times.f a b n := refTimes_is 0 a b n ha hb hn
  have O : paymasterref01_Over.f 720 a b n = u128_Over.f a b n := refOver_is 540 a b n ha hb hn
  unfold paymasterlaw01_U128Times.f
  rw [T, O]
  have t : ∃ x, u128_Times.f a b n = some x := by
    rw [times_num a b n ha hb hn]
    by_cases h : val a b * n < m128
    · rw [if_pos h]; exact ⟨_, rfl⟩
    · rw [if_neg h]; exact ⟨_, rfl⟩
  have o : ∃ x, u128_Over.f a b n = some x := by
    by_cases h : n = 0
    · unfold u128_Over.f
      rw [if_pos (show U64 a ∧ U64 b ∧ U64 n from ⟨ha, hb, hn⟩), if_pos h]
      exact ⟨_, rfl⟩
    · rw [over_num a b n ha hb hn h]; exact ⟨_, rfl⟩
  obtain ⟨x, ex⟩ := t
  obtain ⟨y, ey⟩ := o
  rw [ex, ey, Option.bind_some, Option.bind_some, Option.bind_some, Option.bind_some, if_pos (by simp), if_pos rfl, if_pos (by simp), if_pos rfl]
  simp
theorem u128Times_walk {w : World} (a b : Int) (ha : U64 a) (hb : U64 b) (n : Int) (hn : (Lit.int .u64 n).wf = true) :
    Calls Try.prog 10 #[.agg #[.int .u64 a, .int .u64 b], .int .u64 n] w fun e w' => e = .returned (.bool true) ∧ Below w.heap.size w w' :=
  paymasterlaw01_U128Times.calls 720 a b n true w (u128Times_pure a b n ha hb (lit_u64 hn))
end Go.Proofs.Ytpkjpiphjdpegaa.P
namespace Go.Proofs.Ytpkjpiphjdpegaa.u128Times
open Go.ChangeShapes Go.WideShapes Go.ChangeAt Go.RowKit Go.Proofs.Ytpkjpiphjdpegaa.P
open Go.ChangeMaps (open_string shut_string)
set_option linter.unusedVariables false
theorem own : ownKnob Try.prog.godebug = none := by kernel_rfl
theorem laidOut : laidOutB Try.prog = true := by kernel_rfl
set_option maxRecDepth 100000 in
theorem lifted (os : Os) (started : os.Started) (H : Type) (enc : TypeId × Value → H) :
    ReturnsInHanded {} Try.checked os 10 .any (Rows.u128TimesSpec.pre6 enc Try.prog Try.f10 Rows.u128TimesRow.domain false) (Rows.u128TimesSpec.post enc Try.prog Try.f10 false true false false) := by
  refine returnsInHanded_of_change_sized (C := Try.checked) own started (by kernel_rfl) Try.func10
    (ChangeSpec.witness6 (enc := enc) (C := Try.checked) false ⟨#[], #[.agg #[.int .u64 0, .int .u64 0], .int .u64 0], []⟩ 8 (by kernel_rfl) (by kernel_rfl) (by kernel_rfl) (by kernel_rfl)) ?_
  intro W base args ds gs before hval0 hW hcnd hsz0 _
  have hval : ∀ (j : Nat) t v, Try.f10.params[j]? = some t → args[j]? = some v → Value.okWide Try.prog W .any base t v := hval0
  have hW' := hW
  obtain ⟨p, q, hA0, hV, rfl, hfz, hnd⟩ := hW
  have hA : DataW.TrodAll enc Try.prog W 0 (fun _ => true) true Try.f10.params.toList args.toList ds p := hA0
  rw [Try.params10] at hA hval
  have hAll := hA
  obtain ⟨v0, vs0, d0, ds0, p0, q0, hargs, rfl, rfl, h0, r0⟩ := trodAll_cons hA
  obtain ⟨v1, vs1, d1, ds1, p1, q1, rfl, rfl, rfl, h1, r1⟩ := trodAll_cons r0
  obtain ⟨rfl, rfl, rfl⟩ := trodAll_nil r1
  obtain rfl : args = #[v0, v1] := by cases args; simp_all
  obtain ⟨rfl, rfl⟩ := trodVars_none hV
  obtain ⟨a0_0, a0_1, rfl, g0_0, g0_1⟩ := arg_25 (hval 0 25 v0 rfl rfl) h0
  obtain ⟨a1, rfl, g1⟩ := arg_int Try.underlying23 (hval 1 23 v1 rfl rfl) h1
  clear hA0 hval0 hsz0
  refine (u128Times_walk (w := W) a0_0 a0_1 g0_0 g0_1 a1 g1).mono fun e W' ⟨he, bel⟩ => ?_
  subst he
  exact ⟨_, rfl, _, _, _, [], _, [], hW', trodAll_mk1 (shut_bool Try.underlying4 _), args_back laidOut bel (by kernel_rfl) hAll, rfl, bel.frame _, fun h => by cases h⟩
theorem both {a b : Bool} (h : a = true) (k : b = true) : (a && b) = true := by rw [h, k]; rfl
theorem c0 : (Rows.u128TimesRow.wf (OpenSpec.ofChange Rows.u128TimesSpec)) = true := by kernel_rfl
theorem c1 : (laidOutB Try.prog) = true := by kernel_rfl
theorem c2 : (mapsRowed Try.prog) = true := by kernel_rfl
theorem c3 : (Try.f10.params.all (Try.prog.readableRec ·)) = true := by kernel_rfl
theorem c4 : (namedTie Try.prog Rows.u128TimesRow.named Rows.u128TimesSpec.vars) = true := by kernel_rfl
theorem c5 : ((Rows.u128TimesRow.stops == [])) = true := by kernel_rfl
theorem c6 : ((Try.prog.stops == [])) = true := by kernel_rfl
theorem c7 : ((Rows.u128TimesRow.knobs == [])) = true := by kernel_rfl
theorem c8 : ((Try.prog.stopKnobs == [])) = true := by kernel_rfl
theorem c9 : ((Rows.u128TimesRow.inPlace == Try.prog.inPlace 10)) = true := by kernel_rfl
theorem c10 : ((Rows.u128TimesRow.unfollowed == Try.prog.unfollowed 10)) = true := by kernel_rfl
theorem c11 : ((Rows.u128TimesRow.recurses == Try.prog.recurses 10)) = true := by kernel_rfl
theorem c12 : ((Rows.u128TimesRow.named == Try.prog.varsNamed 10)) = true := by kernel_rfl
theorem c13 : ((Rows.u128TimesRow.maps == (Try.f10.params.toList ++ Rows.u128TimesSpec.plain.varTypes Try.prog).any (Try.prog.mapsRec ·))) = true := by kernel_rfl
theorem c14 : ((Rows.u128TimesRow.ifaces == (Try.f10.params.toList ++ Rows.u128TimesSpec.plain.varTypes Try.prog).any (Try.prog.ifacesRec ·))) = true := by kernel_rfl
theorem c15 : ((Rows.u128TimesRow.mapsOut == Try.prog.mapsAmong Try.f10.resultTypes.toList)) = true := by kernel_rfl
theorem c16 : ((Rows.u128TimesRow.loops == (Try.f10.params.toList ++ Rows.u128TimesSpec.plain.varTypes Try.prog).any (Try.prog.loopsFrom ·))) = true := by kernel_rfl
theorem c17 : ((Rows.u128TimesRow.wideKeys == (Try.f10.params.toList ++ Rows.u128TimesSpec.plain.varTypes Try.prog ++ Try.f10.resultTypes.toList).any (Try.prog.wideKeysFrom ·))) = true := by kernel_rfl
theorem c18 : (Rows.u128TimesSpec.vars.all (Try.prog.varReadable ·)) = true := by kernel_rfl
theorem c19 : (Try.f10.resultTypes.all (fun t => Try.prog.readableRec t && decide (t < Try.prog.types.size))) = true := by kernel_rfl
theorem c20 : ((Rows.u128TimesRow.ifacesOut == Try.f10.resultTypes.toList.any (Try.prog.ifacesRec ·))) = true := by kernel_rfl
theorem c21 : ((Rows.u128TimesRow.loopsOut == Try.f10.resultTypes.toList.any (Try.prog.loopsFrom ·))) = true := by kernel_rfl
theorem c22 : ((Rows.u128TimesRow.plainKeys == Try.prog.plainKeys)) = true := by kernel_rfl
theorem c23 : (Rows.u128TimesRow.shortTexts.isNone) = true := by kernel_rfl
theorem c24 : (Try.prog.stopsHeard) = true := by kernel_rfl
theorem c25 : (Try.prog.mayEnter) = true := Facts.mayEnter
theorem c26 : ((Rows.u128TimesRow.lifted == Try.prog.liftsFinal)) = true := by rw [Facts.liftsFinal]; kernel_rfl
theorem c27 : ((Try.prog.make == some Rows.u128TimesRow.make)) = true := by rw [Facts.make]; kernel_rfl
theorem c28 : ((Rows.u128TimesRow.kinds == (if Rows.u128TimesRow.domain.isEmpty then [] else Try.f10.params.toList.map fun t => match Try.prog.underlying t with | some (.int k) => some k | _ => none))) = true := by kernel_rfl
theorem c29 : ((Rows.u128TimesRow.pinned == Rows.u128TimesRow.pinnedBy)) = true := by kernel_rfl
theorem c30 : ((Rows.u128TimesRow.veiled == (Try.f10.params.toList ++ Rows.u128TimesSpec.plain.varTypes Try.prog ++ Try.f10.resultTypes.toList).any (Try.prog.veiledRec ·))) = true := by kernel_rfl
theorem c31 : (Rows.u128TimesRow.veiledFits Try.prog Try.f10.params.toList (Try.f10.params.toList ++ Rows.u128TimesSpec.plain.varTypes Try.prog ++ Try.f10.resultTypes.toList)) = true := by kernel_rfl
set_option maxRecDepth 100000 in
theorem closed : joinedFacts Try.prog 10 Try.f10 Rows.u128TimesSpec Rows.u128TimesRow = true := by
  unfold joinedFacts
  exact both (both (both (both (both (both (both (both (both (both (both (both (both (both (both (both (both (both (both (both (both (both (both (both (both (both (both (both (both (both (both (c0) c1) c2) c3) c4) c5) c6) c7) c8) c9) c10) c11) c12) c13) c14) c15) c16) c17) c18) c19) c20) c21) c22) c23) c24) c25) c26) c27) c28) c29) c30) c31
theorem over : Rows.u128TimesRow.holds Try.pinned (OpenSpec.ofChange Rows.u128TimesSpec) :=
  OpenClaim.holds_of_wide 10 Try.f10 rfl rfl rfl rfl rfl rfl rfl ⟨rfl, rfl, rfl, rfl, rfl⟩ rfl rfl rfl rfl rfl (by kernel_rfl) Try.func10 closed
    (of_decide_eq_true (by kernel_rfl)) (by unfold Func.isWrapper; first | (rw [if_pos (by decide +kernel)]; kernel_rfl) | (rw [if_neg (by decide +kernel)]; exact ⟨rfl, rfl⟩))
    (fun os started H enc _ => lifted os started H enc)
end Go.Proofs.Ytpkjpiphjdpegaa.u128Times
namespace Go.Proofs.Ytpkjpiphjdpegaa
theorem u128Times_holds : Rows.U128TimesSaid := u128Times.over
end Go.Proofs.Ytpkjpiphjdpegaa
