/- The law WideAll: pure, and walked. -/
import Derived.Test.YtpkjpiphjdpegaaQ5
namespace Go.Proofs.Ytpkjpiphjdpegaa.P
open Go.RowKit Go.Proofs.YtpkjpiphjdpegaaW.PrintWords Go.Proofs.YtpkjpiphjdpegaaW.PrintLast Go.Proofs.YtpkjpiphjdpegaaW.PrintMore
set_option linter.unusedVariables false
set_option linter.unusedSimpArgs false

theorem wideAll_loop (l : List S25) (hl : l.length ≤ 200) : ∀ (d i k : Nat), i + d = l.length → d < k → paymasterlaw03_WideAll.l0 k l l (i : Int) = some true
  | 0, i, k, hi, hk => by
    obtain ⟨k, rfl⟩ : ∃ m, k = m + 1 := ⟨k - 1, by omega⟩
    rw [paymasterlaw03_WideAll.l0, if_neg (by omega)]
  | d + 1, i, k, hi, hk => by
    obtain ⟨k, rfl⟩ : ∃ m, k = m + 1 := ⟨k - 1, by omega⟩
    rw [paymasterlaw03_WideAll.l0, if_pos (by omega), if_pos (by omega), if_pos (by omega), if_neg (by simp), wi _ (by omega) (by omega), show (i : Int) + 1 = ((i + 1 : Nat) : Int) by omega]
    exact wideAll_loop l hl d (i + 1) k (by omega) (by omega)

theorem wideAll_pure (l0 l1 : List S25) (g0 : ∀ y ∈ l0, U64 y.f0 ∧ U64 y.f1) (g1 : ∀ y ∈ l1, U64 y.f0 ∧ U64 y.f1) : ∃ k, paymasterlaw03_WideAll.f k l0 l1 = some true := by
  refine ⟨602, ?_⟩
  unfold paymasterlaw03_WideAll.f
  have T : ∀ k, paymasterlaw03_WideAll.j0 (k + 1) l0 l1 true = some true := fun k => by rw [paymasterlaw03_WideAll.j0, if_pos rfl]
  by_cases h0 : (l0.length : Int) > 200
  · rw [if_pos h0]
    exact T 601
  rw [if_neg h0]
  by_cases h1 : (l1.length : Int) > 200
  · rw [decide_eq_true h1]
    exact T 601
  rw [decide_eq_false h1]
  have hz : U64 0 := ⟨by omega, by omega⟩
  obtain ⟨r1, r2, r3, e0, _⟩ := wfold_some l0 g0 0 0 0 hz hz hz
  obtain ⟨q1, q2, q3, e1, _⟩ := wfold_some l1 g1 0 0 0 hz hz hz
  have a0 : wide_sum.f 601 l0 = some (r1, r2, r3) := (wide_sum_is l0 (by omega) 601 (by omega)).trans e0
  have a1 : wide_sum.f 601 l1 = some (q1, q2, q3) := (wide_sum_is l1 (by omega) 601 (by omega)).trans e1
  have b0 : paymasterref03_All.f 601 l0 = some (r1, r2, r3) := (ref_sum_is l0 (by omega) g0 601 (by omega)).trans e0
  have b1 : paymasterref03_All.f 601 l1 = some (q1, q2, q3) := (ref_sum_is l1 (by omega) g1 601 (by omega)).trans e1
  have hj : paymasterlaw03_WideAll.j0 602 l0 l1 false = paymasterlaw03_WideAll.j1 601 l0 l0 false := by
    show paymasterlaw03_WideAll.j0 (601 + 1) l0 l1 false = _
    rw [paymasterlaw03_WideAll.j0, if_neg (by simp)]
    simp only [Option.bind_some, List.nil_append, wide_All.f, wide_Balanced.f, a0, a1, b0, b1]
    rw [if_pos (by simp; omega), if_neg (by simp)]
    congr 1
    simp
  rw [hj]
  show paymasterlaw03_WideAll.j1 (600 + 1) l0 l0 false = _
  rw [paymasterlaw03_WideAll.j1, if_neg (by simp)]
  exact wideAll_loop l0 (by omega) l0.length 0 600 (by omega) (by omega)

theorem wideAll_walk {w : World} (A0 : Option Addr) (c0 : Nat) (l0 : List S25) (hr0 : k25.C w A0 l0.length l0) (hc0 : l0.length ≤ c0) (g0 : ∀ y ∈ l0, U64 y.f0 ∧ U64 y.f1)
    (A1 : Option Addr) (c1 : Nat) (l1 : List S25) (hr1 : k25.C w A1 l1.length l1) (hc1 : l1.length ≤ c1) (g1 : ∀ y ∈ l1, U64 y.f0 ∧ U64 y.f1) :
    Calls Try.prog 3 #[.slice A0 l0.length c0, .slice A1 l1.length c1] w fun e w' => e = .returned (.bool true) ∧ Below w.heap.size w w' := by
  obtain ⟨k, h⟩ := wideAll_pure l0 l1 g0 g1
  exact paymasterlaw03_WideAll.calls k A0 c0 l0 A1 c1 l1 true w hr0 hc0 hr1 hc1 h
end Go.Proofs.Ytpkjpiphjdpegaa.P
