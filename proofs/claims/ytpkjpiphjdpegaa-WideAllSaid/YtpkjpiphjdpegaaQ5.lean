/- Pure facts of layer 3: the reference's sum is the program's; the law WideAll. -/
import Derived.Test.YtpkjpiphjdpegaaQ4
import Derived.Test.YtpkjpiphjdpegaaPx10
namespace Go.Proofs.Ytpkjpiphjdpegaa.P
open Go.RowKit Go.Proofs.YtpkjpiphjdpegaaW.PrintWords Go.Proofs.YtpkjpiphjdpegaaW.PrintLast Go.Proofs.YtpkjpiphjdpegaaW.PrintMore
set_option linter.unusedVariables false
set_option linter.unusedSimpArgs false

theorem u_hiOf (n : Int) (h : 0 ≤ n) (h' : n < m128) : U64 (hiOf n) ∧ U64 (loOf n) := by unfold hiOf loOf m128 at *; constructor <;> constructor <;> omega
theorem val_halves (n : Int) : val (hiOf n) (loOf n) = n := by unfold val hiOf loOf; omega
theorem val_range (a b : Int) (ha : U64 a) (hb : U64 b) : 0 ≤ val a b ∧ val a b < m128 := by
  obtain ⟨a0, a1⟩ := ha
  obtain ⟨b0, b1⟩ := hb
  unfold val m128; omega

theorem refPlus_is (k : Nat) (h a b c d : Int) (hh : U64 h) (ha : U64 a) (hb : U64 b) (hc : U64 c) (hd : U64 d) : paymasterref03_Plus.f (k + 60) h a b c d = wide_Wide_And.f h a b 0 c d := by
  have h0 : U64 0 := ⟨by omega, by omega⟩
  have hm : U64 18446744073709551615 := ⟨by omega, by omega⟩
  have h1 : U64 1 := ⟨by omega, by omega⟩
  have A : paymasterref01_Add.f (k + 60) a b c d = u128_Add.f a b c d := refAdd_is (k + 10) a b c d ha hb hc hd
  unfold paymasterref03_Plus.f
  rw [A]
  clear A
  have v1 := val_range a b ha hb
  have v2 := val_range c d hc hd
  by_cases hs : val a b + val c d < m128
  · have e : u128_Add.f a b c d = some (hiOf (val a b + val c d), loOf (val a b + val c d), 0) := by
      unfold u128_Add.f
      rw [if_pos (show U64 a ∧ U64 b ∧ U64 c ∧ U64 d from ⟨ha, hb, hc, hd⟩), if_pos hs]
    rw [e]
    simp only [Option.bind_some, if_true]
    unfold wide_Wide_And.f
    rw [if_pos (show U64 h ∧ U64 a ∧ U64 b ∧ U64 0 ∧ U64 c ∧ U64 d from ⟨hh, ha, hb, h0, hc, hd⟩)]
    have q : (val a b + val c d) / m128 = 0 := Int.ediv_eq_zero_of_lt (by omega) hs
    have r : (val a b + val c d) % m128 = val a b + val c d := Int.emod_eq_of_lt (by omega) hs
    rw [q, r, if_pos (by have := hh.2; omega)]
    simp
  · have e : u128_Add.f a b c d = some (0, 0, 10) := by
      unfold u128_Add.f
      rw [if_pos (show U64 a ∧ U64 b ∧ U64 c ∧ U64 d from ⟨ha, hb, hc, hd⟩), if_neg hs]
    rw [e]
    simp only [Option.bind_some, paymasterref01_Most.f]
    rw [if_neg (by omega)]
    have B : paymasterref01_Sub.f (k + 60) 18446744073709551615 18446744073709551615 c d = u128_Sub.f 18446744073709551615 18446744073709551615 c d := refSub_is (k + 10) _ _ c d hm hm hc hd
    rw [B]
    clear B
    have vm : val 18446744073709551615 18446744073709551615 = m128 - 1 := by unfold val m128; rfl
    have e2 : u128_Sub.f 18446744073709551615 18446744073709551615 c d = some (hiOf (m128 - 1 - val c d), loOf (m128 - 1 - val c d), 0) := by
      unfold u128_Sub.f
      rw [if_pos (show U64 18446744073709551615 ∧ U64 18446744073709551615 ∧ U64 c ∧ U64 d from ⟨hm, hm, hc, hd⟩), vm, if_pos (by omega)]
    rw [e2]
    simp only [Option.bind_some]
    obtain ⟨u1, u2⟩ := u_hiOf (m128 - 1 - val c d) (by omega) (by omega)
    have C : paymasterref01_Add.f (k + 60) (hiOf (m128 - 1 - val c d)) (loOf (m128 - 1 - val c d)) 0 1 = u128_Add.f (hiOf (m128 - 1 - val c d)) (loOf (m128 - 1 - val c d)) 0 1 := refAdd_is (k + 10) _ _ 0 1 u1 u2 h0 h1
    rw [C]
    clear C
    have v01 : val 0 1 = 1 := rfl
    have e3 : u128_Add.f (hiOf (m128 - 1 - val c d)) (loOf (m128 - 1 - val c d)) 0 1 = some (hiOf (m128 - val c d), loOf (m128 - val c d), 0) := by
      unfold u128_Add.f
      rw [if_pos (show U64 (hiOf (m128 - 1 - val c d)) ∧ U64 (loOf (m128 - 1 - val c d)) ∧ U64 0 ∧ U64 1 from ⟨u1, u2, h0, h1⟩), val_halves, v01, if_pos (by omega), show m128 - 1 - val c d + 1 = m128 - val c d by omega]
    rw [e3]
    simp only [Option.bind_some]
    obtain ⟨u3, u4⟩ := u_hiOf (m128 - val c d) (by omega) (by omega)
    have D : paymasterref01_Sub.f (k + 60) a b (hiOf (m128 - val c d)) (loOf (m128 - val c d)) = u128_Sub.f a b (hiOf (m128 - val c d)) (loOf (m128 - val c d)) := refSub_is (k + 10) a b _ _ ha hb u3 u4
    rw [D]
    clear D
    have e4 : u128_Sub.f a b (hiOf (m128 - val c d)) (loOf (m128 - val c d)) = some (hiOf (val a b + val c d - m128), loOf (val a b + val c d - m128), 0) := by
      unfold u128_Sub.f
      rw [if_pos (show U64 a ∧ U64 b ∧ U64 (hiOf (m128 - val c d)) ∧ U64 (loOf (m128 - val c d)) from ⟨ha, hb, u3, u4⟩), val_halves, if_pos (by omega), show val a b - (m128 - val c d) = val a b + val c d - m128 by omega]
    rw [e4]
    simp only [Option.bind_some]
    unfold wide_Wide_And.f
    rw [if_pos (show U64 h ∧ U64 a ∧ U64 b ∧ U64 0 ∧ U64 c ∧ U64 d from ⟨hh, ha, hb, h0, hc, hd⟩)]
    have q : (val a b + val c d) / m128 = 1 := by
      unfold m128 at *; omega
    have r : (val a b + val c d) % m128 = val a b + val c d - m128 := by
      unfold m128 at *; omega
    rw [q, r]
    have hl := hh.1
    have hr := hh.2
    by_cases ht : h < 18446744073709551615
    · rw [if_pos ht, if_pos (show h + 0 + 1 < 18446744073709551616 by omega), wu _ (by omega) (by omega)]
      simp
    · rw [if_neg ht, if_neg (show ¬ h + 0 + 1 < 18446744073709551616 by omega)]
      have : h = 18446744073709551615 := by omega
      rw [this]

/-- the sum of all, from a wide number on -/
def wfold : List S25 → Int → Int → Int → Option (Int × Int × Int)
  | [], h, a, b => some (h, a, b)
  | x :: xs, h, a, b => (wide_Wide_And.f h a b 0 x.f0 x.f1).bind fun t => wfold xs t.1 t.2.1 t.2.2

theorem rd25 (l : List S25) (i : Nat) (h : i < l.length) : rd_T25 l (i : Int) = l[i] := by
  unfold rd_T25
  simp [List.getD_eq_getElem?_getD, List.getElem?_eq_getElem h]

theorem wide_sum_from (l : List S25) (hl : l.length < 9223372036854775807) : ∀ (d i k : Nat) (h a b : Int), i + d = l.length → d < k → wide_sum.l0 k l (l.length : Int) (i : Int) h a b = wfold (l.drop i) h a b
  | 0, i, k, h, a, b, hi, hk => by
    obtain ⟨k, rfl⟩ : ∃ m, k = m + 1 := ⟨k - 1, by omega⟩
    rw [wide_sum.l0, if_neg (by omega), List.drop_of_length_le (by omega)]
    rfl
  | d + 1, i, k, h, a, b, hi, hk => by
    obtain ⟨k, rfl⟩ : ∃ m, k = m + 1 := ⟨k - 1, by omega⟩
    rw [wide_sum.l0, if_pos (by omega), if_pos (by omega), if_pos (by omega), rd25 l i (by omega), List.drop_eq_getElem_cons (by omega)]
    unfold wide_Wide_Plus.f wide_Of.f
    simp only [Option.bind_some, wfold]
    rw [wi _ (by omega) (by omega), show (i : Int) + 1 = ((i + 1 : Nat) : Int) by omega]
    cases wide_Wide_And.f h a b 0 l[i].f0 l[i].f1 with
    | none => rfl
    | some t => exact wide_sum_from l hl d (i + 1) k t.1 t.2.1 t.2.2 (by omega) (by omega)
theorem wide_sum_is (l : List S25) (hl : l.length < 9223372036854775807) (k : Nat) (hk : l.length < k) : wide_sum.f k l = wfold l 0 0 0 := by
  unfold wide_sum.f
  exact (wide_sum_from l hl l.length 0 k 0 0 0 (by omega) hk).trans (by rw [List.drop_zero])

theorem and_u64 {h a b g c d r1 r2 r3 : Int} (e : wide_Wide_And.f h a b g c d = some (r1, r2, r3)) : U64 r1 ∧ U64 r2 ∧ U64 r3 := by
  unfold wide_Wide_And.f at e
  split at e
  · rename_i hu
    simp only [Option.some.injEq, Prod.mk.injEq] at e
    obtain ⟨rfl, rfl, rfl⟩ := e
    have hm : (0 : Int) < m128 := by unfold m128; omega
    obtain ⟨u1, u2⟩ := u_hiOf ((val a b + val c d) % m128) (Int.emod_nonneg _ (by omega)) (Int.emod_lt_of_pos _ hm)
    have v1 := val_range a b hu.2.1 hu.2.2.1
    have v2 := val_range c d hu.2.2.2.2.1 hu.2.2.2.2.2
    have q : 0 ≤ (val a b + val c d) / m128 := Int.ediv_nonneg (by omega) (by omega)
    refine ⟨?_, u1, u2⟩
    have := hu.1.1
    have := hu.2.2.2.1.1
    split <;> constructor <;> omega
  · cases e
theorem and_some (h a b g c d : Int) (hh : U64 h) (ha : U64 a) (hb : U64 b) (hg : U64 g) (hc : U64 c) (hd : U64 d) : ∃ r1 r2 r3, wide_Wide_And.f h a b g c d = some (r1, r2, r3) := by
  unfold wide_Wide_And.f
  rw [if_pos (show U64 h ∧ U64 a ∧ U64 b ∧ U64 g ∧ U64 c ∧ U64 d from ⟨hh, ha, hb, hg, hc, hd⟩)]
  exact ⟨_, _, _, rfl⟩

theorem ref_sum_from (l : List S25) (hl : l.length < 9223372036854775807) (hg : ∀ y ∈ l, U64 y.f0 ∧ U64 y.f1) : ∀ (d i k : Nat) (h a b : Int), U64 h → U64 a → U64 b → i + d = l.length → d + 60 < k → paymasterref03_All.l0 k l (i : Int) h a b = wfold (l.drop i) h a b
  | 0, i, k, h, a, b, hh, ha, hb, hi, hk => by
    obtain ⟨k, rfl⟩ : ∃ m, k = m + 1 := ⟨k - 1, by omega⟩
    rw [paymasterref03_All.l0, if_neg (by omega), List.drop_of_length_le (by omega)]
    rfl
  | d + 1, i, k, h, a, b, hh, ha, hb, hi, hk => by
    obtain ⟨k, rfl⟩ : ∃ m, k = m + 61 := ⟨k - 61, by omega⟩
    have hy := hg l[i] (List.getElem_mem _)
    rw [paymasterref03_All.l0, if_pos (by omega), if_pos (by omega), rd25 l i (by omega), List.drop_eq_getElem_cons (by omega), refPlus_is k h a b _ _ hh ha hb hy.1 hy.2]
    simp only [wfold]
    rw [wi _ (by omega) (by omega), show (i : Int) + 1 = ((i + 1 : Nat) : Int) by omega]
    obtain ⟨r1, r2, r3, e⟩ := and_some h a b 0 l[i].f0 l[i].f1 hh ha hb ⟨by omega, by omega⟩ hy.1 hy.2
    rw [e]
    obtain ⟨u1, u2, u3⟩ := and_u64 e
    exact ref_sum_from l hl hg d (i + 1) (k + 60) r1 r2 r3 u1 u2 u3 (by omega) (by omega)
theorem ref_sum_is (l : List S25) (hl : l.length < 9223372036854775807) (hg : ∀ y ∈ l, U64 y.f0 ∧ U64 y.f1) (k : Nat) (hk : l.length + 60 < k) : paymasterref03_All.f k l = wfold l 0 0 0 := by
  unfold paymasterref03_All.f
  exact (ref_sum_from l hl hg l.length 0 k 0 0 0 ⟨by omega, by omega⟩ ⟨by omega, by omega⟩ ⟨by omega, by omega⟩ (by omega) hk).trans (by rw [List.drop_zero])
theorem wfold_some : ∀ (l : List S25), (∀ y ∈ l, U64 y.f0 ∧ U64 y.f1) → ∀ h a b : Int, U64 h → U64 a → U64 b → ∃ r1 r2 r3, wfold l h a b = some (r1, r2, r3) ∧ U64 r1 ∧ U64 r2 ∧ U64 r3
  | [], _, h, a, b, hh, ha, hb => ⟨h, a, b, rfl, hh, ha, hb⟩
  | x :: xs, hg, h, a, b, hh, ha, hb => by
    obtain ⟨r1, r2, r3, e⟩ := and_some h a b 0 x.f0 x.f1 hh ha hb ⟨by omega, by omega⟩ (hg x (by simp)).1 (hg x (by simp)).2
    obtain ⟨u1, u2, u3⟩ := and_u64 e
    simp only [wfold]
    rw [e]
    exact wfold_some xs (fun y hy => hg y (by simp [hy])) r1 r2 r3 u1 u2 u3
end Go.Proofs.Ytpkjpiphjdpegaa.P
