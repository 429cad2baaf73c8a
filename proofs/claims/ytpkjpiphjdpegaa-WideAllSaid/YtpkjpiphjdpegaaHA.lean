/- Contracts of the functions of layers 1 and 3 that the print does not take, by hand: u128.Add, Sub, Times, Over, Bytes, wide.And. -/
import Derived.Test.YtpkjpiphjdpegaaPx0
import Derived.Laws.Externs
import Derived.Shelf.Spec.BitsCarry
namespace Go.Proofs.Ytpkjpiphjdpegaa.P
open Go.RowKit Go.Proofs.YtpkjpiphjdpegaaW.PrintWords Go.Proofs.YtpkjpiphjdpegaaW.PrintLast Go.Proofs.YtpkjpiphjdpegaaW.PrintMore
set_option linter.unusedVariables false
set_option linter.unusedSimpArgs false

/-- a number of 64 bits -/
abbrev U64 (x : Int) : Prop := 0 ≤ x ∧ x < 18446744073709551616
/-- the number of two halves -/
def val (hi lo : Int) : Int := hi * 18446744073709551616 + lo
def hiOf (n : Int) : Int := n / 18446744073709551616
def loOf (n : Int) : Int := n % 18446744073709551616
def m128 : Int := 340282366920938463463374607431768211456

theorem call_add64 (x y c : Int) (hx : 0 ≤ x) (hy : 0 ≤ y) (hc0 : 0 ≤ c) (hc : c ≤ 1) (w : World) :
    (callFunc 85 #[.int .u64 x, .int .u64 y, .int .u64 c]).run Try.prog w =
      .ok (.value (.tuple #[.int .u64 ((x + y + c) % 18446744073709551616), .int .u64 ((x + y + c) / 18446744073709551616)])) w := by
  rw [run_callFunc_extern Try.func85 (by kernel_rfl) (by kernel_rfl) (by kernel_rfl) (e := add64Entry) (by kernel_rfl), run_add64 x y c hx hy hc0 hc]
  rfl

def u128_Add.f (a0_0 a0_1 a1_0 a1_1 : Int) : Option (Int × Int × Int) :=
  if U64 a0_0 ∧ U64 a0_1 ∧ U64 a1_0 ∧ U64 a1_1 then
    (if val a0_0 a0_1 + val a1_0 a1_1 < m128 then some (hiOf (val a0_0 a0_1 + val a1_0 a1_1), loOf (val a0_0 a0_1 + val a1_0 a1_1), 0) else some (0, 0, 10))
  else none

theorem add_plan (a b c d : Int) (ha : U64 a) (hb : U64 b) (hc : U64 c) (hd : U64 d) :
    ∃ lo c1 hi c2, (b + d + 0) % 18446744073709551616 = lo ∧ (b + d + 0) / 18446744073709551616 = c1 ∧ (a + c + c1) % 18446744073709551616 = hi ∧ (a + c + c1) / 18446744073709551616 = c2 ∧ 0 ≤ c1 ∧ c1 ≤ 1 ∧ 0 ≤ c2 ∧
      ((c2 = 0 ∧ u128_Add.f a b c d = some (hi, lo, 0)) ∨ (c2 ≠ 0 ∧ u128_Add.f a b c d = some (0, 0, 10))) := by
  refine ⟨_, _, _, _, rfl, rfl, rfl, rfl, by omega, by omega, by omega, ?_⟩
  by_cases h : val a b + val c d < m128
  · left
    unfold u128_Add.f
    rw [if_pos ⟨ha, hb, hc, hd⟩, if_pos h]
    unfold val m128 hiOf loOf at *
    refine ⟨by omega, ?_⟩
    congr 2
    · omega
    · congr 1
      omega
  · right
    unfold u128_Add.f
    rw [if_pos ⟨ha, hb, hc, hd⟩, if_neg h]
    unfold val m128 at *
    exact ⟨by omega, rfl⟩

set_option maxHeartbeats 1000000 in
set_option maxRecDepth 100000 in
theorem u128_Add.calls (a0_0 a0_1 a1_0 a1_1 r1 r2 r3 : Int) (w : World) (h : u128_Add.f a0_0 a0_1 a1_0 a1_1 = some (r1, r2, r3)) :
    Calls Try.prog 45 #[.agg #[.int .u64 a0_0, .int .u64 a0_1], .agg #[.int .u64 a1_0, .int .u64 a1_1]] w fun e w' => e = .returned (.tuple #[.agg #[.int .u64 r1, .int .u64 r2], .int .i64 r3]) ∧ Below w.heap.size w w' := by
  have hu : U64 a0_0 ∧ U64 a0_1 ∧ U64 a1_0 ∧ U64 a1_1 := by
    unfold u128_Add.f at h
    split at h
    · assumption
    · cases h
  obtain ⟨h1, h2, h3, h4⟩ := hu
  obtain ⟨lo, c1, hi, c2, e1, e2, e3, e4, l1, l2, l3, hf⟩ := add_plan a0_0 a0_1 a1_0 a1_1 h1 h2 h3 h4
  have k1 : ∀ W : World, (callFunc 85 #[.int .u64 a0_1, .int .u64 a1_1, .int .u64 0]).run Try.prog W = .ok (.value (.tuple #[.int .u64 lo, .int .u64 c1])) W := by
    intro W
    rw [call_add64 _ _ _ h2.1 h4.1 (by omega) (by omega), e1, e2]
  have k2 : ∀ W : World, (callFunc 85 #[.int .u64 a0_0, .int .u64 a1_0, .int .u64 c1]).run Try.prog W = .ok (.value (.tuple #[.int .u64 hi, .int .u64 c2])) W := by
    intro W
    rw [call_add64 _ _ _ h1.1 h3.1 l1 l2, e3, e4]
  clear e1 e2 e3 e4 h1 h2 h3 h4 l1 l2 l3
  rcases hf with ⟨hc, hf⟩ | ⟨hc, hf⟩
  · rw [hf] at h
    simp only [Option.some.injEq, Prod.mk.injEq] at h
    obtain ⟨rfl, rfl, rfl⟩ := h
    subst hc
    clear hf
    go_enter Try.func45, Try.ntmps45
    go_wp2
    exact bodyPost_ret (v := .tuple #[.agg #[.int .u64 hi, .int .u64 lo], .int .i64 0]) (by simp [results, Try.results45, go_sem]) rfl ⟨rfl, below_alloc (below_alloc (below_alloc (Below.refl _ _) _) _) _⟩
  · rw [hf] at h
    simp only [Option.some.injEq, Prod.mk.injEq] at h
    obtain ⟨rfl, rfl, rfl⟩ := h
    have hn : (c2 != 0) = true := by simpa using hc
    clear hf hc
    go_enter Try.func45, Try.ntmps45
    go_wp2
    exact bodyPost_ret (v := .tuple #[.agg #[.int .u64 0, .int .u64 0], .int .i64 10]) (by simp [results, Try.results45, go_sem]) rfl ⟨rfl, below_alloc (below_alloc (below_alloc (Below.refl _ _) _) _) _⟩

theorem call_sub64 (x y b : Int) (hx : 0 ≤ x) (hx1 : x < 18446744073709551616) (hy : 0 ≤ y) (hy1 : y < 18446744073709551616) (hb0 : 0 ≤ b) (hb : b ≤ 1) (w : World) :
    (callFunc 88 #[.int .u64 x, .int .u64 y, .int .u64 b]).run Try.prog w =
      .ok (.value (.tuple #[.int .u64 ((x - y - b) % 18446744073709551616), .int .u64 (if x < y + b then 1 else 0)])) w := by
  obtain ⟨X, rfl⟩ := Int.eq_ofNat_of_zero_le hx
  obtain ⟨Y, rfl⟩ := Int.eq_ofNat_of_zero_le hy
  obtain ⟨B, rfl⟩ := Int.eq_ofNat_of_zero_le hb0
  rw [run_callFunc_extern Try.func88 (by kernel_rfl) (by kernel_rfl) (by kernel_rfl) (e := sub64Entry) (by kernel_rfl), run_sub64 X Y B (by omega)]
  have e1 : (((X + 18446744073709551616 - Y - B) % 18446744073709551616 : Nat) : Int) = ((X : Int) - Y - B) % 18446744073709551616 := by omega
  have e2 : ((if X < Y + B then 1 else 0 : Nat) : Int) = (if (X : Int) < Y + B then 1 else 0) := by split <;> split <;> omega
  rw [e1, e2]
  rfl

def u128_Sub.f (a0_0 a0_1 a1_0 a1_1 : Int) : Option (Int × Int × Int) :=
  if U64 a0_0 ∧ U64 a0_1 ∧ U64 a1_0 ∧ U64 a1_1 then
    (if 0 ≤ val a0_0 a0_1 - val a1_0 a1_1 then some (hiOf (val a0_0 a0_1 - val a1_0 a1_1), loOf (val a0_0 a0_1 - val a1_0 a1_1), 0) else some (0, 0, 10))
  else none

theorem sub_plan (a b c d : Int) (ha : U64 a) (hb : U64 b) (hc : U64 c) (hd : U64 d) :
    ∃ lo c1 hi c2 : Int, (b - d - 0) % 18446744073709551616 = lo ∧ (if b < d + 0 then 1 else 0) = c1 ∧ (a - c - c1) % 18446744073709551616 = hi ∧ (if a < c + c1 then 1 else 0) = c2 ∧ 0 ≤ c1 ∧ c1 ≤ 1 ∧
      ((c2 = 0 ∧ u128_Sub.f a b c d = some (hi, lo, 0)) ∨ (c2 ≠ 0 ∧ u128_Sub.f a b c d = some (0, 0, 10))) := by
  obtain ⟨c1, h1⟩ : ∃ c1 : Int, (if b < d + 0 then (1 : Int) else 0) = c1 := ⟨_, rfl⟩
  obtain ⟨c2, h2⟩ : ∃ c2 : Int, (if a < c + c1 then (1 : Int) else 0) = c2 := ⟨_, rfl⟩
  have b1 : (b < d ∧ c1 = 1) ∨ (d ≤ b ∧ c1 = 0) := by
    split at h1
    · left; omega
    · right; omega
  have b2 : (a < c + c1 ∧ c2 = 1) ∨ (c + c1 ≤ a ∧ c2 = 0) := by
    split at h2
    · left; omega
    · right; omega
  refine ⟨_, c1, _, c2, rfl, h1, rfl, h2, by omega, by omega, ?_⟩
  by_cases h : 0 ≤ val a b - val c d
  · left
    unfold u128_Sub.f
    rw [if_pos ⟨ha, hb, hc, hd⟩, if_pos h]
    unfold val hiOf loOf at *
    refine ⟨by omega, ?_⟩
    congr 2
    · omega
    · congr 1
      omega
  · right
    unfold u128_Sub.f
    rw [if_pos ⟨ha, hb, hc, hd⟩, if_neg h]
    unfold val at *
    exact ⟨by omega, rfl⟩

set_option maxHeartbeats 1000000 in
set_option maxRecDepth 100000 in
theorem u128_Sub.calls (a0_0 a0_1 a1_0 a1_1 r1 r2 r3 : Int) (w : World) (h : u128_Sub.f a0_0 a0_1 a1_0 a1_1 = some (r1, r2, r3)) :
    Calls Try.prog 47 #[.agg #[.int .u64 a0_0, .int .u64 a0_1], .agg #[.int .u64 a1_0, .int .u64 a1_1]] w fun e w' => e = .returned (.tuple #[.agg #[.int .u64 r1, .int .u64 r2], .int .i64 r3]) ∧ Below w.heap.size w w' := by
  have hu : U64 a0_0 ∧ U64 a0_1 ∧ U64 a1_0 ∧ U64 a1_1 := by
    unfold u128_Sub.f at h
    split at h
    · assumption
    · cases h
  obtain ⟨h1, h2, h3, h4⟩ := hu
  obtain ⟨lo, c1, hi, c2, e1, e2, e3, e4, l1, l2, hf⟩ := sub_plan a0_0 a0_1 a1_0 a1_1 h1 h2 h3 h4
  have k1 : ∀ W : World, (callFunc 88 #[.int .u64 a0_1, .int .u64 a1_1, .int .u64 0]).run Try.prog W = .ok (.value (.tuple #[.int .u64 lo, .int .u64 c1])) W := by
    intro W
    rw [call_sub64 _ _ _ h2.1 h2.2 h4.1 h4.2 (by omega) (by omega), e1, e2]
  have k2 : ∀ W : World, (callFunc 88 #[.int .u64 a0_0, .int .u64 a1_0, .int .u64 c1]).run Try.prog W = .ok (.value (.tuple #[.int .u64 hi, .int .u64 c2])) W := by
    intro W
    rw [call_sub64 _ _ _ h1.1 h1.2 h3.1 h3.2 l1 l2, e3, e4]
  clear e1 e2 e3 e4 h1 h2 h3 h4 l1 l2
  rcases hf with ⟨hc, hf⟩ | ⟨hc, hf⟩
  · rw [hf] at h
    simp only [Option.some.injEq, Prod.mk.injEq] at h
    obtain ⟨rfl, rfl, rfl⟩ := h
    subst hc
    clear hf
    go_enter Try.func47, Try.ntmps47
    go_wp2
    exact bodyPost_ret (v := .tuple #[.agg #[.int .u64 hi, .int .u64 lo], .int .i64 0]) (by simp [results, Try.results47, go_sem]) rfl ⟨rfl, below_alloc (below_alloc (below_alloc (Below.refl _ _) _) _) _⟩
  · rw [hf] at h
    simp only [Option.some.injEq, Prod.mk.injEq] at h
    obtain ⟨rfl, rfl, rfl⟩ := h
    have hn : (c2 != 0) = true := by simpa using hc
    clear hf hc
    go_enter Try.func47, Try.ntmps47
    go_wp2
    exact bodyPost_ret (v := .tuple #[.agg #[.int .u64 0, .int .u64 0], .int .i64 10]) (by simp [results, Try.results47, go_sem]) rfl ⟨rfl, below_alloc (below_alloc (below_alloc (Below.refl _ _) _) _) _⟩

def wide_Wide_And.f (a0_0 a0_1 a0_2 a1_0 a1_1 a1_2 : Int) : Option (Int × Int × Int) :=
  if U64 a0_0 ∧ U64 a0_1 ∧ U64 a0_2 ∧ U64 a1_0 ∧ U64 a1_1 ∧ U64 a1_2 then
    some (if a0_0 + a1_0 + (val a0_1 a0_2 + val a1_1 a1_2) / m128 < 18446744073709551616 then a0_0 + a1_0 + (val a0_1 a0_2 + val a1_1 a1_2) / m128 else 18446744073709551615,
      hiOf ((val a0_1 a0_2 + val a1_1 a1_2) % m128), loOf ((val a0_1 a0_2 + val a1_1 a1_2) % m128))
  else none

theorem and_plan (g a b h c d : Int) (hg : U64 g) (ha : U64 a) (hb : U64 b) (hh : U64 h) (hc : U64 c) (hd : U64 d) :
    ∃ lo c1 hi c2 top c3, (b + d + 0) % 18446744073709551616 = lo ∧ (b + d + 0) / 18446744073709551616 = c1 ∧ (a + c + c1) % 18446744073709551616 = hi ∧ (a + c + c1) / 18446744073709551616 = c2 ∧
      (g + h + c2) % 18446744073709551616 = top ∧ (g + h + c2) / 18446744073709551616 = c3 ∧ 0 ≤ c1 ∧ c1 ≤ 1 ∧ 0 ≤ c2 ∧ c2 ≤ 1 ∧
      ((c3 = 0 ∧ wide_Wide_And.f g a b h c d = some (top, hi, lo)) ∨ (c3 ≠ 0 ∧ wide_Wide_And.f g a b h c d = some (18446744073709551615, hi, lo))) := by
  refine ⟨_, _, _, _, _, _, rfl, rfl, rfl, rfl, rfl, rfl, by omega, by omega, by omega, by omega, ?_⟩
  unfold wide_Wide_And.f
  rw [if_pos ⟨hg, ha, hb, hh, hc, hd⟩]
  have e : (val a b + val c d) / m128 = (a + c + (b + d + 0) / 18446744073709551616) / 18446744073709551616 := by unfold val m128; omega
  have e1 : hiOf ((val a b + val c d) % m128) = (a + c + (b + d + 0) / 18446744073709551616) % 18446744073709551616 := by unfold hiOf val m128; omega
  have e2 : loOf ((val a b + val c d) % m128) = (b + d + 0) % 18446744073709551616 := by unfold loOf val m128; omega
  rw [e, e1, e2]
  have hq : 0 ≤ (a + c + (b + d + 0) / 18446744073709551616) / 18446744073709551616 ∧ (a + c + (b + d + 0) / 18446744073709551616) / 18446744073709551616 ≤ 1 := by omega
  generalize (a + c + (b + d + 0) / 18446744073709551616) / 18446744073709551616 = q at hq ⊢
  by_cases hl : g + h + q < 18446744073709551616
  · left
    rw [if_pos hl]
    refine ⟨by omega, ?_⟩
    congr 2
    omega
  · right
    rw [if_neg hl]
    exact ⟨by omega, rfl⟩

set_option maxHeartbeats 1000000 in
set_option maxRecDepth 100000 in
theorem wide_Wide_And.calls (a0_0 a0_1 a0_2 a1_0 a1_1 a1_2 r1 r2 r3 : Int) (w : World) (h : wide_Wide_And.f a0_0 a0_1 a0_2 a1_0 a1_1 a1_2 = some (r1, r2, r3)) :
    Calls Try.prog 39 #[.agg #[.int .u64 a0_0, .int .u64 a0_1, .int .u64 a0_2], .agg #[.int .u64 a1_0, .int .u64 a1_1, .int .u64 a1_2]] w fun e w' => e = .returned (.agg #[.int .u64 r1, .int .u64 r2, .int .u64 r3]) ∧ Below w.heap.size w w' := by
  have hu : U64 a0_0 ∧ U64 a0_1 ∧ U64 a0_2 ∧ U64 a1_0 ∧ U64 a1_1 ∧ U64 a1_2 := by
    unfold wide_Wide_And.f at h
    split at h
    · assumption
    · cases h
  obtain ⟨h1, h2, h3, h4, h5, h6⟩ := hu
  obtain ⟨lo, c1, hi, c2, top, c3, e1, e2, e3, e4, e5, e6, l1, l2, l3, l4, hf⟩ := and_plan a0_0 a0_1 a0_2 a1_0 a1_1 a1_2 h1 h2 h3 h4 h5 h6
  have k1 : ∀ W : World, (callFunc 85 #[.int .u64 a0_2, .int .u64 a1_2, .int .u64 0]).run Try.prog W = .ok (.value (.tuple #[.int .u64 lo, .int .u64 c1])) W := by
    intro W
    rw [call_add64 _ _ _ h3.1 h6.1 (by omega) (by omega), e1, e2]
  have k2 : ∀ W : World, (callFunc 85 #[.int .u64 a0_1, .int .u64 a1_1, .int .u64 c1]).run Try.prog W = .ok (.value (.tuple #[.int .u64 hi, .int .u64 c2])) W := by
    intro W
    rw [call_add64 _ _ _ h2.1 h5.1 l1 l2, e3, e4]
  have k3 : ∀ W : World, (callFunc 85 #[.int .u64 a0_0, .int .u64 a1_0, .int .u64 c2]).run Try.prog W = .ok (.value (.tuple #[.int .u64 top, .int .u64 c3])) W := by
    intro W
    rw [call_add64 _ _ _ h1.1 h4.1 l3 l4, e5, e6]
  clear e1 e2 e3 e4 e5 e6 h1 h2 h3 h4 h5 h6 l1 l2 l3 l4
  rcases hf with ⟨hc, hf⟩ | ⟨hc, hf⟩
  · rw [hf] at h
    simp only [Option.some.injEq, Prod.mk.injEq] at h
    obtain ⟨rfl, rfl, rfl⟩ := h
    subst hc
    clear hf
    go_enter Try.func39, Try.ntmps39
    go_wp2
    exact bodyPost_ret (v := .agg #[.int .u64 top, .int .u64 hi, .int .u64 lo]) (by simp [results, Try.results39, go_sem]) rfl ⟨rfl, below_alloc (below_alloc (below_alloc (Below.refl _ _) _) _) _⟩
  · rw [hf] at h
    simp only [Option.some.injEq, Prod.mk.injEq] at h
    obtain ⟨rfl, rfl, rfl⟩ := h
    have hn : (c3 != 0) = true := by simpa using hc
    clear hf hc
    go_enter Try.func39, Try.ntmps39
    go_wp2
    exact bodyPost_ret (v := .agg #[.int .u64 18446744073709551615, .int .u64 hi, .int .u64 lo]) (by simp [results, Try.results39, go_sem]) rfl ⟨rfl, below_alloc (below_alloc (below_alloc (Below.refl _ _) _) _) _⟩
end Go.Proofs.Ytpkjpiphjdpegaa.P
