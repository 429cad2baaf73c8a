/- A program of this session wrote this text out of the session's own texts. (part 28 of 45) -/
import Derived.Test.YtpkjpiphjdpegaaDoorCLedgerImportsQ
import Derived.Test.YtpkjpiphjdpegaaDoorCLedgerImports4
import Derived.Test.YtpkjpiphjdpegaaDoorCLedgerImports8
import Derived.Test.YtpkjpiphjdpegaaDoorCLedgerImports20
import Derived.Laws.Bits64
import Derived.Laws.Externs
import Derived.Shelf.Spec.BitsCarry
import Derived.Laws.BitsLemmas
import Derived.Laws.Bits64b
import Derived.Shelf.Bits.Mul64
import Derived.Lib.Mul64
import Derived.Test.YtpkjpiphjdpegaaDoorProg
namespace Go.Proofs.YtpkjpiphjdpegaaDoor.P
set_option linter.unusedVariables false
set_option linter.unusedSimpArgs false
def decF : Nat → Int → List Int
 | 0, n => [n]
 | f + 1, n => if n < 10 then [n] else decF f (n / 10) ++ [n % 10]
def valD (l : List Int) : Int := l.foldl (fun a d => a * 10 + d) 0
def Dig (l : List Int) : Prop := ∀ d, d ∈ l → 0 ≤ d ∧ d < 10
theorem ten_pos (k : Nat) : (0 : Int) < 10 ^ k := Int.pow_pos zv1
theorem valD_snoc (l : List Int) (d : Int) : valD (l ++ [d]) = valD l * 10 + d := by
 unfold valD; rw [List.foldl_append]; rfl
theorem fold_cons : ∀ (l : List Int) (a : Int), l.foldl (fun a d => a * 10 + d) a = a * 10 ^ l.length + l.foldl (fun a d => a * 10 + d) 0
 | [], a => by simp
 | x :: l, a => by
  rw [List.foldl_cons, List.foldl_cons, fold_cons l (a * 10 + x), fold_cons l (0 * 10 + x), List.length_cons, Int.pow_succ, Int.add_mul, Int.mul_assoc a 10, Int.mul_comm 10, Int.zero_mul, Int.zero_add]; omega
theorem valD_cons (x : Int) (l : List Int) : valD (x :: l) = x * 10 ^ l.length + valD l := by
 unfold valD; rw [List.foldl_cons, fold_cons l (0 * 10 + x), Int.zero_mul, Int.zero_add]
theorem valD_range : ∀ (l : List Int), Dig l → 0 ≤ valD l ∧ valD l < 10 ^ l.length
 | [], _ => by simp [valD]
 | x :: l, h => by
  have h0 := valD_range l (fun d hd => h d (List.mem_cons_of_mem _ hd)); have h1 := h x (List.mem_cons_self ..); have p := ten_pos l.length; rw [valD_cons, List.length_cons, Int.pow_succ]; have h2 : x * 10 ^ l.length ≤ 9 * 10 ^ l.length := Int.mul_le_mul_of_nonneg_right zv1 zv1; have h3 : 0 ≤ x * 10 ^ l.length := Int.mul_nonneg h1.1 zv1; omega
theorem dec_small (f : Nat) (n : Int) (h : n < 10) : decF f n = [n] := by
 cases f with
 | zero => rfl
 | succ f => simp [decF, h]
theorem dec_uniq : ∀ (m f : Nat) (l : List Int), l.length = m + 1 → Dig l → (1 < l.length → l.head? ≠ some 0) → valD l < 10 ^ (f + 1) → decF f (valD l) = l
 | 0, f, l, hl, hd, hh, hv => by
  match l, hl with
  | [x], _ =>
   have hx := hd x zv10; have e : valD [x] = x := by simp [valD]
   rw [e]; exact dec_small f x hx.2
 | m + 1, f, l, hl, hd, hh, hv => by
  obtain ⟨t, d, rfl⟩ : ∃ t d, l = t ++ [d] := by
   rcases List.eq_nil_or_concat l with h | ⟨t, d, h⟩
   ·rw [h] at hl; simp at hl
   ·exact ⟨t, d, (by rw [h, List.concat_eq_append])⟩
  have lt : t.length = m + 1 := by simpa using hl
  have dd := hd d zv10; have dt : Dig t := fun x hx => hd x (List.mem_append_left _ hx)
  have ht : t.head? ≠ some 0 := by
   cases t with
   | nil => simp at lt
   | cons x t => simpa using hh zv10
  rw [valD_snoc] at hv ⊢
  have pos : 0 < valD t := by
   cases t with
   | nil => simp at lt
   | cons x t =>
    have n0 : x ≠ 0 := by simpa using ht
    have x0 := dt x zv10; have r := (valD_range t (fun x hx => dt x (List.mem_cons_of_mem _ hx))).1; rw [valD_cons]; have : 0 < x * 10 ^ t.length := Int.mul_pos zv1 (ten_pos _); omega
  cases f with
  | zero => rw [Int.pow_succ, Int.pow_zero] at hv; omega
  | succ f =>
   unfold decF; rw [if_neg zv1, show (valD t * 10 + d) / 10 = valD t from by omega, show (valD t * 10 + d) % 10 = d from by omega]; rw [dec_uniq m f t lt dt (fun _ => ht) (by rw [Int.pow_succ] at hv; omega)]
end Go.Proofs.YtpkjpiphjdpegaaDoor.P
namespace Go.Proofs.YtpkjpiphjdpegaaDoor.P
open Go.RowKit Go.Proofs.YtpkjpiphjdpegaaDoorW.PrintWords Go.Proofs.YtpkjpiphjdpegaaDoorW.PrintLast Go.Proofs.YtpkjpiphjdpegaaDoorW.PrintMore
set_option linter.unusedVariables false
set_option linter.unusedSimpArgs false
def val (hi lo : Int) : Int := hi * 18446744073709551616 + lo
def hiOf (n : Int) : Int := n / 18446744073709551616
def loOf (n : Int) : Int := n % 18446744073709551616
def m128 : Int := 340282366920938463463374607431768211456
theorem call_add64 (x y c : Int) (hx : 0 ≤ x) (hy : 0 ≤ y) (hc0 : 0 ≤ c) (hc : c ≤ 1) (w : World) :
  (callFunc 124 #[.int .u64 x, .int .u64 y, .int .u64 c]).run Tryd.prog w =
   .ok (.value (.tuple #[.int .u64 ((x + y + c) % 18446744073709551616), .int .u64 ((x + y + c) / 18446744073709551616)])) w := by
 rw [run_callFunc_extern Tryd.func124 (by kernel_rfl) (by kernel_rfl) (by kernel_rfl) (e := add64Entry) (by kernel_rfl), run_add64 x y c hx hy hc0 hc]; rfl
def u128_Add.f (a0_0 a0_1 a1_0 a1_1 : Int) : Option (Int × Int × Int) :=
 if U64 a0_0 ∧ U64 a0_1 ∧ U64 a1_0 ∧ U64 a1_1 then
  (if val a0_0 a0_1 + val a1_0 a1_1 < m128 then some (hiOf (val a0_0 a0_1 + val a1_0 a1_1), loOf (val a0_0 a0_1 + val a1_0 a1_1), 0) else some (0, 0, 10))
 else none
theorem add_plan (a b c d : Int) (ha : U64 a) (hb : U64 b) (hc : U64 c) (hd : U64 d) :
  ∃ lo c1 hi c2, (b + d + 0) % 18446744073709551616 = lo ∧ (b + d + 0) / 18446744073709551616 = c1 ∧ (a + c + c1) % 18446744073709551616 = hi ∧ (a + c + c1) / 18446744073709551616 = c2 ∧ 0 ≤ c1 ∧ c1 ≤ 1 ∧ 0 ≤ c2 ∧
   ((c2 = 0 ∧ u128_Add.f a b c d = some (hi, lo, 0)) ∨ (c2 ≠ 0 ∧ u128_Add.f a b c d = some (0, 0, 10))) := by
 refine ⟨_, _, _, _, rfl, rfl, rfl, rfl, zv1, zv1, zv1, ?_⟩
 by_cases h : val a b + val c d < m128
 ·left
  unfold u128_Add.f; rw [if_pos ⟨ha, hb, hc, hd⟩, if_pos h]; unfold val m128 hiOf loOf at *; refine ⟨zv1, ?_⟩
  congr 2
  ·omega
  ·congr 1
   omega
 ·right
  unfold u128_Add.f; rw [if_pos ⟨ha, hb, hc, hd⟩, if_neg h]; unfold val m128 at *; exact ⟨zv1, rfl⟩
theorem wu (x : Int) (h0 : 0 ≤ x) (h1 : x < 18446744073709551616) : IntKind.u64.wrap x = x := by rw [IntKind.wrap_u64]; omega
theorem wi (x : Int) (h0 : -9223372036854775808 ≤ x) (h1 : x < 9223372036854775808) : wrap64 x = x := by unfold wrap64; omega
def hf (a b c d : Int) : Int := ((d * 65536 + c) * 65536 + b) * 65536 + a
theorem quot_lt {y Q R T q : Int} (hy : 0 < y) (e : Q * y + R = T) (hR : 0 ≤ R) (h : T < q * y) : Q < q := by
 rcases Int.lt_or_le Q q with h1 | h1
 ·exact h1
 ·have := Int.mul_le_mul_of_nonneg_right h1 (Int.le_of_lt hy); omega
theorem quot_le {y Q R T q : Int} (hy : 0 < y) (e : Q * y + R = T) (hR : R < y) (h : q * y ≤ T) : q ≤ Q := by
 rcases Int.lt_or_le Q q with h1 | h1
 ·have h2 : Q + 1 ≤ q := h1; have := Int.mul_le_mul_of_nonneg_right h2 (Int.le_of_lt hy); rw [Int.add_mul, Int.one_mul] at this; omega
 ·exact h1
structure Est (x2 v1 v0 u d Q R : Int) : Prop where
 hy : x2 = v1 * 4294967296 + v0
 v1l : 2147483648 ≤ v1
 v1u : v1 < 4294967296
 v0l : 0 ≤ v0
 v0u : v0 < 4294967296
 dl : 0 ≤ d
 du : d < 4294967296
 ul : 0 ≤ u
 hQ : Q * x2 + R = u * 4294967296 + d
 Rl : 0 ≤ R
 Ru : R < x2
 Ql : 0 ≤ Q
 Qu : Q < 4294967296
theorem Est.made {x2 v1 v0 u d Q R q rh : Int} (h : Est x2 v1 v0 u d Q R) (e : q * v1 + rh = u) : q * x2 = (u - rh) * 4294967296 + q * v0 := by
 rw [h.hy, Int.mul_add, ← Int.mul_assoc, show q * v1 = u - rh by omega]
theorem Est.pos {x2 v1 v0 u d Q R : Int} (h : Est x2 v1 v0 u d Q R) : 0 < x2 := by
 have := h.hy; have := h.v1l; have := h.v0l; omega
theorem Est.big {x2 v1 v0 u d Q R q rh : Int} (h : Est x2 v1 v0 u d Q R) (e : q * v1 + rh = u) (t : q ≥ 4294967296 ∨ q * v0 > 4294967296 * rh + d) : Q < q := by
 rcases t with t | t
 ·have := h.Qu; omega
 ·have m := h.made e; exact quot_lt h.pos h.hQ h.Rl zv1
theorem Est.over {x2 v1 v0 u d Q R q rh : Int} (h : Est x2 v1 v0 u d Q R) (e : q * v1 + rh = u) (hq : Q ≤ q) (hq' : q ≤ 4294967296) (t : rh ≥ 4294967296) : q = Q := by
 have m := h.made e
 have h0 : 0 ≤ q := by
  have := h.Ql; omega
 have w : q * v0 ≤ 4294967296 * v0 := Int.mul_le_mul_of_nonneg_right hq' h.v0l; have := h.v0u; have := h.dl; have := quot_le h.pos h.hQ h.Ru (q := q) zv1; omega
theorem Est.first {x2 v1 v0 u d Q R : Int} (h : Est x2 v1 v0 u d Q R) : Q ≤ u / v1 ∧ u / v1 ≤ 4294967297 ∧ u / v1 * v1 + u % v1 = u ∧ 0 ≤ u % v1 ∧ u % v1 < 4294967296 := by
 obtain ⟨hy, v1l, v1u, v0l, v0u, dl, du, ul, hQ, Rl, Ru, Ql, Qu⟩ := h; have e : Q * x2 = Q * v1 * 4294967296 + Q * v0 := by rw [hy, Int.mul_add, ← Int.mul_assoc]
 have w := Int.mul_nonneg Ql v0l; have hv : 0 < v1 := by omega
 have q1 := Int.emod_lt_of_pos u hv; have q0 := Int.emod_nonneg u (show v1 ≠ 0 by omega); have hm : Q * x2 ≤ 4294967295 * x2 := Int.mul_le_mul_of_nonneg_right zv1 zv1; have hlt : u < 4294967298 * v1 := by omega
 have := Int.ediv_lt_of_lt_mul hv hlt; exact ⟨Int.le_ediv_of_mul_le hv zv1, zv1, Int.ediv_mul_add_emod _ _, q0, zv1⟩
theorem halves (n hi lo : Int) (h : U64 lo) (e : n = hi * 18446744073709551616 + lo) : hiOf n = hi ∧ loOf n = lo := by
 unfold hiOf loOf; constructor <;> omega
open Go.Proofs.Mul64 in
theorem mul64_nat (x y : Nat) (hx : x < 18446744073709551616) (hy : y < 18446744073709551616) :
  bits_Mul64.f (x : Int) (y : Int) = some (((x * y / 18446744073709551616 : Nat) : Int), ((x * y % 18446744073709551616 : Nat) : Int)) := by
 obtain ⟨bd, bt, bw, hhi⟩ := Lib.mul64_hi x y hx hy; have ba := Lib.half_mul_le (a := x / 4294967296) (b := y / 4294967296) zv1 zv1; have bb := Lib.half_mul_le (a := x / 4294967296) (b := y % 4294967296) zv1 zv1; have bc := Lib.half_mul_le (a := x % 4294967296) (b := y / 4294967296) zv1 zv1; have ba' : x / 4294967296 * (y / 4294967296) < 18446744073709551616 := by omega
 have bb' : x / 4294967296 * (y % 4294967296) < 18446744073709551616 := by omega
 have bc' : x % 4294967296 * (y / 4294967296) < 18446744073709551616 := by omega
 have bh1 : x / 4294967296 * (y / 4294967296) + (x / 4294967296 * (y % 4294967296) + x % 4294967296 * (y % 4294967296) / 4294967296) / 4294967296 < 18446744073709551616 := by omega
 have bh : x / 4294967296 * (y / 4294967296) + (x / 4294967296 * (y % 4294967296) + x % 4294967296 * (y % 4294967296) / 4294967296) / 4294967296 + ((x / 4294967296 * (y % 4294967296) + x % 4294967296 * (y % 4294967296) / 4294967296) % 4294967296 + x % 4294967296 * (y / 4294967296)) / 4294967296 < 18446744073709551616 := by omega
 unfold bits_Mul64.f; rw [maskN x hx, maskN y hy, divN x, divN y]; simp only [mulN, addN, divN]; rw [wrapN _ ba', wrapN _ bb', wrapN _ bc', wrapN _ bd]; simp only [mulN, addN, divN]; rw [wrapN _ bt]; simp only [mulN, addN, divN]; rw [maskN _ bt, wrapN _ bh1]; simp only [mulN, addN, divN]; rw [wrapN _ bw]; simp only [mulN, addN, divN]; rw [wrapN _ bh, wrapM, hhi]
theorem mul64_is (x y : Int) (hx : U64 x) (hy : U64 y) : bits_Mul64.f x y = some (hiOf (x * y), loOf (x * y)) := by
 obtain ⟨x1, x2⟩ := hx; obtain ⟨y1, y2⟩ := hy; obtain ⟨X, rfl⟩ := Int.eq_ofNat_of_zero_le x1; obtain ⟨Y, rfl⟩ := Int.eq_ofNat_of_zero_le y1; rw [mul64_nat X Y zv1 zv1]; unfold hiOf loOf; rw [← Int.natCast_mul]; rfl
theorem idx105_0 (x y : Int) (W : World) : (Instr.index 177 (.agg #[.int .u64 x, .int .u64 y]) (.int .i64 0)).run Tryd.prog W = .ok (.int .u64 x) W := by
 simp [Instr.index, run_underlying Tryd.underlying177, asIntOf, go_sem]
theorem idx105_1 (x y : Int) (W : World) : (Instr.index 177 (.agg #[.int .u64 x, .int .u64 y]) (.int .i64 1)).run Tryd.prog W = .ok (.int .u64 y) W := by
 simp [Instr.index, run_underlying Tryd.underlying177, asIntOf, go_sem]
attribute [local go_sem] idx105_0 idx105_1
def u128_Times.f (a0_0 a0_1 a1 : Int) : Option (Int × Int × Int) :=
 if U64 a0_0 ∧ U64 a0_1 ∧ U64 a1 then
  (if val a0_0 a0_1 * a1 < m128 then some (hiOf (val a0_0 a0_1 * a1), loOf (val a0_0 a0_1 * a1), 0) else some (0, 0, 10))
 else none
theorem times_plan (a b n : Int) (ha : U64 a) (hb : U64 b) (hn : U64 n) :
  ∃ H0 L0 H1 L1 hi c, bits_Mul64.f b n = some (H0, L0) ∧ bits_Mul64.f a n = some (H1, L1) ∧ 0 ≤ L1 ∧ 0 ≤ H0 ∧ (L1 + H0 + 0) % 18446744073709551616 = hi ∧ (L1 + H0 + 0) / 18446744073709551616 = c ∧
   ((c = 0 ∧ H1 = 0 ∧ u128_Times.f a b n = some (hi, L0, 0)) ∨ (c = 0 ∧ H1 ≠ 0 ∧ u128_Times.f a b n = some (0, 0, 10)) ∨ (c ≠ 0 ∧ u128_Times.f a b n = some (0, 0, 10))) := by
 have h0 : 0 ≤ a * n := Int.mul_nonneg ha.1 hn.1; have h1 : 0 ≤ b * n := Int.mul_nonneg hb.1 hn.1
 have e : val a b * n = a * n * 18446744073709551616 + b * n := by
  unfold val; rw [Int.add_mul, Int.mul_right_comm]
 refine ⟨_, _, _, _, _, _, mul64_is b n hb hn, mul64_is a n ha hn, (by unfold loOf; omega), (by unfold hiOf; omega), rfl, rfl, ?_⟩; unfold u128_Times.f; rw [if_pos ⟨ha, hb, hn⟩, e]; generalize a * n = X at *; generalize b * n = Y at *; clear e
 by_cases hc : (loOf X + hiOf Y + 0) / 18446744073709551616 = 0
 ·by_cases hh : hiOf X = 0
  ·left
   refine ⟨hc, hh, ?_⟩; unfold hiOf loOf m128 at *; rw [if_pos zv1]
   congr 2
   ·omega
   ·congr 1
    omega
  ·right; left
   refine ⟨hc, hh, ?_⟩; unfold hiOf loOf m128 at *; rw [if_neg zv1]
 ·right; right
  refine ⟨hc, ?_⟩; unfold hiOf loOf m128 at *; rw [if_neg zv1]
set_option maxHeartbeats 4000000 in
set_option maxRecDepth 100000 in
theorem u128_Times.calls (a0_0 a0_1 a1 r1 r2 r3 : Int) (w : World) (h : u128_Times.f a0_0 a0_1 a1 = some (r1, r2, r3)) :
  Calls Tryd.prog 114 #[.agg #[.int .u64 a0_0, .int .u64 a0_1], .int .u64 a1] w fun e w' => e = .returned (.tuple #[.agg #[.int .u64 r1, .int .u64 r2], .int .i64 r3]) ∧ Below w.heap.size w w' := by
 have hu : U64 a0_0 ∧ U64 a0_1 ∧ U64 a1 := by
  unfold u128_Times.f at h
  split at h
  ·assumption
  ·cases h
 obtain ⟨H0, L0, H1, L1, hi, c, m0, m1, l1, l2, e1, e2, hf⟩ := times_plan a0_0 a0_1 a1 hu.1 hu.2.1 hu.2.2
 have k1 : ∀ W : World, (callFunc 124 #[.int .u64 L1, .int .u64 H0, .int .u64 0]).run Tryd.prog W = .ok (.value (.tuple #[.int .u64 hi, .int .u64 c])) W := by
  intro W; rw [call_add64 _ _ _ l1 l2 zv1 zv1, e1, e2]
 have M0 := Aside0.mk m0; have M1 := Aside0.mk m1; clear e1 e2 l1 l2 hu m0 m1
 rcases hf with ⟨hc, hh, hf⟩ | ⟨hc, hh, hf⟩ | ⟨hc, hf⟩
 ·rw [hf] at h; simp only [Option.some.injEq, Prod.mk.injEq] at h; obtain ⟨rfl, rfl, rfl⟩ := h; subst hc; subst hh; clear hf; go_enter Tryd.func114, Tryd.ntmps114; go_wp2; refine wp_loop_rounds 3 ?_; rw [rounds_succ]
  go_wp2_with (first | (go_at_call 131; (with_reducible refine (bits_Mul64.calls _ _ _ _ _ M0.out).mono ?_); rintro e w' ⟨rfl, ⟨nd, rfl⟩⟩) | (go_at_call 131; (with_reducible refine (bits_Mul64.calls _ _ _ _ _ M1.out).mono ?_); rintro e w' ⟨rfl, ⟨nd', rfl⟩⟩))
  rw [rounds_succ]
  go_wp2_with (first | (go_at_call 131; (with_reducible refine (bits_Mul64.calls _ _ _ _ _ M0.out).mono ?_); rintro e w' ⟨rfl, ⟨nd, rfl⟩⟩) | (go_at_call 131; (with_reducible refine (bits_Mul64.calls _ _ _ _ _ M1.out).mono ?_); rintro e w' ⟨rfl, ⟨nd', rfl⟩⟩))
  rw [rounds_succ]; go_wp2; exact bodyPost_ret (v := .tuple #[.agg #[.int .u64 hi, .int .u64 L0], .int .i64 0]) (by simp [results, Tryd.results114, go_sem]) rfl ⟨rfl, zv42⟩
 ·rw [hf] at h; simp only [Option.some.injEq, Prod.mk.injEq] at h; obtain ⟨rfl, rfl, rfl⟩ := h; subst hc; have hn : (H1 != 0) = true := by simpa using hh
  clear hf hh; go_enter Tryd.func114, Tryd.ntmps114; go_wp2; refine wp_loop_rounds 3 ?_; rw [rounds_succ]
  go_wp2_with (first | (go_at_call 131; (with_reducible refine (bits_Mul64.calls _ _ _ _ _ M0.out).mono ?_); rintro e w' ⟨rfl, ⟨nd, rfl⟩⟩) | (go_at_call 131; (with_reducible refine (bits_Mul64.calls _ _ _ _ _ M1.out).mono ?_); rintro e w' ⟨rfl, ⟨nd', rfl⟩⟩))
  rw [rounds_succ]
  go_wp2_with (first | (go_at_call 131; (with_reducible refine (bits_Mul64.calls _ _ _ _ _ M0.out).mono ?_); rintro e w' ⟨rfl, ⟨nd, rfl⟩⟩) | (go_at_call 131; (with_reducible refine (bits_Mul64.calls _ _ _ _ _ M1.out).mono ?_); rintro e w' ⟨rfl, ⟨nd', rfl⟩⟩))
  rw [rounds_succ]; go_wp2; exact bodyPost_ret (v := .tuple #[.agg #[.int .u64 0, .int .u64 0], .int .i64 10]) (by simp [results, Tryd.results114, go_sem]) rfl ⟨rfl, zv42⟩
 ·rw [hf] at h; simp only [Option.some.injEq, Prod.mk.injEq] at h; obtain ⟨rfl, rfl, rfl⟩ := h; have hn : (c != 0) = true := by simpa using hc
  clear hf hc; go_enter Tryd.func114, Tryd.ntmps114; go_wp2; refine wp_loop_rounds 3 ?_; rw [rounds_succ]
  go_wp2_with (first | (go_at_call 131; (with_reducible refine (bits_Mul64.calls _ _ _ _ _ M0.out).mono ?_); rintro e w' ⟨rfl, ⟨nd, rfl⟩⟩) | (go_at_call 131; (with_reducible refine (bits_Mul64.calls _ _ _ _ _ M1.out).mono ?_); rintro e w' ⟨rfl, ⟨nd', rfl⟩⟩))
  rw [rounds_succ]
  go_wp2_with (first | (go_at_call 131; (with_reducible refine (bits_Mul64.calls _ _ _ _ _ M0.out).mono ?_); rintro e w' ⟨rfl, ⟨nd, rfl⟩⟩) | (go_at_call 131; (with_reducible refine (bits_Mul64.calls _ _ _ _ _ M1.out).mono ?_); rintro e w' ⟨rfl, ⟨nd', rfl⟩⟩))
  rw [rounds_succ]; go_wp2; exact bodyPost_ret (v := .tuple #[.agg #[.int .u64 0, .int .u64 0], .int .i64 10]) (by simp [results, Tryd.results114, go_sem]) rfl ⟨rfl, zv42⟩
end Go.Proofs.YtpkjpiphjdpegaaDoor.P
namespace Go.Proofs.YtpkjpiphjdpegaaDoor.P
open Go.RowKit Go.Proofs.YtpkjpiphjdpegaaDoorW.PrintWords Go.Proofs.YtpkjpiphjdpegaaDoorW.PrintLast Go.Proofs.YtpkjpiphjdpegaaDoorW.PrintMore
set_option linter.unusedVariables false
set_option linter.unusedSimpArgs false
theorem u_hiOf (n : Int) (h : 0 ≤ n) (h' : n < m128) : U64 (hiOf n) ∧ U64 (loOf n) := by unfold hiOf loOf m128 at *; constructor <;> constructor <;> omega
theorem val_halves (n : Int) : val (hiOf n) (loOf n) = n := by unfold val hiOf loOf; omega
theorem val_range (a b : Int) (ha : U64 a) (hb : U64 b) : 0 ≤ val a b ∧ val a b < m128 := by
 obtain ⟨a0, a1⟩ := ha; obtain ⟨b0, b1⟩ := hb; unfold val m128; omega
theorem add_num (a b c d : Int) (ha : U64 a) (hb : U64 b) (hc : U64 c) (hd : U64 d) :
  u128_Add.f a b c d = if val a b + val c d < m128 then some (hiOf (val a b + val c d), loOf (val a b + val c d), 0) else some (0, 0, 10) := by
 unfold u128_Add.f; rw [if_pos ⟨ha, hb, hc, hd⟩]
theorem hiOf_val (a b : Int) (hb : U64 b) : hiOf (val a b) = a := by
 obtain ⟨h1, h2⟩ := hb; unfold hiOf val; omega
theorem loOf_val (a b : Int) (hb : U64 b) : loOf (val a b) = b := by
 obtain ⟨h1, h2⟩ := hb; unfold loOf val; omega
theorem times_num (a b n : Int) (ha : U64 a) (hb : U64 b) (hn : U64 n) :
  u128_Times.f a b n = if val a b * n < m128 then some (hiOf (val a b * n), loOf (val a b * n), 0) else some (0, 0, 10) := by
 unfold u128_Times.f; rw [if_pos ⟨ha, hb, hn⟩]
theorem small_val (x : Int) : val 0 x = x := by unfold val; omega
def asc (l : List Int) : List Int := l.map (· + 48)
def unasc (l : List Int) : List Int := l.map (· - 48)
def dec (n : Int) : List Int := decF 38 n
theorem asc_unasc (l : List Int) : asc (unasc l) = l := by
 unfold unasc asc; rw [List.map_map]
 conv => rhs; rw [← List.map_id l]
 refine List.map_congr_left fun x _ => ?_
 show x - 48 + 48 = x; omega
theorem m39 : m128 ≤ 10 ^ 39 := by unfold m128; decide
def noNum (l : List Int) : Bool := l.isEmpty || l.any (fun c => decide (c < 48) || decide (c > 57)) || (decide (1 < l.length) && l.head? == some 48)
def parseOf (l : List Int) : Int × Int × Int := if noNum l = true then (0, 0, 20) else if valD (unasc l) < m128 then (hiOf (valD (unasc l)), loOf (valD (unasc l)), 0) else (0, 0, 10)
def decimal_Parse.f (a0 : ByteArray) : Option (Int × Int × Int) := if a0.size ≤ 1000000000 then some (parseOf (nb a0)) else none
theorem parse_num (s : ByteArray) (h : s.size ≤ 1000000000) : decimal_Parse.f s = some (parseOf (nb s)) := if_pos h
theorem noNum_false (l : List Int) (h : noNum l = false) : 1 ≤ l.length ∧ Dig (unasc l) ∧ (1 < (unasc l).length → (unasc l).head? ≠ some 0) := by
 unfold noNum at h; rw [Bool.or_eq_false_iff, Bool.or_eq_false_iff] at h; obtain ⟨⟨h1, h2⟩, h3⟩ := h; refine ⟨?_, ?_, ?_⟩
 ·cases l with
  | nil => simp at h1
  | cons x l => simp
 ·intro d hd; obtain ⟨c, hc, rfl⟩ := List.mem_map.1 hd; have := (List.any_eq_false.1 h2) c hc; simp at this; omega
 ·intro hl e; have l1 : 1 < l.length := by simpa [unasc] using hl
  cases l with
  | nil => simp at l1
  | cons x l =>
   have : x = 48 := by
    have : x - 48 = 0 := by simpa [unasc] using e
    omega
   subst this; rw [decide_eq_true l1] at h3; simp at h3
theorem text_parse (l : List Int) (h : noNum l = false) (hv : valD (unasc l) < m128) : asc (dec (valD (unasc l))) = l := by
 obtain ⟨h1, h2, h3⟩ := noNum_false l h; have := m39; have hl : (unasc l).length = (l.length - 1) + 1 := by simp [unasc]; omega
 rw [dec, dec_uniq (l.length - 1) 38 (unasc l) hl h2 h3 zv1, asc_unasc]
theorem parse_range (l : List Int) (h : noNum l = false) : 0 ≤ valD (unasc l) := (valD_range _ (noNum_false l h).2.1).1
end Go.Proofs.YtpkjpiphjdpegaaDoor.P
