/- A program of this session wrote this text out of the session's own texts. (part 26 of 46) -/
import Derived.Test.YtpkjpiphjdpegaaDoorCLedgerBack4
import Derived.Test.YtpkjpiphjdpegaaDoorCLedgerBack5
import Derived.Test.YtpkjpiphjdpegaaDoorCLedgerBack6
import Derived.Test.YtpkjpiphjdpegaaDoorCLedgerBack18
import Derived.Laws.Bits64
import Derived.Laws.Externs
import Derived.Shelf.Spec.BitsCarry
import Derived.Laws.BitsLemmas
import Derived.Laws.Bits64b
import Derived.Shelf.Bits.Mul64
import Derived.Lib.Mul64
import Derived.Test.YtpkjpiphjdpegaaDoorProg
namespace Go.Proofs.YtpkjpiphjdpegaaDoor.P
set_option linter.unusedVariables false
set_option linter.unusedSimpArgs false
def decF : Nat → Int → List Int
  | 0, n => [n]
  | f + 1, n => if n < 10 then [n] else decF f (n / 10) ++ [n % 10]
def valD (l : List Int) : Int := l.foldl (fun a d => a * 10 + d) 0
def Dig (l : List Int) : Prop := ∀ d, d ∈ l → 0 ≤ d ∧ d < 10
theorem ten_pos (k : Nat) : (0 : Int) < 10 ^ k := Int.pow_pos (by omega)
theorem valD_snoc (l : List Int) (d : Int) : valD (l ++ [d]) = valD l * 10 + d := by
  unfold valD
  rw [List.foldl_append]
  rfl
theorem fold_cons : ∀ (l : List Int) (a : Int), l.foldl (fun a d => a * 10 + d) a = a * 10 ^ l.length + l.foldl (fun a d => a * 10 + d) 0
  | [], a => by simp
  | x :: l, a => by
    rw [List.foldl_cons, List.foldl_cons, fold_cons l (a * 10 + x), fold_cons l (0 * 10 + x), List.length_cons, Int.pow_succ, Int.add_mul, Int.mul_assoc a 10, Int.mul_comm 10, Int.zero_mul, Int.zero_add]
    omega
theorem valD_cons (x : Int) (l : List Int) : valD (x :: l) = x * 10 ^ l.length + valD l := by
  unfold valD
  rw [List.foldl_cons, fold_cons l (0 * 10 + x), Int.zero_mul, Int.zero_add]
theorem valD_range : ∀ (l : List Int), Dig l → 0 ≤ valD l ∧ valD l < 10 ^ l.length
  | [], _ => by simp [valD]
  | x :: l, h => by
    have h0 := valD_range l (fun d hd => h d (List.mem_cons_of_mem _ hd))
    have h1 := h x (List.mem_cons_self ..)
    have p := ten_pos l.length
    rw [valD_cons, List.length_cons, Int.pow_succ]
    have h2 : x * 10 ^ l.length ≤ 9 * 10 ^ l.length := Int.mul_le_mul_of_nonneg_right (by omega) (by omega)
    have h3 : 0 ≤ x * 10 ^ l.length := Int.mul_nonneg h1.1 (by omega)
    omega
theorem dec_val : ∀ (f : Nat) (n : Int), valD (decF f n) = n
  | 0, n => by simp [decF, valD]
  | f + 1, n => by
    unfold decF
    by_cases h : n < 10
    · rw [if_pos h]; simp [valD]
    · rw [if_neg h, valD_snoc, dec_val f]
      omega
theorem dec_dig : ∀ (f : Nat) (n : Int), 0 ≤ n → n < 10 ^ (f + 1) → Dig (decF f n)
  | 0, n, h0, h => by
    intro d hd
    simp only [decF, List.mem_singleton] at hd
    rw [Int.pow_succ, Int.pow_zero] at h
    omega
  | f + 1, n, h0, h => by
    intro d hd
    unfold decF at hd
    by_cases g : n < 10
    · rw [if_pos g, List.mem_singleton] at hd
      omega
    · rw [if_neg g, List.mem_append, List.mem_singleton] at hd
      rcases hd with hd | hd
      · refine dec_dig f (n / 10) (by omega) ?_ d hd
        rw [Int.pow_succ] at h
        omega
      · omega
theorem dec_len : ∀ (f : Nat) (n : Int), 1 ≤ (decF f n).length ∧ (decF f n).length ≤ f + 1
  | 0, n => by simp [decF]
  | f + 1, n => by
    unfold decF
    by_cases g : n < 10
    · rw [if_pos g]; simp
    · rw [if_neg g, List.length_append]
      have := dec_len f (n / 10)
      simp only [List.length_singleton]
      omega
theorem dec_ne (f : Nat) (n : Int) : decF f n ≠ [] := by
  intro h
  have := (dec_len f n).1
  rw [h] at this
  simp at this
theorem dec_small (f : Nat) (n : Int) (h : n < 10) : decF f n = [n] := by
  cases f with
  | zero => rfl
  | succ f => simp [decF, h]
theorem dec_head : ∀ (f : Nat) (n x : Int) (l : List Int), n < 10 ^ (f + 1) → decF f n = x :: l → 0 < n → 0 < x
  | 0, n, x, l, h, e, hn => by
    simp only [decF, List.cons.injEq] at e
    omega
  | f + 1, n, x, l, h, e, hn => by
    unfold decF at e
    by_cases g : n < 10
    · rw [if_pos g] at e
      simp only [List.cons.injEq] at e
      omega
    · rw [if_neg g] at e
      cases hl : decF f (n / 10) with
      | nil => exact absurd hl (dec_ne _ _)
      | cons y t =>
        rw [hl, List.cons_append, List.cons.injEq] at e
        rw [← e.1]
        exact dec_head f (n / 10) y t (by rw [Int.pow_succ] at h; omega) hl (by omega)
theorem ten_mono : ∀ (a b : Nat), (10 : Int) ^ a ≤ 10 ^ (a + b)
  | a, 0 => Int.le_refl _
  | a, b + 1 => by
    have := ten_mono a b
    have p := ten_pos (a + b)
    rw [← Nat.add_assoc, Int.pow_succ]
    omega
theorem dec_uniq : ∀ (m f : Nat) (l : List Int), l.length = m + 1 → Dig l → (1 < l.length → l.head? ≠ some 0) → valD l < 10 ^ (f + 1) → decF f (valD l) = l
  | 0, f, l, hl, hd, hh, hv => by
    match l, hl with
    | [x], _ =>
      have hx := hd x (by simp)
      have e : valD [x] = x := by simp [valD]
      rw [e]
      exact dec_small f x hx.2
  | m + 1, f, l, hl, hd, hh, hv => by
    obtain ⟨t, d, rfl⟩ : ∃ t d, l = t ++ [d] := by
      rcases List.eq_nil_or_concat l with h | ⟨t, d, h⟩
      · rw [h] at hl; simp at hl
      · exact ⟨t, d, by rw [h, List.concat_eq_append]⟩
    have lt : t.length = m + 1 := by simpa using hl
    have dd := hd d (by simp)
    have dt : Dig t := fun x hx => hd x (List.mem_append_left _ hx)
    have ht : t.head? ≠ some 0 := by
      cases t with
      | nil => simp at lt
      | cons x t => simpa using hh (by simp)
    rw [valD_snoc] at hv ⊢
    have pos : 0 < valD t := by
      cases t with
      | nil => simp at lt
      | cons x t =>
        have n0 : x ≠ 0 := by simpa using ht
        have x0 := dt x (by simp)
        have r := (valD_range t (fun x hx => dt x (List.mem_cons_of_mem _ hx))).1
        rw [valD_cons]
        have : 0 < x * 10 ^ t.length := Int.mul_pos (by omega) (ten_pos _)
        omega
    cases f with
    | zero => rw [Int.pow_succ, Int.pow_zero] at hv; omega
    | succ f =>
      unfold decF
      rw [if_neg (by omega), show (valD t * 10 + d) / 10 = valD t from by omega, show (valD t * 10 + d) % 10 = d from by omega]
      rw [dec_uniq m f t lt dt (fun _ => ht) (by rw [Int.pow_succ] at hv; omega)]
theorem ediv_ten (n : Int) (k : Nat) : n / 10 ^ (k + 1) = n / 10 / 10 ^ k := by
  rw [Int.pow_succ, Int.mul_comm (10 ^ k) 10, Int.ediv_ediv_of_nonneg (by omega)]
end Go.Proofs.YtpkjpiphjdpegaaDoor.P
namespace Go.Proofs.YtpkjpiphjdpegaaDoor.P
set_option linter.unusedVariables false
set_option linter.unusedSimpArgs false
theorem val_all : ∀ (n : Nat) (l : List Int) (V : Int), l.length = n → 0 ≤ V → V < 10 ^ n → (∀ i, i < n → l.getD i 0 = V / 10 ^ (n - 1 - i) % 10) → valD l = V
  | 0, l, V, hl, h0, h1, h => by
    obtain rfl := List.eq_nil_of_length_eq_zero hl
    rw [Int.pow_zero] at h1
    show (0 : Int) = V
    omega
  | n + 1, l, V, hl, h0, h1, h => by
    obtain ⟨t, d, rfl⟩ : ∃ t d, l = t ++ [d] := by
      rcases List.eq_nil_or_concat l with e | ⟨t, d, e⟩
      · rw [e] at hl; simp at hl
      · exact ⟨t, d, by rw [e, List.concat_eq_append]⟩
    have lt : t.length = n := by simpa using hl
    have hd := h n (by omega)
    rw [show n + 1 - 1 - n = 0 from by omega, Int.pow_zero, Int.ediv_one, List.getD_eq_getElem?_getD, List.getElem?_append_right (by omega), show n - t.length = 0 from by omega] at hd
    have hd' : d = V % 10 := hd
    have ih := val_all n t (V / 10) lt (by omega) (by rw [Int.pow_succ] at h1; omega) (fun i hi => by
      have := h i (by omega)
      rw [List.getD_eq_getElem?_getD, List.getElem?_append_left (by omega), ← List.getD_eq_getElem?_getD] at this
      rw [this, show n + 1 - 1 - i = (n - 1 - i) + 1 from by omega, ediv_ten])
    rw [valD_snoc, ih]
    omega
theorem val_skip (l : List Int) (i : Nat) (hi : i < l.length) (h : l.getD i 0 = 0) : valD (l.drop (i + 1)) = valD (l.drop i) := by
  have e : l.drop i = l.getD i 0 :: l.drop (i + 1) := by
    rw [List.drop_eq_getElem_cons hi]
    congr 1
    rw [List.getD_eq_getElem?_getD, List.getElem?_eq_getElem hi]
    rfl
  rw [e, h, valD_cons]
  simp
theorem ten_split (V : Int) (a b : Nat) : V / 10 ^ (a + b) = V / 10 ^ a / 10 ^ b := by
  rw [Int.pow_add, Int.ediv_ediv_of_nonneg (Int.le_of_lt (ten_pos a))]
theorem dig_rest (V : Int) (h0 : 0 ≤ V) (j : Nat) (hj : j < 19) : V % 10 ^ 19 / 10 ^ j % 10 = V / 10 ^ j % 10 := by
  have e : (10 : Int) ^ 19 = 10 ^ j * (10 * 10 ^ (18 - j)) := by
    rw [← Int.pow_succ', ← Int.pow_add]
    congr 1
    omega
  have p := ten_pos j
  rw [e]
  generalize hp : (10 : Int) ^ j = P at *
  generalize (10 : Int) ^ (18 - j) = Q at *
  have m : V % (P * (10 * Q)) = V - P * (10 * Q) * (V / (P * (10 * Q))) := by
    have := Int.mul_ediv_add_emod V (P * (10 * Q))
    omega
  generalize V / (P * (10 * Q)) = Z at m
  have m' : V % (P * (10 * Q)) = V + P * (-(10 * (Q * Z))) := by
    rw [m, Int.mul_neg, Int.mul_assoc P, Int.mul_assoc 10]
    omega
  rw [m', Int.add_mul_ediv_left _ _ (by omega)]
  omega
end Go.Proofs.YtpkjpiphjdpegaaDoor.P
namespace Go.Proofs.YtpkjpiphjdpegaaDoor.P
open Go.RowKit Go.Proofs.YtpkjpiphjdpegaaDoorW.PrintWords Go.Proofs.YtpkjpiphjdpegaaDoorW.PrintLast Go.Proofs.YtpkjpiphjdpegaaDoorW.PrintMore
set_option linter.unusedVariables false
set_option linter.unusedSimpArgs false
def val (hi lo : Int) : Int := hi * 18446744073709551616 + lo
def hiOf (n : Int) : Int := n / 18446744073709551616
def loOf (n : Int) : Int := n % 18446744073709551616
def m128 : Int := 340282366920938463463374607431768211456
theorem call_add64 (x y c : Int) (hx : 0 ≤ x) (hy : 0 ≤ y) (hc0 : 0 ≤ c) (hc : c ≤ 1) (w : World) :
    (callFunc 124 #[.int .u64 x, .int .u64 y, .int .u64 c]).run Tryd.prog w =
      .ok (.value (.tuple #[.int .u64 ((x + y + c) % 18446744073709551616), .int .u64 ((x + y + c) / 18446744073709551616)])) w := by
  rw [run_callFunc_extern Tryd.func124 (by kernel_rfl) (by kernel_rfl) (by kernel_rfl) (e := add64Entry) (by kernel_rfl), run_add64 x y c hx hy hc0 hc]
  rfl
def u128_Add.f (a0_0 a0_1 a1_0 a1_1 : Int) : Option (Int × Int × Int) :=
  if U64 a0_0 ∧ U64 a0_1 ∧ U64 a1_0 ∧ U64 a1_1 then
    (if val a0_0 a0_1 + val a1_0 a1_1 < m128 then some (hiOf (val a0_0 a0_1 + val a1_0 a1_1), loOf (val a0_0 a0_1 + val a1_0 a1_1), 0) else some (0, 0, 10))
  else none
theorem add_plan (a b c d : Int) (ha : U64 a) (hb : U64 b) (hc : U64 c) (hd : U64 d) :
    ∃ lo c1 hi c2, (b + d + 0) % 18446744073709551616 = lo ∧ (b + d + 0) / 18446744073709551616 = c1 ∧ (a + c + c1) % 18446744073709551616 = hi ∧ (a + c + c1) / 18446744073709551616 = c2 ∧ 0 ≤ c1 ∧ c1 ≤ 1 ∧ 0 ≤ c2 ∧
      ((c2 = 0 ∧ u128_Add.f a b c d = some (hi, lo, 0)) ∨ (c2 ≠ 0 ∧ u128_Add.f a b c d = some (0, 0, 10))) := by
  refine ⟨_, _, _, _, rfl, rfl, rfl, rfl, by omega, by omega, by omega, ?_⟩
  by_cases h : val a b + val c d < m128
  · left
    unfold u128_Add.f
    rw [if_pos ⟨ha, hb, hc, hd⟩, if_pos h]
    unfold val m128 hiOf loOf at *
    refine ⟨by omega, ?_⟩
    congr 2
    · omega
    · congr 1
      omega
  · right
    unfold u128_Add.f
    rw [if_pos ⟨ha, hb, hc, hd⟩, if_neg h]
    unfold val m128 at *
    exact ⟨by omega, rfl⟩
end Go.Proofs.YtpkjpiphjdpegaaDoor.P
namespace Go.Proofs.YtpkjpiphjdpegaaDoor.P
open Go.RowKit Go.Proofs.YtpkjpiphjdpegaaDoorW.PrintWords Go.Proofs.YtpkjpiphjdpegaaDoorW.PrintLast Go.Proofs.YtpkjpiphjdpegaaDoorW.PrintMore
set_option linter.unusedVariables false
set_option linter.unusedSimpArgs false
theorem wu (x : Int) (h0 : 0 ≤ x) (h1 : x < 18446744073709551616) : IntKind.u64.wrap x = x := by rw [IntKind.wrap_u64]; omega
theorem wi (x : Int) (h0 : -9223372036854775808 ≤ x) (h1 : x < 9223372036854775808) : wrap64 x = x := by unfold wrap64; omega
def hf (a b c d : Int) : Int := ((d * 65536 + c) * 65536 + b) * 65536 + a
end Go.Proofs.YtpkjpiphjdpegaaDoor.P
namespace Go.Proofs.YtpkjpiphjdpegaaDoor.P
open Go.RowKit Go.Proofs.YtpkjpiphjdpegaaDoorW.PrintWords Go.Proofs.YtpkjpiphjdpegaaDoorW.PrintLast Go.Proofs.YtpkjpiphjdpegaaDoorW.PrintMore
set_option linter.unusedVariables false
set_option linter.unusedSimpArgs false
theorem quot_lt {y Q R T q : Int} (hy : 0 < y) (e : Q * y + R = T) (hR : 0 ≤ R) (h : T < q * y) : Q < q := by
  rcases Int.lt_or_le Q q with h1 | h1
  · exact h1
  · have := Int.mul_le_mul_of_nonneg_right h1 (Int.le_of_lt hy)
    omega
theorem quot_le {y Q R T q : Int} (hy : 0 < y) (e : Q * y + R = T) (hR : R < y) (h : q * y ≤ T) : q ≤ Q := by
  rcases Int.lt_or_le Q q with h1 | h1
  · have h2 : Q + 1 ≤ q := h1
    have := Int.mul_le_mul_of_nonneg_right h2 (Int.le_of_lt hy)
    rw [Int.add_mul, Int.one_mul] at this
    omega
  · exact h1
structure Est (x2 v1 v0 u d Q R : Int) : Prop where
  hy : x2 = v1 * 4294967296 + v0
  v1l : 2147483648 ≤ v1
  v1u : v1 < 4294967296
  v0l : 0 ≤ v0
  v0u : v0 < 4294967296
  dl : 0 ≤ d
  du : d < 4294967296
  ul : 0 ≤ u
  hQ : Q * x2 + R = u * 4294967296 + d
  Rl : 0 ≤ R
  Ru : R < x2
  Ql : 0 ≤ Q
  Qu : Q < 4294967296
theorem Est.made {x2 v1 v0 u d Q R q rh : Int} (h : Est x2 v1 v0 u d Q R) (e : q * v1 + rh = u) : q * x2 = (u - rh) * 4294967296 + q * v0 := by
  rw [h.hy, Int.mul_add, ← Int.mul_assoc, show q * v1 = u - rh by omega]
theorem Est.pos {x2 v1 v0 u d Q R : Int} (h : Est x2 v1 v0 u d Q R) : 0 < x2 := by
  have := h.hy
  have := h.v1l
  have := h.v0l
  omega
theorem Est.big {x2 v1 v0 u d Q R q rh : Int} (h : Est x2 v1 v0 u d Q R) (e : q * v1 + rh = u) (t : q ≥ 4294967296 ∨ q * v0 > 4294967296 * rh + d) : Q < q := by
  rcases t with t | t
  · have := h.Qu
    omega
  · have m := h.made e
    exact quot_lt h.pos h.hQ h.Rl (by omega)
theorem Est.fits {x2 v1 v0 u d Q R q rh : Int} (h : Est x2 v1 v0 u d Q R) (e : q * v1 + rh = u) (hq : Q ≤ q) (t : ¬ (q * v0 > 4294967296 * rh + d)) : q = Q := by
  have m := h.made e
  have := quot_le h.pos h.hQ h.Ru (q := q) (by omega)
  omega
theorem Est.over {x2 v1 v0 u d Q R q rh : Int} (h : Est x2 v1 v0 u d Q R) (e : q * v1 + rh = u) (hq : Q ≤ q) (hq' : q ≤ 4294967296) (t : rh ≥ 4294967296) : q = Q := by
  have m := h.made e
  have h0 : 0 ≤ q := by
    have := h.Ql
    omega
  have w : q * v0 ≤ 4294967296 * v0 := Int.mul_le_mul_of_nonneg_right hq' h.v0l
  have := h.v0u
  have := h.dl
  have := quot_le h.pos h.hQ h.Ru (q := q) (by omega)
  omega
theorem Est.word {x2 v1 v0 u d Q R q : Int} (h : Est x2 v1 v0 u d Q R) (hq : 0 ≤ q) (hq' : q < 4294967296) : 0 ≤ q * v0 ∧ q * v0 < 18446744073709551616 := by
  have w : q * v0 ≤ 4294967296 * v0 := Int.mul_le_mul_of_nonneg_right (by omega) h.v0l
  have := h.v0u
  exact ⟨Int.mul_nonneg hq h.v0l, by omega⟩
theorem wuu (x : Int) (h : 0 ≤ x) (h' : x < 18446744073709551616) : IntKind.u64.wrap x = x := by rw [IntKind.wrap_u64]; omega
theorem div_l0 {x2 v1 v0 u d Q R : Int} (h : Est x2 v1 v0 u d Q R) (x8 x14 : Int) : ∀ (n k : Nat) (q rh : Int), q * v1 + rh = u → Q ≤ q → q ≤ 4294967297 → 0 ≤ rh → rh < 4294967296 → 4294967296 ≤ rh + n * 2147483648 →
    ∃ k' : Nat, k' ≤ 2 * n ∧ bits_Div64.l0 (k + 2 * n) x2 x8 v1 v0 u d x14 q rh = bits_Div64.j2 (k + k') x2 x8 v1 v0 u d x14 Q
  | 0, k, q, rh, e, hq, hq1, r0, r1, hn => by omega
  | n + 1, k, q, rh, e, hq, hq1, r0, r1, hn => by
    have v1l := h.v1l
    have v1u := h.v1u
    have Ql := h.Ql
    have dl := h.dl
    have du := h.du
    have T : Q < q → ∃ k' : Nat, k' ≤ 2 * (n + 1) ∧ bits_Div64.j1 (k + 2 * n + 1) x2 x8 v1 v0 u d x14 q rh true = bits_Div64.j2 (k + k') x2 x8 v1 v0 u d x14 Q := by
      intro hlt
      have e' : (q - 1) * v1 + (rh + v1) = u := by rw [Int.sub_mul, Int.one_mul]; omega
      rw [bits_Div64.j1, if_pos rfl, wuu (rh + v1) (by omega) (by omega), wuu (q - 1) (by omega) (by omega)]
      by_cases hb : rh + v1 ≥ 4294967296
      · rw [if_pos hb, h.over e' (by omega) (by omega) hb]
        exact ⟨2 * n, by omega, rfl⟩
      · rw [if_neg hb]
        obtain ⟨k', hk, ee⟩ := div_l0 h x8 x14 n k (q - 1) (rh + v1) e' (by omega) (by omega) (by omega) (by omega) (by omega)
        exact ⟨k', by omega, ee⟩
    show ∃ k' : Nat, k' ≤ 2 * (n + 1) ∧ bits_Div64.l0 (k + 2 * n + 1 + 1) x2 x8 v1 v0 u d x14 q rh = bits_Div64.j2 (k + k') x2 x8 v1 v0 u d x14 Q
    rw [bits_Div64.l0]
    by_cases hb : q ≥ 4294967296
    · rw [if_pos hb]
      exact T (h.big e (.inl hb))
    · rw [if_neg hb]
      have w := h.word (q := q) (by omega) (by omega)
      rw [wuu (q * v0) w.1 w.2, wuu (4294967296 * rh) (by omega) (by omega), wuu (4294967296 * rh + d) (by omega) (by omega)]
      by_cases ht : q * v0 > 4294967296 * rh + d
      · rw [decide_eq_true ht]
        exact T (h.big e (.inr ht))
      · rw [decide_eq_false ht, bits_Div64.j1, if_neg (by simp), h.fits e hq ht]
        exact ⟨2 * n, by omega, rfl⟩
theorem div_l1 {x2 v1 v0 u d Q R : Int} (h : Est x2 v1 v0 u d Q R) (x8 x15 : Int) (h8 : 0 ≤ x8) : ∀ (n k : Nat) (q rh : Int), q * v1 + rh = u → Q ≤ q → q ≤ 4294967297 → 0 ≤ rh → rh < 4294967296 → 4294967296 ≤ rh + n * 2147483648 →
    bits_Div64.l1 (k + 2 * n) x2 x8 v1 v0 d x15 rh u q = some (IntKind.u64.wrap (IntKind.u64.wrap (x15 * 4294967296) + Q), shr .u64 (IntKind.u64.wrap (IntKind.u64.wrap (IntKind.u64.wrap (u * 4294967296) + d) - IntKind.u64.wrap (Q * x2))) x8)
  | 0, k, q, rh, e, hq, hq1, r0, r1, hn => by omega
  | n + 1, k, q, rh, e, hq, hq1, r0, r1, hn => by
    have v1l := h.v1l
    have v1u := h.v1u
    have Ql := h.Ql
    have dl := h.dl
    have du := h.du
    have T : Q < q → bits_Div64.j4 (k + 2 * n + 1) x2 x8 v1 v0 d x15 rh u q true = some (IntKind.u64.wrap (IntKind.u64.wrap (x15 * 4294967296) + Q), shr .u64 (IntKind.u64.wrap (IntKind.u64.wrap (IntKind.u64.wrap (u * 4294967296) + d) - IntKind.u64.wrap (Q * x2))) x8) := by
      intro hlt
      have e' : (q - 1) * v1 + (rh + v1) = u := by rw [Int.sub_mul, Int.one_mul]; omega
      rw [bits_Div64.j4, if_pos rfl, wuu (rh + v1) (by omega) (by omega), wuu (q - 1) (by omega) (by omega)]
      by_cases hb : rh + v1 ≥ 4294967296
      · rw [if_pos hb, if_pos h8, h.over e' (by omega) (by omega) hb]
      · rw [if_neg hb]
        exact div_l1 h x8 x15 h8 n k (q - 1) (rh + v1) e' (by omega) (by omega) (by omega) (by omega) (by omega)
    show bits_Div64.l1 (k + 2 * n + 1 + 1) x2 x8 v1 v0 d x15 rh u q = _
    rw [bits_Div64.l1]
    by_cases hb : q ≥ 4294967296
    · rw [if_pos hb]
      exact T (h.big e (.inl hb))
    · rw [if_neg hb]
      have w := h.word (q := q) (by omega) (by omega)
      rw [wuu (q * v0) w.1 w.2, wuu (4294967296 * rh) (by omega) (by omega), wuu (4294967296 * rh + d) (by omega) (by omega)]
      by_cases ht : q * v0 > 4294967296 * rh + d
      · rw [decide_eq_true ht]
        exact T (h.big e (.inr ht))
      · rw [decide_eq_false ht, bits_Div64.j4, if_neg (by simp), if_pos h8, h.fits e hq ht]
end Go.Proofs.YtpkjpiphjdpegaaDoor.P
namespace Go.Proofs.YtpkjpiphjdpegaaDoor.P
open Go.RowKit Go.Proofs.YtpkjpiphjdpegaaDoorW.PrintWords Go.Proofs.YtpkjpiphjdpegaaDoorW.PrintLast Go.Proofs.YtpkjpiphjdpegaaDoorW.PrintMore
set_option linter.unusedVariables false
set_option linter.unusedSimpArgs false
def lenTab : ByteArray := (⟨#[0, 1, 2, 2, 3, 3, 3, 3, 4, 4, 4, 4, 4, 4, 4, 4, 5, 5, 5, 5, 5, 5, 5, 5, 5, 5, 5, 5, 5, 5, 5, 5, 6, 6, 6, 6, 6, 6, 6, 6, 6, 6, 6, 6, 6, 6, 6, 6, 6, 6, 6, 6, 6, 6, 6, 6, 6, 6, 6, 6, 6, 6, 6, 6, 7, 7, 7, 7, 7, 7, 7, 7, 7, 7, 7, 7, 7, 7, 7, 7, 7, 7, 7, 7, 7, 7, 7, 7, 7, 7, 7, 7, 7, 7, 7, 7, 7, 7, 7, 7, 7, 7, 7, 7, 7, 7, 7, 7, 7, 7, 7, 7, 7, 7, 7, 7, 7, 7, 7, 7, 7, 7, 7, 7, 7, 7, 7, 7, 8, 8, 8, 8, 8, 8, 8, 8, 8, 8, 8, 8, 8, 8, 8, 8, 8, 8, 8, 8, 8, 8, 8, 8, 8, 8, 8, 8, 8, 8, 8, 8, 8, 8, 8, 8, 8, 8, 8, 8, 8, 8, 8, 8, 8, 8, 8, 8, 8, 8, 8, 8, 8, 8, 8, 8, 8, 8, 8, 8, 8, 8, 8, 8, 8, 8, 8, 8, 8, 8, 8, 8, 8, 8, 8, 8, 8, 8, 8, 8, 8, 8, 8, 8, 8, 8, 8, 8, 8, 8, 8, 8, 8, 8, 8, 8, 8, 8, 8, 8, 8, 8, 8, 8, 8, 8, 8, 8, 8, 8, 8, 8, 8, 8, 8, 8, 8, 8, 8, 8, 8, 8, 8, 8, 8, 8, 8, 8]⟩ : ByteArray)
set_option maxRecDepth 100000 in
theorem lenTab_all : ∀ b : Fin 256, 0 < b.val → ∃ n : Fin 9, bt lenTab (b.val : Int) = (n.val : Int) ∧ 2 ^ n.val ≤ 2 * b.val ∧ b.val < 2 ^ n.val := by decide +kernel
theorem lenTab_is (b : Int) (h0 : 0 < b) (h1 : b < 256) : ∃ n : Nat, n ≤ 8 ∧ 1 ≤ n ∧ bt lenTab b = (n : Int) ∧ (2 : Nat) ^ n ≤ 2 * b.toNat ∧ b.toNat < 2 ^ n := by
  obtain ⟨n, e, l, u⟩ := lenTab_all ⟨b.toNat, by omega⟩ (by show 0 < b.toNat; omega)
  have hb : ((⟨b.toNat, by omega⟩ : Fin 256).val : Int) = b := by show (b.toNat : Int) = b; omega
  rw [hb] at e
  refine ⟨n.val, by omega, ?_, e, l, u⟩
  rcases Nat.eq_zero_or_pos n.val with h | h
  · rw [h] at u
    have : b.toNat < 1 := u
    omega
  · exact h
structure Len (x : Int) (n : Nat) : Prop where
  pos : 1 ≤ n
  le : n ≤ 64
  low : 9223372036854775808 ≤ x * ((2 ^ (64 - n) : Nat) : Int)
  high : x * ((2 ^ (64 - n) : Nat) : Int) < 18446744073709551616
theorem len_at (x : Int) (off n : Nat) (hx : 0 < x) (P : Nat) (hP : P = 2 ^ off) (hn : n ≤ 8) (hn1 : 1 ≤ n) (ho : off + n ≤ 64) (b : Int) (hb : b = x / (P : Int)) (hb0 : 0 < b) (l : (2 : Nat) ^ n ≤ 2 * b.toNat) (u : b.toNat < 2 ^ n) : Len x (off + n) := by
  obtain ⟨X, rfl⟩ := Int.eq_ofNat_of_zero_le (Int.le_of_lt hx)
  have hPp : 0 < P := by rw [hP]; exact Nat.two_pow_pos _
  have eb : b = ((X / P : Nat) : Int) := by rw [hb]; rfl
  have eb' : b.toNat = X / P := by omega
  rw [eb'] at l u
  have h1 : P * (X / P) ≤ X := Nat.mul_div_le X P
  have h2 : X < P * 2 ^ n := by
    have := Nat.lt_mul_of_div_lt u hPp
    rw [Nat.mul_comm] at this
    exact this
  have e64 : P * 2 ^ n * 2 ^ (64 - (off + n)) = 2 ^ 64 := by
    rw [hP, ← Nat.pow_add, ← Nat.pow_add]
    congr 1
    omega
  have hQ : 0 < 2 ^ (64 - (off + n)) := Nat.two_pow_pos _
  have l2 : P * 2 ^ n ≤ 2 * X := by
    have := Nat.mul_le_mul_left P l
    rw [Nat.mul_left_comm] at this
    omega
  refine ⟨by omega, ho, ?_, ?_⟩
  · have := Nat.mul_le_mul_right (2 ^ (64 - (off + n))) l2
    rw [e64, Nat.mul_assoc] at this
    have h : (9223372036854775808 : Nat) ≤ X * 2 ^ (64 - (off + n)) := by
      have e : (2 : Nat) ^ 64 = 18446744073709551616 := by decide
      omega
    rw [← Int.natCast_mul]
    exact Int.ofNat_le.2 h
  · have := Nat.mul_lt_mul_of_pos_right h2 hQ
    rw [e64] at this
    rw [← Int.natCast_mul]
    exact Int.ofNat_lt.2 this
theorem len_part (x y base : Int) (off : Nat) (P : Nat) (hP : P = 2 ^ off) (hx : 0 < x) (b : Int) (hb : b = x / (P : Int)) (hb0 : 0 < b) (hb1 : b < 256) (ho : off ≤ 56) (hbase : y = (off : Int)) :
    ∃ n : Nat, wrap64 (y + wrap64 (bt lenTab b)) = (n : Int) ∧ Len x n := by
  obtain ⟨n, h1, h2, e, l, u⟩ := lenTab_is b hb0 hb1
  refine ⟨off + n, ?_, len_at x off n hx P hP h1 h2 (by omega) b hb hb0 l u⟩
  rw [e, hbase, wi (n : Int) (by omega) (by omega), wi _ (by omega) (by omega)]
  omega
theorem len_j (x : Int) (hx : 0 < x) (k : Nat) (y base : Int) (off : Nat) (hy : 0 < y) (hy1 : y < 4294967296) (P : Nat) (hP : P = 2 ^ off) (hyx : y = x / (P : Int)) (ho : off = 0 ∨ off = 32) (hb : base = (off : Int)) :
    ∃ n : Nat, bits_Len64.j0 (k + 1) y base = some (n : Int) ∧ Len x n := by
  rw [bits_Len64.j0, show (⟨#[0, 1, 2, 2, 3, 3, 3, 3, 4, 4, 4, 4, 4, 4, 4, 4, 5, 5, 5, 5, 5, 5, 5, 5, 5, 5, 5, 5, 5, 5, 5, 5, 6, 6, 6, 6, 6, 6, 6, 6, 6, 6, 6, 6, 6, 6, 6, 6, 6, 6, 6, 6, 6, 6, 6, 6, 6, 6, 6, 6, 6, 6, 6, 6, 7, 7, 7, 7, 7, 7, 7, 7, 7, 7, 7, 7, 7, 7, 7, 7, 7, 7, 7, 7, 7, 7, 7, 7, 7, 7, 7, 7, 7, 7, 7, 7, 7, 7, 7, 7, 7, 7, 7, 7, 7, 7, 7, 7, 7, 7, 7, 7, 7, 7, 7, 7, 7, 7, 7, 7, 7, 7, 7, 7, 7, 7, 7, 7, 8, 8, 8, 8, 8, 8, 8, 8, 8, 8, 8, 8, 8, 8, 8, 8, 8, 8, 8, 8, 8, 8, 8, 8, 8, 8, 8, 8, 8, 8, 8, 8, 8, 8, 8, 8, 8, 8, 8, 8, 8, 8, 8, 8, 8, 8, 8, 8, 8, 8, 8, 8, 8, 8, 8, 8, 8, 8, 8, 8, 8, 8, 8, 8, 8, 8, 8, 8, 8, 8, 8, 8, 8, 8, 8, 8, 8, 8, 8, 8, 8, 8, 8, 8, 8, 8, 8, 8, 8, 8, 8, 8, 8, 8, 8, 8, 8, 8, 8, 8, 8, 8, 8, 8, 8, 8, 8, 8, 8, 8, 8, 8, 8, 8, 8, 8, 8, 8, 8, 8, 8, 8, 8, 8, 8, 8, 8, 8]⟩ : ByteArray) = lenTab from rfl]
  have hPP : (P : Int) = 1 ∨ (P : Int) = 4294967296 := by
    rcases ho with rfl | rfl
    · left; rw [hP]; rfl
    · right; rw [hP]; rfl
  have wb : ∀ a c : Int, base + a = c → 0 ≤ a → a ≤ 100 → wrap64 (base + a) = c := by
    intro a c e a0 a1
    rw [e, wi _ (by omega) (by omega)]
  have p : ∀ (m : Nat), m ≤ 24 → ((P * 2 ^ m : Nat) = 2 ^ (off + m)) := by
    intro m hm
    rw [hP, ← Nat.pow_add]
  by_cases h1 : y ≥ 65536
  · rw [if_pos h1]
    by_cases h2 : y / 65536 ≥ 256
    · rw [if_pos h2, if_pos (by omega), if_pos (by omega), wb 16 (base + 16) rfl (by omega) (by omega), wi (base + 16 + 8) (by omega) (by omega)]
      obtain ⟨n, e, hl⟩ := len_part x (base + 16 + 8) base (off + 24) (P * 2 ^ 24) (p 24 (by omega)) hx (y / 65536 / 256 % 256) (by rcases hPP with h | h <;> (rw [h] at hyx; rw [Int.natCast_mul, h]; omega)) (by omega) (by omega) (by omega) (by omega)
      exact ⟨n, by rw [e], hl⟩
    · rw [if_neg h2, if_pos (by omega), if_pos (by omega), wb 16 (base + 16) rfl (by omega) (by omega)]
      obtain ⟨n, e, hl⟩ := len_part x (base + 16) base (off + 16) (P * 2 ^ 16) (p 16 (by omega)) hx (y / 65536 % 256) (by rcases hPP with h | h <;> (rw [h] at hyx; rw [Int.natCast_mul, h]; omega)) (by omega) (by omega) (by omega) (by omega)
      exact ⟨n, by rw [e], hl⟩
  · rw [if_neg h1]
    by_cases h2 : y ≥ 256
    · rw [if_pos h2, if_pos (by omega), if_pos (by omega), wb 8 (base + 8) rfl (by omega) (by omega)]
      obtain ⟨n, e, hl⟩ := len_part x (base + 8) base (off + 8) (P * 2 ^ 8) (p 8 (by omega)) hx (y / 256 % 256) (by rcases hPP with h | h <;> (rw [h] at hyx; rw [Int.natCast_mul, h]; omega)) (by omega) (by omega) (by omega) (by omega)
      exact ⟨n, by rw [e], hl⟩
    · rw [if_neg h2, if_pos (by omega), if_pos (by omega)]
      obtain ⟨n, e, hl⟩ := len_part x base base off P hP hx (y % 256) (by rcases hPP with h | h <;> (rw [h] at hyx; rw [h]; omega)) (by omega) (by omega) (by omega) (by omega)
      exact ⟨n, by rw [e], hl⟩
theorem lead_is (x : Int) (hx : 0 < x) (hx1 : x < 18446744073709551616) (k : Nat) : ∃ s : Nat, s ≤ 63 ∧ bits_LeadingZeros64.f (k + 1) x = some (s : Int) ∧ 9223372036854775808 ≤ x * ((2 ^ s : Nat) : Int) ∧ x * ((2 ^ s : Nat) : Int) < 18446744073709551616 := by
  have H : ∃ n : Nat, bits_Len64.f (k + 1) x = some (n : Int) ∧ Len x n := by
    unfold bits_Len64.f
    by_cases h : x ≥ 4294967296
    · rw [if_pos h]
      exact len_j x hx k (x / 4294967296) 32 32 (by omega) (by omega) 4294967296 (by decide) rfl (.inr rfl) rfl
    · rw [if_neg h]
      exact len_j x hx k x 0 0 (by omega) (by omega) 1 (by decide) (by omega) (.inl rfl) rfl
  obtain ⟨n, e, hl⟩ := H
  have := hl.pos
  have := hl.le
  refine ⟨64 - n, by omega, ?_, hl.low, hl.high⟩
  unfold bits_LeadingZeros64.f
  rw [e]
  simp only [Option.bind_some]
  rw [wi _ (by omega) (by omega)]
  congr 1
  omega
end Go.Proofs.YtpkjpiphjdpegaaDoor.P
namespace Go.Proofs.YtpkjpiphjdpegaaDoor.P
open Go.RowKit Go.Proofs.YtpkjpiphjdpegaaDoorW.PrintWords Go.Proofs.YtpkjpiphjdpegaaDoorW.PrintLast Go.Proofs.YtpkjpiphjdpegaaDoorW.PrintMore
set_option linter.unusedVariables false
set_option linter.unusedSimpArgs false
theorem shl_is (x : Int) (s : Nat) (hs : s ≤ 64) : shl .u64 x (s : Int) = IntKind.u64.wrap (x * ((2 ^ s : Nat) : Int)) := by
  unfold shl
  rw [show ((s : Int)).toNat = s by omega, show min s IntKind.u64.bits = s from Nat.min_eq_left hs, Int.natCast_pow]
  rfl
theorem shr_is (x : Int) (s : Nat) (hs : s ≤ 64) : shr .u64 x (s : Int) = x / ((2 ^ s : Nat) : Int) := by
  unfold shr
  rw [show ((s : Int)).toNat = s by omega, show min s IntKind.u64.bits = s from Nat.min_eq_left hs, Int.natCast_pow]
  rfl
theorem mask_is (x : Int) (h0 : 0 ≤ x) (h1 : x < 18446744073709551616) : Go.bits .and .u64 x 4294967295 = x % 4294967296 := by
  obtain ⟨X, rfl⟩ := Int.eq_ofNat_of_zero_le h0
  rw [Go.Proofs.Mul64.maskN X (by omega)]
  omega
theorem or_is2 (x y : Int) (s : Nat) (hx : 0 ≤ x) (hx1 : x < 18446744073709551616) (hd : x % ((2 ^ s : Nat) : Int) = 0) (hy : 0 ≤ y) (hy1 : y < ((2 ^ s : Nat) : Int)) (hs : s ≤ 63) : Go.bits .or .u64 x y = x + y := by
  have e : ((2 ^ s : Nat) : Int) = 2 ^ s := by rw [Int.natCast_pow]; rfl
  have hle : (2 : Nat) ^ s ≤ 2 ^ 63 := Nat.pow_le_pow_right (by omega) hs
  have hle' : ((2 ^ s : Nat) : Int) ≤ 9223372036854775808 := Int.ofNat_le.2 hle
  rw [e] at hd
  refine bits_join .u64 64 (by decide) (fun n h0 h1 => wuu n h0 (by omega)) s x y hx hd (by omega) hy (by rw [← e]; exact hy1) (by omega)
theorem est_mk (V u d : Int) (hV : 9223372036854775808 ≤ V) (hV1 : V < 18446744073709551616) (hu : 0 ≤ u) (hu1 : u < V) (hd : 0 ≤ d) (hd1 : d < 4294967296) :
    Est V (V / 4294967296) (V % 4294967296) u d ((u * 4294967296 + d) / V) ((u * 4294967296 + d) % V) :=
  ⟨by omega, by omega, by omega, by omega, by omega, hd, hd1, hu, Int.ediv_mul_add_emod _ _, Int.emod_nonneg _ (by omega), Int.emod_lt_of_pos _ (by omega), Int.ediv_nonneg (by omega) (by omega),
    Int.ediv_lt_of_lt_mul (by omega) (by omega)⟩
theorem Est.first {x2 v1 v0 u d Q R : Int} (h : Est x2 v1 v0 u d Q R) : Q ≤ u / v1 ∧ u / v1 ≤ 4294967297 ∧ u / v1 * v1 + u % v1 = u ∧ 0 ≤ u % v1 ∧ u % v1 < 4294967296 := by
  obtain ⟨hy, v1l, v1u, v0l, v0u, dl, du, ul, hQ, Rl, Ru, Ql, Qu⟩ := h
  have e : Q * x2 = Q * v1 * 4294967296 + Q * v0 := by rw [hy, Int.mul_add, ← Int.mul_assoc]
  have w := Int.mul_nonneg Ql v0l
  have hv : 0 < v1 := by omega
  have q1 := Int.emod_lt_of_pos u hv
  have q0 := Int.emod_nonneg u (show v1 ≠ 0 by omega)
  have hm : Q * x2 ≤ 4294967295 * x2 := Int.mul_le_mul_of_nonneg_right (by omega) (by omega)
  have hlt : u < 4294967298 * v1 := by omega
  have := Int.ediv_lt_of_lt_mul hv hlt
  exact ⟨Int.le_ediv_of_mul_le hv (by omega), by omega, Int.ediv_mul_add_emod _ _, q0, by omega⟩
theorem div_core (V u d1 d0 : Int) (s : Nat) (hs : s ≤ 63) (hV : 9223372036854775808 ≤ V) (hV1 : V < 18446744073709551616) (hu : 0 ≤ u) (hu1 : u < V) (hd : 0 ≤ d1) (hd1 : d1 < 4294967296) (hd' : 0 ≤ d0) (hd1' : d0 < 4294967296) (k : Nat) :
    ∃ Qt R : Int, bits_Div64.l0 (k + 16) V (s : Int) (V / 4294967296) (V % 4294967296) u d1 d0 (IntKind.u64.wrap (Int.tdiv u (V / 4294967296))) (IntKind.u64.wrap (u - IntKind.u64.wrap (IntKind.u64.wrap (Int.tdiv u (V / 4294967296)) * (V / 4294967296)))) = some (Qt, R / ((2 ^ s : Nat) : Int)) ∧
      Qt * V + R = (u * 4294967296 + d1) * 4294967296 + d0 ∧ 0 ≤ R ∧ R < V ∧ 0 ≤ Qt ∧ Qt < 18446744073709551616 := by
  have E := est_mk V u d1 hV hV1 hu hu1 hd hd1
  obtain ⟨f1, f2, f3, f4, f5⟩ := E.first
  have hR0 := E.Rl
  have hR1 := E.Ru
  have hQ0 := E.Ql
  have hQ1 := E.Qu
  have hE := E.hQ
  have hdiv : ∀ x : Int, 0 ≤ x → x < V → IntKind.u64.wrap (Int.tdiv x (V / 4294967296)) = x / (V / 4294967296) := by
    intro x h0 h1
    have hp := Int.ediv_nonneg h0 (show 0 ≤ V / 4294967296 by omega)
    have hq : x / (V / 4294967296) ≤ x := Int.ediv_le_self _ h0
    rw [Int.tdiv_eq_ediv_of_nonneg h0, wuu _ hp (by omega)]
  have hrest : ∀ x : Int, 0 ≤ x → x < V → IntKind.u64.wrap (x - IntKind.u64.wrap (x / (V / 4294967296) * (V / 4294967296))) = x % (V / 4294967296) := by
    intro x h0 h1
    have e := Int.ediv_mul_add_emod x (V / 4294967296)
    have r0 := Int.emod_nonneg x (show V / 4294967296 ≠ 0 by omega)
    have r1 := Int.emod_lt_of_pos x (show 0 < V / 4294967296 by omega)
    have p0 := Int.mul_nonneg (Int.ediv_nonneg h0 (show 0 ≤ V / 4294967296 by omega)) (show 0 ≤ V / 4294967296 by omega)
    generalize x / (V / 4294967296) * (V / 4294967296) = P at *
    rw [wuu P p0 (by omega), wuu _ (by omega) (by omega)]
    omega
  rw [hdiv u hu hu1, hrest u hu hu1]
  generalize hQn : (u * 4294967296 + d1) / V = Q1 at *
  generalize hRn : (u * 4294967296 + d1) % V = R1 at *
  obtain ⟨k', hk, e1⟩ := div_l0 E (s : Int) d0 2 (k + 12) (u / (V / 4294967296)) (u % (V / 4294967296)) f3 f1 f2 f4 f5 (by omega)
  have E2 := est_mk V R1 d0 hV hV1 hR0 hR1 hd' hd1'
  obtain ⟨g1, g2, g3, g4, g5⟩ := E2.first
  have hR20 := E2.Rl
  have hR21 := E2.Ru
  have hQ20 := E2.Ql
  have hQ21 := E2.Qu
  have hE2 := E2.hQ
  have hd2 := hdiv R1 hR0 hR1
  have hr2 := hrest R1 hR0 hR1
  generalize (R1 * 4294967296 + d0) / V = Q0 at *
  generalize (R1 * 4294967296 + d0) % V = R0 at *
  have e2 := div_l1 E2 (s : Int) Q1 (by omega) 2 (k + 7 + k') (R1 / (V / 4294967296)) (R1 % (V / 4294967296)) g3 g1 g2 g4 g5 (by omega)
  have u21 : IntKind.u64.wrap (IntKind.u64.wrap (IntKind.u64.wrap (u * 4294967296) + d1) - IntKind.u64.wrap (Q1 * V)) = R1 := by
    generalize Q1 * V = P at *
    rw [IntKind.wrap_u64, IntKind.wrap_u64, IntKind.wrap_u64, IntKind.wrap_u64]
    omega
  have u20 : IntKind.u64.wrap (IntKind.u64.wrap (IntKind.u64.wrap (R1 * 4294967296) + d0) - IntKind.u64.wrap (Q0 * V)) = R0 := by
    generalize Q0 * V = P at *
    rw [IntKind.wrap_u64, IntKind.wrap_u64, IntKind.wrap_u64, IntKind.wrap_u64]
    omega
  have e3 : bits_Div64.l0 (k + 16) V (s : Int) (V / 4294967296) (V % 4294967296) u d1 d0 (u / (V / 4294967296)) (u % (V / 4294967296)) = bits_Div64.j2 (k + 12 + k') V (s : Int) (V / 4294967296) (V % 4294967296) u d1 d0 Q1 := e1
  refine ⟨Q1 * 4294967296 + Q0, R0, ?_, ?_, hR20, hR21, by omega, by omega⟩
  · rw [e3, show k + 12 + k' = (k + 11 + k') + 1 by omega, bits_Div64.j2, if_neg (by omega), u21, hd2, hr2, show k + 11 + k' = k + 7 + k' + 2 * 2 by omega, e2, u20, shr_is R0 s (by omega), wuu (Q1 * 4294967296) (by omega) (by omega), wuu _ (by omega) (by omega)]
  · rw [Int.add_mul, Int.mul_right_comm]
    omega
theorem div64_is (hi lo y : Int) (h1 : U64 hi) (h2 : U64 lo) (h3 : U64 y) (hlt : hi < y) (k : Nat) :
    bits_Div64.f (k + 20) hi lo y = some ((hi * 18446744073709551616 + lo) / y, (hi * 18446744073709551616 + lo) % y) := by
  obtain ⟨a0, a1⟩ := h1
  obtain ⟨b0, b1⟩ := h2
  obtain ⟨c0, c1⟩ := h3
  unfold bits_Div64.f
  rw [if_neg (by omega), if_neg (by omega)]
  by_cases h0 : hi = 0
  · subst h0
    have hq : lo / y ≤ lo := Int.ediv_le_self _ b0
    have hq0 := Int.ediv_nonneg b0 (show 0 ≤ y by omega)
    rw [if_pos rfl, Int.tdiv_eq_ediv_of_nonneg b0, Int.tmod_eq_emod_of_nonneg b0, wuu _ hq0 (by omega), show (0 : Int) * 18446744073709551616 + lo = lo by omega]
  rw [if_neg h0]
  obtain ⟨s, hs, es, low, high⟩ := lead_is y (by omega) c1 (k + 19)
  have es' : bits_LeadingZeros64.f (k + 20) y = some (s : Int) := es
  rw [es']
  simp only [Option.bind_some]
  have hST : (2 ^ s) * (2 ^ (64 - s)) = (18446744073709551616 : Nat) := by
    rw [← Nat.pow_add, show s + (64 - s) = 64 by omega]
  have hSp : 0 < 2 ^ s := Nat.two_pow_pos s
  have hTp : 0 < 2 ^ (64 - s) := Nat.two_pow_pos (64 - s)
  have hSi : ((2 ^ s : Nat) : Int) * ((2 ^ (64 - s) : Nat) : Int) = 18446744073709551616 := by
    rw [← Int.natCast_mul, hST]
    rfl
  have hle : (2 : Nat) ^ s ≤ 2 ^ 63 := Nat.pow_le_pow_right (by omega) hs
  have hle' : ((2 ^ s : Nat) : Int) ≤ 9223372036854775808 := Int.ofNat_le.2 hle
  rw [wuu (s : Int) (by omega) (by omega), wuu (64 - (s : Int)) (by omega) (by omega), if_pos (by omega), if_pos (by omega), show (64 : Int) - (s : Int) = ((64 - s : Nat) : Int) by omega]
  rw [shl_is y s (by omega), shl_is hi s (by omega), shl_is lo s (by omega), shr_is lo (64 - s) (by omega)]
  have hor : ∀ x z, _ := fun x z => or_is2 x z s
  generalize hS : ((2 ^ s : Nat) : Int) = S at *
  generalize hT : ((2 ^ (64 - s) : Nat) : Int) = T at *
  have hS0 : 0 < S := by omega
  have hT0 : 0 < T := by omega
  have hL : lo / T = lo * S / 18446744073709551616 := by
    rw [← hSi, Int.mul_comm S T, Int.mul_ediv_mul_of_pos_left _ _ hS0]
  have hH : (hi + 1) * S ≤ y * S := Int.mul_le_mul_of_nonneg_right (by omega) (by omega)
  rw [Int.add_mul, Int.one_mul] at hH
  have hH0 : 0 ≤ hi * S := Int.mul_nonneg a0 (by omega)
  have hHd : hi * S % S = 0 := Int.mul_emod_left hi S
  have hL0 : 0 ≤ lo * S := Int.mul_nonneg b0 (by omega)
  have hL1 : lo * S ≤ 18446744073709551615 * S := Int.mul_le_mul_of_nonneg_right (by omega) (by omega)
  have hN : (hi * 18446744073709551616 + lo) * S = hi * S * 18446744073709551616 + lo * S := by rw [Int.add_mul, Int.mul_right_comm]
  have hMS := Int.mul_ediv_mul_of_pos_left (hi * 18446744073709551616 + lo) y hS0
  have hMr := Int.mul_emod_mul_of_pos (hi * 18446744073709551616 + lo) y hS0
  rw [Int.mul_comm S, Int.mul_comm S] at hMr
  rw [hN] at hMS hMr
  rw [hL]
  generalize hi * S = H at *
  generalize lo * S = L at *
  generalize y * S = V at *
  rw [wuu V (by omega) high, wuu H hH0 (by omega), hor H (L / 18446744073709551616) hH0 (by omega) hHd (by omega) (by omega) hs, mask_is V (by omega) high, show IntKind.u64.wrap L = L % 18446744073709551616 from IntKind.wrap_u64 L, mask_is (L % 18446744073709551616) (by omega) (by omega), if_neg (by omega)]
  obtain ⟨Qt, R, e, eq, r0, r1, q0, q1⟩ := div_core V (H + L / 18446744073709551616) (L % 18446744073709551616 / 4294967296) (L % 18446744073709551616 % 4294967296) s hs low high (by omega) (by omega) (by omega) (by omega) (by omega) (by omega) (k + 4)
  rw [hS] at e
  have hTt : H * 18446744073709551616 + L = R + V * Qt := by rw [Int.mul_comm V]; omega
  obtain ⟨d1, d2⟩ := (Int.ediv_emod_unique (show 0 < V by omega)).2 ⟨hTt.symm, r0, r1⟩
  rw [hMS] at d1
  rw [hMr, Int.mul_comm] at d2
  have hr : R / S = (hi * 18446744073709551616 + lo) % y := by rw [← d2]; exact Int.mul_ediv_cancel _ (by omega)
  rw [← hr, d1]
  exact e
end Go.Proofs.YtpkjpiphjdpegaaDoor.P
namespace Go.Proofs.YtpkjpiphjdpegaaDoor.P
open Go.RowKit Go.Proofs.YtpkjpiphjdpegaaDoorW.PrintWords Go.Proofs.YtpkjpiphjdpegaaDoorW.PrintLast Go.Proofs.YtpkjpiphjdpegaaDoorW.PrintMore
set_option linter.unusedVariables false
set_option linter.unusedSimpArgs false
theorem halves (n hi lo : Int) (h : U64 lo) (e : n = hi * 18446744073709551616 + lo) : hiOf n = hi ∧ loOf n = lo := by
  unfold hiOf loOf; constructor <;> omega
end Go.Proofs.YtpkjpiphjdpegaaDoor.P
namespace Go.Proofs.YtpkjpiphjdpegaaDoor.P
open Go.RowKit Go.Proofs.YtpkjpiphjdpegaaDoorW.PrintWords Go.Proofs.YtpkjpiphjdpegaaDoorW.PrintLast Go.Proofs.YtpkjpiphjdpegaaDoorW.PrintMore
set_option linter.unusedVariables false
set_option linter.unusedSimpArgs false
open Go.Proofs.Mul64 in
theorem mul64_nat (x y : Nat) (hx : x < 18446744073709551616) (hy : y < 18446744073709551616) :
    bits_Mul64.f (x : Int) (y : Int) = some (((x * y / 18446744073709551616 : Nat) : Int), ((x * y % 18446744073709551616 : Nat) : Int)) := by
  obtain ⟨bd, bt, bw, hhi⟩ := Lib.mul64_hi x y hx hy
  have ba := Lib.half_mul_le (a := x / 4294967296) (b := y / 4294967296) (by omega) (by omega)
  have bb := Lib.half_mul_le (a := x / 4294967296) (b := y % 4294967296) (by omega) (by omega)
  have bc := Lib.half_mul_le (a := x % 4294967296) (b := y / 4294967296) (by omega) (by omega)
  have ba' : x / 4294967296 * (y / 4294967296) < 18446744073709551616 := by omega
  have bb' : x / 4294967296 * (y % 4294967296) < 18446744073709551616 := by omega
  have bc' : x % 4294967296 * (y / 4294967296) < 18446744073709551616 := by omega
  have bh1 : x / 4294967296 * (y / 4294967296) + (x / 4294967296 * (y % 4294967296) + x % 4294967296 * (y % 4294967296) / 4294967296) / 4294967296 < 18446744073709551616 := by omega
  have bh : x / 4294967296 * (y / 4294967296) + (x / 4294967296 * (y % 4294967296) + x % 4294967296 * (y % 4294967296) / 4294967296) / 4294967296 + ((x / 4294967296 * (y % 4294967296) + x % 4294967296 * (y % 4294967296) / 4294967296) % 4294967296 + x % 4294967296 * (y / 4294967296)) / 4294967296 < 18446744073709551616 := by omega
  unfold bits_Mul64.f
  rw [maskN x hx, maskN y hy, divN x, divN y]
  simp only [mulN, addN, divN]
  rw [wrapN _ ba', wrapN _ bb', wrapN _ bc', wrapN _ bd]
  simp only [mulN, addN, divN]
  rw [wrapN _ bt]
  simp only [mulN, addN, divN]
  rw [maskN _ bt, wrapN _ bh1]
  simp only [mulN, addN, divN]
  rw [wrapN _ bw]
  simp only [mulN, addN, divN]
  rw [wrapN _ bh, wrapM, hhi]
theorem mul64_is (x y : Int) (hx : U64 x) (hy : U64 y) : bits_Mul64.f x y = some (hiOf (x * y), loOf (x * y)) := by
  obtain ⟨x1, x2⟩ := hx
  obtain ⟨y1, y2⟩ := hy
  obtain ⟨X, rfl⟩ := Int.eq_ofNat_of_zero_le x1
  obtain ⟨Y, rfl⟩ := Int.eq_ofNat_of_zero_le y1
  rw [mul64_nat X Y (by omega) (by omega)]
  unfold hiOf loOf
  rw [← Int.natCast_mul]
  rfl
theorem idx105_0 (x y : Int) (W : World) : (Instr.index 177 (.agg #[.int .u64 x, .int .u64 y]) (.int .i64 0)).run Tryd.prog W = .ok (.int .u64 x) W := by
  simp [Instr.index, run_underlying Tryd.underlying177, asIntOf, go_sem]
theorem idx105_1 (x y : Int) (W : World) : (Instr.index 177 (.agg #[.int .u64 x, .int .u64 y]) (.int .i64 1)).run Tryd.prog W = .ok (.int .u64 y) W := by
  simp [Instr.index, run_underlying Tryd.underlying177, asIntOf, go_sem]
attribute [local go_sem] idx105_0 idx105_1
def u128_Times.f (a0_0 a0_1 a1 : Int) : Option (Int × Int × Int) :=
  if U64 a0_0 ∧ U64 a0_1 ∧ U64 a1 then
    (if val a0_0 a0_1 * a1 < m128 then some (hiOf (val a0_0 a0_1 * a1), loOf (val a0_0 a0_1 * a1), 0) else some (0, 0, 10))
  else none
theorem times_plan (a b n : Int) (ha : U64 a) (hb : U64 b) (hn : U64 n) :
    ∃ H0 L0 H1 L1 hi c, bits_Mul64.f b n = some (H0, L0) ∧ bits_Mul64.f a n = some (H1, L1) ∧ 0 ≤ L1 ∧ 0 ≤ H0 ∧ (L1 + H0 + 0) % 18446744073709551616 = hi ∧ (L1 + H0 + 0) / 18446744073709551616 = c ∧
      ((c = 0 ∧ H1 = 0 ∧ u128_Times.f a b n = some (hi, L0, 0)) ∨ (c = 0 ∧ H1 ≠ 0 ∧ u128_Times.f a b n = some (0, 0, 10)) ∨ (c ≠ 0 ∧ u128_Times.f a b n = some (0, 0, 10))) := by
  have h0 : 0 ≤ a * n := Int.mul_nonneg ha.1 hn.1
  have h1 : 0 ≤ b * n := Int.mul_nonneg hb.1 hn.1
  have e : val a b * n = a * n * 18446744073709551616 + b * n := by
    unfold val
    rw [Int.add_mul, Int.mul_right_comm]
  refine ⟨_, _, _, _, _, _, mul64_is b n hb hn, mul64_is a n ha hn, by unfold loOf; omega, by unfold hiOf; omega, rfl, rfl, ?_⟩
  unfold u128_Times.f
  rw [if_pos ⟨ha, hb, hn⟩, e]
  generalize a * n = X at *
  generalize b * n = Y at *
  clear e
  by_cases hc : (loOf X + hiOf Y + 0) / 18446744073709551616 = 0
  · by_cases hh : hiOf X = 0
    · left
      refine ⟨hc, hh, ?_⟩
      unfold hiOf loOf m128 at *
      rw [if_pos (by omega)]
      congr 2
      · omega
      · congr 1
        omega
    · right; left
      refine ⟨hc, hh, ?_⟩
      unfold hiOf loOf m128 at *
      rw [if_neg (by omega)]
  · right; right
    refine ⟨hc, ?_⟩
    unfold hiOf loOf m128 at *
    rw [if_neg (by omega)]
set_option maxHeartbeats 4000000 in
set_option maxRecDepth 100000 in
theorem u128_Times.calls (a0_0 a0_1 a1 r1 r2 r3 : Int) (w : World) (h : u128_Times.f a0_0 a0_1 a1 = some (r1, r2, r3)) :
    Calls Tryd.prog 114 #[.agg #[.int .u64 a0_0, .int .u64 a0_1], .int .u64 a1] w fun e w' => e = .returned (.tuple #[.agg #[.int .u64 r1, .int .u64 r2], .int .i64 r3]) ∧ Below w.heap.size w w' := by
  have hu : U64 a0_0 ∧ U64 a0_1 ∧ U64 a1 := by
    unfold u128_Times.f at h
    split at h
    · assumption
    · cases h
  obtain ⟨H0, L0, H1, L1, hi, c, m0, m1, l1, l2, e1, e2, hf⟩ := times_plan a0_0 a0_1 a1 hu.1 hu.2.1 hu.2.2
  have k1 : ∀ W : World, (callFunc 124 #[.int .u64 L1, .int .u64 H0, .int .u64 0]).run Tryd.prog W = .ok (.value (.tuple #[.int .u64 hi, .int .u64 c])) W := by
    intro W
    rw [call_add64 _ _ _ l1 l2 (by omega) (by omega), e1, e2]
  have M0 := Aside0.mk m0
  have M1 := Aside0.mk m1
  clear e1 e2 l1 l2 hu m0 m1
  rcases hf with ⟨hc, hh, hf⟩ | ⟨hc, hh, hf⟩ | ⟨hc, hf⟩
  · rw [hf] at h
    simp only [Option.some.injEq, Prod.mk.injEq] at h
    obtain ⟨rfl, rfl, rfl⟩ := h
    subst hc
    subst hh
    clear hf
    go_enter Tryd.func114, Tryd.ntmps114
    go_wp2
    refine wp_loop_rounds 3 ?_
    rw [rounds_succ]
    go_wp2_with (first | (go_at_call 131; (with_reducible refine (bits_Mul64.calls _ _ _ _ _ M0.out).mono ?_); rintro e w' ⟨rfl, ⟨nd, rfl⟩⟩) | (go_at_call 131; (with_reducible refine (bits_Mul64.calls _ _ _ _ _ M1.out).mono ?_); rintro e w' ⟨rfl, ⟨nd', rfl⟩⟩))
    rw [rounds_succ]
    go_wp2_with (first | (go_at_call 131; (with_reducible refine (bits_Mul64.calls _ _ _ _ _ M0.out).mono ?_); rintro e w' ⟨rfl, ⟨nd, rfl⟩⟩) | (go_at_call 131; (with_reducible refine (bits_Mul64.calls _ _ _ _ _ M1.out).mono ?_); rintro e w' ⟨rfl, ⟨nd', rfl⟩⟩))
    rw [rounds_succ]
    go_wp2
    exact bodyPost_ret (v := .tuple #[.agg #[.int .u64 hi, .int .u64 L0], .int .i64 0]) (by simp [results, Tryd.results114, go_sem]) rfl ⟨rfl, by repeat (first | (with_reducible exact Below.refl _ _) | (with_reducible apply below_alloc) | (with_reducible apply pw_below_drewN) | (with_reducible refine below_set ?_ (by omega)))⟩
  · rw [hf] at h
    simp only [Option.some.injEq, Prod.mk.injEq] at h
    obtain ⟨rfl, rfl, rfl⟩ := h
    subst hc
    have hn : (H1 != 0) = true := by simpa using hh
    clear hf hh
    go_enter Tryd.func114, Tryd.ntmps114
    go_wp2
    refine wp_loop_rounds 3 ?_
    rw [rounds_succ]
    go_wp2_with (first | (go_at_call 131; (with_reducible refine (bits_Mul64.calls _ _ _ _ _ M0.out).mono ?_); rintro e w' ⟨rfl, ⟨nd, rfl⟩⟩) | (go_at_call 131; (with_reducible refine (bits_Mul64.calls _ _ _ _ _ M1.out).mono ?_); rintro e w' ⟨rfl, ⟨nd', rfl⟩⟩))
    rw [rounds_succ]
    go_wp2_with (first | (go_at_call 131; (with_reducible refine (bits_Mul64.calls _ _ _ _ _ M0.out).mono ?_); rintro e w' ⟨rfl, ⟨nd, rfl⟩⟩) | (go_at_call 131; (with_reducible refine (bits_Mul64.calls _ _ _ _ _ M1.out).mono ?_); rintro e w' ⟨rfl, ⟨nd', rfl⟩⟩))
    rw [rounds_succ]
    go_wp2
    exact bodyPost_ret (v := .tuple #[.agg #[.int .u64 0, .int .u64 0], .int .i64 10]) (by simp [results, Tryd.results114, go_sem]) rfl ⟨rfl, by repeat (first | (with_reducible exact Below.refl _ _) | (with_reducible apply below_alloc) | (with_reducible apply pw_below_drewN) | (with_reducible refine below_set ?_ (by omega)))⟩
  · rw [hf] at h
    simp only [Option.some.injEq, Prod.mk.injEq] at h
    obtain ⟨rfl, rfl, rfl⟩ := h
    have hn : (c != 0) = true := by simpa using hc
    clear hf hc
    go_enter Tryd.func114, Tryd.ntmps114
    go_wp2
    refine wp_loop_rounds 3 ?_
    rw [rounds_succ]
    go_wp2_with (first | (go_at_call 131; (with_reducible refine (bits_Mul64.calls _ _ _ _ _ M0.out).mono ?_); rintro e w' ⟨rfl, ⟨nd, rfl⟩⟩) | (go_at_call 131; (with_reducible refine (bits_Mul64.calls _ _ _ _ _ M1.out).mono ?_); rintro e w' ⟨rfl, ⟨nd', rfl⟩⟩))
    rw [rounds_succ]
    go_wp2_with (first | (go_at_call 131; (with_reducible refine (bits_Mul64.calls _ _ _ _ _ M0.out).mono ?_); rintro e w' ⟨rfl, ⟨nd, rfl⟩⟩) | (go_at_call 131; (with_reducible refine (bits_Mul64.calls _ _ _ _ _ M1.out).mono ?_); rintro e w' ⟨rfl, ⟨nd', rfl⟩⟩))
    rw [rounds_succ]
    go_wp2
    exact bodyPost_ret (v := .tuple #[.agg #[.int .u64 0, .int .u64 0], .int .i64 10]) (by simp [results, Tryd.results114, go_sem]) rfl ⟨rfl, by repeat (first | (with_reducible exact Below.refl _ _) | (with_reducible apply below_alloc) | (with_reducible apply pw_below_drewN) | (with_reducible refine below_set ?_ (by omega)))⟩
end Go.Proofs.YtpkjpiphjdpegaaDoor.P
namespace Go.Proofs.YtpkjpiphjdpegaaDoor.P
open Go.RowKit Go.Proofs.YtpkjpiphjdpegaaDoorW.PrintWords Go.Proofs.YtpkjpiphjdpegaaDoorW.PrintLast Go.Proofs.YtpkjpiphjdpegaaDoorW.PrintMore
attribute [local go_sem] max2_int min2_int max_two min_two max_three min_three max_four min_four
set_option linter.unusedVariables false
set_option linter.unusedSimpArgs false
def u128_OverP.f (k : Nat) (a0_0 : Int) (a0_1 : Int) (a1 : Int) : Option (Int × Int × Int × Int) := if a1 = 0 then (some (0, 0, 0, 2)) else ((bits_Div64.f k (Int.tmod a0_0 a1) a0_1 a1).bind fun bt137 => (some (IntKind.u64.wrap (Int.tdiv a0_0 a1), bt137.1, bt137.2, 0)))
set_option maxHeartbeats 8000000 in
set_option maxRecDepth 100000 in
theorem u128_OverP.calls (k : Nat) (a0_0 : Int) (a0_1 : Int) (a1 : Int) (r1 : Int) (r2 : Int) (r3 : Int) (r4 : Int) (w : World) (h : u128_OverP.f k a0_0 a0_1 a1 = some (r1, r2, r3, r4)) :
    Calls Tryd.prog 132 #[.agg #[.int .u64 a0_0, .int .u64 a0_1], .int .u64 a1] w fun e w' => e = .returned (.tuple #[.agg #[.int .u64 r1, .int .u64 r2], .int .u64 r3, .int .i64 r4]) ∧ Below w.heap.size w w' := by
  have hu25 := Tryd.underlying42
  have HB := Aside0.mk (Below.refl w.heap.size w)
  have H : (if a1 = 0 then (some (0, 0, 0, 2)) else ((bits_Div64.f k (Int.tmod a0_0 a1) a0_1 a1).bind fun bt137 => (some (IntKind.u64.wrap (Int.tdiv a0_0 a1), bt137.1, bt137.2, 0)))) = some (r1, r2, r3, r4) := h
  clear h
  by_cases c3 : a1 = 0
  · rw [if_pos c3] at H
    have c3b0 : (a1 == 0) = true := beq_iff_eq.mpr c3
    have c3b1 : (a1 != 0) = false := bne_eq_false_iff_eq.mpr c3
    clear c3
    simp only [Option.some.injEq, Prod.mk.injEq] at H
    obtain ⟨rfl, rfl, rfl, rfl⟩ := H
    go_enter Tryd.func132, Tryd.ntmps132
    go_wp2_with (first | ((with_reducible refine gate_dst (N := 2) rfl ?_); refine box_event ?hg (N := 2) ?hd (cs := #[.int .u64 a0_0, .int .u64 a0_1]) (t := 42) ?hr ?_; (case hd => rfl); (case hg => rfl); (case hr => first | (go_simp; done) | (go_simp; rfl)); intro gb135 hg w4 hbox hb; have n0_ := Aside0.mk (below_step (by repeat (first | (with_reducible first | exact HB.out | apply below_alloc | apply pw_below_drewN | apply below_drew1) | exact HB.out)) hb); have n1_ := Aside0.mk (hbox); have n2_ := Aside0.mk ((by rw [hg]; exact (below_size (by repeat (first | (with_reducible first | exact HB.out | apply below_alloc | apply pw_below_drewN | apply below_drew1) | exact HB.out))) : w.heap.size ≤ gb135)); have n3_ := Aside0.mk ((by rw [hg]; exact (below_size (by repeat (first | (with_reducible first | exact HB.out | apply below_alloc | apply pw_below_drewN | apply below_drew1) | exact HB.out))) : w.heap.size ≤ gb135)); clear HB; have HB := n0_; have BK135 := n1_; have GW135 := n2_; have GE135 := n3_; clear n0_ n1_ n2_ n3_; clear hb hbox hg) | ((with_reducible refine gate_dst (N := 4) rfl ?_); refine box_event ?hg (N := 4) ?hd (cs := #[.int .u64 0, .int .u64 0]) (t := 42) ?hr ?_; (case hd => rfl); (case hg => rfl); (case hr => first | (go_simp; done) | (go_simp; rfl)); intro gb136 hg w5 hbox hb; have n0_ := Aside0.mk (blk_below (g := gb135) (o := .cells #[.int .u64 a0_0, .int .u64 a0_1] 42 (0, 0)) (by (with_reducible repeat (first | refine blk_drewN ?_ _ | refine blk_drew ?_ | refine blk_alloc ?_ _)); exact BK135.out) hb); have n1_ := Aside0.mk (below_step (by repeat (first | (with_reducible first | exact HB.out | apply below_alloc | apply pw_below_drewN | apply below_drew1 | refine below_set ?_ GE135.out) | exact HB.out)) hb); have n2_ := Aside0.mk (hbox); have n3_ := Aside0.mk ((by rw [hg]; exact (below_size (by repeat (first | (with_reducible first | exact HB.out | apply below_alloc | apply pw_below_drewN | apply below_drew1 | refine below_set ?_ GE135.out) | exact HB.out))) : w.heap.size ≤ gb136)); have n4_ := Aside0.mk ((by rw [hg]; exact (below_size (by repeat (first | (with_reducible first | exact HB.out | apply below_alloc | apply pw_below_drewN | apply below_drew1 | refine below_set ?_ GE135.out) | exact HB.out))) : w.heap.size ≤ gb136)); have n5_ := Aside0.mk ((by rw [hg]; exact Nat.ne_of_lt (blk_lt (g := gb135) (o := .cells #[.int .u64 a0_0, .int .u64 a0_1] 42 (0, 0)) (by (with_reducible repeat (first | refine blk_drewN ?_ _ | refine blk_drew ?_ | refine blk_alloc ?_ _)); exact BK135.out)) : gb135 ≠ gb136)); have n6_ := Aside0.mk ((by rw [hg]; exact Nat.ne_of_gt (blk_lt (g := gb135) (o := .cells #[.int .u64 a0_0, .int .u64 a0_1] 42 (0, 0)) (by (with_reducible repeat (first | refine blk_drewN ?_ _ | refine blk_drew ?_ | refine blk_alloc ?_ _)); exact BK135.out)) : gb136 ≠ gb135)); clear BK135; clear HB; have BK135 := n0_; have HB := n1_; have BK136 := n2_; have GW136 := n3_; have GE136 := n4_; have NB135_136 := n5_; have NB136_135 := n6_; clear n0_ n1_ n2_ n3_ n4_ n5_ n6_; clear hb hbox hg; have hnb6 := NB136_135.out; have hnc6 := NB135_136.out; have hcz7_0 : w5.cell? ⟨gb136, 0, none⟩ = some (.int .u64 0) := (blk_cell BK136.out 0).trans rfl; have hcz7_1 : w5.cell? ⟨gb136, 1, none⟩ = some (.int .u64 0) := (blk_cell BK136.out 1).trans rfl; have hfz7_0 := blk_frozen BK136.out 0; have hfz7_1 := blk_frozen BK136.out 1))
    repeat (go_quiet (first | ((with_reducible refine gate_dst (N := 2) rfl ?_); refine box_event ?hg (N := 2) ?hd (cs := #[.int .u64 a0_0, .int .u64 a0_1]) (t := 42) ?hr ?_; (case hd => rfl); (case hg => rfl); (case hr => first | (go_simp; done) | (go_simp; rfl)); intro gb135 hg w4 hbox hb; have n0_ := Aside0.mk (below_step (by repeat (first | (with_reducible first | exact HB.out | apply below_alloc | apply pw_below_drewN | apply below_drew1) | exact HB.out)) hb); have n1_ := Aside0.mk (hbox); have n2_ := Aside0.mk ((by rw [hg]; exact (below_size (by repeat (first | (with_reducible first | exact HB.out | apply below_alloc | apply pw_below_drewN | apply below_drew1) | exact HB.out))) : w.heap.size ≤ gb135)); have n3_ := Aside0.mk ((by rw [hg]; exact (below_size (by repeat (first | (with_reducible first | exact HB.out | apply below_alloc | apply pw_below_drewN | apply below_drew1) | exact HB.out))) : w.heap.size ≤ gb135)); clear HB; have HB := n0_; have BK135 := n1_; have GW135 := n2_; have GE135 := n3_; clear n0_ n1_ n2_ n3_; clear hb hbox hg) | ((with_reducible refine gate_dst (N := 4) rfl ?_); refine box_event ?hg (N := 4) ?hd (cs := #[.int .u64 0, .int .u64 0]) (t := 42) ?hr ?_; (case hd => rfl); (case hg => rfl); (case hr => first | (go_simp; done) | (go_simp; rfl)); intro gb136 hg w5 hbox hb; have n0_ := Aside0.mk (blk_below (g := gb135) (o := .cells #[.int .u64 a0_0, .int .u64 a0_1] 42 (0, 0)) (by (with_reducible repeat (first | refine blk_drewN ?_ _ | refine blk_drew ?_ | refine blk_alloc ?_ _)); exact BK135.out) hb); have n1_ := Aside0.mk (below_step (by repeat (first | (with_reducible first | exact HB.out | apply below_alloc | apply pw_below_drewN | apply below_drew1 | refine below_set ?_ GE135.out) | exact HB.out)) hb); have n2_ := Aside0.mk (hbox); have n3_ := Aside0.mk ((by rw [hg]; exact (below_size (by repeat (first | (with_reducible first | exact HB.out | apply below_alloc | apply pw_below_drewN | apply below_drew1 | refine below_set ?_ GE135.out) | exact HB.out))) : w.heap.size ≤ gb136)); have n4_ := Aside0.mk ((by rw [hg]; exact (below_size (by repeat (first | (with_reducible first | exact HB.out | apply below_alloc | apply pw_below_drewN | apply below_drew1 | refine below_set ?_ GE135.out) | exact HB.out))) : w.heap.size ≤ gb136)); have n5_ := Aside0.mk ((by rw [hg]; exact Nat.ne_of_lt (blk_lt (g := gb135) (o := .cells #[.int .u64 a0_0, .int .u64 a0_1] 42 (0, 0)) (by (with_reducible repeat (first | refine blk_drewN ?_ _ | refine blk_drew ?_ | refine blk_alloc ?_ _)); exact BK135.out)) : gb135 ≠ gb136)); have n6_ := Aside0.mk ((by rw [hg]; exact Nat.ne_of_gt (blk_lt (g := gb135) (o := .cells #[.int .u64 a0_0, .int .u64 a0_1] 42 (0, 0)) (by (with_reducible repeat (first | refine blk_drewN ?_ _ | refine blk_drew ?_ | refine blk_alloc ?_ _)); exact BK135.out)) : gb136 ≠ gb135)); clear BK135; clear HB; have BK135 := n0_; have HB := n1_; have BK136 := n2_; have GW136 := n3_; have GE136 := n4_; have NB135_136 := n5_; have NB136_135 := n6_; clear n0_ n1_ n2_ n3_ n4_ n5_ n6_; clear hb hbox hg; have hnb6 := NB136_135.out; have hnc6 := NB135_136.out; have hcz7_0 : w5.cell? ⟨gb136, 0, none⟩ = some (.int .u64 0) := (blk_cell BK136.out 0).trans rfl; have hcz7_1 : w5.cell? ⟨gb136, 1, none⟩ = some (.int .u64 0) := (blk_cell BK136.out 1).trans rfl; have hfz7_0 := blk_frozen BK136.out 0; have hfz7_1 := blk_frozen BK136.out 1)); try go_wp2_with (first | ((with_reducible refine gate_dst (N := 2) rfl ?_); refine box_event ?hg (N := 2) ?hd (cs := #[.int .u64 a0_0, .int .u64 a0_1]) (t := 42) ?hr ?_; (case hd => rfl); (case hg => rfl); (case hr => first | (go_simp; done) | (go_simp; rfl)); intro gb135 hg w4 hbox hb; have n0_ := Aside0.mk (below_step (by repeat (first | (with_reducible first | exact HB.out | apply below_alloc | apply pw_below_drewN | apply below_drew1) | exact HB.out)) hb); have n1_ := Aside0.mk (hbox); have n2_ := Aside0.mk ((by rw [hg]; exact (below_size (by repeat (first | (with_reducible first | exact HB.out | apply below_alloc | apply pw_below_drewN | apply below_drew1) | exact HB.out))) : w.heap.size ≤ gb135)); have n3_ := Aside0.mk ((by rw [hg]; exact (below_size (by repeat (first | (with_reducible first | exact HB.out | apply below_alloc | apply pw_below_drewN | apply below_drew1) | exact HB.out))) : w.heap.size ≤ gb135)); clear HB; have HB := n0_; have BK135 := n1_; have GW135 := n2_; have GE135 := n3_; clear n0_ n1_ n2_ n3_; clear hb hbox hg) | ((with_reducible refine gate_dst (N := 4) rfl ?_); refine box_event ?hg (N := 4) ?hd (cs := #[.int .u64 0, .int .u64 0]) (t := 42) ?hr ?_; (case hd => rfl); (case hg => rfl); (case hr => first | (go_simp; done) | (go_simp; rfl)); intro gb136 hg w5 hbox hb; have n0_ := Aside0.mk (blk_below (g := gb135) (o := .cells #[.int .u64 a0_0, .int .u64 a0_1] 42 (0, 0)) (by (with_reducible repeat (first | refine blk_drewN ?_ _ | refine blk_drew ?_ | refine blk_alloc ?_ _)); exact BK135.out) hb); have n1_ := Aside0.mk (below_step (by repeat (first | (with_reducible first | exact HB.out | apply below_alloc | apply pw_below_drewN | apply below_drew1 | refine below_set ?_ GE135.out) | exact HB.out)) hb); have n2_ := Aside0.mk (hbox); have n3_ := Aside0.mk ((by rw [hg]; exact (below_size (by repeat (first | (with_reducible first | exact HB.out | apply below_alloc | apply pw_below_drewN | apply below_drew1 | refine below_set ?_ GE135.out) | exact HB.out))) : w.heap.size ≤ gb136)); have n4_ := Aside0.mk ((by rw [hg]; exact (below_size (by repeat (first | (with_reducible first | exact HB.out | apply below_alloc | apply pw_below_drewN | apply below_drew1 | refine below_set ?_ GE135.out) | exact HB.out))) : w.heap.size ≤ gb136)); have n5_ := Aside0.mk ((by rw [hg]; exact Nat.ne_of_lt (blk_lt (g := gb135) (o := .cells #[.int .u64 a0_0, .int .u64 a0_1] 42 (0, 0)) (by (with_reducible repeat (first | refine blk_drewN ?_ _ | refine blk_drew ?_ | refine blk_alloc ?_ _)); exact BK135.out)) : gb135 ≠ gb136)); have n6_ := Aside0.mk ((by rw [hg]; exact Nat.ne_of_gt (blk_lt (g := gb135) (o := .cells #[.int .u64 a0_0, .int .u64 a0_1] 42 (0, 0)) (by (with_reducible repeat (first | refine blk_drewN ?_ _ | refine blk_drew ?_ | refine blk_alloc ?_ _)); exact BK135.out)) : gb136 ≠ gb135)); clear BK135; clear HB; have BK135 := n0_; have HB := n1_; have BK136 := n2_; have GW136 := n3_; have GE136 := n4_; have NB135_136 := n5_; have NB136_135 := n6_; clear n0_ n1_ n2_ n3_ n4_ n5_ n6_; clear hb hbox hg; have hnb6 := NB136_135.out; have hnc6 := NB135_136.out; have hcz7_0 : w5.cell? ⟨gb136, 0, none⟩ = some (.int .u64 0) := (blk_cell BK136.out 0).trans rfl; have hcz7_1 : w5.cell? ⟨gb136, 1, none⟩ = some (.int .u64 0) := (blk_cell BK136.out 1).trans rfl; have hfz7_0 := blk_frozen BK136.out 0; have hfz7_1 := blk_frozen BK136.out 1)))
    refine bodyPost_ret (results_ctt rfl _ _ gb136 42 #[.int .u64 0, .int .u64 0] (0, 0) _ rfl (by (with_reducible repeat (first | refine blk_drewN ?_ _ | refine blk_drew ?_ | refine blk_alloc ?_ _)); refine blk_put (cs := #[.int .u64 0, .int .u64 0]) ?_ 1 _ rfl; (with_reducible repeat (first | refine blk_drewN ?_ _ | refine blk_drew ?_ | refine blk_alloc ?_ _)); refine blk_put (cs := #[.int .u64 0, .int .u64 0]) ?_ 0 _ rfl; (with_reducible repeat (first | refine blk_drewN ?_ _ | refine blk_drew ?_ | refine blk_alloc ?_ _)); exact BK136.out) Tryd.underlying42 rfl (by kernel_rfl)) rfl ?_
    exact ⟨by first | rfl | (simp [errW_none, errW_some] <;> rfl) | (simp [*, errW_none, errW_some] <;> rfl), by repeat (first | (with_reducible first | exact HB.out | apply below_alloc | apply pw_below_drewN | apply below_drew1 | refine below_set ?_ GE135.out | refine below_set ?_ GE136.out) | exact HB.out)⟩
  · rw [if_neg c3] at H
    have c3b0 : (a1 == 0) = false := beq_eq_false_iff_ne.mpr c3
    have c3b1 : (a1 != 0) = true := bne_iff_ne.mpr c3
    replace H := Option.bind_eq_some_iff.mp H
    obtain ⟨⟨t137, t138⟩, A80, H⟩ := H
    replace H : (some (IntKind.u64.wrap (Int.tdiv a0_0 a1), t137, t138, 0)) = some (r1, r2, r3, r4) := H
    have A8 := Aside0.mk A80
    clear A80
    simp only [Option.some.injEq, Prod.mk.injEq] at H
    obtain ⟨rfl, rfl, rfl, rfl⟩ := H
    go_enter Tryd.func132, Tryd.ntmps132
    go_wp2_with (first | ((with_reducible refine gate_dst (N := 2) rfl ?_); refine box_event ?hg (N := 2) ?hd (cs := #[.int .u64 a0_0, .int .u64 a0_1]) (t := 42) ?hr ?_; (case hd => rfl); (case hg => rfl); (case hr => first | (go_simp; done) | (go_simp; rfl)); intro gb135 hg w9 hbox hb; have n0_ := Aside0.mk (below_step (by repeat (first | (with_reducible first | exact HB.out | apply below_alloc | apply pw_below_drewN | apply below_drew1) | exact HB.out)) hb); have n1_ := Aside0.mk (hbox); have n2_ := Aside0.mk ((by rw [hg]; exact (below_size (by repeat (first | (with_reducible first | exact HB.out | apply below_alloc | apply pw_below_drewN | apply below_drew1) | exact HB.out))) : w.heap.size ≤ gb135)); have n3_ := Aside0.mk ((by rw [hg]; exact (below_size (by repeat (first | (with_reducible first | exact HB.out | apply below_alloc | apply pw_below_drewN | apply below_drew1) | exact HB.out))) : w.heap.size ≤ gb135)); clear HB; have HB := n0_; have BK135 := n1_; have GW135 := n2_; have GE135 := n3_; clear n0_ n1_ n2_ n3_; clear hb hbox hg) | ((with_reducible refine gate_dst (N := 4) rfl ?_); refine box_event ?hg (N := 4) ?hd (cs := #[.int .u64 0, .int .u64 0]) (t := 42) ?hr ?_; (case hd => rfl); (case hg => rfl); (case hr => first | (go_simp; done) | (go_simp; rfl)); intro gb136 hg w10 hbox hb; have n0_ := Aside0.mk (blk_below (g := gb135) (o := .cells #[.int .u64 a0_0, .int .u64 a0_1] 42 (0, 0)) (by (with_reducible repeat (first | refine blk_drewN ?_ _ | refine blk_drew ?_ | refine blk_alloc ?_ _)); exact BK135.out) hb); have n1_ := Aside0.mk (below_step (by repeat (first | (with_reducible first | exact HB.out | apply below_alloc | apply pw_below_drewN | apply below_drew1 | refine below_set ?_ GE135.out) | exact HB.out)) hb); have n2_ := Aside0.mk (hbox); have n3_ := Aside0.mk ((by rw [hg]; exact (below_size (by repeat (first | (with_reducible first | exact HB.out | apply below_alloc | apply pw_below_drewN | apply below_drew1 | refine below_set ?_ GE135.out) | exact HB.out))) : w.heap.size ≤ gb136)); have n4_ := Aside0.mk ((by rw [hg]; exact (below_size (by repeat (first | (with_reducible first | exact HB.out | apply below_alloc | apply pw_below_drewN | apply below_drew1 | refine below_set ?_ GE135.out) | exact HB.out))) : w.heap.size ≤ gb136)); have n5_ := Aside0.mk ((by rw [hg]; exact Nat.ne_of_lt (blk_lt (g := gb135) (o := .cells #[.int .u64 a0_0, .int .u64 a0_1] 42 (0, 0)) (by (with_reducible repeat (first | refine blk_drewN ?_ _ | refine blk_drew ?_ | refine blk_alloc ?_ _)); exact BK135.out)) : gb135 ≠ gb136)); have n6_ := Aside0.mk ((by rw [hg]; exact Nat.ne_of_gt (blk_lt (g := gb135) (o := .cells #[.int .u64 a0_0, .int .u64 a0_1] 42 (0, 0)) (by (with_reducible repeat (first | refine blk_drewN ?_ _ | refine blk_drew ?_ | refine blk_alloc ?_ _)); exact BK135.out)) : gb136 ≠ gb135)); clear BK135; clear HB; have BK135 := n0_; have HB := n1_; have BK136 := n2_; have GW136 := n3_; have GE136 := n4_; have NB135_136 := n5_; have NB136_135 := n6_; clear n0_ n1_ n2_ n3_ n4_ n5_ n6_; clear hb hbox hg; have hnb11 := NB135_136.out; have hnc11 := NB136_135.out; have hcz12_0 : w10.cell? ⟨gb135, 0, none⟩ = some (.int .u64 a0_0) := (blk_cell BK135.out 0).trans rfl; have hcz12_1 : w10.cell? ⟨gb135, 1, none⟩ = some (.int .u64 a0_1) := (blk_cell BK135.out 1).trans rfl; have hfz12_0 := blk_frozen BK135.out 0; have hfz12_1 := blk_frozen BK135.out 1) | (go_at_call 142; (with_reducible refine (bits_Div64.calls k (Int.tmod a0_0 a1) a0_1 a1 t137 t138 _ A8.out).mono ?_); rintro e w' ⟨rfl, ⟨nd, rfl⟩⟩; (try first | exact ⟨rfl, _, World.drewN_drewN _ _ _⟩ | exact ⟨rfl, _, Eq.trans (World.drewN_drewN _ _ _) (congrArg (World.drewN _) (Nat.add_assoc _ _ _))⟩); have hcz13_0 : w10.cell? ⟨gb136, 0, none⟩ = some (.int .u64 0) := (blk_cell BK136.out 0).trans rfl; have hcz13_1 : w10.cell? ⟨gb136, 1, none⟩ = some (.int .u64 0) := (blk_cell BK136.out 1).trans rfl; have hfz13_0 := blk_frozen BK136.out 0; have hfz13_1 := blk_frozen BK136.out 1))
    repeat (go_quiet (first | ((with_reducible refine gate_dst (N := 2) rfl ?_); refine box_event ?hg (N := 2) ?hd (cs := #[.int .u64 a0_0, .int .u64 a0_1]) (t := 42) ?hr ?_; (case hd => rfl); (case hg => rfl); (case hr => first | (go_simp; done) | (go_simp; rfl)); intro gb135 hg w9 hbox hb; have n0_ := Aside0.mk (below_step (by repeat (first | (with_reducible first | exact HB.out | apply below_alloc | apply pw_below_drewN | apply below_drew1) | exact HB.out)) hb); have n1_ := Aside0.mk (hbox); have n2_ := Aside0.mk ((by rw [hg]; exact (below_size (by repeat (first | (with_reducible first | exact HB.out | apply below_alloc | apply pw_below_drewN | apply below_drew1) | exact HB.out))) : w.heap.size ≤ gb135)); have n3_ := Aside0.mk ((by rw [hg]; exact (below_size (by repeat (first | (with_reducible first | exact HB.out | apply below_alloc | apply pw_below_drewN | apply below_drew1) | exact HB.out))) : w.heap.size ≤ gb135)); clear HB; have HB := n0_; have BK135 := n1_; have GW135 := n2_; have GE135 := n3_; clear n0_ n1_ n2_ n3_; clear hb hbox hg) | ((with_reducible refine gate_dst (N := 4) rfl ?_); refine box_event ?hg (N := 4) ?hd (cs := #[.int .u64 0, .int .u64 0]) (t := 42) ?hr ?_; (case hd => rfl); (case hg => rfl); (case hr => first | (go_simp; done) | (go_simp; rfl)); intro gb136 hg w10 hbox hb; have n0_ := Aside0.mk (blk_below (g := gb135) (o := .cells #[.int .u64 a0_0, .int .u64 a0_1] 42 (0, 0)) (by (with_reducible repeat (first | refine blk_drewN ?_ _ | refine blk_drew ?_ | refine blk_alloc ?_ _)); exact BK135.out) hb); have n1_ := Aside0.mk (below_step (by repeat (first | (with_reducible first | exact HB.out | apply below_alloc | apply pw_below_drewN | apply below_drew1 | refine below_set ?_ GE135.out) | exact HB.out)) hb); have n2_ := Aside0.mk (hbox); have n3_ := Aside0.mk ((by rw [hg]; exact (below_size (by repeat (first | (with_reducible first | exact HB.out | apply below_alloc | apply pw_below_drewN | apply below_drew1 | refine below_set ?_ GE135.out) | exact HB.out))) : w.heap.size ≤ gb136)); have n4_ := Aside0.mk ((by rw [hg]; exact (below_size (by repeat (first | (with_reducible first | exact HB.out | apply below_alloc | apply pw_below_drewN | apply below_drew1 | refine below_set ?_ GE135.out) | exact HB.out))) : w.heap.size ≤ gb136)); have n5_ := Aside0.mk ((by rw [hg]; exact Nat.ne_of_lt (blk_lt (g := gb135) (o := .cells #[.int .u64 a0_0, .int .u64 a0_1] 42 (0, 0)) (by (with_reducible repeat (first | refine blk_drewN ?_ _ | refine blk_drew ?_ | refine blk_alloc ?_ _)); exact BK135.out)) : gb135 ≠ gb136)); have n6_ := Aside0.mk ((by rw [hg]; exact Nat.ne_of_gt (blk_lt (g := gb135) (o := .cells #[.int .u64 a0_0, .int .u64 a0_1] 42 (0, 0)) (by (with_reducible repeat (first | refine blk_drewN ?_ _ | refine blk_drew ?_ | refine blk_alloc ?_ _)); exact BK135.out)) : gb136 ≠ gb135)); clear BK135; clear HB; have BK135 := n0_; have HB := n1_; have BK136 := n2_; have GW136 := n3_; have GE136 := n4_; have NB135_136 := n5_; have NB136_135 := n6_; clear n0_ n1_ n2_ n3_ n4_ n5_ n6_; clear hb hbox hg; have hnb11 := NB135_136.out; have hnc11 := NB136_135.out; have hcz12_0 : w10.cell? ⟨gb135, 0, none⟩ = some (.int .u64 a0_0) := (blk_cell BK135.out 0).trans rfl; have hcz12_1 : w10.cell? ⟨gb135, 1, none⟩ = some (.int .u64 a0_1) := (blk_cell BK135.out 1).trans rfl; have hfz12_0 := blk_frozen BK135.out 0; have hfz12_1 := blk_frozen BK135.out 1) | (go_at_call 142; (with_reducible refine (bits_Div64.calls k (Int.tmod a0_0 a1) a0_1 a1 t137 t138 _ A8.out).mono ?_); rintro e w' ⟨rfl, ⟨nd, rfl⟩⟩; (try first | exact ⟨rfl, _, World.drewN_drewN _ _ _⟩ | exact ⟨rfl, _, Eq.trans (World.drewN_drewN _ _ _) (congrArg (World.drewN _) (Nat.add_assoc _ _ _))⟩); have hcz13_0 : w10.cell? ⟨gb136, 0, none⟩ = some (.int .u64 0) := (blk_cell BK136.out 0).trans rfl; have hcz13_1 : w10.cell? ⟨gb136, 1, none⟩ = some (.int .u64 0) := (blk_cell BK136.out 1).trans rfl; have hfz13_0 := blk_frozen BK136.out 0; have hfz13_1 := blk_frozen BK136.out 1)); try go_wp2_with (first | ((with_reducible refine gate_dst (N := 2) rfl ?_); refine box_event ?hg (N := 2) ?hd (cs := #[.int .u64 a0_0, .int .u64 a0_1]) (t := 42) ?hr ?_; (case hd => rfl); (case hg => rfl); (case hr => first | (go_simp; done) | (go_simp; rfl)); intro gb135 hg w9 hbox hb; have n0_ := Aside0.mk (below_step (by repeat (first | (with_reducible first | exact HB.out | apply below_alloc | apply pw_below_drewN | apply below_drew1) | exact HB.out)) hb); have n1_ := Aside0.mk (hbox); have n2_ := Aside0.mk ((by rw [hg]; exact (below_size (by repeat (first | (with_reducible first | exact HB.out | apply below_alloc | apply pw_below_drewN | apply below_drew1) | exact HB.out))) : w.heap.size ≤ gb135)); have n3_ := Aside0.mk ((by rw [hg]; exact (below_size (by repeat (first | (with_reducible first | exact HB.out | apply below_alloc | apply pw_below_drewN | apply below_drew1) | exact HB.out))) : w.heap.size ≤ gb135)); clear HB; have HB := n0_; have BK135 := n1_; have GW135 := n2_; have GE135 := n3_; clear n0_ n1_ n2_ n3_; clear hb hbox hg) | ((with_reducible refine gate_dst (N := 4) rfl ?_); refine box_event ?hg (N := 4) ?hd (cs := #[.int .u64 0, .int .u64 0]) (t := 42) ?hr ?_; (case hd => rfl); (case hg => rfl); (case hr => first | (go_simp; done) | (go_simp; rfl)); intro gb136 hg w10 hbox hb; have n0_ := Aside0.mk (blk_below (g := gb135) (o := .cells #[.int .u64 a0_0, .int .u64 a0_1] 42 (0, 0)) (by (with_reducible repeat (first | refine blk_drewN ?_ _ | refine blk_drew ?_ | refine blk_alloc ?_ _)); exact BK135.out) hb); have n1_ := Aside0.mk (below_step (by repeat (first | (with_reducible first | exact HB.out | apply below_alloc | apply pw_below_drewN | apply below_drew1 | refine below_set ?_ GE135.out) | exact HB.out)) hb); have n2_ := Aside0.mk (hbox); have n3_ := Aside0.mk ((by rw [hg]; exact (below_size (by repeat (first | (with_reducible first | exact HB.out | apply below_alloc | apply pw_below_drewN | apply below_drew1 | refine below_set ?_ GE135.out) | exact HB.out))) : w.heap.size ≤ gb136)); have n4_ := Aside0.mk ((by rw [hg]; exact (below_size (by repeat (first | (with_reducible first | exact HB.out | apply below_alloc | apply pw_below_drewN | apply below_drew1 | refine below_set ?_ GE135.out) | exact HB.out))) : w.heap.size ≤ gb136)); have n5_ := Aside0.mk ((by rw [hg]; exact Nat.ne_of_lt (blk_lt (g := gb135) (o := .cells #[.int .u64 a0_0, .int .u64 a0_1] 42 (0, 0)) (by (with_reducible repeat (first | refine blk_drewN ?_ _ | refine blk_drew ?_ | refine blk_alloc ?_ _)); exact BK135.out)) : gb135 ≠ gb136)); have n6_ := Aside0.mk ((by rw [hg]; exact Nat.ne_of_gt (blk_lt (g := gb135) (o := .cells #[.int .u64 a0_0, .int .u64 a0_1] 42 (0, 0)) (by (with_reducible repeat (first | refine blk_drewN ?_ _ | refine blk_drew ?_ | refine blk_alloc ?_ _)); exact BK135.out)) : gb136 ≠ gb135)); clear BK135; clear HB; have BK135 := n0_; have HB := n1_; have BK136 := n2_; have GW136 := n3_; have GE136 := n4_; have NB135_136 := n5_; have NB136_135 := n6_; clear n0_ n1_ n2_ n3_ n4_ n5_ n6_; clear hb hbox hg; have hnb11 := NB135_136.out; have hnc11 := NB136_135.out; have hcz12_0 : w10.cell? ⟨gb135, 0, none⟩ = some (.int .u64 a0_0) := (blk_cell BK135.out 0).trans rfl; have hcz12_1 : w10.cell? ⟨gb135, 1, none⟩ = some (.int .u64 a0_1) := (blk_cell BK135.out 1).trans rfl; have hfz12_0 := blk_frozen BK135.out 0; have hfz12_1 := blk_frozen BK135.out 1) | (go_at_call 142; (with_reducible refine (bits_Div64.calls k (Int.tmod a0_0 a1) a0_1 a1 t137 t138 _ A8.out).mono ?_); rintro e w' ⟨rfl, ⟨nd, rfl⟩⟩; (try first | exact ⟨rfl, _, World.drewN_drewN _ _ _⟩ | exact ⟨rfl, _, Eq.trans (World.drewN_drewN _ _ _) (congrArg (World.drewN _) (Nat.add_assoc _ _ _))⟩); have hcz13_0 : w10.cell? ⟨gb136, 0, none⟩ = some (.int .u64 0) := (blk_cell BK136.out 0).trans rfl; have hcz13_1 : w10.cell? ⟨gb136, 1, none⟩ = some (.int .u64 0) := (blk_cell BK136.out 1).trans rfl; have hfz13_0 := blk_frozen BK136.out 0; have hfz13_1 := blk_frozen BK136.out 1)))
    refine bodyPost_ret (results_ctt rfl _ _ gb136 42 #[.int .u64 (IntKind.u64.wrap (Int.tdiv a0_0 a1)), .int .u64 t137] (0, 0) _ rfl (by (with_reducible repeat (first | refine blk_drewN ?_ _ | refine blk_drew ?_ | refine blk_alloc ?_ _)); refine blk_put (cs := #[.int .u64 (IntKind.u64.wrap (Int.tdiv a0_0 a1)), .int .u64 0]) ?_ 1 _ rfl; (with_reducible repeat (first | refine blk_drewN ?_ _ | refine blk_drew ?_ | refine blk_alloc ?_ _)); refine blk_put (cs := #[.int .u64 0, .int .u64 0]) ?_ 0 _ rfl; (with_reducible repeat (first | refine blk_drewN ?_ _ | refine blk_drew ?_ | refine blk_alloc ?_ _)); exact BK136.out) Tryd.underlying42 rfl (by kernel_rfl)) rfl ?_
    exact ⟨by first | rfl | (simp [errW_none, errW_some] <;> rfl) | (simp [*, errW_none, errW_some] <;> rfl), by repeat (first | (with_reducible first | exact HB.out | apply below_alloc | apply pw_below_drewN | apply below_drew1 | refine below_set ?_ GE135.out | refine below_set ?_ GE136.out) | exact HB.out)⟩
def u128_Over.f (a0_0 a0_1 a1 : Int) : Option (Int × Int × Int × Int) :=
  if U64 a0_0 ∧ U64 a0_1 ∧ U64 a1 then
    (if a1 = 0 then some (0, 0, 0, 2) else some (hiOf (val a0_0 a0_1 / a1), loOf (val a0_0 a0_1 / a1), val a0_0 a0_1 % a1, 0))
  else none
theorem over_plan (a b n : Int) (ha : U64 a) (hb : U64 b) (hn : U64 n) (k : Nat) : u128_OverP.f (k + 20) a b n = u128_Over.f a b n := by
  unfold u128_OverP.f u128_Over.f
  rw [if_pos (show U64 a ∧ U64 b ∧ U64 n from ⟨ha, hb, hn⟩)]
  by_cases h : n = 0
  · rw [if_pos h, if_pos h]
  · have hn' := hn
    obtain ⟨n0, n1⟩ := hn
    have hp : 0 < n := by omega
    have r0 := Int.emod_nonneg a h
    have r1 := Int.emod_lt_of_pos a hp
    have hq : a / n ≤ a := Int.ediv_le_self _ ha.1
    have hq0 := Int.ediv_nonneg ha.1 n0
    rw [if_neg h, if_neg h, Int.tmod_eq_emod_of_nonneg ha.1, div64_is (a % n) b n ⟨r0, by omega⟩ hb hn' r1 k, Int.tdiv_eq_ediv_of_nonneg ha.1]
    simp only [Option.bind_some]
    rw [wuu _ hq0 (by have := ha.2; omega)]
    have ea := Int.ediv_mul_add_emod a n
    have e : val a b = (a % n * 18446744073709551616 + b) + a / n * 18446744073709551616 * n := by
      unfold val
      rw [Int.mul_right_comm]
      omega
    have e1 : val a b / n = a / n * 18446744073709551616 + (a % n * 18446744073709551616 + b) / n := by
      rw [e, Int.add_mul_ediv_right _ _ h]
      omega
    have e2 : val a b % n = (a % n * 18446744073709551616 + b) % n := by
      rw [e, Int.add_mul_emod_self_right]
    have l0 := Int.ediv_nonneg (show 0 ≤ a % n * 18446744073709551616 + b by have := hb.1; omega) n0
    have l1 := Int.ediv_lt_of_lt_mul hp (show a % n * 18446744073709551616 + b < 18446744073709551616 * n by have := hb.2; omega)
    rw [e1, e2]
    obtain ⟨x1, x2⟩ := halves (a / n * 18446744073709551616 + (a % n * 18446744073709551616 + b) / n) (a / n) ((a % n * 18446744073709551616 + b) / n) ⟨l0, by omega⟩ rfl
    rw [x1, x2]
theorem u128_Over.calls (a0_0 a0_1 a1 r1 r2 r3 r4 : Int) (w : World) (h : u128_Over.f a0_0 a0_1 a1 = some (r1, r2, r3, r4)) :
    Calls Tryd.prog 132 #[.agg #[.int .u64 a0_0, .int .u64 a0_1], .int .u64 a1] w fun e w' => e = .returned (.tuple #[.agg #[.int .u64 r1, .int .u64 r2], .int .u64 r3, .int .i64 r4]) ∧ Below w.heap.size w w' := by
  have hu : U64 a0_0 ∧ U64 a0_1 ∧ U64 a1 := by
    unfold u128_Over.f at h
    split at h
    · assumption
    · cases h
  exact u128_OverP.calls 20 a0_0 a0_1 a1 r1 r2 r3 r4 w ((over_plan a0_0 a0_1 a1 hu.1 hu.2.1 hu.2.2 0).trans h)
end Go.Proofs.YtpkjpiphjdpegaaDoor.P
namespace Go.Proofs.YtpkjpiphjdpegaaDoor.P
open Go.RowKit Go.Proofs.YtpkjpiphjdpegaaDoorW.PrintWords Go.Proofs.YtpkjpiphjdpegaaDoorW.PrintLast Go.Proofs.YtpkjpiphjdpegaaDoorW.PrintMore
set_option linter.unusedVariables false
set_option linter.unusedSimpArgs false
theorem u_hiOf (n : Int) (h : 0 ≤ n) (h' : n < m128) : U64 (hiOf n) ∧ U64 (loOf n) := by unfold hiOf loOf m128 at *; constructor <;> constructor <;> omega
theorem val_halves (n : Int) : val (hiOf n) (loOf n) = n := by unfold val hiOf loOf; omega
theorem val_range (a b : Int) (ha : U64 a) (hb : U64 b) : 0 ≤ val a b ∧ val a b < m128 := by
  obtain ⟨a0, a1⟩ := ha
  obtain ⟨b0, b1⟩ := hb
  unfold val m128; omega
end Go.Proofs.YtpkjpiphjdpegaaDoor.P
namespace Go.Proofs.YtpkjpiphjdpegaaDoor.P
open Go.RowKit Go.Proofs.YtpkjpiphjdpegaaDoorW.PrintWords Go.Proofs.YtpkjpiphjdpegaaDoorW.PrintLast Go.Proofs.YtpkjpiphjdpegaaDoorW.PrintMore
set_option linter.unusedVariables false
set_option linter.unusedSimpArgs false
theorem add_num (a b c d : Int) (ha : U64 a) (hb : U64 b) (hc : U64 c) (hd : U64 d) :
    u128_Add.f a b c d = if val a b + val c d < m128 then some (hiOf (val a b + val c d), loOf (val a b + val c d), 0) else some (0, 0, 10) := by
  unfold u128_Add.f
  rw [if_pos ⟨ha, hb, hc, hd⟩]
theorem hiOf_val (a b : Int) (hb : U64 b) : hiOf (val a b) = a := by
  obtain ⟨h1, h2⟩ := hb
  unfold hiOf val
  omega
theorem loOf_val (a b : Int) (hb : U64 b) : loOf (val a b) = b := by
  obtain ⟨h1, h2⟩ := hb
  unfold loOf val
  omega
end Go.Proofs.YtpkjpiphjdpegaaDoor.P
namespace Go.Proofs.YtpkjpiphjdpegaaDoor.P
open Go.RowKit Go.Proofs.YtpkjpiphjdpegaaDoorW.PrintWords Go.Proofs.YtpkjpiphjdpegaaDoorW.PrintLast Go.Proofs.YtpkjpiphjdpegaaDoorW.PrintMore
set_option linter.unusedVariables false
set_option linter.unusedSimpArgs false
theorem times_num (a b n : Int) (ha : U64 a) (hb : U64 b) (hn : U64 n) :
    u128_Times.f a b n = if val a b * n < m128 then some (hiOf (val a b * n), loOf (val a b * n), 0) else some (0, 0, 10) := by
  unfold u128_Times.f
  rw [if_pos ⟨ha, hb, hn⟩]
theorem over_num (a b n : Int) (ha : U64 a) (hb : U64 b) (hn : U64 n) (h : n ≠ 0) :
    u128_Over.f a b n = some (hiOf (val a b / n), loOf (val a b / n), val a b % n, 0) := by
  unfold u128_Over.f
  rw [if_pos (show U64 a ∧ U64 b ∧ U64 n from ⟨ha, hb, hn⟩), if_neg h]
theorem small_val (x : Int) : val 0 x = x := by unfold val; omega
end Go.Proofs.YtpkjpiphjdpegaaDoor.P
namespace Go.Proofs.YtpkjpiphjdpegaaDoor.P
open Go.RowKit Go.Proofs.YtpkjpiphjdpegaaDoorW.PrintWords Go.Proofs.YtpkjpiphjdpegaaDoorW.PrintLast Go.Proofs.YtpkjpiphjdpegaaDoorW.PrintMore
set_option linter.unusedVariables false
set_option linter.unusedSimpArgs false
def asc (l : List Int) : List Int := l.map (· + 48)
def unasc (l : List Int) : List Int := l.map (· - 48)
def dec (n : Int) : List Int := decF 38 n
theorem unasc_asc (l : List Int) : unasc (asc l) = l := by
  unfold unasc asc
  rw [List.map_map]
  conv => rhs; rw [← List.map_id l]
  refine List.map_congr_left fun x _ => ?_
  show x + 48 - 48 = x
  omega
theorem asc_unasc (l : List Int) : asc (unasc l) = l := by
  unfold unasc asc
  rw [List.map_map]
  conv => rhs; rw [← List.map_id l]
  refine List.map_congr_left fun x _ => ?_
  show x - 48 + 48 = x
  omega
theorem m39 : m128 ≤ 10 ^ 39 := by unfold m128; decide
theorem dec_facts (n : Int) (h0 : 0 ≤ n) (h1 : n < m128) : valD (dec n) = n ∧ Dig (dec n) ∧ 1 ≤ (dec n).length ∧ (dec n).length ≤ 39 := by
  have := m39
  exact ⟨dec_val 38 n, dec_dig 38 n h0 (by omega), (dec_len 38 n).1, (dec_len 38 n).2⟩
def decimal_Text.f (a0_0 a0_1 : Int) : Option ByteArray := if U64 a0_0 ∧ U64 a0_1 then some (strOfNums (asc (dec (val a0_0 a0_1)))) else none
def noNum (l : List Int) : Bool := l.isEmpty || l.any (fun c => decide (c < 48) || decide (c > 57)) || (decide (1 < l.length) && l.head? == some 48)
def parseOf (l : List Int) : Int × Int × Int := if noNum l = true then (0, 0, 20) else if valD (unasc l) < m128 then (hiOf (valD (unasc l)), loOf (valD (unasc l)), 0) else (0, 0, 10)
def decimal_Parse.f (a0 : ByteArray) : Option (Int × Int × Int) := if a0.size ≤ 1000000000 then some (parseOf (nb a0)) else none
theorem text_num (a b : Int) (ha : U64 a) (hb : U64 b) : decimal_Text.f a b = some (strOfNums (asc (dec (val a b)))) := if_pos ⟨ha, hb⟩
theorem parse_num (s : ByteArray) (h : s.size ≤ 1000000000) : decimal_Parse.f s = some (parseOf (nb s)) := if_pos h
theorem noNum_asc (l : List Int) (hd : Dig l) (hn : 1 ≤ l.length) (hh : 1 < l.length → l.head? ≠ some 0) : noNum (asc l) = false := by
  unfold noNum asc
  have e : (l.map (· + 48)).isEmpty = false := by
    cases l with
    | nil => simp at hn
    | cons x l => rfl
  have a : (l.map (· + 48)).any (fun c => decide (c < 48) || decide (c > 57)) = false := by
    rw [List.any_eq_false]
    intro x hx
    obtain ⟨d, hd', rfl⟩ := List.mem_map.1 hx
    have := hd d hd'
    simp
    omega
  rw [e, a]
  by_cases h : 1 < l.length
  · have := hh h
    cases l with
    | nil => simp at h
    | cons x l =>
      have x0 : x ≠ 0 := by simpa using this
      have : (x + 48 == 48) = false := by
        rw [beq_eq_false_iff_ne]
        omega
      simp
      omega
  · simp [h]
theorem dec_shape (n : Int) (h0 : 0 ≤ n) (h1 : n < m128) : 1 < (dec n).length → (dec n).head? ≠ some 0 := by
  intro h e
  have := m39
  cases hl : dec n with
  | nil => rw [hl] at h; simp at h
  | cons x t =>
    rw [hl] at e
    have x0 : x = 0 := by simpa using e
    by_cases c : n < 10
    · have := dec_small 38 n c
      unfold dec at h
      rw [this] at h
      simp at h
    · have := dec_head 38 n x t (by omega) hl (by omega)
      omega
theorem parse_text (n : Int) (h0 : 0 ≤ n) (h1 : n < m128) : parseOf (asc (dec n)) = (hiOf n, loOf n, 0) := by
  obtain ⟨e, d, l0, l1⟩ := dec_facts n h0 h1
  unfold parseOf
  rw [noNum_asc _ d l0 (dec_shape n h0 h1), if_neg (by simp), unasc_asc, e, if_pos h1]
theorem noNum_false (l : List Int) (h : noNum l = false) : 1 ≤ l.length ∧ Dig (unasc l) ∧ (1 < (unasc l).length → (unasc l).head? ≠ some 0) := by
  unfold noNum at h
  rw [Bool.or_eq_false_iff, Bool.or_eq_false_iff] at h
  obtain ⟨⟨h1, h2⟩, h3⟩ := h
  refine ⟨?_, ?_, ?_⟩
  · cases l with
    | nil => simp at h1
    | cons x l => simp
  · intro d hd
    obtain ⟨c, hc, rfl⟩ := List.mem_map.1 hd
    have := (List.any_eq_false.1 h2) c hc
    simp at this
    omega
  · intro hl e
    have l1 : 1 < l.length := by simpa [unasc] using hl
    cases l with
    | nil => simp at l1
    | cons x l =>
      have : x = 48 := by
        have : x - 48 = 0 := by simpa [unasc] using e
        omega
      subst this
      rw [decide_eq_true l1] at h3
      simp at h3
theorem text_parse (l : List Int) (h : noNum l = false) (hv : valD (unasc l) < m128) : asc (dec (valD (unasc l))) = l := by
  obtain ⟨h1, h2, h3⟩ := noNum_false l h
  have := m39
  have hl : (unasc l).length = (l.length - 1) + 1 := by simp [unasc]; omega
  rw [dec, dec_uniq (l.length - 1) 38 (unasc l) hl h2 h3 (by omega), asc_unasc]
theorem parse_range (l : List Int) (h : noNum l = false) : 0 ≤ valD (unasc l) := (valD_range _ (noNum_false l h).2.1).1
end Go.Proofs.YtpkjpiphjdpegaaDoor.P
namespace Go.Proofs.YtpkjpiphjdpegaaDoor.P
open Go.RowKit Go.Proofs.YtpkjpiphjdpegaaDoorW.PrintWords Go.Proofs.YtpkjpiphjdpegaaDoorW.PrintLast Go.Proofs.YtpkjpiphjdpegaaDoorW.PrintMore
set_option linter.unusedVariables false
set_option linter.unusedSimpArgs false
theorem over_calls (x y n : Int) (ha : U64 x) (hb : U64 y) (hn : U64 n) (h : n ≠ 0) (w : World) :
    Calls Tryd.prog 132 #[.agg #[.int .u64 x, .int .u64 y], .int .u64 n] w fun e w' => e = .returned (.tuple #[.agg #[.int .u64 (hiOf (val x y / n)), .int .u64 (loOf (val x y / n))], .int .u64 (val x y % n), .int .i64 0]) ∧ Below w.heap.size w w' :=
  u128_Over.calls x y n _ _ _ _ w (over_num x y n ha hb hn h)
theorem u_unit : U64 10000000000000000000 := ⟨by omega, by omega⟩
theorem set_nums (L : List Int) (i : Nat) (v : Int) : (nums .u8 L).toArray.setIfInBounds i (.int .u8 v) = (nums .u8 (L.set i v)).toArray := by
  apply Array.ext'
  rw [Array.toList_setIfInBounds]
  simp [nums, List.map_set]
theorem cell_nums (L : List Int) (i : Nat) (h : i < L.length) : (nums .u8 L).toArray[i]? = some (.int .u8 (L.getD i 0)) := by
  simp [nums, List.getElem?_eq_getElem h, List.getD_eq_getElem?_getD]
theorem dig_put (V : Int) (L : List Int) (at_ : Nat) (h39 : at_ < 39) (hl : L.length = 39) (D : ∀ i : Nat, i < 39 → ((at_ + 1 : Nat) : Int) ≤ i → L.getD i 0 = V / 10 ^ (38 - i) % 10) (v : Int) (hv : v = V / 10 ^ (38 - at_) % 10) :
    ∀ i : Nat, i < 39 → (at_ : Int) ≤ i → (L.set at_ v).getD i 0 = V / 10 ^ (38 - i) % 10 := by
  intro i h1 h2
  rw [List.getD_eq_getElem?_getD, List.getElem?_set]
  by_cases c : at_ = i
  · subst c
    rw [if_pos rfl, if_pos (by omega), Option.getD_some, hv]
  · rw [if_neg c, ← List.getD_eq_getElem?_getD]
    exact D i h1 (by omega)
set_option maxHeartbeats 4000000 in
set_option maxRecDepth 100000 in
theorem decimal_digits_calls (a b : Int) (ha : U64 a) (hb : U64 b) (w : World) :
    Calls Tryd.prog 115 #[.agg #[.int .u64 a, .int .u64 b]] w fun e w' => ∃ (g s : Nat) (L : List Int), e = .returned (.slice (some ⟨g, s, none⟩) (dec (val a b)).length (dec (val a b)).length) ∧ w'.heap[g]? = some (.cells (nums .u8 L).toArray 179 (0, 0)) ∧ w.heap.size ≤ g ∧ L.length = 39 ∧ s + (dec (val a b)).length = 39 ∧ L.drop s = dec (val a b) ∧ Below w.heap.size w w' := by
  obtain ⟨V0, V1⟩ := val_range a b ha hb
  go_enter Tryd.func115, Tryd.ntmps115
  go_wp2
  go_loopg [4] 4 (fun g v4 w' => ∃ (at_ : Int) (x y : Int) (L : List Int), v4 = .int .i64 at_ ∧ Aside0 ((at_ = 39 ∧ 3 ≤ g) ∨ (at_ = 20 ∧ 2 ≤ g) ∨ (at_ = 1 ∧ 1 ≤ g) ∨ at_ = 0) ∧ Aside0 (U64 x ∧ U64 y ∧ val x y = val a b / 10 ^ (39 - at_.toNat)) ∧ Aside0 (L.length = 39) ∧ Aside0 (∀ i : Nat, i < 39 → at_ ≤ i → L.getD i 0 = val a b / 10 ^ (38 - i) % 10) ∧ Aside0 (w'.heap[w.heap.size]? = some (.cells #[.int .u64 x, .int .u64 y] 42 (0, 0))) ∧ Aside0 (w'.heap[w.heap.size + 1]? = some (.cells (nums .u8 L).toArray 179 (0, 0))) ∧ Aside0 (Below w.heap.size w w'))
  case atStart =>
    refine ⟨39, a, b, List.replicate 39 0, rfl, ⟨.inl ⟨rfl, by omega⟩⟩, ⟨ha, hb, ?_⟩, ⟨rfl⟩, ⟨?_⟩, ⟨?_⟩, ⟨?_⟩, ⟨?_⟩⟩
    · show val a b = val a b / 10 ^ 0
      rw [Int.pow_zero, Int.ediv_one]
    · intro i h1 h2; omega
    · refine blk_alloc (blk_new w _) _
    · have e := blk_new (w.alloc (.cells #[.int .u64 a, .int .u64 b] 42)) (.cells (nums .u8 (List.replicate 39 0)).toArray 179)
      rw [World.size_alloc] at e
      exact e
    · exact below_alloc (below_alloc (Below.refl _ _) _) _
  case round =>
    obtain ⟨at_, x, y, L, rfl, C, V, hL, D, B0, B1, HB⟩ := hrel
    have cz0 : wr.cell? ⟨w.heap.size, 0, none⟩ = some (.int .u64 x) := (blk_cell B0.out 0).trans rfl
    have cz1 : wr.cell? ⟨w.heap.size, 1, none⟩ = some (.int .u64 y) := (blk_cell B0.out 1).trans rfl
    rcases C.out with ⟨rfl, c⟩ | ⟨rfl, c⟩ | ⟨rfl, c⟩ | rfl
    · clear C
      obtain ⟨go_, rfl⟩ : ∃ g, gk = g + 1 := ⟨gk - 1, by omega⟩
      go_wp2_with (first | (go_at_call 132; (with_reducible refine (over_calls x y 10000000000000000000 V.out.1 V.out.2.1 u_unit (by decide) _).mono ?_); rintro e w' ⟨rfl, hb'⟩))
      have B0' := Aside0.mk (blk_below B0.out hb')
      have B1' := Aside0.mk (blk_below B1.out hb')
      have HB' := Aside0.mk (below_step HB.out hb')
      have lt1 := blk_lt B1'.out
      obtain ⟨g5, h5⟩ : ∃ g, w'.heap.size = g := ⟨_, rfl⟩
      have hn := Aside0.mk (blk_new w' (.cells #[.int .u64 (hiOf (val x y / 10000000000000000000)), .int .u64 (loOf (val x y / 10000000000000000000))] 42))
      have qe : val x y / 10000000000000000000 = val a b / 10 ^ (39 - (20 : Int).toNat) := by
        have e1 := V.out.2.2
        have e2 : (10000000000000000000 : Int) = 10 ^ 19 := rfl
        rw [e1, e2, ← ten_split]
        rfl
      have q0 : 0 ≤ val x y / 10000000000000000000 := by
        have := (val_range x y V.out.1 V.out.2.1).1
        omega
      have q1 : val x y / 10000000000000000000 < m128 := by
        have := (val_range x y V.out.1 V.out.2.1).2
        have := (val_range x y V.out.1 V.out.2.1).1
        omega
      have uq := Aside0.mk (u_hiOf _ q0 q1)
      have re : ∀ j : Nat, j < 19 → val x y % 10000000000000000000 / 10 ^ j % 10 = val a b / 10 ^ (39 - (39 : Int).toNat + j) % 10 := by
        intro j hj
        have e2 : (10000000000000000000 : Int) = 10 ^ 19 := rfl
        rw [e2, dig_rest _ (val_range x y V.out.1 V.out.2.1).1 j hj, V.out.2.2, ← ten_split]
      have r0 : 0 ≤ val x y % 10000000000000000000 := by omega
      have r1 : val x y % 10000000000000000000 < 10000000000000000000 := by omega
      have RE := Aside0.mk re
      have QE := Aside0.mk ((val_halves _).trans qe)
      clear re qe q0 q1
      rw [h5] at hn lt1
      generalize hiOf (val x y / 10000000000000000000) = qh at *
      generalize loOf (val x y / 10000000000000000000) = ql at *
      generalize val x y % 10000000000000000000 = R at *
      have B0'' := Aside0.mk (blk_alloc B0'.out (.cells #[.int .u64 qh, .int .u64 ql] 42))
      have B1'' := Aside0.mk (blk_alloc B1'.out (.cells #[.int .u64 qh, .int .u64 ql] 42))
      have HB'' := Aside0.mk (below_alloc HB'.out (.cells #[.int .u64 qh, .int .u64 ql] 42))
      generalize hW : w'.alloc (.cells #[.int .u64 qh, .int .u64 ql] 42) = W at *
      simp only [h5]
      clear hb' B0 B1 HB B0' B1' HB' hW h5 cz0 cz1
      go_loopg [4, 6, 19] 20 (fun g v4 v6 v19 W => ∃ (j : Nat) (L : List Int), v4 = .int .i64 (39 - (j : Int)) ∧ v6 = .int .u64 (R / 10 ^ j) ∧ v19 = .int .i64 (j : Int) ∧ Aside0 (j ≤ 19 ∧ 19 ≤ j + g) ∧ Aside0 (L.length = 39) ∧ Aside0 (∀ i : Nat, i < 39 → 39 - (j : Int) ≤ i → L.getD i 0 = val a b / 10 ^ (38 - i) % 10) ∧ Aside0 (W.heap[w.heap.size]? = some (.cells #[.int .u64 x, .int .u64 y] 42 (0, 0))) ∧ Aside0 (W.heap[w.heap.size + 1]? = some (.cells (nums .u8 L).toArray 179 (0, 0))) ∧ Aside0 (W.heap[g5]? = some (.cells #[.int .u64 qh, .int .u64 ql] 42 (0, 0))) ∧ Aside0 (Below w.heap.size w W))
      case atStart =>
        refine ⟨0, L, by simp, by simp, rfl, ⟨by omega, by omega⟩, hL, ⟨?_⟩, B0'', B1'', hn, HB''⟩
        intro i h1 h2
        exact D.out i h1 (by simpa using h2)
      case round =>
        obtain ⟨j, L, rfl, rfl, rfl, J, hL, D, B0, B1, B5, HB⟩ := hrel
        by_cases c2 : j < 19
        · have c2b : decide ((j : Int) < 19) = true := decide_eq_true (by omega)
          have wj : wrap64 (39 - (j : Int) - 1) = ((39 - j - 1 : Nat) : Int) := by rw [wi _ (by omega) (by omega)]; omega
          have p0 : 0 ≤ R / 10 ^ j := Int.ediv_nonneg r0 (Int.le_of_lt (ten_pos j))
          have p1 : R / 10 ^ j ≤ R := Int.ediv_le_self _ r0
          have t10 : Int.tmod (R / 10 ^ j) 10 = R / 10 ^ j % 10 := Int.tmod_eq_emod_of_nonneg p0
          have d10 : Int.tdiv (R / 10 ^ j) 10 = R / 10 ^ (j + 1) := by rw [Int.tdiv_eq_ediv_of_nonneg p0, ten_split]; rfl
          have fz := blk_frozen B1.out (39 - j - 1)
          have cz := (blk_cell B1.out (39 - j - 1)).trans (cell_nums L _ (by rw [hL.out]; omega))
          have wq : IntKind.u64.wrap (R / 10 ^ (j + 1)) = R / 10 ^ (j + 1) := by
            rw [← d10, Int.tdiv_eq_ediv_of_nonneg p0]
            exact wu _ (by omega) (by omega)
          obtain ⟨gi, rfl⟩ : ∃ g, gk = g + 1 := ⟨gk - 1, by have := J.out; omega⟩
          go_wp2
          go_roundg gi
          case measure => omega
          case rel =>
            refine ⟨j + 1, L.set (39 - j - 1) (R / 10 ^ j % 10), ?_, rfl, ?_, ⟨?_⟩, ⟨?_⟩, ⟨?_⟩, ⟨?_⟩, ⟨?_⟩, ⟨?_⟩, ⟨?_⟩⟩
            · rw [show (39 : Int) - ((j + 1 : Nat) : Int) = 39 - (j : Int) - 1 from by omega]
            · rw [show ((j + 1 : Nat) : Int) = (j : Int) + 1 from by omega]
            · have := J.out; omega
            · rw [List.length_set]; exact hL.out
            · have := dig_put (val a b) L (39 - j - 1) (by omega) hL.out (fun i h1 h2 => D.out i h1 (by omega)) (R / 10 ^ j % 10) (by rw [RE.out j (by omega)]; congr 3; show (_ : Nat) = _; simp; omega)
              intro i h1 h2
              exact this i h1 (by omega)
            · exact blk_far B0.out (by show w.heap.size ≠ w.heap.size + 1; omega) _
            · exact blk_put B1.out _ _ (set_nums ..)
            · exact blk_far B5.out (by show g5 ≠ w.heap.size + 1; omega) _
            · exact below_set HB.out (by omega)
        · have c2b : decide ((j : Int) < 19) = false := decide_eq_false (by omega)
          obtain rfl : j = 19 := by have := J.out; omega
          have cy0 : wr.cell? ⟨g5, 0, none⟩ = some (.int .u64 qh) := (blk_cell B5.out 0).trans rfl
          have cy1 : wr.cell? ⟨g5, 1, none⟩ = some (.int .u64 ql) := (blk_cell B5.out 1).trans rfl
          have cz0 : wr.cell? ⟨w.heap.size, 0, none⟩ = some (.int .u64 x) := (blk_cell B0.out 0).trans rfl
          have cz1 : wr.cell? ⟨w.heap.size, 1, none⟩ = some (.int .u64 y) := (blk_cell B0.out 1).trans rfl
          have fz0 := blk_frozen B0.out 0
          have fz1 := blk_frozen B0.out 1
          go_wp2
          go_roundg go_
          case measure => omega
          case rel =>
            refine ⟨20, qh, ql, L, rfl, ⟨?_⟩, ⟨uq.out.1, uq.out.2, QE.out⟩, hL, ⟨?_⟩, ⟨?_⟩, ⟨?_⟩, ⟨?_⟩⟩
            · omega
            · intro i h1 h2
              exact D.out i h1 (by omega)
            · exact blk_put (blk_put B0.out 0 _ rfl) 1 _ rfl
            · exact blk_far (blk_far B1.out (by show w.heap.size + 1 ≠ w.heap.size; omega) _) (by show w.heap.size + 1 ≠ w.heap.size; omega) _
            · exact below_set (below_set HB.out (Nat.le_refl _)) (Nat.le_refl _)
    · clear C
      obtain ⟨go_, rfl⟩ : ∃ g, gk = g + 1 := ⟨gk - 1, by omega⟩
      go_wp2_with (first | (go_at_call 132; (with_reducible refine (over_calls x y 10000000000000000000 V.out.1 V.out.2.1 u_unit (by decide) _).mono ?_); rintro e w' ⟨rfl, hb'⟩))
      have B0' := Aside0.mk (blk_below B0.out hb')
      have B1' := Aside0.mk (blk_below B1.out hb')
      have HB' := Aside0.mk (below_step HB.out hb')
      have lt1 := blk_lt B1'.out
      obtain ⟨g5, h5⟩ : ∃ g, w'.heap.size = g := ⟨_, rfl⟩
      have hn := Aside0.mk (blk_new w' (.cells #[.int .u64 (hiOf (val x y / 10000000000000000000)), .int .u64 (loOf (val x y / 10000000000000000000))] 42))
      have qe : val x y / 10000000000000000000 = val a b / 10 ^ (39 - (1 : Int).toNat) := by
        have e1 := V.out.2.2
        have e2 : (10000000000000000000 : Int) = 10 ^ 19 := rfl
        rw [e1, e2, ← ten_split]
        rfl
      have q0 : 0 ≤ val x y / 10000000000000000000 := by
        have := (val_range x y V.out.1 V.out.2.1).1
        omega
      have q1 : val x y / 10000000000000000000 < m128 := by
        have := (val_range x y V.out.1 V.out.2.1).2
        have := (val_range x y V.out.1 V.out.2.1).1
        omega
      have uq := Aside0.mk (u_hiOf _ q0 q1)
      have re : ∀ j : Nat, j < 19 → val x y % 10000000000000000000 / 10 ^ j % 10 = val a b / 10 ^ (39 - (20 : Int).toNat + j) % 10 := by
        intro j hj
        have e2 : (10000000000000000000 : Int) = 10 ^ 19 := rfl
        rw [e2, dig_rest _ (val_range x y V.out.1 V.out.2.1).1 j hj, V.out.2.2, ← ten_split]
      have r0 : 0 ≤ val x y % 10000000000000000000 := by omega
      have r1 : val x y % 10000000000000000000 < 10000000000000000000 := by omega
      have RE := Aside0.mk re
      have QE := Aside0.mk ((val_halves _).trans qe)
      clear re qe q0 q1
      rw [h5] at hn lt1
      generalize hiOf (val x y / 10000000000000000000) = qh at *
      generalize loOf (val x y / 10000000000000000000) = ql at *
      generalize val x y % 10000000000000000000 = R at *
      have B0'' := Aside0.mk (blk_alloc B0'.out (.cells #[.int .u64 qh, .int .u64 ql] 42))
      have B1'' := Aside0.mk (blk_alloc B1'.out (.cells #[.int .u64 qh, .int .u64 ql] 42))
      have HB'' := Aside0.mk (below_alloc HB'.out (.cells #[.int .u64 qh, .int .u64 ql] 42))
      generalize hW : w'.alloc (.cells #[.int .u64 qh, .int .u64 ql] 42) = W at *
      simp only [h5]
      clear hb' B0 B1 HB B0' B1' HB' hW h5 cz0 cz1
      go_loopg [4, 6, 19] 20 (fun g v4 v6 v19 W => ∃ (j : Nat) (L : List Int), v4 = .int .i64 (20 - (j : Int)) ∧ v6 = .int .u64 (R / 10 ^ j) ∧ v19 = .int .i64 (j : Int) ∧ Aside0 (j ≤ 19 ∧ 19 ≤ j + g) ∧ Aside0 (L.length = 39) ∧ Aside0 (∀ i : Nat, i < 39 → 20 - (j : Int) ≤ i → L.getD i 0 = val a b / 10 ^ (38 - i) % 10) ∧ Aside0 (W.heap[w.heap.size]? = some (.cells #[.int .u64 x, .int .u64 y] 42 (0, 0))) ∧ Aside0 (W.heap[w.heap.size + 1]? = some (.cells (nums .u8 L).toArray 179 (0, 0))) ∧ Aside0 (W.heap[g5]? = some (.cells #[.int .u64 qh, .int .u64 ql] 42 (0, 0))) ∧ Aside0 (Below w.heap.size w W))
      case atStart =>
        refine ⟨0, L, by simp, by simp, rfl, ⟨by omega, by omega⟩, hL, ⟨?_⟩, B0'', B1'', hn, HB''⟩
        intro i h1 h2
        exact D.out i h1 (by simpa using h2)
      case round =>
        obtain ⟨j, L, rfl, rfl, rfl, J, hL, D, B0, B1, B5, HB⟩ := hrel
        by_cases c2 : j < 19
        · have c2b : decide ((j : Int) < 19) = true := decide_eq_true (by omega)
          have wj : wrap64 (20 - (j : Int) - 1) = ((20 - j - 1 : Nat) : Int) := by rw [wi _ (by omega) (by omega)]; omega
          have p0 : 0 ≤ R / 10 ^ j := Int.ediv_nonneg r0 (Int.le_of_lt (ten_pos j))
          have p1 : R / 10 ^ j ≤ R := Int.ediv_le_self _ r0
          have t10 : Int.tmod (R / 10 ^ j) 10 = R / 10 ^ j % 10 := Int.tmod_eq_emod_of_nonneg p0
          have d10 : Int.tdiv (R / 10 ^ j) 10 = R / 10 ^ (j + 1) := by rw [Int.tdiv_eq_ediv_of_nonneg p0, ten_split]; rfl
          have fz := blk_frozen B1.out (20 - j - 1)
          have cz := (blk_cell B1.out (20 - j - 1)).trans (cell_nums L _ (by rw [hL.out]; omega))
          have wq : IntKind.u64.wrap (R / 10 ^ (j + 1)) = R / 10 ^ (j + 1) := by
            rw [← d10, Int.tdiv_eq_ediv_of_nonneg p0]
            exact wu _ (by omega) (by omega)
          obtain ⟨gi, rfl⟩ : ∃ g, gk = g + 1 := ⟨gk - 1, by have := J.out; omega⟩
          go_wp2
          go_roundg gi
          case measure => omega
          case rel =>
            refine ⟨j + 1, L.set (20 - j - 1) (R / 10 ^ j % 10), ?_, rfl, ?_, ⟨?_⟩, ⟨?_⟩, ⟨?_⟩, ⟨?_⟩, ⟨?_⟩, ⟨?_⟩, ⟨?_⟩⟩
            · rw [show (20 : Int) - ((j + 1 : Nat) : Int) = 20 - (j : Int) - 1 from by omega]
            · rw [show ((j + 1 : Nat) : Int) = (j : Int) + 1 from by omega]
            · have := J.out; omega
            · rw [List.length_set]; exact hL.out
            · have := dig_put (val a b) L (20 - j - 1) (by omega) hL.out (fun i h1 h2 => D.out i h1 (by omega)) (R / 10 ^ j % 10) (by rw [RE.out j (by omega)]; congr 3; show (_ : Nat) = _; simp; omega)
              intro i h1 h2
              exact this i h1 (by omega)
            · exact blk_far B0.out (by show w.heap.size ≠ w.heap.size + 1; omega) _
            · exact blk_put B1.out _ _ (set_nums ..)
            · exact blk_far B5.out (by show g5 ≠ w.heap.size + 1; omega) _
            · exact below_set HB.out (by omega)
        · have c2b : decide ((j : Int) < 19) = false := decide_eq_false (by omega)
          obtain rfl : j = 19 := by have := J.out; omega
          have cy0 : wr.cell? ⟨g5, 0, none⟩ = some (.int .u64 qh) := (blk_cell B5.out 0).trans rfl
          have cy1 : wr.cell? ⟨g5, 1, none⟩ = some (.int .u64 ql) := (blk_cell B5.out 1).trans rfl
          have cz0 : wr.cell? ⟨w.heap.size, 0, none⟩ = some (.int .u64 x) := (blk_cell B0.out 0).trans rfl
          have cz1 : wr.cell? ⟨w.heap.size, 1, none⟩ = some (.int .u64 y) := (blk_cell B0.out 1).trans rfl
          have fz0 := blk_frozen B0.out 0
          have fz1 := blk_frozen B0.out 1
          go_wp2
          go_roundg go_
          case measure => omega
          case rel =>
            refine ⟨1, qh, ql, L, rfl, ⟨?_⟩, ⟨uq.out.1, uq.out.2, QE.out⟩, hL, ⟨?_⟩, ⟨?_⟩, ⟨?_⟩, ⟨?_⟩⟩
            · omega
            · intro i h1 h2
              exact D.out i h1 (by omega)
            · exact blk_put (blk_put B0.out 0 _ rfl) 1 _ rfl
            · exact blk_far (blk_far B1.out (by show w.heap.size + 1 ≠ w.heap.size; omega) _) (by show w.heap.size + 1 ≠ w.heap.size; omega) _
            · exact below_set (below_set HB.out (Nat.le_refl _)) (Nat.le_refl _)
    · clear C
      obtain ⟨go_, rfl⟩ : ∃ g, gk = g + 1 := ⟨gk - 1, by omega⟩
      go_wp2_with (first | (go_at_call 132; (with_reducible refine (over_calls x y 10000000000000000000 V.out.1 V.out.2.1 u_unit (by decide) _).mono ?_); rintro e w' ⟨rfl, hb'⟩))
      have B0' := Aside0.mk (blk_below B0.out hb')
      have B1' := Aside0.mk (blk_below B1.out hb')
      have HB' := Aside0.mk (below_step HB.out hb')
      have lt1 := blk_lt B1'.out
      obtain ⟨g5, h5⟩ : ∃ g, w'.heap.size = g := ⟨_, rfl⟩
      have hn := Aside0.mk (blk_new w' (.cells #[.int .u64 (hiOf (val x y / 10000000000000000000)), .int .u64 (loOf (val x y / 10000000000000000000))] 42))
      have qe : val x y / 10000000000000000000 = val a b / 10 ^ (39 - (0 : Int).toNat) := by
        have e1 := V.out.2.2
        have e2 : (10000000000000000000 : Int) = 10 ^ 19 := rfl
        have m := m39
        have t1 : (39 - (1 : Int).toNat) = 38 := rfl
        have t0 : (39 - (0 : Int).toNat) = 39 := rfl
        rw [t1] at e1
        rw [t0, e1, e2, ← ten_split]
        have f1 : (10 : Int) ^ 39 ≤ 10 ^ (38 + 19) := ten_mono 39 18
        rw [Int.ediv_eq_zero_of_lt V0 (by omega), Int.ediv_eq_zero_of_lt V0 (by omega)]
      have q0 : 0 ≤ val x y / 10000000000000000000 := by
        have := (val_range x y V.out.1 V.out.2.1).1
        omega
      have q1 : val x y / 10000000000000000000 < m128 := by
        have := (val_range x y V.out.1 V.out.2.1).2
        have := (val_range x y V.out.1 V.out.2.1).1
        omega
      have uq := Aside0.mk (u_hiOf _ q0 q1)
      have re : ∀ j : Nat, j < 19 → val x y % 10000000000000000000 / 10 ^ j % 10 = val a b / 10 ^ (39 - (1 : Int).toNat + j) % 10 := by
        intro j hj
        have e2 : (10000000000000000000 : Int) = 10 ^ 19 := rfl
        rw [e2, dig_rest _ (val_range x y V.out.1 V.out.2.1).1 j hj, V.out.2.2, ← ten_split]
      have r0 : 0 ≤ val x y % 10000000000000000000 := by omega
      have r1 : val x y % 10000000000000000000 < 10000000000000000000 := by omega
      have RE := Aside0.mk re
      have QE := Aside0.mk ((val_halves _).trans qe)
      clear re qe q0 q1
      rw [h5] at hn lt1
      generalize hiOf (val x y / 10000000000000000000) = qh at *
      generalize loOf (val x y / 10000000000000000000) = ql at *
      generalize val x y % 10000000000000000000 = R at *
      have B0'' := Aside0.mk (blk_alloc B0'.out (.cells #[.int .u64 qh, .int .u64 ql] 42))
      have B1'' := Aside0.mk (blk_alloc B1'.out (.cells #[.int .u64 qh, .int .u64 ql] 42))
      have HB'' := Aside0.mk (below_alloc HB'.out (.cells #[.int .u64 qh, .int .u64 ql] 42))
      generalize hW : w'.alloc (.cells #[.int .u64 qh, .int .u64 ql] 42) = W at *
      simp only [h5]
      clear hb' B0 B1 HB B0' B1' HB' hW h5 cz0 cz1
      go_loopg [4, 6, 19] 20 (fun g v4 v6 v19 W => ∃ (j : Nat) (L : List Int), v4 = .int .i64 (1 - (j : Int)) ∧ v6 = .int .u64 (R / 10 ^ j) ∧ v19 = .int .i64 (j : Int) ∧ Aside0 (j ≤ 1 ∧ 1 ≤ j + g) ∧ Aside0 (L.length = 39) ∧ Aside0 (∀ i : Nat, i < 39 → 1 - (j : Int) ≤ i → L.getD i 0 = val a b / 10 ^ (38 - i) % 10) ∧ Aside0 (W.heap[w.heap.size]? = some (.cells #[.int .u64 x, .int .u64 y] 42 (0, 0))) ∧ Aside0 (W.heap[w.heap.size + 1]? = some (.cells (nums .u8 L).toArray 179 (0, 0))) ∧ Aside0 (W.heap[g5]? = some (.cells #[.int .u64 qh, .int .u64 ql] 42 (0, 0))) ∧ Aside0 (Below w.heap.size w W))
      case atStart =>
        refine ⟨0, L, by simp, by simp, rfl, ⟨by omega, by omega⟩, hL, ⟨?_⟩, B0'', B1'', hn, HB''⟩
        intro i h1 h2
        exact D.out i h1 (by simpa using h2)
      case round =>
        obtain ⟨j, L, rfl, rfl, rfl, J, hL, D, B0, B1, B5, HB⟩ := hrel
        by_cases c2 : j < 1
        · obtain rfl : j = 0 := by omega
          obtain ⟨gi, rfl⟩ : ∃ g, gk = g + 1 := ⟨gk - 1, by have := J.out; omega⟩
          have t10 : Int.tmod R 10 = R % 10 := Int.tmod_eq_emod_of_nonneg r0
          have d10 : Int.tdiv R 10 = R / 10 := Int.tdiv_eq_ediv_of_nonneg r0
          have wq : IntKind.u64.wrap (R / 10) = R / 10 := wu _ (by omega) (by omega)
          have p : R / 10 ^ 0 = R := by rw [Int.pow_zero, Int.ediv_one]
          simp only [p]
          have fz := blk_frozen B1.out 0
          have cz := (blk_cell B1.out 0).trans (cell_nums L 0 (by rw [hL.out]; omega))
          go_wp2
          go_roundg gi
          case measure => omega
          case rel =>
            refine ⟨1, L.set 0 (R % 10), ?_, ?_, rfl, ⟨?_⟩, ⟨?_⟩, ⟨?_⟩, ⟨?_⟩, ⟨?_⟩, ⟨?_⟩, ⟨?_⟩⟩
            · rfl
            · rfl
            · omega
            · rw [List.length_set]; exact hL.out
            · have := dig_put (val a b) L 0 (by omega) hL.out (fun i h1 h2 => D.out i h1 (by omega)) (R % 10) (by have e := RE.out 0 (by omega); rw [p] at e; exact e)
              intro i h1 h2
              exact this i h1 (by omega)
            · exact blk_far B0.out (by show w.heap.size ≠ w.heap.size + 1; omega) _
            · exact blk_put B1.out _ _ (set_nums ..)
            · exact blk_far B5.out (by show g5 ≠ w.heap.size + 1; omega) _
            · exact below_set HB.out (by omega)
        · have c2b : decide ((j : Int) < 1) = false := decide_eq_false (by omega)
          obtain rfl : j = 1 := by have := J.out; omega
          have cy0 : wr.cell? ⟨g5, 0, none⟩ = some (.int .u64 qh) := (blk_cell B5.out 0).trans rfl
          have cy1 : wr.cell? ⟨g5, 1, none⟩ = some (.int .u64 ql) := (blk_cell B5.out 1).trans rfl
          have cz0 : wr.cell? ⟨w.heap.size, 0, none⟩ = some (.int .u64 x) := (blk_cell B0.out 0).trans rfl
          have cz1 : wr.cell? ⟨w.heap.size, 1, none⟩ = some (.int .u64 y) := (blk_cell B0.out 1).trans rfl
          have fz0 := blk_frozen B0.out 0
          have fz1 := blk_frozen B0.out 1
          go_wp2
          go_roundg go_
          case measure => omega
          case rel =>
            refine ⟨0, qh, ql, L, rfl, ⟨?_⟩, ⟨uq.out.1, uq.out.2, QE.out⟩, hL, ⟨?_⟩, ⟨?_⟩, ⟨?_⟩, ⟨?_⟩⟩
            · omega
            · intro i h1 h2
              exact D.out i h1 (by omega)
            · exact blk_put (blk_put B0.out 0 _ rfl) 1 _ rfl
            · exact blk_far (blk_far B1.out (by show w.heap.size + 1 ≠ w.heap.size; omega) _) (by show w.heap.size + 1 ≠ w.heap.size; omega) _
            · exact below_set (below_set HB.out (Nat.le_refl _)) (Nat.le_refl _)
    · clear C
      go_wp2
      go_loopg [8] 40 (fun g v8 W => ∃ (j : Nat), v8 = .int .i64 (j : Int) ∧ Aside0 (j ≤ 38 ∧ 38 ≤ j + g) ∧ Aside0 (valD (L.drop j) = val a b) ∧ Aside0 (W.heap[w.heap.size + 1]? = some (.cells (nums .u8 L).toArray 179 (0, 0))) ∧ Aside0 (Below w.heap.size w W))
      case atStart =>
        refine ⟨0, rfl, ⟨by omega, by omega⟩, ⟨?_⟩, B1, HB⟩
        have m := m39
        exact val_all 39 L (val a b) hL.out V0 (by omega) (fun i hi => D.out i hi (by omega))
      case round =>
        clear cz0 cz1 B1 HB
        obtain ⟨j, rfl, J, S, B1, HB⟩ := hrel
        have hj := J.out.1
        have j39 : (j : Int) ≤ 39 := by omega
        have j0 : (0 : Int) ≤ (j : Int) := by omega
        have cz := (blk_cell B1.out j).trans (cell_nums L j (by rw [hL.out]; omega))
        by_cases c2 : j < 38
        · have c2b : decide ((j : Int) < 38) = true := decide_eq_true (by omega)
          obtain ⟨z, hz⟩ : ∃ z, L.getD j 0 = z := ⟨_, rfl⟩
          rw [hz] at cz
          by_cases c3 : z = 0
          · obtain ⟨gi, rfl⟩ : ∃ g, gk = g + 1 := ⟨gk - 1, by have := J.out; omega⟩
            rw [c3] at cz
            go_wp2
            go_roundg gi
            case measure => omega
            case rel =>
              refine ⟨j + 1, ?_, ⟨?_⟩, ⟨?_⟩, B1, HB⟩
              · rw [show ((j + 1 : Nat) : Int) = (j : Int) + 1 from by omega]
              · have := J.out; omega
              · rw [val_skip L j (by rw [hL.out]; omega) (hz.trans c3)]; exact S.out
          · have c3b : (z == 0) = false := beq_eq_false_iff_ne.mpr c3
            go_wp2
            have dL : Dig (L.drop j) := by
              intro d hd
              obtain ⟨i, hi, e⟩ := List.mem_iff_getElem.1 (List.mem_of_mem_drop hd)
              have q := D.out i (by have := hL.out; omega) (by omega)
              rw [List.getD_eq_getElem?_getD, List.getElem?_eq_getElem hi] at q
              have q' : d = val a b / 10 ^ (38 - i) % 10 := e ▸ q
              omega
            have ld : (L.drop j).length = (38 - j) + 1 := by rw [List.length_drop, hL.out]; omega
            have m := m39
            have un := dec_uniq (38 - j) 38 (L.drop j) ld dL (fun _ => by
              rw [List.drop_eq_getElem_cons (by rw [hL.out]; omega)]
              intro e
              rw [List.head?_cons] at e
              apply c3
              rw [← hz, List.getD_eq_getElem?_getD, List.getElem?_eq_getElem (by rw [hL.out]; omega)]
              exact Option.some.inj e) (by rw [S.out]; omega)
            rw [S.out] at un
            have dl : (dec (val a b)).length = 39 - j := by
              show (decF 38 (val a b)).length = _
              rw [un, ld]; omega
            go_ret
            exact ⟨w.heap.size + 1, j, L, by rw [dl]; rfl, B1.out, by omega, hL.out, by rw [dl]; omega, un.symm, HB.out⟩
        · have c2b : decide ((j : Int) < 38) = false := decide_eq_false (by omega)
          go_wp2
          have dL : Dig (L.drop j) := by
            intro d hd
            obtain ⟨i, hi, e⟩ := List.mem_iff_getElem.1 (List.mem_of_mem_drop hd)
            have q := D.out i (by have := hL.out; omega) (by omega)
            rw [List.getD_eq_getElem?_getD, List.getElem?_eq_getElem hi] at q
            have q' : d = val a b / 10 ^ (38 - i) % 10 := e ▸ q
            omega
          have ld : (L.drop j).length = (38 - j) + 1 := by rw [List.length_drop, hL.out]; omega
          have m := m39
          have un := dec_uniq (38 - j) 38 (L.drop j) ld dL (fun h => by omega) (by rw [S.out]; omega)
          rw [S.out] at un
          have dl : (dec (val a b)).length = 39 - j := by
            show (decF 38 (val a b)).length = _
            rw [un, ld]; omega
          go_ret
          exact ⟨w.heap.size + 1, j, L, by rw [dl]; rfl, B1.out, by omega, hL.out, by rw [dl]; omega, un.symm, HB.out⟩
end Go.Proofs.YtpkjpiphjdpegaaDoor.P
namespace Go.Proofs.YtpkjpiphjdpegaaDoor.P
open Go.RowKit Go.Proofs.YtpkjpiphjdpegaaDoorW.PrintWords Go.Proofs.YtpkjpiphjdpegaaDoorW.PrintLast Go.Proofs.YtpkjpiphjdpegaaDoorW.PrintMore
set_option linter.unusedVariables false
set_option linter.unusedSimpArgs false
theorem drop_set (L : List Int) (s j : Nat) (v : Int) : (L.set (s + j) v).drop s = (L.drop s).set j v := by
  rw [List.drop_set, if_neg (by omega), Nat.add_sub_cancel_left]
theorem set_asc (D : List Int) (j : Nat) (hj : j < D.length) : (asc (D.take j) ++ D.drop j).set j (D.getD j 0 + 48) = asc (D.take (j + 1)) ++ D.drop (j + 1) := by
  have l : (asc (D.take j)).length = j := by simp [asc]; omega
  have e : D.getD j 0 = D[j] := by rw [List.getD_eq_getElem?_getD, List.getElem?_eq_getElem hj]; rfl
  rw [List.set_append_right _ _ (by omega), l, Nat.sub_self, List.drop_eq_getElem_cons hj, List.set_cons_zero, List.take_succ_eq_append_getElem hj, e]
  unfold asc
  rw [List.map_append, List.append_assoc]
  rfl
set_option maxHeartbeats 4000000 in
set_option maxRecDepth 100000 in
theorem decimal_Text.calls (a0_0 a0_1 : Int) (r : ByteArray) (w : World) (h : decimal_Text.f a0_0 a0_1 = some r) :
    Calls Tryd.prog 85 #[.agg #[.int .u64 a0_0, .int .u64 a0_1]] w fun e w' => e = .returned (.string r) ∧ Below w.heap.size w w' := by
  have hu : U64 a0_0 ∧ U64 a0_1 := by
    unfold decimal_Text.f at h
    split at h
    · assumption
    · cases h
  rw [text_num _ _ hu.1 hu.2] at h
  obtain rfl := Option.some.inj h
  clear h
  have D1 := dec_facts (val a0_0 a0_1) (val_range _ _ hu.1 hu.2).1 (val_range _ _ hu.1 hu.2).2
  have cl := decimal_digits_calls a0_0 a0_1 hu.1 hu.2
  generalize dec (val a0_0 a0_1) = D at *
  obtain ⟨_, dD, l0, l1⟩ := D1
  go_enter Tryd.func85, Tryd.ntmps85
  go_wp2_with (first | (go_at_call 115; (with_reducible refine (cl _).mono ?_); rintro e w' ⟨g, s, L, rfl, hg, hge, hl, hs, hd, hb⟩; rw [World.size_alloc] at hge; have HB0 := Aside0.mk (below_step (below_alloc (Below.refl _ _) _) hb); clear hb; have HG := Aside0.mk hg; clear hg))
  go_loopg [9] 40 (fun gk v9 W => ∃ (j : Nat) (L : List Int), v9 = .int .i64 (j : Int) ∧ Aside0 (j ≤ D.length ∧ D.length ≤ j + gk) ∧ Aside0 (L.length = 39) ∧ Aside0 (L.drop s = asc (D.take j) ++ D.drop j) ∧ Aside0 (W.heap[g]? = some (.cells (nums .u8 L).toArray 179 (0, 0))) ∧ Aside0 (Below w.heap.size w W))
  case atStart => exact ⟨0, L, rfl, ⟨by omega, by omega⟩, ⟨hl⟩, ⟨by rw [hd]; rfl⟩, HG, HB0⟩
  case round =>
    clear HG HB0 hd hl cl
    obtain ⟨j, L, rfl, J, hl, hd, HG, HB⟩ := hrel
    by_cases c : j < D.length
    · have cb : decide ((j : Int) < (D.length : Int)) = true := decide_eq_true (by omega)
      obtain ⟨gi, rfl⟩ : ∃ g, gk = g + 1 := ⟨gk - 1, by have := J.out; omega⟩
      have fz := blk_frozen HG.out (s + j)
      have q : L.getD (s + j) 0 = D.getD j 0 := by
        have e : L.getD (s + j) 0 = (L.drop s).getD j 0 := by rw [List.getD_eq_getElem?_getD, List.getD_eq_getElem?_getD, List.getElem?_drop]
        have l : (asc (D.take j)).length = j := by simp [asc]; omega
        rw [e, hd.out, List.getD_eq_getElem?_getD, List.getElem?_append_right (by omega), l, Nat.sub_self, List.getElem?_drop, Nat.add_zero, List.getD_eq_getElem?_getD]
      have cz := (blk_cell HG.out (s + j)).trans (cell_nums L (s + j) (by have := hl.out; omega))
      rw [q] at cz
      have dz : 0 ≤ D.getD j 0 ∧ D.getD j 0 < 10 := by
        rw [List.getD_eq_getElem?_getD, List.getElem?_eq_getElem c]
        exact dD _ (List.getElem_mem c)
      have sa := set_asc D j c
      generalize D.getD j 0 = z at *
      have wz : IntKind.u8.wrap (z + 48) = z + 48 := by rw [IntKind.wrap_u8]; omega
      go_wp2
      go_roundg gi
      case measure => omega
      case rel =>
        refine ⟨j + 1, L.set (s + j) (z + 48), ?_, ⟨?_⟩, ⟨?_⟩, ⟨?_⟩, ⟨?_⟩, ⟨?_⟩⟩
        · rw [show ((j + 1 : Nat) : Int) = (j : Int) + 1 from by omega]
        · have := J.out; omega
        · rw [List.length_set]; exact hl.out
        · rw [drop_set, hd.out, sa]
        · exact blk_put HG.out _ _ (set_nums ..)
        · exact below_set HB.out (by omega)
    · have cb : decide ((j : Int) < (D.length : Int)) = false := decide_eq_false (by omega)
      obtain rfl : j = D.length := by have := J.out; omega
      have hd' : L.drop s = asc D := by rw [hd.out, List.take_length, List.drop_length, List.append_nil]
      have la : (asc D).length = D.length := by simp [asc]
      have cv := run_convert_bytes_arg (P := Tryd.prog) wr 82 5 Tryd.underlying82 Tryd.underlying5 g s D.length D.length (asc D) la (fun i hi => by
        have e1 := (blk_cell HG.out (s + i)).trans (cell_nums L (s + i) (by have := hl.out; omega))
        rw [e1, ← hd', List.getD_eq_getElem?_getD, List.getD_eq_getElem?_getD, List.getElem?_drop]) 9 Tryd.underlying9
      go_wp2
      go_ret
      exact ⟨rfl, HB.out⟩
end Go.Proofs.YtpkjpiphjdpegaaDoor.P
namespace Go.Proofs.YtpkjpiphjdpegaaDoor.P
open Go.RowKit Go.Proofs.YtpkjpiphjdpegaaDoorW.PrintWords Go.Proofs.YtpkjpiphjdpegaaDoorW.PrintLast Go.Proofs.YtpkjpiphjdpegaaDoorW.PrintMore
set_option linter.unusedVariables false
set_option linter.unusedSimpArgs false
theorem asc_byte (l : List Int) (h : Dig l) : ∀ x ∈ asc l, isByte x := by
  intro x hx
  obtain ⟨d, hd, rfl⟩ := List.mem_map.1 hx
  have := h d hd
  exact ⟨by omega, by omega⟩
end Go.Proofs.YtpkjpiphjdpegaaDoor.P
