/- A program of this session wrote this text out of the session's own texts. (part 12 of 45) -/
import Derived.Test.YtpkjpiphjdpegaaDoorCLedgerImportsQ
import Derived.Sort.LotA
namespace Go.Proofs.YtpkjpiphjdpegaaDoor.Z
open Go.Sort
set_option linter.unusedVariables false
variable {α : Type} [Inhabited α]
def turned (a m b k : Nat) : Nat := if a ≤ k ∧ k < a + (b - m) then k + (m - a) else if a + (b - m) ≤ k ∧ k < b then k - (b - m) else k
theorem zRo {a m b : Nat} (h1 : a ≤ m) (h2 : m ≤ b) (k : Nat) : (a ≤ k ∧ k < a + (b - m) ∧ turned a m b k = k + (m - a)) ∨ (a + (b - m) ≤ k ∧ k < b ∧ turned a m b k = k - (b - m)) ∨ ((k < a ∨ b ≤ k) ∧ turned a m b k = k) := by
 unfold turned
 by_cases c : a ≤ k ∧ k < a + (b - m)
 ·rw [if_pos c]; exact .inl ⟨c.1, c.2, rfl⟩
 ·rw [if_neg c]
  by_cases e : a + (b - m) ≤ k ∧ k < b
  ·rw [if_pos e]; exact .inr (.inl ⟨e.1, e.2, rfl⟩)
  ·rw [if_neg e]; exact .inr (.inr ⟨zv1, rfl⟩)
def swapped (a b n k : Nat) : Nat := if a ≤ k ∧ k < a + n then k - a + b else if b ≤ k ∧ k < b + n then k - b + a else k
theorem zRy {a b n : Nat} (h : a + n ≤ b) (k : Nat) : (a ≤ k ∧ k < a + n ∧ swapped a b n k = k - a + b) ∨ (b ≤ k ∧ k < b + n ∧ swapped a b n k = k - b + a) ∨ ((k < a ∨ a + n ≤ k) ∧ (k < b ∨ b + n ≤ k) ∧ swapped a b n k = k) := by
 unfold swapped
 by_cases c : a ≤ k ∧ k < a + n
 ·rw [if_pos c]; exact .inl ⟨c.1, c.2, rfl⟩
 ·rw [if_neg c]
  by_cases e : b ≤ k ∧ k < b + n
  ·rw [if_pos e]; exact .inr (.inl ⟨e.1, e.2, rfl⟩)
  ·rw [if_neg e]; exact .inr (.inr ⟨zv1, zv1, rfl⟩)
def sw (i j k : Nat) : Nat := if k = j then i else if k = i then j else k
theorem sw_cases (i j k : Nat) : (k = j ∧ sw i j k = i) ∨ (k ≠ j ∧ k = i ∧ sw i j k = j) ∨ (k ≠ j ∧ k ≠ i ∧ sw i j k = k) := by
 unfold sw
 by_cases c : k = j
 ·rw [if_pos c]; exact .inl ⟨c, rfl⟩
 ·rw [if_neg c]
  by_cases e : k = i
  ·rw [if_pos e]; exact .inr (.inl ⟨c, e, rfl⟩)
  ·rw [if_neg e]; exact .inr (.inr ⟨c, e, rfl⟩)
theorem swp_is (d : Array α) {i j : Nat} (hi : i < d.size) (hj : j < d.size) (k : Nat) : (swp d i j)[k]! = d[sw i j k]! := by
 rw [swp_get d hi hj k]; unfold sw
 split
 ·rfl
 ·split <;> rfl
theorem swapped_zero (a b k : Nat) : swapped a b 0 k = k := by
 unfold swapped; rw [if_neg zv1, if_neg zv1]
theorem swapped_step {a b n : Nat} (h : a + (n + 1) ≤ b) (k : Nat) : swapped a b n (sw (a + n) (b + n) k) = swapped a b (n + 1) k := by
 rcases sw_cases (a + n) (b + n) k with ⟨h1, e⟩ | ⟨h1, h2, e⟩ | ⟨h1, h2, e⟩ <;> rw [e]
 ·rcases zRy (a := a) (b := b) (n := n) zv1 (a + n) with ⟨q1, q2, q⟩ | ⟨q1, q2, q⟩ | ⟨q1, q2, q⟩ <;> rcases zRy h k with ⟨r1, r2, r⟩ | ⟨r1, r2, r⟩ | ⟨r1, r2, r⟩ <;> omega
 ·rcases zRy (a := a) (b := b) (n := n) zv1 (b + n) with ⟨q1, q2, q⟩ | ⟨q1, q2, q⟩ | ⟨q1, q2, q⟩ <;> rcases zRy h k with ⟨r1, r2, r⟩ | ⟨r1, r2, r⟩ | ⟨r1, r2, r⟩ <;> omega
 ·rcases zRy (a := a) (b := b) (n := n) zv1 k with ⟨q1, q2, q⟩ | ⟨q1, q2, q⟩ | ⟨q1, q2, q⟩ <;> rcases zRy h k with ⟨r1, r2, r⟩ | ⟨r1, r2, r⟩ | ⟨r1, r2, r⟩ <;> omega
theorem rot_left {m i j : Nat} (hi : i ≤ m) (h : j < i) (h0 : 0 < j) (k : Nat) : swapped (m - i) m j (turned (m - (i - j)) m (m + j) k) = turned (m - i) m (m + j) k := by
 rcases zRo (a := m - (i - j)) (m := m) (b := m + j) zv1 zv1 k with ⟨p1, p2, p⟩ | ⟨p1, p2, p⟩ | ⟨p1, p⟩ <;> rw [p]
 ·rcases zRy (a := m - i) (b := m) (n := j) zv1 (k + (m - (m - (i - j)))) with ⟨q1, q2, q⟩ | ⟨q1, q2, q⟩ | ⟨q1, q2, q⟩ <;> rcases zRo (a := m - i) (m := m) (b := m + j) zv1 zv1 k with ⟨r1, r2, r⟩ | ⟨r1, r2, r⟩ | ⟨r1, r⟩ <;> omega
 ·rcases zRy (a := m - i) (b := m) (n := j) zv1 (k - (m + j - m)) with ⟨q1, q2, q⟩ | ⟨q1, q2, q⟩ | ⟨q1, q2, q⟩ <;> rcases zRo (a := m - i) (m := m) (b := m + j) zv1 zv1 k with ⟨r1, r2, r⟩ | ⟨r1, r2, r⟩ | ⟨r1, r⟩ <;> omega
 ·rcases zRy (a := m - i) (b := m) (n := j) zv1 k with ⟨q1, q2, q⟩ | ⟨q1, q2, q⟩ | ⟨q1, q2, q⟩ <;> rcases zRo (a := m - i) (m := m) (b := m + j) zv1 zv1 k with ⟨r1, r2, r⟩ | ⟨r1, r2, r⟩ | ⟨r1, r⟩ <;> omega
theorem rot_right {m i j : Nat} (hi : i ≤ m) (h : i < j) (h0 : 0 < i) (k : Nat) : swapped (m - i) (m + j - i) i (turned (m - i) m (m + (j - i)) k) = turned (m - i) m (m + j) k := by
 rcases zRo (a := m - i) (m := m) (b := m + (j - i)) zv1 zv1 k with ⟨p1, p2, p⟩ | ⟨p1, p2, p⟩ | ⟨p1, p⟩ <;> rw [p]
 ·rcases zRy (a := m - i) (b := m + j - i) (n := i) zv1 (k + (m - (m - i))) with ⟨q1, q2, q⟩ | ⟨q1, q2, q⟩ | ⟨q1, q2, q⟩ <;> rcases zRo (a := m - i) (m := m) (b := m + j) zv1 zv1 k with ⟨r1, r2, r⟩ | ⟨r1, r2, r⟩ | ⟨r1, r⟩ <;> omega
 ·rcases zRy (a := m - i) (b := m + j - i) (n := i) zv1 (k - (m + (j - i) - m)) with ⟨q1, q2, q⟩ | ⟨q1, q2, q⟩ | ⟨q1, q2, q⟩ <;> rcases zRo (a := m - i) (m := m) (b := m + j) zv1 zv1 k with ⟨r1, r2, r⟩ | ⟨r1, r2, r⟩ | ⟨r1, r⟩ <;> omega
 ·rcases zRy (a := m - i) (b := m + j - i) (n := i) zv1 k with ⟨q1, q2, q⟩ | ⟨q1, q2, q⟩ | ⟨q1, q2, q⟩ <;> rcases zRo (a := m - i) (m := m) (b := m + j) zv1 zv1 k with ⟨r1, r2, r⟩ | ⟨r1, r2, r⟩ | ⟨r1, r⟩ <;> omega
theorem rot_last {m i : Nat} (hi : i ≤ m) (k : Nat) : swapped (m - i) m i k = turned (m - i) m (m + i) k := by
 rcases zRy (a := m - i) (b := m) (n := i) zv1 k with ⟨q1, q2, q⟩ | ⟨q1, q2, q⟩ | ⟨q1, q2, q⟩ <;> rcases zRo (a := m - i) (m := m) (b := m + i) zv1 zv1 k with ⟨r1, r2, r⟩ | ⟨r1, r2, r⟩ | ⟨r1, r⟩ <;> omega
theorem shift_up {a k : Nat} (h : a ≤ k) (x : Nat) : turned a (a + 1) (k + 1) (sw k (k + 1) x) = turned a (a + 1) (k + 2) x := by
 rcases sw_cases k (k + 1) x with ⟨h1, e⟩ | ⟨h1, h2, e⟩ | ⟨h1, h2, e⟩ <;> rw [e]
 ·rcases zRo (a := a) (m := a + 1) (b := k + 1) zv1 zv1 k with ⟨q1, q2, q⟩ | ⟨q1, q2, q⟩ | ⟨q1, q⟩ <;> rcases zRo (a := a) (m := a + 1) (b := k + 2) zv1 zv1 x with ⟨r1, r2, r⟩ | ⟨r1, r2, r⟩ | ⟨r1, r⟩ <;> omega
 ·rcases zRo (a := a) (m := a + 1) (b := k + 1) zv1 zv1 (k + 1) with ⟨q1, q2, q⟩ | ⟨q1, q2, q⟩ | ⟨q1, q⟩ <;> rcases zRo (a := a) (m := a + 1) (b := k + 2) zv1 zv1 x with ⟨r1, r2, r⟩ | ⟨r1, r2, r⟩ | ⟨r1, r⟩ <;> omega
 ·rcases zRo (a := a) (m := a + 1) (b := k + 1) zv1 zv1 x with ⟨q1, q2, q⟩ | ⟨q1, q2, q⟩ | ⟨q1, q⟩ <;> rcases zRo (a := a) (m := a + 1) (b := k + 2) zv1 zv1 x with ⟨r1, r2, r⟩ | ⟨r1, r2, r⟩ | ⟨r1, r⟩ <;> omega
theorem shift_up_start (a x : Nat) : turned a (a + 1) (a + 1) x = x := by
 rcases zRo (a := a) (m := a + 1) (b := a + 1) zv1 zv1 x with ⟨q1, q2, q⟩ | ⟨q1, q2, q⟩ | ⟨q1, q⟩ <;> omega
theorem shift_down {k m : Nat} (h : k + 1 ≤ m) (x : Nat) : turned (k + 1) m (m + 1) (sw (k + 1) k x) = turned k m (m + 1) x := by
 rcases sw_cases (k + 1) k x with ⟨h1, e⟩ | ⟨h1, h2, e⟩ | ⟨h1, h2, e⟩ <;> rw [e]
 ·rcases zRo (a := k + 1) (m := m) (b := m + 1) zv1 zv1 (k + 1) with ⟨q1, q2, q⟩ | ⟨q1, q2, q⟩ | ⟨q1, q⟩ <;> rcases zRo (a := k) (m := m) (b := m + 1) zv1 zv1 x with ⟨r1, r2, r⟩ | ⟨r1, r2, r⟩ | ⟨r1, r⟩ <;> omega
 ·rcases zRo (a := k + 1) (m := m) (b := m + 1) zv1 zv1 k with ⟨q1, q2, q⟩ | ⟨q1, q2, q⟩ | ⟨q1, q⟩ <;> rcases zRo (a := k) (m := m) (b := m + 1) zv1 zv1 x with ⟨r1, r2, r⟩ | ⟨r1, r2, r⟩ | ⟨r1, r⟩ <;> omega
 ·rcases zRo (a := k + 1) (m := m) (b := m + 1) zv1 zv1 x with ⟨q1, q2, q⟩ | ⟨q1, q2, q⟩ | ⟨q1, q⟩ <;> rcases zRo (a := k) (m := m) (b := m + 1) zv1 zv1 x with ⟨r1, r2, r⟩ | ⟨r1, r2, r⟩ | ⟨r1, r⟩ <;> omega
theorem shift_down_start (m x : Nat) : turned m m (m + 1) x = x := by
 rcases zRo (a := m) (m := m) (b := m + 1) zv1 zv1 x with ⟨q1, q2, q⟩ | ⟨q1, q2, q⟩ | ⟨q1, q⟩ <;> omega
theorem turned_none {a m b : Nat} (h1 : a ≤ m) (h2 : m ≤ b) (h : a = m ∨ m = b) (x : Nat) : turned a m b x = x := by
 rcases zRo (a := a) (m := m) (b := b) h1 h2 x with ⟨q1, q2, q⟩ | ⟨q1, q2, q⟩ | ⟨q1, q⟩ <;> omega
def Asc (R : α → α → Prop) (a b : Nat) (d : Array α) : Prop := ∀ i j, a ≤ i → i < j → j < b → R d[i]! d[j]!
theorem Asc.same {R : α → α → Prop} {a b : Nat} {d d' : Array α} (h : Asc R a b d) (e : ∀ k, a ≤ k → k < b → d'[k]! = d[k]!) : Asc R a b d' := fun i j hi hij hj => by
 rw [e i hi zv1, e j zv1 hj]; exact h i j hi hij hj
variable {R : α → α → Prop} (hT : ∀ x y z, R x y → R y z → R x z)
include hT
omit hT in
theorem Asc.join {a m b : Nat} {d : Array α} (h1 : Asc R a m d) (h2 : Asc R m b d) (h : ∀ i j, a ≤ i → i < m → m ≤ j → j < b → R d[i]! d[j]!) : Asc R a b d := fun i j hi hij hj => by
 by_cases c : j < m
 ·exact h1 i j hi hij c
 ·by_cases e : i < m
  ·exact h i j hi e zv1 hj
  ·exact h2 i j zv1 hij hj
theorem one_left {a i b : Nat} {d d1 : Array α} (h1 : a < i) (h2 : i ≤ b) (hd : ∀ k, d1[k]! = d[turned a (a + 1) i k]!) (hR : Asc R (a + 1) b d) (hA : a + 1 < i → R d[i - 1]! d[a]!) (hB : i < b → R d[a]! d[i]!) : Asc R a b d1 := by
 intro x y hx hxy hy; rw [hd, hd]
 rcases zRo (a := a) (m := a + 1) (b := i) zv1 zv1 x with ⟨p1, p2, p⟩ | ⟨p1, p2, p⟩ | ⟨p1, p⟩ <;> rcases zRo (a := a) (m := a + 1) (b := i) zv1 zv1 y with ⟨q1, q2, q⟩ | ⟨q1, q2, q⟩ | ⟨q1, q⟩ <;> rw [p, q]
 ·exact hR _ _ zv1 zv1 zv1
 ·have e : y - (i - (a + 1)) = a := by omega
  rw [e]
  by_cases c : x + (a + 1 - a) = i - 1
  ·rw [c]; exact hA zv1
  ·exact hT _ _ _ (hR _ (i - 1) zv1 zv1 zv1) (hA zv1)
 ·exact hR _ _ zv1 zv1 zv1
 ·omega
 ·omega
 ·have e : x - (i - (a + 1)) = a := by omega
  rw [e]
  by_cases c : y = i
  ·rw [c]; exact hB zv1
  ·exact hT _ _ _ (hB zv1) (hR i y zv1 zv1 zv1)
 ·omega
 ·omega
 ·exact hR _ _ zv1 zv1 zv1
theorem one_right {a i m : Nat} {d d1 : Array α} (h1 : a ≤ i) (h2 : i ≤ m) (hd : ∀ k, d1[k]! = d[turned i m (m + 1) k]!) (hL : Asc R a m d) (hA : a < i → R d[i - 1]! d[m]!) (hB : i < m → R d[m]! d[i]!) : Asc R a (m + 1) d1 := by
 intro x y hx hxy hy; rw [hd, hd]
 rcases zRo (a := i) (m := m) (b := m + 1) zv1 zv1 x with ⟨p1, p2, p⟩ | ⟨p1, p2, p⟩ | ⟨p1, p⟩ <;> rcases zRo (a := i) (m := m) (b := m + 1) zv1 zv1 y with ⟨q1, q2, q⟩ | ⟨q1, q2, q⟩ | ⟨q1, q⟩ <;> rw [p, q]
 ·omega
 ·have e : x + (m - i) = m := by omega
  rw [e]
  by_cases c : y - (m + 1 - m) = i
  ·rw [c]; exact hB zv1
  ·exact hT _ _ _ (hB zv1) (hL i _ zv1 zv1 zv1)
 ·omega
 ·omega
 ·exact hL _ _ zv1 zv1 zv1
 ·omega
 ·have e : y + (m - i) = m := by omega
  rw [e]
  by_cases c : x = i - 1
  ·rw [c]; exact hA zv1
  ·exact hT _ _ _ (hL _ (i - 1) zv1 zv1 zv1) (hA zv1)
 ·exact hL _ _ zv1 zv1 zv1
 ·exact hL _ _ zv1 zv1 zv1
theorem halves {a s m e b mid : Nat} {d d1 : Array α} (h1 : a ≤ s) (h2 : s ≤ m) (h3 : m ≤ e) (h4 : e ≤ b) (hm : mid = s + (e - m)) (hd : ∀ k, d1[k]! = d[turned s m e k]!) (hL : Asc R a m d) (hR : Asc R m b d)
  (hA : a < s → e < b → R d[s - 1]! d[e]!) (hB : s < m → m < e → R d[e - 1]! d[s]!) :
  Asc R a s d1 ∧ Asc R s mid d1 ∧ Asc R mid e d1 ∧ Asc R e b d1 ∧ (∀ i j, a ≤ i → i < mid → mid ≤ j → j < b → R d1[i]! d1[j]!) := by
 have g1 : ∀ k, s ≤ k → k < mid → d1[k]! = d[k + (m - s)]! := fun k hk hk' => by
  rw [hd]; rcases zRo h2 h3 k with ⟨q1, q2, q⟩ | ⟨q1, q2, q⟩ | ⟨q1, q⟩ <;> rw [q] <;> omega
 have g2 : ∀ k, mid ≤ k → k < e → d1[k]! = d[k - (e - m)]! := fun k hk hk' => by
  rw [hd]; rcases zRo h2 h3 k with ⟨q1, q2, q⟩ | ⟨q1, q2, q⟩ | ⟨q1, q⟩ <;> rw [q] <;> omega
 have g3 : ∀ k, k < s ∨ e ≤ k → d1[k]! = d[k]! := fun k hk => by
  rw [hd]; rcases zRo h2 h3 k with ⟨q1, q2, q⟩ | ⟨q1, q2, q⟩ | ⟨q1, q⟩ <;> rw [q] <;> omega
 refine ⟨fun i j hi hij hj => ?_, fun i j hi hij hj => ?_, fun i j hi hij hj => ?_, fun i j hi hij hj => ?_, fun i j hi hi' hj hj' => ?_⟩
 ·rw [g3 i zv1, g3 j zv1]; exact hL _ _ zv1 zv1 zv1
 ·rw [g1 i zv1 zv1, g1 j zv1 zv1]; exact hR _ _ zv1 zv1 zv1
 ·rw [g2 i zv1 zv1, g2 j zv1 zv1]; exact hL _ _ zv1 zv1 zv1
 ·rw [g3 i zv1, g3 j zv1]; exact hR _ _ zv1 zv1 zv1
 ·by_cases c : i < s
  ·rw [g3 i zv1]
   by_cases f : j < e
   ·rw [g2 j zv1 zv1]; exact hL _ _ zv1 zv1 zv1
   ·rw [g3 j zv1]; have p := hA zv1 zv1
    have p1 : R d[i]! d[e]! := by
     by_cases q : i = s - 1
     ·rw [q]; exact p
     ·exact hT _ _ _ (hL i (s - 1) zv1 zv1 zv1) p
    by_cases q : j = e
    ·rw [q]; exact p1
    ·exact hT _ _ _ p1 (hR e j zv1 zv1 zv1)
  ·rw [g1 i zv1 zv1]
   by_cases f : j < e
   ·rw [g2 j zv1 zv1]; have p := hB zv1 zv1
    have p1 : R d[i + (m - s)]! d[s]! := by
     by_cases q : i + (m - s) = e - 1
     ·rw [q]; exact p
     ·exact hT _ _ _ (hR _ (e - 1) zv1 zv1 zv1) p
    by_cases q : j - (e - m) = s
    ·rw [q]; exact p1
    ·exact hT _ _ _ p1 (hL s _ zv1 zv1 zv1)
   ·rw [g3 j zv1]; exact hR _ _ zv1 zv1 zv1
omit hT
def Cross (cf : α → α → Int) (R : α → α → Prop) (a m b : Nat) (d : Array α) : Prop := ∀ i j, a ≤ i → i < m → m ≤ j → j < b → (cf d[j]! d[i]! < 0 → R d[j]! d[i]!) ∧ (¬ cf d[j]! d[i]! < 0 → R d[i]! d[j]!)
theorem zRz {cf : α → α → Int} {a s m e b mid : Nat} {d d1 : Array α} (h1 : a ≤ s) (h2 : s ≤ m) (h3 : m ≤ e) (h4 : e ≤ b) (hm : mid = s + (e - m)) (hd : ∀ k, d1[k]! = d[turned s m e k]!) (hC : Cross cf R a m b d) :
  Cross cf R a s mid d1 ∧ Cross cf R mid e b d1 := by
 have g1 : ∀ k, s ≤ k → k < mid → d1[k]! = d[k + (m - s)]! := fun k hk hk' => by
  rw [hd]; rcases zRo h2 h3 k with ⟨q1, q2, q⟩ | ⟨q1, q2, q⟩ | ⟨q1, q⟩ <;> rw [q] <;> omega
 have g2 : ∀ k, mid ≤ k → k < e → d1[k]! = d[k - (e - m)]! := fun k hk hk' => by
  rw [hd]; rcases zRo h2 h3 k with ⟨q1, q2, q⟩ | ⟨q1, q2, q⟩ | ⟨q1, q⟩ <;> rw [q] <;> omega
 have g3 : ∀ k, k < s ∨ e ≤ k → d1[k]! = d[k]! := fun k hk => by
  rw [hd]; rcases zRo h2 h3 k with ⟨q1, q2, q⟩ | ⟨q1, q2, q⟩ | ⟨q1, q⟩ <;> rw [q] <;> omega
 refine ⟨fun i j hi hi' hj hj' => ?_, fun i j hi hi' hj hj' => ?_⟩
 ·rw [g3 i zv1, g1 j zv1 zv1]; exact hC _ _ zv1 zv1 zv1 zv1
 ·rw [g2 i zv1 zv1, g3 j zv1]; exact hC _ _ zv1 zv1 zv1 zv1
theorem Cross.same {cf : α → α → Int} {a m b : Nat} {d d' : Array α} (h : Cross cf R a m b d) (e : ∀ k, a ≤ k → k < b → d'[k]! = d[k]!) : Cross cf R a m b d' := fun i j hi hi' hj hj' => by
 rw [e i zv1 zv1, e j zv1 zv1]; exact h i j hi hi' hj hj'
theorem joined {a b mid : Nat} {d1 d2 d3 : Array α} (h1 : a ≤ mid) (h2 : mid ≤ b) (hb : b ≤ d1.size) (hall : ∀ i j, a ≤ i → i < mid → mid ≤ j → j < b → R d1[i]! d1[j]!)
  (hp : PermIn a mid d1 d2) (hq : PermIn mid b d2 d3) (hs : Asc R a mid d2) (ht : Asc R mid b d3) : PermIn a b d1 d3 ∧ Asc R a b d3 := by
 have hs2 : d2.size = d1.size := hp.1; refine ⟨permIn_trans _ _ _ _ _ (permIn_mono _ _ a mid a b (Nat.le_refl _) h2 hb hp) (permIn_mono _ _ mid b a b h1 (Nat.le_refl _) zv1 hq), ?_⟩; have a1 : ∀ j, mid ≤ j → j < b → ∀ i, a ≤ i → i < mid → R d2[i]! d1[j]! := fun j hj hj' => permIn_all d1 d2 a mid (fun x => R x d1[j]!) zv1 hp (fun i hi hi' => hall i j hi hi' hj hj')
 have a2 : ∀ i, a ≤ i → i < mid → ∀ j, mid ≤ j → j < b → R d2[i]! d3[j]! := fun i hi hi' => permIn_all d2 d3 mid b (fun y => R d2[i]! y) zv1 hq (fun j hj hj' => by rw [hp.2.1 j zv1]; exact a1 j hj hj' i hi hi')
 refine Asc.join (hs.same fun k hk hk' => hq.2.1 k zv1) ht fun i j hi hi' hj hj' => ?_
 rw [hq.2.1 i zv1]; exact a2 i hi hi' j hj hj'
def Runs (tag : α → Nat) (R : α → α → Prop) (B lo hi : Nat) (d : Array α) : Prop :=
 ∀ q, lo ≤ q * B → q * B < hi → Asc R (q * B) (min (q * B + B) hi) d ∧ ∀ i, q * B ≤ i → i < min (q * B + B) hi → q * B ≤ tag d[i]! ∧ tag d[i]! < q * B + B
theorem mul_lt_step {p q B : Nat} (h : p * B < q * B) : p * B + B ≤ q * B := by
 have : p < q := Nat.lt_of_mul_lt_mul_right h; have := Nat.mul_le_mul_right B (show p + 1 ≤ q from this); rw [Nat.add_mul, Nat.one_mul] at this; exact this
variable {tag : α → Nat}
theorem runs_two {B q n : Nat} {d : Array α} {a b : Nat} (ha : a = q * (2 * B)) (hB : 0 < B) (hr : Runs tag R B a n d) (hab : a + B < b) (hb : b ≤ a + 2 * B) (hbn : b ≤ n) (hfull : b = a + 2 * B ∨ b = n) :
  Asc R a (a + B) d ∧ Asc R (a + B) b d ∧ (∀ i j, a ≤ i → i < a + B → a + B ≤ j → j < b → tag d[i]! < tag d[j]!) ∧ ∀ i, a ≤ i → i < b → a ≤ tag d[i]! ∧ tag d[i]! < a + 2 * B := by
 have e1 : (2 * q) * B = a := by rw [ha, Nat.mul_comm 2 q, Nat.mul_assoc]
 have e2 : (2 * q + 1) * B = a + B := by rw [Nat.add_mul, Nat.one_mul, e1]
 have r1 := hr (2 * q) zv1 zv1; have r2 := hr (2 * q + 1) zv1 zv1; rw [e1] at r1; rw [e2] at r2; have m1 : min (a + B) n = a + B := by omega
 have m2 : min (a + B + B) n = b := by omega
 rw [m1] at r1; rw [m2] at r2; refine ⟨r1.1, r2.1, fun i j hi hi' hj hj' => ?_, fun i hi hi' => ?_⟩
 ·have := r1.2 i hi hi'; have := r2.2 j hj hj'; omega
 ·by_cases c : i < a + B
  ·have := r1.2 i hi c; omega
  ·have := r2.2 i zv1 hi'; omega
theorem runs_merged {B q n : Nat} {d d' : Array α} {a b : Nat} (ha : a = q * (2 * B)) (hB : 0 < B) (hlo : Runs tag R (2 * B) 0 a d) (hab : a < b) (hb : b ≤ a + 2 * B) (hbn : b ≤ n) (hfull : b = a + 2 * B ∨ b = n) (hsz : b ≤ d.size)
  (hp : PermIn a b d d') (hs : Asc R a b d') (ht : ∀ i, a ≤ i → i < b → a ≤ tag d[i]! ∧ tag d[i]! < a + 2 * B) : Runs tag R (2 * B) 0 b d' := by
 intro p hp0 hpb; have ht' := permIn_all d d' a b (fun x => a ≤ tag x ∧ tag x < a + 2 * B) hsz hp ht
 by_cases c : p * (2 * B) < a
 ·have k : p * (2 * B) + 2 * B ≤ a := by rw [ha] at c ⊢; exact mul_lt_step c
  have r := hlo p hp0 c; have m1 : min (p * (2 * B) + 2 * B) a = p * (2 * B) + 2 * B := by omega
  have m2 : min (p * (2 * B) + 2 * B) b = p * (2 * B) + 2 * B := by omega
  rw [m1] at r; rw [m2]; exact ⟨r.1.same fun k hk hk' => hp.2.1 k zv1, fun i hi hi' => by rw [hp.2.1 i zv1]; exact r.2 i hi hi'⟩
 ·have e : p * (2 * B) = a := by
   by_cases f : a < p * (2 * B)
   ·rw [ha] at f; have := mul_lt_step f; omega
   ·omega
  have m : min (a + 2 * B) b = b := by omega
  rw [e, m]; exact ⟨hs, ht'⟩
theorem runs_rest {B q n : Nat} {d d' : Array α} {a b : Nat} (hr : Runs tag R B a n d) (hab : a ≤ b) (hp : PermIn a b d d') : Runs tag R B b n d' := by
 intro p hpb hpn; have r := hr p zv1 hpn; exact ⟨r.1.same fun k hk hk' => hp.2.1 k zv1, fun i hi hi' => by rw [hp.2.1 i zv1]; exact r.2 i hi hi'⟩
theorem runs_last {B q n : Nat} {d : Array α} {a : Nat} (ha : a = q * (2 * B)) (hB : 0 < B) (hlo : Runs tag R (2 * B) 0 a d) (hr : Runs tag R B a n d) (han : a ≤ n) (h : n ≤ a + B) : Runs tag R (2 * B) 0 n d := by
 intro p hp0 hpn
 by_cases c : p * (2 * B) < a
 ·have k : p * (2 * B) + 2 * B ≤ a := by rw [ha] at c ⊢; exact mul_lt_step c
  have r := hlo p hp0 c; have m1 : min (p * (2 * B) + 2 * B) a = p * (2 * B) + 2 * B := by omega
  have m2 : min (p * (2 * B) + 2 * B) n = p * (2 * B) + 2 * B := by omega
  rw [m1] at r; rw [m2]; exact r
 ·have e : p * (2 * B) = a := by
   by_cases f : a < p * (2 * B)
   ·rw [ha] at f; have := mul_lt_step f; omega
   ·omega
  have e1 : (2 * q) * B = a := by rw [ha, Nat.mul_comm 2 q, Nat.mul_assoc]
  have r := hr (2 * q) zv1 zv1; rw [e1] at r; have m1 : min (a + B) n = n := by omega
  have m2 : min (a + 2 * B) n = n := by omega
  rw [m1] at r; rw [e, m2]; exact ⟨r.1, fun i hi hi' => by have := r.2 i hi hi'; omega⟩
theorem runs_all {B n : Nat} {d : Array α} (hB : 0 < B) (h : n ≤ B) (hr : Runs tag R B 0 n d) : Asc R 0 n d := by
 by_cases z : 0 < n
 ·have r := (hr 0 zv1 zv1).1; rw [Nat.zero_mul, Nat.zero_add, Nat.min_eq_right h] at r; exact r
 ·intro i j hi hij hj; omega
end Go.Proofs.YtpkjpiphjdpegaaDoor.Z
