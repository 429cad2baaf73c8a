/- A program of this session wrote this text out of the session's own texts. (part 4 of 8) -/
import Derived.Sort.LotA
import Derived.Sort.Walk0
import Derived.Test.YtpkjpiphjdpegaaDoorProg
import Derived.Shelf.SlSortCmp.KitK
import Derived.Sort.WalkB2
import Derived.Sort.WalkB12
import Derived.Deep.LoopGhost
import Derived.Lib.Walk
namespace Go.Proofs.YtpkjpiphjdpegaaDoor.Z
open Go.Sort
set_option linter.unusedVariables false
variable {α : Type} [Inhabited α]
def turned (a m b k : Nat) : Nat := if a ≤ k ∧ k < a + (b - m) then k + (m - a) else if a + (b - m) ≤ k ∧ k < b then k - (b - m) else k
theorem turned_cases {a m b : Nat} (h1 : a ≤ m) (h2 : m ≤ b) (k : Nat) : (a ≤ k ∧ k < a + (b - m) ∧ turned a m b k = k + (m - a)) ∨ (a + (b - m) ≤ k ∧ k < b ∧ turned a m b k = k - (b - m)) ∨ ((k < a ∨ b ≤ k) ∧ turned a m b k = k) := by
  unfold turned
  by_cases c : a ≤ k ∧ k < a + (b - m)
  · rw [if_pos c]; exact .inl ⟨c.1, c.2, rfl⟩
  · rw [if_neg c]
    by_cases e : a + (b - m) ≤ k ∧ k < b
    · rw [if_pos e]; exact .inr (.inl ⟨e.1, e.2, rfl⟩)
    · rw [if_neg e]; exact .inr (.inr ⟨by omega, rfl⟩)
def swapped (a b n k : Nat) : Nat := if a ≤ k ∧ k < a + n then k - a + b else if b ≤ k ∧ k < b + n then k - b + a else k
theorem swapped_cases {a b n : Nat} (h : a + n ≤ b) (k : Nat) : (a ≤ k ∧ k < a + n ∧ swapped a b n k = k - a + b) ∨ (b ≤ k ∧ k < b + n ∧ swapped a b n k = k - b + a) ∨ ((k < a ∨ a + n ≤ k) ∧ (k < b ∨ b + n ≤ k) ∧ swapped a b n k = k) := by
  unfold swapped
  by_cases c : a ≤ k ∧ k < a + n
  · rw [if_pos c]; exact .inl ⟨c.1, c.2, rfl⟩
  · rw [if_neg c]
    by_cases e : b ≤ k ∧ k < b + n
    · rw [if_pos e]; exact .inr (.inl ⟨e.1, e.2, rfl⟩)
    · rw [if_neg e]; exact .inr (.inr ⟨by omega, by omega, rfl⟩)
def sw (i j k : Nat) : Nat := if k = j then i else if k = i then j else k
theorem sw_cases (i j k : Nat) : (k = j ∧ sw i j k = i) ∨ (k ≠ j ∧ k = i ∧ sw i j k = j) ∨ (k ≠ j ∧ k ≠ i ∧ sw i j k = k) := by
  unfold sw
  by_cases c : k = j
  · rw [if_pos c]; exact .inl ⟨c, rfl⟩
  · rw [if_neg c]
    by_cases e : k = i
    · rw [if_pos e]; exact .inr (.inl ⟨c, e, rfl⟩)
    · rw [if_neg e]; exact .inr (.inr ⟨c, e, rfl⟩)
theorem swp_is (d : Array α) {i j : Nat} (hi : i < d.size) (hj : j < d.size) (k : Nat) : (swp d i j)[k]! = d[sw i j k]! := by
  rw [swp_get d hi hj k]
  unfold sw
  split
  · rfl
  · split <;> rfl
theorem swapped_zero (a b k : Nat) : swapped a b 0 k = k := by
  unfold swapped
  rw [if_neg (by omega), if_neg (by omega)]
theorem swapped_step {a b n : Nat} (h : a + (n + 1) ≤ b) (k : Nat) : swapped a b n (sw (a + n) (b + n) k) = swapped a b (n + 1) k := by
  rcases sw_cases (a + n) (b + n) k with ⟨h1, e⟩ | ⟨h1, h2, e⟩ | ⟨h1, h2, e⟩ <;> rw [e]
  · rcases swapped_cases (a := a) (b := b) (n := n) (by omega) (a + n) with ⟨q1, q2, q⟩ | ⟨q1, q2, q⟩ | ⟨q1, q2, q⟩ <;> rcases swapped_cases h k with ⟨r1, r2, r⟩ | ⟨r1, r2, r⟩ | ⟨r1, r2, r⟩ <;> omega
  · rcases swapped_cases (a := a) (b := b) (n := n) (by omega) (b + n) with ⟨q1, q2, q⟩ | ⟨q1, q2, q⟩ | ⟨q1, q2, q⟩ <;> rcases swapped_cases h k with ⟨r1, r2, r⟩ | ⟨r1, r2, r⟩ | ⟨r1, r2, r⟩ <;> omega
  · rcases swapped_cases (a := a) (b := b) (n := n) (by omega) k with ⟨q1, q2, q⟩ | ⟨q1, q2, q⟩ | ⟨q1, q2, q⟩ <;> rcases swapped_cases h k with ⟨r1, r2, r⟩ | ⟨r1, r2, r⟩ | ⟨r1, r2, r⟩ <;> omega
theorem rot_left {m i j : Nat} (hi : i ≤ m) (h : j < i) (h0 : 0 < j) (k : Nat) : swapped (m - i) m j (turned (m - (i - j)) m (m + j) k) = turned (m - i) m (m + j) k := by
  rcases turned_cases (a := m - (i - j)) (m := m) (b := m + j) (by omega) (by omega) k with ⟨p1, p2, p⟩ | ⟨p1, p2, p⟩ | ⟨p1, p⟩ <;> rw [p]
  · rcases swapped_cases (a := m - i) (b := m) (n := j) (by omega) (k + (m - (m - (i - j)))) with ⟨q1, q2, q⟩ | ⟨q1, q2, q⟩ | ⟨q1, q2, q⟩ <;> rcases turned_cases (a := m - i) (m := m) (b := m + j) (by omega) (by omega) k with ⟨r1, r2, r⟩ | ⟨r1, r2, r⟩ | ⟨r1, r⟩ <;> omega
  · rcases swapped_cases (a := m - i) (b := m) (n := j) (by omega) (k - (m + j - m)) with ⟨q1, q2, q⟩ | ⟨q1, q2, q⟩ | ⟨q1, q2, q⟩ <;> rcases turned_cases (a := m - i) (m := m) (b := m + j) (by omega) (by omega) k with ⟨r1, r2, r⟩ | ⟨r1, r2, r⟩ | ⟨r1, r⟩ <;> omega
  · rcases swapped_cases (a := m - i) (b := m) (n := j) (by omega) k with ⟨q1, q2, q⟩ | ⟨q1, q2, q⟩ | ⟨q1, q2, q⟩ <;> rcases turned_cases (a := m - i) (m := m) (b := m + j) (by omega) (by omega) k with ⟨r1, r2, r⟩ | ⟨r1, r2, r⟩ | ⟨r1, r⟩ <;> omega
theorem rot_right {m i j : Nat} (hi : i ≤ m) (h : i < j) (h0 : 0 < i) (k : Nat) : swapped (m - i) (m + j - i) i (turned (m - i) m (m + (j - i)) k) = turned (m - i) m (m + j) k := by
  rcases turned_cases (a := m - i) (m := m) (b := m + (j - i)) (by omega) (by omega) k with ⟨p1, p2, p⟩ | ⟨p1, p2, p⟩ | ⟨p1, p⟩ <;> rw [p]
  · rcases swapped_cases (a := m - i) (b := m + j - i) (n := i) (by omega) (k + (m - (m - i))) with ⟨q1, q2, q⟩ | ⟨q1, q2, q⟩ | ⟨q1, q2, q⟩ <;> rcases turned_cases (a := m - i) (m := m) (b := m + j) (by omega) (by omega) k with ⟨r1, r2, r⟩ | ⟨r1, r2, r⟩ | ⟨r1, r⟩ <;> omega
  · rcases swapped_cases (a := m - i) (b := m + j - i) (n := i) (by omega) (k - (m + (j - i) - m)) with ⟨q1, q2, q⟩ | ⟨q1, q2, q⟩ | ⟨q1, q2, q⟩ <;> rcases turned_cases (a := m - i) (m := m) (b := m + j) (by omega) (by omega) k with ⟨r1, r2, r⟩ | ⟨r1, r2, r⟩ | ⟨r1, r⟩ <;> omega
  · rcases swapped_cases (a := m - i) (b := m + j - i) (n := i) (by omega) k with ⟨q1, q2, q⟩ | ⟨q1, q2, q⟩ | ⟨q1, q2, q⟩ <;> rcases turned_cases (a := m - i) (m := m) (b := m + j) (by omega) (by omega) k with ⟨r1, r2, r⟩ | ⟨r1, r2, r⟩ | ⟨r1, r⟩ <;> omega
theorem rot_last {m i : Nat} (hi : i ≤ m) (k : Nat) : swapped (m - i) m i k = turned (m - i) m (m + i) k := by
  rcases swapped_cases (a := m - i) (b := m) (n := i) (by omega) k with ⟨q1, q2, q⟩ | ⟨q1, q2, q⟩ | ⟨q1, q2, q⟩ <;> rcases turned_cases (a := m - i) (m := m) (b := m + i) (by omega) (by omega) k with ⟨r1, r2, r⟩ | ⟨r1, r2, r⟩ | ⟨r1, r⟩ <;> omega
theorem shift_up {a k : Nat} (h : a ≤ k) (x : Nat) : turned a (a + 1) (k + 1) (sw k (k + 1) x) = turned a (a + 1) (k + 2) x := by
  rcases sw_cases k (k + 1) x with ⟨h1, e⟩ | ⟨h1, h2, e⟩ | ⟨h1, h2, e⟩ <;> rw [e]
  · rcases turned_cases (a := a) (m := a + 1) (b := k + 1) (by omega) (by omega) k with ⟨q1, q2, q⟩ | ⟨q1, q2, q⟩ | ⟨q1, q⟩ <;> rcases turned_cases (a := a) (m := a + 1) (b := k + 2) (by omega) (by omega) x with ⟨r1, r2, r⟩ | ⟨r1, r2, r⟩ | ⟨r1, r⟩ <;> omega
  · rcases turned_cases (a := a) (m := a + 1) (b := k + 1) (by omega) (by omega) (k + 1) with ⟨q1, q2, q⟩ | ⟨q1, q2, q⟩ | ⟨q1, q⟩ <;> rcases turned_cases (a := a) (m := a + 1) (b := k + 2) (by omega) (by omega) x with ⟨r1, r2, r⟩ | ⟨r1, r2, r⟩ | ⟨r1, r⟩ <;> omega
  · rcases turned_cases (a := a) (m := a + 1) (b := k + 1) (by omega) (by omega) x with ⟨q1, q2, q⟩ | ⟨q1, q2, q⟩ | ⟨q1, q⟩ <;> rcases turned_cases (a := a) (m := a + 1) (b := k + 2) (by omega) (by omega) x with ⟨r1, r2, r⟩ | ⟨r1, r2, r⟩ | ⟨r1, r⟩ <;> omega
theorem shift_up_start (a x : Nat) : turned a (a + 1) (a + 1) x = x := by
  rcases turned_cases (a := a) (m := a + 1) (b := a + 1) (by omega) (by omega) x with ⟨q1, q2, q⟩ | ⟨q1, q2, q⟩ | ⟨q1, q⟩ <;> omega
theorem shift_down {k m : Nat} (h : k + 1 ≤ m) (x : Nat) : turned (k + 1) m (m + 1) (sw (k + 1) k x) = turned k m (m + 1) x := by
  rcases sw_cases (k + 1) k x with ⟨h1, e⟩ | ⟨h1, h2, e⟩ | ⟨h1, h2, e⟩ <;> rw [e]
  · rcases turned_cases (a := k + 1) (m := m) (b := m + 1) (by omega) (by omega) (k + 1) with ⟨q1, q2, q⟩ | ⟨q1, q2, q⟩ | ⟨q1, q⟩ <;> rcases turned_cases (a := k) (m := m) (b := m + 1) (by omega) (by omega) x with ⟨r1, r2, r⟩ | ⟨r1, r2, r⟩ | ⟨r1, r⟩ <;> omega
  · rcases turned_cases (a := k + 1) (m := m) (b := m + 1) (by omega) (by omega) k with ⟨q1, q2, q⟩ | ⟨q1, q2, q⟩ | ⟨q1, q⟩ <;> rcases turned_cases (a := k) (m := m) (b := m + 1) (by omega) (by omega) x with ⟨r1, r2, r⟩ | ⟨r1, r2, r⟩ | ⟨r1, r⟩ <;> omega
  · rcases turned_cases (a := k + 1) (m := m) (b := m + 1) (by omega) (by omega) x with ⟨q1, q2, q⟩ | ⟨q1, q2, q⟩ | ⟨q1, q⟩ <;> rcases turned_cases (a := k) (m := m) (b := m + 1) (by omega) (by omega) x with ⟨r1, r2, r⟩ | ⟨r1, r2, r⟩ | ⟨r1, r⟩ <;> omega
theorem shift_down_start (m x : Nat) : turned m m (m + 1) x = x := by
  rcases turned_cases (a := m) (m := m) (b := m + 1) (by omega) (by omega) x with ⟨q1, q2, q⟩ | ⟨q1, q2, q⟩ | ⟨q1, q⟩ <;> omega
theorem turned_none {a m b : Nat} (h1 : a ≤ m) (h2 : m ≤ b) (h : a = m ∨ m = b) (x : Nat) : turned a m b x = x := by
  rcases turned_cases (a := a) (m := m) (b := b) h1 h2 x with ⟨q1, q2, q⟩ | ⟨q1, q2, q⟩ | ⟨q1, q⟩ <;> omega
def Asc (R : α → α → Prop) (a b : Nat) (d : Array α) : Prop := ∀ i j, a ≤ i → i < j → j < b → R d[i]! d[j]!
theorem Asc.sub {R : α → α → Prop} {a b a' b' : Nat} {d : Array α} (h : Asc R a b d) (h1 : a ≤ a') (h2 : b' ≤ b) : Asc R a' b' d := fun i j hi hij hj => h i j (by omega) hij (by omega)
theorem Asc.same {R : α → α → Prop} {a b : Nat} {d d' : Array α} (h : Asc R a b d) (e : ∀ k, a ≤ k → k < b → d'[k]! = d[k]!) : Asc R a b d' := fun i j hi hij hj => by
  rw [e i hi (by omega), e j (by omega) hj]; exact h i j hi hij hj
variable {R : α → α → Prop} (hT : ∀ x y z, R x y → R y z → R x z)
include hT
omit hT in
theorem Asc.join {a m b : Nat} {d : Array α} (h1 : Asc R a m d) (h2 : Asc R m b d) (h : ∀ i j, a ≤ i → i < m → m ≤ j → j < b → R d[i]! d[j]!) : Asc R a b d := fun i j hi hij hj => by
  by_cases c : j < m
  · exact h1 i j hi hij c
  · by_cases e : i < m
    · exact h i j hi e (by omega) hj
    · exact h2 i j (by omega) hij hj
theorem one_left {a i b : Nat} {d d1 : Array α} (h1 : a < i) (h2 : i ≤ b) (hd : ∀ k, d1[k]! = d[turned a (a + 1) i k]!) (hR : Asc R (a + 1) b d) (hA : a + 1 < i → R d[i - 1]! d[a]!) (hB : i < b → R d[a]! d[i]!) : Asc R a b d1 := by
  intro x y hx hxy hy
  rw [hd, hd]
  rcases turned_cases (a := a) (m := a + 1) (b := i) (by omega) (by omega) x with ⟨p1, p2, p⟩ | ⟨p1, p2, p⟩ | ⟨p1, p⟩ <;> rcases turned_cases (a := a) (m := a + 1) (b := i) (by omega) (by omega) y with ⟨q1, q2, q⟩ | ⟨q1, q2, q⟩ | ⟨q1, q⟩ <;> rw [p, q]
  · exact hR _ _ (by omega) (by omega) (by omega)
  · have e : y - (i - (a + 1)) = a := by omega
    rw [e]
    by_cases c : x + (a + 1 - a) = i - 1
    · rw [c]; exact hA (by omega)
    · exact hT _ _ _ (hR _ (i - 1) (by omega) (by omega) (by omega)) (hA (by omega))
  · exact hR _ _ (by omega) (by omega) (by omega)
  · omega
  · omega
  · have e : x - (i - (a + 1)) = a := by omega
    rw [e]
    by_cases c : y = i
    · rw [c]; exact hB (by omega)
    · exact hT _ _ _ (hB (by omega)) (hR i y (by omega) (by omega) (by omega))
  · omega
  · omega
  · exact hR _ _ (by omega) (by omega) (by omega)
theorem one_right {a i m : Nat} {d d1 : Array α} (h1 : a ≤ i) (h2 : i ≤ m) (hd : ∀ k, d1[k]! = d[turned i m (m + 1) k]!) (hL : Asc R a m d) (hA : a < i → R d[i - 1]! d[m]!) (hB : i < m → R d[m]! d[i]!) : Asc R a (m + 1) d1 := by
  intro x y hx hxy hy
  rw [hd, hd]
  rcases turned_cases (a := i) (m := m) (b := m + 1) (by omega) (by omega) x with ⟨p1, p2, p⟩ | ⟨p1, p2, p⟩ | ⟨p1, p⟩ <;> rcases turned_cases (a := i) (m := m) (b := m + 1) (by omega) (by omega) y with ⟨q1, q2, q⟩ | ⟨q1, q2, q⟩ | ⟨q1, q⟩ <;> rw [p, q]
  · omega
  · have e : x + (m - i) = m := by omega
    rw [e]
    by_cases c : y - (m + 1 - m) = i
    · rw [c]; exact hB (by omega)
    · exact hT _ _ _ (hB (by omega)) (hL i _ (by omega) (by omega) (by omega))
  · omega
  · omega
  · exact hL _ _ (by omega) (by omega) (by omega)
  · omega
  · have e : y + (m - i) = m := by omega
    rw [e]
    by_cases c : x = i - 1
    · rw [c]; exact hA (by omega)
    · exact hT _ _ _ (hL _ (i - 1) (by omega) (by omega) (by omega)) (hA (by omega))
  · exact hL _ _ (by omega) (by omega) (by omega)
  · exact hL _ _ (by omega) (by omega) (by omega)
theorem halves {a s m e b mid : Nat} {d d1 : Array α} (h1 : a ≤ s) (h2 : s ≤ m) (h3 : m ≤ e) (h4 : e ≤ b) (hm : mid = s + (e - m)) (hd : ∀ k, d1[k]! = d[turned s m e k]!) (hL : Asc R a m d) (hR : Asc R m b d)
    (hA : a < s → e < b → R d[s - 1]! d[e]!) (hB : s < m → m < e → R d[e - 1]! d[s]!) :
    Asc R a s d1 ∧ Asc R s mid d1 ∧ Asc R mid e d1 ∧ Asc R e b d1 ∧ (∀ i j, a ≤ i → i < mid → mid ≤ j → j < b → R d1[i]! d1[j]!) := by
  have g1 : ∀ k, s ≤ k → k < mid → d1[k]! = d[k + (m - s)]! := fun k hk hk' => by
    rw [hd]; rcases turned_cases h2 h3 k with ⟨q1, q2, q⟩ | ⟨q1, q2, q⟩ | ⟨q1, q⟩ <;> rw [q] <;> omega
  have g2 : ∀ k, mid ≤ k → k < e → d1[k]! = d[k - (e - m)]! := fun k hk hk' => by
    rw [hd]; rcases turned_cases h2 h3 k with ⟨q1, q2, q⟩ | ⟨q1, q2, q⟩ | ⟨q1, q⟩ <;> rw [q] <;> omega
  have g3 : ∀ k, k < s ∨ e ≤ k → d1[k]! = d[k]! := fun k hk => by
    rw [hd]; rcases turned_cases h2 h3 k with ⟨q1, q2, q⟩ | ⟨q1, q2, q⟩ | ⟨q1, q⟩ <;> rw [q] <;> omega
  refine ⟨fun i j hi hij hj => ?_, fun i j hi hij hj => ?_, fun i j hi hij hj => ?_, fun i j hi hij hj => ?_, fun i j hi hi' hj hj' => ?_⟩
  · rw [g3 i (by omega), g3 j (by omega)]; exact hL _ _ (by omega) (by omega) (by omega)
  · rw [g1 i (by omega) (by omega), g1 j (by omega) (by omega)]; exact hR _ _ (by omega) (by omega) (by omega)
  · rw [g2 i (by omega) (by omega), g2 j (by omega) (by omega)]; exact hL _ _ (by omega) (by omega) (by omega)
  · rw [g3 i (by omega), g3 j (by omega)]; exact hR _ _ (by omega) (by omega) (by omega)
  · by_cases c : i < s
    · rw [g3 i (by omega)]
      by_cases f : j < e
      · rw [g2 j (by omega) (by omega)]; exact hL _ _ (by omega) (by omega) (by omega)
      · rw [g3 j (by omega)]
        have p := hA (by omega) (by omega)
        have p1 : R d[i]! d[e]! := by
          by_cases q : i = s - 1
          · rw [q]; exact p
          · exact hT _ _ _ (hL i (s - 1) (by omega) (by omega) (by omega)) p
        by_cases q : j = e
        · rw [q]; exact p1
        · exact hT _ _ _ p1 (hR e j (by omega) (by omega) (by omega))
    · rw [g1 i (by omega) (by omega)]
      by_cases f : j < e
      · rw [g2 j (by omega) (by omega)]
        have p := hB (by omega) (by omega)
        have p1 : R d[i + (m - s)]! d[s]! := by
          by_cases q : i + (m - s) = e - 1
          · rw [q]; exact p
          · exact hT _ _ _ (hR _ (e - 1) (by omega) (by omega) (by omega)) p
        by_cases q : j - (e - m) = s
        · rw [q]; exact p1
        · exact hT _ _ _ p1 (hL s _ (by omega) (by omega) (by omega))
      · rw [g3 j (by omega)]; exact hR _ _ (by omega) (by omega) (by omega)
omit hT
def Cross (cf : α → α → Int) (R : α → α → Prop) (a m b : Nat) (d : Array α) : Prop := ∀ i j, a ≤ i → i < m → m ≤ j → j < b → (cf d[j]! d[i]! < 0 → R d[j]! d[i]!) ∧ (¬ cf d[j]! d[i]! < 0 → R d[i]! d[j]!)
theorem cross_halves {cf : α → α → Int} {a s m e b mid : Nat} {d d1 : Array α} (h1 : a ≤ s) (h2 : s ≤ m) (h3 : m ≤ e) (h4 : e ≤ b) (hm : mid = s + (e - m)) (hd : ∀ k, d1[k]! = d[turned s m e k]!) (hC : Cross cf R a m b d) :
    Cross cf R a s mid d1 ∧ Cross cf R mid e b d1 := by
  have g1 : ∀ k, s ≤ k → k < mid → d1[k]! = d[k + (m - s)]! := fun k hk hk' => by
    rw [hd]; rcases turned_cases h2 h3 k with ⟨q1, q2, q⟩ | ⟨q1, q2, q⟩ | ⟨q1, q⟩ <;> rw [q] <;> omega
  have g2 : ∀ k, mid ≤ k → k < e → d1[k]! = d[k - (e - m)]! := fun k hk hk' => by
    rw [hd]; rcases turned_cases h2 h3 k with ⟨q1, q2, q⟩ | ⟨q1, q2, q⟩ | ⟨q1, q⟩ <;> rw [q] <;> omega
  have g3 : ∀ k, k < s ∨ e ≤ k → d1[k]! = d[k]! := fun k hk => by
    rw [hd]; rcases turned_cases h2 h3 k with ⟨q1, q2, q⟩ | ⟨q1, q2, q⟩ | ⟨q1, q⟩ <;> rw [q] <;> omega
  refine ⟨fun i j hi hi' hj hj' => ?_, fun i j hi hi' hj hj' => ?_⟩
  · rw [g3 i (by omega), g1 j (by omega) (by omega)]; exact hC _ _ (by omega) (by omega) (by omega) (by omega)
  · rw [g2 i (by omega) (by omega), g3 j (by omega)]; exact hC _ _ (by omega) (by omega) (by omega) (by omega)
theorem Cross.same {cf : α → α → Int} {a m b : Nat} {d d' : Array α} (h : Cross cf R a m b d) (e : ∀ k, a ≤ k → k < b → d'[k]! = d[k]!) : Cross cf R a m b d' := fun i j hi hi' hj hj' => by
  rw [e i (by omega) (by omega), e j (by omega) (by omega)]; exact h i j hi hi' hj hj'
theorem joined {a b mid : Nat} {d1 d2 d3 : Array α} (h1 : a ≤ mid) (h2 : mid ≤ b) (hb : b ≤ d1.size) (hall : ∀ i j, a ≤ i → i < mid → mid ≤ j → j < b → R d1[i]! d1[j]!)
    (hp : PermIn a mid d1 d2) (hq : PermIn mid b d2 d3) (hs : Asc R a mid d2) (ht : Asc R mid b d3) : PermIn a b d1 d3 ∧ Asc R a b d3 := by
  have hs2 : d2.size = d1.size := hp.1
  refine ⟨permIn_trans _ _ _ _ _ (permIn_mono _ _ a mid a b (Nat.le_refl _) h2 hb hp) (permIn_mono _ _ mid b a b h1 (Nat.le_refl _) (by omega) hq), ?_⟩
  have a1 : ∀ j, mid ≤ j → j < b → ∀ i, a ≤ i → i < mid → R d2[i]! d1[j]! := fun j hj hj' => permIn_all d1 d2 a mid (fun x => R x d1[j]!) (by omega) hp (fun i hi hi' => hall i j hi hi' hj hj')
  have a2 : ∀ i, a ≤ i → i < mid → ∀ j, mid ≤ j → j < b → R d2[i]! d3[j]! := fun i hi hi' => permIn_all d2 d3 mid b (fun y => R d2[i]! y) (by omega) hq (fun j hj hj' => by rw [hp.2.1 j (by omega)]; exact a1 j hj hj' i hi hi')
  refine Asc.join (hs.same fun k hk hk' => hq.2.1 k (by omega)) ht fun i j hi hi' hj hj' => ?_
  rw [hq.2.1 i (by omega)]
  exact a2 i hi hi' j hj hj'
def Runs (tag : α → Nat) (R : α → α → Prop) (B lo hi : Nat) (d : Array α) : Prop :=
  ∀ q, lo ≤ q * B → q * B < hi → Asc R (q * B) (min (q * B + B) hi) d ∧ ∀ i, q * B ≤ i → i < min (q * B + B) hi → q * B ≤ tag d[i]! ∧ tag d[i]! < q * B + B
theorem mul_lt_step {p q B : Nat} (h : p * B < q * B) : p * B + B ≤ q * B := by
  have : p < q := Nat.lt_of_mul_lt_mul_right h
  have := Nat.mul_le_mul_right B (show p + 1 ≤ q from this)
  rw [Nat.add_mul, Nat.one_mul] at this
  exact this
variable {tag : α → Nat}
theorem runs_two {B q n : Nat} {d : Array α} {a b : Nat} (ha : a = q * (2 * B)) (hB : 0 < B) (hr : Runs tag R B a n d) (hab : a + B < b) (hb : b ≤ a + 2 * B) (hbn : b ≤ n) (hfull : b = a + 2 * B ∨ b = n) :
    Asc R a (a + B) d ∧ Asc R (a + B) b d ∧ (∀ i j, a ≤ i → i < a + B → a + B ≤ j → j < b → tag d[i]! < tag d[j]!) ∧ ∀ i, a ≤ i → i < b → a ≤ tag d[i]! ∧ tag d[i]! < a + 2 * B := by
  have e1 : (2 * q) * B = a := by rw [ha, Nat.mul_comm 2 q, Nat.mul_assoc]
  have e2 : (2 * q + 1) * B = a + B := by rw [Nat.add_mul, Nat.one_mul, e1]
  have r1 := hr (2 * q) (by omega) (by omega)
  have r2 := hr (2 * q + 1) (by omega) (by omega)
  rw [e1] at r1
  rw [e2] at r2
  have m1 : min (a + B) n = a + B := by omega
  have m2 : min (a + B + B) n = b := by omega
  rw [m1] at r1
  rw [m2] at r2
  refine ⟨r1.1, r2.1, fun i j hi hi' hj hj' => ?_, fun i hi hi' => ?_⟩
  · have := r1.2 i hi hi'; have := r2.2 j hj hj'; omega
  · by_cases c : i < a + B
    · have := r1.2 i hi c; omega
    · have := r2.2 i (by omega) hi'; omega
theorem runs_merged {B q n : Nat} {d d' : Array α} {a b : Nat} (ha : a = q * (2 * B)) (hB : 0 < B) (hlo : Runs tag R (2 * B) 0 a d) (hab : a < b) (hb : b ≤ a + 2 * B) (hbn : b ≤ n) (hfull : b = a + 2 * B ∨ b = n) (hsz : b ≤ d.size)
    (hp : PermIn a b d d') (hs : Asc R a b d') (ht : ∀ i, a ≤ i → i < b → a ≤ tag d[i]! ∧ tag d[i]! < a + 2 * B) : Runs tag R (2 * B) 0 b d' := by
  intro p hp0 hpb
  have ht' := permIn_all d d' a b (fun x => a ≤ tag x ∧ tag x < a + 2 * B) hsz hp ht
  by_cases c : p * (2 * B) < a
  · have k : p * (2 * B) + 2 * B ≤ a := by rw [ha] at c ⊢; exact mul_lt_step c
    have r := hlo p hp0 c
    have m1 : min (p * (2 * B) + 2 * B) a = p * (2 * B) + 2 * B := by omega
    have m2 : min (p * (2 * B) + 2 * B) b = p * (2 * B) + 2 * B := by omega
    rw [m1] at r
    rw [m2]
    exact ⟨r.1.same fun k hk hk' => hp.2.1 k (by omega), fun i hi hi' => by rw [hp.2.1 i (by omega)]; exact r.2 i hi hi'⟩
  · have e : p * (2 * B) = a := by
      by_cases f : a < p * (2 * B)
      · rw [ha] at f
        have := mul_lt_step f
        omega
      · omega
    have m : min (a + 2 * B) b = b := by omega
    rw [e, m]
    exact ⟨hs, ht'⟩
theorem runs_rest {B q n : Nat} {d d' : Array α} {a b : Nat} (hr : Runs tag R B a n d) (hab : a ≤ b) (hp : PermIn a b d d') : Runs tag R B b n d' := by
  intro p hpb hpn
  have r := hr p (by omega) hpn
  exact ⟨r.1.same fun k hk hk' => hp.2.1 k (by omega), fun i hi hi' => by rw [hp.2.1 i (by omega)]; exact r.2 i hi hi'⟩
theorem runs_last {B q n : Nat} {d : Array α} {a : Nat} (ha : a = q * (2 * B)) (hB : 0 < B) (hlo : Runs tag R (2 * B) 0 a d) (hr : Runs tag R B a n d) (han : a ≤ n) (h : n ≤ a + B) : Runs tag R (2 * B) 0 n d := by
  intro p hp0 hpn
  by_cases c : p * (2 * B) < a
  · have k : p * (2 * B) + 2 * B ≤ a := by rw [ha] at c ⊢; exact mul_lt_step c
    have r := hlo p hp0 c
    have m1 : min (p * (2 * B) + 2 * B) a = p * (2 * B) + 2 * B := by omega
    have m2 : min (p * (2 * B) + 2 * B) n = p * (2 * B) + 2 * B := by omega
    rw [m1] at r
    rw [m2]
    exact r
  · have e : p * (2 * B) = a := by
      by_cases f : a < p * (2 * B)
      · rw [ha] at f
        have := mul_lt_step f
        omega
      · omega
    have e1 : (2 * q) * B = a := by rw [ha, Nat.mul_comm 2 q, Nat.mul_assoc]
    have r := hr (2 * q) (by omega) (by omega)
    rw [e1] at r
    have m1 : min (a + B) n = n := by omega
    have m2 : min (a + 2 * B) n = n := by omega
    rw [m1] at r
    rw [e, m2]
    exact ⟨r.1, fun i hi hi' => by have := r.2 i hi hi'; omega⟩
theorem runs_all {B n : Nat} {d : Array α} (hB : 0 < B) (h : n ≤ B) (hr : Runs tag R B 0 n d) : Asc R 0 n d := by
  by_cases z : 0 < n
  · have r := (hr 0 (by omega) (by omega)).1
    rw [Nat.zero_mul, Nat.zero_add, Nat.min_eq_right h] at r
    exact r
  · intro i j hi hij hj; omega
end Go.Proofs.YtpkjpiphjdpegaaDoor.Z
namespace Go.Proofs.YtpkjpiphjdpegaaDoor.Z
open Go.Sort
set_option linter.unusedVariables false
set_option linter.unusedSimpArgs false
theorem kl_irrefl (x : List UInt8) : Op.bytesLess x x = false := by rw [bytesLess_eq]; exact swo_ltStr.irrefl x
theorem kl_trans {x y z : List UInt8} (h : Op.bytesLess x y = true) (k : Op.bytesLess y z = true) : Op.bytesLess x z = true := by
  rw [bytesLess_eq] at *; exact swo_ltStr.trans x y z h k
theorem kl_ntrans {x y z : List UInt8} (h : Op.bytesLess x y = false) (k : Op.bytesLess y z = false) : Op.bytesLess x z = false := by
  rw [bytesLess_eq] at *; exact swo_ltStr.ntrans x y z h k
theorem kl_tri {x y : List UInt8} (h : Op.bytesLess x y = false) (k : Op.bytesLess y x = false) : x = y := by
  rw [bytesLess_eq] at h k
  simp only [decide_eq_false_iff_not, List.not_lt] at h k
  exact List.le_antisymm k h
theorem kl_asym {x y : List UInt8} (h : Op.bytesLess x y = true) : Op.bytesLess y x = false := by
  cases c : Op.bytesLess y x with
  | false => rfl
  | true => have := kl_trans h c; rw [kl_irrefl] at this; cases this
variable {σ : Type} (key : σ → List UInt8)
def ltB (x y : σ × Nat) : Bool := Op.bytesLess (key x.1) (key y.1) || (key x.1 == key y.1 && decide (x.2 < y.2))
def Rb (x y : σ × Nat) : Prop := ltB key y x = false
theorem ltB_true {x y : σ × Nat} : ltB key x y = true ↔ Op.bytesLess (key x.1) (key y.1) = true ∨ (key x.1 = key y.1 ∧ x.2 < y.2) := by
  unfold ltB; simp
theorem ltB_false {x y : σ × Nat} : ltB key x y = false ↔ Op.bytesLess (key x.1) (key y.1) = false ∧ (key x.1 = key y.1 → y.2 ≤ x.2) := by
  unfold ltB
  rw [Bool.or_eq_false_iff, Bool.and_eq_false_iff]
  simp only [beq_eq_false_iff_ne, decide_eq_false_iff_not, Nat.not_lt]
  exact and_congr Iff.rfl ⟨fun h e => h.resolve_left (fun k => k e), fun h => (Classical.em (key x.1 = key y.1)).elim (fun e => .inr (h e)) .inl⟩
theorem swo_ltB : SWO (ltB key) where
  irrefl x := (ltB_false key).2 ⟨kl_irrefl _, fun _ => Nat.le_refl _⟩
  trans x y z h k := by
    rw [ltB_true] at *
    rcases h with h | ⟨h, h'⟩ <;> rcases k with k | ⟨k, k'⟩
    · exact .inl (kl_trans h k)
    · rw [← k]; exact .inl h
    · rw [h]; exact .inl k
    · exact .inr ⟨h.trans k, by omega⟩
  ntrans x y z h k := by
    rw [ltB_false] at *
    refine ⟨kl_ntrans h.1 k.1, fun e => ?_⟩
    have e1 : key x.1 = key y.1 := kl_tri h.1 (by rw [e]; exact k.1)
    have e2 : key y.1 = key z.1 := e1.symm.trans e
    have := h.2 e1; have := k.2 e2; omega
theorem rb_trans (x y z : σ × Nat) (h : Rb key x y) (k : Rb key y z) : Rb key x z := (swo_ltB key).ntrans z y x k h
variable [Inhabited σ]
theorem cross_of {cf : σ × Nat → σ × Nat → Int} (hcf : ∀ x y, cf x y < 0 ↔ Op.bytesLess (key x.1) (key y.1) = true) {a m b : Nat} {d : Array (σ × Nat)}
    (ht : ∀ i j, a ≤ i → i < m → m ≤ j → j < b → d[i]!.2 < d[j]!.2) : Cross cf (Rb key) a m b d := by
  intro i j hi hi' hj hj'
  have t := ht i j hi hi' hj hj'
  refine ⟨fun h => ?_, fun h => ?_⟩
  · rw [hcf] at h
    refine (ltB_false key).2 ⟨kl_asym h, fun e => ?_⟩
    rw [e, kl_irrefl] at h; cases h
  · rw [hcf] at h
    exact (ltB_false key).2 ⟨by simpa using h, fun e => by omega⟩
section
variable {α : Type} [Inhabited α]
theorem insInner_perm (lt : α → α → Bool) (a i : Nat) : ∀ (j : Nat) (d : Array α), j ≤ i → i < d.size → PermIn a (i + 1) d (insInner lt a j d)
  | 0, d, _, _ => permIn_refl _ _ _
  | j + 1, d, hj, hs => by
    rw [insInner]
    split
    · rename_i c
      have c1 : j + 1 > a := by simp only [Bool.and_eq_true, decide_eq_true_eq] at c; exact c.1
      have s := size_swp d (j + 1) j
      exact permIn_trans _ _ _ _ _ (swp_permIn d a (i + 1) (j + 1) j (by omega) (by omega) (by omega) (by omega) (by omega)) (insInner_perm lt a i j _ (by omega) (by omega))
    · exact permIn_refl _ _ _
theorem insInner_same (lt lt' : α → α → Bool) (a : Nat) : ∀ (j : Nat) (d : Array α), j < d.size → (∀ p, a ≤ p → p < j → lt d[j]! d[p]! = lt' d[j]! d[p]!) → insInner lt a j d = insInner lt' a j d
  | 0, d, _, _ => rfl
  | j + 1, d, hs, h => by
    rw [insInner, insInner]
    by_cases c : j + 1 > a
    · rw [h j (by omega) (by omega)]
      have g := swp_get d hs (show j < d.size by omega)
      rw [insInner_same lt lt' a j (swp d (j + 1) j) (by rw [size_swp]; omega) fun p hp hpj => by
        rw [g, g, if_pos rfl, if_neg (by omega), if_neg (by omega)]
        exact h p hp (by omega)]
    · rw [decide_eq_false c, Bool.false_and, Bool.false_and]; rfl
theorem insOuter_same (lt lt' : α → α → Bool) (a b : Nat) : ∀ (n i : Nat) (d : Array α), b - i ≤ n → b ≤ d.size → (∀ p q, a ≤ p → p < q → i ≤ q → q < b → lt d[q]! d[p]! = lt' d[q]! d[p]!) → insOuter lt a b i d = insOuter lt' a b i d
  | 0, i, d, hn, hb, h => by rw [insOuter, if_neg (by omega), insOuter, if_neg (by omega)]
  | n + 1, i, d, hn, hb, h => by
    by_cases c : i < b
    · conv => lhs; rw [insOuter, if_pos c]
      conv => rhs; rw [insOuter, if_pos c]
      rw [insInner_same lt lt' a i d (by omega) (fun p hp hpi => h p i hp hpi (Nat.le_refl _) c)]
      have P := insInner_perm lt' a i i d (Nat.le_refl _) (by omega)
      refine insOuter_same lt lt' a b n (i + 1) _ (by omega) (by rw [P.1]; exact hb) fun p q hp hpq hq hqb => ?_
      rw [P.2.1 q (by omega)]
      by_cases e : i + 1 ≤ p
      · rw [P.2.1 p (by omega)]; exact h p q hp hpq (by omega) hqb
      · exact permIn_all d _ a (i + 1) (fun x => lt d[q]! x = lt' d[q]! x) (by omega) P (fun k hk hk' => h k q hk (by omega) (by omega) hqb) p hp (by omega)
    · rw [insOuter, if_neg c, insOuter, if_neg c]
end
theorem insertion_stable {cf : σ × Nat → σ × Nat → Int} (hcf : ∀ x y, cf x y < 0 ↔ Op.bytesLess (key x.1) (key y.1) = true) {a b : Nat} {d : Array (σ × Nat)} (hab : a ≤ b) (hb : b ≤ d.size)
    (ht : ∀ i j, a ≤ i → i < j → j < b → d[i]!.2 < d[j]!.2) :
    PermIn a b d (insertionSort (fun x y => decide (cf x y < 0)) d a b) ∧ Asc (Rb key) a b (insertionSort (fun x y => decide (cf x y < 0)) d a b) := by
  have e : insertionSort (fun x y => decide (cf x y < 0)) d a b = insertionSort (ltB key) d a b := by
    unfold insertionSort
    refine insOuter_same _ _ a b (b - (a + 1)) (a + 1) d (Nat.le_refl _) hb fun p q hp hpq hq hqb => ?_
    have t := ht p q hp hpq hqb
    rw [Bool.eq_iff_iff, decide_eq_true_eq, hcf, ltB_true]
    exact ⟨.inl, fun h => h.elim id fun k => by omega⟩
  rw [e]
  exact insertionSort_holds (swo_ltB key) d a b hab hb
def insL {τ : Type} (key : τ → List UInt8) (x : τ) : List τ → List τ
  | [] => [x]
  | y :: l => if Op.bytesLess (key x) (key y) = true then x :: y :: l else y :: insL key x l
def sortL {τ : Type} (key : τ → List UInt8) (l : List τ) : List τ := l.foldl (fun acc x => insL key x acc) []
omit [Inhabited σ] in
theorem insL_fst (x : σ × Nat) : ∀ l : List (σ × Nat), (insL (fun y => key y.1) x l).map Prod.fst = insL key x.1 (l.map Prod.fst)
  | [] => rfl
  | y :: l => by
    rw [insL, List.map_cons, insL]
    split
    · rfl
    · rw [List.map_cons, insL_fst x l]
omit [Inhabited σ] in
theorem fold_fst : ∀ (l acc : List (σ × Nat)), (l.foldl (fun acc x => insL (fun y => key y.1) x acc) acc).map Prod.fst = (l.map Prod.fst).foldl (fun acc x => insL key x acc) (acc.map Prod.fst)
  | [], acc => rfl
  | x :: l, acc => by rw [List.foldl_cons, fold_fst l, insL_fst, List.map_cons, List.foldl_cons]
theorem insL_perm {τ : Type} (key : τ → List UInt8) (x : τ) : ∀ l : List τ, (insL key x l).Perm (x :: l)
  | [] => List.Perm.refl _
  | y :: l => by
    rw [insL]
    split
    · exact List.Perm.refl _
    · exact ((insL_perm key x l).cons y).trans (List.Perm.swap x y l)
omit [Inhabited σ] in
theorem insL_sorted (x : σ × Nat) : ∀ l : List (σ × Nat), l.Pairwise (Rb key) → (∀ y ∈ l, y.2 < x.2) → (insL (fun y => key y.1) x l).Pairwise (Rb key)
  | [], _, _ => by simp [insL]
  | y :: l, hs, ht => by
    obtain ⟨h1, h2⟩ := List.pairwise_cons.1 hs
    have ty := ht y (List.mem_cons_self ..)
    rw [insL]
    split
    · rename_i c
      have xy : Rb key x y := (ltB_false key).2 ⟨kl_asym c, fun e => by rw [e, kl_irrefl] at c; cases c⟩
      refine List.pairwise_cons.2 ⟨fun z hz => ?_, hs⟩
      rcases List.mem_cons.1 hz with rfl | hz
      · exact xy
      · exact rb_trans key _ _ _ xy (h1 z hz)
    · rename_i c
      refine List.pairwise_cons.2 ⟨fun z hz => ?_, insL_sorted x l h2 fun z hz => ht z (List.mem_cons_of_mem _ hz)⟩
      rcases List.mem_cons.1 ((insL_perm (fun y : σ × Nat => key y.1) x l).mem_iff.1 hz) with rfl | hz
      · exact (ltB_false key).2 ⟨by simpa using c, fun _ => by omega⟩
      · exact h1 z hz
omit [Inhabited σ] in
theorem fold_sorted : ∀ (l : List σ) (n : Nat) (acc : List (σ × Nat)), acc.Pairwise (Rb key) → (∀ y ∈ acc, y.2 < n) →
    ((l.zipIdx n).foldl (fun acc x => insL (fun y => key y.1) x acc) acc).Pairwise (Rb key) ∧ ((l.zipIdx n).foldl (fun acc x => insL (fun y => key y.1) x acc) acc).Perm (acc ++ l.zipIdx n)
  | [], n, acc, hs, ht => ⟨hs, by simp⟩
  | x :: l, n, acc, hs, ht => by
    rw [List.zipIdx_cons, List.foldl_cons]
    have P := insL_perm (fun y : σ × Nat => key y.1) (x, n) acc
    obtain ⟨r1, r2⟩ := fold_sorted l (n + 1) (insL (fun y => key y.1) (x, n) acc) (insL_sorted key (x, n) acc hs ht) (fun y hy => by
      rcases List.mem_cons.1 (P.mem_iff.1 hy) with rfl | hy
      · exact Nat.lt_succ_self n
      · have := ht y hy; omega)
    refine ⟨r1, r2.trans ?_⟩
    refine (P.append_right _).trans ?_
    rw [List.cons_append]
    exact (List.perm_middle (a := (x, n)) (l₁ := acc) (l₂ := l.zipIdx (n + 1))).symm
omit [Inhabited σ] in
theorem tag_inj {l : List σ} {x y : σ × Nat} (hx : x ∈ l.zipIdx) (hy : y ∈ l.zipIdx) (h : x.2 = y.2) : x = y := by
  obtain ⟨a, i⟩ := x
  obtain ⟨b, j⟩ := y
  have h1 := List.mem_zipIdx_iff_getElem?.1 hx
  have h2 := List.mem_zipIdx_iff_getElem?.1 hy
  simp only at h h1 h2
  subst h
  rw [h1] at h2
  cases h2
  rfl
theorem stable_is (l : List σ) (d' : Array (σ × Nat)) (hp : PermIn 0 l.length l.zipIdx.toArray d') (hs : Asc (Rb key) 0 l.length d') : d'.toList.map Prod.fst = sortL key l := by
  obtain ⟨r1, r2⟩ := fold_sorted key l 0 [] List.Pairwise.nil (fun y hy => by cases hy)
  rw [List.nil_append] at r2
  have sz : d'.size = l.length := by rw [hp.1]; simp
  have P : d'.toList.Perm l.zipIdx := by
    have := hp.2.2
    rw [show d'.extract 0 l.length = d' by rw [← sz]; exact Array.extract_size, show l.zipIdx.toArray.extract 0 l.length = l.zipIdx.toArray by
      have : l.length = l.zipIdx.toArray.size := by simp
      rw [this]; exact Array.extract_size] at this
    exact this
  have e : d'.toList = l.zipIdx.foldl (fun acc x => insL (fun y => key y.1) x acc) [] := by
    refine List.Perm.eq_of_pairwise (le := Rb key) ?_ ?_ r1 (P.trans r2.symm)
    · intro x y hx hy h1 h2
      have mx := P.mem_iff.1 hx
      have my := r2.mem_iff.1 hy
      have f1 := (ltB_false key).1 h1
      have f2 := (ltB_false key).1 h2
      have k := kl_tri f1.1 f2.1
      have a1 := f1.2 k
      have a2 := f2.2 k.symm
      exact tag_inj mx my (by omega)
    · rw [List.pairwise_iff_getElem]
      intro i j hi hj hij
      have hi' : i < d'.size := by simpa using hi
      have hj' : j < d'.size := by simpa using hj
      have := hs i j (Nat.zero_le _) hij (by omega)
      rw [getElem!_pos d' j hj', getElem!_pos d' i hi'] at this
      simpa using this
  rw [e, fold_fst]
  unfold sortL
  congr 1
  simp [List.zipIdx_map_fst]
end Go.Proofs.YtpkjpiphjdpegaaDoor.Z
namespace Go.Proofs.YtpkjpiphjdpegaaDoor.Z
open Go.Shelf Go.RowKit Go.Lib Go.Sort Go.Proofs
set_option linter.unusedVariables false
set_option linter.unusedSimpArgs false
variable {α : Type} [Inhabited α]

set_option maxHeartbeats 4000000 in
set_option maxRecDepth 1000000 in
theorem swapRange_is (k : Nat) (aE : ∀ w, (isAgg 44).run Tryd.prog w = .ok true w) (zE : ∀ w, (Go.sizeOf 44).run Tryd.prog w = .ok k w) (enc : α → List Value) (g : Nat) (cb : Array Value) (blk off cap a b n : Nat) (d0 d : Array α) (w0 w : World)
    (R : RowK enc k w0 blk off d0) (hs : d0.size = d.size) (S : SWK enc k w0 blk off d w) (hab : a + n ≤ b) (hb : b + n ≤ d.size) (hsz : d.size < 4611686018427387904) :
    Calls Tryd.prog 144 #[.slice (some ⟨blk, off, none⟩) d.size cap, .int .i64 a, .int .i64 b, .int .i64 n, .func (.func g) #[] cb] w fun e w' => e = .returned (.tuple #[]) ∧ ∃ d', SWK enc k w0 blk off d' w' ∧ PermIn a (b + n) d d' ∧ ∀ x, d'[x]! = d[swapped a b n x]! := by
  have S0 : Aside (SWK enc k w0 blk off d w) := S
  clear S
  have mixed : Tryd.prog.follows .mixedOrders = true := by kernel_rfl
  go_enter Tryd.func144, Tryd.ntmps144
  go_wp2
  go_loopg [10] n (fun kx s10 wr => ∃ (i : Nat) (dk : Array α), s10 = .int .i64 i ∧ i ≤ n ∧ n - i ≤ kx ∧ dk.size = d.size ∧ Aside (SWK enc k w0 blk off dk wr) ∧ Hid (PermIn a (b + n) d dk) ∧ Hid (∀ x, dk[x]! = d[swapped a b i x]!))
  case atStart => exact ⟨0, d, rfl, Nat.zero_le _, by omega, rfl, S0, permIn_refl _ _ _, fun x => by rw [swapped_zero]⟩
  case round =>
    clear S0
    obtain ⟨i, dk, rfl, hi, hkx, hds, S1, HP, HG⟩ := hrel
    by_cases hlt : i < n
    · have hltz : (i : Int) < (n : Int) := by omega
      have ea1 : ((a : Int) + (i : Int)).toNat = a + i := by omega
      have pa1 : (0 : Int) ≤ (a : Int) + (i : Int) := by omega
      have ba1 : (a : Int) + (i : Int) < (d.size : Int) := by omega
      have ra1 : IntKind.i64.wrap ((a : Int) + (i : Int)) = (a : Int) + (i : Int) := by rw [IntKind.wrap_i64]; omega
      have ec1 : ((b : Int) + (i : Int)).toNat = b + i := by omega
      have pc1 : (0 : Int) ≤ (b : Int) + (i : Int) := by omega
      have bc1 : (b : Int) + (i : Int) < (d.size : Int) := by omega
      have rc1 : IntKind.i64.wrap ((b : Int) + (i : Int)) = (b : Int) + (i : Int) := by rw [IntKind.wrap_i64]; omega
      have S2 : Aside (SWK enc k w0 blk off (swp dk (a + i) (b + i)) ((wr.drew.setCells blk (off + (a + i) * k) (enc dk[b + i]!)).setCells blk (off + (b + i) * k) (enc dk[a + i]!))) := S1.out.swapped R (a + i) (b + i) (by omega) (by omega)
      have l1a := S1.out.ld1 R (by omega) Tryd.prog (a + i) (by omega)
      have l1b := S1.out.ld1 R (by omega) Tryd.prog (b + i) (by omega)
      have s1a := S1.out.st1 R (by omega) Tryd.prog (a + i) (by omega) dk[b + i]!
      have s1b := S1.out.st2 R (by omega) Tryd.prog (a + i) (b + i) (by omega) (by omega) dk[b + i]! dk[a + i]!
      have n1a : (enc dk[a + i]!).length = k := R.hk _
      have n1b : (enc dk[b + i]!).length = k := R.hk _
      generalize enc dk[a + i]! = cI1 at S2 l1a s1b n1a
      generalize enc dk[b + i]! = cJ1 at S2 l1b s1a s1b n1b
      clear S1
      go_wp2_with fail
      go_big_region_o
      clear l1a l1b s1a s1b
      generalize (wr.drew.setCells blk (off + (a + i) * k) cJ1).setCells blk (off + (b + i) * k) cI1 = w2 at S2 ⊢
      go_wp2
      go_roundg (n - (i + 1))
      case measure => omega
      case rel => exact ⟨i + 1, swp dk (a + i) (b + i), by go_num, by omega, Nat.le_refl _, by rw [size_swp]; exact hds, S2, permIn_trans _ _ _ _ _ HP.out (swp_permIn dk a (b + n) (a + i) (b + i) (by omega) (by omega) (by omega) (by omega) (by omega)), fun x => by rw [swp_is dk (by omega) (by omega), HG.out, swapped_step (by omega)]⟩
    · have hltz : ¬ (i : Int) < (n : Int) := by omega
      obtain rfl : i = n := by omega
      go_wp2
      go_end0
      exact ⟨rfl, dk, S1.out, HP.out, HG.out⟩
set_option maxHeartbeats 4000000 in
set_option maxRecDepth 1000000 in
theorem rotate_is (k : Nat) (aE : ∀ w, (isAgg 44).run Tryd.prog w = .ok true w) (zE : ∀ w, (Go.sizeOf 44).run Tryd.prog w = .ok k w) (enc : α → List Value) (g : Nat) (cb : Array Value) (blk off cap a m b : Nat) (d0 d : Array α) (w0 w : World)
    (R : RowK enc k w0 blk off d0) (hs : d0.size = d.size) (S : SWK enc k w0 blk off d w) (ham : a < m) (hmb : m < b) (hb : b ≤ d.size) (hsz : d.size < 4611686018427387904) :
    Calls Tryd.prog 134 #[.slice (some ⟨blk, off, none⟩) d.size cap, .int .i64 a, .int .i64 m, .int .i64 b, .func (.func g) #[] cb] w fun e w' => e = .returned (.tuple #[]) ∧ ∃ d', SWK enc k w0 blk off d' w' ∧ PermIn a b d d' ∧ ∀ x, d'[x]! = d[turned a m b x]! := by
  have S0 : Aside (SWK enc k w0 blk off d w) := S
  clear S
  have e1 : ∀ args w, (callFunc 144 args).run Tryd.prog w = .ok (.enter 144 args) w := enters_of Tryd.func144 (by kernel_rfl) rfl
  go_enter Tryd.func134, Tryd.ntmps134
  go_wp2
  go_loopg [10, 11] (b - a) (fun kx s10 s11 wr => ∃ (i j : Nat) (dk : Array α), s10 = .int .i64 i ∧ s11 = .int .i64 j ∧ 0 < i ∧ 0 < j ∧ i ≤ m - a ∧ j ≤ b - m ∧ i + j ≤ kx ∧ dk.size = d.size ∧ Aside (SWK enc k w0 blk off dk wr) ∧ Hid (PermIn a b d dk) ∧ Hid (∀ (z : Array α), (∀ x, z[x]! = dk[turned (m - i) m (m + j) x]!) → ∀ x, z[x]! = d[turned a m b x]!))
  case atStart => exact ⟨m - a, b - m, d, by go_num, by go_num, by omega, by omega, Nat.le_refl _, Nat.le_refl _, by omega, rfl, S0, permIn_refl _ _ _, fun z h x => by rw [h x, show m - (m - a) = a by omega, show m + (b - m) = b by omega]⟩
  case round =>
    clear S0
    obtain ⟨i, j, dk, rfl, rfl, hi0, hj0, him, hjb, hkx, hds, S1, HP, HG⟩ := hrel
    have wmi : ((m : Int) - (i : Int)) = ((m - i : Nat) : Int) := by omega
    have rmi : IntKind.i64.wrap ((m : Int) - (i : Int)) = (m : Int) - (i : Int) := by rw [IntKind.wrap_i64]; omega
    by_cases hij : i = j
    · subst hij
      have c := swapRange_is k aE zE enc g cb blk off cap (m - i) m i d0 dk w0 wr R (by omega) S1.out (by omega) (by omega) (by omega)
      rw [hds] at c
      go_wp2_with (first | (go_at_fn 144; (with_reducible refine c.mono ?_); rintro e w2 ⟨rfl, d2, S2, hP, hG⟩))
      go_end0
      exact ⟨rfl, d2, S2, permIn_trans _ _ _ _ _ HP.out (permIn_mono _ _ _ _ _ _ (by omega) (by omega) (by omega) hP), HG.out d2 fun x => by rw [hG, rot_last (by omega)]⟩
    · have hne : ((i : Int) != (j : Int)) = true := by simp; omega
      by_cases hgt : j < i
      · have hgz : (j : Int) < (i : Int) := by omega
        have c := swapRange_is k aE zE enc g cb blk off cap (m - i) m j d0 dk w0 wr R (by omega) S1.out (by omega) (by omega) (by omega)
        rw [hds] at c
        go_wp2_with (first | (go_at_fn 144; (with_reducible refine c.mono ?_); rintro e w2 ⟨rfl, d2, S2, hP, hG⟩))
        go_roundg (i - j + j)
        case measure => omega
        case rel => exact ⟨i - j, j, d2, by go_num, rfl, by omega, hj0, by omega, hjb, Nat.le_refl _, by rw [hP.1]; exact hds, S2, permIn_trans _ _ _ _ _ HP.out (permIn_mono _ _ _ _ _ _ (by omega) (by omega) (by omega) hP), fun z h => HG.out z fun x => by rw [h x, hG, rot_left (by omega) hgt hj0]⟩
      · have hgz : ¬ (j : Int) < (i : Int) := by omega
        have wmj : ((m : Int) + (j : Int) - (i : Int)) = ((m + j - i : Nat) : Int) := by omega
        have c := swapRange_is k aE zE enc g cb blk off cap (m - i) (m + j - i) i d0 dk w0 wr R (by omega) S1.out (by omega) (by omega) (by omega)
        have rmj : IntKind.i64.wrap ((m : Int) + (j : Int)) = (m : Int) + (j : Int) := by rw [IntKind.wrap_i64]; omega
        have rmj2 : IntKind.i64.wrap ((m : Int) + (j : Int) - (i : Int)) = (m : Int) + (j : Int) - (i : Int) := by rw [IntKind.wrap_i64]; omega
        rw [hds] at c
        go_wp2_with (first | (go_at_fn 144; (with_reducible refine c.mono ?_); rintro e w2 ⟨rfl, d2, S2, hP, hG⟩))
        go_roundg (i + (j - i))
        case measure => omega
        case rel => exact ⟨i, j - i, d2, rfl, by go_num, hi0, by omega, him, by omega, Nat.le_refl _, by rw [hP.1]; exact hds, S2, permIn_trans _ _ _ _ _ HP.out (permIn_mono _ _ _ _ _ _ (by omega) (by omega) (by omega) hP), fun z h => HG.out z fun x => by rw [h x, hG, rot_right (by omega) (by omega) hi0]⟩
end Go.Proofs.YtpkjpiphjdpegaaDoor.Z
namespace Go.Proofs.YtpkjpiphjdpegaaDoor.Z
open Go.Shelf Go.RowKit Go.Lib Go.Sort Go.Proofs
set_option linter.unusedVariables false
set_option linter.unusedSimpArgs false
variable {α : Type} [Inhabited α]

set_option maxHeartbeats 16000000 in
set_option maxRecDepth 1000000 in
theorem symMerge_left (k : Nat) (aE : ∀ w, (isAgg 44).run Tryd.prog w = .ok true w) (zE : ∀ w, (Go.sizeOf 44).run Tryd.prog w = .ok k w) (enc : α → List Value) (cf : α → α → Int) (Rr : α → α → Prop) (g : Nat) (cb : Array Value) (blk off cap : Nat) (d0 : Array α) (w0 : World)
    (R : RowK enc k w0 blk off d0) (hcmp : CmpLays Tryd.prog g cb enc k cf blk off d0.size w0) (eg : ∀ args w, (callFunc g args).run Tryd.prog w = .ok (.enter g args) w) (hT : ∀ x y z, Rr x y → Rr y z → Rr x z) (hsz : d0.size < 4611686018427387904) (a m b : Nat) (d : Array α) (w : World) (ham : a < m) (hmb : m < b) (hb : b ≤ d.size) (hds0 : d.size = d0.size) (hL : Asc Rr a m d) (hR : Asc Rr m b d) (hC : Cross cf Rr a m b d) (S : SWK enc k w0 blk off d w) (c1 : m - a = 1) :
    Calls Tryd.prog 123 #[.slice (some ⟨blk, off, none⟩) d0.size cap, .int .i64 a, .int .i64 m, .int .i64 b, .func (.func g) #[] cb] w fun e w' => e = .returned (.tuple #[]) ∧ ∃ d', SWK enc k w0 blk off d' w' ∧ PermIn a b d d' ∧ Asc Rr a b d' := by
  have HC : Aside _ := hcmp
  have HL : Hid (Asc Rr a m d) := hL
  have HR : Hid (Asc Rr m b d) := hR
  have HX : Hid (Cross cf Rr a m b d) := hC
  have HT : Hid _ := hT
  clear hcmp hL hR hC hT
  have S0 : Aside (SWK enc k w0 blk off d w) := S
  clear S
  have e1 : ∀ args w, (callFunc 134 args).run Tryd.prog w = .ok (.enter 134 args) w := enters_of Tryd.func134 (by kernel_rfl) rfl
  have e2 : ∀ args w, (callFunc 123 args).run Tryd.prog w = .ok (.enter 123 args) w := enters_of Tryd.func123 (by kernel_rfl) rfl
  have mixed : Tryd.prog.follows .mixedOrders = true := by kernel_rfl
  rw [← hds0] at hsz ⊢
  have hd0 : d0.size = d.size := hds0.symm
  clear hds0
  have z1 : ((m : Int) - (a : Int) == 1) = true := by simp; omega
  go_enter Tryd.func123, Tryd.ntmps123
  go_wp2_with fail
  go_loopg [10, 11] (b - m) (fun kx s10 s11 wr => ∃ (i j : Nat), s10 = .int .i64 i ∧ s11 = .int .i64 j ∧ m ≤ i ∧ i ≤ j ∧ j ≤ b ∧ j - i ≤ kx ∧ Aside (SWK enc k w0 blk off d wr) ∧ Hid ((m < i → cf d[i - 1]! d[a]! < 0) ∧ (j < b → ¬ cf d[j]! d[a]! < 0)))
  case atStart => exact ⟨m, b, rfl, rfl, Nat.le_refl _, by omega, Nat.le_refl _, Nat.le_refl _, S0, ⟨fun h => absurd h (Nat.lt_irrefl _), fun h => absurd h (Nat.lt_irrefl _)⟩⟩
  case round =>
    clear S0
    obtain ⟨i, j, rfl, rfl, hi0, hij, hj0, hkx, S1, HI⟩ := hrel
    by_cases hlt : i < j
    · have hltz : (i : Int) < (j : Int) := by omega
      have hh1 : i ≤ (i + j) / 2 := by omega
      have hh2 : (i + j) / 2 < j := by omega
      by_cases HV : cf d[(i + j) / 2]! d[a]! < 0
      · have ea1 : (((i : Int) + (j : Int)) / 2).toNat = (i + j) / 2 := by omega
        have pa1 : (0 : Int) ≤ ((i : Int) + (j : Int)) / 2 := by omega
        have ba1 : ((i : Int) + (j : Int)) / 2 < (d.size : Int) := by omega
        have ra1 : IntKind.i64.wrap (((i : Int) + (j : Int)) / 2) = ((i : Int) + (j : Int)) / 2 := by rw [IntKind.wrap_i64]; omega
        have ec1 : ((a : Int)).toNat = a := by omega
        have pc1 : (0 : Int) ≤ (a : Int) := by omega
        have bc1 : (a : Int) < (d.size : Int) := by omega
        have rc1 : IntKind.i64.wrap ((a : Int)) = (a : Int) := by rw [IntKind.wrap_i64]; omega
        obtain ⟨x1, hx1⟩ : ∃ x, x = d[(i + j) / 2]! := ⟨_, rfl⟩
        obtain ⟨y1, hy1⟩ : ∃ x, x = d[a]! := ⟨_, rfl⟩
        have l1a := S1.out.ld R (by omega) Tryd.prog ((i + j) / 2) (by omega)
        have l1b := S1.out.ld R (by omega) Tryd.prog (a) (by omega)
        rw [← hx1] at l1a
        rw [← hy1] at l1b
        have hc1 := S1.out.cmp HC.out (by omega) x1 y1
        have hv1 : cf x1 y1 < 0 := by rw [hx1, hy1]; exact HV
        have hd1 : decide (cf x1 y1 < 0) = true := decide_eq_true hv1
        clear hx1 hy1
        go_wp2_with fail
        go_quiet_grown (first | (go_at_fn g; refine Calls.grown_of (hc1 _ _)))
        have S2 : Aside (SWK enc k w0 blk off d (grow (wr.drewN nq) osq)) := S1.out.grown nq osq
        clear l1a l1b hc1 S1
        generalize grow (wr.drewN nq) osq = w2 at S2 ⊢
        clear nq osq
        go_wp2
        go_roundg (j - ((i + j) / 2 + 1))
        case measure => omega
        case rel => exact ⟨(i + j) / 2 + 1, j, by go_num, rfl, by omega, by omega, hj0, Nat.le_refl _, S2, ⟨fun _ => by rw [Nat.add_sub_cancel]; omega, fun h => by have := HI.out.2 h; omega⟩⟩
      · have ea1 : (((i : Int) + (j : Int)) / 2).toNat = (i + j) / 2 := by omega
        have pa1 : (0 : Int) ≤ ((i : Int) + (j : Int)) / 2 := by omega
        have ba1 : ((i : Int) + (j : Int)) / 2 < (d.size : Int) := by omega
        have ra1 : IntKind.i64.wrap (((i : Int) + (j : Int)) / 2) = ((i : Int) + (j : Int)) / 2 := by rw [IntKind.wrap_i64]; omega
        have ec1 : ((a : Int)).toNat = a := by omega
        have pc1 : (0 : Int) ≤ (a : Int) := by omega
        have bc1 : (a : Int) < (d.size : Int) := by omega
        have rc1 : IntKind.i64.wrap ((a : Int)) = (a : Int) := by rw [IntKind.wrap_i64]; omega
        obtain ⟨x1, hx1⟩ : ∃ x, x = d[(i + j) / 2]! := ⟨_, rfl⟩
        obtain ⟨y1, hy1⟩ : ∃ x, x = d[a]! := ⟨_, rfl⟩
        have l1a := S1.out.ld R (by omega) Tryd.prog ((i + j) / 2) (by omega)
        have l1b := S1.out.ld R (by omega) Tryd.prog (a) (by omega)
        rw [← hx1] at l1a
        rw [← hy1] at l1b
        have hc1 := S1.out.cmp HC.out (by omega) x1 y1
        have hv1 : ¬ cf x1 y1 < 0 := by rw [hx1, hy1]; exact HV
        have hd1 : decide (cf x1 y1 < 0) = false := decide_eq_false hv1
        clear hx1 hy1
        go_wp2_with fail
        go_quiet_grown (first | (go_at_fn g; refine Calls.grown_of (hc1 _ _)))
        have S2 : Aside (SWK enc k w0 blk off d (grow (wr.drewN nq) osq)) := S1.out.grown nq osq
        clear l1a l1b hc1 S1
        generalize grow (wr.drewN nq) osq = w2 at S2 ⊢
        clear nq osq
        go_wp2
        go_roundg ((i + j) / 2 - i)
        case measure => omega
        case rel => exact ⟨i, (i + j) / 2, rfl, by go_num, hi0, by omega, by omega, Nat.le_refl _, S2, ⟨fun h => by have := HI.out.1 h; omega, fun _ => by omega⟩⟩
    · have hltz : ¬ (i : Int) < (j : Int) := by omega
      obtain rfl : i = j := by omega
      go_wp2_with fail
      go_loopg [13] (i - 1 - a) (fun kx s13 wr => ∃ (q : Nat) (dk : Array α), s13 = .int .i64 q ∧ a ≤ q ∧ q ≤ i - 1 ∧ i - 1 - q ≤ kx ∧ dk.size = d.size ∧ Aside (SWK enc k w0 blk off dk wr) ∧ Hid (PermIn a b d dk) ∧ Hid (∀ x, dk[x]! = d[turned a (a + 1) (q + 1) x]!))
      case atStart => exact ⟨a, d, rfl, Nat.le_refl _, by omega, Nat.le_refl _, rfl, S1, permIn_refl _ _ _, fun x => by rw [shift_up_start]⟩
      case round =>
        clear S1
        obtain ⟨q, dk, rfl, hq0, hq1, hqk, hds, S3, HP, HG⟩ := hrel
        by_cases hq : q < i - 1
        · have hqz : (q : Int) < (i : Int) - 1 := by omega
          have ea3 : ((q : Int)).toNat = q := by omega
          have pa3 : (0 : Int) ≤ (q : Int) := by omega
          have ba3 : (q : Int) < (d.size : Int) := by omega
          have ra3 : IntKind.i64.wrap ((q : Int)) = (q : Int) := by rw [IntKind.wrap_i64]; omega
          have ec3 : ((q : Int) + 1).toNat = q + 1 := by omega
          have pc3 : (0 : Int) ≤ (q : Int) + 1 := by omega
          have bc3 : (q : Int) + 1 < (d.size : Int) := by omega
          have rc3 : IntKind.i64.wrap ((q : Int) + 1) = (q : Int) + 1 := by rw [IntKind.wrap_i64]; omega
          have S4 : Aside (SWK enc k w0 blk off (swp dk (q) (q + 1)) ((wr.drew.setCells blk (off + (q) * k) (enc dk[q + 1]!)).setCells blk (off + (q + 1) * k) (enc dk[q]!))) := S3.out.swapped R (q) (q + 1) (by omega) (by omega)
          have l3a := S3.out.ld1 R (by omega) Tryd.prog (q) (by omega)
          have l3b := S3.out.ld1 R (by omega) Tryd.prog (q + 1) (by omega)
          have s3a := S3.out.st1 R (by omega) Tryd.prog (q) (by omega) dk[q + 1]!
          have s3b := S3.out.st2 R (by omega) Tryd.prog (q) (q + 1) (by omega) (by omega) dk[q + 1]! dk[q]!
          have n3a : (enc dk[q]!).length = k := R.hk _
          have n3b : (enc dk[q + 1]!).length = k := R.hk _
          generalize enc dk[q]! = cI3 at S4 l3a s3b n3a
          generalize enc dk[q + 1]! = cJ3 at S4 l3b s3a s3b n3b
          clear S3
          go_wp2_with fail
          go_big_region_o
          clear l3a l3b s3a s3b
          generalize (wr.drew.setCells blk (off + (q) * k) cJ3).setCells blk (off + (q + 1) * k) cI3 = w4 at S4 ⊢
          go_wp2
          go_roundg (i - 1 - (q + 1))
          case measure => omega
          case rel => exact ⟨q + 1, swp dk q (q + 1), by go_num, by omega, by omega, Nat.le_refl _, by rw [size_swp]; exact hds, S4, permIn_trans _ _ _ _ _ HP.out (swp_permIn dk a b q (q + 1) (by omega) (by omega) (by omega) (by omega) (by omega)), fun x => by rw [swp_is dk (by omega) (by omega), HG.out, shift_up (by omega)]⟩
        · have hqz : ¬ (q : Int) < (i : Int) - 1 := by omega
          obtain rfl : q = i - 1 := by omega
          go_wp2
          (try simp only [Exit.inBlock, Exit.then]); refine bodyPost_ret (results_none rfl _ _ _) rfl ?_
          have HG' : ∀ x, dk[x]! = d[turned a (a + 1) i x]! := fun x => by have := HG.out x; rwa [show i - 1 + 1 = i by omega] at this
          refine ⟨rfl, dk, S3.out, HP.out, one_left HT.out (by omega) hj0 HG' (by have := HR.out; rwa [show m = a + 1 by omega] at this) (fun h => ?_) (fun h => ?_)⟩
          · exact (HX.out a (i - 1) (Nat.le_refl _) ham (by omega) (by omega)).1 (by have := HI.out.1 (by omega); omega)
          · exact (HX.out a i (Nat.le_refl _) ham hi0 h).2 (by have := HI.out.2 h; omega)
end Go.Proofs.YtpkjpiphjdpegaaDoor.Z
namespace Go.Proofs.YtpkjpiphjdpegaaDoor.Z
open Go.Shelf Go.RowKit Go.Lib Go.Sort Go.Proofs
set_option linter.unusedVariables false
set_option linter.unusedSimpArgs false
variable {α : Type} [Inhabited α]

set_option maxHeartbeats 16000000 in
set_option maxRecDepth 1000000 in
theorem symMerge_right (k : Nat) (aE : ∀ w, (isAgg 44).run Tryd.prog w = .ok true w) (zE : ∀ w, (Go.sizeOf 44).run Tryd.prog w = .ok k w) (enc : α → List Value) (cf : α → α → Int) (Rr : α → α → Prop) (g : Nat) (cb : Array Value) (blk off cap : Nat) (d0 : Array α) (w0 : World)
    (R : RowK enc k w0 blk off d0) (hcmp : CmpLays Tryd.prog g cb enc k cf blk off d0.size w0) (eg : ∀ args w, (callFunc g args).run Tryd.prog w = .ok (.enter g args) w) (hT : ∀ x y z, Rr x y → Rr y z → Rr x z) (hsz : d0.size < 4611686018427387904) (a m b : Nat) (d : Array α) (w : World) (ham : a < m) (hmb : m < b) (hb : b ≤ d.size) (hds0 : d.size = d0.size) (hL : Asc Rr a m d) (hR : Asc Rr m b d) (hC : Cross cf Rr a m b d) (S : SWK enc k w0 blk off d w) (c1 : ¬ m - a = 1) (c2 : b - m = 1) :
    Calls Tryd.prog 123 #[.slice (some ⟨blk, off, none⟩) d0.size cap, .int .i64 a, .int .i64 m, .int .i64 b, .func (.func g) #[] cb] w fun e w' => e = .returned (.tuple #[]) ∧ ∃ d', SWK enc k w0 blk off d' w' ∧ PermIn a b d d' ∧ Asc Rr a b d' := by
  have HC : Aside _ := hcmp
  have HL : Hid (Asc Rr a m d) := hL
  have HR : Hid (Asc Rr m b d) := hR
  have HX : Hid (Cross cf Rr a m b d) := hC
  have HT : Hid _ := hT
  clear hcmp hL hR hC hT
  have S0 : Aside (SWK enc k w0 blk off d w) := S
  clear S
  have e1 : ∀ args w, (callFunc 134 args).run Tryd.prog w = .ok (.enter 134 args) w := enters_of Tryd.func134 (by kernel_rfl) rfl
  have e2 : ∀ args w, (callFunc 123 args).run Tryd.prog w = .ok (.enter 123 args) w := enters_of Tryd.func123 (by kernel_rfl) rfl
  have mixed : Tryd.prog.follows .mixedOrders = true := by kernel_rfl
  rw [← hds0] at hsz ⊢
  have hd0 : d0.size = d.size := hds0.symm
  clear hds0
  have z1 : ((m : Int) - (a : Int) == 1) = false := by simp; omega
  have z2 : ((b : Int) - (m : Int) == 1) = true := by simp; omega
  go_enter Tryd.func123, Tryd.ntmps123
  go_wp2_with fail
  go_loopg [14, 15] (m - a) (fun kx s10 s11 wr => ∃ (i j : Nat), s10 = .int .i64 i ∧ s11 = .int .i64 j ∧ a ≤ i ∧ i ≤ j ∧ j ≤ m ∧ j - i ≤ kx ∧ Aside (SWK enc k w0 blk off d wr) ∧ Hid ((a < i → ¬ cf d[m]! d[i - 1]! < 0) ∧ (j < m → cf d[m]! d[j]! < 0)))
  case atStart => exact ⟨a, m, rfl, rfl, Nat.le_refl _, by omega, Nat.le_refl _, Nat.le_refl _, S0, ⟨fun h => absurd h (Nat.lt_irrefl _), fun h => absurd h (Nat.lt_irrefl _)⟩⟩
  case round =>
    clear S0
    obtain ⟨i, j, rfl, rfl, hi0, hij, hj0, hkx, S1, HI⟩ := hrel
    by_cases hlt : i < j
    · have hltz : (i : Int) < (j : Int) := by omega
      have hh1 : i ≤ (i + j) / 2 := by omega
      have hh2 : (i + j) / 2 < j := by omega
      by_cases HV : cf d[m]! d[(i + j) / 2]! < 0
      · have ea1 : ((m : Int)).toNat = m := by omega
        have pa1 : (0 : Int) ≤ (m : Int) := by omega
        have ba1 : (m : Int) < (d.size : Int) := by omega
        have ra1 : IntKind.i64.wrap ((m : Int)) = (m : Int) := by rw [IntKind.wrap_i64]; omega
        have ec1 : (((i : Int) + (j : Int)) / 2).toNat = (i + j) / 2 := by omega
        have pc1 : (0 : Int) ≤ ((i : Int) + (j : Int)) / 2 := by omega
        have bc1 : ((i : Int) + (j : Int)) / 2 < (d.size : Int) := by omega
        have rc1 : IntKind.i64.wrap (((i : Int) + (j : Int)) / 2) = ((i : Int) + (j : Int)) / 2 := by rw [IntKind.wrap_i64]; omega
        obtain ⟨x1, hx1⟩ : ∃ x, x = d[m]! := ⟨_, rfl⟩
        obtain ⟨y1, hy1⟩ : ∃ x, x = d[(i + j) / 2]! := ⟨_, rfl⟩
        have l1a := S1.out.ld R (by omega) Tryd.prog (m) (by omega)
        have l1b := S1.out.ld R (by omega) Tryd.prog ((i + j) / 2) (by omega)
        rw [← hx1] at l1a
        rw [← hy1] at l1b
        have hc1 := S1.out.cmp HC.out (by omega) x1 y1
        have hv1 : cf x1 y1 < 0 := by rw [hx1, hy1]; exact HV
        have hd1 : decide (cf x1 y1 < 0) = true := decide_eq_true hv1
        clear hx1 hy1
        go_wp2_with fail
        go_quiet_grown (first | (go_at_fn g; refine Calls.grown_of (hc1 _ _)))
        have S2 : Aside (SWK enc k w0 blk off d (grow (wr.drewN nq) osq)) := S1.out.grown nq osq
        clear l1a l1b hc1 S1
        generalize grow (wr.drewN nq) osq = w2 at S2 ⊢
        clear nq osq
        go_wp2
        go_roundg ((i + j) / 2 - i)
        case measure => omega
        case rel => exact ⟨i, (i + j) / 2, rfl, by go_num, hi0, by omega, by omega, Nat.le_refl _, S2, ⟨fun h => by have := HI.out.1 h; omega, fun _ => by omega⟩⟩
      · have ea1 : ((m : Int)).toNat = m := by omega
        have pa1 : (0 : Int) ≤ (m : Int) := by omega
        have ba1 : (m : Int) < (d.size : Int) := by omega
        have ra1 : IntKind.i64.wrap ((m : Int)) = (m : Int) := by rw [IntKind.wrap_i64]; omega
        have ec1 : (((i : Int) + (j : Int)) / 2).toNat = (i + j) / 2 := by omega
        have pc1 : (0 : Int) ≤ ((i : Int) + (j : Int)) / 2 := by omega
        have bc1 : ((i : Int) + (j : Int)) / 2 < (d.size : Int) := by omega
        have rc1 : IntKind.i64.wrap (((i : Int) + (j : Int)) / 2) = ((i : Int) + (j : Int)) / 2 := by rw [IntKind.wrap_i64]; omega
        obtain ⟨x1, hx1⟩ : ∃ x, x = d[m]! := ⟨_, rfl⟩
        obtain ⟨y1, hy1⟩ : ∃ x, x = d[(i + j) / 2]! := ⟨_, rfl⟩
        have l1a := S1.out.ld R (by omega) Tryd.prog (m) (by omega)
        have l1b := S1.out.ld R (by omega) Tryd.prog ((i + j) / 2) (by omega)
        rw [← hx1] at l1a
        rw [← hy1] at l1b
        have hc1 := S1.out.cmp HC.out (by omega) x1 y1
        have hv1 : ¬ cf x1 y1 < 0 := by rw [hx1, hy1]; exact HV
        have hd1 : decide (cf x1 y1 < 0) = false := decide_eq_false hv1
        clear hx1 hy1
        go_wp2_with fail
        go_quiet_grown (first | (go_at_fn g; refine Calls.grown_of (hc1 _ _)))
        have S2 : Aside (SWK enc k w0 blk off d (grow (wr.drewN nq) osq)) := S1.out.grown nq osq
        clear l1a l1b hc1 S1
        generalize grow (wr.drewN nq) osq = w2 at S2 ⊢
        clear nq osq
        go_wp2
        go_roundg (j - ((i + j) / 2 + 1))
        case measure => omega
        case rel => exact ⟨(i + j) / 2 + 1, j, by go_num, rfl, by omega, by omega, hj0, Nat.le_refl _, S2, ⟨fun _ => by rw [Nat.add_sub_cancel]; omega, fun h => by have := HI.out.2 h; omega⟩⟩
    · have hltz : ¬ (i : Int) < (j : Int) := by omega
      obtain rfl : i = j := by omega
      go_wp2_with fail
      go_loopg [17] (m - i) (fun kx s17 wr => ∃ (q : Nat) (dk : Array α), s17 = .int .i64 q ∧ i ≤ q ∧ q ≤ m ∧ q - i ≤ kx ∧ dk.size = d.size ∧ Aside (SWK enc k w0 blk off dk wr) ∧ Hid (PermIn a b d dk) ∧ Hid (∀ x, dk[x]! = d[turned q m (m + 1) x]!))
      case atStart => exact ⟨m, d, rfl, hj0, Nat.le_refl _, Nat.le_refl _, rfl, S1, permIn_refl _ _ _, fun x => by rw [shift_down_start]⟩
      case round =>
        clear S1
        obtain ⟨q, dk, rfl, hq0, hq1, hqk, hds, S3, HP, HG⟩ := hrel
        by_cases hq : i < q
        · have hqz : (i : Int) < (q : Int) := by omega
          have ea3 : ((q : Int)).toNat = q := by omega
          have pa3 : (0 : Int) ≤ (q : Int) := by omega
          have ba3 : (q : Int) < (d.size : Int) := by omega
          have ra3 : IntKind.i64.wrap ((q : Int)) = (q : Int) := by rw [IntKind.wrap_i64]; omega
          have ec3 : ((q : Int) - 1).toNat = q - 1 := by omega
          have pc3 : (0 : Int) ≤ (q : Int) - 1 := by omega
          have bc3 : (q : Int) - 1 < (d.size : Int) := by omega
          have rc3 : IntKind.i64.wrap ((q : Int) - 1) = (q : Int) - 1 := by rw [IntKind.wrap_i64]; omega
          have S4 : Aside (SWK enc k w0 blk off (swp dk (q) (q - 1)) ((wr.drew.setCells blk (off + (q) * k) (enc dk[q - 1]!)).setCells blk (off + (q - 1) * k) (enc dk[q]!))) := S3.out.swapped R (q) (q - 1) (by omega) (by omega)
          have l3a := S3.out.ld1 R (by omega) Tryd.prog (q) (by omega)
          have l3b := S3.out.ld1 R (by omega) Tryd.prog (q - 1) (by omega)
          have s3a := S3.out.st1 R (by omega) Tryd.prog (q) (by omega) dk[q - 1]!
          have s3b := S3.out.st2 R (by omega) Tryd.prog (q) (q - 1) (by omega) (by omega) dk[q - 1]! dk[q]!
          have n3a : (enc dk[q]!).length = k := R.hk _
          have n3b : (enc dk[q - 1]!).length = k := R.hk _
          generalize enc dk[q]! = cI3 at S4 l3a s3b n3a
          generalize enc dk[q - 1]! = cJ3 at S4 l3b s3a s3b n3b
          clear S3
          go_wp2_with fail
          go_big_region_o
          clear l3a l3b s3a s3b
          generalize (wr.drew.setCells blk (off + (q) * k) cJ3).setCells blk (off + (q - 1) * k) cI3 = w4 at S4 ⊢
          go_wp2
          go_roundg (q - 1 - i)
          case measure => omega
          case rel => exact ⟨q - 1, swp dk q (q - 1), by go_num, by omega, by omega, Nat.le_refl _, by rw [size_swp]; exact hds, S4, permIn_trans _ _ _ _ _ HP.out (swp_permIn dk a b q (q - 1) (by omega) (by omega) (by omega) (by omega) (by omega)), fun x => by rw [swp_is dk (by omega) (by omega), HG.out]; have := shift_down (k := q - 1) (m := m) (by omega) x; rw [show q - 1 + 1 = q by omega] at this; rw [this]⟩
        · have hqz : ¬ (i : Int) < (q : Int) := by omega
          obtain rfl : q = i := by omega
          go_wp2
          (try simp only [Exit.inBlock, Exit.then]); refine bodyPost_ret (results_none rfl _ _ _) rfl ?_
          obtain rfl : b = m + 1 := by omega
          refine ⟨rfl, dk, S3.out, HP.out, one_right HT.out hi0 hj0 HG.out HL.out (fun h => ?_) (fun h => ?_)⟩
          · exact (HX.out (q - 1) m (by omega) (by omega) (Nat.le_refl _) (by omega)).2 (by have := HI.out.1 h; omega)
          · exact (HX.out q m hi0 h (Nat.le_refl _) (by omega)).1 (by have := HI.out.2 h; omega)
end Go.Proofs.YtpkjpiphjdpegaaDoor.Z
namespace Go.Proofs.YtpkjpiphjdpegaaDoor.Z
open Go.Shelf Go.RowKit Go.Lib Go.Sort Go.Proofs
set_option linter.unusedVariables false
set_option linter.unusedSimpArgs false
variable {α : Type} [Inhabited α]

set_option maxHeartbeats 16000000 in
set_option maxRecDepth 1000000 in
theorem symMerge_coreL (k : Nat) (aE : ∀ w, (isAgg 44).run Tryd.prog w = .ok true w) (zE : ∀ w, (Go.sizeOf 44).run Tryd.prog w = .ok k w) (enc : α → List Value) (cf : α → α → Int) (Rr : α → α → Prop) (g : Nat) (cb : Array Value) (blk off cap : Nat) (d0 : Array α) (w0 : World)
    (R : RowK enc k w0 blk off d0) (hcmp : CmpLays Tryd.prog g cb enc k cf blk off d0.size w0) (eg : ∀ args w, (callFunc g args).run Tryd.prog w = .ok (.enter g args) w) (hT : ∀ x y z, Rr x y → Rr y z → Rr x z) (hsz : d0.size < 4611686018427387904) (N : Nat) (IH0 : ∀ (a m b : Nat) (d : Array α) (w : World), b - a ≤ N → a < m → m < b → b ≤ d.size → d.size = d0.size → Asc Rr a m d → Asc Rr m b d → Cross cf Rr a m b d → SWK enc k w0 blk off d w → Calls Tryd.prog 123 #[.slice (some ⟨blk, off, none⟩) d0.size cap, .int .i64 a, .int .i64 m, .int .i64 b, .func (.func g) #[] cb] w fun e w' => e = .returned (.tuple #[]) ∧ ∃ d', SWK enc k w0 blk off d' w' ∧ PermIn a b d d' ∧ Asc Rr a b d')
    (a m b : Nat) (d : Array α) (w : World) (ham : a < m) (hmb : m < b) (hb : b ≤ d.size) (hds0 : d.size = d0.size) (hL : Asc Rr a m d) (hR : Asc Rr m b d) (hC : Cross cf Rr a m b d) (S : SWK enc k w0 blk off d w) (hN : b - a ≤ N + 1) (c1 : ¬ m - a = 1) (c2 : ¬ b - m = 1) (mid : Nat) (hmid : mid = (a + b) / 2) (c3 : mid < m) :
    Calls Tryd.prog 123 #[.slice (some ⟨blk, off, none⟩) d0.size cap, .int .i64 a, .int .i64 m, .int .i64 b, .func (.func g) #[] cb] w fun e w' => e = .returned (.tuple #[]) ∧ ∃ d', SWK enc k w0 blk off d' w' ∧ PermIn a b d d' ∧ Asc Rr a b d' := by
  have HC : Aside _ := hcmp
  have HL : Hid (Asc Rr a m d) := hL
  have HR : Hid (Asc Rr m b d) := hR
  have HX : Hid (Cross cf Rr a m b d) := hC
  have HT : Hid _ := hT
  clear hcmp hL hR hC hT
  have S0 : Aside (SWK enc k w0 blk off d w) := S
  clear S
  have e1 : ∀ args w, (callFunc 134 args).run Tryd.prog w = .ok (.enter 134 args) w := enters_of Tryd.func134 (by kernel_rfl) rfl
  have e2 : ∀ args w, (callFunc 123 args).run Tryd.prog w = .ok (.enter 123 args) w := enters_of Tryd.func123 (by kernel_rfl) rfl
  have mixed : Tryd.prog.follows .mixedOrders = true := by kernel_rfl
  rw [← hds0] at hsz IH0 ⊢
  have IH : Aside _ := IH0
  clear IH0
  have hd0 : d0.size = d.size := hds0.symm
  clear hds0
  have z1 : ((m : Int) - (a : Int) == 1) = false := by simp; omega
  have z2 : ((b : Int) - (m : Int) == 1) = false := by simp; omega
  have zmid : ((a : Int) + (b : Int)) / 2 = (mid : Int) := by omega
  clear hmid
  have zc : (mid : Int) < (m : Int) := by omega
  have wn : IntKind.i64.wrap ((mid : Int) + (m : Int)) = (mid : Int) + (m : Int) := by rw [IntKind.wrap_i64]; omega
  have wp : IntKind.i64.wrap ((mid : Int) + (m : Int) - 1) = (mid : Int) + (m : Int) - 1 := by rw [IntKind.wrap_i64]; omega
  have ws : IntKind.i64.wrap ((mid : Int) + (m : Int) - (b : Int)) = (mid : Int) + (m : Int) - (b : Int) := by rw [IntKind.wrap_i64]; omega
  go_enter Tryd.func123, Tryd.ntmps123
  go_wp2_with fail
  go_loopg [20, 21] (mid - (mid + m - b)) (fun kx s20 s21 wr => ∃ (s r : Nat), s20 = .int .i64 s ∧ s21 = .int .i64 r ∧ (mid + m - b) ≤ s ∧ s ≤ r ∧ r ≤ mid ∧ r - s ≤ kx ∧ Aside (SWK enc k w0 blk off d wr) ∧ Hid (((mid + m - b) < s → ¬ cf d[mid + m - s]! d[s - 1]! < 0) ∧ (r < mid → cf d[mid + m - 1 - r]! d[r]! < 0)))
  case atStart => exact ⟨(mid + m - b), mid, by go_num, by go_num, Nat.le_refl _, by omega, Nat.le_refl _, Nat.le_refl _, S0, ⟨fun h => absurd h (Nat.lt_irrefl _), fun h => absurd h (Nat.lt_irrefl _)⟩⟩
  case round =>
    clear S0
    obtain ⟨s, r, rfl, rfl, hs0, hsr, hr0, hkx, S1, HI⟩ := hrel
    by_cases hlt : s < r
    · have hltz : (s : Int) < (r : Int) := by omega
      obtain ⟨c, hc⟩ : ∃ c, c = (s + r) / 2 := ⟨_, rfl⟩
      obtain ⟨q, hq⟩ : ∃ q, q = mid + m - 1 - c := ⟨_, rfl⟩
      have zcc : ((s : Int) + (r : Int)) / 2 = (c : Int) := by omega
      have zq : (mid : Int) + (m : Int) - 1 - (c : Int) = (q : Int) := by omega
      clear hc hq
      have wq : IntKind.i64.wrap ((mid : Int) + (m : Int) - 1 - (c : Int)) = (mid : Int) + (m : Int) - 1 - (c : Int) := by rw [IntKind.wrap_i64]; omega
      by_cases HV : cf d[q]! d[c]! < 0
      · have ea1 : ((q : Int)).toNat = q := by omega
        have pa1 : (0 : Int) ≤ (q : Int) := by omega
        have ba1 : (q : Int) < (d.size : Int) := by omega
        have ra1 : IntKind.i64.wrap ((q : Int)) = (q : Int) := by rw [IntKind.wrap_i64]; omega
        have ec1 : ((c : Int)).toNat = c := by omega
        have pc1 : (0 : Int) ≤ (c : Int) := by omega
        have bc1 : (c : Int) < (d.size : Int) := by omega
        have rc1 : IntKind.i64.wrap ((c : Int)) = (c : Int) := by rw [IntKind.wrap_i64]; omega
        obtain ⟨x1, hx1⟩ : ∃ x, x = d[q]! := ⟨_, rfl⟩
        obtain ⟨y1, hy1⟩ : ∃ x, x = d[c]! := ⟨_, rfl⟩
        have l1a := S1.out.ld R (by omega) Tryd.prog (q) (by omega)
        have l1b := S1.out.ld R (by omega) Tryd.prog (c) (by omega)
        rw [← hx1] at l1a
        rw [← hy1] at l1b
        have hc1 := S1.out.cmp HC.out (by omega) x1 y1
        have hv1 : cf x1 y1 < 0 := by rw [hx1, hy1]; exact HV
        have hd1 : decide (cf x1 y1 < 0) = true := decide_eq_true hv1
        clear hx1 hy1
        go_wp2_with fail
        go_quiet_grown (first | (go_at_fn g; refine Calls.grown_of (hc1 _ _)))
        have S2 : Aside (SWK enc k w0 blk off d (grow (wr.drewN nq) osq)) := S1.out.grown nq osq
        clear l1a l1b hc1 S1
        generalize grow (wr.drewN nq) osq = w2 at S2 ⊢
        clear nq osq
        go_wp2
        go_roundg (c - s)
        case measure => omega
        case rel => exact ⟨s, c, rfl, by go_num, hs0, by omega, by omega, Nat.le_refl _, S2, ⟨fun h => by have := HI.out.1 h; omega, fun _ => by rw [show mid + m - 1 - c = q by omega]; omega⟩⟩
      · have ea1 : ((q : Int)).toNat = q := by omega
        have pa1 : (0 : Int) ≤ (q : Int) := by omega
        have ba1 : (q : Int) < (d.size : Int) := by omega
        have ra1 : IntKind.i64.wrap ((q : Int)) = (q : Int) := by rw [IntKind.wrap_i64]; omega
        have ec1 : ((c : Int)).toNat = c := by omega
        have pc1 : (0 : Int) ≤ (c : Int) := by omega
        have bc1 : (c : Int) < (d.size : Int) := by omega
        have rc1 : IntKind.i64.wrap ((c : Int)) = (c : Int) := by rw [IntKind.wrap_i64]; omega
        obtain ⟨x1, hx1⟩ : ∃ x, x = d[q]! := ⟨_, rfl⟩
        obtain ⟨y1, hy1⟩ : ∃ x, x = d[c]! := ⟨_, rfl⟩
        have l1a := S1.out.ld R (by omega) Tryd.prog (q) (by omega)
        have l1b := S1.out.ld R (by omega) Tryd.prog (c) (by omega)
        rw [← hx1] at l1a
        rw [← hy1] at l1b
        have hc1 := S1.out.cmp HC.out (by omega) x1 y1
        have hv1 : ¬ cf x1 y1 < 0 := by rw [hx1, hy1]; exact HV
        have hd1 : decide (cf x1 y1 < 0) = false := decide_eq_false hv1
        clear hx1 hy1
        go_wp2_with fail
        go_quiet_grown (first | (go_at_fn g; refine Calls.grown_of (hc1 _ _)))
        have S2 : Aside (SWK enc k w0 blk off d (grow (wr.drewN nq) osq)) := S1.out.grown nq osq
        clear l1a l1b hc1 S1
        generalize grow (wr.drewN nq) osq = w2 at S2 ⊢
        clear nq osq
        go_wp2
        go_roundg (r - (c + 1))
        case measure => omega
        case rel => exact ⟨c + 1, r, by go_num, rfl, by omega, by omega, hr0, Nat.le_refl _, S2, ⟨fun _ => by rw [show mid + m - (c + 1) = q by omega, Nat.add_sub_cancel]; omega, fun h => by have := HI.out.2 h; omega⟩⟩
    · have hltz : ¬ (s : Int) < (r : Int) := by omega
      obtain rfl : s = r := by omega
      obtain ⟨e, he⟩ : ∃ e, e = mid + m - s := ⟨_, rfl⟩
      have ze : (mid : Int) + (m : Int) - (s : Int) = (e : Int) := by omega
      have we : IntKind.i64.wrap ((mid : Int) + (m : Int) - (s : Int)) = (mid : Int) + (m : Int) - (s : Int) := by rw [IntKind.wrap_i64]; omega
      have hA : Hid (a < s → e < b → Rr d[s - 1]! d[e]!) := fun h h' => (HX.out (s - 1) e (by omega) (by omega) (by omega) h').2 (by have := HI.out.1 (by omega); rw [← he] at this; omega)
      have hB : Hid (s < m → m < e → Rr d[e - 1]! d[s]!) := fun h h' => (HX.out s (e - 1) (by omega) h (by omega) (by omega)).1 (by have := HI.out.2 (by omega); rw [show mid + m - 1 - s = e - 1 by omega] at this; omega)
      clear HI he
      have uA : s < m := by omega
      by_cases uB : s < mid
      · by_cases uC : a < s
        · by_cases uD : e < b
          · have kA : (s : Int) < (m : Int) := by omega
            have kB : (m : Int) < (e : Int) := by omega
            have kC : (a : Int) < (s : Int) := by omega
            have kD : (s : Int) < (mid : Int) := by omega
            have kE : (mid : Int) < (e : Int) := by omega
            have kF : (e : Int) < (b : Int) := by omega
            have r1 := rotate_is k aE zE enc g cb blk off cap s m e d0 d w0 wr R hd0 S1.out (by omega) (by omega) (by omega) hsz
            go_wp2_with (first | (go_at_fn 134; (with_reducible refine r1.mono ?_); rintro x w2 ⟨rfl, d1, S2, hP, hG⟩))
            have S2' : Aside _ := S2
            clear S2
            have G1 : Hid (∀ x, d1[x]! = d[turned s m e x]!) := hG
            have P1 : Hid (PermIn a b d d1) := permIn_mono _ _ _ _ _ _ (by omega) (by omega) (by omega) hP
            have hs1 : d1.size = d.size := hP.1
            clear hG hP r1
            have V1 : Hid (Asc Rr a s d1 ∧ Asc Rr s mid d1 ∧ Asc Rr mid e d1 ∧ Asc Rr e b d1 ∧ ∀ i j, a ≤ i → i < mid → mid ≤ j → j < b → Rr d1[i]! d1[j]!) := halves HT.out (a := a) (s := s) (m := m) (e := e) (b := b) (mid := mid) (d := d) (d1 := d1) (by omega) (by omega) (by omega) (by omega) (by omega) G1.out HL.out HR.out (fun _ _ => hA.out (by omega) (by omega)) (fun _ _ => hB.out (by omega) (by omega))
            have V2 : Hid (Cross cf Rr a s mid d1 ∧ Cross cf Rr mid e b d1) := cross_halves (a := a) (s := s) (m := m) (e := e) (b := b) (mid := mid) (d := d) (d1 := d1) (by omega) (by omega) (by omega) (by omega) (by omega) G1.out HX.out
            have r2 := IH.out a s mid d1 w2 (by omega) (by omega) (by omega) (by omega) (by omega) V1.out.1 V1.out.2.1 V2.out.1 S2'.out
            go_wp2_with (first | (go_at_fn 123; (with_reducible refine r2.mono ?_); rintro x w3 ⟨rfl, d2, S3, hP, hA2⟩))
            have S3' : Aside _ := S3
            clear S3
            have P2 : Hid (PermIn a mid d1 d2) := hP
            have T2 : Hid (Asc Rr a mid d2) := hA2
            have hs2 : d2.size = d1.size := hP.1
            clear hP hA2 r2
            have r3 := IH.out mid e b d2 w3 (by omega) (by omega) (by omega) (by omega) (by omega) (V1.out.2.2.1.same fun x hx hx' => P2.out.2.1 x (.inr hx)) (V1.out.2.2.2.1.same fun x hx hx' => P2.out.2.1 x (.inr (by omega))) (V2.out.2.same fun x hx hx' => P2.out.2.1 x (.inr hx)) S3'.out
            go_wp2_with (first | (go_at_fn 123; (with_reducible refine r3.mono ?_); rintro x w4 ⟨rfl, d3, S4, hP, hA3⟩))
            go_end0
            have J := joined (a := a) (b := b) (mid := mid) (by omega) (by omega) (by omega) V1.out.2.2.2.2 P2.out hP T2.out hA3
            exact ⟨rfl, d3, S4, permIn_trans _ _ _ _ _ P1.out J.1, J.2⟩
          · have kA : (s : Int) < (m : Int) := by omega
            have kB : (m : Int) < (e : Int) := by omega
            have kC : (a : Int) < (s : Int) := by omega
            have kD : (s : Int) < (mid : Int) := by omega
            have kE : (mid : Int) < (e : Int) := by omega
            have kF : ¬ (e : Int) < (b : Int) := by omega
            have r1 := rotate_is k aE zE enc g cb blk off cap s m e d0 d w0 wr R hd0 S1.out (by omega) (by omega) (by omega) hsz
            go_wp2_with (first | (go_at_fn 134; (with_reducible refine r1.mono ?_); rintro x w2 ⟨rfl, d1, S2, hP, hG⟩))
            have S2' : Aside _ := S2
            clear S2
            have G1 : Hid (∀ x, d1[x]! = d[turned s m e x]!) := hG
            have P1 : Hid (PermIn a b d d1) := permIn_mono _ _ _ _ _ _ (by omega) (by omega) (by omega) hP
            have hs1 : d1.size = d.size := hP.1
            clear hG hP r1
            have V1 : Hid (Asc Rr a s d1 ∧ Asc Rr s mid d1 ∧ Asc Rr mid e d1 ∧ Asc Rr e b d1 ∧ ∀ i j, a ≤ i → i < mid → mid ≤ j → j < b → Rr d1[i]! d1[j]!) := halves HT.out (a := a) (s := s) (m := m) (e := e) (b := b) (mid := mid) (d := d) (d1 := d1) (by omega) (by omega) (by omega) (by omega) (by omega) G1.out HL.out HR.out (fun _ _ => hA.out (by omega) (by omega)) (fun _ _ => hB.out (by omega) (by omega))
            have V2 : Hid (Cross cf Rr a s mid d1 ∧ Cross cf Rr mid e b d1) := cross_halves (a := a) (s := s) (m := m) (e := e) (b := b) (mid := mid) (d := d) (d1 := d1) (by omega) (by omega) (by omega) (by omega) (by omega) G1.out HX.out
            have r2 := IH.out a s mid d1 w2 (by omega) (by omega) (by omega) (by omega) (by omega) V1.out.1 V1.out.2.1 V2.out.1 S2'.out
            go_wp2_with (first | (go_at_fn 123; (with_reducible refine r2.mono ?_); rintro x w3 ⟨rfl, d2, S3, hP, hA2⟩))
            have S3' : Aside _ := S3
            clear S3
            have P2 : Hid (PermIn a mid d1 d2) := hP
            have T2 : Hid (Asc Rr a mid d2) := hA2
            have hs2 : d2.size = d1.size := hP.1
            clear hP hA2 r2
            have T3 : Asc Rr mid b d2 := by
              have := V1.out.2.2.1
              rw [show e = b by omega] at this
              exact this.same fun x hx hx' => P2.out.2.1 x (.inr hx)
            have J := joined (a := a) (b := b) (mid := mid) (by omega) (by omega) (by omega) V1.out.2.2.2.2 P2.out (permIn_refl _ _ _) T2.out T3
            have J' : Hid (PermIn a b d1 d2 ∧ Asc Rr a b d2) := J
            clear J T3
            go_wp2
            go_end0
            exact ⟨rfl, d2, S3'.out, permIn_trans _ _ _ _ _ P1.out J'.out.1, J'.out.2⟩
        · by_cases uD : e < b
          · have kA : (s : Int) < (m : Int) := by omega
            have kB : (m : Int) < (e : Int) := by omega
            have kC : ¬ (a : Int) < (s : Int) := by omega
            have kD : (s : Int) < (mid : Int) := by omega
            have kE : (mid : Int) < (e : Int) := by omega
            have kF : (e : Int) < (b : Int) := by omega
            have r1 := rotate_is k aE zE enc g cb blk off cap s m e d0 d w0 wr R hd0 S1.out (by omega) (by omega) (by omega) hsz
            go_wp2_with (first | (go_at_fn 134; (with_reducible refine r1.mono ?_); rintro x w2 ⟨rfl, d1, S2, hP, hG⟩))
            have S2' : Aside _ := S2
            clear S2
            have G1 : Hid (∀ x, d1[x]! = d[turned s m e x]!) := hG
            have P1 : Hid (PermIn a b d d1) := permIn_mono _ _ _ _ _ _ (by omega) (by omega) (by omega) hP
            have hs1 : d1.size = d.size := hP.1
            clear hG hP r1
            have V1 : Hid (Asc Rr a s d1 ∧ Asc Rr s mid d1 ∧ Asc Rr mid e d1 ∧ Asc Rr e b d1 ∧ ∀ i j, a ≤ i → i < mid → mid ≤ j → j < b → Rr d1[i]! d1[j]!) := halves HT.out (a := a) (s := s) (m := m) (e := e) (b := b) (mid := mid) (d := d) (d1 := d1) (by omega) (by omega) (by omega) (by omega) (by omega) G1.out HL.out HR.out (fun _ _ => hA.out (by omega) (by omega)) (fun _ _ => hB.out (by omega) (by omega))
            have V2 : Hid (Cross cf Rr a s mid d1 ∧ Cross cf Rr mid e b d1) := cross_halves (a := a) (s := s) (m := m) (e := e) (b := b) (mid := mid) (d := d) (d1 := d1) (by omega) (by omega) (by omega) (by omega) (by omega) G1.out HX.out
            obtain ⟨d2, hd2⟩ : ∃ d2, d2 = d1 := ⟨d1, rfl⟩
            have S3' : Aside (SWK enc k w0 blk off d2 w2) := by rw [hd2]; exact S2'
            have P2 : Hid (PermIn a mid d1 d2) := by rw [hd2]; exact permIn_refl _ _ _
            have T2 : Hid (Asc Rr a mid d2) := by have := V1.out.2.1; rw [hd2]; rwa [show s = a by omega] at this
            have hs2 : d2.size = d1.size := by rw [hd2]
            clear hd2
            have r3 := IH.out mid e b d2 w2 (by omega) (by omega) (by omega) (by omega) (by omega) (V1.out.2.2.1.same fun x hx hx' => P2.out.2.1 x (.inr hx)) (V1.out.2.2.2.1.same fun x hx hx' => P2.out.2.1 x (.inr (by omega))) (V2.out.2.same fun x hx hx' => P2.out.2.1 x (.inr hx)) S3'.out
            go_wp2_with (first | (go_at_fn 123; (with_reducible refine r3.mono ?_); rintro x w4 ⟨rfl, d3, S4, hP, hA3⟩))
            go_end0
            have J := joined (a := a) (b := b) (mid := mid) (by omega) (by omega) (by omega) V1.out.2.2.2.2 P2.out hP T2.out hA3
            exact ⟨rfl, d3, S4, permIn_trans _ _ _ _ _ P1.out J.1, J.2⟩
          · have kA : (s : Int) < (m : Int) := by omega
            have kB : (m : Int) < (e : Int) := by omega
            have kC : ¬ (a : Int) < (s : Int) := by omega
            have kD : (s : Int) < (mid : Int) := by omega
            have kE : (mid : Int) < (e : Int) := by omega
            have kF : ¬ (e : Int) < (b : Int) := by omega
            have r1 := rotate_is k aE zE enc g cb blk off cap s m e d0 d w0 wr R hd0 S1.out (by omega) (by omega) (by omega) hsz
            go_wp2_with (first | (go_at_fn 134; (with_reducible refine r1.mono ?_); rintro x w2 ⟨rfl, d1, S2, hP, hG⟩))
            have S2' : Aside _ := S2
            clear S2
            have G1 : Hid (∀ x, d1[x]! = d[turned s m e x]!) := hG
            have P1 : Hid (PermIn a b d d1) := permIn_mono _ _ _ _ _ _ (by omega) (by omega) (by omega) hP
            have hs1 : d1.size = d.size := hP.1
            clear hG hP r1
            have V1 : Hid (Asc Rr a s d1 ∧ Asc Rr s mid d1 ∧ Asc Rr mid e d1 ∧ Asc Rr e b d1 ∧ ∀ i j, a ≤ i → i < mid → mid ≤ j → j < b → Rr d1[i]! d1[j]!) := halves HT.out (a := a) (s := s) (m := m) (e := e) (b := b) (mid := mid) (d := d) (d1 := d1) (by omega) (by omega) (by omega) (by omega) (by omega) G1.out HL.out HR.out (fun _ _ => hA.out (by omega) (by omega)) (fun _ _ => hB.out (by omega) (by omega))
            have V2 : Hid (Cross cf Rr a s mid d1 ∧ Cross cf Rr mid e b d1) := cross_halves (a := a) (s := s) (m := m) (e := e) (b := b) (mid := mid) (d := d) (d1 := d1) (by omega) (by omega) (by omega) (by omega) (by omega) G1.out HX.out
            obtain ⟨d2, hd2⟩ : ∃ d2, d2 = d1 := ⟨d1, rfl⟩
            have S3' : Aside (SWK enc k w0 blk off d2 w2) := by rw [hd2]; exact S2'
            have P2 : Hid (PermIn a mid d1 d2) := by rw [hd2]; exact permIn_refl _ _ _
            have T2 : Hid (Asc Rr a mid d2) := by have := V1.out.2.1; rw [hd2]; rwa [show s = a by omega] at this
            have hs2 : d2.size = d1.size := by rw [hd2]
            clear hd2
            have T3 : Asc Rr mid b d2 := by
              have := V1.out.2.2.1
              rw [show e = b by omega] at this
              exact this.same fun x hx hx' => P2.out.2.1 x (.inr hx)
            have J := joined (a := a) (b := b) (mid := mid) (by omega) (by omega) (by omega) V1.out.2.2.2.2 P2.out (permIn_refl _ _ _) T2.out T3
            have J' : Hid (PermIn a b d1 d2 ∧ Asc Rr a b d2) := J
            clear J T3
            go_wp2
            go_end0
            exact ⟨rfl, d2, S3'.out, permIn_trans _ _ _ _ _ P1.out J'.out.1, J'.out.2⟩
      · by_cases uC : a < s
        · by_cases uD : e < b
          · have kA : (s : Int) < (m : Int) := by omega
            have kB : ¬ (m : Int) < (e : Int) := by omega
            have kC : (a : Int) < (s : Int) := by omega
            have kD : ¬ (s : Int) < (mid : Int) := by omega
            have kE : (mid : Int) < (e : Int) := by omega
            have kF : (e : Int) < (b : Int) := by omega
            obtain ⟨d1, hd1⟩ : ∃ d1, d1 = d := ⟨d, rfl⟩
            have S2' : Aside (SWK enc k w0 blk off d1 wr) := by rw [hd1]; exact S1
            have G1 : Hid (∀ x, d1[x]! = d[turned s m e x]!) := fun x => by rw [hd1, turned_none (by omega) (by omega) (by omega)]
            have P1 : Hid (PermIn a b d d1) := by rw [hd1]; exact permIn_refl _ _ _
            have hs1 : d1.size = d.size := by rw [hd1]
            clear hd1
            have V1 : Hid (Asc Rr a s d1 ∧ Asc Rr s mid d1 ∧ Asc Rr mid e d1 ∧ Asc Rr e b d1 ∧ ∀ i j, a ≤ i → i < mid → mid ≤ j → j < b → Rr d1[i]! d1[j]!) := halves HT.out (a := a) (s := s) (m := m) (e := e) (b := b) (mid := mid) (d := d) (d1 := d1) (by omega) (by omega) (by omega) (by omega) (by omega) G1.out HL.out HR.out (fun _ _ => hA.out (by omega) (by omega)) (fun _ _ => hB.out (by omega) (by omega))
            have V2 : Hid (Cross cf Rr a s mid d1 ∧ Cross cf Rr mid e b d1) := cross_halves (a := a) (s := s) (m := m) (e := e) (b := b) (mid := mid) (d := d) (d1 := d1) (by omega) (by omega) (by omega) (by omega) (by omega) G1.out HX.out
            obtain ⟨d2, hd2⟩ : ∃ d2, d2 = d1 := ⟨d1, rfl⟩
            have S3' : Aside (SWK enc k w0 blk off d2 wr) := by rw [hd2]; exact S2'
            have P2 : Hid (PermIn a mid d1 d2) := by rw [hd2]; exact permIn_refl _ _ _
            have T2 : Hid (Asc Rr a mid d2) := by have := V1.out.1; rw [hd2]; rwa [show s = mid by omega] at this
            have hs2 : d2.size = d1.size := by rw [hd2]
            clear hd2
            have r3 := IH.out mid e b d2 wr (by omega) (by omega) (by omega) (by omega) (by omega) (V1.out.2.2.1.same fun x hx hx' => P2.out.2.1 x (.inr hx)) (V1.out.2.2.2.1.same fun x hx hx' => P2.out.2.1 x (.inr (by omega))) (V2.out.2.same fun x hx hx' => P2.out.2.1 x (.inr hx)) S3'.out
            go_wp2_with (first | (go_at_fn 123; (with_reducible refine r3.mono ?_); rintro x w4 ⟨rfl, d3, S4, hP, hA3⟩))
            go_end0
            have J := joined (a := a) (b := b) (mid := mid) (by omega) (by omega) (by omega) V1.out.2.2.2.2 P2.out hP T2.out hA3
            exact ⟨rfl, d3, S4, permIn_trans _ _ _ _ _ P1.out J.1, J.2⟩
          · have kA : (s : Int) < (m : Int) := by omega
            have kB : ¬ (m : Int) < (e : Int) := by omega
            have kC : (a : Int) < (s : Int) := by omega
            have kD : ¬ (s : Int) < (mid : Int) := by omega
            have kE : (mid : Int) < (e : Int) := by omega
            have kF : ¬ (e : Int) < (b : Int) := by omega
            obtain ⟨d1, hd1⟩ : ∃ d1, d1 = d := ⟨d, rfl⟩
            have S2' : Aside (SWK enc k w0 blk off d1 wr) := by rw [hd1]; exact S1
            have G1 : Hid (∀ x, d1[x]! = d[turned s m e x]!) := fun x => by rw [hd1, turned_none (by omega) (by omega) (by omega)]
            have P1 : Hid (PermIn a b d d1) := by rw [hd1]; exact permIn_refl _ _ _
            have hs1 : d1.size = d.size := by rw [hd1]
            clear hd1
            have V1 : Hid (Asc Rr a s d1 ∧ Asc Rr s mid d1 ∧ Asc Rr mid e d1 ∧ Asc Rr e b d1 ∧ ∀ i j, a ≤ i → i < mid → mid ≤ j → j < b → Rr d1[i]! d1[j]!) := halves HT.out (a := a) (s := s) (m := m) (e := e) (b := b) (mid := mid) (d := d) (d1 := d1) (by omega) (by omega) (by omega) (by omega) (by omega) G1.out HL.out HR.out (fun _ _ => hA.out (by omega) (by omega)) (fun _ _ => hB.out (by omega) (by omega))
            have V2 : Hid (Cross cf Rr a s mid d1 ∧ Cross cf Rr mid e b d1) := cross_halves (a := a) (s := s) (m := m) (e := e) (b := b) (mid := mid) (d := d) (d1 := d1) (by omega) (by omega) (by omega) (by omega) (by omega) G1.out HX.out
            obtain ⟨d2, hd2⟩ : ∃ d2, d2 = d1 := ⟨d1, rfl⟩
            have S3' : Aside (SWK enc k w0 blk off d2 wr) := by rw [hd2]; exact S2'
            have P2 : Hid (PermIn a mid d1 d2) := by rw [hd2]; exact permIn_refl _ _ _
            have T2 : Hid (Asc Rr a mid d2) := by have := V1.out.1; rw [hd2]; rwa [show s = mid by omega] at this
            have hs2 : d2.size = d1.size := by rw [hd2]
            clear hd2
            have T3 : Asc Rr mid b d2 := by
              have := V1.out.2.2.1
              rw [show e = b by omega] at this
              exact this.same fun x hx hx' => P2.out.2.1 x (.inr hx)
            have J := joined (a := a) (b := b) (mid := mid) (by omega) (by omega) (by omega) V1.out.2.2.2.2 P2.out (permIn_refl _ _ _) T2.out T3
            have J' : Hid (PermIn a b d1 d2 ∧ Asc Rr a b d2) := J
            clear J T3
            go_wp2
            go_end0
            exact ⟨rfl, d2, S3'.out, permIn_trans _ _ _ _ _ P1.out J'.out.1, J'.out.2⟩
        · by_cases uD : e < b
          · have kA : (s : Int) < (m : Int) := by omega
            have kB : ¬ (m : Int) < (e : Int) := by omega
            have kC : ¬ (a : Int) < (s : Int) := by omega
            have kD : ¬ (s : Int) < (mid : Int) := by omega
            have kE : (mid : Int) < (e : Int) := by omega
            have kF : (e : Int) < (b : Int) := by omega
            obtain ⟨d1, hd1⟩ : ∃ d1, d1 = d := ⟨d, rfl⟩
            have S2' : Aside (SWK enc k w0 blk off d1 wr) := by rw [hd1]; exact S1
            have G1 : Hid (∀ x, d1[x]! = d[turned s m e x]!) := fun x => by rw [hd1, turned_none (by omega) (by omega) (by omega)]
            have P1 : Hid (PermIn a b d d1) := by rw [hd1]; exact permIn_refl _ _ _
            have hs1 : d1.size = d.size := by rw [hd1]
            clear hd1
            have V1 : Hid (Asc Rr a s d1 ∧ Asc Rr s mid d1 ∧ Asc Rr mid e d1 ∧ Asc Rr e b d1 ∧ ∀ i j, a ≤ i → i < mid → mid ≤ j → j < b → Rr d1[i]! d1[j]!) := halves HT.out (a := a) (s := s) (m := m) (e := e) (b := b) (mid := mid) (d := d) (d1 := d1) (by omega) (by omega) (by omega) (by omega) (by omega) G1.out HL.out HR.out (fun _ _ => hA.out (by omega) (by omega)) (fun _ _ => hB.out (by omega) (by omega))
            have V2 : Hid (Cross cf Rr a s mid d1 ∧ Cross cf Rr mid e b d1) := cross_halves (a := a) (s := s) (m := m) (e := e) (b := b) (mid := mid) (d := d) (d1 := d1) (by omega) (by omega) (by omega) (by omega) (by omega) G1.out HX.out
            obtain ⟨d2, hd2⟩ : ∃ d2, d2 = d1 := ⟨d1, rfl⟩
            have S3' : Aside (SWK enc k w0 blk off d2 wr) := by rw [hd2]; exact S2'
            have P2 : Hid (PermIn a mid d1 d2) := by rw [hd2]; exact permIn_refl _ _ _
            have T2 : Hid (Asc Rr a mid d2) := by have := V1.out.2.1; rw [hd2]; rwa [show s = a by omega] at this
            have hs2 : d2.size = d1.size := by rw [hd2]
            clear hd2
            have r3 := IH.out mid e b d2 wr (by omega) (by omega) (by omega) (by omega) (by omega) (V1.out.2.2.1.same fun x hx hx' => P2.out.2.1 x (.inr hx)) (V1.out.2.2.2.1.same fun x hx hx' => P2.out.2.1 x (.inr (by omega))) (V2.out.2.same fun x hx hx' => P2.out.2.1 x (.inr hx)) S3'.out
            go_wp2_with (first | (go_at_fn 123; (with_reducible refine r3.mono ?_); rintro x w4 ⟨rfl, d3, S4, hP, hA3⟩))
            go_end0
            have J := joined (a := a) (b := b) (mid := mid) (by omega) (by omega) (by omega) V1.out.2.2.2.2 P2.out hP T2.out hA3
            exact ⟨rfl, d3, S4, permIn_trans _ _ _ _ _ P1.out J.1, J.2⟩
          · have kA : (s : Int) < (m : Int) := by omega
            have kB : ¬ (m : Int) < (e : Int) := by omega
            have kC : ¬ (a : Int) < (s : Int) := by omega
            have kD : ¬ (s : Int) < (mid : Int) := by omega
            have kE : (mid : Int) < (e : Int) := by omega
            have kF : ¬ (e : Int) < (b : Int) := by omega
            obtain ⟨d1, hd1⟩ : ∃ d1, d1 = d := ⟨d, rfl⟩
            have S2' : Aside (SWK enc k w0 blk off d1 wr) := by rw [hd1]; exact S1
            have G1 : Hid (∀ x, d1[x]! = d[turned s m e x]!) := fun x => by rw [hd1, turned_none (by omega) (by omega) (by omega)]
            have P1 : Hid (PermIn a b d d1) := by rw [hd1]; exact permIn_refl _ _ _
            have hs1 : d1.size = d.size := by rw [hd1]
            clear hd1
            have V1 : Hid (Asc Rr a s d1 ∧ Asc Rr s mid d1 ∧ Asc Rr mid e d1 ∧ Asc Rr e b d1 ∧ ∀ i j, a ≤ i → i < mid → mid ≤ j → j < b → Rr d1[i]! d1[j]!) := halves HT.out (a := a) (s := s) (m := m) (e := e) (b := b) (mid := mid) (d := d) (d1 := d1) (by omega) (by omega) (by omega) (by omega) (by omega) G1.out HL.out HR.out (fun _ _ => hA.out (by omega) (by omega)) (fun _ _ => hB.out (by omega) (by omega))
            have V2 : Hid (Cross cf Rr a s mid d1 ∧ Cross cf Rr mid e b d1) := cross_halves (a := a) (s := s) (m := m) (e := e) (b := b) (mid := mid) (d := d) (d1 := d1) (by omega) (by omega) (by omega) (by omega) (by omega) G1.out HX.out
            obtain ⟨d2, hd2⟩ : ∃ d2, d2 = d1 := ⟨d1, rfl⟩
            have S3' : Aside (SWK enc k w0 blk off d2 wr) := by rw [hd2]; exact S2'
            have P2 : Hid (PermIn a mid d1 d2) := by rw [hd2]; exact permIn_refl _ _ _
            have T2 : Hid (Asc Rr a mid d2) := by have := V1.out.2.1; rw [hd2]; rwa [show s = a by omega] at this
            have hs2 : d2.size = d1.size := by rw [hd2]
            clear hd2
            have T3 : Asc Rr mid b d2 := by
              have := V1.out.2.2.1
              rw [show e = b by omega] at this
              exact this.same fun x hx hx' => P2.out.2.1 x (.inr hx)
            have J := joined (a := a) (b := b) (mid := mid) (by omega) (by omega) (by omega) V1.out.2.2.2.2 P2.out (permIn_refl _ _ _) T2.out T3
            have J' : Hid (PermIn a b d1 d2 ∧ Asc Rr a b d2) := J
            clear J T3
            go_wp2
            go_end0
            exact ⟨rfl, d2, S3'.out, permIn_trans _ _ _ _ _ P1.out J'.out.1, J'.out.2⟩
end Go.Proofs.YtpkjpiphjdpegaaDoor.Z
namespace Go.Proofs.YtpkjpiphjdpegaaDoor.Z
open Go.Shelf Go.RowKit Go.Lib Go.Sort Go.Proofs
set_option linter.unusedVariables false
set_option linter.unusedSimpArgs false
variable {α : Type} [Inhabited α]

set_option maxHeartbeats 16000000 in
set_option maxRecDepth 1000000 in
theorem symMerge_coreR (k : Nat) (aE : ∀ w, (isAgg 44).run Tryd.prog w = .ok true w) (zE : ∀ w, (Go.sizeOf 44).run Tryd.prog w = .ok k w) (enc : α → List Value) (cf : α → α → Int) (Rr : α → α → Prop) (g : Nat) (cb : Array Value) (blk off cap : Nat) (d0 : Array α) (w0 : World)
    (R : RowK enc k w0 blk off d0) (hcmp : CmpLays Tryd.prog g cb enc k cf blk off d0.size w0) (eg : ∀ args w, (callFunc g args).run Tryd.prog w = .ok (.enter g args) w) (hT : ∀ x y z, Rr x y → Rr y z → Rr x z) (hsz : d0.size < 4611686018427387904) (N : Nat) (IH0 : ∀ (a m b : Nat) (d : Array α) (w : World), b - a ≤ N → a < m → m < b → b ≤ d.size → d.size = d0.size → Asc Rr a m d → Asc Rr m b d → Cross cf Rr a m b d → SWK enc k w0 blk off d w → Calls Tryd.prog 123 #[.slice (some ⟨blk, off, none⟩) d0.size cap, .int .i64 a, .int .i64 m, .int .i64 b, .func (.func g) #[] cb] w fun e w' => e = .returned (.tuple #[]) ∧ ∃ d', SWK enc k w0 blk off d' w' ∧ PermIn a b d d' ∧ Asc Rr a b d')
    (a m b : Nat) (d : Array α) (w : World) (ham : a < m) (hmb : m < b) (hb : b ≤ d.size) (hds0 : d.size = d0.size) (hL : Asc Rr a m d) (hR : Asc Rr m b d) (hC : Cross cf Rr a m b d) (S : SWK enc k w0 blk off d w) (hN : b - a ≤ N + 1) (c1 : ¬ m - a = 1) (c2 : ¬ b - m = 1) (mid : Nat) (hmid : mid = (a + b) / 2) (c3 : ¬ mid < m) :
    Calls Tryd.prog 123 #[.slice (some ⟨blk, off, none⟩) d0.size cap, .int .i64 a, .int .i64 m, .int .i64 b, .func (.func g) #[] cb] w fun e w' => e = .returned (.tuple #[]) ∧ ∃ d', SWK enc k w0 blk off d' w' ∧ PermIn a b d d' ∧ Asc Rr a b d' := by
  have HC : Aside _ := hcmp
  have HL : Hid (Asc Rr a m d) := hL
  have HR : Hid (Asc Rr m b d) := hR
  have HX : Hid (Cross cf Rr a m b d) := hC
  have HT : Hid _ := hT
  clear hcmp hL hR hC hT
  have S0 : Aside (SWK enc k w0 blk off d w) := S
  clear S
  have e1 : ∀ args w, (callFunc 134 args).run Tryd.prog w = .ok (.enter 134 args) w := enters_of Tryd.func134 (by kernel_rfl) rfl
  have e2 : ∀ args w, (callFunc 123 args).run Tryd.prog w = .ok (.enter 123 args) w := enters_of Tryd.func123 (by kernel_rfl) rfl
  have mixed : Tryd.prog.follows .mixedOrders = true := by kernel_rfl
  rw [← hds0] at hsz IH0 ⊢
  have IH : Aside _ := IH0
  clear IH0
  have hd0 : d0.size = d.size := hds0.symm
  clear hds0
  have z1 : ((m : Int) - (a : Int) == 1) = false := by simp; omega
  have z2 : ((b : Int) - (m : Int) == 1) = false := by simp; omega
  have zmid : ((a : Int) + (b : Int)) / 2 = (mid : Int) := by omega
  clear hmid
  have zc : ¬ (mid : Int) < (m : Int) := by omega
  have wn : IntKind.i64.wrap ((mid : Int) + (m : Int)) = (mid : Int) + (m : Int) := by rw [IntKind.wrap_i64]; omega
  have wp : IntKind.i64.wrap ((mid : Int) + (m : Int) - 1) = (mid : Int) + (m : Int) - 1 := by rw [IntKind.wrap_i64]; omega
  have ws : IntKind.i64.wrap ((mid : Int) + (m : Int) - (b : Int)) = (mid : Int) + (m : Int) - (b : Int) := by rw [IntKind.wrap_i64]; omega
  go_enter Tryd.func123, Tryd.ntmps123
  go_wp2_with fail
  go_loopg [20, 21] (m - a) (fun kx s20 s21 wr => ∃ (s r : Nat), s20 = .int .i64 s ∧ s21 = .int .i64 r ∧ a ≤ s ∧ s ≤ r ∧ r ≤ m ∧ r - s ≤ kx ∧ Aside (SWK enc k w0 blk off d wr) ∧ Hid ((a < s → ¬ cf d[mid + m - s]! d[s - 1]! < 0) ∧ (r < m → cf d[mid + m - 1 - r]! d[r]! < 0)))
  case atStart => exact ⟨a, m, by go_num, by go_num, Nat.le_refl _, by omega, Nat.le_refl _, Nat.le_refl _, S0, ⟨fun h => absurd h (Nat.lt_irrefl _), fun h => absurd h (Nat.lt_irrefl _)⟩⟩
  case round =>
    clear S0
    obtain ⟨s, r, rfl, rfl, hs0, hsr, hr0, hkx, S1, HI⟩ := hrel
    by_cases hlt : s < r
    · have hltz : (s : Int) < (r : Int) := by omega
      obtain ⟨c, hc⟩ : ∃ c, c = (s + r) / 2 := ⟨_, rfl⟩
      obtain ⟨q, hq⟩ : ∃ q, q = mid + m - 1 - c := ⟨_, rfl⟩
      have zcc : ((s : Int) + (r : Int)) / 2 = (c : Int) := by omega
      have zq : (mid : Int) + (m : Int) - 1 - (c : Int) = (q : Int) := by omega
      clear hc hq
      have wq : IntKind.i64.wrap ((mid : Int) + (m : Int) - 1 - (c : Int)) = (mid : Int) + (m : Int) - 1 - (c : Int) := by rw [IntKind.wrap_i64]; omega
      by_cases HV : cf d[q]! d[c]! < 0
      · have ea1 : ((q : Int)).toNat = q := by omega
        have pa1 : (0 : Int) ≤ (q : Int) := by omega
        have ba1 : (q : Int) < (d.size : Int) := by omega
        have ra1 : IntKind.i64.wrap ((q : Int)) = (q : Int) := by rw [IntKind.wrap_i64]; omega
        have ec1 : ((c : Int)).toNat = c := by omega
        have pc1 : (0 : Int) ≤ (c : Int) := by omega
        have bc1 : (c : Int) < (d.size : Int) := by omega
        have rc1 : IntKind.i64.wrap ((c : Int)) = (c : Int) := by rw [IntKind.wrap_i64]; omega
        obtain ⟨x1, hx1⟩ : ∃ x, x = d[q]! := ⟨_, rfl⟩
        obtain ⟨y1, hy1⟩ : ∃ x, x = d[c]! := ⟨_, rfl⟩
        have l1a := S1.out.ld R (by omega) Tryd.prog (q) (by omega)
        have l1b := S1.out.ld R (by omega) Tryd.prog (c) (by omega)
        rw [← hx1] at l1a
        rw [← hy1] at l1b
        have hc1 := S1.out.cmp HC.out (by omega) x1 y1
        have hv1 : cf x1 y1 < 0 := by rw [hx1, hy1]; exact HV
        have hd1 : decide (cf x1 y1 < 0) = true := decide_eq_true hv1
        clear hx1 hy1
        go_wp2_with fail
        go_quiet_grown (first | (go_at_fn g; refine Calls.grown_of (hc1 _ _)))
        have S2 : Aside (SWK enc k w0 blk off d (grow (wr.drewN nq) osq)) := S1.out.grown nq osq
        clear l1a l1b hc1 S1
        generalize grow (wr.drewN nq) osq = w2 at S2 ⊢
        clear nq osq
        go_wp2
        go_roundg (c - s)
        case measure => omega
        case rel => exact ⟨s, c, rfl, by go_num, hs0, by omega, by omega, Nat.le_refl _, S2, ⟨fun h => by have := HI.out.1 h; omega, fun _ => by rw [show mid + m - 1 - c = q by omega]; omega⟩⟩
      · have ea1 : ((q : Int)).toNat = q := by omega
        have pa1 : (0 : Int) ≤ (q : Int) := by omega
        have ba1 : (q : Int) < (d.size : Int) := by omega
        have ra1 : IntKind.i64.wrap ((q : Int)) = (q : Int) := by rw [IntKind.wrap_i64]; omega
        have ec1 : ((c : Int)).toNat = c := by omega
        have pc1 : (0 : Int) ≤ (c : Int) := by omega
        have bc1 : (c : Int) < (d.size : Int) := by omega
        have rc1 : IntKind.i64.wrap ((c : Int)) = (c : Int) := by rw [IntKind.wrap_i64]; omega
        obtain ⟨x1, hx1⟩ : ∃ x, x = d[q]! := ⟨_, rfl⟩
        obtain ⟨y1, hy1⟩ : ∃ x, x = d[c]! := ⟨_, rfl⟩
        have l1a := S1.out.ld R (by omega) Tryd.prog (q) (by omega)
        have l1b := S1.out.ld R (by omega) Tryd.prog (c) (by omega)
        rw [← hx1] at l1a
        rw [← hy1] at l1b
        have hc1 := S1.out.cmp HC.out (by omega) x1 y1
        have hv1 : ¬ cf x1 y1 < 0 := by rw [hx1, hy1]; exact HV
        have hd1 : decide (cf x1 y1 < 0) = false := decide_eq_false hv1
        clear hx1 hy1
        go_wp2_with fail
        go_quiet_grown (first | (go_at_fn g; refine Calls.grown_of (hc1 _ _)))
        have S2 : Aside (SWK enc k w0 blk off d (grow (wr.drewN nq) osq)) := S1.out.grown nq osq
        clear l1a l1b hc1 S1
        generalize grow (wr.drewN nq) osq = w2 at S2 ⊢
        clear nq osq
        go_wp2
        go_roundg (r - (c + 1))
        case measure => omega
        case rel => exact ⟨c + 1, r, by go_num, rfl, by omega, by omega, hr0, Nat.le_refl _, S2, ⟨fun _ => by rw [show mid + m - (c + 1) = q by omega, Nat.add_sub_cancel]; omega, fun h => by have := HI.out.2 h; omega⟩⟩
    · have hltz : ¬ (s : Int) < (r : Int) := by omega
      obtain rfl : s = r := by omega
      obtain ⟨e, he⟩ : ∃ e, e = mid + m - s := ⟨_, rfl⟩
      have ze : (mid : Int) + (m : Int) - (s : Int) = (e : Int) := by omega
      have we : IntKind.i64.wrap ((mid : Int) + (m : Int) - (s : Int)) = (mid : Int) + (m : Int) - (s : Int) := by rw [IntKind.wrap_i64]; omega
      have hA : Hid (a < s → e < b → Rr d[s - 1]! d[e]!) := fun h h' => (HX.out (s - 1) e (by omega) (by omega) (by omega) h').2 (by have := HI.out.1 (by omega); rw [← he] at this; omega)
      have hB : Hid (s < m → m < e → Rr d[e - 1]! d[s]!) := fun h h' => (HX.out s (e - 1) (by omega) h (by omega) (by omega)).1 (by have := HI.out.2 (by omega); rw [show mid + m - 1 - s = e - 1 by omega] at this; omega)
      clear HI he
      by_cases uA : s < m
      · have uB : s < mid := by omega
        by_cases uC : a < s
        · by_cases uD : e < b
          · have kA : (s : Int) < (m : Int) := by omega
            have kB : (m : Int) < (e : Int) := by omega
            have kC : (a : Int) < (s : Int) := by omega
            have kD : (s : Int) < (mid : Int) := by omega
            have kE : (mid : Int) < (e : Int) := by omega
            have kF : (e : Int) < (b : Int) := by omega
            have r1 := rotate_is k aE zE enc g cb blk off cap s m e d0 d w0 wr R hd0 S1.out (by omega) (by omega) (by omega) hsz
            go_wp2_with (first | (go_at_fn 134; (with_reducible refine r1.mono ?_); rintro x w2 ⟨rfl, d1, S2, hP, hG⟩))
            have S2' : Aside _ := S2
            clear S2
            have G1 : Hid (∀ x, d1[x]! = d[turned s m e x]!) := hG
            have P1 : Hid (PermIn a b d d1) := permIn_mono _ _ _ _ _ _ (by omega) (by omega) (by omega) hP
            have hs1 : d1.size = d.size := hP.1
            clear hG hP r1
            have V1 : Hid (Asc Rr a s d1 ∧ Asc Rr s mid d1 ∧ Asc Rr mid e d1 ∧ Asc Rr e b d1 ∧ ∀ i j, a ≤ i → i < mid → mid ≤ j → j < b → Rr d1[i]! d1[j]!) := halves HT.out (a := a) (s := s) (m := m) (e := e) (b := b) (mid := mid) (d := d) (d1 := d1) (by omega) (by omega) (by omega) (by omega) (by omega) G1.out HL.out HR.out (fun _ _ => hA.out (by omega) (by omega)) (fun _ _ => hB.out (by omega) (by omega))
            have V2 : Hid (Cross cf Rr a s mid d1 ∧ Cross cf Rr mid e b d1) := cross_halves (a := a) (s := s) (m := m) (e := e) (b := b) (mid := mid) (d := d) (d1 := d1) (by omega) (by omega) (by omega) (by omega) (by omega) G1.out HX.out
            have r2 := IH.out a s mid d1 w2 (by omega) (by omega) (by omega) (by omega) (by omega) V1.out.1 V1.out.2.1 V2.out.1 S2'.out
            go_wp2_with (first | (go_at_fn 123; (with_reducible refine r2.mono ?_); rintro x w3 ⟨rfl, d2, S3, hP, hA2⟩))
            have S3' : Aside _ := S3
            clear S3
            have P2 : Hid (PermIn a mid d1 d2) := hP
            have T2 : Hid (Asc Rr a mid d2) := hA2
            have hs2 : d2.size = d1.size := hP.1
            clear hP hA2 r2
            have r3 := IH.out mid e b d2 w3 (by omega) (by omega) (by omega) (by omega) (by omega) (V1.out.2.2.1.same fun x hx hx' => P2.out.2.1 x (.inr hx)) (V1.out.2.2.2.1.same fun x hx hx' => P2.out.2.1 x (.inr (by omega))) (V2.out.2.same fun x hx hx' => P2.out.2.1 x (.inr hx)) S3'.out
            go_wp2_with (first | (go_at_fn 123; (with_reducible refine r3.mono ?_); rintro x w4 ⟨rfl, d3, S4, hP, hA3⟩))
            go_end0
            have J := joined (a := a) (b := b) (mid := mid) (by omega) (by omega) (by omega) V1.out.2.2.2.2 P2.out hP T2.out hA3
            exact ⟨rfl, d3, S4, permIn_trans _ _ _ _ _ P1.out J.1, J.2⟩
          · have kA : (s : Int) < (m : Int) := by omega
            have kB : (m : Int) < (e : Int) := by omega
            have kC : (a : Int) < (s : Int) := by omega
            have kD : (s : Int) < (mid : Int) := by omega
            have kE : (mid : Int) < (e : Int) := by omega
            have kF : ¬ (e : Int) < (b : Int) := by omega
            have r1 := rotate_is k aE zE enc g cb blk off cap s m e d0 d w0 wr R hd0 S1.out (by omega) (by omega) (by omega) hsz
            go_wp2_with (first | (go_at_fn 134; (with_reducible refine r1.mono ?_); rintro x w2 ⟨rfl, d1, S2, hP, hG⟩))
            have S2' : Aside _ := S2
            clear S2
            have G1 : Hid (∀ x, d1[x]! = d[turned s m e x]!) := hG
            have P1 : Hid (PermIn a b d d1) := permIn_mono _ _ _ _ _ _ (by omega) (by omega) (by omega) hP
            have hs1 : d1.size = d.size := hP.1
            clear hG hP r1
            have V1 : Hid (Asc Rr a s d1 ∧ Asc Rr s mid d1 ∧ Asc Rr mid e d1 ∧ Asc Rr e b d1 ∧ ∀ i j, a ≤ i → i < mid → mid ≤ j → j < b → Rr d1[i]! d1[j]!) := halves HT.out (a := a) (s := s) (m := m) (e := e) (b := b) (mid := mid) (d := d) (d1 := d1) (by omega) (by omega) (by omega) (by omega) (by omega) G1.out HL.out HR.out (fun _ _ => hA.out (by omega) (by omega)) (fun _ _ => hB.out (by omega) (by omega))
            have V2 : Hid (Cross cf Rr a s mid d1 ∧ Cross cf Rr mid e b d1) := cross_halves (a := a) (s := s) (m := m) (e := e) (b := b) (mid := mid) (d := d) (d1 := d1) (by omega) (by omega) (by omega) (by omega) (by omega) G1.out HX.out
            have r2 := IH.out a s mid d1 w2 (by omega) (by omega) (by omega) (by omega) (by omega) V1.out.1 V1.out.2.1 V2.out.1 S2'.out
            go_wp2_with (first | (go_at_fn 123; (with_reducible refine r2.mono ?_); rintro x w3 ⟨rfl, d2, S3, hP, hA2⟩))
            have S3' : Aside _ := S3
            clear S3
            have P2 : Hid (PermIn a mid d1 d2) := hP
            have T2 : Hid (Asc Rr a mid d2) := hA2
            have hs2 : d2.size = d1.size := hP.1
            clear hP hA2 r2
            have T3 : Asc Rr mid b d2 := by
              have := V1.out.2.2.1
              rw [show e = b by omega] at this
              exact this.same fun x hx hx' => P2.out.2.1 x (.inr hx)
            have J := joined (a := a) (b := b) (mid := mid) (by omega) (by omega) (by omega) V1.out.2.2.2.2 P2.out (permIn_refl _ _ _) T2.out T3
            have J' : Hid (PermIn a b d1 d2 ∧ Asc Rr a b d2) := J
            clear J T3
            go_wp2
            go_end0
            exact ⟨rfl, d2, S3'.out, permIn_trans _ _ _ _ _ P1.out J'.out.1, J'.out.2⟩
        · by_cases uD : e < b
          · have kA : (s : Int) < (m : Int) := by omega
            have kB : (m : Int) < (e : Int) := by omega
            have kC : ¬ (a : Int) < (s : Int) := by omega
            have kD : (s : Int) < (mid : Int) := by omega
            have kE : (mid : Int) < (e : Int) := by omega
            have kF : (e : Int) < (b : Int) := by omega
            have r1 := rotate_is k aE zE enc g cb blk off cap s m e d0 d w0 wr R hd0 S1.out (by omega) (by omega) (by omega) hsz
            go_wp2_with (first | (go_at_fn 134; (with_reducible refine r1.mono ?_); rintro x w2 ⟨rfl, d1, S2, hP, hG⟩))
            have S2' : Aside _ := S2
            clear S2
            have G1 : Hid (∀ x, d1[x]! = d[turned s m e x]!) := hG
            have P1 : Hid (PermIn a b d d1) := permIn_mono _ _ _ _ _ _ (by omega) (by omega) (by omega) hP
            have hs1 : d1.size = d.size := hP.1
            clear hG hP r1
            have V1 : Hid (Asc Rr a s d1 ∧ Asc Rr s mid d1 ∧ Asc Rr mid e d1 ∧ Asc Rr e b d1 ∧ ∀ i j, a ≤ i → i < mid → mid ≤ j → j < b → Rr d1[i]! d1[j]!) := halves HT.out (a := a) (s := s) (m := m) (e := e) (b := b) (mid := mid) (d := d) (d1 := d1) (by omega) (by omega) (by omega) (by omega) (by omega) G1.out HL.out HR.out (fun _ _ => hA.out (by omega) (by omega)) (fun _ _ => hB.out (by omega) (by omega))
            have V2 : Hid (Cross cf Rr a s mid d1 ∧ Cross cf Rr mid e b d1) := cross_halves (a := a) (s := s) (m := m) (e := e) (b := b) (mid := mid) (d := d) (d1 := d1) (by omega) (by omega) (by omega) (by omega) (by omega) G1.out HX.out
            obtain ⟨d2, hd2⟩ : ∃ d2, d2 = d1 := ⟨d1, rfl⟩
            have S3' : Aside (SWK enc k w0 blk off d2 w2) := by rw [hd2]; exact S2'
            have P2 : Hid (PermIn a mid d1 d2) := by rw [hd2]; exact permIn_refl _ _ _
            have T2 : Hid (Asc Rr a mid d2) := by have := V1.out.2.1; rw [hd2]; rwa [show s = a by omega] at this
            have hs2 : d2.size = d1.size := by rw [hd2]
            clear hd2
            have r3 := IH.out mid e b d2 w2 (by omega) (by omega) (by omega) (by omega) (by omega) (V1.out.2.2.1.same fun x hx hx' => P2.out.2.1 x (.inr hx)) (V1.out.2.2.2.1.same fun x hx hx' => P2.out.2.1 x (.inr (by omega))) (V2.out.2.same fun x hx hx' => P2.out.2.1 x (.inr hx)) S3'.out
            go_wp2_with (first | (go_at_fn 123; (with_reducible refine r3.mono ?_); rintro x w4 ⟨rfl, d3, S4, hP, hA3⟩))
            go_end0
            have J := joined (a := a) (b := b) (mid := mid) (by omega) (by omega) (by omega) V1.out.2.2.2.2 P2.out hP T2.out hA3
            exact ⟨rfl, d3, S4, permIn_trans _ _ _ _ _ P1.out J.1, J.2⟩
          · have kA : (s : Int) < (m : Int) := by omega
            have kB : (m : Int) < (e : Int) := by omega
            have kC : ¬ (a : Int) < (s : Int) := by omega
            have kD : (s : Int) < (mid : Int) := by omega
            have kE : (mid : Int) < (e : Int) := by omega
            have kF : ¬ (e : Int) < (b : Int) := by omega
            have r1 := rotate_is k aE zE enc g cb blk off cap s m e d0 d w0 wr R hd0 S1.out (by omega) (by omega) (by omega) hsz
            go_wp2_with (first | (go_at_fn 134; (with_reducible refine r1.mono ?_); rintro x w2 ⟨rfl, d1, S2, hP, hG⟩))
            have S2' : Aside _ := S2
            clear S2
            have G1 : Hid (∀ x, d1[x]! = d[turned s m e x]!) := hG
            have P1 : Hid (PermIn a b d d1) := permIn_mono _ _ _ _ _ _ (by omega) (by omega) (by omega) hP
            have hs1 : d1.size = d.size := hP.1
            clear hG hP r1
            have V1 : Hid (Asc Rr a s d1 ∧ Asc Rr s mid d1 ∧ Asc Rr mid e d1 ∧ Asc Rr e b d1 ∧ ∀ i j, a ≤ i → i < mid → mid ≤ j → j < b → Rr d1[i]! d1[j]!) := halves HT.out (a := a) (s := s) (m := m) (e := e) (b := b) (mid := mid) (d := d) (d1 := d1) (by omega) (by omega) (by omega) (by omega) (by omega) G1.out HL.out HR.out (fun _ _ => hA.out (by omega) (by omega)) (fun _ _ => hB.out (by omega) (by omega))
            have V2 : Hid (Cross cf Rr a s mid d1 ∧ Cross cf Rr mid e b d1) := cross_halves (a := a) (s := s) (m := m) (e := e) (b := b) (mid := mid) (d := d) (d1 := d1) (by omega) (by omega) (by omega) (by omega) (by omega) G1.out HX.out
            obtain ⟨d2, hd2⟩ : ∃ d2, d2 = d1 := ⟨d1, rfl⟩
            have S3' : Aside (SWK enc k w0 blk off d2 w2) := by rw [hd2]; exact S2'
            have P2 : Hid (PermIn a mid d1 d2) := by rw [hd2]; exact permIn_refl _ _ _
            have T2 : Hid (Asc Rr a mid d2) := by have := V1.out.2.1; rw [hd2]; rwa [show s = a by omega] at this
            have hs2 : d2.size = d1.size := by rw [hd2]
            clear hd2
            have T3 : Asc Rr mid b d2 := by
              have := V1.out.2.2.1
              rw [show e = b by omega] at this
              exact this.same fun x hx hx' => P2.out.2.1 x (.inr hx)
            have J := joined (a := a) (b := b) (mid := mid) (by omega) (by omega) (by omega) V1.out.2.2.2.2 P2.out (permIn_refl _ _ _) T2.out T3
            have J' : Hid (PermIn a b d1 d2 ∧ Asc Rr a b d2) := J
            clear J T3
            go_wp2
            go_end0
            exact ⟨rfl, d2, S3'.out, permIn_trans _ _ _ _ _ P1.out J'.out.1, J'.out.2⟩
      · have uC : a < s := by omega
        have sm : m ≤ s := by omega
        have ee : mid ≤ e ∧ e ≤ mid := by omega
        have uD : e < b := by omega
        by_cases uB : s < mid
        · have kA : ¬ (s : Int) < (m : Int) := by omega
          have kB : (m : Int) < (e : Int) := by omega
          have kC : (a : Int) < (s : Int) := by omega
          have kD : (s : Int) < (mid : Int) := by omega
          have kE : ¬ (mid : Int) < (e : Int) := by omega
          have kF : (e : Int) < (b : Int) := by omega
          obtain ⟨d1, hd1⟩ : ∃ d1, d1 = d := ⟨d, rfl⟩
          have S2' : Aside (SWK enc k w0 blk off d1 wr) := by rw [hd1]; exact S1
          have G1 : Hid (∀ x, d1[x]! = d[turned s m e x]!) := fun x => by rw [hd1, turned_none (by omega) (by omega) (by omega)]
          have P1 : Hid (PermIn a b d d1) := by rw [hd1]; exact permIn_refl _ _ _
          have hs1 : d1.size = d.size := by rw [hd1]
          clear hd1
          have V1 : Hid (Asc Rr a s d1 ∧ Asc Rr s mid d1 ∧ Asc Rr mid e d1 ∧ Asc Rr e b d1 ∧ ∀ i j, a ≤ i → i < mid → mid ≤ j → j < b → Rr d1[i]! d1[j]!) := halves HT.out (a := a) (s := s) (m := m) (e := e) (b := b) (mid := mid) (d := d) (d1 := d1) (by omega) (by omega) (by omega) (by omega) (by omega) G1.out HL.out HR.out (fun _ _ => hA.out (by omega) (by omega)) (fun _ _ => hB.out (by omega) (by omega))
          have V2 : Hid (Cross cf Rr a s mid d1 ∧ Cross cf Rr mid e b d1) := cross_halves (a := a) (s := s) (m := m) (e := e) (b := b) (mid := mid) (d := d) (d1 := d1) (by omega) (by omega) (by omega) (by omega) (by omega) G1.out HX.out
          have r2 := IH.out a s mid d1 wr (by omega) (by omega) (by omega) (by omega) (by omega) V1.out.1 V1.out.2.1 V2.out.1 S2'.out
          go_wp2_with (first | (go_at_fn 123; (with_reducible refine r2.mono ?_); rintro x w3 ⟨rfl, d2, S3, hP, hA2⟩))
          have S3' : Aside _ := S3
          clear S3
          have P2 : Hid (PermIn a mid d1 d2) := hP
          have T2 : Hid (Asc Rr a mid d2) := hA2
          have hs2 : d2.size = d1.size := hP.1
          clear hP hA2 r2
          have T3 : Asc Rr mid b d2 := by
            have := V1.out.2.2.2.1
            rw [show e = mid by omega] at this
            exact this.same fun x hx hx' => P2.out.2.1 x (.inr hx)
          have J := joined (a := a) (b := b) (mid := mid) (by omega) (by omega) (by omega) V1.out.2.2.2.2 P2.out (permIn_refl _ _ _) T2.out T3
          have J' : Hid (PermIn a b d1 d2 ∧ Asc Rr a b d2) := J
          clear J T3
          go_wp2
          go_end0
          exact ⟨rfl, d2, S3'.out, permIn_trans _ _ _ _ _ P1.out J'.out.1, J'.out.2⟩
        · have kA : ¬ (s : Int) < (m : Int) := by omega
          have kB : ¬ (m : Int) < (e : Int) := by omega
          have kC : (a : Int) < (s : Int) := by omega
          have kD : ¬ (s : Int) < (mid : Int) := by omega
          have kE : ¬ (mid : Int) < (e : Int) := by omega
          have kF : (e : Int) < (b : Int) := by omega
          obtain ⟨d1, hd1⟩ : ∃ d1, d1 = d := ⟨d, rfl⟩
          have S2' : Aside (SWK enc k w0 blk off d1 wr) := by rw [hd1]; exact S1
          have G1 : Hid (∀ x, d1[x]! = d[turned s m e x]!) := fun x => by rw [hd1, turned_none (by omega) (by omega) (by omega)]
          have P1 : Hid (PermIn a b d d1) := by rw [hd1]; exact permIn_refl _ _ _
          have hs1 : d1.size = d.size := by rw [hd1]
          clear hd1
          have V1 : Hid (Asc Rr a s d1 ∧ Asc Rr s mid d1 ∧ Asc Rr mid e d1 ∧ Asc Rr e b d1 ∧ ∀ i j, a ≤ i → i < mid → mid ≤ j → j < b → Rr d1[i]! d1[j]!) := halves HT.out (a := a) (s := s) (m := m) (e := e) (b := b) (mid := mid) (d := d) (d1 := d1) (by omega) (by omega) (by omega) (by omega) (by omega) G1.out HL.out HR.out (fun _ _ => hA.out (by omega) (by omega)) (fun _ _ => hB.out (by omega) (by omega))
          have V2 : Hid (Cross cf Rr a s mid d1 ∧ Cross cf Rr mid e b d1) := cross_halves (a := a) (s := s) (m := m) (e := e) (b := b) (mid := mid) (d := d) (d1 := d1) (by omega) (by omega) (by omega) (by omega) (by omega) G1.out HX.out
          obtain ⟨d2, hd2⟩ : ∃ d2, d2 = d1 := ⟨d1, rfl⟩
          have S3' : Aside (SWK enc k w0 blk off d2 wr) := by rw [hd2]; exact S2'
          have P2 : Hid (PermIn a mid d1 d2) := by rw [hd2]; exact permIn_refl _ _ _
          have T2 : Hid (Asc Rr a mid d2) := by have := V1.out.1; rw [hd2]; rwa [show s = mid by omega] at this
          have hs2 : d2.size = d1.size := by rw [hd2]
          clear hd2
          have T3 : Asc Rr mid b d2 := by
            have := V1.out.2.2.2.1
            rw [show e = mid by omega] at this
            exact this.same fun x hx hx' => P2.out.2.1 x (.inr hx)
          have J := joined (a := a) (b := b) (mid := mid) (by omega) (by omega) (by omega) V1.out.2.2.2.2 P2.out (permIn_refl _ _ _) T2.out T3
          have J' : Hid (PermIn a b d1 d2 ∧ Asc Rr a b d2) := J
          clear J T3
          go_wp2
          go_end0
          exact ⟨rfl, d2, S3'.out, permIn_trans _ _ _ _ _ P1.out J'.out.1, J'.out.2⟩
end Go.Proofs.YtpkjpiphjdpegaaDoor.Z
namespace Go.Proofs.YtpkjpiphjdpegaaDoor.Z
open Go.Shelf Go.RowKit Go.Lib Go.Sort Go.Proofs
set_option linter.unusedVariables false
set_option linter.unusedSimpArgs false
variable {α : Type} [Inhabited α]

theorem symMerge_is (k : Nat) (aE : ∀ w, (isAgg 44).run Tryd.prog w = .ok true w) (zE : ∀ w, (Go.sizeOf 44).run Tryd.prog w = .ok k w) (enc : α → List Value) (cf : α → α → Int) (Rr : α → α → Prop) (g : Nat) (cb : Array Value) (blk off cap : Nat) (d0 : Array α) (w0 : World)
    (R : RowK enc k w0 blk off d0) (hcmp : CmpLays Tryd.prog g cb enc k cf blk off d0.size w0) (eg : ∀ args w, (callFunc g args).run Tryd.prog w = .ok (.enter g args) w) (hT : ∀ x y z, Rr x y → Rr y z → Rr x z) (hsz : d0.size < 4611686018427387904) : ∀ (N : Nat), ∀ (a m b : Nat) (d : Array α) (w : World), b - a ≤ N → a < m → m < b → b ≤ d.size → d.size = d0.size → Asc Rr a m d → Asc Rr m b d → Cross cf Rr a m b d → SWK enc k w0 blk off d w → Calls Tryd.prog 123 #[.slice (some ⟨blk, off, none⟩) d0.size cap, .int .i64 a, .int .i64 m, .int .i64 b, .func (.func g) #[] cb] w fun e w' => e = .returned (.tuple #[]) ∧ ∃ d', SWK enc k w0 blk off d' w' ∧ PermIn a b d d' ∧ Asc Rr a b d'
  | 0 => fun a m b d w hN h1 h2 _ _ _ _ _ _ => by omega
  | N + 1 => fun a m b d w hN h1 h2 h3 h4 h5 h6 h7 h8 => by
    by_cases c1 : m - a = 1
    · exact symMerge_left k aE zE enc cf Rr g cb blk off cap d0 w0 R hcmp eg hT hsz a m b d w h1 h2 h3 h4 h5 h6 h7 h8 c1
    · by_cases c2 : b - m = 1
      · exact symMerge_right k aE zE enc cf Rr g cb blk off cap d0 w0 R hcmp eg hT hsz a m b d w h1 h2 h3 h4 h5 h6 h7 h8 c1 c2
      · by_cases c3 : (a + b) / 2 < m
        · exact symMerge_coreL k aE zE enc cf Rr g cb blk off cap d0 w0 R hcmp eg hT hsz N (symMerge_is k aE zE enc cf Rr g cb blk off cap d0 w0 R hcmp eg hT hsz N) a m b d w h1 h2 h3 h4 h5 h6 h7 h8 hN c1 c2 _ rfl c3
        · exact symMerge_coreR k aE zE enc cf Rr g cb blk off cap d0 w0 R hcmp eg hT hsz N (symMerge_is k aE zE enc cf Rr g cb blk off cap d0 w0 R hcmp eg hT hsz N) a m b d w h1 h2 h3 h4 h5 h6 h7 h8 hN c1 c2 _ rfl c3
end Go.Proofs.YtpkjpiphjdpegaaDoor.Z
