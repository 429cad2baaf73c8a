/- A program of this session wrote this text out of the session's own texts. (part 13 of 45) -/
import Derived.Test.YtpkjpiphjdpegaaDoorCLedgerImportsQ
import Derived.Test.YtpkjpiphjdpegaaDoorCLedgerImports12
import Derived.Sort.Walk0
namespace Go.Proofs.YtpkjpiphjdpegaaDoor.Z
open Go.Sort
set_option linter.unusedVariables false
set_option linter.unusedSimpArgs false
theorem kl_irrefl (x : List UInt8) : Op.bytesLess x x = false := by rw [bytesLess_eq]; exact swo_ltStr.irrefl x
theorem kl_trans {x y z : List UInt8} (h : Op.bytesLess x y = true) (k : Op.bytesLess y z = true) : Op.bytesLess x z = true := by
 rw [bytesLess_eq] at *; exact swo_ltStr.trans x y z h k
theorem kl_ntrans {x y z : List UInt8} (h : Op.bytesLess x y = false) (k : Op.bytesLess y z = false) : Op.bytesLess x z = false := by
 rw [bytesLess_eq] at *; exact swo_ltStr.ntrans x y z h k
theorem kl_tri {x y : List UInt8} (h : Op.bytesLess x y = false) (k : Op.bytesLess y x = false) : x = y := by
 rw [bytesLess_eq] at h k; simp only [decide_eq_false_iff_not, List.not_lt] at h k; exact List.le_antisymm k h
theorem kl_asym {x y : List UInt8} (h : Op.bytesLess x y = true) : Op.bytesLess y x = false := by
 cases c : Op.bytesLess y x with
 | false => rfl
 | true => have := kl_trans h c; rw [kl_irrefl] at this; cases this
variable {σ : Type} (key : σ → List UInt8)
def ltB (x y : σ × Nat) : Bool := Op.bytesLess (key x.1) (key y.1) || (key x.1 == key y.1 && decide (x.2 < y.2))
def Rb (x y : σ × Nat) : Prop := ltB key y x = false
theorem ltB_true {x y : σ × Nat} : ltB key x y = true ↔ Op.bytesLess (key x.1) (key y.1) = true ∨ (key x.1 = key y.1 ∧ x.2 < y.2) := by
 unfold ltB; simp
theorem ltB_false {x y : σ × Nat} : ltB key x y = false ↔ Op.bytesLess (key x.1) (key y.1) = false ∧ (key x.1 = key y.1 → y.2 ≤ x.2) := by
 unfold ltB; rw [Bool.or_eq_false_iff, Bool.and_eq_false_iff]; simp only [beq_eq_false_iff_ne, decide_eq_false_iff_not, Nat.not_lt]; exact and_congr Iff.rfl ⟨fun h e => h.resolve_left (fun k => k e), fun h => (Classical.em (key x.1 = key y.1)).elim (fun e => .inr (h e)) .inl⟩
theorem swo_ltB : SWO (ltB key) where
 irrefl x := (ltB_false key).2 ⟨kl_irrefl _, fun _ => Nat.le_refl _⟩
 trans x y z h k := by
  rw [ltB_true] at *
  rcases h with h | ⟨h, h'⟩ <;> rcases k with k | ⟨k, k'⟩
  ·exact .inl (kl_trans h k)
  ·rw [← k]; exact .inl h
  ·rw [h]; exact .inl k
  ·exact .inr ⟨h.trans k, zv1⟩
 ntrans x y z h k := by
  rw [ltB_false] at *; refine ⟨kl_ntrans h.1 k.1, fun e => ?_⟩; have e1 : key x.1 = key y.1 := kl_tri h.1 (by rw [e]; exact k.1); have e2 : key y.1 = key z.1 := e1.symm.trans e; have := h.2 e1; have := k.2 e2; omega
theorem rb_trans (x y z : σ × Nat) (h : Rb key x y) (k : Rb key y z) : Rb key x z := (swo_ltB key).ntrans z y x k h
variable [Inhabited σ]
theorem cross_of {cf : σ × Nat → σ × Nat → Int} (hcf : ∀ x y, cf x y < 0 ↔ Op.bytesLess (key x.1) (key y.1) = true) {a m b : Nat} {d : Array (σ × Nat)}
  (ht : ∀ i j, a ≤ i → i < m → m ≤ j → j < b → d[i]!.2 < d[j]!.2) : Cross cf (Rb key) a m b d := by
 intro i j hi hi' hj hj'; have t := ht i j hi hi' hj hj'; refine ⟨fun h => ?_, fun h => ?_⟩
 ·rw [hcf] at h; refine (ltB_false key).2 ⟨kl_asym h, fun e => ?_⟩; rw [e, kl_irrefl] at h; cases h
 ·rw [hcf] at h; exact (ltB_false key).2 ⟨(by simpa using h), fun e => by omega⟩
section
variable {α : Type} [Inhabited α]
theorem insInner_perm (lt : α → α → Bool) (a i : Nat) : ∀ (j : Nat) (d : Array α), j ≤ i → i < d.size → PermIn a (i + 1) d (insInner lt a j d)
 | 0, d, _, _ => permIn_refl _ _ _
 | j + 1, d, hj, hs => by
  rw [insInner]
  split
  ·rename_i c
   have c1 : j + 1 > a := by simp only [Bool.and_eq_true, decide_eq_true_eq] at c; exact c.1
   have s := size_swp d (j + 1) j; exact permIn_trans _ _ _ _ _ (swp_permIn d a (i + 1) (j + 1) j zv1 zv1 zv1 zv1 zv1) (insInner_perm lt a i j _ zv1 zv1)
  ·exact permIn_refl _ _ _
theorem insInner_same (lt lt' : α → α → Bool) (a : Nat) : ∀ (j : Nat) (d : Array α), j < d.size → (∀ p, a ≤ p → p < j → lt d[j]! d[p]! = lt' d[j]! d[p]!) → insInner lt a j d = insInner lt' a j d
 | 0, d, _, _ => rfl
 | j + 1, d, hs, h => by
  rw [insInner, insInner]
  by_cases c : j + 1 > a
  ·rw [h j zv1 zv1]; have g := swp_get d hs (show j < d.size by omega)
   rw [insInner_same lt lt' a j (swp d (j + 1) j) (by rw [size_swp]; omega) fun p hp hpj => by
    rw [g, g, if_pos rfl, if_neg zv1, if_neg zv1]
    exact h p hp zv1]
  ·rw [decide_eq_false c, Bool.false_and, Bool.false_and]; rfl
theorem insOuter_same (lt lt' : α → α → Bool) (a b : Nat) : ∀ (n i : Nat) (d : Array α), b - i ≤ n → b ≤ d.size → (∀ p q, a ≤ p → p < q → i ≤ q → q < b → lt d[q]! d[p]! = lt' d[q]! d[p]!) → insOuter lt a b i d = insOuter lt' a b i d
 | 0, i, d, hn, hb, h => by rw [insOuter, if_neg zv1, insOuter, if_neg zv1]
 | n + 1, i, d, hn, hb, h => by
  by_cases c : i < b
  ·conv => lhs; rw [insOuter, if_pos c]
   conv => rhs; rw [insOuter, if_pos c]
   rw [insInner_same lt lt' a i d zv1 (fun p hp hpi => h p i hp hpi (Nat.le_refl _) c)]; have P := insInner_perm lt' a i i d (Nat.le_refl _) zv1; refine insOuter_same lt lt' a b n (i + 1) _ zv1 (by rw [P.1]; exact hb) fun p q hp hpq hq hqb => ?_
   rw [P.2.1 q zv1]
   by_cases e : i + 1 ≤ p
   ·rw [P.2.1 p zv1]; exact h p q hp hpq zv1 hqb
   ·exact permIn_all d _ a (i + 1) (fun x => lt d[q]! x = lt' d[q]! x) zv1 P (fun k hk hk' => h k q hk zv1 zv1 hqb) p hp zv1
  ·rw [insOuter, if_neg c, insOuter, if_neg c]
end
theorem insertion_stable {cf : σ × Nat → σ × Nat → Int} (hcf : ∀ x y, cf x y < 0 ↔ Op.bytesLess (key x.1) (key y.1) = true) {a b : Nat} {d : Array (σ × Nat)} (hab : a ≤ b) (hb : b ≤ d.size)
  (ht : ∀ i j, a ≤ i → i < j → j < b → d[i]!.2 < d[j]!.2) :
  PermIn a b d (insertionSort (fun x y => decide (cf x y < 0)) d a b) ∧ Asc (Rb key) a b (insertionSort (fun x y => decide (cf x y < 0)) d a b) := by
 have e : insertionSort (fun x y => decide (cf x y < 0)) d a b = insertionSort (ltB key) d a b := by
  unfold insertionSort; refine insOuter_same _ _ a b (b - (a + 1)) (a + 1) d (Nat.le_refl _) hb fun p q hp hpq hq hqb => ?_
  have t := ht p q hp hpq hqb; rw [Bool.eq_iff_iff, decide_eq_true_eq, hcf, ltB_true]; exact ⟨.inl, fun h => h.elim id fun k => by omega⟩
 rw [e]; exact insertionSort_holds (swo_ltB key) d a b hab hb
def insL {τ : Type} (key : τ → List UInt8) (x : τ) : List τ → List τ
 | [] => [x]
 | y :: l => if Op.bytesLess (key x) (key y) = true then x :: y :: l else y :: insL key x l
def sortL {τ : Type} (key : τ → List UInt8) (l : List τ) : List τ := l.foldl (fun acc x => insL key x acc) []
omit [Inhabited σ] in
theorem insL_fst (x : σ × Nat) : ∀ l : List (σ × Nat), (insL (fun y => key y.1) x l).map Prod.fst = insL key x.1 (l.map Prod.fst)
 | [] => rfl
 | y :: l => by
  rw [insL, List.map_cons, insL]
  split
  ·rfl
  ·rw [List.map_cons, insL_fst x l]
omit [Inhabited σ] in
theorem fold_fst : ∀ (l acc : List (σ × Nat)), (l.foldl (fun acc x => insL (fun y => key y.1) x acc) acc).map Prod.fst = (l.map Prod.fst).foldl (fun acc x => insL key x acc) (acc.map Prod.fst)
 | [], acc => rfl
 | x :: l, acc => by rw [List.foldl_cons, fold_fst l, insL_fst, List.map_cons, List.foldl_cons]
theorem insL_perm {τ : Type} (key : τ → List UInt8) (x : τ) : ∀ l : List τ, (insL key x l).Perm (x :: l)
 | [] => List.Perm.refl _
 | y :: l => by
  rw [insL]
  split
  ·exact List.Perm.refl _
  ·exact ((insL_perm key x l).cons y).trans (List.Perm.swap x y l)
omit [Inhabited σ] in
theorem insL_sorted (x : σ × Nat) : ∀ l : List (σ × Nat), l.Pairwise (Rb key) → (∀ y ∈ l, y.2 < x.2) → (insL (fun y => key y.1) x l).Pairwise (Rb key)
 | [], _, _ => by simp [insL]
 | y :: l, hs, ht => by
  obtain ⟨h1, h2⟩ := List.pairwise_cons.1 hs; have ty := ht y (List.mem_cons_self ..); rw [insL]
  split
  ·rename_i c
   have xy : Rb key x y := (ltB_false key).2 ⟨kl_asym c, fun e => by rw [e, kl_irrefl] at c; cases c⟩; refine List.pairwise_cons.2 ⟨fun z hz => ?_, hs⟩
   rcases List.mem_cons.1 hz with rfl | hz
   ·exact xy
   ·exact rb_trans key _ _ _ xy (h1 z hz)
  ·rename_i c
   refine List.pairwise_cons.2 ⟨fun z hz => ?_, insL_sorted x l h2 fun z hz => ht z (List.mem_cons_of_mem _ hz)⟩
   rcases List.mem_cons.1 ((insL_perm (fun y : σ × Nat => key y.1) x l).mem_iff.1 hz) with rfl | hz
   ·exact (ltB_false key).2 ⟨(by simpa using c), fun _ => by omega⟩
   ·exact h1 z hz
omit [Inhabited σ] in
theorem fold_sorted : ∀ (l : List σ) (n : Nat) (acc : List (σ × Nat)), acc.Pairwise (Rb key) → (∀ y ∈ acc, y.2 < n) →
  ((l.zipIdx n).foldl (fun acc x => insL (fun y => key y.1) x acc) acc).Pairwise (Rb key) ∧ ((l.zipIdx n).foldl (fun acc x => insL (fun y => key y.1) x acc) acc).Perm (acc ++ l.zipIdx n)
 | [], n, acc, hs, ht => ⟨hs, zv10⟩
 | x :: l, n, acc, hs, ht => by
  rw [List.zipIdx_cons, List.foldl_cons]; have P := insL_perm (fun y : σ × Nat => key y.1) (x, n) acc
  obtain ⟨r1, r2⟩ := fold_sorted l (n + 1) (insL (fun y => key y.1) (x, n) acc) (insL_sorted key (x, n) acc hs ht) (fun y hy => by
   rcases List.mem_cons.1 (P.mem_iff.1 hy) with rfl | hy
   ·exact Nat.lt_succ_self n
   ·have := ht y hy; omega)
  refine ⟨r1, r2.trans ?_⟩; refine (P.append_right _).trans ?_; rw [List.cons_append]; exact (List.perm_middle (a := (x, n)) (l₁ := acc) (l₂ := l.zipIdx (n + 1))).symm
omit [Inhabited σ] in
theorem tag_inj {l : List σ} {x y : σ × Nat} (hx : x ∈ l.zipIdx) (hy : y ∈ l.zipIdx) (h : x.2 = y.2) : x = y := by
 obtain ⟨a, i⟩ := x; obtain ⟨b, j⟩ := y; have h1 := List.mem_zipIdx_iff_getElem?.1 hx; have h2 := List.mem_zipIdx_iff_getElem?.1 hy; simp only at h h1 h2; subst h; rw [h1] at h2; cases h2; rfl
theorem stable_is (l : List σ) (d' : Array (σ × Nat)) (hp : PermIn 0 l.length l.zipIdx.toArray d') (hs : Asc (Rb key) 0 l.length d') : d'.toList.map Prod.fst = sortL key l := by
 obtain ⟨r1, r2⟩ := fold_sorted key l 0 [] List.Pairwise.nil (fun y hy => by cases hy); rw [List.nil_append] at r2; have sz : d'.size = l.length := by rw [hp.1]; simp
 have P : d'.toList.Perm l.zipIdx := by
  have := hp.2.2
  rw [show d'.extract 0 l.length = d' by rw [← sz]; exact Array.extract_size, show l.zipIdx.toArray.extract 0 l.length = l.zipIdx.toArray by
   have : l.length = l.zipIdx.toArray.size := by simp
   rw [this]; exact Array.extract_size] at this
  exact this
 have e : d'.toList = l.zipIdx.foldl (fun acc x => insL (fun y => key y.1) x acc) [] := by
  refine List.Perm.eq_of_pairwise (le := Rb key) ?_ ?_ r1 (P.trans r2.symm)
  ·intro x y hx hy h1 h2; have mx := P.mem_iff.1 hx; have my := r2.mem_iff.1 hy; have f1 := (ltB_false key).1 h1; have f2 := (ltB_false key).1 h2; have k := kl_tri f1.1 f2.1; have a1 := f1.2 k; have a2 := f2.2 k.symm; exact tag_inj mx my zv1
  ·rw [List.pairwise_iff_getElem]; intro i j hi hj hij; have hi' : i < d'.size := by simpa using hi
   have hj' : j < d'.size := by simpa using hj
   have := hs i j (Nat.zero_le _) hij zv1; rw [getElem!_pos d' j hj', getElem!_pos d' i hi'] at this
   simpa using this
 rw [e, fold_fst]; unfold sortL
 congr 1
 simp [List.zipIdx_map_fst]
end Go.Proofs.YtpkjpiphjdpegaaDoor.Z
