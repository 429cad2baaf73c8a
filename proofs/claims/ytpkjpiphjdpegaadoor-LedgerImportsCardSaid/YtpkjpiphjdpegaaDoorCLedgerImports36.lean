/- A program of this session wrote this text out of the session's own texts. (part 36 of 45) -/
import Derived.Test.YtpkjpiphjdpegaaDoorCLedgerImportsQ
import Derived.Test.YtpkjpiphjdpegaaDoorCLedgerImports4
import Derived.Test.YtpkjpiphjdpegaaDoorCLedgerImports6
import Derived.Test.YtpkjpiphjdpegaaDoorCLedgerImports17
import Derived.Test.YtpkjpiphjdpegaaDoorCLedgerImports20
import Derived.Test.YtpkjpiphjdpegaaDoorCLedgerImports28
import Derived.Test.YtpkjpiphjdpegaaDoorCLedgerImports32
import Derived.Test.YtpkjpiphjdpegaaDoorCLedgerImports33
import Derived.Test.YtpkjpiphjdpegaaDoorCLedgerImports34
namespace Go.Proofs.YtpkjpiphjdpegaaDoor.P
open Go.RowKit Go.Proofs.YtpkjpiphjdpegaaDoorW.PrintWords Go.Proofs.YtpkjpiphjdpegaaDoorW.PrintLast Go.Proofs.YtpkjpiphjdpegaaDoorW.PrintMore
open Go.Sort Go.Proofs Go.Proofs.YtpkjpiphjdpegaaDoor.Z
set_option linter.unusedVariables false
set_option linter.unusedSimpArgs false
attribute [local instance] inhS44
structure Srt (l s : List S44) (T : Nat → Nat) : Prop where
 len : s.length = l.length
 lt : ∀ i, i < l.length → T i < l.length
 at_ : ∀ i, i < l.length → s.getD i z44 = l.getD (T i) z44
 onto : ∀ k, k < l.length → ∃ i, i < l.length ∧ T i = k
 inj : ∀ i j, i < j → j < l.length → T i ≠ T j
 asc : ∀ i j, i < j → j < l.length → Op.bytesLess (rowKey (s.getD j z44)) (rowKey (s.getD i z44)) = false ∧ (rowKey (s.getD j z44) = rowKey (s.getD i z44) → T i ≤ T j)
theorem srt_is (l : List S44) : ∃ T, Srt l (sortL rowKey l) T := by
 obtain ⟨r1, r2⟩ := fold_sorted rowKey l 0 [] List.Pairwise.nil (fun y hy => by cases hy); have r3 := fold_fst rowKey (l.zipIdx 0) []; rw [List.nil_append] at r2; generalize (l.zipIdx 0).foldl (fun acc x => insL (fun y => rowKey y.1) x acc) [] = D at r1 r2 r3
 have e : D.map Prod.fst = sortL rowKey l := by
  rw [r3]; unfold sortL
  congr 1
  simp [List.zipIdx_map_fst]
 have dl : D.length = l.length := by rw [r2.length_eq]; simp
 have gd : ∀ i (h : i < D.length), (sortL rowKey l).getD i z44 = D[i].1 ∧ (D.getD i (z44, 0)).2 = D[i].2 := fun i h => by
  rw [← e, List.getD_eq_getElem?_getD, List.getElem?_map, List.getD_eq_getElem?_getD, List.getElem?_eq_getElem h]; exact ⟨rfl, rfl⟩
 have mem : ∀ i (h : i < D.length), l[D[i].2]? = some D[i].1 := fun i h => by
  have := r2.mem_iff.1 (List.getElem_mem h); have := List.mem_zipIdx_iff_getElem?.1 this
  simpa using this
 refine ⟨fun i => (D.getD i (z44, 0)).2, ⟨by rw [← e, List.length_map, dl], fun i hi => ?_, fun i hi => ?_, fun k hk => ?_, fun i j hij hj => ?_, fun i j hij hj => ?_⟩⟩
 ·rw [(gd i zv1).2]; exact (List.getElem?_eq_some_iff.1 (mem i zv1)).1
 ·rw [(gd i zv1).1, (gd i zv1).2, List.getD_eq_getElem?_getD, mem i zv1]; rfl
 ·have : (l[k], k) ∈ l.zipIdx 0 := List.mem_zipIdx_iff_getElem?.2 zv10; have := r2.mem_iff.2 this; obtain ⟨i, hi, he⟩ := List.getElem_of_mem this; refine ⟨i, zv1, ?_⟩; rw [(gd i hi).2, he]
 ·rw [(gd i zv1).2, (gd j zv1).2]; have p := (r2.map Prod.snd)
  have nd : (D.map Prod.snd).Nodup := by
   refine p.nodup_iff.2 ?_; rw [List.zipIdx_map_snd]; exact List.nodup_range' ..
  have := List.pairwise_iff_getElem.1 nd i j (by rw [List.length_map]; omega) (by rw [List.length_map]; omega) hij
  simpa using this
 ·have := List.pairwise_iff_getElem.1 r1 i j zv1 zv1 hij; have f := (ltB_false rowKey).1 this; rw [(gd i zv1).1, (gd j zv1).1, (gd i zv1).2, (gd j zv1).2]; exact f
theorem sort_len (l : List S44) : (sortL rowKey l).length = l.length := by
 obtain ⟨T, h⟩ := srt_is l; exact h.len
theorem sort_f (l : List S44) (h : l.length ≤ 1000000) : row_Sort.f l = some (sortL rowKey l) := if_pos h
end Go.Proofs.YtpkjpiphjdpegaaDoor.P
namespace Go.Proofs.YtpkjpiphjdpegaaDoor.P
open Go.RowKit Go.Proofs.YtpkjpiphjdpegaaDoorW.PrintWords Go.Proofs.YtpkjpiphjdpegaaDoorW.PrintLast Go.Proofs.YtpkjpiphjdpegaaDoorW.PrintMore
open Go.Sort Go.Proofs Go.Proofs.YtpkjpiphjdpegaaDoor.Z
set_option linter.unusedVariables false
set_option linter.unusedSimpArgs false
def amtR (y : S44) : Int := val y.f1.f0 y.f1.f1
def okA (y : S44) : Prop := U64 y.f1.f0 ∧ U64 y.f1.f1
def sumOf : List S44 → Int
 | [] => 0
 | y :: l => amtR y + sumOf l
theorem sumOf_app : ∀ l r : List S44, sumOf (l ++ r) = sumOf l + sumOf r
 | [], r => by rw [List.nil_append, sumOf]; omega
 | y :: l, r => by rw [List.cons_append, sumOf, sumOf, sumOf_app l r]; omega
theorem sumOf_snoc (l : List S44) (y : S44) : sumOf (l ++ [y]) = sumOf l + amtR y := by rw [sumOf_app, sumOf, sumOf]; omega
theorem sumOf_ge : ∀ l : List S44, (∀ y ∈ l, okA y) → 0 ≤ sumOf l
 | [], _ => Int.le_refl _
 | y :: l, h => by
  have ih := sumOf_ge l fun z hz => h z (List.mem_cons_of_mem _ hz)
  have := (val_range _ _ (h y (List.mem_cons_self ..)).1 (h y (List.mem_cons_self ..)).2).1; rw [sumOf]; unfold amtR; omega
def idIn (rows : List S44) (s : ByteArray) : Bool := rows.any fun y => y.f0.toList == s.toList
theorem idIn_iff (rows : List S44) (s : ByteArray) : idIn rows s = true ↔ s.toList ∈ rows.map rowKey := by
 unfold idIn rowKey; rw [List.any_eq_true, List.mem_map]
 constructor
 ·rintro ⟨y, hy, e⟩; exact ⟨y, hy, (by simpa using e)⟩
 ·rintro ⟨y, hy, e⟩; exact ⟨y, hy, (by simpa using e)⟩
theorem idIn_snoc (rows : List S44) (y : S44) (s : ByteArray) : idIn (rows ++ [y]) s = (idIn rows s || (y.f0.toList == s.toList)) := by
 unfold idIn; rw [List.any_append, List.any_cons, List.any_nil, Bool.or_false]
def putErr (most : Int) (rows : List S44) (y : S44) : Int :=
 if (rows.length : Int) = most then 111 else if idIn rows y.f0 = true then 110 else if sumOf rows + amtR y < m128 then 0 else 112
theorem putErr_ne (most : Int) (rows : List S44) (y : S44) : putErr most rows y = 0 ∨ putErr most rows y = 110 ∨ putErr most rows y = 111 ∨ putErr most rows y = 112 := by
 unfold putErr; repeat' split
 ·exact .inr (.inr (.inl rfl))
 ·exact .inr (.inl rfl)
 ·exact .inl rfl
 ·exact .inr (.inr (.inr rfl))
structure Good (most : Int) (l : List S44) : Prop where
 len : (l.length : Int) ≤ most
 ids : (l.map rowKey).Nodup
 sum : sumOf l < m128
theorem good_pre {most : Int} {l r : List S44} (h : Good most (l ++ r)) (hr : ∀ y ∈ r, okA y) : Good most l := by
 obtain ⟨h1, h2, h3⟩ := h; rw [List.length_append] at h1; rw [List.map_append, List.nodup_append] at h2; rw [sumOf_app] at h3; have := sumOf_ge r hr; exact ⟨zv1, h2.1, zv1⟩
theorem good_nil {most : Int} (h : 0 ≤ most) : Good most [] := ⟨h, List.nodup_nil, (by show (0 : Int) < m128; unfold m128; omega)⟩
theorem put_ok {most : Int} {l : List S44} {y : S44} (h : Good most l) : putErr most l y = 0 ↔ Good most (l ++ [y]) := by
 obtain ⟨h1, h2, h3⟩ := h
 have e : Good most (l ++ [y]) ↔ ((l.length : Int) + 1 ≤ most ∧ idIn l y.f0 = false ∧ sumOf l + amtR y < m128) := by
  constructor
  ·rintro ⟨a, b, c⟩; rw [List.length_append, List.length_singleton] at a; rw [sumOf_snoc] at c; rw [List.map_append, List.nodup_append] at b; refine ⟨zv1, ?_, c⟩; rw [← Bool.not_eq_true, idIn_iff]; intro m; exact b.2.2 _ m (rowKey y) zv10 rfl
  ·rintro ⟨a, b, c⟩; refine ⟨by rw [List.length_append, List.length_singleton]; omega, ?_, (by rw [sumOf_snoc]; exact c)⟩; rw [← Bool.not_eq_true, idIn_iff] at b; rw [List.map_append, List.nodup_append]; refine ⟨h2, by simp, ?_⟩; intro x hx z hz e; rw [List.map_cons, List.map_nil, List.mem_singleton] at hz; exact b (by rw [show y.f0.toList = x from (hz ▸ e).symm]; exact hx)
 rw [e]; unfold putErr
 constructor
 ·intro q
  by_cases c1 : (l.length : Int) = most
  ·rw [if_pos c1] at q; exact absurd q zvz
  ·rw [if_neg c1] at q
   by_cases c2 : idIn l y.f0 = true
   ·rw [if_pos c2] at q; exact absurd q zvz
   ·rw [if_neg c2] at q
    by_cases c3 : sumOf l + amtR y < m128
    ·exact ⟨zv1, (by simpa using c2), c3⟩
    ·rw [if_neg c3] at q; exact absurd q zvz
 ·rintro ⟨a, b, c⟩; rw [if_neg zv1, if_neg (by rw [b]; decide), if_pos c]
def rowQ (h : List UInt8) : List S44 := if (oneB h).2.2.2.1 = true then [⟨(oneB h).1, ⟨(oneB h).2.1, (oneB h).2.2.1⟩⟩] else []
def rowsQ (L : List (List UInt8)) : List S44 := L.flatMap rowQ
theorem rowsQ_cons (h : List UInt8) (L : List (List UInt8)) : rowsQ (h :: L) = rowQ h ++ rowsQ L := List.flatMap_cons
theorem rowQ_len (h : List UInt8) : (rowQ h).length ≤ 1 := by unfold rowQ; split <;> simp
theorem rowsQ_len : ∀ L : List (List UInt8), (rowsQ L).length ≤ L.length
 | [] => Nat.le_refl _
 | h :: L => by
  have := rowsQ_len L; have := rowQ_len h; rw [rowsQ_cons, List.length_append, List.length_cons]; omega
theorem rowQ_is (h : List UInt8) : ∀ y ∈ rowQ h, mayId y.f0 = true ∧ okA y := by
 intro y hy; unfold rowQ at hy
 by_cases c : (oneB h).2.2.2.1 = true
 ·rw [if_pos c, List.mem_singleton] at hy; subst hy; unfold oneB at c ⊢
  by_cases w : wrongOf h = 0
  ·rw [if_pos w] at c ⊢
   by_cases q : kindOf h = 2
   ·rw [if_pos q] at c ⊢; have z : (zRw h).2.2.2 = 0 := by simpa using c
    obtain ⟨_, p1, p2, p3⟩ := parse_line h z; exact ⟨p3, p1, p2⟩
   ·rw [if_neg q] at c; cases c
  ·rw [if_neg w] at c; cases c
 ·rw [if_neg c] at hy; cases hy
theorem rowsQ_is (L : List (List UInt8)) : ∀ y ∈ rowsQ L, mayId y.f0 = true ∧ okA y := by
 intro y hy; obtain ⟨h, _, hh⟩ := List.mem_flatMap.1 hy; exact rowQ_is h y hh
def impL (most : Int) : Int → List S44 → List (List UInt8) → List S44 × Int × Int
 | _, acc, [] => (acc, 0, 0)
 | n, acc, h :: r =>
  if (oneB h).2.2.2.2 = 0 then (if (oneB h).2.2.2.1 = true then (if putErr most acc ⟨(oneB h).1, ⟨(oneB h).2.1, (oneB h).2.2.1⟩⟩ = 0 then impL most (n + 1) (acc ++ [⟨(oneB h).1, ⟨(oneB h).2.1, (oneB h).2.2.1⟩⟩]) r
   else ([], n, putErr most acc ⟨(oneB h).1, ⟨(oneB h).2.1, (oneB h).2.2.1⟩⟩)) else impL most (n + 1) acc r) else ([], n, (oneB h).2.2.2.2)
def lineE (most : Int) (acc : List S44) (h : List UInt8) : Int := if (oneB h).2.2.2.2 = 0 then (if (oneB h).2.2.2.1 = true then putErr most acc ⟨(oneB h).1, ⟨(oneB h).2.1, (oneB h).2.2.1⟩⟩ else 0) else (oneB h).2.2.2.2
theorem impL_cons (most n : Int) (acc : List S44) (h : List UInt8) (r : List (List UInt8)) : impL most n acc (h :: r) = if lineE most acc h = 0 then impL most (n + 1) (acc ++ rowQ h) r else ([], n, lineE most acc h) := by
 rw [impL]; unfold lineE rowQ
 by_cases c : (oneB h).2.2.2.2 = 0
 ·rw [if_pos c, if_pos c]
  by_cases z : (oneB h).2.2.2.1 = true
  ·rw [if_pos z, if_pos z, if_pos z]
  ·rw [if_neg z, if_neg z, if_neg z, if_pos rfl, List.append_nil]
 ·rw [if_neg c, if_neg c, if_neg c]
theorem lineE_ok {most : Int} {acc : List S44} {h : List UInt8} (hg : Good most acc) : lineE most acc h = 0 ↔ (oneB h).2.2.2.2 = 0 ∧ Good most (acc ++ rowQ h) := by
 unfold lineE rowQ
 by_cases c : (oneB h).2.2.2.2 = 0
 ·rw [if_pos c]
  by_cases z : (oneB h).2.2.2.1 = true
  ·rw [if_pos z, if_pos z, put_ok hg]; exact ⟨fun q => ⟨c, q⟩, fun q => q.2⟩
  ·rw [if_neg z, if_neg z, List.append_nil]; exact ⟨fun _ => ⟨c, hg⟩, fun _ => rfl⟩
 ·rw [if_neg c]; exact ⟨fun q => absurd q c, fun q => q.1⟩
theorem one_120 (h : List UInt8) : (oneB h).2.2.2.2 ≠ 120 := by
 unfold oneB
 by_cases w : wrongOf h = 0
 ·rw [if_pos w]
  by_cases q : kindOf h = 2
  ·rw [if_pos q]; show (zRw h).2.2.2 ≠ 120
   by_cases z : (zRw h).2.2.2 = 0
   ·rw [z]; decide
   ·rcases (parse_bad h z).2 with e | e | e <;> rw [e] <;> decide
  ·rw [if_neg q]; decide
 ·rw [if_neg w]; show wrongOf h ≠ 120
  rcases wrongOf_ne h with e | e | e <;> rw [e] <;> decide
theorem lineE_120 (most : Int) (acc : List S44) (h : List UInt8) : lineE most acc h ≠ 120 := by
 unfold lineE
 split
 ·split
  ·rcases putErr_ne most acc ⟨(oneB h).1, ⟨(oneB h).2.1, (oneB h).2.2.1⟩⟩ with e | e | e | e <;> rw [e] <;> decide
  ·decide
 ·exact one_120 h
theorem imp_ok {most : Int} : ∀ (L : List (List UInt8)) (acc : List S44) (n : Int), Good most acc →
  ((∀ h ∈ L, (oneB h).2.2.2.2 = 0) → Good most (acc ++ rowsQ L) → impL most n acc L = (acc ++ rowsQ L, 0, 0)) ∧
  ((impL most n acc L).2.2 = 0 → (∀ h ∈ L, (oneB h).2.2.2.2 = 0) ∧ Good most (acc ++ rowsQ L) ∧ impL most n acc L = (acc ++ rowsQ L, 0, 0)) ∧
  ((impL most n acc L).2.2 ≠ 0 → (impL most n acc L).1 = [] ∧ n ≤ (impL most n acc L).2.1 ∧ (impL most n acc L).2.1 < n + (L.length : Int) ∧ (impL most n acc L).2.2 ≠ 120)
 | [], acc, n, hg => by
  have e : acc ++ rowsQ [] = acc := List.append_nil acc; rw [e]; exact ⟨fun _ _ => rfl, fun _ => ⟨by simp, hg, rfl⟩, fun h => absurd rfl h⟩
 | h :: L, acc, n, hg => by
  rw [impL_cons, rowsQ_cons, List.length_cons]
  by_cases c : lineE most acc h = 0
  ·obtain ⟨c1, g1⟩ := (lineE_ok hg).1 c; obtain ⟨i1, i2, i3⟩ := imp_ok L (acc ++ rowQ h) (n + 1) g1; rw [if_pos c]; rw [List.append_assoc] at i1 i2; refine ⟨fun a b => i1 (fun z hz => a z (List.mem_cons_of_mem _ hz)) b, fun q => ?_, fun q => ?_⟩
   ·obtain ⟨a, b, e⟩ := i2 q; refine ⟨fun z hz => ?_, b, e⟩
    rcases List.mem_cons.1 hz with rfl | hz
    ·exact c1
    ·exact a z hz
   ·obtain ⟨a, b, e, f⟩ := i3 q; exact ⟨a, zv1, zv1, f⟩
  ·rw [if_neg c]; refine ⟨fun a b => ?_, fun q => absurd q c, fun q => ⟨rfl, (by show n ≤ n; omega), (by show n < _; omega), lineE_120 most acc h⟩⟩; have b' : Good most ((acc ++ rowQ h) ++ rowsQ L) := by rw [List.append_assoc]; exact b
   exact absurd ((lineE_ok hg).2 ⟨a h (List.mem_cons_self ..), good_pre b' fun y hy => (rowsQ_is L y hy).2⟩) c
def importOf (s : ByteArray) (h : Int) : List S44 × Int × Int :=
 if h < 0 ∨ 10 < h then ([], 0, 120) else if 65536 < s.size then ([], 0, 3)
 else (sortL rowKey (impL ((2 ^ h.toNat : Nat) : Int) 1 [] (splitB s.data.toList)).1, (impL ((2 ^ h.toNat : Nat) : Int) 1 [] (splitB s.data.toList)).2)
def ledger_Import.f (s : ByteArray) (h : Int) : Option (List S44 × Int × Int) := if s.size ≤ 1000000000 then some (importOf s h) else none
theorem importOf_bad (s : ByteArray) (h : Int) (hb : h < 0 ∨ 10 < h) : importOf s h = ([], 0, 120) := by unfold importOf; rw [if_pos hb]
theorem importOf_ok (s : ByteArray) (h : Int) (hb : ¬ (h < 0 ∨ 10 < h)) (hs : s.size ≤ 65536) : importOf s h =
  (sortL rowKey (impL ((2 ^ h.toNat : Nat) : Int) 1 [] (splitB s.data.toList)).1, (impL ((2 ^ h.toNat : Nat) : Int) 1 [] (splitB s.data.toList)).2) := by unfold importOf; rw [if_neg hb, if_neg zv1]
theorem import_f (s : ByteArray) (h : Int) (hs : s.size ≤ 1000000000) : ledger_Import.f s h = some (importOf s h) := if_pos hs
theorem most_pos (h : Int) : 0 ≤ ((2 ^ h.toNat : Nat) : Int) := Int.natCast_nonneg _
end Go.Proofs.YtpkjpiphjdpegaaDoor.P
namespace Go.Proofs.YtpkjpiphjdpegaaDoor.P
open Go.RowKit Go.Proofs.YtpkjpiphjdpegaaDoorW.PrintWords Go.Proofs.YtpkjpiphjdpegaaDoorW.PrintLast Go.Proofs.YtpkjpiphjdpegaaDoorW.PrintMore
open Go.Proofs.YtpkjpiphjdpegaaDoor.Z
set_option linter.unusedVariables false
set_option linter.unusedSimpArgs false
theorem insL_split (x : S44) : ∀ (A B : List S44), (∀ y ∈ A, Op.bytesLess (rowKey x) (rowKey y) = false) → (∀ y ∈ B, Op.bytesLess (rowKey x) (rowKey y) = true) → insL rowKey x (A ++ B) = A ++ x :: B
 | [], [], _, _ => rfl
 | [], y :: B, _, h => by
  rw [List.nil_append, insL, if_pos (h y (List.mem_cons_self ..))]; rfl
 | y :: A, B, h, h' => by
  rw [List.cons_append, insL, if_neg (by rw [h y (List.mem_cons_self ..)]; decide), insL_split x A B (fun z hz => h z (List.mem_cons_of_mem _ hz)) h']; rfl
theorem refSort_l1 (l acc : List S44) (i : Nat) (hi : i < l.length) (hl : l.length ≤ 2000) (ha : acc.length ≤ 2000) (hs : ∀ p q, p < q → q < acc.length → Op.bytesLess (rowKey (acc.getD q z44)) (rowKey (acc.getD p z44)) = false) (r : List S44)
  (R : ∃ k, paymasterref10_Sort.l0 k l (insL rowKey (l.getD i z44) acc) ((i + 1 : Nat) : Int) = some r) :
  ∀ p, p ≤ acc.length → (∀ y ∈ acc.drop p, Op.bytesLess (rowKey (l.getD i z44)) (rowKey y) = true) → ∃ k, paymasterref10_Sort.l1 k l acc (i : Int) (p : Int) = some r
 | 0, hp, hd => by
  obtain ⟨k, hk⟩ := R; refine ⟨k + 1, ?_⟩; have e := insL_split (l.getD i z44) [] acc zv10 (by rw [List.drop_zero] at hd; exact hd); rw [List.nil_append] at e; rw [e] at hk; have ri : rd_T44 l (i : Int) = l.getD i z44 := by unfold rd_T44; rw [Int.toNat_natCast]
  rw [paymasterref10_Sort.l1, if_neg zv1, Option.bind_some, if_pos zv1, if_pos zv1, Option.bind_some, if_pos zv27, Option.bind_some, Option.bind_some, if_pos zv1, if_pos zv1, if_pos zv10, Option.bind_some, if_pos zv27, ri, wrapI _ zv1 zv1, show (i : Int) + 1 = ((i + 1 : Nat) : Int) from by push_cast; rfl]; exact hk
 | p + 1, hp, hd => by
  have w1 : wrap64 (((p + 1 : Nat) : Int) - 1) = (p : Int) := by rw [wrapI _ zv1 zv1]; push_cast; omega
  have ri : rd_T44 l (i : Int) = l.getD i z44 := by unfold rd_T44; rw [Int.toNat_natCast]
  have rp : rd_T44 acc (p : Int) = acc.getD p z44 := by unfold rd_T44; rw [Int.toNat_natCast]
  have nx : acc.drop p = acc.getD p z44 :: acc.drop (p + 1) := by
   rw [List.drop_eq_getElem_cons zv1, List.getD_eq_getElem?_getD, List.getElem?_eq_getElem zv1]; rfl
  by_cases c : Op.bytesLess (l.getD i z44).f0.toList (acc.getD p z44).f0.toList = true
  ·obtain ⟨k, hk⟩ := refSort_l1 l acc i hi hl ha hs r R p zv1 (by
    rw [nx]; intro y hy
    rcases List.mem_cons.1 hy with rfl | hy
    ·exact c
    ·exact hd y hy)
   refine ⟨k + 1, ?_⟩; rw [paymasterref10_Sort.l1, if_pos zv1, w1, if_pos zv1, if_pos zv1, if_pos zv1, if_pos zv1, ri, rp, if_pos c]; exact hk
  ·obtain ⟨k, hk⟩ := R; refine ⟨k + 1, ?_⟩; have cf : Op.bytesLess (rowKey (l.getD i z44)) (rowKey (acc.getD p z44)) = false := by simpa [rowKey] using c
   have e := insL_split (l.getD i z44) (acc.take (p + 1)) (acc.drop (p + 1)) (fun y hy => by
    obtain ⟨q, hq, rfl⟩ := List.getElem_of_mem hy; rw [List.length_take] at hq; rw [List.getElem_take]; have gq : acc.getD q z44 = acc[q] := by rw [List.getD_eq_getElem?_getD, List.getElem?_eq_getElem zv1]; rfl
    rw [← gq]
    rcases Nat.lt_or_ge q p with h | h
    ·exact kl_ntrans cf (hs q p h zv1)
    ·rw [show q = p by omega]; exact cf) hd
   rw [List.take_append_drop] at e; rw [e] at hk; rw [paymasterref10_Sort.l1, if_pos zv1, w1, if_pos zv1, if_pos zv1, if_pos zv1, if_pos zv1, ri, rp, if_neg c, Option.bind_some, if_pos zv1, if_pos zv1, Option.bind_some, Int.toNat_natCast, if_pos zv27, Option.bind_some, Option.bind_some, if_pos zv3d, Option.bind_some, if_pos zv27, List.nil_append, List.append_assoc, wrapI _ zv1 zv1, show (i : Int) + 1 = ((i + 1 : Nat) : Int) from by push_cast; rfl]; exact hk
theorem refSort_l0 (l : List S44) (hl : l.length ≤ 2000) : ∀ (t i : Nat), i + t = l.length → ∃ k, paymasterref10_Sort.l0 k l (sortL rowKey (l.take i)) (i : Int) = some (sortL rowKey l)
 | 0, i, h => by
  obtain rfl : i = l.length := by omega
  exact ⟨1, (by rw [paymasterref10_Sort.l0, if_neg zv1, List.take_length])⟩
 | t + 1, i, h => by
  have R := refSort_l0 l hl t (i + 1) zv1
  have nx : l.take (i + 1) = l.take i ++ [l.getD i z44] := by
   rw [List.take_succ_eq_append_getElem zv1, List.getD_eq_getElem?_getD, List.getElem?_eq_getElem zv1]; rfl
  have e : sortL rowKey (l.take (i + 1)) = insL rowKey (l.getD i z44) (sortL rowKey (l.take i)) := by
   rw [nx]; unfold sortL; rw [List.foldl_append]; rfl
  rw [e] at R; obtain ⟨T, S⟩ := srt_is (l.take i); have sl := S.len; have tl : (l.take i).length = i := by rw [List.length_take]; omega
  obtain ⟨k, hk⟩ := refSort_l1 l (sortL rowKey (l.take i)) i zv1 hl zv1 (fun p q hpq hq => (S.asc p q hpq zv1).1) (sortL rowKey l) R (sortL rowKey (l.take i)).length (Nat.le_refl _) (by rw [List.drop_length]; simp); refine ⟨k + 1, ?_⟩; rw [paymasterref10_Sort.l0, if_pos zv1]; exact hk
theorem refSort_is (l : List S44) (hl : l.length ≤ 2000) : ∃ K, ∀ k, K ≤ k → paymasterref10_Sort.f k l = some (sortL rowKey l) := by
 obtain ⟨K, hK⟩ := refSort_l0 l hl l.length 0 zv1; exact ⟨K, fun k hk => up (F := fun k => paymasterref10_Sort.f k l) (paymasterref10_Sort.mono l) hK k hk⟩
end Go.Proofs.YtpkjpiphjdpegaaDoor.P
