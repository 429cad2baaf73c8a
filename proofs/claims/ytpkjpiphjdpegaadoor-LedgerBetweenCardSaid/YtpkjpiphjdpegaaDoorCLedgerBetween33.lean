/- A program of this session wrote this text out of the session's own texts. (part 33 of 46) -/
import Derived.Test.YtpkjpiphjdpegaaDoorCLedgerBetween14
import Derived.Test.YtpkjpiphjdpegaaDoorCLedgerBetween31
namespace Go.Proofs.YtpkjpiphjdpegaaDoor.P
open Go.RowKit Go.Proofs.YtpkjpiphjdpegaaDoorW.PrintWords Go.Proofs.YtpkjpiphjdpegaaDoorW.PrintLast Go.Proofs.YtpkjpiphjdpegaaDoorW.PrintMore
open Go.Sort Go.Proofs Go.Proofs.YtpkjpiphjdpegaaDoor.Z
set_option linter.unusedVariables false
set_option linter.unusedSimpArgs false
attribute [local instance] inhS44
structure Srt (l s : List S44) (T : Nat → Nat) : Prop where
  len : s.length = l.length
  lt : ∀ i, i < l.length → T i < l.length
  at_ : ∀ i, i < l.length → s.getD i z44 = l.getD (T i) z44
  onto : ∀ k, k < l.length → ∃ i, i < l.length ∧ T i = k
  inj : ∀ i j, i < j → j < l.length → T i ≠ T j
  asc : ∀ i j, i < j → j < l.length → Op.bytesLess (rowKey (s.getD j z44)) (rowKey (s.getD i z44)) = false ∧ (rowKey (s.getD j z44) = rowKey (s.getD i z44) → T i ≤ T j)
theorem srt_is (l : List S44) : ∃ T, Srt l (sortL rowKey l) T := by
  obtain ⟨r1, r2⟩ := fold_sorted rowKey l 0 [] List.Pairwise.nil (fun y hy => by cases hy)
  have r3 := fold_fst rowKey (l.zipIdx 0) []
  rw [List.nil_append] at r2
  generalize (l.zipIdx 0).foldl (fun acc x => insL (fun y => rowKey y.1) x acc) [] = D at r1 r2 r3
  have e : D.map Prod.fst = sortL rowKey l := by
    rw [r3]
    unfold sortL
    congr 1
    simp [List.zipIdx_map_fst]
  have dl : D.length = l.length := by rw [r2.length_eq]; simp
  have gd : ∀ i (h : i < D.length), (sortL rowKey l).getD i z44 = D[i].1 ∧ (D.getD i (z44, 0)).2 = D[i].2 := fun i h => by
    rw [← e, List.getD_eq_getElem?_getD, List.getElem?_map, List.getD_eq_getElem?_getD, List.getElem?_eq_getElem h]
    exact ⟨rfl, rfl⟩
  have mem : ∀ i (h : i < D.length), l[D[i].2]? = some D[i].1 := fun i h => by
    have := r2.mem_iff.1 (List.getElem_mem h)
    have := List.mem_zipIdx_iff_getElem?.1 this
    simpa using this
  refine ⟨fun i => (D.getD i (z44, 0)).2, ⟨by rw [← e, List.length_map, dl], fun i hi => ?_, fun i hi => ?_, fun k hk => ?_, fun i j hij hj => ?_, fun i j hij hj => ?_⟩⟩
  · rw [(gd i (by omega)).2]
    exact (List.getElem?_eq_some_iff.1 (mem i (by omega))).1
  · rw [(gd i (by omega)).1, (gd i (by omega)).2, List.getD_eq_getElem?_getD, mem i (by omega)]
    rfl
  · have : (l[k], k) ∈ l.zipIdx 0 := List.mem_zipIdx_iff_getElem?.2 (by simp)
    have := r2.mem_iff.2 this
    obtain ⟨i, hi, he⟩ := List.getElem_of_mem this
    refine ⟨i, by omega, ?_⟩
    rw [(gd i hi).2, he]
  · rw [(gd i (by omega)).2, (gd j (by omega)).2]
    have p := (r2.map Prod.snd)
    have nd : (D.map Prod.snd).Nodup := by
      refine p.nodup_iff.2 ?_
      rw [List.zipIdx_map_snd]
      exact List.nodup_range' ..
    have := List.pairwise_iff_getElem.1 nd i j (by rw [List.length_map]; omega) (by rw [List.length_map]; omega) hij
    simpa using this
  · have := List.pairwise_iff_getElem.1 r1 i j (by omega) (by omega) hij
    have f := (ltB_false rowKey).1 this
    rw [(gd i (by omega)).1, (gd j (by omega)).1, (gd i (by omega)).2, (gd j (by omega)).2]
    exact f
theorem sort_len (l : List S44) : (sortL rowKey l).length = l.length := by
  obtain ⟨T, h⟩ := srt_is l
  exact h.len
theorem sort_f (l : List S44) (h : l.length ≤ 1000000) : row_Sort.f l = some (sortL rowKey l) := if_pos h
end Go.Proofs.YtpkjpiphjdpegaaDoor.P
namespace Go.Proofs.YtpkjpiphjdpegaaDoor.P
open Go.RowKit Go.Proofs.YtpkjpiphjdpegaaDoorW.PrintWords Go.Proofs.YtpkjpiphjdpegaaDoorW.PrintLast Go.Proofs.YtpkjpiphjdpegaaDoorW.PrintMore
open Go.Sort Go.Proofs Go.Proofs.YtpkjpiphjdpegaaDoor.Z
set_option linter.unusedVariables false
set_option linter.unusedSimpArgs false
def amtR (y : S44) : Int := val y.f1.f0 y.f1.f1
def okA (y : S44) : Prop := U64 y.f1.f0 ∧ U64 y.f1.f1
def sumOf : List S44 → Int
  | [] => 0
  | y :: l => amtR y + sumOf l
theorem sumOf_app : ∀ l r : List S44, sumOf (l ++ r) = sumOf l + sumOf r
  | [], r => by rw [List.nil_append, sumOf]; omega
  | y :: l, r => by rw [List.cons_append, sumOf, sumOf, sumOf_app l r]; omega
theorem sumOf_snoc (l : List S44) (y : S44) : sumOf (l ++ [y]) = sumOf l + amtR y := by rw [sumOf_app, sumOf, sumOf]; omega
theorem sumOf_ge : ∀ l : List S44, (∀ y ∈ l, okA y) → 0 ≤ sumOf l
  | [], _ => Int.le_refl _
  | y :: l, h => by
    have ih := sumOf_ge l fun z hz => h z (List.mem_cons_of_mem _ hz)
    have := (val_range _ _ (h y (List.mem_cons_self ..)).1 (h y (List.mem_cons_self ..)).2).1
    rw [sumOf]
    unfold amtR
    omega
def idIn (rows : List S44) (s : ByteArray) : Bool := rows.any fun y => y.f0.toList == s.toList
theorem idIn_iff (rows : List S44) (s : ByteArray) : idIn rows s = true ↔ s.toList ∈ rows.map rowKey := by
  unfold idIn rowKey
  rw [List.any_eq_true, List.mem_map]
  constructor
  · rintro ⟨y, hy, e⟩; exact ⟨y, hy, by simpa using e⟩
  · rintro ⟨y, hy, e⟩; exact ⟨y, hy, by simpa using e⟩
theorem idIn_snoc (rows : List S44) (y : S44) (s : ByteArray) : idIn (rows ++ [y]) s = (idIn rows s || (y.f0.toList == s.toList)) := by
  unfold idIn
  rw [List.any_append, List.any_cons, List.any_nil, Bool.or_false]
def putErr (most : Int) (rows : List S44) (y : S44) : Int :=
  if (rows.length : Int) = most then 111 else if idIn rows y.f0 = true then 110 else if sumOf rows + amtR y < m128 then 0 else 112
theorem putErr_ne (most : Int) (rows : List S44) (y : S44) : putErr most rows y = 0 ∨ putErr most rows y = 110 ∨ putErr most rows y = 111 ∨ putErr most rows y = 112 := by
  unfold putErr
  repeat' split
  · exact .inr (.inr (.inl rfl))
  · exact .inr (.inl rfl)
  · exact .inl rfl
  · exact .inr (.inr (.inr rfl))
structure Good (most : Int) (l : List S44) : Prop where
  len : (l.length : Int) ≤ most
  ids : (l.map rowKey).Nodup
  sum : sumOf l < m128
theorem good_pre {most : Int} {l r : List S44} (h : Good most (l ++ r)) (hr : ∀ y ∈ r, okA y) : Good most l := by
  obtain ⟨h1, h2, h3⟩ := h
  rw [List.length_append] at h1
  rw [List.map_append, List.nodup_append] at h2
  rw [sumOf_app] at h3
  have := sumOf_ge r hr
  exact ⟨by omega, h2.1, by omega⟩
theorem good_nil {most : Int} (h : 0 ≤ most) : Good most [] := ⟨h, List.nodup_nil, by show (0 : Int) < m128; unfold m128; omega⟩
theorem put_ok {most : Int} {l : List S44} {y : S44} (h : Good most l) : putErr most l y = 0 ↔ Good most (l ++ [y]) := by
  obtain ⟨h1, h2, h3⟩ := h
  have e : Good most (l ++ [y]) ↔ ((l.length : Int) + 1 ≤ most ∧ idIn l y.f0 = false ∧ sumOf l + amtR y < m128) := by
    constructor
    · rintro ⟨a, b, c⟩
      rw [List.length_append, List.length_singleton] at a
      rw [sumOf_snoc] at c
      rw [List.map_append, List.nodup_append] at b
      refine ⟨by omega, ?_, c⟩
      rw [← Bool.not_eq_true, idIn_iff]
      intro m
      exact b.2.2 _ m (rowKey y) (by simp) rfl
    · rintro ⟨a, b, c⟩
      refine ⟨by rw [List.length_append, List.length_singleton]; omega, ?_, by rw [sumOf_snoc]; exact c⟩
      rw [← Bool.not_eq_true, idIn_iff] at b
      rw [List.map_append, List.nodup_append]
      refine ⟨h2, by simp, ?_⟩
      intro x hx z hz e
      rw [List.map_cons, List.map_nil, List.mem_singleton] at hz
      exact b (by rw [show y.f0.toList = x from (hz ▸ e).symm]; exact hx)
  rw [e]
  unfold putErr
  constructor
  · intro q
    by_cases c1 : (l.length : Int) = most
    · rw [if_pos c1] at q; exact absurd q (by decide)
    · rw [if_neg c1] at q
      by_cases c2 : idIn l y.f0 = true
      · rw [if_pos c2] at q; exact absurd q (by decide)
      · rw [if_neg c2] at q
        by_cases c3 : sumOf l + amtR y < m128
        · exact ⟨by omega, by simpa using c2, c3⟩
        · rw [if_neg c3] at q; exact absurd q (by decide)
  · rintro ⟨a, b, c⟩
    rw [if_neg (by omega), if_neg (by rw [b]; decide), if_pos c]
def chkL (most : Int) : Int → List S44 → List S44 → Int × Int
  | _, _, [] => (0, 0)
  | n, acc, y :: r => if mayId y.f0 = true then (if putErr most acc y = 0 then chkL most (n + 1) (acc ++ [y]) r else (n, putErr most acc y)) else (n, 101)
theorem chk_ok {most : Int} : ∀ (r acc : List S44) (n : Int), (∀ y ∈ r, okA y) → Good most acc →
    ((∀ y ∈ r, mayId y.f0 = true) → Good most (acc ++ r) → chkL most n acc r = (0, 0)) ∧
    ((chkL most n acc r).2 = 0 → (∀ y ∈ r, mayId y.f0 = true) ∧ Good most (acc ++ r) ∧ chkL most n acc r = (0, 0)) ∧
    ((chkL most n acc r).2 ≠ 0 → n ≤ (chkL most n acc r).1 ∧ (chkL most n acc r).1 < n + (r.length : Int) ∧ (chkL most n acc r).2 ≠ 120)
  | [], acc, n, _, hg => ⟨fun _ _ => rfl, fun _ => ⟨by simp, by rw [List.append_nil]; exact hg, rfl⟩, fun h => absurd rfl h⟩
  | y :: r, acc, n, ho, hg => by
    have hy := List.mem_cons_self (a := y) (l := r)
    have ho' : ∀ z ∈ r, okA z := fun z hz => ho z (List.mem_cons_of_mem _ hz)
    rw [chkL, List.length_cons]
    by_cases m : mayId y.f0 = true
    · rw [if_pos m]
      by_cases c : putErr most acc y = 0
      · have g1 := (put_ok hg).1 c
        obtain ⟨i1, i2, i3⟩ := chk_ok r (acc ++ [y]) (n + 1) ho' g1
        rw [if_pos c]
        rw [List.append_assoc] at i1 i2
        refine ⟨fun a b => i1 (fun z hz => a z (List.mem_cons_of_mem _ hz)) b, fun q => ?_, fun q => ?_⟩
        · obtain ⟨a, b, e⟩ := i2 q
          refine ⟨fun z hz => ?_, b, e⟩
          rcases List.mem_cons.1 hz with rfl | hz
          · exact m
          · exact a z hz
        · obtain ⟨a, b, e⟩ := i3 q
          exact ⟨by omega, by omega, e⟩
      · rw [if_neg c]
        refine ⟨fun a b => ?_, fun q => absurd q c, fun q => ⟨by show n ≤ n; omega, by show n < _; omega, ?_⟩⟩
        · have b' : Good most ((acc ++ [y]) ++ r) := by rw [List.append_assoc]; exact b
          exact absurd ((put_ok hg).2 (good_pre b' ho')) c
        · show putErr most acc y ≠ 120
          rcases putErr_ne most acc y with h | h | h | h <;> rw [h] <;> decide
    · rw [if_neg m]
      exact ⟨fun a _ => absurd (a y hy) m, fun q => absurd q (show ¬ (101 : Int) = 0 by decide), fun q => ⟨by show n ≤ n; omega, by show n < _; omega, show (101 : Int) ≠ 120 by decide⟩⟩
def checkOf (l : List S44) (h : Int) : Int × Int := if h < 0 ∨ 10 < h then (0, 120) else chkL ((2 ^ h.toNat : Nat) : Int) 1 [] l
def rowQ (h : List UInt8) : List S44 := if (oneB h).2.2.2.1 = true then [⟨(oneB h).1, ⟨(oneB h).2.1, (oneB h).2.2.1⟩⟩] else []
theorem rowQ_is (h : List UInt8) : ∀ y ∈ rowQ h, mayId y.f0 = true ∧ okA y := by
  intro y hy
  unfold rowQ at hy
  by_cases c : (oneB h).2.2.2.1 = true
  · rw [if_pos c, List.mem_singleton] at hy
    subst hy
    unfold oneB at c ⊢
    by_cases w : wrongOf h = 0
    · rw [if_pos w] at c ⊢
      by_cases q : kindOf h = 2
      · rw [if_pos q] at c ⊢
        have z : (parseRow h).2.2.2 = 0 := by simpa using c
        obtain ⟨_, p1, p2, p3⟩ := parse_line h z
        exact ⟨p3, p1, p2⟩
      · rw [if_neg q] at c; cases c
    · rw [if_neg w] at c; cases c
  · rw [if_neg c] at hy; cases hy
def impL (most : Int) : Int → List S44 → List (List UInt8) → List S44 × Int × Int
  | _, acc, [] => (acc, 0, 0)
  | n, acc, h :: r =>
    if (oneB h).2.2.2.2 = 0 then (if (oneB h).2.2.2.1 = true then (if putErr most acc ⟨(oneB h).1, ⟨(oneB h).2.1, (oneB h).2.2.1⟩⟩ = 0 then impL most (n + 1) (acc ++ [⟨(oneB h).1, ⟨(oneB h).2.1, (oneB h).2.2.1⟩⟩]) r
      else ([], n, putErr most acc ⟨(oneB h).1, ⟨(oneB h).2.1, (oneB h).2.2.1⟩⟩)) else impL most (n + 1) acc r) else ([], n, (oneB h).2.2.2.2)
def lineE (most : Int) (acc : List S44) (h : List UInt8) : Int := if (oneB h).2.2.2.2 = 0 then (if (oneB h).2.2.2.1 = true then putErr most acc ⟨(oneB h).1, ⟨(oneB h).2.1, (oneB h).2.2.1⟩⟩ else 0) else (oneB h).2.2.2.2
theorem impL_cons (most n : Int) (acc : List S44) (h : List UInt8) (r : List (List UInt8)) : impL most n acc (h :: r) = if lineE most acc h = 0 then impL most (n + 1) (acc ++ rowQ h) r else ([], n, lineE most acc h) := by
  rw [impL]
  unfold lineE rowQ
  by_cases c : (oneB h).2.2.2.2 = 0
  · rw [if_pos c, if_pos c]
    by_cases z : (oneB h).2.2.2.1 = true
    · rw [if_pos z, if_pos z, if_pos z]
    · rw [if_neg z, if_neg z, if_neg z, if_pos rfl, List.append_nil]
  · rw [if_neg c, if_neg c, if_neg c]
def importOf (s : ByteArray) (h : Int) : List S44 × Int × Int :=
  if h < 0 ∨ 10 < h then ([], 0, 120) else if 65536 < s.size then ([], 0, 3)
  else (sortL rowKey (impL ((2 ^ h.toNat : Nat) : Int) 1 [] (splitB s.data.toList)).1, (impL ((2 ^ h.toNat : Nat) : Int) 1 [] (splitB s.data.toList)).2)
theorem sort_perm (l : List S44) : (sortL rowKey l).Perm l := by
  have key : ∀ (l acc : List S44), (l.foldl (fun acc x => insL rowKey x acc) acc).Perm (acc ++ l) := by
    intro l
    induction l with
    | nil => intro acc; rw [List.append_nil]; exact List.Perm.refl _
    | cons x l ih =>
      intro acc
      rw [List.foldl_cons]
      refine (ih _).trans ?_
      refine ((insL_perm rowKey x acc).append_right l).trans ?_
      rw [List.cons_append]
      exact List.perm_middle.symm
  have := key l []
  rwa [List.nil_append] at this
theorem sort_asc (l : List S44) : (sortL rowKey l).Pairwise (fun x y => Op.bytesLess (rowKey y) (rowKey x) = false) := by
  obtain ⟨T, h⟩ := srt_is l
  rw [List.pairwise_iff_getElem]
  intro i j hi hj hij
  have := (h.asc i j hij (by rw [← h.len]; exact hj)).1
  rw [List.getD_eq_getElem?_getD, List.getD_eq_getElem?_getD, List.getElem?_eq_getElem hi, List.getElem?_eq_getElem hj] at this
  exact this
theorem asc_unique : ∀ (l r : List S44), l.Perm r → (l.map rowKey).Nodup → l.Pairwise (fun x y => Op.bytesLess (rowKey y) (rowKey x) = false) → r.Pairwise (fun x y => Op.bytesLess (rowKey y) (rowKey x) = false) → l = r
  | [], r, p, _, _, _ => by rw [List.nil_perm.1 p]
  | x :: l, [], p, _, _, _ => absurd p.length_eq (by simp)
  | x :: l, y :: r, p, hn, hl, hr => by
    rw [List.map_cons, List.nodup_cons] at hn
    have hl' := List.pairwise_cons.1 hl
    have hr' := List.pairwise_cons.1 hr
    have e : x = y := by
      rcases List.mem_cons.1 (p.mem_iff.1 (List.mem_cons_self ..)) with h | h
      · exact h
      · rcases List.mem_cons.1 (p.mem_iff.2 (List.mem_cons_self ..)) with h' | h'
        · exact h'.symm
        · have k := kl_tri (hr'.1 x h) (hl'.1 y h')
          exact absurd (k ▸ List.mem_map_of_mem h') hn.1
    subst e
    rw [asc_unique l r (p.cons_inv) hn.2 hl'.2 hr'.2]
theorem sort_same {l r : List S44} (p : l.Perm r) (hn : (l.map rowKey).Nodup) : sortL rowKey l = sortL rowKey r :=
  asc_unique _ _ ((sort_perm l).trans (p.trans (sort_perm r).symm)) ((((sort_perm l).map rowKey).nodup_iff).2 hn) (sort_asc l) (sort_asc r)
def ledger_Import.f (s : ByteArray) (h : Int) : Option (List S44 × Int × Int) := if s.size ≤ 1000000000 then some (importOf s h) else none
def ledger_Check.f (l : List S44) (h : Int) : Option (Int × Int) := if l.length ≤ 1000000 ∧ ∀ y ∈ l, (y.f0.size ≤ 1000000000 ∧ U64 y.f1.f0 ∧ U64 y.f1.f1) then some (checkOf l h) else none
theorem importOf_bad (s : ByteArray) (h : Int) (hb : h < 0 ∨ 10 < h) : importOf s h = ([], 0, 120) := by unfold importOf; rw [if_pos hb]
theorem importOf_ok (s : ByteArray) (h : Int) (hb : ¬ (h < 0 ∨ 10 < h)) (hs : s.size ≤ 65536) : importOf s h =
    (sortL rowKey (impL ((2 ^ h.toNat : Nat) : Int) 1 [] (splitB s.data.toList)).1, (impL ((2 ^ h.toNat : Nat) : Int) 1 [] (splitB s.data.toList)).2) := by unfold importOf; rw [if_neg hb, if_neg (by omega)]
theorem checkOf_bad (l : List S44) (h : Int) (hb : h < 0 ∨ 10 < h) : checkOf l h = (0, 120) := by unfold checkOf; rw [if_pos hb]
theorem checkOf_ok (l : List S44) (h : Int) (hb : ¬ (h < 0 ∨ 10 < h)) : checkOf l h = chkL ((2 ^ h.toNat : Nat) : Int) 1 [] l := by unfold checkOf; rw [if_neg hb]
theorem most_pos (h : Int) : 0 ≤ ((2 ^ h.toNat : Nat) : Int) := Int.natCast_nonneg _
end Go.Proofs.YtpkjpiphjdpegaaDoor.P
