/- A program of this session wrote this text out of the session's own texts. (part 24 of 25) -/
import Derived.Test.YtpkjpiphjdpegaaCLedgerFinds7
import Derived.Test.YtpkjpiphjdpegaaCLedgerFinds22
import Derived.Test.YtpkjpiphjdpegaaCLedgerFinds23
namespace Go.Proofs.Ytpkjpiphjdpegaa.P
open Go.RowKit Go.Proofs.YtpkjpiphjdpegaaW.PrintWords Go.Proofs.YtpkjpiphjdpegaaW.PrintLast Go.Proofs.YtpkjpiphjdpegaaW.PrintMore
open Go.Proofs.Ytpkjpiphjdpegaa.Z
set_option linter.unusedVariables false
set_option linter.unusedSimpArgs false
def AscR (l : List S83) : Prop := l.Pairwise (fun x y => Op.bytesLess (rowKey y) (rowKey x) = false)
theorem insL_asc (x : S83) : ∀ l : List S83, AscR l → AscR (insL rowKey x l)
  | [], _ => List.pairwise_singleton _ _
  | y :: l, h => by
    rw [insL]
    obtain ⟨h1, h2⟩ := List.pairwise_cons.1 h
    by_cases c : Op.bytesLess (rowKey x) (rowKey y) = true
    · rw [if_pos c]
      refine List.pairwise_cons.2 ⟨fun z hz => ?_, h⟩
      rcases List.mem_cons.1 hz with rfl | hz
      · exact kl_asym c
      · exact kl_ntrans (h1 z hz) (kl_asym c)
    · rw [if_neg c]
      refine List.pairwise_cons.2 ⟨fun z hz => ?_, insL_asc x l h2⟩
      rcases List.mem_cons.1 ((insL_perm rowKey x l).mem_iff.1 hz) with rfl | hz
      · simpa using c
      · exact h1 z hz
theorem insL_head (x : S83) : ∀ l : List S83, (∀ y ∈ l, Op.bytesLess (rowKey x) (rowKey y) = true) → insL rowKey x l = x :: l
  | [], _ => rfl
  | y :: l, h => by rw [insL, if_pos (h y (List.mem_cons_self ..))]
theorem filter_ins (p : S83 → Bool) (x : S83) : ∀ l : List S83, AscR l → (insL rowKey x l).filter p = if p x = true then insL rowKey x (l.filter p) else l.filter p
  | [], _ => by
    rw [insL, List.filter_cons, List.filter_nil, insL]
  | y :: l, h => by
    obtain ⟨h1, h2⟩ := List.pairwise_cons.1 h
    rw [insL]
    by_cases c : Op.bytesLess (rowKey x) (rowKey y) = true
    · rw [if_pos c, List.filter_cons]
      by_cases q : p x = true
      · rw [if_pos q, if_pos q, insL_head]
        intro z hz
        rcases List.mem_cons.1 (List.mem_filter.1 hz).1 with rfl | hz'
        · exact c
        · cases e : Op.bytesLess (rowKey x) (rowKey z) with
          | true => rfl
          | false => rw [kl_ntrans e (h1 z hz')] at c; cases c
      · rw [if_neg q, if_neg q]
    · rw [if_neg c, List.filter_cons, filter_ins p x l h2, List.filter_cons]
      by_cases q : p x = true
      · rw [if_pos q, if_pos q]
        by_cases r : p y = true
        · rw [if_pos r, if_pos r, insL, if_neg c]
        · rw [if_neg r, if_neg r]
      · rw [if_neg q, if_neg q]
theorem filter_fold (p : S83 → Bool) : ∀ (l acc : List S83), AscR acc → (l.foldl (fun acc x => insL rowKey x acc) acc).filter p = (l.filter p).foldl (fun acc x => insL rowKey x acc) (acc.filter p)
  | [], acc, _ => rfl
  | x :: l, acc, h => by
    rw [List.foldl_cons, filter_fold p l _ (insL_asc x acc h), filter_ins p x acc h, List.filter_cons]
    by_cases q : p x = true
    · rw [if_pos q, if_pos q, List.foldl_cons]
    · rw [if_neg q, if_neg q]
theorem filter_sort (p : S83 → Bool) (l : List S83) : (sortL rowKey l).filter p = sortL rowKey (l.filter p) := filter_fold p l [] List.Pairwise.nil
def rowAt (l : List S83) (z : Int) : Option (ByteArray × Int × Int × Bool) :=
  if z < 0 then some ((⟨#[]⟩ : ByteArray), 0, 0, false) else (if 0 ≤ z then (if z < (l.length : Int) then (some ((rd_T83 l z).f0, (rd_T83 l z).f1.f0, (rd_T83 l z).f1.f1, true)) else (none)) else (none))
theorem refFind_l0 (l : List S83) (hl : l.length ≤ 1000000) (id : ByteArray) (k : Nat) : ∀ (t i : Nat), i + t = l.length →
    paymasterref11_Find.l0 (k + 1 + t) l id (i : Int) = rowAt l (Lib.idxByFrom (fun _ y => isId id y) default (l.drop i) i)
  | 0, i, h => by
    obtain rfl : i = l.length := by omega
    show paymasterref11_Find.l0 (k + 1) _ _ _ = _
    rw [paymasterref11_Find.l0, if_neg (by omega), List.drop_length]
    rfl
  | t + 1, i, h => by
    have hi : i < l.length := by omega
    have w1 : wrap64 ((i : Int) + 1) = ((i + 1 : Nat) : Int) := by rw [wrapI _ (by omega) (by omega)]; push_cast; rfl
    have nx : l.drop i = l[i] :: l.drop (i + 1) := List.drop_eq_getElem_cons hi
    rw [show k + 1 + (t + 1) = (k + 1 + t) + 1 by omega, paymasterref11_Find.l0, if_pos (by omega), if_pos (by omega), nx, Lib.idxByFrom, rd44 l i hi]
    by_cases c : l[i].f0.toList = id.toList
    · have c' : isId id l[i] = true := by unfold isId; simpa using c
      rw [if_pos c, if_pos c']
      unfold rowAt
      rw [if_neg (by omega), if_pos (by omega), if_pos (by omega), rd44 l i hi]
    · have c' : ¬ isId id l[i] = true := by unfold isId; simpa using c
      rw [if_neg c, if_neg c', w1]
      exact refFind_l0 l hl id k t (i + 1) (by omega)
theorem refFind_is (l : List S83) (hl : l.length ≤ 1000000) (id : ByteArray) (k : Nat) (hk : l.length + 1 ≤ k) : paymasterref11_Find.f k l id = ledger_Find.f l id := by
  have pf : ledger_place.f l id = some (Lib.idxByFrom (fun _ y => isId id y) default l 0) := if_pos hl
  have := refFind_l0 l hl id (k - 1 - l.length) l.length 0 (by omega)
  rw [show k - 1 - l.length + 1 + l.length = k by omega, List.drop_zero] at this
  unfold paymasterref11_Find.f ledger_Find.f
  rw [pf, Option.bind_some]
  exact this
theorem find_tells (l : List S83) (hl : l.length ≤ 1000000) (id : ByteArray) : ∃ a b c, ledger_Find.f l id = some (a, b, c, idIn l id) := by
  rcases find_is l hl id with ⟨e, _, f⟩ | ⟨j, hj, _, e, _, f⟩
  · exact ⟨_, _, _, by rw [f, e]⟩
  · exact ⟨_, _, _, by rw [f, e]⟩
theorem only_l0 (l others : List S83) (hl : l.length ≤ 1000) (ho : others.length ≤ 1000) (b : Bool) (K : Nat) (hS : ∀ k, K ≤ k → paymasterref10_Sort.f k (l.filter fun y => idIn others y.f0 == b) = some (sortL rowKey (l.filter fun y => idIn others y.f0 == b))) (k : Nat) (hk : K + 1001 ≤ k) : ∀ (t i : Nat), i + t = l.length →
    paymasterref11_Only.l0 (k + 1 + t) l others b ((l.take i).filter fun y => idIn others y.f0 == b) (i : Int) = some (sortL rowKey (l.filter fun y => idIn others y.f0 == b))
  | 0, i, h => by
    obtain rfl : i = l.length := by omega
    show paymasterref11_Only.l0 (k + 1) _ _ _ _ _ = _
    rw [paymasterref11_Only.l0, if_neg (by omega), List.take_length, hS k (by omega), Option.bind_some]
  | t + 1, i, h => by
    have hi : i < l.length := by omega
    have w1 : wrap64 ((i : Int) + 1) = ((i + 1 : Nat) : Int) := by rw [wrapI _ (by omega) (by omega)]; push_cast; rfl
    have tk : l.take (i + 1) = l.take i ++ [l[i]] := List.take_succ_eq_append_getElem hi
    have ih := only_l0 l others hl ho b K hS k hk t (i + 1) (by omega)
    rw [tk, List.filter_append, List.filter_cons, List.filter_nil] at ih
    obtain ⟨x, y, z, f⟩ := find_tells others (by omega) l[i].f0
    rw [show k + 1 + (t + 1) = (k + 1 + t) + 1 by omega, paymasterref11_Only.l0, if_pos (by omega), if_pos (by omega), rd44 l i hi, row_eta, refFind_is others (by omega) _ _ (by omega), f, Option.bind_some, w1]
    dsimp only
    by_cases c : (idIn others l[i].f0 == b) = true
    · rw [if_pos c] at ih
      have q : ((l.take i).filter fun y => idIn others y.f0 == b).length ≤ 1000 := Nat.le_trans (List.length_filter_le _ _) (by rw [List.length_take]; omega)
      have z3 : ((l.take i).filter fun y => idIn others y.f0 == b).length < 4398046511104 := by
        obtain ⟨big, hb⟩ : ∃ b : Nat, b = 4398046511104 := ⟨_, rfl⟩
        rw [← hb]
        omega
      rw [if_pos c, if_pos z3]
      exact ih
    · rw [if_neg c] at ih ⊢
      rw [List.append_nil] at ih
      exact ih
theorem only_is (l others : List S83) (hl : l.length ≤ 1000) (ho : others.length ≤ 1000) (b : Bool) : ∃ K, ∀ k, K ≤ k → paymasterref11_Only.f k l others b = some (sortL rowKey (l.filter fun y => idIn others y.f0 == b)) := by
  have q : (l.filter fun y => idIn others y.f0 == b).length ≤ 1000 := Nat.le_trans (List.length_filter_le _ _) hl
  obtain ⟨K, hS⟩ := refSort_is (l.filter fun y => idIn others y.f0 == b) (by omega)
  refine ⟨K + 1002 + l.length, fun k hk => ?_⟩
  have := only_l0 l others hl ho b K hS (k - 1 - l.length) (by omega) l.length 0 (by omega)
  rw [show k - 1 - l.length + 1 + l.length = k by omega, List.take_zero, List.filter_nil] at this
  exact this
theorem ledgerFinds_pure (was now : List S83) (id : ByteArray) : ∃ k, paymasterlaw11_LedgerFinds.f k was now id = some true := by
  obtain ⟨b, h1, h2⟩ := long_is was 301 (by omega)
  obtain ⟨c, h3, h4⟩ := long_is now 301 (by omega)
  have L1 := up (F := fun k => paymasterlaw10_Long.f k was) (paymasterlaw10_Long.mono was) h1
  have L2 := up (F := fun k => paymasterlaw10_Long.f k now) (paymasterlaw10_Long.mono now) h3
  have J : ∀ k, paymasterlaw11_LedgerFinds.j0 (k + 1) was now id true = some true := fun k => by rw [paymasterlaw11_LedgerFinds.j0, if_pos rfl]
  cases b with
  | true =>
    refine ⟨302, ?_⟩
    unfold paymasterlaw11_LedgerFinds.f
    have e := L1 302 (by omega)
    rw [e, Option.bind_some, if_pos rfl]
    exact J 301
  | false =>
    cases c with
    | true =>
      refine ⟨302, ?_⟩
      unfold paymasterlaw11_LedgerFinds.f
      have e := L1 302 (by omega)
      have e' := L2 302 (by omega)
      rw [e, Option.bind_some, if_neg (by decide), e', Option.bind_some, if_pos rfl]
      exact J 301
    | false =>
      obtain ⟨l1, _⟩ := h2 rfl
      obtain ⟨l2, _⟩ := h4 rfl
      obtain ⟨K1, o1⟩ := only_is was now (by omega) (by omega) false
      obtain ⟨K2, o2⟩ := only_is now was (by omega) (by omega) true
      obtain ⟨K3, o3⟩ := only_is now was (by omega) (by omega) false
      refine ⟨K1 + K2 + K3 + 5001, ?_⟩
      unfold paymasterlaw11_LedgerFinds.f
      have e := L1 (K1 + K2 + K3 + 5001) (by omega)
      have e' := L2 (K1 + K2 + K3 + 5001) (by omega)
      rw [e, Option.bind_some, if_neg (by decide), e', Option.bind_some, if_neg (by decide)]
      by_cases q : (id.size : Int) > 200
      · rw [decide_eq_true q]
        exact J _
      · rw [decide_eq_false q, show K1 + K2 + K3 + 5001 = (K1 + K2 + K3 + 5000) + 1 from rfl, paymasterlaw11_LedgerFinds.j0, if_neg (by decide)]
        obtain ⟨x, y, z, f⟩ := find_tells was (by omega) id
        have n1 : (fun y : S83 => idIn now y.f0 == false) = fun y => !idIn now y.f0 := by funext y; cases idIn now y.f0 <;> rfl
        have n2 : (fun y : S83 => idIn was y.f0 == true) = fun y => idIn was y.f0 := by funext y; cases idIn was y.f0 <;> rfl
        have n3 : (fun y : S83 => idIn was y.f0 == false) = fun y => !idIn was y.f0 := by funext y; cases idIn was y.f0 <;> rfl
        rw [f, Option.bind_some, refFind_is was (by omega) _ _ (by omega), f, Option.bind_some, between_is was now (by omega) (by omega) _ (by omega), Option.bind_some]
        dsimp only
        rw [if_pos (by simp), if_pos (by simp), o1 _ (by omega), Option.bind_some, filter_sort, n1]
        have b1 : (sortL rowKey (was.filter fun y => !idIn now y.f0)).length ≤ 1000 := by rw [sort_len]; exact Nat.le_trans (List.length_filter_le _ _) (by omega)
        have b2 : (sortL rowKey (now.filter fun y => idIn was y.f0)).length ≤ 1000 := by rw [sort_len]; exact Nat.le_trans (List.length_filter_le _ _) (by omega)
        have b3 : (sortL rowKey (now.filter fun y => !idIn was y.f0)).length ≤ 1000 := by rw [sort_len]; exact Nat.le_trans (List.length_filter_le _ _) (by omega)
        rw [same44_is _ (by omega) _ (by omega), Option.bind_some, if_pos rfl, o2 _ (by omega), Option.bind_some, filter_sort, n2, same44_is _ (by omega) _ (by omega), Option.bind_some, if_pos rfl, o3 _ (by omega), Option.bind_some, filter_sort, n3, same44_is _ (by omega) _ (by omega), Option.bind_some]
theorem ledgerFinds_walk {w : World} (A0 : Option Addr) (c0 : Nat) (l0 : List S83) (hr0 : k83.C w A0 l0.length l0) (hc0 : l0.length ≤ c0) (g0 : ∀ y ∈ l0, y.f0.size ≤ 9223372036854775807 ∧ U64 y.f1.f0 ∧ U64 y.f1.f1)
    (A1 : Option Addr) (c1 : Nat) (l1 : List S83) (hr1 : k83.C w A1 l1.length l1) (hc1 : l1.length ≤ c1) (g1 : ∀ y ∈ l1, y.f0.size ≤ 9223372036854775807 ∧ U64 y.f1.f0 ∧ U64 y.f1.f1) (a2 : ByteArray) (g2 : a2.size ≤ 9223372036854775807) :
    Calls Try.prog 18 #[.slice A0 l0.length c0, .slice A1 l1.length c1, .string a2] w fun e w' => e = .returned (.bool true) ∧ Below w.heap.size w w' := by
  obtain ⟨k, hk⟩ := ledgerFinds_pure l0 l1 a2
  exact paymasterlaw11_LedgerFinds.calls k A0 c0 l0 A1 c1 l1 a2 true w hr0 hc0 hr1 hc1 hk
section
variable {H : Type} {enc : TypeId × Value → H} {w : World} {base : Nat} {spare : Nat → Bool} {held : Bool}
set_option maxRecDepth 100000 in
theorem arg_row83 {r : Reach} {b0 : Nat} {v : Value} {D : DataW H} {p : List MemPlace} (hv : Value.okWide Try.prog w r b0 80 v) (h : DataW.Trod enc Try.prog w base spare held 80 v D p) :
    ∃ (A : Option Addr) (c : Nat) (l : List S83), v = .slice A l.length c ∧ l.length ≤ c ∧ k83.C w A l.length l ∧ ∀ y ∈ l, y.f0.size ≤ 9223372036854775807 ∧ U64 y.f1.f0 ∧ U64 y.f1.f1 :=
  came_row k83 (fun y => y.f0.size ≤ 9223372036854775807 ∧ U64 y.f1.f0 ∧ U64 y.f1.f1) Try.underlying80 (many83.symm ▸ rfl) (fun n cs x hx => by
    obtain ⟨s, a, b, rfl, hs, ha, hb⟩ := came83 hx
    exact ⟨⟨s, ⟨a, b⟩⟩, k83_mk w ⟨s, ⟨a, b⟩⟩, hs, ha, hb⟩) hv h
end
end Go.Proofs.Ytpkjpiphjdpegaa.P
