/- A program of this session wrote this text out of the session's own texts. (part 42 of 45) -/
import Derived.Test.YtpkjpiphjdpegaaDoorCLedgerFirst33
import Derived.Test.YtpkjpiphjdpegaaDoorCLedgerFirst41
namespace Go.Proofs.YtpkjpiphjdpegaaDoor.P
open Go.RowKit Go.Proofs.YtpkjpiphjdpegaaDoorW.PrintWords Go.Proofs.YtpkjpiphjdpegaaDoorW.PrintLast Go.Proofs.YtpkjpiphjdpegaaDoorW.PrintMore
open Go.Proofs.YtpkjpiphjdpegaaDoor.Z
set_option linter.unusedVariables false
set_option linter.unusedSimpArgs false
theorem idx_from (q : S44 → Bool) (x : S44) : ∀ (l : List S44) (n : Nat), (Lib.idxByFrom (fun _ y => q y) x l n = -1 ∧ l.any q = false) ∨ ∃ j, ∃ h : j < l.length, Lib.idxByFrom (fun _ y => q y) x l n = ((n + j : Nat) : Int) ∧ q l[j] = true
  | [], n => .inl ⟨rfl, rfl⟩
  | y :: l, n => by
    rw [Lib.idxByFrom]
    by_cases c : q y = true
    · rw [if_pos c]
      exact .inr ⟨0, Nat.zero_lt_succ _, by rw [Nat.add_zero], c⟩
    · rw [if_neg c]
      rcases idx_from q x l (n + 1) with ⟨e1, e2⟩ | ⟨j, h, e1, e2⟩
      · exact .inl ⟨e1, by rw [List.any_cons, e2]; simpa using c⟩
      · exact .inr ⟨j + 1, Nat.succ_lt_succ h, by rw [e1]; congr 1; omega, e2⟩
theorem find_is (l : List S44) (hl : l.length ≤ 1000000) (id : ByteArray) :
    (idIn l id = false ∧ ledger_place.f l id = some (-1) ∧ ledger_Find.f l id = some ((⟨#[]⟩ : ByteArray), 0, 0, false)) ∨
    ∃ j, ∃ h : j < l.length, l[j].f0.toList = id.toList ∧ idIn l id = true ∧ ledger_place.f l id = some (j : Int) ∧ ledger_Find.f l id = some (l[j].f0, l[j].f1.f0, l[j].f1.f1, true) := by
  have pf : ledger_place.f l id = some (Lib.idxByFrom (fun _ y => isId id y) default l 0) := if_pos hl
  rcases idx_from (isId id) default l 0 with ⟨e1, e2⟩ | ⟨j, h, e1, e2⟩
  · refine .inl ⟨e2, by rw [pf, e1], ?_⟩
    unfold ledger_Find.f
    rw [pf, e1, Option.bind_some, if_pos (by decide)]
  · have k : l[j].f0.toList = id.toList := by unfold isId at e2; simpa using e2
    rw [Nat.zero_add] at e1
    refine .inr ⟨j, h, k, ?_, by rw [pf, e1], ?_⟩
    · unfold idIn
      rw [List.any_eq_true]
      exact ⟨l[j], List.getElem_mem h, by simpa using k⟩
    · unfold ledger_Find.f
      rw [pf, e1, Option.bind_some, if_neg (by omega), if_pos (by omega), if_pos (by omega), rd44 l j h]
theorem ids_inj {l : List S44} (hn : (l.map rowKey).Nodup) {i j : Nat} (hi : i < l.length) (hj : j < l.length) (e : l[i].f0.toList = l[j].f0.toList) : i = j := by
  rcases Nat.lt_trichotomy i j with h | h | h
  · have := List.pairwise_iff_getElem.1 hn i j (by rw [List.length_map]; exact hi) (by rw [List.length_map]; exact hj) h
    rw [List.getElem_map, List.getElem_map] at this
    exact absurd e this
  · exact h
  · have := List.pairwise_iff_getElem.1 hn j i (by rw [List.length_map]; exact hj) (by rw [List.length_map]; exact hi) h
    rw [List.getElem_map, List.getElem_map] at this
    exact absurd e.symm this
theorem find_own (l : List S44) (hl : l.length ≤ 1000000) (hn : (l.map rowKey).Nodup) (i : Nat) (hi : i < l.length) : ledger_Find.f l l[i].f0 = some (l[i].f0, l[i].f1.f0, l[i].f1.f1, true) := by
  rcases find_is l hl l[i].f0 with ⟨e, _, _⟩ | ⟨j, hj, e, _, _, f⟩
  · have : idIn l l[i].f0 = true := (idIn_iff _ _).2 (List.mem_map.2 ⟨l[i], List.getElem_mem hi, rfl⟩)
    rw [e] at this
    cases this
  · obtain rfl := ids_inj hn hj hi e
    exact f
theorem rd42 (l : List S44) (i : Nat) (hi : i < l.length) : rd_T42 (l.map (·.f1)) (i : Int) = l[i].f1 := by
  unfold rd_T42
  rw [Int.toNat_natCast, List.getD_eq_getElem?_getD, List.getElem?_map, List.getElem?_eq_getElem hi]
  rfl
theorem sum_l0 (l : List S44) (hl : l.length ≤ 1000000) (ho : ∀ y ∈ l, okA y) (hs : sumOf l < m128) (k : Nat) : ∀ (t i : Nat), i + t = l.length →
    u128_Sum.l0 (k + 1 + t) (l.map (·.f1)) (l.length : Int) (i : Int) (hiOf (sumOf (l.take i))) (loOf (sumOf (l.take i))) = some (hiOf (sumOf l), loOf (sumOf l), 0)
  | 0, i, h => by
    obtain rfl : i = l.length := by omega
    show u128_Sum.l0 (k + 1) _ _ _ _ _ = _
    rw [u128_Sum.l0, if_neg (by omega), List.take_length]
  | t + 1, i, h => by
    have hi : i < l.length := by omega
    have w1 : wrap64 ((i : Int) + 1) = ((i + 1 : Nat) : Int) := by rw [wrapI _ (by omega) (by omega)]; push_cast; rfl
    have om := ho _ (List.getElem_mem hi)
    have tk : sumOf (l.take (i + 1)) = sumOf (l.take i) + amtR l[i] := by
      rw [List.take_succ_eq_append_getElem hi, sumOf_snoc]
    have pre := sumOf_ge (l.take i) fun y hy => ho y (List.mem_of_mem_take hy)
    have suf := sumOf_ge (l.drop (i + 1)) fun y hy => ho y (List.mem_of_mem_drop hy)
    have all : sumOf l = sumOf (l.take (i + 1)) + sumOf (l.drop (i + 1)) := by rw [← sumOf_app, List.take_append_drop]
    have va := (val_range _ _ om.1 om.2).1
    have am : amtR l[i] = val l[i].f1.f0 l[i].f1.f1 := rfl
    have uu := u_hiOf (sumOf (l.take i)) pre (by omega)
    rw [show k + 1 + (t + 1) = (k + 1 + t) + 1 by omega, u128_Sum.l0, if_pos (by omega), if_pos (by omega), if_pos (by rw [List.length_map]; omega), rd42 l i hi, add_num _ _ _ _ uu.1 uu.2 om.1 om.2, val_halves, ← am, ← tk, if_pos (by omega), Option.bind_some]
    dsimp only
    rw [if_pos rfl, w1]
    exact sum_l0 l hl ho hs k t (i + 1) (by omega)
theorem total_l0 (l : List S44) (hl : l.length ≤ 1000000) (ho : ∀ y ∈ l, okA y) (hs : sumOf l < m128) (k : Nat) : ∀ (t i : Nat), i + t = l.length →
    ledger_Total.l0 (k + l.length + 2 + t) ((l.take i).map (·.f1)) l (l.length : Int) (i : Int) = some (hiOf (sumOf l), loOf (sumOf l), 0)
  | 0, i, h => by
    obtain rfl : i = l.length := by omega
    show ledger_Total.l0 (k + l.length + 1 + 1) _ _ _ _ = _
    have S := sum_l0 l hl ho hs k l.length 0 (by omega)
    have z1 : hiOf (sumOf (l.take 0)) = 0 := rfl
    have z2 : loOf (sumOf (l.take 0)) = 0 := rfl
    rw [z1, z2] at S
    have S' : u128_Sum.f (k + l.length + 1) (l.map (·.f1)) = some (hiOf (sumOf l), loOf (sumOf l), 0) := by
      unfold u128_Sum.f
      rw [List.length_map, show k + l.length + 1 = k + 1 + l.length by omega]
      exact S
    rw [ledger_Total.l0, if_neg (by omega), List.take_length, S', Option.bind_some]
    dsimp only
    rw [if_pos rfl]
  | t + 1, i, h => by
    have hi : i < l.length := by omega
    have w1 : wrap64 ((i : Int) + 1) = ((i + 1 : Nat) : Int) := by rw [wrapI _ (by omega) (by omega)]; push_cast; rfl
    have e : (l.take i).map (·.f1) ++ [(⟨l[i].f1.f0, l[i].f1.f1⟩ : S42)] = (l.take (i + 1)).map (·.f1) := by
      rw [List.take_succ_eq_append_getElem hi, List.map_append]
      rfl
    rw [show k + l.length + 2 + (t + 1) = (k + l.length + 2 + t) + 1 by omega, ledger_Total.l0, if_pos (by omega), if_pos (by omega), if_pos (by omega), if_pos (by rw [List.length_map, List.length_take]; omega), rd44 l i hi, w1, e]
    exact total_l0 l hl ho hs k t (i + 1) (by omega)
theorem total_is (l : List S44) (hl : l.length ≤ 1000000) (ho : ∀ y ∈ l, okA y) (hs : sumOf l < m128) (k : Nat) (hk : 2 * l.length + 2 ≤ k) : ledger_Total.f k l = some (hiOf (sumOf l), loOf (sumOf l), 0) := by
  have := total_l0 l hl ho hs (k - 2 * l.length - 2) l.length 0 (by omega)
  rw [show k - 2 * l.length - 2 + l.length + 2 + l.length = k by omega] at this
  exact this
end Go.Proofs.YtpkjpiphjdpegaaDoor.P
