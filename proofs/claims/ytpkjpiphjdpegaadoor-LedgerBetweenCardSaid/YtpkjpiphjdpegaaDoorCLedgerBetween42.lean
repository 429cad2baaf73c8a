/- A program of this session wrote this text out of the session's own texts. (part 42 of 46) -/
import Derived.Test.YtpkjpiphjdpegaaDoorCLedgerBetween33
import Derived.Test.YtpkjpiphjdpegaaDoorCLedgerBetween41
namespace Go.Proofs.YtpkjpiphjdpegaaDoor.P
open Go.RowKit Go.Proofs.YtpkjpiphjdpegaaDoorW.PrintWords Go.Proofs.YtpkjpiphjdpegaaDoorW.PrintLast Go.Proofs.YtpkjpiphjdpegaaDoorW.PrintMore
open Go.Proofs.YtpkjpiphjdpegaaDoor.Z
set_option linter.unusedVariables false
set_option linter.unusedSimpArgs false
theorem idx_from (q : S44 → Bool) (x : S44) : ∀ (l : List S44) (n : Nat), (Lib.idxByFrom (fun _ y => q y) x l n = -1 ∧ l.any q = false) ∨ ∃ j, ∃ h : j < l.length, Lib.idxByFrom (fun _ y => q y) x l n = ((n + j : Nat) : Int) ∧ q l[j] = true
  | [], n => .inl ⟨rfl, rfl⟩
  | y :: l, n => by
    rw [Lib.idxByFrom]
    by_cases c : q y = true
    · rw [if_pos c]
      exact .inr ⟨0, Nat.zero_lt_succ _, by rw [Nat.add_zero], c⟩
    · rw [if_neg c]
      rcases idx_from q x l (n + 1) with ⟨e1, e2⟩ | ⟨j, h, e1, e2⟩
      · exact .inl ⟨e1, by rw [List.any_cons, e2]; simpa using c⟩
      · exact .inr ⟨j + 1, Nat.succ_lt_succ h, by rw [e1]; congr 1; omega, e2⟩
theorem find_is (l : List S44) (hl : l.length ≤ 1000000) (id : ByteArray) :
    (idIn l id = false ∧ ledger_place.f l id = some (-1) ∧ ledger_Find.f l id = some ((⟨#[]⟩ : ByteArray), 0, 0, false)) ∨
    ∃ j, ∃ h : j < l.length, l[j].f0.toList = id.toList ∧ idIn l id = true ∧ ledger_place.f l id = some (j : Int) ∧ ledger_Find.f l id = some (l[j].f0, l[j].f1.f0, l[j].f1.f1, true) := by
  have pf : ledger_place.f l id = some (Lib.idxByFrom (fun _ y => isId id y) default l 0) := if_pos hl
  rcases idx_from (isId id) default l 0 with ⟨e1, e2⟩ | ⟨j, h, e1, e2⟩
  · refine .inl ⟨e2, by rw [pf, e1], ?_⟩
    unfold ledger_Find.f
    rw [pf, e1, Option.bind_some, if_pos (by decide)]
  · have k : l[j].f0.toList = id.toList := by unfold isId at e2; simpa using e2
    rw [Nat.zero_add] at e1
    refine .inr ⟨j, h, k, ?_, by rw [pf, e1], ?_⟩
    · unfold idIn
      rw [List.any_eq_true]
      exact ⟨l[j], List.getElem_mem h, by simpa using k⟩
    · unfold ledger_Find.f
      rw [pf, e1, Option.bind_some, if_neg (by omega), if_pos (by omega), if_pos (by omega), rd44 l j h]
theorem ids_inj {l : List S44} (hn : (l.map rowKey).Nodup) {i j : Nat} (hi : i < l.length) (hj : j < l.length) (e : l[i].f0.toList = l[j].f0.toList) : i = j := by
  rcases Nat.lt_trichotomy i j with h | h | h
  · have := List.pairwise_iff_getElem.1 hn i j (by rw [List.length_map]; exact hi) (by rw [List.length_map]; exact hj) h
    rw [List.getElem_map, List.getElem_map] at this
    exact absurd e this
  · exact h
  · have := List.pairwise_iff_getElem.1 hn j i (by rw [List.length_map]; exact hj) (by rw [List.length_map]; exact hi) h
    rw [List.getElem_map, List.getElem_map] at this
    exact absurd e.symm this
theorem find_own (l : List S44) (hl : l.length ≤ 1000000) (hn : (l.map rowKey).Nodup) (i : Nat) (hi : i < l.length) : ledger_Find.f l l[i].f0 = some (l[i].f0, l[i].f1.f0, l[i].f1.f1, true) := by
  rcases find_is l hl l[i].f0 with ⟨e, _, _⟩ | ⟨j, hj, e, _, _, f⟩
  · have : idIn l l[i].f0 = true := (idIn_iff _ _).2 (List.mem_map.2 ⟨l[i], List.getElem_mem hi, rfl⟩)
    rw [e] at this
    cases this
  · obtain rfl := ids_inj hn hj hi e
    exact f
theorem find_mem (l : List S44) (hl : l.length ≤ 1000000) (hn : (l.map rowKey).Nodup) (y : S44) (hy : y ∈ l) : ledger_Find.f l y.f0 = some (y.f0, y.f1.f0, y.f1.f1, true) := by
  obtain ⟨i, hi, rfl⟩ := List.getElem_of_mem hy
  exact find_own l hl hn i hi
theorem find_none (l : List S44) (hl : l.length ≤ 1000000) (id : ByteArray) (h : idIn l id = false) : ledger_Find.f l id = some ((⟨#[]⟩ : ByteArray), 0, 0, false) ∧ ledger_place.f l id = some (-1) := by
  rcases find_is l hl id with ⟨_, p, f⟩ | ⟨j, hj, _, e, _, _⟩
  · exact ⟨f, p⟩
  · rw [h] at e; cases e
theorem place_some (l : List S44) (hl : l.length ≤ 1000000) (id : ByteArray) (h : idIn l id = true) : ∃ j : Nat, ledger_place.f l id = some (j : Int) := by
  rcases find_is l hl id with ⟨e, _, _⟩ | ⟨j, hj, _, _, p, _⟩
  · rw [h] at e; cases e
  · exact ⟨j, p⟩
theorem row_eta (y : S44) : (⟨y.f0, (⟨y.f1.f0, y.f1.f1⟩ : S42)⟩ : S44) = y := rfl
theorem between_l1 (was gone : List S44) (hw : was.length ≤ 1000000) (L : List S44) (hL : L.length ≤ 1000000) (k : Nat) : ∀ (t i : Nat) (stay come : List S44), i + t = L.length → stay.length ≤ i → come.length ≤ i →
    ledger_Between.l1 (k + 1 + t) was gone stay come L (L.length : Int) (i : Int) = some (gone, stay ++ (L.drop i).filter (fun y => idIn was y.f0), come ++ (L.drop i).filter (fun y => !idIn was y.f0))
  | 0, i, stay, come, h, h1, h2 => by
    obtain rfl : i = L.length := by omega
    show ledger_Between.l1 (k + 1) _ _ _ _ _ _ _ = _
    rw [ledger_Between.l1, if_neg (by omega), List.drop_length, List.filter_nil, List.filter_nil, List.append_nil, List.append_nil]
  | t + 1, i, stay, come, h, h1, h2 => by
    have hi : i < L.length := by omega
    have w1 : wrap64 ((i : Int) + 1) = ((i + 1 : Nat) : Int) := by rw [wrapI _ (by omega) (by omega)]; push_cast; rfl
    have nx : L.drop i = L[i] :: L.drop (i + 1) := List.drop_eq_getElem_cons hi
    rw [show k + 1 + (t + 1) = (k + 1 + t) + 1 by omega, ledger_Between.l1, if_pos (by omega), if_pos (by omega), if_pos (by omega), rd44 L i hi, row_eta, w1, nx, List.filter_cons, List.filter_cons]
    by_cases c : idIn was L[i].f0 = true
    · obtain ⟨j, p⟩ := place_some was hw L[i].f0 c
      rw [p, Option.bind_some, if_neg (by omega), if_pos (by omega), if_pos c, if_neg (by rw [c]; decide), between_l1 was gone hw L hL k t (i + 1) _ _ (by omega) (by rw [List.length_append, List.length_singleton]; omega) (by omega), List.append_assoc]
      rfl
    · have c' : idIn was L[i].f0 = false := by simpa using c
      rw [(find_none was hw _ c').2, Option.bind_some, if_pos (by decide), if_pos (by omega), if_neg c, if_pos (by rw [c']; rfl), between_l1 was gone hw L hL k t (i + 1) _ _ (by omega) (by omega) (by rw [List.length_append, List.length_singleton]; omega), List.append_assoc]
      rfl
theorem between_l0 (was now : List S44) (hw : was.length ≤ 1000000) (hn : now.length ≤ 1000000) (L : List S44) (hL : L.length ≤ 1000000) (k : Nat) : ∀ (t i : Nat) (gone : List S44), i + t = L.length → gone.length ≤ i →
    ledger_Between.l0 (k + 2 + now.length + t) was now gone L (L.length : Int) (i : Int) = some (gone ++ (L.drop i).filter (fun y => !idIn now y.f0), (sortL rowKey now).filter (fun y => idIn was y.f0), (sortL rowKey now).filter (fun y => !idIn was y.f0))
  | 0, i, gone, h, h1 => by
    obtain rfl : i = L.length := by omega
    show ledger_Between.l0 (k + 2 + now.length) _ _ _ _ _ _ = _
    have S := between_l1 was gone hw (sortL rowKey now) (by rw [sort_len]; omega) k now.length 0 [] [] (by rw [sort_len]; omega) (Nat.le_refl _) (Nat.le_refl _)
    rw [List.drop_zero, List.nil_append, List.nil_append] at S
    rw [show k + 2 + now.length = (k + 1 + now.length) + 1 by omega, ledger_Between.l0, if_neg (by omega), sort_f now hn, Option.bind_some, List.drop_length, List.filter_nil, List.append_nil]
    exact S
  | t + 1, i, gone, h, h1 => by
    have hi : i < L.length := by omega
    have w1 : wrap64 ((i : Int) + 1) = ((i + 1 : Nat) : Int) := by rw [wrapI _ (by omega) (by omega)]; push_cast; rfl
    have nx : L.drop i = L[i] :: L.drop (i + 1) := List.drop_eq_getElem_cons hi
    rw [show k + 2 + now.length + (t + 1) = (k + 2 + now.length + t) + 1 by omega, ledger_Between.l0, if_pos (by omega), if_pos (by omega), if_pos (by omega), rd44 L i hi, row_eta, w1, nx, List.filter_cons]
    by_cases c : idIn now L[i].f0 = true
    · obtain ⟨j, p⟩ := place_some now hn L[i].f0 c
      rw [p, Option.bind_some, if_neg (by omega), if_neg (by rw [c]; decide), between_l0 was now hw hn L hL k t (i + 1) _ (by omega) (by omega)]
    · have c' : idIn now L[i].f0 = false := by simpa using c
      rw [(find_none now hn _ c').2, Option.bind_some, if_pos (by decide), if_pos (by omega), if_pos (by rw [c']; rfl), between_l0 was now hw hn L hL k t (i + 1) _ (by omega) (by rw [List.length_append, List.length_singleton]; omega), List.append_assoc]
      rfl
theorem between_is (was now : List S44) (hw : was.length ≤ 1000000) (hn : now.length ≤ 1000000) (k : Nat) (hk : was.length + now.length + 2 ≤ k) :
    ledger_Between.f k was now = some ((sortL rowKey was).filter (fun y => !idIn now y.f0), (sortL rowKey now).filter (fun y => idIn was y.f0), (sortL rowKey now).filter (fun y => !idIn was y.f0)) := by
  have S := between_l0 was now hw hn (sortL rowKey was) (by rw [sort_len]; omega) (k - 2 - now.length - was.length) was.length 0 [] (by rw [sort_len]; omega) (Nat.le_refl _)
  rw [show k - 2 - now.length - was.length + 2 + now.length + was.length = k by omega, List.drop_zero, List.nil_append] at S
  unfold ledger_Between.f
  rw [sort_f was hw, Option.bind_some]
  exact S
end Go.Proofs.YtpkjpiphjdpegaaDoor.P
