/- A program of this session wrote this text out of the session's own texts. (part 22 of 25) -/
import Derived.Test.YtpkjpiphjdpegaaCLedgerFinds4
import Derived.Test.YtpkjpiphjdpegaaCLedgerFinds5
import Derived.Test.YtpkjpiphjdpegaaCLedgerFinds10
import Derived.Test.YtpkjpiphjdpegaaCLedgerFinds12
import Derived.Test.YtpkjpiphjdpegaaCLedgerFinds15
import Derived.Test.YtpkjpiphjdpegaaCLedgerFinds16
import Derived.Test.YtpkjpiphjdpegaaCLedgerFinds19
import Derived.Test.YtpkjpiphjdpegaaCLedgerFinds20
import Derived.Test.YtpkjpiphjdpegaaCLedgerFinds21
import Derived.Test.YtpkjpiphjdpegaaProg
namespace Go.Proofs.Ytpkjpiphjdpegaa.P
open Go.RowKit Go.Proofs.YtpkjpiphjdpegaaW.PrintWords Go.Proofs.YtpkjpiphjdpegaaW.PrintLast Go.Proofs.YtpkjpiphjdpegaaW.PrintMore
set_option linter.unusedVariables false
set_option linter.unusedSimpArgs false
theorem wrapI (x : Int) (h0 : -9223372036854775808 ≤ x) (h1 : x ≤ 9223372036854775807) : wrap64 x = x := by unfold wrap64; omega
end Go.Proofs.Ytpkjpiphjdpegaa.P
namespace Go.Proofs.Ytpkjpiphjdpegaa.P
open Go.RowKit Go.Proofs.YtpkjpiphjdpegaaW.PrintWords Go.Proofs.YtpkjpiphjdpegaaW.PrintLast Go.Proofs.YtpkjpiphjdpegaaW.PrintMore
set_option linter.unusedVariables false
set_option linter.unusedSimpArgs false
theorem up {β : Type} {F : Nat → Option β} (m : ∀ k, LeO (F k) (F (k + 1))) {a : Nat} {r : β} (h : F a = some r) : ∀ b, a ≤ b → F b = some r := by
  intro b hb
  induction b with
  | zero =>
    obtain rfl : a = 0 := by omega
    exact h
  | succ b ih =>
    by_cases e : a = b + 1
    · rw [← e]; exact h
    · exact m b r (ih (by omega))
end Go.Proofs.Ytpkjpiphjdpegaa.P
namespace Go.Proofs.Ytpkjpiphjdpegaa.P
open Go.RowKit Go.Proofs.YtpkjpiphjdpegaaW.PrintWords Go.Proofs.YtpkjpiphjdpegaaW.PrintLast Go.Proofs.YtpkjpiphjdpegaaW.PrintMore
set_option linter.unusedVariables false
set_option linter.unusedSimpArgs false
theorem rd44 (l : List S83) (i : Nat) (hi : i < l.length) : rd_T83 l (i : Int) = l[i] := by
  unfold rd_T83
  rw [Int.toNat_natCast, List.getD_eq_getElem?_getD, List.getElem?_eq_getElem hi]
  rfl
end Go.Proofs.Ytpkjpiphjdpegaa.P
namespace Go.Proofs.Ytpkjpiphjdpegaa.P
open Go.RowKit Go.Proofs.YtpkjpiphjdpegaaW.PrintWords Go.Proofs.YtpkjpiphjdpegaaW.PrintLast Go.Proofs.YtpkjpiphjdpegaaW.PrintMore
open Go.Sort Go.Proofs Go.Proofs.Ytpkjpiphjdpegaa.Z
set_option linter.unusedVariables false
set_option linter.unusedSimpArgs false
attribute [local instance] inhS44
structure Srt (l s : List S83) (T : Nat → Nat) : Prop where
  len : s.length = l.length
  lt : ∀ i, i < l.length → T i < l.length
  at_ : ∀ i, i < l.length → s.getD i z83 = l.getD (T i) z83
  onto : ∀ k, k < l.length → ∃ i, i < l.length ∧ T i = k
  inj : ∀ i j, i < j → j < l.length → T i ≠ T j
  asc : ∀ i j, i < j → j < l.length → Op.bytesLess (rowKey (s.getD j z83)) (rowKey (s.getD i z83)) = false ∧ (rowKey (s.getD j z83) = rowKey (s.getD i z83) → T i ≤ T j)
theorem srt_is (l : List S83) : ∃ T, Srt l (sortL rowKey l) T := by
  obtain ⟨r1, r2⟩ := fold_sorted rowKey l 0 [] List.Pairwise.nil (fun y hy => by cases hy)
  have r3 := fold_fst rowKey (l.zipIdx 0) []
  rw [List.nil_append] at r2
  generalize (l.zipIdx 0).foldl (fun acc x => insL (fun y => rowKey y.1) x acc) [] = D at r1 r2 r3
  have e : D.map Prod.fst = sortL rowKey l := by
    rw [r3]
    unfold sortL
    congr 1
    simp [List.zipIdx_map_fst]
  have dl : D.length = l.length := by rw [r2.length_eq]; simp
  have gd : ∀ i (h : i < D.length), (sortL rowKey l).getD i z83 = D[i].1 ∧ (D.getD i (z83, 0)).2 = D[i].2 := fun i h => by
    rw [← e, List.getD_eq_getElem?_getD, List.getElem?_map, List.getD_eq_getElem?_getD, List.getElem?_eq_getElem h]
    exact ⟨rfl, rfl⟩
  have mem : ∀ i (h : i < D.length), l[D[i].2]? = some D[i].1 := fun i h => by
    have := r2.mem_iff.1 (List.getElem_mem h)
    have := List.mem_zipIdx_iff_getElem?.1 this
    simpa using this
  refine ⟨fun i => (D.getD i (z83, 0)).2, ⟨by rw [← e, List.length_map, dl], fun i hi => ?_, fun i hi => ?_, fun k hk => ?_, fun i j hij hj => ?_, fun i j hij hj => ?_⟩⟩
  · rw [(gd i (by omega)).2]
    exact (List.getElem?_eq_some_iff.1 (mem i (by omega))).1
  · rw [(gd i (by omega)).1, (gd i (by omega)).2, List.getD_eq_getElem?_getD, mem i (by omega)]
    rfl
  · have : (l[k], k) ∈ l.zipIdx 0 := List.mem_zipIdx_iff_getElem?.2 (by simp)
    have := r2.mem_iff.2 this
    obtain ⟨i, hi, he⟩ := List.getElem_of_mem this
    refine ⟨i, by omega, ?_⟩
    rw [(gd i hi).2, he]
  · rw [(gd i (by omega)).2, (gd j (by omega)).2]
    have p := (r2.map Prod.snd)
    have nd : (D.map Prod.snd).Nodup := by
      refine p.nodup_iff.2 ?_
      rw [List.zipIdx_map_snd]
      exact List.nodup_range' ..
    have := List.pairwise_iff_getElem.1 nd i j (by rw [List.length_map]; omega) (by rw [List.length_map]; omega) hij
    simpa using this
  · have := List.pairwise_iff_getElem.1 r1 i j (by omega) (by omega) hij
    have f := (ltB_false rowKey).1 this
    rw [(gd i (by omega)).1, (gd j (by omega)).1, (gd i (by omega)).2, (gd j (by omega)).2]
    exact f
theorem sort_len (l : List S83) : (sortL rowKey l).length = l.length := by
  obtain ⟨T, h⟩ := srt_is l
  exact h.len
theorem sort_f (l : List S83) (h : l.length ≤ 1000000) : row_Sort.f l = some (sortL rowKey l) := if_pos h
end Go.Proofs.Ytpkjpiphjdpegaa.P
namespace Go.Proofs.Ytpkjpiphjdpegaa.P
open Go.RowKit Go.Proofs.YtpkjpiphjdpegaaW.PrintWords Go.Proofs.YtpkjpiphjdpegaaW.PrintLast Go.Proofs.YtpkjpiphjdpegaaW.PrintMore
open Go.Sort Go.Proofs Go.Proofs.Ytpkjpiphjdpegaa.Z
set_option linter.unusedVariables false
set_option linter.unusedSimpArgs false
def idIn (rows : List S83) (s : ByteArray) : Bool := rows.any fun y => y.f0.toList == s.toList
end Go.Proofs.Ytpkjpiphjdpegaa.P
namespace Go.Proofs.Ytpkjpiphjdpegaa.P
open Go.RowKit Go.Proofs.YtpkjpiphjdpegaaW.PrintWords Go.Proofs.YtpkjpiphjdpegaaW.PrintLast Go.Proofs.YtpkjpiphjdpegaaW.PrintMore
open Go.Proofs.Ytpkjpiphjdpegaa.Z
set_option linter.unusedVariables false
set_option linter.unusedSimpArgs false
theorem idx_from (q : S83 → Bool) (x : S83) : ∀ (l : List S83) (n : Nat), (Lib.idxByFrom (fun _ y => q y) x l n = -1 ∧ l.any q = false) ∨ ∃ j, ∃ h : j < l.length, Lib.idxByFrom (fun _ y => q y) x l n = ((n + j : Nat) : Int) ∧ q l[j] = true
  | [], n => .inl ⟨rfl, rfl⟩
  | y :: l, n => by
    rw [Lib.idxByFrom]
    by_cases c : q y = true
    · rw [if_pos c]
      exact .inr ⟨0, Nat.zero_lt_succ _, by rw [Nat.add_zero], c⟩
    · rw [if_neg c]
      rcases idx_from q x l (n + 1) with ⟨e1, e2⟩ | ⟨j, h, e1, e2⟩
      · exact .inl ⟨e1, by rw [List.any_cons, e2]; simpa using c⟩
      · exact .inr ⟨j + 1, Nat.succ_lt_succ h, by rw [e1]; congr 1; omega, e2⟩
theorem find_is (l : List S83) (hl : l.length ≤ 1000000) (id : ByteArray) :
    (idIn l id = false ∧ ledger_place.f l id = some (-1) ∧ ledger_Find.f l id = some ((⟨#[]⟩ : ByteArray), 0, 0, false)) ∨
    ∃ j, ∃ h : j < l.length, l[j].f0.toList = id.toList ∧ idIn l id = true ∧ ledger_place.f l id = some (j : Int) ∧ ledger_Find.f l id = some (l[j].f0, l[j].f1.f0, l[j].f1.f1, true) := by
  have pf : ledger_place.f l id = some (Lib.idxByFrom (fun _ y => isId id y) default l 0) := if_pos hl
  rcases idx_from (isId id) default l 0 with ⟨e1, e2⟩ | ⟨j, h, e1, e2⟩
  · refine .inl ⟨e2, by rw [pf, e1], ?_⟩
    unfold ledger_Find.f
    rw [pf, e1, Option.bind_some, if_pos (by decide)]
  · have k : l[j].f0.toList = id.toList := by unfold isId at e2; simpa using e2
    rw [Nat.zero_add] at e1
    refine .inr ⟨j, h, k, ?_, by rw [pf, e1], ?_⟩
    · unfold idIn
      rw [List.any_eq_true]
      exact ⟨l[j], List.getElem_mem h, by simpa using k⟩
    · unfold ledger_Find.f
      rw [pf, e1, Option.bind_some, if_neg (by omega), if_pos (by omega), if_pos (by omega), rd44 l j h]
theorem find_none (l : List S83) (hl : l.length ≤ 1000000) (id : ByteArray) (h : idIn l id = false) : ledger_Find.f l id = some ((⟨#[]⟩ : ByteArray), 0, 0, false) ∧ ledger_place.f l id = some (-1) := by
  rcases find_is l hl id with ⟨_, p, f⟩ | ⟨j, hj, _, e, _, _⟩
  · exact ⟨f, p⟩
  · rw [h] at e; cases e
theorem place_some (l : List S83) (hl : l.length ≤ 1000000) (id : ByteArray) (h : idIn l id = true) : ∃ j : Nat, ledger_place.f l id = some (j : Int) := by
  rcases find_is l hl id with ⟨e, _, _⟩ | ⟨j, hj, _, _, p, _⟩
  · rw [h] at e; cases e
  · exact ⟨j, p⟩
theorem row_eta (y : S83) : (⟨y.f0, (⟨y.f1.f0, y.f1.f1⟩ : S25)⟩ : S83) = y := rfl
theorem between_l1 (was gone : List S83) (hw : was.length ≤ 1000000) (L : List S83) (hL : L.length ≤ 1000000) (k : Nat) : ∀ (t i : Nat) (stay come : List S83), i + t = L.length → stay.length ≤ i → come.length ≤ i →
    ledger_Between.l1 (k + 1 + t) was gone stay come L (L.length : Int) (i : Int) = some (gone, stay ++ (L.drop i).filter (fun y => idIn was y.f0), come ++ (L.drop i).filter (fun y => !idIn was y.f0))
  | 0, i, stay, come, h, h1, h2 => by
    obtain rfl : i = L.length := by omega
    show ledger_Between.l1 (k + 1) _ _ _ _ _ _ _ = _
    rw [ledger_Between.l1, if_neg (by omega), List.drop_length, List.filter_nil, List.filter_nil, List.append_nil, List.append_nil]
  | t + 1, i, stay, come, h, h1, h2 => by
    have hi : i < L.length := by omega
    have w1 : wrap64 ((i : Int) + 1) = ((i + 1 : Nat) : Int) := by rw [wrapI _ (by omega) (by omega)]; push_cast; rfl
    have nx : L.drop i = L[i] :: L.drop (i + 1) := List.drop_eq_getElem_cons hi
    rw [show k + 1 + (t + 1) = (k + 1 + t) + 1 by omega, ledger_Between.l1, if_pos (by omega), if_pos (by omega), if_pos (by omega), rd44 L i hi, row_eta, w1, nx, List.filter_cons, List.filter_cons]
    by_cases c : idIn was L[i].f0 = true
    · obtain ⟨j, p⟩ := place_some was hw L[i].f0 c
      rw [p, Option.bind_some, if_neg (by omega), if_pos (by omega), if_pos c, if_neg (by rw [c]; decide), between_l1 was gone hw L hL k t (i + 1) _ _ (by omega) (by rw [List.length_append, List.length_singleton]; omega) (by omega), List.append_assoc]
      rfl
    · have c' : idIn was L[i].f0 = false := by simpa using c
      rw [(find_none was hw _ c').2, Option.bind_some, if_pos (by decide), if_pos (by omega), if_neg c, if_pos (by rw [c']; rfl), between_l1 was gone hw L hL k t (i + 1) _ _ (by omega) (by omega) (by rw [List.length_append, List.length_singleton]; omega), List.append_assoc]
      rfl
theorem between_l0 (was now : List S83) (hw : was.length ≤ 1000000) (hn : now.length ≤ 1000000) (L : List S83) (hL : L.length ≤ 1000000) (k : Nat) : ∀ (t i : Nat) (gone : List S83), i + t = L.length → gone.length ≤ i →
    ledger_Between.l0 (k + 2 + now.length + t) was now gone L (L.length : Int) (i : Int) = some (gone ++ (L.drop i).filter (fun y => !idIn now y.f0), (sortL rowKey now).filter (fun y => idIn was y.f0), (sortL rowKey now).filter (fun y => !idIn was y.f0))
  | 0, i, gone, h, h1 => by
    obtain rfl : i = L.length := by omega
    show ledger_Between.l0 (k + 2 + now.length) _ _ _ _ _ _ = _
    have S := between_l1 was gone hw (sortL rowKey now) (by rw [sort_len]; omega) k now.length 0 [] [] (by rw [sort_len]; omega) (Nat.le_refl _) (Nat.le_refl _)
    rw [List.drop_zero, List.nil_append, List.nil_append] at S
    rw [show k + 2 + now.length = (k + 1 + now.length) + 1 by omega, ledger_Between.l0, if_neg (by omega), sort_f now hn, Option.bind_some, List.drop_length, List.filter_nil, List.append_nil]
    exact S
  | t + 1, i, gone, h, h1 => by
    have hi : i < L.length := by omega
    have w1 : wrap64 ((i : Int) + 1) = ((i + 1 : Nat) : Int) := by rw [wrapI _ (by omega) (by omega)]; push_cast; rfl
    have nx : L.drop i = L[i] :: L.drop (i + 1) := List.drop_eq_getElem_cons hi
    rw [show k + 2 + now.length + (t + 1) = (k + 2 + now.length + t) + 1 by omega, ledger_Between.l0, if_pos (by omega), if_pos (by omega), if_pos (by omega), rd44 L i hi, row_eta, w1, nx, List.filter_cons]
    by_cases c : idIn now L[i].f0 = true
    · obtain ⟨j, p⟩ := place_some now hn L[i].f0 c
      rw [p, Option.bind_some, if_neg (by omega), if_neg (by rw [c]; decide), between_l0 was now hw hn L hL k t (i + 1) _ (by omega) (by omega)]
    · have c' : idIn now L[i].f0 = false := by simpa using c
      rw [(find_none now hn _ c').2, Option.bind_some, if_pos (by decide), if_pos (by omega), if_pos (by rw [c']; rfl), between_l0 was now hw hn L hL k t (i + 1) _ (by omega) (by rw [List.length_append, List.length_singleton]; omega), List.append_assoc]
      rfl
theorem between_is (was now : List S83) (hw : was.length ≤ 1000000) (hn : now.length ≤ 1000000) (k : Nat) (hk : was.length + now.length + 2 ≤ k) :
    ledger_Between.f k was now = some ((sortL rowKey was).filter (fun y => !idIn now y.f0), (sortL rowKey now).filter (fun y => idIn was y.f0), (sortL rowKey now).filter (fun y => !idIn was y.f0)) := by
  have S := between_l0 was now hw hn (sortL rowKey was) (by rw [sort_len]; omega) (k - 2 - now.length - was.length) was.length 0 [] (by rw [sort_len]; omega) (Nat.le_refl _)
  rw [show k - 2 - now.length - was.length + 2 + now.length + was.length = k by omega, List.drop_zero, List.nil_append] at S
  unfold ledger_Between.f
  rw [sort_f was hw, Option.bind_some]
  exact S
end Go.Proofs.Ytpkjpiphjdpegaa.P
namespace Go.Proofs.Ytpkjpiphjdpegaa.P
open Go.RowKit Go.Proofs.YtpkjpiphjdpegaaW.PrintWords Go.Proofs.YtpkjpiphjdpegaaW.PrintLast Go.Proofs.YtpkjpiphjdpegaaW.PrintMore
set_option linter.unusedVariables false
set_option linter.unusedSimpArgs false
theorem same44_l0 (l : List S83) (hl : l.length ≤ 1000000000) (k : Nat) : ∀ (t i : Nat), i + t = l.length → paymasterref10_Same.l0 (k + 1 + t) l l (i : Int) = some true
  | 0, i, h => by
    show paymasterref10_Same.l0 (k + 1) _ _ _ = _
    rw [paymasterref10_Same.l0, if_neg (by omega)]
  | t + 1, i, h => by
    have ih := same44_l0 l hl k t (i + 1) (by omega)
    show paymasterref10_Same.l0 (k + 1 + t + 1) _ _ _ = _
    rw [paymasterref10_Same.l0, if_pos (show (i : Int) < (l.length : Int) by omega), if_pos (show (0 : Int) ≤ (i : Int) by omega), if_pos (show (i : Int) < (l.length : Int) by omega), if_neg (by simp), wrapI _ (by omega) (by omega), show (i : Int) + 1 = ((i + 1 : Nat) : Int) from by omega]
    exact ih
theorem same44_is (l : List S83) (hl : l.length ≤ 1000000000) (k : Nat) (hk : l.length + 1 ≤ k) : paymasterref10_Same.f k l l = some true := by
  unfold paymasterref10_Same.f
  rw [if_pos rfl]
  have := same44_l0 l hl (k - 1 - l.length) l.length 0 (by omega)
  rw [show k - 1 - l.length + 1 + l.length = k by omega] at this
  exact this
end Go.Proofs.Ytpkjpiphjdpegaa.P
namespace Go.Proofs.Ytpkjpiphjdpegaa.P
open Go.RowKit Go.Proofs.YtpkjpiphjdpegaaW.PrintWords Go.Proofs.YtpkjpiphjdpegaaW.PrintLast Go.Proofs.YtpkjpiphjdpegaaW.PrintMore
set_option linter.unusedVariables false
set_option linter.unusedSimpArgs false
theorem long_l0 (l : List S83) (hl : l.length ≤ 200) (k : Nat) : ∀ (t i : Nat), i + t = l.length → ∃ b, paymasterlaw10_Long.l0 (k + 1 + t) l (i : Int) = some b ∧ (b = false → ∀ y ∈ l.drop i, y.f0.size ≤ 200)
  | 0, i, h => by
    refine ⟨false, ?_, fun _ => ?_⟩
    · show paymasterlaw10_Long.l0 (k + 1) _ _ = _
      rw [paymasterlaw10_Long.l0, if_neg (by omega)]
    · obtain rfl : i = l.length := by omega
      rw [List.drop_length]; simp
  | t + 1, i, h => by
    have hi : i < l.length := by omega
    have nx : l.drop i = l[i] :: l.drop (i + 1) := List.drop_eq_getElem_cons hi
    have w1 : wrap64 ((i : Int) + 1) = ((i + 1 : Nat) : Int) := by rw [wrapI _ (by omega) (by omega)]; push_cast; rfl
    rw [show k + 1 + (t + 1) = (k + 1 + t) + 1 by omega, paymasterlaw10_Long.l0, if_pos (show (i : Int) < (l.length : Int) by omega), if_pos (show (0 : Int) ≤ (i : Int) by omega), rd44 l i hi]
    by_cases c : (l[i].f0.size : Int) > 200
    · rw [if_pos c]
      exact ⟨true, rfl, fun e => by cases e⟩
    · rw [if_neg c, w1]
      obtain ⟨b, h1, h2⟩ := long_l0 l hl k t (i + 1) (by omega)
      refine ⟨b, h1, fun e y hy => ?_⟩
      rw [nx] at hy
      rcases List.mem_cons.1 hy with rfl | hy
      · omega
      · exact h2 e y hy
theorem long_is (l : List S83) (k : Nat) (hk : 300 ≤ k) : ∃ b, paymasterlaw10_Long.f k l = some b ∧ (b = false → l.length ≤ 200 ∧ ∀ y ∈ l, y.f0.size ≤ 200) := by
  unfold paymasterlaw10_Long.f
  by_cases c : (l.length : Int) > 200
  · rw [if_pos c]
    exact ⟨true, rfl, fun e => by cases e⟩
  · rw [if_neg c]
    obtain ⟨b, h1, h2⟩ := long_l0 l (by omega) (k - 1 - l.length) l.length 0 (by omega)
    rw [show k - 1 - l.length + 1 + l.length = k by omega] at h1
    exact ⟨b, h1, fun e => ⟨by omega, h2 e⟩⟩
end Go.Proofs.Ytpkjpiphjdpegaa.P
namespace Go.Proofs.Ytpkjpiphjdpegaa.P
open Go.RowKit Go.Proofs.YtpkjpiphjdpegaaW.PrintWords Go.Proofs.YtpkjpiphjdpegaaW.PrintLast Go.Proofs.YtpkjpiphjdpegaaW.PrintMore
open Go.Proofs.Ytpkjpiphjdpegaa.Z
set_option linter.unusedVariables false
set_option linter.unusedSimpArgs false
theorem insL_split (x : S83) : ∀ (A B : List S83), (∀ y ∈ A, Op.bytesLess (rowKey x) (rowKey y) = false) → (∀ y ∈ B, Op.bytesLess (rowKey x) (rowKey y) = true) → insL rowKey x (A ++ B) = A ++ x :: B
  | [], [], _, _ => rfl
  | [], y :: B, _, h => by
    rw [List.nil_append, insL, if_pos (h y (List.mem_cons_self ..))]
    rfl
  | y :: A, B, h, h' => by
    rw [List.cons_append, insL, if_neg (by rw [h y (List.mem_cons_self ..)]; decide), insL_split x A B (fun z hz => h z (List.mem_cons_of_mem _ hz)) h']
    rfl
theorem refSort_l1 (l acc : List S83) (i : Nat) (hi : i < l.length) (hl : l.length ≤ 2000) (ha : acc.length ≤ 2000) (hs : ∀ p q, p < q → q < acc.length → Op.bytesLess (rowKey (acc.getD q z83)) (rowKey (acc.getD p z83)) = false) (r : List S83)
    (R : ∃ k, paymasterref10_Sort.l0 k l (insL rowKey (l.getD i z83) acc) ((i + 1 : Nat) : Int) = some r) :
    ∀ p, p ≤ acc.length → (∀ y ∈ acc.drop p, Op.bytesLess (rowKey (l.getD i z83)) (rowKey y) = true) → ∃ k, paymasterref10_Sort.l1 k l acc (i : Int) (p : Int) = some r
  | 0, hp, hd => by
    obtain ⟨k, hk⟩ := R
    refine ⟨k + 1, ?_⟩
    have e := insL_split (l.getD i z83) [] acc (by simp) (by rw [List.drop_zero] at hd; exact hd)
    rw [List.nil_append] at e
    rw [e] at hk
    have ri : rd_T83 l (i : Int) = l.getD i z83 := by unfold rd_T83; rw [Int.toNat_natCast]
    rw [paymasterref10_Sort.l1, if_neg (by omega), Option.bind_some, if_pos (by omega), if_pos (by omega), Option.bind_some, if_pos (by simp; omega), Option.bind_some, Option.bind_some, if_pos (by omega), if_pos (by omega), if_pos (by simp), Option.bind_some, if_pos (by simp; omega), ri, wrapI _ (by omega) (by omega), show (i : Int) + 1 = ((i + 1 : Nat) : Int) from by push_cast; rfl]
    exact hk
  | p + 1, hp, hd => by
    have w1 : wrap64 (((p + 1 : Nat) : Int) - 1) = (p : Int) := by rw [wrapI _ (by omega) (by omega)]; push_cast; omega
    have ri : rd_T83 l (i : Int) = l.getD i z83 := by unfold rd_T83; rw [Int.toNat_natCast]
    have rp : rd_T83 acc (p : Int) = acc.getD p z83 := by unfold rd_T83; rw [Int.toNat_natCast]
    have nx : acc.drop p = acc.getD p z83 :: acc.drop (p + 1) := by
      rw [List.drop_eq_getElem_cons (by omega), List.getD_eq_getElem?_getD, List.getElem?_eq_getElem (by omega)]; rfl
    by_cases c : Op.bytesLess (l.getD i z83).f0.toList (acc.getD p z83).f0.toList = true
    · obtain ⟨k, hk⟩ := refSort_l1 l acc i hi hl ha hs r R p (by omega) (by
        rw [nx]
        intro y hy
        rcases List.mem_cons.1 hy with rfl | hy
        · exact c
        · exact hd y hy)
      refine ⟨k + 1, ?_⟩
      rw [paymasterref10_Sort.l1, if_pos (by omega), w1, if_pos (by omega), if_pos (by omega), if_pos (by omega), if_pos (by omega), ri, rp, if_pos c]
      exact hk
    · obtain ⟨k, hk⟩ := R
      refine ⟨k + 1, ?_⟩
      have cf : Op.bytesLess (rowKey (l.getD i z83)) (rowKey (acc.getD p z83)) = false := by simpa [rowKey] using c
      have e := insL_split (l.getD i z83) (acc.take (p + 1)) (acc.drop (p + 1)) (fun y hy => by
        obtain ⟨q, hq, rfl⟩ := List.getElem_of_mem hy
        rw [List.length_take] at hq
        rw [List.getElem_take]
        have gq : acc.getD q z83 = acc[q] := by rw [List.getD_eq_getElem?_getD, List.getElem?_eq_getElem (by omega)]; rfl
        rw [← gq]
        rcases Nat.lt_or_ge q p with h | h
        · exact kl_ntrans cf (hs q p h (by omega))
        · rw [show q = p by omega]; exact cf) hd
      rw [List.take_append_drop] at e
      rw [e] at hk
      rw [paymasterref10_Sort.l1, if_pos (by omega), w1, if_pos (by omega), if_pos (by omega), if_pos (by omega), if_pos (by omega), ri, rp, if_neg c, Option.bind_some, if_pos (by omega), if_pos (by omega), Option.bind_some, Int.toNat_natCast, if_pos (by simp; omega), Option.bind_some, Option.bind_some, if_pos (by rw [List.length_take]; omega), Option.bind_some, if_pos (by simp; omega), List.nil_append, List.append_assoc, wrapI _ (by omega) (by omega), show (i : Int) + 1 = ((i + 1 : Nat) : Int) from by push_cast; rfl]
      exact hk
theorem refSort_l0 (l : List S83) (hl : l.length ≤ 2000) : ∀ (t i : Nat), i + t = l.length → ∃ k, paymasterref10_Sort.l0 k l (sortL rowKey (l.take i)) (i : Int) = some (sortL rowKey l)
  | 0, i, h => by
    obtain rfl : i = l.length := by omega
    exact ⟨1, by rw [paymasterref10_Sort.l0, if_neg (by omega), List.take_length]⟩
  | t + 1, i, h => by
    have R := refSort_l0 l hl t (i + 1) (by omega)
    have nx : l.take (i + 1) = l.take i ++ [l.getD i z83] := by
      rw [List.take_succ_eq_append_getElem (by omega), List.getD_eq_getElem?_getD, List.getElem?_eq_getElem (by omega)]; rfl
    have e : sortL rowKey (l.take (i + 1)) = insL rowKey (l.getD i z83) (sortL rowKey (l.take i)) := by
      rw [nx]
      unfold sortL
      rw [List.foldl_append]
      rfl
    rw [e] at R
    obtain ⟨T, S⟩ := srt_is (l.take i)
    have sl := S.len
    have tl : (l.take i).length = i := by rw [List.length_take]; omega
    obtain ⟨k, hk⟩ := refSort_l1 l (sortL rowKey (l.take i)) i (by omega) hl (by omega) (fun p q hpq hq => (S.asc p q hpq (by omega)).1) (sortL rowKey l) R (sortL rowKey (l.take i)).length (Nat.le_refl _) (by rw [List.drop_length]; simp)
    refine ⟨k + 1, ?_⟩
    rw [paymasterref10_Sort.l0, if_pos (by omega)]
    exact hk
theorem refSort_is (l : List S83) (hl : l.length ≤ 2000) : ∃ K, ∀ k, K ≤ k → paymasterref10_Sort.f k l = some (sortL rowKey l) := by
  obtain ⟨K, hK⟩ := refSort_l0 l hl l.length 0 (by omega)
  exact ⟨K, fun k hk => up (F := fun k => paymasterref10_Sort.f k l) (paymasterref10_Sort.mono l) hK k hk⟩
end Go.Proofs.Ytpkjpiphjdpegaa.P
