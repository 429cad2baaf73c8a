/- A program of this session wrote this text out of the session's own texts. (part 43 of 44) -/
import Derived.Test.YtpkjpiphjdpegaaDoorCLedgerTurned24
import Derived.Test.YtpkjpiphjdpegaaDoorCLedgerTurned31
import Derived.Test.YtpkjpiphjdpegaaDoorCLedgerTurned34
import Derived.Test.YtpkjpiphjdpegaaDoorCLedgerTurned41
import Derived.Test.YtpkjpiphjdpegaaDoorCLedgerTurned42
namespace Go.Proofs.YtpkjpiphjdpegaaDoor.P
open Go.RowKit Go.Proofs.YtpkjpiphjdpegaaDoorW.PrintWords Go.Proofs.YtpkjpiphjdpegaaDoorW.PrintLast Go.Proofs.YtpkjpiphjdpegaaDoorW.PrintMore
open Go.Proofs.YtpkjpiphjdpegaaDoor.Z
set_option linter.unusedVariables false
set_option linter.unusedSimpArgs false
theorem imp_turned {most : Int} {A B : List (List UInt8)} (p : A.Perm B) (h0 : 0 ≤ most) : ((impL most 1 [] A).2.2 = 0 ↔ (impL most 1 [] B).2.2 = 0) ∧ sortL rowKey (impL most 1 [] A).1 = sortL rowKey (impL most 1 [] B).1 := by
  have G0 : Good most [] := good_nil h0
  have q : (rowsQ A).Perm (rowsQ B) := p.flatMap_right rowQ
  obtain ⟨a1, a2, a3⟩ := imp_ok A [] 1 G0
  obtain ⟨b1, b2, b3⟩ := imp_ok B [] 1 G0
  rw [List.nil_append] at a1 a2 b1 b2
  have ab : (impL most 1 [] A).2.2 = 0 → impL most 1 [] B = (rowsQ B, 0, 0) := fun z => by
    obtain ⟨x, y, _⟩ := a2 z
    exact b1 (fun h hh => x h (p.mem_iff.2 hh)) (good_perm y q)
  have ba : (impL most 1 [] B).2.2 = 0 → impL most 1 [] A = (rowsQ A, 0, 0) := fun z => by
    obtain ⟨x, y, _⟩ := b2 z
    exact a1 (fun h hh => x h (p.mem_iff.1 hh)) (good_perm y q.symm)
  refine ⟨⟨fun z => by rw [ab z], fun z => by rw [ba z]⟩, ?_⟩
  by_cases z : (impL most 1 [] A).2.2 = 0
  · obtain ⟨x, y, e⟩ := a2 z
    rw [ab z, e]
    exact sort_same q y.ids
  · have z' : ¬ (impL most 1 [] B).2.2 = 0 := fun w => z (by rw [ba w])
    rw [(a3 z).1, (b3 z').1]
def spreadL (r : List UInt8) (L : List (List UInt8)) : List (List UInt8) := L.flatMap fun h => [[], r, h]
theorem lineE_empty (most : Int) (acc : List S44) : lineE most acc [] = 0 ∧ rowQ [] = [] := by
  unfold lineE rowQ
  rw [one_empty]
  exact ⟨rfl, rfl⟩
theorem lineE_rem (most : Int) (acc : List S44) (s : ByteArray) : lineE most acc (remL s) = wrongOf (remL s) ∧ rowQ (remL s) = [] := by
  unfold lineE rowQ
  by_cases w : wrongOf (remL s) = 0
  · rw [one_rem s w, w]
    exact ⟨rfl, rfl⟩
  · unfold oneB
    rw [if_neg w]
    dsimp only
    rw [if_neg w]
    exact ⟨rfl, rfl⟩
theorem imp_spread {most : Int} (s : ByteArray) (w : wrongOf (remL s) = 0) : ∀ (L : List (List UInt8)) (acc : List S44) (n : Int),
    impL most (3 * n - 2) acc (spreadL (remL s) L) = ((impL most n acc L).1, 3 * (impL most n acc L).2.1, (impL most n acc L).2.2)
  | [], acc, n => rfl
  | h :: L, acc, n => by
    have e : spreadL (remL s) (h :: L) = [] :: remL s :: h :: spreadL (remL s) L := rfl
    have ih := imp_spread (most := most) s w L (acc ++ rowQ h) (n + 1)
    rw [show 3 * (n + 1) - 2 = 3 * n - 2 + 1 + 1 + 1 by omega] at ih
    rw [e, impL_cons, (lineE_empty most acc).1, (lineE_empty most acc).2, if_pos rfl, List.append_nil, impL_cons, (lineE_rem most acc s).1, (lineE_rem most acc s).2, if_pos w, List.append_nil, impL_cons, impL_cons]
    by_cases c : lineE most acc h = 0
    · rw [if_pos c, if_pos c]
      exact ih
    · rw [if_neg c, if_neg c, show 3 * n - 2 + 1 + 1 = 3 * n by omega]
theorem imp_spread_bad {most : Int} (s : ByteArray) (w : ¬ wrongOf (remL s) = 0) (L : List (List UInt8)) (hL : L ≠ []) : (impL most 1 [] (spreadL (remL s) L)).2.2 ≠ 0 := by
  cases L with
  | nil => exact absurd rfl hL
  | cons h L =>
    have e : spreadL (remL s) (h :: L) = [] :: remL s :: h :: spreadL (remL s) L := rfl
    rw [e, impL_cons, (lineE_empty most []).1, if_pos rfl, impL_cons, (lineE_rem most _ s).1, if_neg w]
    exact w
theorem imp_two {r : List S44 × Int × Int} (h : r.2.2 ≠ 0) : (r.2.2 != 0) = true := by simpa using h
def linesOf (L : List ByteArray) : List (List UInt8) := L.map (·.data.toList)
theorem join_text (L : List ByteArray) (hL : L ≠ []) (hc : L.any brk = false) : splitB (joinL L).data.toList = linesOf L := by
  have cl : ∀ x ∈ linesOf L, ∀ b ∈ x, b ≠ 10 := by
    intro x hx
    obtain ⟨z, hz, rfl⟩ := List.mem_map.1 hx
    have := List.any_eq_false.1 hc z hz
    rw [Bool.not_eq_true] at this
    rw [← mk_of z] at this
    exact (brk_clean _).1 this
  show splitB (Lib.join (linesOf L) [10]) = _
  cases q : linesOf L with
  | nil => exact absurd (List.map_eq_nil_iff.1 q) hL
  | cons y r => rw [q] at cl; exact split_join r y cl
theorem join_any (L : List ByteArray) (hs : ∀ x ∈ L, x.size ≤ 202) (hl : L.length ≤ 180) : lines_Join.f L = some (if L.any brk = true then ((⟨#[]⟩ : ByteArray), 2) else (joinL L, 0)) ∧ (joinL L).size ≤ 36540 := by
  have jl := join_lenN 202 L hs
  have js := joinL_size L
  exact ⟨join_f L (by omega) (by omega), by omega⟩
def spreadB (s : ByteArray) (L : List ByteArray) : List ByteArray := L.flatMap fun m => [(⟨#[]⟩ : ByteArray), (⟨#[35, 32]⟩ : ByteArray) ++ s, m]
theorem spreadB_lines (s : ByteArray) (L : List ByteArray) : linesOf (spreadB s L) = spreadL (remL s) (linesOf L) := by
  induction L with
  | nil => rfl
  | cons m L ih =>
    have e : spreadB s (m :: L) = (⟨#[]⟩ : ByteArray) :: ((⟨#[35, 32]⟩ : ByteArray) ++ s) :: m :: spreadB s L := rfl
    have f : linesOf (m :: L) = m.data.toList :: linesOf L := rfl
    have g : spreadL (remL s) (m.data.toList :: linesOf L) = [] :: remL s :: m.data.toList :: spreadL (remL s) (linesOf L) := rfl
    have h : linesOf ((⟨#[]⟩ : ByteArray) :: ((⟨#[35, 32]⟩ : ByteArray) ++ s) :: m :: spreadB s L) = [] :: ((⟨#[35, 32]⟩ : ByteArray) ++ s).data.toList :: m.data.toList :: linesOf (spreadB s L) := rfl
    rw [e, f, g, h, ih, rem_is, mk_list]
theorem spreadB_len (s : ByteArray) (L : List ByteArray) : (spreadB s L).length = 3 * L.length := by
  induction L with
  | nil => rfl
  | cons m L ih =>
    have e : spreadB s (m :: L) = (⟨#[]⟩ : ByteArray) :: ((⟨#[35, 32]⟩ : ByteArray) ++ s) :: m :: spreadB s L := rfl
    rw [e, List.length_cons, List.length_cons, List.length_cons, ih, List.length_cons]
    omega
theorem brk_rem (s : ByteArray) : brk ((⟨#[35, 32]⟩ : ByteArray) ++ s) = brk s := by
  rw [rem_is, ← mk_of s, Bool.eq_iff_iff, ← Bool.not_eq_false, ← Bool.not_eq_false, brk_clean, brk_clean]
  unfold remL
  rw [mk_list]
  refine not_congr ⟨fun h b hb => h b (List.mem_cons_of_mem _ (List.mem_cons_of_mem _ hb)), fun h b hb => ?_⟩
  rcases List.mem_cons.1 hb with rfl | hb
  · decide
  · rcases List.mem_cons.1 hb with rfl | hb
    · decide
    · exact h b hb
theorem spreadB_brk (s : ByteArray) : ∀ (L : List ByteArray), (brk s = true → L.any brk = true) → (spreadB s L).any brk = L.any brk ∨ brk s = true
  | [], _ => .inl rfl
  | m :: L, h => by
    cases q : brk s with
    | true => exact .inr rfl
    | false =>
      refine .inl ?_
      have e : spreadB s (m :: L) = (⟨#[]⟩ : ByteArray) :: ((⟨#[35, 32]⟩ : ByteArray) ++ s) :: m :: spreadB s L := rfl
      have b0 : brk (⟨#[]⟩ : ByteArray) = false := by decide
      rcases spreadB_brk s L (fun z => by rw [q] at z; cases z) with ih | ih
      · rw [e, List.any_cons, List.any_cons, List.any_cons, List.any_cons, ih, brk_rem, q, b0, Bool.false_or, Bool.false_or]
      · rw [q] at ih; cases ih
theorem spread_any (L : List ByteArray) (I : Nat) (hI : I < L.length) : (spreadB L[I] L).any brk = L.any brk := by
  rcases spreadB_brk L[I] L (fun z => List.any_eq_true.2 ⟨L[I], List.getElem_mem hI, z⟩) with h | h
  · exact h
  · have t : L.any brk = true := List.any_eq_true.2 ⟨L[I], List.getElem_mem hI, h⟩
    rw [t, List.any_eq_true]
    exact ⟨(⟨#[35, 32]⟩ : ByteArray) ++ L[I], List.mem_flatMap.2 ⟨L[I], List.getElem_mem hI, by simp⟩, by rw [brk_rem]; exact h⟩
theorem rdB (L : List ByteArray) (i : Nat) (hi : i < L.length) : rdOf ByteArray.empty L (i : Int) = L[i] := by
  unfold rdOf
  rw [Int.toNat_natCast, List.getD_eq_getElem?_getD, List.getElem?_eq_getElem hi]
  rfl
theorem turned_end (L T : List ByteArray) (h : Int) (I : Nat) (hI : I < L.length) (hl : L.length ≤ 60) (hs : ∀ x ∈ L, x.size ≤ 200) (hT : T.Perm L) (k : Nat) (hk : 5000 ≤ k) :
    paymasterlaw11_LedgerTurned.l1 (k + 2) L h L.reverse (spreadB L[I] L) T (I : Int) (L.length : Int) = some true := by
  have pr : L.reverse.Perm L := List.reverse_perm L
  have Ln : L ≠ [] := fun e => by rw [e] at hI; cases hI
  have hI2 := hs _ (List.getElem_mem hI)
  have any_perm : ∀ X : List ByteArray, X.Perm L → X.any brk = L.any brk := fun X p => by
    rw [Bool.eq_iff_iff, List.any_eq_true, List.any_eq_true]
    exact ⟨fun ⟨x, hx, e⟩ => ⟨x, p.mem_iff.1 hx, e⟩, fun ⟨x, hx, e⟩ => ⟨x, p.mem_iff.2 hx, e⟩⟩
  have sS : ∀ x ∈ spreadB L[I] L, x.size ≤ 202 := by
    intro x hx
    obtain ⟨m, hm, hx⟩ := List.mem_flatMap.1 hx
    have := hs m hm
    rcases List.mem_cons.1 hx with rfl | hx
    · decide
    · rcases List.mem_cons.1 hx with rfl | hx
      · rw [ByteArray.size_append]
        show 2 + L[I].size ≤ 202
        omega
      · rw [List.mem_singleton.1 hx]; omega
  obtain ⟨j1, s1⟩ := join_any L (fun x hx => by have := hs x hx; omega) (by omega)
  obtain ⟨j2, s2⟩ := join_any L.reverse (fun x hx => by have := hs x (pr.mem_iff.1 hx); omega) (by rw [List.length_reverse]; omega)
  obtain ⟨j3, s3⟩ := join_any T (fun x hx => by have := hs x (hT.mem_iff.1 hx); omega) (by rw [hT.length_eq]; omega)
  obtain ⟨j4, s4⟩ := join_any (spreadB L[I] L) sS (by rw [spreadB_len]; omega)
  rw [any_perm _ pr] at j2
  rw [any_perm _ hT] at j3
  rw [spread_any L I hI] at j4
  rw [show k + 2 = (k + 1) + 1 from rfl, paymasterlaw11_LedgerTurned.l1, if_neg (by omega), j1, Option.bind_some, j2, Option.bind_some, j3, Option.bind_some, j4, Option.bind_some]
  by_cases c : L.any brk = true
  · rw [if_pos c, if_pos c, if_pos c, if_pos c]
    dsimp only
    rw [if_neg (by decide), paymasterlaw11_LedgerTurned.j3, if_pos rfl, if_pos rfl, if_pos rfl]
    rfl
  · have c' : L.any brk = false := by simpa using c
    have l1 := join_text L Ln c'
    have l2 := join_text L.reverse (by simpa using Ln) (by rw [any_perm _ pr]; exact c')
    have l3 := join_text T (fun e => by rw [e] at hT; exact Ln (List.nil_perm.1 hT)) (by rw [any_perm _ hT]; exact c')
    have l4 := join_text (spreadB L[I] L) (fun e => by have := spreadB_len L[I] L; rw [e] at this; simp at this; omega) (by rw [spread_any L I hI]; exact c')
    rw [spreadB_lines] at l4
    have cI : ∀ b ∈ remL L[I], b ≠ 10 := by
      have := List.any_eq_false.1 c' _ (List.getElem_mem hI)
      rw [Bool.not_eq_true, ← brk_rem, rem_is] at this
      exact (brk_clean _).1 this
    have ck : lines_Check.f ((⟨#[35, 32]⟩ : ByteArray) ++ L[I]) = some (if wrongOf (remL L[I]) = 0 then (0, 0) else (1, wrongOf (remL L[I]))) := by
      rw [rem_is, check_f _ (by rw [mk_size]; unfold remL; rw [List.length_cons, List.length_cons, Array.length_toList]; show L[I].size + 1 + 1 ≤ _; omega), check_one _ cI]
    rw [if_neg c, if_neg c, if_neg c, if_neg c]
    dsimp only
    rw [if_pos rfl, if_pos rfl, if_pos rfl, paymasterlaw11_LedgerTurned.j3, if_neg (by decide), import_f _ _ (by omega), Option.bind_some, import_f _ _ (by omega), Option.bind_some, import_f _ _ (by omega), Option.bind_some, import_f _ _ (by omega), Option.bind_some]
    by_cases hb : h < 0 ∨ 10 < h
    · rw [importOf_bad _ h hb, importOf_bad _ h hb, importOf_bad _ h hb, importOf_bad _ h hb]
      dsimp only
      rw [if_neg (by decide), if_neg (by decide), same44_is _ (by simp) _ (by simp; omega), Option.bind_some, if_pos rfl, Option.bind_some, if_pos rfl, if_pos (by omega), if_pos (by omega), rdB L I hI, if_pos (by omega), ck, Option.bind_some]
      by_cases w : wrongOf (remL L[I]) = 0
      · rw [if_pos w]
        dsimp only
        rw [if_pos rfl, if_pos rfl, Option.bind_some, if_pos rfl, wrapI _ (by omega) (by omega)]
        rfl
      · rw [if_neg w]
        dsimp only
        rw [if_neg w, if_pos rfl]
        rfl
    · rw [importOf_ok _ h hb (by omega), importOf_ok _ h hb (by omega), importOf_ok _ h hb (by omega), importOf_ok _ h hb (by omega), l1, l2, l3, l4]
      obtain ⟨e1, e2⟩ := imp_turned (most := ((2 ^ h.toNat : Nat) : Int)) (pr.symm.map (·.data.toList)) (most_pos h)
      obtain ⟨e3, e4⟩ := imp_turned (most := ((2 ^ h.toNat : Nat) : Int)) (hT.symm.map (·.data.toList)) (most_pos h)
      have sp := fun (w : wrongOf (remL L[I]) = 0) => imp_spread (most := ((2 ^ h.toNat : Nat) : Int)) L[I] w (linesOf L) [] 1
      have sb := fun (w : ¬ wrongOf (remL L[I]) = 0) => imp_spread_bad (most := ((2 ^ h.toNat : Nat) : Int)) L[I] w (linesOf L) (fun e => Ln (List.map_eq_nil_iff.1 e))
      have sz : (sortL rowKey (impL ((2 ^ h.toNat : Nat) : Int) 1 [] (linesOf L)).1).length ≤ 60 := by
        rw [sort_len]
        obtain ⟨_, a2, a3⟩ := imp_ok (most := ((2 ^ h.toNat : Nat) : Int)) (linesOf L) [] 1 (good_nil (most_pos h))
        by_cases z : (impL ((2 ^ h.toNat : Nat) : Int) 1 [] (linesOf L)).2.2 = 0
        · rw [(a2 z).2.2, List.nil_append]
          have := rowsQ_len (linesOf L)
          have ll : (linesOf L).length = L.length := List.length_map ..
          show (rowsQ (linesOf L)).length ≤ 60
          omega
        · rw [(a3 z).1]; exact Nat.zero_le _
      have rng : 0 ≤ (impL ((2 ^ h.toNat : Nat) : Int) 1 [] (linesOf L)).2.1 ∧ (impL ((2 ^ h.toNat : Nat) : Int) 1 [] (linesOf L)).2.1 ≤ 100 := by
        obtain ⟨_, a2, a3⟩ := imp_ok (most := ((2 ^ h.toNat : Nat) : Int)) (linesOf L) [] 1 (good_nil (most_pos h))
        have ll : (linesOf L).length = L.length := List.length_map ..
        by_cases z : (impL ((2 ^ h.toNat : Nat) : Int) 1 [] (linesOf L)).2.2 = 0
        · rw [(a2 z).2.2]; exact ⟨Int.le_refl _, show (0 : Int) ≤ 100 by decide⟩
        · have := a3 z; omega
      have e1' : (impL ((2 ^ h.toNat : Nat) : Int) 1 [] (linesOf L)).2.2 = 0 ↔ (impL ((2 ^ h.toNat : Nat) : Int) 1 [] (linesOf L.reverse)).2.2 = 0 := e1
      have e2' : sortL rowKey (impL ((2 ^ h.toNat : Nat) : Int) 1 [] (linesOf L)).1 = sortL rowKey (impL ((2 ^ h.toNat : Nat) : Int) 1 [] (linesOf L.reverse)).1 := e2
      have e3' : (impL ((2 ^ h.toNat : Nat) : Int) 1 [] (linesOf L)).2.2 = 0 ↔ (impL ((2 ^ h.toNat : Nat) : Int) 1 [] (linesOf T)).2.2 = 0 := e3
      have e4' : sortL rowKey (impL ((2 ^ h.toNat : Nat) : Int) 1 [] (linesOf L)).1 = sortL rowKey (impL ((2 ^ h.toNat : Nat) : Int) 1 [] (linesOf T)).1 := e4
      rw [← e2', ← e4']
      clear e1 e2 e3 e4 e2' e4'
      generalize impL ((2 ^ h.toNat : Nat) : Int) 1 [] (linesOf L) = r at *
      generalize impL ((2 ^ h.toNat : Nat) : Int) 1 [] (linesOf L.reverse) = r2 at *
      generalize impL ((2 ^ h.toNat : Nat) : Int) 1 [] (linesOf T) = r3 at *
      have b1 : (r.2.2 == 0) = (r2.2.2 == 0) := by rw [Bool.eq_iff_iff, beq_iff_eq, beq_iff_eq]; exact e1'
      have b2 : (r.2.2 == 0) = (r3.2.2 == 0) := by rw [Bool.eq_iff_iff, beq_iff_eq, beq_iff_eq]; exact e3'
      dsimp only
      rw [if_neg (by rw [b1]; simp), if_neg (by rw [b2]; simp), same44_is _ (by omega) _ (by omega), Option.bind_some, if_pos rfl, Option.bind_some, if_pos rfl, if_pos (by omega), if_pos (by omega), rdB L I hI, if_pos (by omega), ck, Option.bind_some]
      by_cases w : wrongOf (remL L[I]) = 0
      · have S := sp w
        rw [show (3 * 1 - 2 : Int) = 1 from rfl] at S
        rw [if_pos w, S]
        dsimp only
        rw [if_pos rfl, if_pos rfl, same44_is _ (by omega) _ (by omega), Option.bind_some, if_pos rfl, wrapI _ (by omega) (by omega), beq_self_eq_true]
      · have S := sb w
        rw [if_neg w]
        dsimp only
        rw [if_neg w, if_pos rfl, imp_two S]
theorem turned_l1 (L T : List ByteArray) (h : Int) (I : Nat) (hI : I < L.length) (hl : L.length ≤ 60) (hs : ∀ x ∈ L, x.size ≤ 200) (hT : T.Perm L) (k : Nat) (hk : 5000 ≤ k) : ∀ (t i : Nat), i + t = L.length →
    paymasterlaw11_LedgerTurned.l1 (k + 2 + t) L h L.reverse (spreadB L[I] (L.take i)) T (I : Int) (i : Int) = some true
  | 0, i, e => by
    obtain rfl : i = L.length := by omega
    have := turned_end L T h I hI hl hs hT k hk
    rw [List.take_length]
    exact this
  | t + 1, i, e => by
    have hi : i < L.length := by omega
    have w1 : wrap64 ((i : Int) + 1) = ((i + 1 : Nat) : Int) := by rw [wrapI _ (by omega) (by omega)]; push_cast; rfl
    have hI2 := hs _ (List.getElem_mem hI)
    have sl := spreadB_len L[I] (L.take i)
    have tl : (L.take i).length = i := by rw [List.length_take]; omega
    have ap : spreadB L[I] (L.take i) ++ [(⟨#[]⟩ : ByteArray), (⟨#[35, 32]⟩ : ByteArray) ++ L[I], L[i]] = spreadB L[I] (L.take (i + 1)) := by
      rw [List.take_succ_eq_append_getElem hi]
      unfold spreadB
      rw [List.flatMap_append]
      rfl
    rw [show k + 2 + (t + 1) = (k + 2 + t) + 1 by omega, paymasterlaw11_LedgerTurned.l1, if_pos (by omega), if_pos (by omega), if_pos (by omega), rdB L I hI, if_pos (by omega), if_pos (by omega), Option.bind_some, rdB L i hi, if_pos (by rw [sl, tl]; show 3 * i + 3 < _; omega), ap, w1]
    exact turned_l1 L T h I hI hl hs hT k hk t (i + 1) (by omega)
theorem set_perm (L : List ByteArray) (I : Nat) (hI : I < L.length) (x : ByteArray) : (L[I] :: L.set I x).Perm (x :: L) := by
  induction L generalizing I with
  | nil => exact absurd hI (Nat.not_lt_zero _)
  | cons y L ih =>
    cases I with
    | zero => exact List.Perm.swap x y L
    | succ I =>
      have hI' : I < L.length := Nat.lt_of_succ_lt_succ hI
      have q := ih I hI'
      show (L[I] :: y :: L.set I x).Perm (x :: y :: L)
      exact (List.Perm.swap y L[I] _).trans ((q.cons y).trans (List.Perm.swap x y L))
theorem swap_perm (L : List ByteArray) (I K : Nat) (hI : I < L.length) (hK : K < L.length) : ((L.set I L[K]).set K L[I]).Perm L := by
  have p1 := set_perm L I hI L[K]
  have hK2 : K < (L.set I L[K]).length := by rw [List.length_set]; exact hK
  have p2 := set_perm (L.set I L[K]) K hK2 L[I]
  have e : (L.set I L[K])[K] = L[K] := by
    rw [List.getElem_set]
    split
    · rfl
    · rfl
  rw [e] at p2
  exact (p2.trans p1).cons_inv
theorem mod_in (a : Int) (n : Nat) (hn : 0 < n) (hm : n ≤ 60) : ∃ I : Nat, I < n ∧ wrap64 (Int.tmod (IntKind.u64.wrap a) (n : Int)) = (I : Int) := by
  have h0 : 0 ≤ IntKind.u64.wrap a := by rw [IntKind.wrap_u64]; omega
  have h1 : Int.tmod (IntKind.u64.wrap a) (n : Int) = IntKind.u64.wrap a % (n : Int) := Int.tmod_eq_emod_of_nonneg h0
  have h2 := Int.emod_nonneg (IntKind.u64.wrap a) (show (n : Int) ≠ 0 by omega)
  have h3 := Int.emod_lt_of_pos (IntKind.u64.wrap a) (show (0 : Int) < (n : Int) by omega)
  rw [h1]
  generalize IntKind.u64.wrap a % (n : Int) = r at h2 h3
  exact ⟨r.toNat, by omega, by rw [wrapI _ (by omega) (by omega)]; omega⟩
theorem turned_l0 (L : List ByteArray) (h a b : Int) (h1 : 0 < L.length) (hl : L.length ≤ 60) (k : Nat) (hk : 6000 ≤ k) : ∀ (i : Nat), i ≤ L.length → (∀ x ∈ L.drop i, x.size ≤ 200) →
    paymasterlaw11_LedgerTurned.l0 (k + 1 + i) L h a b (L.length : Int) (L.drop i).reverse ((i : Int) - 1) = some true
  | 0, hi, hs => by
    obtain ⟨I, hI, eI⟩ := mod_in a L.length h1 hl
    obtain ⟨K, hK, eK⟩ := mod_in b L.length h1 hl
    rw [List.drop_zero] at hs ⊢
    have P := swap_perm L I K hI hK
    have R := turned_l1 L ((L.set I L[K]).set K L[I]) h I hI hl hs P (k - 2 - L.length) (by omega) L.length 0 (by omega)
    rw [show k - 2 - L.length + 2 + L.length = k by omega] at R
    show paymasterlaw11_LedgerTurned.l0 (k + 1) _ _ _ _ _ _ _ = _
    rw [paymasterlaw11_LedgerTurned.l0, if_neg (by omega), Option.bind_some, if_pos (by rw [List.length_nil]; omega), Option.bind_some, List.nil_append, if_neg (by omega), eI, eK, if_pos (by omega), if_pos (by omega), if_pos (by omega), if_pos (by omega), if_pos (by omega), if_pos (by omega), Int.toNat_natCast, Int.toNat_natCast, rdB L I hI, rdB L K hK]
    exact R
  | i + 1, hi, hs => by
    have nx : L.drop i = L[i] :: L.drop (i + 1) := List.drop_eq_getElem_cons hi
    have e1 : ((i + 1 : Nat) : Int) - 1 = (i : Int) := by omega
    have w1 : wrap64 ((i : Int) - 1) = (i : Int) - 1 := wrapI _ (by omega) (by omega)
    rw [show k + 1 + (i + 1) = (k + 1 + i) + 1 by omega, paymasterlaw11_LedgerTurned.l0, e1, if_pos (by omega), if_pos (by omega), if_pos (by omega), rdB L i hi]
    by_cases c : (L[i].size : Int) > 200
    · rw [if_pos c]
    · have R := turned_l0 L h a b h1 hl k hk i (by omega) (fun x hx => by
        rw [nx] at hx
        rcases List.mem_cons.1 hx with rfl | hx
        · omega
        · exact hs x hx)
      rw [nx, List.reverse_cons] at R
      rw [if_neg c, if_pos (by rw [List.length_reverse, List.length_drop]; omega), w1]
      exact R
theorem ledgerTurned_pure (L : List ByteArray) (h a b : Int) : ∃ k, paymasterlaw11_LedgerTurned.f k L h a b = some true := by
  refine ⟨6002 + L.length, ?_⟩
  have J : paymasterlaw11_LedgerTurned.j0 (6002 + L.length) L h a b true = some true := by rw [show 6002 + L.length = 6001 + L.length + 1 by omega, paymasterlaw11_LedgerTurned.j0, if_pos rfl]
  unfold paymasterlaw11_LedgerTurned.f
  rw [awake11_up _ (by omega), Option.bind_some, if_pos rfl]
  by_cases c : (L.length : Int) = 0
  · rw [if_pos c]; exact J
  · rw [if_neg c]
    by_cases d : (L.length : Int) > 60
    · rw [decide_eq_true d]; exact J
    · have R := turned_l0 L h a b (by omega) (by omega) 6000 (Nat.le_refl _) L.length (Nat.le_refl _) (by rw [List.drop_length]; simp)
      rw [List.drop_length, List.reverse_nil] at R
      rw [decide_eq_false d, show 6002 + L.length = (6000 + 1 + L.length) + 1 by omega, paymasterlaw11_LedgerTurned.j0, if_neg (by decide), wu _ (by omega) (by omega), wrapI _ (by omega) (by omega)]
      exact R
theorem ledgerTurned_walk {w : World} (A0 : Option Addr) (c0 : Nat) (l0 : List ByteArray) (hr0 : Kd.C Kd.string w A0 l0.length l0) (hc0 : l0.length ≤ c0) (g0 : ∀ y ∈ l0, True) (a1 : Int) (g1 : (Lit.int .i64 a1).wf = true) (a2 : Int) (g2 : (Lit.int .i64 a2).wf = true) (a3 : Int) (g3 : (Lit.int .i64 a3).wf = true) (hG : GT w) :
    Calls Tryd.prog 19 #[.slice A0 l0.length c0, .int .i64 a1, .int .i64 a2, .int .i64 a3] w fun e w' => e = .returned (.bool true) ∧ Below w.heap.size w w' := by
  obtain ⟨k, hk⟩ := ledgerTurned_pure l0 a1 a2 a3
  exact paymasterlaw11_LedgerTurned.calls k A0 c0 l0 a1 a2 a3 true w hr0 hc0 hG hk
end Go.Proofs.YtpkjpiphjdpegaaDoor.P
