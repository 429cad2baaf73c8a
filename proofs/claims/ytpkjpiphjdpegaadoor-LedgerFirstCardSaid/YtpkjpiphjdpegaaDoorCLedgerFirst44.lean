/- A program of this session wrote this text out of the session's own texts. (part 44 of 45) -/
import Derived.Test.YtpkjpiphjdpegaaDoorCLedgerFirst32
import Derived.Test.YtpkjpiphjdpegaaDoorCLedgerFirst42
import Derived.Test.YtpkjpiphjdpegaaDoorCLedgerFirst43
namespace Go.Proofs.YtpkjpiphjdpegaaDoor.P
open Go.RowKit Go.Proofs.YtpkjpiphjdpegaaDoorW.PrintWords Go.Proofs.YtpkjpiphjdpegaaDoorW.PrintLast Go.Proofs.YtpkjpiphjdpegaaDoorW.PrintMore
open Go.Proofs.YtpkjpiphjdpegaaDoor.Z
set_option linter.unusedVariables false
set_option linter.unusedSimpArgs false
theorem two_split (a b : ByteArray) : splitB ((a ++ (⟨#[10]⟩ : ByteArray)) ++ b).data.toList = splitB a.data.toList ++ splitB b.data.toList := by
  rw [← splitB_app]
  congr 1
  rw [ByteArray.data_append, ByteArray.data_append, Array.toList_append, Array.toList_append]
  simp
theorem rowsL_q : ∀ (L : List (List UInt8)) (n : Int) (acc : List S44), (∀ h ∈ L, (oneB h).2.2.2.2 = 0) → rowsL n acc L = (acc ++ rowsQ L, 0, 0)
  | [], n, acc, _ => by
    rw [rowsL]
    show _ = (acc ++ [], 0, 0)
    rw [List.append_nil]
  | h :: L, n, acc, c => by
    have ih := fun acc => rowsL_q L (n + 1) acc fun z hz => c z (List.mem_cons_of_mem _ hz)
    rw [rowsL, if_pos (c h (List.mem_cons_self ..)), rowsQ_cons, ← List.append_assoc]
    unfold rowQ
    by_cases q : (oneB h).2.2.2.1 = true
    · rw [if_pos q, if_pos q, ih]
    · rw [if_neg q, if_neg q, ih, List.append_nil]
theorem sort_less {l : List S44} (hn : (l.map rowKey).Nodup) {i j : Nat} (hij : i < j) (hj : j < (sortL rowKey l).length) :
    Op.bytesLess ((sortL rowKey l)[i]'(by omega)).f0.toList ((sortL rowKey l)[j]).f0.toList = true := by
  have a := List.pairwise_iff_getElem.1 (sort_asc l) i j (by omega) hj hij
  have n2 : ((sortL rowKey l).map rowKey).Nodup := (((sort_perm l).map rowKey).nodup_iff).2 hn
  cases q : Op.bytesLess ((sortL rowKey l)[i]'(by omega)).f0.toList ((sortL rowKey l)[j]).f0.toList with
  | true => rfl
  | false =>
    have e := kl_tri q a
    have := ids_inj n2 (by omega) hj e
    omega
theorem first_loop (s : ByteArray) (hs : s.size ≤ 1000000000) (l : List S44) (hl : l.length ≤ 100000) (hn : (l.map rowKey).Nodup) (m f : Int) (hf : f = 0 ∨ m > ((splitB s.data.toList).length : Int)) (k : Nat) : ∀ (t i : Nat), i + t = l.length →
    paymasterlaw11_LedgerFirst.l0 (k + 1 + t) s (sortL rowKey l) m f (i : Int) = some true
  | 0, i, h => by
    have sl := sort_len l
    show paymasterlaw11_LedgerFirst.l0 (k + 1) _ _ _ _ _ = _
    rw [paymasterlaw11_LedgerFirst.l0, if_neg (by omega)]
    by_cases c : f = 0
    · rw [if_pos c]
    · rw [if_neg c, all_f s hs, Option.bind_some]
      unfold allL
      rw [linesL_len, decide_eq_true (by omega)]
  | t + 1, i, h => by
    have sl := sort_len l
    have hi : i < (sortL rowKey l).length := by omega
    have n2 : ((sortL rowKey l).map rowKey).Nodup := (((sort_perm l).map rowKey).nodup_iff).2 hn
    have w1 : wrap64 ((i : Int) + 1) = ((i + 1 : Nat) : Int) := by rw [wrapI _ (by omega) (by omega)]; push_cast; rfl
    have R := first_loop s hs l hl hn m f hf k t (i + 1) (by omega)
    rw [show k + 1 + (t + 1) = (k + 1 + t) + 1 by omega, paymasterlaw11_LedgerFirst.l0, if_pos (by omega), if_pos (by omega), rd44 _ i hi, find_own _ (by omega) n2 i hi, Option.bind_some, if_pos rfl, if_neg (by simp), w1]
    by_cases c : (i : Int) > 0
    · obtain ⟨j, rfl⟩ : ∃ j, i = j + 1 := ⟨i - 1, by omega⟩
      have w2 : wrap64 (((j + 1 : Nat) : Int) - 1) = (j : Int) := by rw [wrapI _ (by omega) (by omega)]; push_cast; omega
      rw [if_pos c, w2, if_pos (by omega), if_pos (by omega), rd44 _ j (by omega), if_pos (sort_less hn (Nat.lt_succ_self j) hi)]
      exact R
    · rw [if_neg c]
      exact R
theorem rowsQ_ok (L : List (List UInt8)) : ∀ y ∈ rowsQ L, y.f0.size ≤ 1000000000 ∧ U64 y.f1.f0 ∧ U64 y.f1.f1 := fun y hy => by
  obtain ⟨m, o⟩ := rowsQ_is L y hy
  exact ⟨by have := (mayId_one _ m).2; omega, o⟩
theorem ledgerFirst_pure (a b : ByteArray) (h : Int) : ∃ k, paymasterlaw11_LedgerFirst.f k a b h = some true := by
  refine ⟨20001, ?_⟩
  have J : paymasterlaw11_LedgerFirst.j0 20001 a b h true = some true := by rw [paymasterlaw11_LedgerFirst.j0, if_pos rfl]
  unfold paymasterlaw11_LedgerFirst.f
  rw [awake11_up _ (by omega), Option.bind_some, if_pos rfl]
  by_cases c : (a.size : Int) > 2000
  · rw [if_pos c]; exact J
  · rw [if_neg c]
    by_cases d : (b.size : Int) > 2000
    · rw [decide_eq_true d]; exact J
    · have sz : ((a ++ (⟨#[10]⟩ : ByteArray)) ++ b).size = a.size + 1 + b.size := by rw [ByteArray.size_append, ByteArray.size_append]; rfl
      have sa : (a ++ (⟨#[10]⟩ : ByteArray)).size = a.size + 1 := by rw [ByteArray.size_append]; rfl
      rw [decide_eq_false d, paymasterlaw11_LedgerFirst.j0, if_neg (by decide), import_f a h (by omega), Option.bind_some, if_pos (by omega), if_pos (by omega), import_f _ h (by omega), Option.bind_some]
      by_cases hb : h < 0 ∨ 10 < h
      · rw [importOf_bad _ h hb, importOf_bad _ h hb]
        rfl
      · have G0 : Good ((2 ^ h.toNat : Nat) : Int) [] := good_nil (most_pos h)
        have la := splitB_len a.data.toList
        have ea : a.data.toList.length = a.size := Array.length_toList
        obtain ⟨_, c2, c3⟩ := imp_ok (splitB a.data.toList) [] 1 G0
        rw [importOf_ok a h hb (by omega), importOf_ok _ h hb (by omega), two_split, imp_app]
        by_cases z : (impL ((2 ^ h.toNat : Nat) : Int) 1 [] (splitB a.data.toList)).2.2 = 0
        · obtain ⟨ok, gd, im⟩ := c2 z
          rw [List.nil_append] at gd im
          have ra : row_All.f a = some (rowsQ (splitB a.data.toList), 0, 0) := by
            unfold row_All.f
            rw [if_pos (by omega), rowsL_q _ 1 [] ok, List.nil_append]
          have rl := rowsQ_len (splitB a.data.toList)
          have ro := rowsQ_ok (splitB a.data.toList)
          have rm := rowsQ_is (splitB a.data.toList)
          obtain ⟨R, hR⟩ : ∃ R, rowsQ (splitB a.data.toList) = R := ⟨_, rfl⟩
          rw [im, hR]
          rw [hR] at gd ra rl ro rm
          dsimp only
          rw [if_pos rfl, if_pos rfl]
          have sp := sort_perm R
          have sl := sort_len R
          have gs := good_perm gd sp.symm
          have ck : ledger_Check.f (sortL rowKey R) h = some (0, 0) := by
            unfold ledger_Check.f
            rw [if_pos ⟨by omega, fun y hy => ro y (sp.mem_iff.1 hy)⟩, checkOf_ok _ h hb]
            have := (chk_ok (most := ((2 ^ h.toNat : Nat) : Int)) (sortL rowKey R) [] 1 (fun y hy => (rm y (sp.mem_iff.1 hy)).2) G0).1 (fun y hy => (rm y (sp.mem_iff.1 hy)).1) (by rw [List.nil_append]; exact gs)
            rw [this]
          have t1 := total_is (sortL rowKey R) (by omega) (fun y hy => (rm y (sp.mem_iff.1 hy)).2) gs.sum 20000 (by omega)
          have t2 := total_is R (by omega) (fun y hy => (rm y hy).2) gd.sum 20000 (by omega)
          rw [sumOf_perm sp] at t1
          rw [ck, Option.bind_some, t1, Option.bind_some, ra, Option.bind_some]
          dsimp only
          rw [t2, Option.bind_some]
          dsimp only
          rw [if_pos rfl, if_pos rfl, if_pos rfl, if_pos rfl, if_pos rfl, if_neg (by simp), if_pos (by rw [sl]), if_pos rfl]
          obtain ⟨_, _, d3⟩ := imp_ok (splitB b.data.toList) R (1 + ((splitB a.data.toList).length : Int)) gd
          have FL := fun q => first_loop a (by omega) R (by omega) gd.ids (impL ((2 ^ h.toNat : Nat) : Int) (1 + ((splitB a.data.toList).length : Int)) R (splitB b.data.toList)).2.1 (impL ((2 ^ h.toNat : Nat) : Int) (1 + ((splitB a.data.toList).length : Int)) R (splitB b.data.toList)).2.2 q (20000 - 1 - R.length) R.length 0 (by omega)
          rw [show 20000 - 1 - R.length + 1 + R.length = 20000 by omega] at FL
          refine FL ?_
          by_cases q : (impL ((2 ^ h.toNat : Nat) : Int) (1 + ((splitB a.data.toList).length : Int)) R (splitB b.data.toList)).2.2 = 0
          · exact .inl q
          · exact .inr (by have := (d3 q).2.1; omega)
        · obtain ⟨e1, e2, e3, e4⟩ := c3 z
          have q1 : ((impL ((2 ^ h.toNat : Nat) : Int) 1 [] (splitB a.data.toList)).2.1 == 0) = false := by rw [beq_eq_false_iff_ne]; omega
          have q2 : ((impL ((2 ^ h.toNat : Nat) : Int) 1 [] (splitB a.data.toList)).2.2 == 120) = false := by rw [beq_eq_false_iff_ne]; exact e4
          rw [if_neg z]
          dsimp only
          rw [if_neg z, if_pos rfl, if_pos rfl, e1, if_pos (by rw [sort_len]; rfl), q1, q2]
          rfl
theorem ledgerFirst_walk {w : World} (a0 : ByteArray) (g0 : a0.size ≤ 9223372036854775807) (a1 : ByteArray) (g1 : a1.size ≤ 9223372036854775807) (a2 : Int) (g2 : (Lit.int .i64 a2).wf = true) (hG : GT w) :
    Calls Tryd.prog 17 #[.string a0, .string a1, .int .i64 a2] w fun e w' => e = .returned (.bool true) ∧ Below w.heap.size w w' := by
  obtain ⟨k, hk⟩ := ledgerFirst_pure a0 a1 a2
  exact paymasterlaw11_LedgerFirst.calls k a0 a1 a2 true w hG hk
end Go.Proofs.YtpkjpiphjdpegaaDoor.P
