/- A program of this session wrote this text out of the session's own texts. (part 45 of 46) -/
import Derived.Test.YtpkjpiphjdpegaaDoorCLedgerBetween24
import Derived.Test.YtpkjpiphjdpegaaDoorCLedgerBetween31
import Derived.Test.YtpkjpiphjdpegaaDoorCLedgerBetween42
import Derived.Test.YtpkjpiphjdpegaaDoorCLedgerBetween43
import Derived.Test.YtpkjpiphjdpegaaDoorCLedgerBetween44
namespace Go.Proofs.YtpkjpiphjdpegaaDoor.P
open Go.RowKit Go.Proofs.YtpkjpiphjdpegaaDoorW.PrintWords Go.Proofs.YtpkjpiphjdpegaaDoorW.PrintLast Go.Proofs.YtpkjpiphjdpegaaDoorW.PrintMore
open Go.Proofs.YtpkjpiphjdpegaaDoor.Z
set_option linter.unusedVariables false
set_option linter.unusedSimpArgs false
theorem keys_filter (l was : List S44) : (l.filter fun y => idIn was y.f0).map rowKey = (l.map rowKey).filter fun x => decide (x ∈ was.map rowKey) := by
  induction l with
  | nil => rfl
  | cons y l ih =>
    have e : decide (rowKey y ∈ was.map rowKey) = idIn was y.f0 := by
      rw [Bool.eq_iff_iff, decide_eq_true_eq, idIn_iff]
      rfl
    rw [List.filter_cons, List.map_cons, List.filter_cons, e, ← ih]
    split <;> rfl
theorem both_len {was now : List S44} (hw : (was.map rowKey).Nodup) (hn : (now.map rowKey).Nodup) : (was.filter fun y => idIn now y.f0).length = (now.filter fun y => idIn was y.f0).length := by
  have e1 := congrArg List.length (keys_filter was now)
  have e2 := congrArg List.length (keys_filter now was)
  rw [List.length_map] at e1 e2
  rw [e1, e2]
  refine List.Perm.length_eq ((List.perm_ext_iff_of_nodup (hw.filter _) (hn.filter _)).2 fun x => ?_)
  rw [List.mem_filter, List.mem_filter, decide_eq_true_eq, decide_eq_true_eq]
  exact And.comm
theorem parts_len (p : S44 → Bool) : ∀ l : List S44, (l.filter p).length + (l.filter fun y => !p y).length = l.length
  | [] => rfl
  | y :: l => by
    have := parts_len p l
    rw [List.filter_cons, List.filter_cons]
    cases c : p y with
    | true => rw [if_pos rfl, if_neg (by decide), List.length_cons, List.length_cons]; omega
    | false => rw [if_neg (by decide), if_pos (show (!false) = true from rfl), List.length_cons, List.length_cons]; omega
theorem parts_perm (p : S44 → Bool) : ∀ l : List S44, ((l.filter p) ++ (l.filter fun y => !p y)).Perm l
  | [] => List.Perm.refl _
  | y :: l => by
    have ih := parts_perm p l
    rw [List.filter_cons, List.filter_cons]
    cases c : p y with
    | true => rw [if_pos rfl, if_neg (by decide), List.cons_append]; exact ih.cons y
    | false => rw [if_neg (by decide), if_pos (show (!false) = true from rfl)]; exact List.perm_middle.trans (ih.cons y)
theorem between_come (was now come : List S44) (hw : was.length ≤ 1000) (hc : come.length ≤ 1000) (hnc : ∀ y ∈ come, idIn was y.f0 = false) (r : Option Bool) (k : Nat) (hR : paymasterlaw11_LedgerBetween.l1 (k + 1) was come (come.length : Int) = r) : ∀ (t i : Nat), i + t = come.length →
    paymasterlaw11_LedgerBetween.l1 (k + 1 + t) was come (i : Int) = r
  | 0, i, h => by
    obtain rfl : i = come.length := by omega
    exact hR
  | t + 1, i, h => by
    have hi : i < come.length := by omega
    have w1 : wrap64 ((i : Int) + 1) = ((i + 1 : Nat) : Int) := by rw [wrapI _ (by omega) (by omega)]; push_cast; rfl
    rw [show k + 1 + (t + 1) = (k + 1 + t) + 1 by omega, paymasterlaw11_LedgerBetween.l1, if_pos (by omega), if_pos (by omega), rd44 come i hi, (find_none was (by omega) _ (hnc _ (List.getElem_mem hi))).1, Option.bind_some]
    dsimp only
    rw [if_neg (by decide), w1]
    exact between_come was now come hw hc hnc r k hR t (i + 1) (by omega)
theorem between_gone (was now gone come : List S44) (hw : was.length ≤ 1000) (hn : now.length ≤ 1000) (hg : gone.length ≤ 1000) (hd : (was.map rowKey).Nodup) (hgw : ∀ y ∈ gone, y ∈ was) (hgn : ∀ y ∈ gone, idIn now y.f0 = false) (r : Option Bool) (k : Nat) (hR : paymasterlaw11_LedgerBetween.l1 k was come 0 = r) : ∀ (t i : Nat), i + t = gone.length →
    paymasterlaw11_LedgerBetween.l0 (k + 1 + t) was now gone come (i : Int) = r
  | 0, i, h => by
    obtain rfl : i = gone.length := by omega
    show paymasterlaw11_LedgerBetween.l0 (k + 1) _ _ _ _ _ = _
    rw [paymasterlaw11_LedgerBetween.l0, if_neg (by omega)]
    exact hR
  | t + 1, i, h => by
    have hi : i < gone.length := by omega
    have w1 : wrap64 ((i : Int) + 1) = ((i + 1 : Nat) : Int) := by rw [wrapI _ (by omega) (by omega)]; push_cast; rfl
    have hm := List.getElem_mem hi
    rw [show k + 1 + (t + 1) = (k + 1 + t) + 1 by omega, paymasterlaw11_LedgerBetween.l0, if_pos (by omega), if_pos (by omega), rd44 gone i hi, (find_none now (by omega) _ (hgn _ hm)).1, Option.bind_some, find_mem was (by omega) hd _ (hgw _ hm), Option.bind_some]
    dsimp only
    rw [if_neg (by decide), if_pos rfl, if_neg (by simp), w1]
    exact between_gone was now gone come hw hn hg hd hgw hgn r k hR t (i + 1) (by omega)
theorem all_in (l : List S44) : ∀ y ∈ l, idIn l y.f0 = true := fun y hy => (idIn_iff _ _).2 (List.mem_map.2 ⟨y, hy, rfl⟩)
theorem between_own (l : List S44) (hl : l.length ≤ 200) (k : Nat) (hk : 1000 ≤ k) : ledger_Between.f k l l = some ([], sortL rowKey l, []) := by
  have sp := sort_perm l
  have a : ∀ y ∈ sortL rowKey l, idIn l y.f0 = true := fun y hy => all_in l y (sp.mem_iff.1 hy)
  have f1 : (sortL rowKey l).filter (fun y => !idIn l y.f0) = [] := List.filter_eq_nil_iff.2 fun y hy => by rw [a y hy]; decide
  have f2 : (sortL rowKey l).filter (fun y => idIn l y.f0) = sortL rowKey l := List.filter_eq_self.2 a
  rw [between_is l l (by omega) (by omega) k (by omega), f1, f2]
theorem between_last (was come : List S44) (hw : was.length ≤ 200) (m : Nat) (hm : 3000 ≤ m) : paymasterlaw11_LedgerBetween.l1 (m + 1) was come (come.length : Int) = some true := by
  have lw := sort_len was
  have h1 : was.length ≤ 1000000 := by omega
  have h2 : (sortL rowKey was).length ≤ 1000000000 := by omega
  have h3 : (sortL rowKey was).length + 1 ≤ m := by omega
  have S := same44_is (sortL rowKey was) h2 m h3
  have B := between_own was hw m (by omega)
  have F := sort_f was h1
  rw [paymasterlaw11_LedgerBetween.l1, if_neg (by omega), B, Option.bind_some]
  dsimp only
  rw [List.length_nil, if_pos Int.natCast_zero, if_pos Int.natCast_zero, F, Option.bind_some, S, Option.bind_some]
theorem between_j1 (was now : List S44) (hw : was.length ≤ 200) (hn : now.length ≤ 200) (dw : (was.map rowKey).Nodup) (dn : (now.map rowKey).Nodup) (m : Nat) (hm : 3000 ≤ m) (k : Nat) (hk : m + 1000 ≤ k) : paymasterlaw11_LedgerBetween.j1 (k + 1) was now false = some true := by
  have hw3 : was.length ≤ 1000 := by omega
  have hn3 : now.length ≤ 1000 := by omega
  have pw := sort_perm was
  have pn := sort_perm now
  have lw := sort_len was
  have ln := sort_len now
  rw [paymasterlaw11_LedgerBetween.j1, if_neg (by decide), between_is was now (by omega) (by omega) _ (by omega), Option.bind_some, Option.bind_some]
  have g1 : ∀ y ∈ (sortL rowKey was).filter (fun y => !idIn now y.f0), y ∈ was ∧ idIn now y.f0 = false := fun y hy => by
    obtain ⟨a, b⟩ := List.mem_filter.1 hy
    exact ⟨pw.mem_iff.1 a, by simpa using b⟩
  have g2 : ∀ y ∈ (sortL rowKey now).filter (fun y => !idIn was y.f0), idIn was y.f0 = false := fun y hy => by
    obtain ⟨a, b⟩ := List.mem_filter.1 hy
    simpa using b
  have p1 := parts_perm (fun y => idIn was y.f0) (sortL rowKey now)
  have n1 := parts_len (fun y => idIn was y.f0) (sortL rowKey now)
  have n2 := parts_len (fun y => idIn now y.f0) (sortL rowKey was)
  have n3 := both_len dw dn
  have n4 : ((sortL rowKey was).filter fun y => idIn now y.f0).length = (was.filter fun y => idIn now y.f0).length := (pw.filter _).length_eq
  have n5 : ((sortL rowKey now).filter fun y => idIn was y.f0).length = (now.filter fun y => idIn was y.f0).length := (pn.filter _).length_eq
  generalize (sortL rowKey was).filter (fun y => !idIn now y.f0) = gone at g1 n2 ⊢
  generalize (sortL rowKey now).filter (fun y => idIn was y.f0) = stay at p1 n1 n5 ⊢
  generalize (sortL rowKey now).filter (fun y => !idIn was y.f0) = come at g2 p1 n1 ⊢
  have ss : sortL rowKey (stay ++ come) = sortL rowKey now := (sort_same (p1.trans pn).symm dn).symm
  dsimp only
  have hc3 : come.length ≤ 1000 := by omega
  have hg3 : gone.length ≤ 1000 := by omega
  have hk4 : k - 1 - gone.length + 1 + gone.length = k := by omega
  have hk3 : m + 1 + come.length ≤ k - 1 - gone.length := by omega
  generalize hb : (4398046511104 : Nat) = big
  have z3 : stay.length < big := by omega
  have z4 : stay.length + come.length < big := by omega
  clear hb
  have hl1 : (stay ++ come).length ≤ 1000000 := by have := p1.length_eq; omega
  have hl2 : now.length ≤ 1000000 := by omega
  have hl3 : (sortL rowKey now).length ≤ 1000000000 := by omega
  have hl4 : (sortL rowKey now).length + 1 ≤ k := by omega
  have wl : wrap64 ((gone.length : Int) + (stay.length : Int)) = (was.length : Int) := by rw [wrapI _ (by omega) (by omega)]; omega
  rw [List.nil_append, List.length_nil, Nat.zero_add, if_pos z3, Option.bind_some, if_pos z4, sort_f (stay ++ come) hl1, Option.bind_some, sort_f now hl2, Option.bind_some, ss, same44_is _ hl3 _ hl4, Option.bind_some, if_pos rfl, if_pos wl]
  have E := between_last was come hw m hm
  have C := between_come was now come hw3 hc3 g2 _ m E come.length 0 (Nat.zero_add _)
  rw [Int.natCast_zero] at C
  have C' := up (F := fun k => paymasterlaw11_LedgerBetween.l1 k was come 0) (fun k => (paymasterlaw11_LedgerBetween.mono_l k).2.2.2 _ _ _) C (k - 1 - gone.length) hk3
  have G := between_gone was now gone come hw3 hn3 hg3 dw (fun y hy => (g1 y hy).1) (fun y hy => (g1 y hy).2) _ _ C' gone.length 0 (Nat.zero_add _)
  rw [hk4, Int.natCast_zero] at G
  exact G
theorem ledgerBetween_pure (was now : List S44) (hu : ∀ y ∈ was, U64 y.f1.f0 ∧ U64 y.f1.f1) (hv : ∀ y ∈ now, U64 y.f1.f0 ∧ U64 y.f1.f1) : ∃ k, paymasterlaw11_LedgerBetween.f k was now = some true := by
  refine ⟨5001, ?_⟩
  have J : paymasterlaw11_LedgerBetween.j0 5001 was now true = some true := by rw [paymasterlaw11_LedgerBetween.j0, if_pos rfl]
  have J1 : paymasterlaw11_LedgerBetween.j1 5000 was now true = some true := by rw [paymasterlaw11_LedgerBetween.j1, if_pos rfl]
  obtain ⟨b, h1, h2⟩ := long_is was 5001 (by omega)
  obtain ⟨c, h3, h4⟩ := long_is now 5001 (by omega)
  unfold paymasterlaw11_LedgerBetween.f
  rw [awake11_up _ (by omega), Option.bind_some, if_pos rfl, h1, Option.bind_some]
  cases b with
  | true => rw [if_pos rfl]; exact J
  | false =>
    rw [if_neg (by decide), h3, Option.bind_some]
    cases c with
    | true => exact J
    | false =>
      obtain ⟨l1, s1⟩ := h2 rfl
      obtain ⟨l2, s2⟩ := h4 rfl
      have G0 : Good ((2 ^ (10 : Int).toNat : Nat) : Int) [] := good_nil (most_pos 10)
      have c1 : ledger_Check.f was 10 = some (chkL ((2 ^ (10 : Int).toNat : Nat) : Int) 1 [] was) := by
        unfold ledger_Check.f
        rw [if_pos ⟨by omega, fun y hy => ⟨by have := s1 y hy; omega, hu y hy⟩⟩, checkOf_ok _ _ (by decide)]
      have c2 : ledger_Check.f now 10 = some (chkL ((2 ^ (10 : Int).toNat : Nat) : Int) 1 [] now) := by
        unfold ledger_Check.f
        rw [if_pos ⟨by omega, fun y hy => ⟨by have := s2 y hy; omega, hv y hy⟩⟩, checkOf_ok _ _ (by decide)]
      obtain ⟨_, d1, _⟩ := chk_ok was [] 1 hu G0
      obtain ⟨_, d2, _⟩ := chk_ok now [] 1 hv G0
      rw [paymasterlaw11_LedgerBetween.j0, if_neg (by decide), c1, Option.bind_some, c2, Option.bind_some]
      generalize chkL ((2 ^ (10 : Int).toNat : Nat) : Int) 1 [] was = x at d1 ⊢
      generalize chkL ((2 ^ (10 : Int).toNat : Nat) : Int) 1 [] now = y at d2 ⊢
      by_cases z : x.2 = 0
      · rw [if_pos z]
        by_cases q : y.2 = 0
        · have qb : (y.2 != 0) = false := by simp [q]
          rw [qb]
          exact between_j1 was now l1 l2 (d1 z).2.1.ids (d2 q).2.1.ids 3000 (by omega) 4999 (by omega)
        · have qb : (y.2 != 0) = true := by simp [q]
          rw [qb]
          exact J1
      · rw [if_neg z]
        exact J1
theorem ledgerBetween_walk {w : World} (A0 : Option Addr) (c0 : Nat) (l0 : List S44) (hr0 : k44.C w A0 l0.length l0) (hc0 : l0.length ≤ c0) (g0 : ∀ y ∈ l0, y.f0.size ≤ 9223372036854775807 ∧ U64 y.f1.f0 ∧ U64 y.f1.f1) (A1 : Option Addr) (c1 : Nat) (l1 : List S44) (hr1 : k44.C w A1 l1.length l1) (hc1 : l1.length ≤ c1) (g1 : ∀ y ∈ l1, y.f0.size ≤ 9223372036854775807 ∧ U64 y.f1.f0 ∧ U64 y.f1.f1) (hG : GT w) :
    Calls Tryd.prog 16 #[.slice A0 l0.length c0, .slice A1 l1.length c1] w fun e w' => e = .returned (.bool true) ∧ Below w.heap.size w w' := by
  obtain ⟨k, hk⟩ := ledgerBetween_pure l0 l1 (fun y hy => (g0 y hy).2) (fun y hy => (g1 y hy).2)
  exact paymasterlaw11_LedgerBetween.calls k A0 c0 l0 A1 c1 l1 true w hr0 hc0 hr1 hc1 hG hk
end Go.Proofs.YtpkjpiphjdpegaaDoor.P
