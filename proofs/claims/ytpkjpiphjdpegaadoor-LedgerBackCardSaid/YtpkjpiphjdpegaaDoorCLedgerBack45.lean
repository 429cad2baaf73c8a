/- A program of this session wrote this text out of the session's own texts. (part 45 of 46) -/
import Derived.Test.YtpkjpiphjdpegaaDoorCLedgerBack25
import Derived.Test.YtpkjpiphjdpegaaDoorCLedgerBack34
import Derived.Test.YtpkjpiphjdpegaaDoorCLedgerBack36
import Derived.Test.YtpkjpiphjdpegaaDoorCLedgerBack43
import Derived.Test.YtpkjpiphjdpegaaDoorCLedgerBack44
namespace Go.Proofs.YtpkjpiphjdpegaaDoor.P
open Go.RowKit Go.Proofs.YtpkjpiphjdpegaaDoorW.PrintWords Go.Proofs.YtpkjpiphjdpegaaDoorW.PrintLast Go.Proofs.YtpkjpiphjdpegaaDoorW.PrintMore
open Go.Proofs.YtpkjpiphjdpegaaDoor.Z
set_option linter.unusedVariables false
set_option linter.unusedSimpArgs false
theorem rem_none : remOk (⟨#[]⟩ : ByteArray) := (rem_iff _).2 ⟨rfl, by decide, by decide⟩
theorem ledgerBack_text (l : List S44) (hl : l.length ≤ 200) (hg : ∀ y ∈ l, rowOk y) (hm : ∀ y ∈ l, mayId y.f0 = true) :
    writeOf l (⟨#[]⟩ : ByteArray) = (joinL (l.map lineR ++ [mk []]), 0) ∧ (joinL (l.map lineR ++ [mk []])).size ≤ 65536 ∧ splitB (joinL (l.map lineR ++ [mk []])).data.toList = l.map (fun y => (lineR y).data.toList) ++ [[]] := by
  have p : preL (⟨#[]⟩ : ByteArray) = [] := if_pos rfl
  have n : ¬ l.any noId = true := by
    rw [List.any_eq_true]
    rintro ⟨y, hy, e⟩
    unfold noId at e
    rw [hm y hy] at e
    cases e
  refine ⟨?_, ?_, ?_⟩
  · unfold writeOf
    rw [if_neg n, if_pos rem_none, p, List.nil_append]
  · have jl := join_lenN 136 (l.map lineR ++ [mk []]) (by
      intro x hx
      rcases List.mem_append.1 hx with h | h
      · obtain ⟨y, hy, rfl⟩ := List.mem_map.1 h
        exact line_size _ _ _ (hm y hy) (hg y hy).2.1 (hg y hy).2.2
      · rw [List.mem_singleton.1 h, mk_size]; simp)
    have js := joinL_size (l.map lineR ++ [mk []])
    rw [List.length_append, List.length_singleton, List.length_map] at jl
    omega
  · have := write_split l (by omega) hg hm (⟨#[]⟩ : ByteArray) (by decide) rem_none
    rw [p, List.nil_append, List.map_nil, List.nil_append] at this
    exact this
theorem export_f (l : List S44) (hl : l.length ≤ 200) (hg : ∀ y ∈ l, rowOk y) (k : Nat) (hk : 1002 ≤ k) : ledger_Export.f k l = some (writeOf (sortL rowKey l) (⟨#[]⟩ : ByteArray)) := by
  unfold ledger_Export.f
  rw [sort_f l (by omega), Option.bind_some, write_is _ (by rw [sort_len]; omega) (fun y hy => hg y ((sort_perm l).mem_iff.1 hy)) (⟨#[]⟩ : ByteArray) (by decide) k hk, Option.bind_some]
theorem ledgerBack_pure (l : List S44) (h : Int) (hu : ∀ y ∈ l, U64 y.f1.f0 ∧ U64 y.f1.f1) : ∃ k, paymasterlaw11_LedgerBack.f k l h = some true := by
  refine ⟨5000, ?_⟩
  obtain ⟨b, h1, h2⟩ := long_is l 5000 (by omega)
  unfold paymasterlaw11_LedgerBack.f
  rw [awake11_up _ (by omega), Option.bind_some, if_pos rfl, h1, Option.bind_some]
  cases b with
  | true => rw [if_pos rfl]
  | false =>
    obtain ⟨h3, h4⟩ := h2 rfl
    have hg : ∀ y ∈ l, rowOk y := fun y hy => ⟨by have := h4 y hy; omega, hu y hy⟩
    have cf : ledger_Check.f l h = some (checkOf l h) := if_pos ⟨by omega, fun y hy => ⟨by have := h4 y hy; omega, hu y hy⟩⟩
    rw [if_neg (by decide), cf, Option.bind_some, export_f l h3 hg _ (by omega), Option.bind_some]
    by_cases hb : h < 0 ∨ 10 < h
    · rw [checkOf_bad l h hb]
      dsimp only
      rw [if_neg (by decide), if_pos (by decide), decide_eq_true (by omega)]
    · have G0 : Good ((2 ^ h.toNat : Nat) : Int) [] := good_nil (most_pos h)
      obtain ⟨c1, c2, c3⟩ := chk_ok l [] 1 hu G0
      rw [checkOf_ok l h hb]
      by_cases z : (chkL ((2 ^ h.toNat : Nat) : Int) 1 [] l).2 = 0
      · obtain ⟨hm, gd, _⟩ := c2 z
        rw [List.nil_append] at gd
        have sp := sort_perm l
        have hm' : ∀ y ∈ sortL rowKey l, mayId y.f0 = true := fun y hy => hm y (sp.mem_iff.1 hy)
        have hg' : ∀ y ∈ sortL rowKey l, rowOk y := fun y hy => hg y (sp.mem_iff.1 hy)
        have hl' : (sortL rowKey l).length ≤ 200 := by rw [sort_len]; omega
        obtain ⟨t1, t2, t3⟩ := ledgerBack_text (sortL rowKey l) hl' hg' hm'
        obtain ⟨r1, r2⟩ := lines_rows (sortL rowKey l) (fun y hy => (hg' y hy).2) hm'
        have gs := good_perm gd sp.symm
        have im := (imp_ok (most := ((2 ^ h.toNat : Nat) : Int)) _ [] 1 G0).1 r2 (by rw [List.nil_append, r1]; exact gs)
        rw [List.nil_append, r1] at im
        rw [if_pos z, t1]
        dsimp only
        rw [import_f _ _ (by omega), Option.bind_some, importOf_ok _ h hb t2, t3, im]
        dsimp only
        rw [if_pos rfl, if_pos rfl, if_pos rfl, sort_f l (by omega), Option.bind_some, sort_again, same44_is _ (by omega) _ (by omega), Option.bind_some, if_pos rfl, export_f _ hl' hg' _ (by omega), Option.bind_some, sort_again, t1]
        dsimp only
        rw [if_pos rfl, beq_self_eq_true]
      · obtain ⟨e1, e2, e3⟩ := c3 z
        have q1 : ((chkL ((2 ^ h.toNat : Nat) : Int) 1 [] l).1 == 0) = false := by rw [beq_eq_false_iff_ne]; omega
        have q2 : ((chkL ((2 ^ h.toNat : Nat) : Int) 1 [] l).2 == 120) = false := by rw [beq_eq_false_iff_ne]; exact e3
        rw [if_neg z, q1, q2, if_pos (show (false == false) = true from rfl), decide_eq_true (by omega)]
theorem ledgerBack_walk {w : World} (A0 : Option Addr) (c0 : Nat) (l0 : List S44) (hr0 : k44.C w A0 l0.length l0) (hc0 : l0.length ≤ c0) (g0 : ∀ y ∈ l0, y.f0.size ≤ 9223372036854775807 ∧ U64 y.f1.f0 ∧ U64 y.f1.f1) (a1 : Int) (g1 : (Lit.int .i64 a1).wf = true) (hG : GT w) :
    Calls Tryd.prog 5 #[.slice A0 l0.length c0, .int .i64 a1] w fun e w' => e = .returned (.bool true) ∧ Below w.heap.size w w' := by
  obtain ⟨k, hk⟩ := ledgerBack_pure l0 a1 fun y hy => (g0 y hy).2
  exact paymasterlaw11_LedgerBack.calls k A0 c0 l0 a1 true w hr0 hc0 hG hk
end Go.Proofs.YtpkjpiphjdpegaaDoor.P
