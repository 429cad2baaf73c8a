/- A program of this session wrote this text out of the session's own texts. (part 18 of 20) -/
import Derived.Shelf.RegionOpen
import Derived.RangeFuncCalls
import Derived.RangeFuncNested
namespace Go.Proofs.YtpkjpiphjdpegaaDoor.RF
open Go Go.RowKit
set_option linter.unusedVariables false
variable {F : Fence} {n : Nat} {P : Program} {ops : Array Oper} {md : Region.Mode}
def noDefer (o : Oper) : Bool := match o.op with | .defer _ => false | _ => true
theorem noDefer_is {o : Oper} (h : noDefer o = true) (c : _) : o.op ≠ .defer c := by
  intro e
  unfold noDefer at h
  rw [e] at h
  cases h
theorem oper_round {o : Oper} {a : Act} {w : World} {K : Act → World → Prop} {Q : Exit → Act → World → Prop} (l : Nat) (hro : F.round = none) (hd : noDefer o = true) (h : o.wpIn F n P a w K Q) : o.wpIn (F.inRound l) n P a w K Q := by
  unfold Oper.wpIn at *
  refine ⟨h.1, ?_⟩
  have h2 := h.2
  rw [hro, Oper.semAt_eq none a.eval o (noDefer_is hd)] at h2
  rw [Oper.semAt_eq (F.inRound l).round a.eval o (noDefer_is hd)]
  generalize (execOp a.eval o).run P w = r at *
  cases r with
  | ok x w' => cases x <;> exact h2
  | halt x w' => cases x <;> exact h2
theorem wpOp_round {i : Nat} {a : Act} {w : World} {K : Act → World → Prop} {Q : Exit → Act → World → Prop} (l : Nat) (hro : F.round = none) (hd : ∀ (j : Nat) (o : Oper), ops[j]? = some o → noDefer o = true) (h : wpOpIn F n P ops Q i K a w) : wpOpIn (F.inRound l) n P ops Q i K a w := by
  unfold wpOpIn at *
  cases ho : ops[i]? with
  | none => rw [ho] at h; exact h
  | some o =>
    rw [ho] at h
    simp only at h ⊢
    by_cases hw : Region.wanted o (yielded ops a.tmps) = true
    · rw [if_pos hw] at h ⊢
      exact oper_round l hro (hd i o ho) h
    · rw [if_neg hw] at h ⊢
      exact h
theorem wpAny_round {Q : Exit → Act → World → Prop} (l : Nat) (hro : F.round = none) (hd : ∀ (j : Nat) (o : Oper), ops[j]? = some o → noDefer o = true) : ∀ (fuel : Nat) (listed : Array Bool) (a : Act) (w : World), wpAnyIn F n P md ops Q fuel listed a w → wpAnyIn (F.inRound l) n P md ops Q fuel listed a w
  | 0, listed, a, w, h => h
  | fuel + 1, listed, a, w, h => ⟨h.1, fun i hi => wpOp_round l hro hd (wpOpIn_mono (fun a' w' hh => wpAny_round l hro hd fuel _ a' w' hh) (h.2 i hi))⟩
theorem quiet_round {id : Nat} {Q : Exit → Act → World → Prop} {a : Act} {w : World} {lst : List Oper} (l : Nat) (hro : F.round = none) (hm : P.follows .mixedOrders = true) (hB : Region.lexB .any lst.toArray = true) (hd : lst.all noDefer = true)
    (h : wpQuietIn F n P lst.toArray (fun w' => ∃ n, w' = w.drewN n) (fun a' => ∀ w', (∃ n, w' = w.drewN n) → Q .normal a' w') lst a) : (Code.region id lst.toArray true).wpIn (F.inRound l) n P Q a w := by
  simp only [Region.lexB, Bool.and_eq_true] at hB
  refine wpIn_region_any hm (wpAny_round l hro (fun j o ho => ?_) _ _ _ _ (wpAnyIn_of_quiet (C := fun w' => ∃ n, w' = w.drewN n) (Q := fun a' => ∀ w', (∃ n, w' = w.drewN n) → Q .normal a' w') hro (fun _ w' hw' h => h w' hw') _ _ _ _ ⟨1, rfl⟩ ?_))
  · have : o ∈ lst := by
      have := Array.mem_of_getElem? ho
      simpa using this
    exact List.all_eq_true.1 hd o this
  · have := wpAnyQIn_lex (F := F) (n := n) (C := fun w' => ∃ n, w' = w.drewN n) (md := .any) hB.1 lst 0 (Array.replicate lst.toArray.size false) a (by simp) (by simpa using hB.2) (by simpa using h)
    simpa using this
end Go.Proofs.YtpkjpiphjdpegaaDoor.RF
