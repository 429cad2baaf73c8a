/- A program of this session wrote this text out of the session's own texts. (part 2 of 3) -/
import Derived.Test.YtpkjpiphjdpegaaCLinesJoins1
import Derived.Test.YtpkjpiphjdpegaaProg
import Derived.Below
import Derived.Deep.Draws
import Derived.Deep.AppendLies
import Derived.Maps.AppendAt
import Derived.OwnWalk
import Derived.Laws.BytesArg
import Derived.Laws.MakeOwn
import Derived.Laws.OwnMore
import Derived.Deep.OwnRows
import Derived.Tactics
import Derived.Lib.ConvBytes
import Derived.Laws.Slices
import Derived.WalkKit
import Derived.KernelRfl
import Derived.RowKit3
import Derived.Deep.LoopGhost
import Derived.Deep.QuietTactic
import Derived.BigQuiet
import Derived.WideLaws
import Derived.Deep.DeepCutAuto
import Derived.Deep.CutBlock
import Derived.Deep.RegionHeld3
import Derived.Laws.Rows
import Derived.Lib.AppendStr
import Derived.ArgAppend
import Derived.Laws.IdiomCopy
import Derived.OrdersHeld
import Derived.Laws.BitsLemmas
import Derived.RowKit
import Derived.Laws.Externs
import Derived.Shelf.Spec.BitsCarry
import Derived.ProofKit
import Derived.OpenShut
import Derived.ShutString
import Derived.ChangeOld
import Derived.SizedLaws
import Derived.Carry
import Derived.Deep.Slices
import Derived.JoinedOf
import Derived.Laws.Bits64
import Derived.Laws.Bits64b
import Derived.Shelf.Bits.Mul64
import Derived.Lib.Mul64
import Derived.Lib.Bytes
namespace Go.Proofs.Ytpkjpiphjdpegaa.P
open Go.RowKit Go.Proofs.YtpkjpiphjdpegaaW.PrintWords Go.Proofs.YtpkjpiphjdpegaaW.PrintLast Go.Proofs.YtpkjpiphjdpegaaW.PrintMore
attribute [local go_sem] max2_int min2_int max_two min_two max_three min_three max_four min_four
set_option linter.unusedVariables false
set_option linter.unusedSimpArgs false
def errW : Option Int → Value
  | none => .nilIface
  | some c => .iface 0 (.int .i64 c)
theorem errW_none : errW none = .nilIface := rfl
theorem errW_some (c : Int) : errW (some c) = .iface 0 (.int .i64 c) := rfl
theorem info9 : (Try.prog.info? 9).map (fun i => (i.zero, i.size, i.bytes)) = some (some (.string ⟨#[]⟩), 1, 16) := by kernel_rfl
structure S25 where
  f0 : Int
  f1 : Int
def z25 : S25 := ⟨(0 : Int), (0 : Int)⟩
end Go.Proofs.Ytpkjpiphjdpegaa.P
namespace Go.Proofs.Ytpkjpiphjdpegaa.P
open Go.RowKit Go.ChangeShapes Go.WideShapes Go.Deep Go.Proofs.YtpkjpiphjdpegaaW.PrintWords Go.Proofs.YtpkjpiphjdpegaaW.PrintLast Go.Proofs.YtpkjpiphjdpegaaW.PrintMore
set_option linter.unusedVariables false
set_option linter.unusedSimpArgs false
section
variable {H : Type} {enc : TypeId × Value → H} {w : World} {base : Nat} {spare : Nat → Bool} {held : Bool}

theorem cells9 : Try.prog.cellsOf 9 = 1 := by kernel_rfl
set_option maxRecDepth 100000 in
theorem came_row {α : Type} (d : Kd α) {t e : TypeId} (good : α → Prop) (ht : Try.prog.underlying t = some (.slice e)) (hs : d.sz = Try.prog.cellsOf e)
    (one : ∀ (n : Nat) (cs : List Value) (x : DataW H × List MemPlace), DataW.trod enc Try.prog w base spare held n e cs = some x → ∃ y, d.K w y cs ∧ good y)
    {r : Reach} {b0 : Nat} {v : Value} {D : DataW H} {p : List MemPlace} (hv : Value.okWide Try.prog w r b0 t v) (h : DataW.Trod enc Try.prog w base spare held t v D p) :
    ∃ (A : Option Addr) (c : Nat) (l : List α), v = .slice A l.length c ∧ l.length ≤ c ∧ d.C w A l.length l ∧ ∀ y ∈ l, good y := by
  obtain ⟨A, len, c, rfl⟩ := okWide_slice ht hv
  obtain ⟨fuel, hf⟩ := h
  rcases open_slice ht hf with ⟨hcs, _⟩ | ⟨a, len', cap', m, n, D', Pl, hcs, hb, hl, hm, hmm, hx, hi⟩
  · simp [Value.cells] at hcs
    obtain ⟨rfl, rfl, rfl⟩ := hcs
    exact ⟨none, 0, [], rfl, Nat.le_refl _, Kd.C_nil d w, by simp⟩
  · simp [Value.cells] at hcs
    obtain ⟨rfl, rfl, rfl⟩ := hcs
    have hlm : len ≤ m := by rw [hmm]; split <;> omega
    have each : ∀ i, i < len → ∃ y, good y ∧ ∃ cs, cs.length = d.sz ∧ d.K w y cs ∧ ∀ j u, cs[j]? = some u → w.cell? (a.add (i * d.sz + j)) = some u := by
      intro i hlt
      obtain ⟨cs', hc, ht'⟩ := hi i (by omega)
      obtain ⟨y, hy, hg⟩ := one _ _ _ ht'
      obtain ⟨_, hcl, hat⟩ := World.cells?_some hc
      refine ⟨y, hg, cs', d.K_len hy, hy, fun j u hu => ?_⟩
      have hj : j < cs'.length := (List.getElem?_eq_some_iff.1 hu).1
      rw [hs, ← Go.Deep.add_add, hat j (by omega), hu]
    have all : ∀ k, k ≤ len → ∃ l : List α, l.length = k ∧ (∀ y ∈ l, good y) ∧ ∀ j y, l[j]? = some y → ∃ cs, cs.length = d.sz ∧ d.K w y cs ∧ ∀ i u, cs[i]? = some u → w.cell? (a.add (j * d.sz + i)) = some u := by
      intro k
      induction k with
      | zero => exact fun _ => ⟨[], rfl, by simp, by simp⟩
      | succ k ih =>
        intro hk
        obtain ⟨l, hl1, hg, hl2⟩ := ih (by omega)
        obtain ⟨y, hy, cs, h1, h2, h3⟩ := each k (by omega)
        refine ⟨l ++ [y], by simp [hl1], ?_, ?_⟩
        · intro z hz
          rcases List.mem_append.1 hz with hz | hz
          · exact hg z hz
          · rw [List.mem_singleton.1 hz]; exact hy
        · intro j z hz
          by_cases hj : j < l.length
          · rw [List.getElem?_append_left hj] at hz
            exact hl2 j z hz
          · rw [List.getElem?_append_right (by omega)] at hz
            have : j - l.length = 0 := by
              rcases Nat.eq_zero_or_pos (j - l.length) with h0 | h0
              · exact h0
              · rw [List.getElem?_eq_none (by simp; omega)] at hz
                cases hz
            rw [this] at hz
            simp at hz
            subst hz
            have hjk : j = k := by omega
            subst hjk
            exact ⟨cs, h1, h2, h3⟩
    obtain ⟨l, hl1, hg, hl2⟩ := all len (Nat.le_refl _)
    refine ⟨some a, c, l, by rw [hl1], by omega, ⟨rfl, by unfold maxLen at hm; omega, fun _ => ⟨a, rfl, hl2⟩⟩, hg⟩
set_option maxRecDepth 100000 in
theorem args_back {P : Program} (hl : laidOutB P = true) {W W' : World} (hb : Below W.heap.size W W') : ∀ {ts : List TypeId} {vs : List Value} {ds : List (DataW H)} {p : List MemPlace},
    (ts.all fun t => P.readableRec t && decide (t < P.types.size)) = true → DataW.TrodAll enc P W 0 (fun _ => true) true ts vs ds p → DataW.TrodAll enc P W' 0 (fun b => decide (b < W.heap.size)) true ts vs ds p
  | [], vs, ds, p, _, h => by
    obtain ⟨rfl, rfl, rfl⟩ := trodAll_nil h
    exact trodAll_mk0
  | t :: ts, vs, ds, p, hg, h => by
    obtain ⟨v, vs', d, ds', p', q, rfl, rfl, rfl, h0, r⟩ := trodAll_cons h
    simp only [List.all_cons, Bool.and_eq_true, decide_eq_true_eq] at hg
    exact trodAll_cons_mk (Below.trod hl hg.1.1 hg.1.2 h0 hb (fun x hx => by
      obtain ⟨m, hm⟩ := h0
      exact DataW.trod_lt m _ _ _ hm x hx)) (args_back hl hb hg.2 r)
end
end Go.Proofs.Ytpkjpiphjdpegaa.P
namespace Go.Proofs.Ytpkjpiphjdpegaa.Facts
open Go
def signs : List Char := [Char.ofNat 104, Char.ofNat 97, Char.ofNat 114, Char.ofNat 110, Char.ofNat 101, Char.ofNat 115, Char.ofNat 115, Char.ofNat 32, Char.ofNat 97, Char.ofNat 102, Char.ofNat 97, Char.ofNat 57, Char.ofNat 52, Char.ofNat 98, Char.ofNat 50, Char.ofNat 97, Char.ofNat 97, Char.ofNat 57, Char.ofNat 48, Char.ofNat 98, Char.ofNat 100, Char.ofNat 55, Char.ofNat 98, Char.ofNat 99, Char.ofNat 57, Char.ofNat 100, Char.ofNat 54, Char.ofNat 52, Char.ofNat 56, Char.ofNat 99, Char.ofNat 56, Char.ofNat 52, Char.ofNat 51, Char.ofNat 48, Char.ofNat 98, Char.ofNat 99, Char.ofNat 48, Char.ofNat 100, Char.ofNat 102, Char.ofNat 48, Char.ofNat 98, Char.ofNat 49, Char.ofNat 56, Char.ofNat 48, Char.ofNat 54, Char.ofNat 98, Char.ofNat 49, Char.ofNat 53, Char.ofNat 56, Char.ofNat 48, Char.ofNat 101, Char.ofNat 53, Char.ofNat 56, Char.ofNat 52, Char.ofNat 51, Char.ofNat 55, Char.ofNat 54, Char.ofNat 55, Char.ofNat 99, Char.ofNat 49, Char.ofNat 53, Char.ofNat 56, Char.ofNat 100, Char.ofNat 57, Char.ofNat 99, Char.ofNat 52, Char.ofNat 50, Char.ofNat 100, Char.ofNat 49, Char.ofNat 57, Char.ofNat 98, Char.ofNat 52, Char.ofNat 32, Char.ofNat 99, Char.ofNat 117, Char.ofNat 116, Char.ofNat 32, Char.ofNat 97, Char.ofNat 116, Char.ofNat 32, Char.ofNat 112, Char.ofNat 97, Char.ofNat 121, Char.ofNat 109, Char.ofNat 97, Char.ofNat 115, Char.ofNat 116, Char.ofNat 101, Char.ofNat 114, Char.ofNat 47, Char.ofNat 112, Char.ofNat 97, Char.ofNat 121, Char.ofNat 109, Char.ofNat 97, Char.ofNat 115, Char.ofNat 116, Char.ofNat 101, Char.ofNat 114, Char.ofNat 108, Char.ofNat 97, Char.ofNat 119, Char.ofNat 48, Char.ofNat 51, Char.ofNat 46, Char.ofNat 87, Char.ofNat 105, Char.ofNat 100, Char.ofNat 101, Char.ofNat 65, Char.ofNat 108, Char.ofNat 108, Char.ofNat 32, Char.ofNat 112, Char.ofNat 97, Char.ofNat 121, Char.ofNat 109, Char.ofNat 97, Char.ofNat 115, Char.ofNat 116, Char.ofNat 101, Char.ofNat 114, Char.ofNat 47, Char.ofNat 112, Char.ofNat 97, Char.ofNat 121, Char.ofNat 109, Char.ofNat 97, Char.ofNat 115, Char.ofNat 116, Char.ofNat 101, Char.ofNat 114, Char.ofNat 108, Char.ofNat 97, Char.ofNat 119, Char.ofNat 48, Char.ofNat 49, Char.ofNat 46, Char.ofNat 85, Char.ofNat 49, Char.ofNat 50, Char.ofNat 56, Char.ofNat 66, Char.ofNat 121, Char.ofNat 116, Char.ofNat 101, Char.ofNat 115, Char.ofNat 32, Char.ofNat 112, Char.ofNat 97, Char.ofNat 121, Char.ofNat 109, Char.ofNat 97, Char.ofNat 115, Char.ofNat 116, Char.ofNat 101, Char.ofNat 114, Char.ofNat 47, Char.ofNat 112, Char.ofNat 97, Char.ofNat 121, Char.ofNat 109, Char.ofNat 97, Char.ofNat 115, Char.ofNat 116, Char.ofNat 101, Char.ofNat 114, Char.ofNat 108, Char.ofNat 97, Char.ofNat 119, Char.ofNat 48, Char.ofNat 51, Char.ofNat 46, Char.ofNat 87, Char.ofNat 105, Char.ofNat 100, Char.ofNat 101, Char.ofNat 65, Char.ofNat 100, Char.ofNat 100, Char.ofNat 115, Char.ofNat 32, Char.ofNat 112, Char.ofNat 97, Char.ofNat 121, Char.ofNat 109, Char.ofNat 97, Char.ofNat 115, Char.ofNat 116, Char.ofNat 101, Char.ofNat 114, Char.ofNat 47, Char.ofNat 112, Char.ofNat 97, Char.ofNat 121, Char.ofNat 109, Char.ofNat 97, Char.ofNat 115, Char.ofNat 116, Char.ofNat 101, Char.ofNat 114, Char.ofNat 108, Char.ofNat 97, Char.ofNat 119, Char.ofNat 48, Char.ofNat 49, Char.ofNat 46, Char.ofNat 85, Char.ofNat 49, Char.ofNat 50, Char.ofNat 56, Char.ofNat 65, Char.ofNat 100, Char.ofNat 100, Char.ofNat 115, Char.ofNat 32, Char.ofNat 112, Char.ofNat 97, Char.ofNat 121, Char.ofNat 109, Char.ofNat 97, Char.ofNat 115, Char.ofNat 116, Char.ofNat 101, Char.ofNat 114, Char.ofNat 47, Char.ofNat 112, Char.ofNat 97, Char.ofNat 121, Char.ofNat 109, Char.ofNat 97, Char.ofNat 115, Char.ofNat 116, Char.ofNat 101, Char.ofNat 114, Char.ofNat 108, Char.ofNat 97, Char.ofNat 119, Char.ofNat 48, Char.ofNat 51, Char.ofNat 46, Char.ofNat 87, Char.ofNat 105, Char.ofNat 100, Char.ofNat 101, Char.ofNat 79, Char.ofNat 114, Char.ofNat 100, Char.ofNat 101, Char.ofNat 114, Char.ofNat 115, Char.ofNat 32, Char.ofNat 112, Char.ofNat 97, Char.ofNat 121, Char.ofNat 109, Char.ofNat 97, Char.ofNat 115, Char.ofNat 116, Char.ofNat 101, Char.ofNat 114, Char.ofNat 47, Char.ofNat 112, Char.ofNat 97, Char.ofNat 121, Char.ofNat 109, Char.ofNat 97, Char.ofNat 115, Char.ofNat 116, Char.ofNat 101, Char.ofNat 114, Char.ofNat 108, Char.ofNat 97, Char.ofNat 119, Char.ofNat 48, Char.ofNat 51, Char.ofNat 46, Char.ofNat 87, Char.ofNat 105, Char.ofNat 100, Char.ofNat 101, Char.ofNat 67, Char.ofNat 111, Char.ofNat 109, Char.ofNat 112, Char.ofNat 97, Char.ofNat 114, Char.ofNat 101, Char.ofNat 115, Char.ofNat 32, Char.ofNat 112, Char.ofNat 97, Char.ofNat 121, Char.ofNat 109, Char.ofNat 97, Char.ofNat 115, Char.ofNat 116, Char.ofNat 101, Char.ofNat 114, Char.ofNat 47, Char.ofNat 112, Char.ofNat 97, Char.ofNat 121, Char.ofNat 109, Char.ofNat 97, Char.ofNat 115, Char.ofNat 116, Char.ofNat 101, Char.ofNat 114, Char.ofNat 108, Char.ofNat 97, Char.ofNat 119, Char.ofNat 48, Char.ofNat 51, Char.ofNat 46, Char.ofNat 87, Char.ofNat 105, Char.ofNat 100, Char.ofNat 101, Char.ofNat 66, Char.ofNat 97, Char.ofNat 108, Char.ofNat 97, Char.ofNat 110, Char.ofNat 99, Char.ofNat 101, Char.ofNat 100, Char.ofNat 32, Char.ofNat 112, Char.ofNat 97, Char.ofNat 121, Char.ofNat 109, Char.ofNat 97, Char.ofNat 115, Char.ofNat 116, Char.ofNat 101, Char.ofNat 114, Char.ofNat 47, Char.ofNat 112, Char.ofNat 97, Char.ofNat 121, Char.ofNat 109, Char.ofNat 97, Char.ofNat 115, Char.ofNat 116, Char.ofNat 101, Char.ofNat 114, Char.ofNat 108, Char.ofNat 97, Char.ofNat 119, Char.ofNat 48, Char.ofNat 49, Char.ofNat 46, Char.ofNat 85, Char.ofNat 49, Char.ofNat 50, Char.ofNat 56, Char.ofNat 84, Char.ofNat 105, Char.ofNat 109, Char.ofNat 101, Char.ofNat 115, Char.ofNat 32, Char.ofNat 112, Char.ofNat 97, Char.ofNat 121, Char.ofNat 109, Char.ofNat 97, Char.ofNat 115, Char.ofNat 116, Char.ofNat 101, Char.ofNat 114, Char.ofNat 47, Char.ofNat 112, Char.ofNat 97, Char.ofNat 121, Char.ofNat 109, Char.ofNat 97, Char.ofNat 115, Char.ofNat 116, Char.ofNat 101, Char.ofNat 114, Char.ofNat 108, Char.ofNat 97, Char.ofNat 119, Char.ofNat 48, Char.ofNat 51, Char.ofNat 46, Char.ofNat 87, Char.ofNat 105, Char.ofNat 100, Char.ofNat 101, Char.ofNat 78, Char.ofNat 97, Char.ofNat 114, Char.ofNat 114, Char.ofNat 111, Char.ofNat 119, Char.ofNat 32, Char.ofNat 112, Char.ofNat 97, Char.ofNat 121, Char.ofNat 109, Char.ofNat 97, Char.ofNat 115, Char.ofNat 116, Char.ofNat 101, Char.ofNat 114, Char.ofNat 47, Char.ofNat 112, Char.ofNat 97, Char.ofNat 121, Char.ofNat 109, Char.ofNat 97, Char.ofNat 115, Char.ofNat 116, Char.ofNat 101, Char.ofNat 114, Char.ofNat 108, Char.ofNat 97, Char.ofNat 119, Char.ofNat 48, Char.ofNat 50, Char.ofNat 46, Char.ofNat 68, Char.ofNat 101, Char.ofNat 99, Char.ofNat 105, Char.ofNat 109, Char.ofNat 97, Char.ofNat 108, Char.ofNat 68, Char.ofNat 105, Char.ofNat 103, Char.ofNat 105, Char.ofNat 116, Char.ofNat 115, Char.ofNat 32, Char.ofNat 112, Char.ofNat 97, Char.ofNat 121, Char.ofNat 109, Char.ofNat 97, Char.ofNat 115, Char.ofNat 116, Char.ofNat 101, Char.ofNat 114, Char.ofNat 47, Char.ofNat 112, Char.ofNat 97, Char.ofNat 121, Char.ofNat 109, Char.ofNat 97, Char.ofNat 115, Char.ofNat 116, Char.ofNat 101, Char.ofNat 114, Char.ofNat 108, Char.ofNat 97, Char.ofNat 119, Char.ofNat 48, Char.ofNat 49, Char.ofNat 46, Char.ofNat 85, Char.ofNat 49, Char.ofNat 50, Char.ofNat 56, Char.ofNat 66, Char.ofNat 97, Char.ofNat 99, Char.ofNat 107, Char.ofNat 32, Char.ofNat 112, Char.ofNat 97, Char.ofNat 121, Char.ofNat 109, Char.ofNat 97, Char.ofNat 115, Char.ofNat 116, Char.ofNat 101, Char.ofNat 114, Char.ofNat 47, Char.ofNat 112, Char.ofNat 97, Char.ofNat 121, Char.ofNat 109, Char.ofNat 97, Char.ofNat 115, Char.ofNat 116, Char.ofNat 101, Char.ofNat 114, Char.ofNat 108, Char.ofNat 97, Char.ofNat 119, Char.ofNat 48, Char.ofNat 49, Char.ofNat 46, Char.ofNat 85, Char.ofNat 49, Char.ofNat 50, Char.ofNat 56, Char.ofNat 79, Char.ofNat 114, Char.ofNat 100, Char.ofNat 101, Char.ofNat 114, Char.ofNat 32, Char.ofNat 112, Char.ofNat 97, Char.ofNat 121, Char.ofNat 109, Char.ofNat 97, Char.ofNat 115, Char.ofNat 116, Char.ofNat 101, Char.ofNat 114, Char.ofNat 47, Char.ofNat 112, Char.ofNat 97, Char.ofNat 121, Char.ofNat 109, Char.ofNat 97, Char.ofNat 115, Char.ofNat 116, Char.ofNat 101, Char.ofNat 114, Char.ofNat 108, Char.ofNat 97, Char.ofNat 119, Char.ofNat 48, Char.ofNat 49, Char.ofNat 46, Char.ofNat 85, Char.ofNat 49, Char.ofNat 50, Char.ofNat 56, Char.ofNat 83, Char.ofNat 117, Char.ofNat 109, Char.ofNat 115, Char.ofNat 32, Char.ofNat 112, Char.ofNat 97, Char.ofNat 121, Char.ofNat 109, Char.ofNat 97, Char.ofNat 115, Char.ofNat 116, Char.ofNat 101, Char.ofNat 114, Char.ofNat 47, Char.ofNat 112, Char.ofNat 97, Char.ofNat 121, Char.ofNat 109, Char.ofNat 97, Char.ofNat 115, Char.ofNat 116, Char.ofNat 101, Char.ofNat 114, Char.ofNat 108, Char.ofNat 97, Char.ofNat 119, Char.ofNat 48, Char.ofNat 49, Char.ofNat 46, Char.ofNat 85, Char.ofNat 49, Char.ofNat 50, Char.ofNat 56, Char.ofNat 68, Char.ofNat 105, Char.ofNat 118, Char.ofNat 105, Char.ofNat 100, Char.ofNat 101, Char.ofNat 115, Char.ofNat 32, Char.ofNat 112, Char.ofNat 97, Char.ofNat 121, Char.ofNat 109, Char.ofNat 97, Char.ofNat 115, Char.ofNat 116, Char.ofNat 101, Char.ofNat 114, Char.ofNat 47, Char.ofNat 112, Char.ofNat 97, Char.ofNat 121, Char.ofNat 109, Char.ofNat 97, Char.ofNat 115, Char.ofNat 116, Char.ofNat 101, Char.ofNat 114, Char.ofNat 108, Char.ofNat 97, Char.ofNat 119, Char.ofNat 48, Char.ofNat 57, Char.ofNat 46, Char.ofNat 76, Char.ofNat 105, Char.ofNat 110, Char.ofNat 101, Char.ofNat 115, Char.ofNat 74, Char.ofNat 111, Char.ofNat 105, Char.ofNat 110, Char.ofNat 115, Char.ofNat 32, Char.ofNat 112, Char.ofNat 97, Char.ofNat 121, Char.ofNat 109, Char.ofNat 97, Char.ofNat 115, Char.ofNat 116, Char.ofNat 101, Char.ofNat 114, Char.ofNat 47, Char.ofNat 112, Char.ofNat 97, Char.ofNat 121, Char.ofNat 109, Char.ofNat 97, Char.ofNat 115, Char.ofNat 116, Char.ofNat 101, Char.ofNat 114, Char.ofNat 108, Char.ofNat 97, Char.ofNat 119, Char.ofNat 49, Char.ofNat 49, Char.ofNat 46, Char.ofNat 76, Char.ofNat 101, Char.ofNat 100, Char.ofNat 103, Char.ofNat 101, Char.ofNat 114, Char.ofNat 70, Char.ofNat 105, Char.ofNat 110, Char.ofNat 100, Char.ofNat 115, Char.ofNat 32, Char.ofNat 112, Char.ofNat 97, Char.ofNat 121, Char.ofNat 109, Char.ofNat 97, Char.ofNat 115, Char.ofNat 116, Char.ofNat 101, Char.ofNat 114, Char.ofNat 47, Char.ofNat 112, Char.ofNat 97, Char.ofNat 121, Char.ofNat 109, Char.ofNat 97, Char.ofNat 115, Char.ofNat 116, Char.ofNat 101, Char.ofNat 114, Char.ofNat 108, Char.ofNat 97, Char.ofNat 119, Char.ofNat 48, Char.ofNat 50, Char.ofNat 46, Char.ofNat 68, Char.ofNat 101, Char.ofNat 99, Char.ofNat 105, Char.ofNat 109, Char.ofNat 97, Char.ofNat 108, Char.ofNat 84, Char.ofNat 101, Char.ofNat 120, Char.ofNat 116, Char.ofNat 115, Char.ofNat 32, Char.ofNat 112, Char.ofNat 97, Char.ofNat 121, Char.ofNat 109, Char.ofNat 97, Char.ofNat 115, Char.ofNat 116, Char.ofNat 101, Char.ofNat 114, Char.ofNat 47, Char.ofNat 112, Char.ofNat 97, Char.ofNat 121, Char.ofNat 109, Char.ofNat 97, Char.ofNat 115, Char.ofNat 116, Char.ofNat 101, Char.ofNat 114, Char.ofNat 108, Char.ofNat 97, Char.ofNat 119, Char.ofNat 48, Char.ofNat 50, Char.ofNat 46, Char.ofNat 68, Char.ofNat 101, Char.ofNat 99, Char.ofNat 105, Char.ofNat 109, Char.ofNat 97, Char.ofNat 108, Char.ofNat 66, Char.ofNat 97, Char.ofNat 99, Char.ofNat 107, Char.ofNat 32, Char.ofNat 112, Char.ofNat 97, Char.ofNat 121, Char.ofNat 109, Char.ofNat 97, Char.ofNat 115, Char.ofNat 116, Char.ofNat 101, Char.ofNat 114, Char.ofNat 47, Char.ofNat 112, Char.ofNat 97, Char.ofNat 121, Char.ofNat 109, Char.ofNat 97, Char.ofNat 115, Char.ofNat 116, Char.ofNat 101, Char.ofNat 114, Char.ofNat 108, Char.ofNat 97, Char.ofNat 119, Char.ofNat 48, Char.ofNat 50, Char.ofNat 46, Char.ofNat 68, Char.ofNat 101, Char.ofNat 99, Char.ofNat 105, Char.ofNat 109, Char.ofNat 97, Char.ofNat 108, Char.ofNat 80, Char.ofNat 108, Char.ofNat 97, Char.ofNat 99, Char.ofNat 101, Char.ofNat 115, Char.ofNat 32, Char.ofNat 112, Char.ofNat 97, Char.ofNat 121, Char.ofNat 109, Char.ofNat 97, Char.ofNat 115, Char.ofNat 116, Char.ofNat 101, Char.ofNat 114, Char.ofNat 47, Char.ofNat 112, Char.ofNat 97, Char.ofNat 121, Char.ofNat 109, Char.ofNat 97, Char.ofNat 115, Char.ofNat 116, Char.ofNat 101, Char.ofNat 114, Char.ofNat 108, Char.ofNat 97, Char.ofNat 119, Char.ofNat 48, Char.ofNat 50, Char.ofNat 46, Char.ofNat 68, Char.ofNat 101, Char.ofNat 99, Char.ofNat 105, Char.ofNat 109, Char.ofNat 97, Char.ofNat 108, Char.ofNat 71, Char.ofNat 114, Char.ofNat 111, Char.ofNat 117, Char.ofNat 112, Char.ofNat 115, Char.ofNat 32, Char.ofNat 112, Char.ofNat 97, Char.ofNat 121, Char.ofNat 109, Char.ofNat 97, Char.ofNat 115, Char.ofNat 116, Char.ofNat 101, Char.ofNat 114, Char.ofNat 47, Char.ofNat 112, Char.ofNat 97, Char.ofNat 121, Char.ofNat 109, Char.ofNat 97, Char.ofNat 115, Char.ofNat 116, Char.ofNat 101, Char.ofNat 114, Char.ofNat 108, Char.ofNat 97, Char.ofNat 119, Char.ofNat 48, Char.ofNat 50, Char.ofNat 46, Char.ofNat 68, Char.ofNat 101, Char.ofNat 99, Char.ofNat 105, Char.ofNat 109, Char.ofNat 97, Char.ofNat 108, Char.ofNat 79, Char.ofNat 114, Char.ofNat 100, Char.ofNat 101, Char.ofNat 114]
def w0 : List Char := [Char.ofNat 104, Char.ofNat 97, Char.ofNat 114, Char.ofNat 110, Char.ofNat 101, Char.ofNat 115, Char.ofNat 115]
def w1 : List Char := [Char.ofNat 97, Char.ofNat 102, Char.ofNat 97, Char.ofNat 57, Char.ofNat 52, Char.ofNat 98, Char.ofNat 50, Char.ofNat 97, Char.ofNat 97, Char.ofNat 57, Char.ofNat 48, Char.ofNat 98, Char.ofNat 100, Char.ofNat 55, Char.ofNat 98, Char.ofNat 99, Char.ofNat 57, Char.ofNat 100, Char.ofNat 54, Char.ofNat 52, Char.ofNat 56, Char.ofNat 99, Char.ofNat 56, Char.ofNat 52, Char.ofNat 51, Char.ofNat 48, Char.ofNat 98, Char.ofNat 99, Char.ofNat 48, Char.ofNat 100, Char.ofNat 102, Char.ofNat 48, Char.ofNat 98, Char.ofNat 49, Char.ofNat 56, Char.ofNat 48, Char.ofNat 54, Char.ofNat 98, Char.ofNat 49, Char.ofNat 53, Char.ofNat 56, Char.ofNat 48, Char.ofNat 101, Char.ofNat 53, Char.ofNat 56, Char.ofNat 52, Char.ofNat 51, Char.ofNat 55, Char.ofNat 54, Char.ofNat 55, Char.ofNat 99, Char.ofNat 49, Char.ofNat 53, Char.ofNat 56, Char.ofNat 100, Char.ofNat 57, Char.ofNat 99, Char.ofNat 52, Char.ofNat 50, Char.ofNat 100, Char.ofNat 49, Char.ofNat 57, Char.ofNat 98, Char.ofNat 52]
def w2 : List Char := [Char.ofNat 99, Char.ofNat 117, Char.ofNat 116]
def w3 : List Char := [Char.ofNat 97, Char.ofNat 116]
def w4 : List Char := [Char.ofNat 112, Char.ofNat 97, Char.ofNat 121, Char.ofNat 109, Char.ofNat 97, Char.ofNat 115, Char.ofNat 116, Char.ofNat 101, Char.ofNat 114, Char.ofNat 47, Char.ofNat 112, Char.ofNat 97, Char.ofNat 121, Char.ofNat 109, Char.ofNat 97, Char.ofNat 115, Char.ofNat 116, Char.ofNat 101, Char.ofNat 114, Char.ofNat 108, Char.ofNat 97, Char.ofNat 119, Char.ofNat 48, Char.ofNat 51, Char.ofNat 46, Char.ofNat 87, Char.ofNat 105, Char.ofNat 100, Char.ofNat 101, Char.ofNat 65, Char.ofNat 108, Char.ofNat 108]
def w5 : List Char := [Char.ofNat 112, Char.ofNat 97, Char.ofNat 121, Char.ofNat 109, Char.ofNat 97, Char.ofNat 115, Char.ofNat 116, Char.ofNat 101, Char.ofNat 114, Char.ofNat 47, Char.ofNat 112, Char.ofNat 97, Char.ofNat 121, Char.ofNat 109, Char.ofNat 97, Char.ofNat 115, Char.ofNat 116, Char.ofNat 101, Char.ofNat 114, Char.ofNat 108, Char.ofNat 97, Char.ofNat 119, Char.ofNat 48, Char.ofNat 49, Char.ofNat 46, Char.ofNat 85, Char.ofNat 49, Char.ofNat 50, Char.ofNat 56, Char.ofNat 66, Char.ofNat 121, Char.ofNat 116, Char.ofNat 101, Char.ofNat 115]
def w6 : List Char := [Char.ofNat 112, Char.ofNat 97, Char.ofNat 121, Char.ofNat 109, Char.ofNat 97, Char.ofNat 115, Char.ofNat 116, Char.ofNat 101, Char.ofNat 114, Char.ofNat 47, Char.ofNat 112, Char.ofNat 97, Char.ofNat 121, Char.ofNat 109, Char.ofNat 97, Char.ofNat 115, Char.ofNat 116, Char.ofNat 101, Char.ofNat 114, Char.ofNat 108, Char.ofNat 97, Char.ofNat 119, Char.ofNat 48, Char.ofNat 51, Char.ofNat 46, Char.ofNat 87, Char.ofNat 105, Char.ofNat 100, Char.ofNat 101, Char.ofNat 65, Char.ofNat 100, Char.ofNat 100, Char.ofNat 115]
def w7 : List Char := [Char.ofNat 112, Char.ofNat 97, Char.ofNat 121, Char.ofNat 109, Char.ofNat 97, Char.ofNat 115, Char.ofNat 116, Char.ofNat 101, Char.ofNat 114, Char.ofNat 47, Char.ofNat 112, Char.ofNat 97, Char.ofNat 121, Char.ofNat 109, Char.ofNat 97, Char.ofNat 115, Char.ofNat 116, Char.ofNat 101, Char.ofNat 114, Char.ofNat 108, Char.ofNat 97, Char.ofNat 119, Char.ofNat 48, Char.ofNat 49, Char.ofNat 46, Char.ofNat 85, Char.ofNat 49, Char.ofNat 50, Char.ofNat 56, Char.ofNat 65, Char.ofNat 100, Char.ofNat 100, Char.ofNat 115]
def w8 : List Char := [Char.ofNat 112, Char.ofNat 97, Char.ofNat 121, Char.ofNat 109, Char.ofNat 97, Char.ofNat 115, Char.ofNat 116, Char.ofNat 101, Char.ofNat 114, Char.ofNat 47, Char.ofNat 112, Char.ofNat 97, Char.ofNat 121, Char.ofNat 109, Char.ofNat 97, Char.ofNat 115, Char.ofNat 116, Char.ofNat 101, Char.ofNat 114, Char.ofNat 108, Char.ofNat 97, Char.ofNat 119, Char.ofNat 48, Char.ofNat 51, Char.ofNat 46, Char.ofNat 87, Char.ofNat 105, Char.ofNat 100, Char.ofNat 101, Char.ofNat 79, Char.ofNat 114, Char.ofNat 100, Char.ofNat 101, Char.ofNat 114, Char.ofNat 115]
def w9 : List Char := [Char.ofNat 112, Char.ofNat 97, Char.ofNat 121, Char.ofNat 109, Char.ofNat 97, Char.ofNat 115, Char.ofNat 116, Char.ofNat 101, Char.ofNat 114, Char.ofNat 47, Char.ofNat 112, Char.ofNat 97, Char.ofNat 121, Char.ofNat 109, Char.ofNat 97, Char.ofNat 115, Char.ofNat 116, Char.ofNat 101, Char.ofNat 114, Char.ofNat 108, Char.ofNat 97, Char.ofNat 119, Char.ofNat 48, Char.ofNat 51, Char.ofNat 46, Char.ofNat 87, Char.ofNat 105, Char.ofNat 100, Char.ofNat 101, Char.ofNat 67, Char.ofNat 111, Char.ofNat 109, Char.ofNat 112, Char.ofNat 97, Char.ofNat 114, Char.ofNat 101, Char.ofNat 115]
def w10 : List Char := [Char.ofNat 112, Char.ofNat 97, Char.ofNat 121, Char.ofNat 109, Char.ofNat 97, Char.ofNat 115, Char.ofNat 116, Char.ofNat 101, Char.ofNat 114, Char.ofNat 47, Char.ofNat 112, Char.ofNat 97, Char.ofNat 121, Char.ofNat 109, Char.ofNat 97, Char.ofNat 115, Char.ofNat 116, Char.ofNat 101, Char.ofNat 114, Char.ofNat 108, Char.ofNat 97, Char.ofNat 119, Char.ofNat 48, Char.ofNat 51, Char.ofNat 46, Char.ofNat 87, Char.ofNat 105, Char.ofNat 100, Char.ofNat 101, Char.ofNat 66, Char.ofNat 97, Char.ofNat 108, Char.ofNat 97, Char.ofNat 110, Char.ofNat 99, Char.ofNat 101, Char.ofNat 100]
def w11 : List Char := [Char.ofNat 112, Char.ofNat 97, Char.ofNat 121, Char.ofNat 109, Char.ofNat 97, Char.ofNat 115, Char.ofNat 116, Char.ofNat 101, Char.ofNat 114, Char.ofNat 47, Char.ofNat 112, Char.ofNat 97, Char.ofNat 121, Char.ofNat 109, Char.ofNat 97, Char.ofNat 115, Char.ofNat 116, Char.ofNat 101, Char.ofNat 114, Char.ofNat 108, Char.ofNat 97, Char.ofNat 119, Char.ofNat 48, Char.ofNat 49, Char.ofNat 46, Char.ofNat 85, Char.ofNat 49, Char.ofNat 50, Char.ofNat 56, Char.ofNat 84, Char.ofNat 105, Char.ofNat 109, Char.ofNat 101, Char.ofNat 115]
def w12 : List Char := [Char.ofNat 112, Char.ofNat 97, Char.ofNat 121, Char.ofNat 109, Char.ofNat 97, Char.ofNat 115, Char.ofNat 116, Char.ofNat 101, Char.ofNat 114, Char.ofNat 47, Char.ofNat 112, Char.ofNat 97, Char.ofNat 121, Char.ofNat 109, Char.ofNat 97, Char.ofNat 115, Char.ofNat 116, Char.ofNat 101, Char.ofNat 114, Char.ofNat 108, Char.ofNat 97, Char.ofNat 119, Char.ofNat 48, Char.ofNat 51, Char.ofNat 46, Char.ofNat 87, Char.ofNat 105, Char.ofNat 100, Char.ofNat 101, Char.ofNat 78, Char.ofNat 97, Char.ofNat 114, Char.ofNat 114, Char.ofNat 111, Char.ofNat 119]
def w13 : List Char := [Char.ofNat 112, Char.ofNat 97, Char.ofNat 121, Char.ofNat 109, Char.ofNat 97, Char.ofNat 115, Char.ofNat 116, Char.ofNat 101, Char.ofNat 114, Char.ofNat 47, Char.ofNat 112, Char.ofNat 97, Char.ofNat 121, Char.ofNat 109, Char.ofNat 97, Char.ofNat 115, Char.ofNat 116, Char.ofNat 101, Char.ofNat 114, Char.ofNat 108, Char.ofNat 97, Char.ofNat 119, Char.ofNat 48, Char.ofNat 50, Char.ofNat 46, Char.ofNat 68, Char.ofNat 101, Char.ofNat 99, Char.ofNat 105, Char.ofNat 109, Char.ofNat 97, Char.ofNat 108, Char.ofNat 68, Char.ofNat 105, Char.ofNat 103, Char.ofNat 105, Char.ofNat 116, Char.ofNat 115]
def w14 : List Char := [Char.ofNat 112, Char.ofNat 97, Char.ofNat 121, Char.ofNat 109, Char.ofNat 97, Char.ofNat 115, Char.ofNat 116, Char.ofNat 101, Char.ofNat 114, Char.ofNat 47, Char.ofNat 112, Char.ofNat 97, Char.ofNat 121, Char.ofNat 109, Char.ofNat 97, Char.ofNat 115, Char.ofNat 116, Char.ofNat 101, Char.ofNat 114, Char.ofNat 108, Char.ofNat 97, Char.ofNat 119, Char.ofNat 48, Char.ofNat 49, Char.ofNat 46, Char.ofNat 85, Char.ofNat 49, Char.ofNat 50, Char.ofNat 56, Char.ofNat 66, Char.ofNat 97, Char.ofNat 99, Char.ofNat 107]
def w15 : List Char := [Char.ofNat 112, Char.ofNat 97, Char.ofNat 121, Char.ofNat 109, Char.ofNat 97, Char.ofNat 115, Char.ofNat 116, Char.ofNat 101, Char.ofNat 114, Char.ofNat 47, Char.ofNat 112, Char.ofNat 97, Char.ofNat 121, Char.ofNat 109, Char.ofNat 97, Char.ofNat 115, Char.ofNat 116, Char.ofNat 101, Char.ofNat 114, Char.ofNat 108, Char.ofNat 97, Char.ofNat 119, Char.ofNat 48, Char.ofNat 49, Char.ofNat 46, Char.ofNat 85, Char.ofNat 49, Char.ofNat 50, Char.ofNat 56, Char.ofNat 79, Char.ofNat 114, Char.ofNat 100, Char.ofNat 101, Char.ofNat 114]
def w16 : List Char := [Char.ofNat 112, Char.ofNat 97, Char.ofNat 121, Char.ofNat 109, Char.ofNat 97, Char.ofNat 115, Char.ofNat 116, Char.ofNat 101, Char.ofNat 114, Char.ofNat 47, Char.ofNat 112, Char.ofNat 97, Char.ofNat 121, Char.ofNat 109, Char.ofNat 97, Char.ofNat 115, Char.ofNat 116, Char.ofNat 101, Char.ofNat 114, Char.ofNat 108, Char.ofNat 97, Char.ofNat 119, Char.ofNat 48, Char.ofNat 49, Char.ofNat 46, Char.ofNat 85, Char.ofNat 49, Char.ofNat 50, Char.ofNat 56, Char.ofNat 83, Char.ofNat 117, Char.ofNat 109, Char.ofNat 115]
def w17 : List Char := [Char.ofNat 112, Char.ofNat 97, Char.ofNat 121, Char.ofNat 109, Char.ofNat 97, Char.ofNat 115, Char.ofNat 116, Char.ofNat 101, Char.ofNat 114, Char.ofNat 47, Char.ofNat 112, Char.ofNat 97, Char.ofNat 121, Char.ofNat 109, Char.ofNat 97, Char.ofNat 115, Char.ofNat 116, Char.ofNat 101, Char.ofNat 114, Char.ofNat 108, Char.ofNat 97, Char.ofNat 119, Char.ofNat 48, Char.ofNat 49, Char.ofNat 46, Char.ofNat 85, Char.ofNat 49, Char.ofNat 50, Char.ofNat 56, Char.ofNat 68, Char.ofNat 105, Char.ofNat 118, Char.ofNat 105, Char.ofNat 100, Char.ofNat 101, Char.ofNat 115]
def w18 : List Char := [Char.ofNat 112, Char.ofNat 97, Char.ofNat 121, Char.ofNat 109, Char.ofNat 97, Char.ofNat 115, Char.ofNat 116, Char.ofNat 101, Char.ofNat 114, Char.ofNat 47, Char.ofNat 112, Char.ofNat 97, Char.ofNat 121, Char.ofNat 109, Char.ofNat 97, Char.ofNat 115, Char.ofNat 116, Char.ofNat 101, Char.ofNat 114, Char.ofNat 108, Char.ofNat 97, Char.ofNat 119, Char.ofNat 48, Char.ofNat 57, Char.ofNat 46, Char.ofNat 76, Char.ofNat 105, Char.ofNat 110, Char.ofNat 101, Char.ofNat 115, Char.ofNat 74, Char.ofNat 111, Char.ofNat 105, Char.ofNat 110, Char.ofNat 115]
def w19 : List Char := [Char.ofNat 112, Char.ofNat 97, Char.ofNat 121, Char.ofNat 109, Char.ofNat 97, Char.ofNat 115, Char.ofNat 116, Char.ofNat 101, Char.ofNat 114, Char.ofNat 47, Char.ofNat 112, Char.ofNat 97, Char.ofNat 121, Char.ofNat 109, Char.ofNat 97, Char.ofNat 115, Char.ofNat 116, Char.ofNat 101, Char.ofNat 114, Char.ofNat 108, Char.ofNat 97, Char.ofNat 119, Char.ofNat 49, Char.ofNat 49, Char.ofNat 46, Char.ofNat 76, Char.ofNat 101, Char.ofNat 100, Char.ofNat 103, Char.ofNat 101, Char.ofNat 114, Char.ofNat 70, Char.ofNat 105, Char.ofNat 110, Char.ofNat 100, Char.ofNat 115]
def w20 : List Char := [Char.ofNat 112, Char.ofNat 97, Char.ofNat 121, Char.ofNat 109, Char.ofNat 97, Char.ofNat 115, Char.ofNat 116, Char.ofNat 101, Char.ofNat 114, Char.ofNat 47, Char.ofNat 112, Char.ofNat 97, Char.ofNat 121, Char.ofNat 109, Char.ofNat 97, Char.ofNat 115, Char.ofNat 116, Char.ofNat 101, Char.ofNat 114, Char.ofNat 108, Char.ofNat 97, Char.ofNat 119, Char.ofNat 48, Char.ofNat 50, Char.ofNat 46, Char.ofNat 68, Char.ofNat 101, Char.ofNat 99, Char.ofNat 105, Char.ofNat 109, Char.ofNat 97, Char.ofNat 108, Char.ofNat 84, Char.ofNat 101, Char.ofNat 120, Char.ofNat 116, Char.ofNat 115]
def w21 : List Char := [Char.ofNat 112, Char.ofNat 97, Char.ofNat 121, Char.ofNat 109, Char.ofNat 97, Char.ofNat 115, Char.ofNat 116, Char.ofNat 101, Char.ofNat 114, Char.ofNat 47, Char.ofNat 112, Char.ofNat 97, Char.ofNat 121, Char.ofNat 109, Char.ofNat 97, Char.ofNat 115, Char.ofNat 116, Char.ofNat 101, Char.ofNat 114, Char.ofNat 108, Char.ofNat 97, Char.ofNat 119, Char.ofNat 48, Char.ofNat 50, Char.ofNat 46, Char.ofNat 68, Char.ofNat 101, Char.ofNat 99, Char.ofNat 105, Char.ofNat 109, Char.ofNat 97, Char.ofNat 108, Char.ofNat 66, Char.ofNat 97, Char.ofNat 99, Char.ofNat 107]
def w22 : List Char := [Char.ofNat 112, Char.ofNat 97, Char.ofNat 121, Char.ofNat 109, Char.ofNat 97, Char.ofNat 115, Char.ofNat 116, Char.ofNat 101, Char.ofNat 114, Char.ofNat 47, Char.ofNat 112, Char.ofNat 97, Char.ofNat 121, Char.ofNat 109, Char.ofNat 97, Char.ofNat 115, Char.ofNat 116, Char.ofNat 101, Char.ofNat 114, Char.ofNat 108, Char.ofNat 97, Char.ofNat 119, Char.ofNat 48, Char.ofNat 50, Char.ofNat 46, Char.ofNat 68, Char.ofNat 101, Char.ofNat 99, Char.ofNat 105, Char.ofNat 109, Char.ofNat 97, Char.ofNat 108, Char.ofNat 80, Char.ofNat 108, Char.ofNat 97, Char.ofNat 99, Char.ofNat 101, Char.ofNat 115]
def w23 : List Char := [Char.ofNat 112, Char.ofNat 97, Char.ofNat 121, Char.ofNat 109, Char.ofNat 97, Char.ofNat 115, Char.ofNat 116, Char.ofNat 101, Char.ofNat 114, Char.ofNat 47, Char.ofNat 112, Char.ofNat 97, Char.ofNat 121, Char.ofNat 109, Char.ofNat 97, Char.ofNat 115, Char.ofNat 116, Char.ofNat 101, Char.ofNat 114, Char.ofNat 108, Char.ofNat 97, Char.ofNat 119, Char.ofNat 48, Char.ofNat 50, Char.ofNat 46, Char.ofNat 68, Char.ofNat 101, Char.ofNat 99, Char.ofNat 105, Char.ofNat 109, Char.ofNat 97, Char.ofNat 108, Char.ofNat 71, Char.ofNat 114, Char.ofNat 111, Char.ofNat 117, Char.ofNat 112, Char.ofNat 115]
def w24 : List Char := [Char.ofNat 112, Char.ofNat 97, Char.ofNat 121, Char.ofNat 109, Char.ofNat 97, Char.ofNat 115, Char.ofNat 116, Char.ofNat 101, Char.ofNat 114, Char.ofNat 47, Char.ofNat 112, Char.ofNat 97, Char.ofNat 121, Char.ofNat 109, Char.ofNat 97, Char.ofNat 115, Char.ofNat 116, Char.ofNat 101, Char.ofNat 114, Char.ofNat 108, Char.ofNat 97, Char.ofNat 119, Char.ofNat 48, Char.ofNat 50, Char.ofNat 46, Char.ofNat 68, Char.ofNat 101, Char.ofNat 99, Char.ofNat 105, Char.ofNat 109, Char.ofNat 97, Char.ofNat 108, Char.ofNat 79, Char.ofNat 114, Char.ofNat 100, Char.ofNat 101, Char.ofNat 114]
def words : List (List Char) := [w0, w1, w2, w3, w4, w5, w6, w7, w8, w9, w10, w11, w12, w13, w14, w15, w16, w17, w18, w19, w20, w21, w22, w23, w24]
def wordsB : List (List Char) := [w2, w3, w4, w5, w6, w7, w8, w9, w10, w11, w12, w13, w14, w15, w16, w17, w18, w19, w20, w21, w22, w23, w24]
theorem head_is : Try.prog.initOrder = String.ofList signs := by kernel_rfl
theorem head_signs : Try.prog.initOrder.toList = signs := by rw [head_is]; exact String.toList_ofList
theorem words_is : wordsSigns signs = words := by kernel_rfl
theorem tl_gc : "gc".toList = [Char.ofNat 103, Char.ofNat 99] := String.toList_ofList
theorem tl_spec : "spec".toList = [Char.ofNat 115, Char.ofNat 112, Char.ofNat 101, Char.ofNat 99] := String.toList_ofList
theorem tl_carried : "carried".toList = [Char.ofNat 99, Char.ofNat 97, Char.ofNat 114, Char.ofNat 114, Char.ofNat 105, Char.ofNat 101, Char.ofNat 100] := String.toList_ofList
theorem tl_cut : "cut".toList = [Char.ofNat 99, Char.ofNat 117, Char.ofNat 116] := String.toList_ofList
theorem behind_is : behindMainWord words = wordsB := by kernel_rfl
theorem strip_is : stripLifts liftWords wordsB = ([], wordsB) := by kernel_rfl
theorem door_is : Try.prog.doorFits [] = true := by kernel_rfl
theorem later_is : Try.prog.laysLater = false := by kernel_rfl
theorem refl_is : Try.prog.bearsReflect = false := by kernel_rfl
theorem ne_gc : ("cut".toList == "gc".toList) = false := by rw [tl_cut, tl_gc]; decide
theorem ne_spec : ("cut".toList == "spec".toList) = false := by rw [tl_cut, tl_spec]; decide
theorem ne_carried : ("cut".toList == "carried".toList) = false := by rw [tl_cut, tl_carried]; decide
theorem mayEnter_of (P : Program) (rest : List (List Char)) (h : behindMainWord (wordsSigns P.initOrder.toList) = "cut".toList :: rest) (hs : stripLifts liftWords ("cut".toList :: rest) = ([], "cut".toList :: rest)) (hd : P.doorFits [] = true) (hl : P.laysLater = false) (hr : P.bearsReflect = false) : P.mayEnter = true := by
  unfold Program.mayEnter
  rw [h]
  simp only [hs, hd, hl, hr, ne_gc, ne_spec, ne_carried, List.head?_cons]
  simp
theorem make_of (P : Program) (rest : List (List Char)) (h : behindMainWord (wordsSigns P.initOrder.toList) = "cut".toList :: rest) : P.make = some .cut := by
  unfold Program.make
  rw [h]
  simp only [ne_gc, ne_spec]
  simp
theorem headLifts_of (P : Program) (rest : List (List Char)) (h : behindMainWord (wordsSigns P.initOrder.toList) = "cut".toList :: rest) (hs : stripLifts liftWords ("cut".toList :: rest) = ([], "cut".toList :: rest)) : P.headLifts = [] := by
  unfold Program.headLifts
  rw [h, hs]
  simp
theorem liftsFinal_of (P : Program) (rest : List (List Char)) (h : behindMainWord (wordsSigns P.initOrder.toList) = "cut".toList :: rest) (hl : P.headLifts = []) : P.liftsFinal = false := by
  unfold Program.liftsFinal
  rw [h, hl]
  simp only [List.head?_cons]
  have e : (some "cut".toList == some "carried".toList) = false := by
    show ("cut".toList == "carried".toList) = false
    exact ne_carried
  rw [e]
  simp
def wordsR : List (List Char) := [w3, w4, w5, w6, w7, w8, w9, w10, w11, w12, w13, w14, w15, w16, w17, w18, w19, w20, w21, w22, w23, w24]
theorem behind_all : behindMainWord (wordsSigns Try.prog.initOrder.toList) = "cut".toList :: wordsR := by rw [head_signs, words_is, behind_is, tl_cut]; rfl
theorem strip_all : stripLifts liftWords ("cut".toList :: wordsR) = ([], "cut".toList :: wordsR) := by rw [tl_cut]; exact strip_is
theorem mayEnter : Try.prog.mayEnter = true := mayEnter_of _ wordsR behind_all strip_all door_is later_is refl_is
theorem headLifts : Try.prog.headLifts = [] := headLifts_of _ wordsR behind_all strip_all
theorem liftsFinal : Try.prog.liftsFinal = false := liftsFinal_of _ wordsR behind_all headLifts
theorem make : Try.prog.make = some .cut := make_of _ wordsR behind_all
end Go.Proofs.Ytpkjpiphjdpegaa.Facts
namespace Go.Proofs.Ytpkjpiphjdpegaa.P
open Go.RowKit Go.Proofs.YtpkjpiphjdpegaaW.PrintWords Go.Proofs.YtpkjpiphjdpegaaW.PrintLast Go.Proofs.YtpkjpiphjdpegaaW.PrintMore
set_option linter.unusedVariables false
set_option linter.unusedSimpArgs false
theorem wi (x : Int) (h0 : -9223372036854775808 ≤ x) (h1 : x < 9223372036854775808) : wrap64 x = x := by unfold wrap64; omega
def hf (a b c d : Int) : Int := ((d * 65536 + c) * 65536 + b) * 65536 + a
end Go.Proofs.Ytpkjpiphjdpegaa.P
namespace Go.Proofs.Ytpkjpiphjdpegaa.P
open Go.RowKit Go.Proofs.YtpkjpiphjdpegaaW.PrintWords Go.Proofs.YtpkjpiphjdpegaaW.PrintLast Go.Proofs.YtpkjpiphjdpegaaW.PrintMore
set_option linter.unusedVariables false
set_option linter.unusedSimpArgs false
theorem quot_le {y Q R T q : Int} (hy : 0 < y) (e : Q * y + R = T) (hR : R < y) (h : q * y ≤ T) : q ≤ Q := by
  rcases Int.lt_or_le Q q with h1 | h1
  · have h2 : Q + 1 ≤ q := h1
    have := Int.mul_le_mul_of_nonneg_right h2 (Int.le_of_lt hy)
    rw [Int.add_mul, Int.one_mul] at this
    omega
  · exact h1
structure Est (x2 v1 v0 u d Q R : Int) : Prop where
  hy : x2 = v1 * 4294967296 + v0
  v1l : 2147483648 ≤ v1
  v1u : v1 < 4294967296
  v0l : 0 ≤ v0
  v0u : v0 < 4294967296
  dl : 0 ≤ d
  du : d < 4294967296
  ul : 0 ≤ u
  hQ : Q * x2 + R = u * 4294967296 + d
  Rl : 0 ≤ R
  Ru : R < x2
  Ql : 0 ≤ Q
  Qu : Q < 4294967296
theorem Est.made {x2 v1 v0 u d Q R q rh : Int} (h : Est x2 v1 v0 u d Q R) (e : q * v1 + rh = u) : q * x2 = (u - rh) * 4294967296 + q * v0 := by
  rw [h.hy, Int.mul_add, ← Int.mul_assoc, show q * v1 = u - rh by omega]
theorem Est.pos {x2 v1 v0 u d Q R : Int} (h : Est x2 v1 v0 u d Q R) : 0 < x2 := by
  have := h.hy
  have := h.v1l
  have := h.v0l
  omega
theorem Est.over {x2 v1 v0 u d Q R q rh : Int} (h : Est x2 v1 v0 u d Q R) (e : q * v1 + rh = u) (hq : Q ≤ q) (hq' : q ≤ 4294967296) (t : rh ≥ 4294967296) : q = Q := by
  have m := h.made e
  have h0 : 0 ≤ q := by
    have := h.Ql
    omega
  have w : q * v0 ≤ 4294967296 * v0 := Int.mul_le_mul_of_nonneg_right hq' h.v0l
  have := h.v0u
  have := h.dl
  have := quot_le h.pos h.hQ h.Ru (q := q) (by omega)
  omega
end Go.Proofs.Ytpkjpiphjdpegaa.P
namespace Go.Proofs.Ytpkjpiphjdpegaa.P
open Go.RowKit Go.Proofs.YtpkjpiphjdpegaaW.PrintWords Go.Proofs.YtpkjpiphjdpegaaW.PrintLast Go.Proofs.YtpkjpiphjdpegaaW.PrintMore
set_option linter.unusedVariables false
set_option linter.unusedSimpArgs false
theorem Est.first {x2 v1 v0 u d Q R : Int} (h : Est x2 v1 v0 u d Q R) : Q ≤ u / v1 ∧ u / v1 ≤ 4294967297 ∧ u / v1 * v1 + u % v1 = u ∧ 0 ≤ u % v1 ∧ u % v1 < 4294967296 := by
  obtain ⟨hy, v1l, v1u, v0l, v0u, dl, du, ul, hQ, Rl, Ru, Ql, Qu⟩ := h
  have e : Q * x2 = Q * v1 * 4294967296 + Q * v0 := by rw [hy, Int.mul_add, ← Int.mul_assoc]
  have w := Int.mul_nonneg Ql v0l
  have hv : 0 < v1 := by omega
  have q1 := Int.emod_lt_of_pos u hv
  have q0 := Int.emod_nonneg u (show v1 ≠ 0 by omega)
  have hm : Q * x2 ≤ 4294967295 * x2 := Int.mul_le_mul_of_nonneg_right (by omega) (by omega)
  have hlt : u < 4294967298 * v1 := by omega
  have := Int.ediv_lt_of_lt_mul hv hlt
  exact ⟨Int.le_ediv_of_mul_le hv (by omega), by omega, Int.ediv_mul_add_emod _ _, q0, by omega⟩
end Go.Proofs.Ytpkjpiphjdpegaa.P
namespace Go.Proofs.Ytpkjpiphjdpegaa.P
open Go.RowKit Go.Proofs.YtpkjpiphjdpegaaW.PrintWords Go.Proofs.YtpkjpiphjdpegaaW.PrintLast Go.Proofs.YtpkjpiphjdpegaaW.PrintMore
set_option linter.unusedVariables false
set_option linter.unusedSimpArgs false
def nb (s : ByteArray) : List Int := s.data.toList.map fun x => (x.toNat : Int)
theorem nb_length (s : ByteArray) : (nb s).length = s.size := by
  unfold nb
  rw [List.length_map]
  rfl
theorem bt_nb (s : ByteArray) (i : Nat) : bt s (i : Int) = (nb s).getD i 0 := by
  unfold bt nb
  rw [List.getD_eq_getElem?_getD, List.getElem?_map]
  by_cases h : i < s.size
  · have h' : ((i : Int)).toNat < s.size := by omega
    rw [dif_pos h', List.getElem?_eq_getElem (by simpa using h)]
    simp only [Option.map_some, Option.getD_some, Array.getElem_toList]
    rfl
  · have h' : ¬ ((i : Int)).toNat < s.size := by omega
    rw [dif_neg h', List.getElem?_eq_none (by simpa using Nat.le_of_not_lt h)]
    rfl
end Go.Proofs.Ytpkjpiphjdpegaa.P
