/- A program of this session wrote this text out of the session's own texts. (part 2 of 3) -/
import Derived.Test.YtpkjpiphjdpegaaCU128Times1
import Derived.Test.YtpkjpiphjdpegaaProg
import Derived.Below
import Derived.Deep.Draws
import Derived.Deep.AppendLies
import Derived.Maps.AppendAt
import Derived.OwnWalk
import Derived.Laws.BytesArg
import Derived.Laws.MakeOwn
import Derived.Laws.OwnMore
import Derived.Deep.OwnRows
import Derived.Tactics
import Derived.Lib.ConvBytes
import Derived.Laws.Slices
import Derived.WalkKit
import Derived.KernelRfl
import Derived.RowKit3
import Derived.Deep.LoopGhost
import Derived.Deep.QuietTactic
import Derived.BigQuiet
import Derived.WideLaws
import Derived.Deep.DeepCutAuto
import Derived.Deep.CutBlock
import Derived.Deep.RegionHeld3
import Derived.Laws.Rows
import Derived.Lib.AppendStr
import Derived.ArgAppend
import Derived.Laws.IdiomCopy
import Derived.OrdersHeld
import Derived.Laws.BitsLemmas
import Derived.RowKit
import Derived.Laws.Externs
import Derived.Shelf.Spec.BitsCarry
import Derived.ProofKit
import Derived.OpenShut
import Derived.ShutString
import Derived.ChangeOld
import Derived.SizedLaws
import Derived.Carry
import Derived.Deep.Slices
import Derived.JoinedOf
import Derived.Laws.Bits64
import Derived.Laws.Bits64b
import Derived.Shelf.Bits.Mul64
import Derived.Lib.Mul64
import Derived.Test.YtpkjpiphjdpegaaRows
namespace Go.Proofs.Ytpkjpiphjdpegaa.P
open Go.RowKit Go.Proofs.YtpkjpiphjdpegaaW.PrintWords Go.Proofs.YtpkjpiphjdpegaaW.PrintLast Go.Proofs.YtpkjpiphjdpegaaW.PrintMore
attribute [local go_sem] max2_int min2_int max_two min_two max_three min_three max_four min_four
set_option linter.unusedVariables false
set_option linter.unusedSimpArgs false
def errW : Option Int → Value
  | none => .nilIface
  | some c => .iface 0 (.int .i64 c)
theorem errW_none : errW none = .nilIface := rfl
theorem errW_some (c : Int) : errW (some c) = .iface 0 (.int .i64 c) := rfl
theorem info23 : (Try.prog.info? 23).map (fun i => (i.zero, i.size, i.bytes)) = some (some (.int .u64 0), 1, 8) := by kernel_rfl
end Go.Proofs.Ytpkjpiphjdpegaa.P
namespace Go.Proofs.Ytpkjpiphjdpegaa.P
open Go.RowKit Go.Proofs.YtpkjpiphjdpegaaW.PrintWords Go.Proofs.YtpkjpiphjdpegaaW.PrintLast Go.Proofs.YtpkjpiphjdpegaaW.PrintMore
set_option linter.unusedVariables false
set_option linter.unusedSimpArgs false
abbrev U64 (x : Int) : Prop := 0 ≤ x ∧ x < 18446744073709551616
def val (hi lo : Int) : Int := hi * 18446744073709551616 + lo
def hiOf (n : Int) : Int := n / 18446744073709551616
def loOf (n : Int) : Int := n % 18446744073709551616
def m128 : Int := 340282366920938463463374607431768211456
theorem call_add64 (x y c : Int) (hx : 0 ≤ x) (hy : 0 ≤ y) (hc0 : 0 ≤ c) (hc : c ≤ 1) (w : World) :
    (callFunc 85 #[.int .u64 x, .int .u64 y, .int .u64 c]).run Try.prog w =
      .ok (.value (.tuple #[.int .u64 ((x + y + c) % 18446744073709551616), .int .u64 ((x + y + c) / 18446744073709551616)])) w := by
  rw [run_callFunc_extern Try.func85 (by kernel_rfl) (by kernel_rfl) (by kernel_rfl) (e := add64Entry) (by kernel_rfl), run_add64 x y c hx hy hc0 hc]
  rfl
end Go.Proofs.Ytpkjpiphjdpegaa.P
namespace Go.Proofs.Ytpkjpiphjdpegaa.P
open Go.RowKit Go.ChangeShapes Go.WideShapes Go.Deep Go.Proofs.YtpkjpiphjdpegaaW.PrintWords Go.Proofs.YtpkjpiphjdpegaaW.PrintLast Go.Proofs.YtpkjpiphjdpegaaW.PrintMore
set_option linter.unusedVariables false
set_option linter.unusedSimpArgs false
theorem len2 {α : Type} {l : List α} (h : l.length = 2) : ∃ a b, l = [a, b] := by
  match l, h with
  | [a, b], _ => exact ⟨a, b, rfl⟩
section
variable {H : Type} {enc : TypeId × Value → H} {w : World} {base : Nat} {spare : Nat → Bool} {held : Bool}

theorem wf_u64 {n : Int} (h : (Lit.int .u64 n).wf = true) : U64 n := by
  have := bounds_u64 h
  constructor <;> omega
theorem cells25 : Try.prog.cellsOf 25 = 2 := by kernel_rfl
theorem cells23 : Try.prog.cellsOf 23 = 1 := by kernel_rfl
set_option maxRecDepth 100000 in
theorem came25 {n : Nat} {cs : List Value} {x : DataW H × List MemPlace} (h : DataW.trod enc Try.prog w base spare held n 25 cs = some x) :
    ∃ a b : Int, cs = [.int .u64 a, .int .u64 b] ∧ U64 a ∧ U64 b := by
  obtain ⟨xs, m, _, _, hl, hxl, hf⟩ := DataW.trod_struct Try.underlying25 h
  rw [cells25] at hl
  obtain ⟨c0, c1, rfl⟩ := len2 hl
  obtain ⟨y0, y1, rfl⟩ := len2 (show xs.length = 2 from hxl)
  have h0 : DataW.trod enc Try.prog w base spare held m 23 (List.take (Try.prog.cellsOf 23) (List.drop 0 [c0, c1])) = some y0 := hf 0 _ rfl
  have h1 : DataW.trod enc Try.prog w base spare held m 23 (List.take (Try.prog.cellsOf 23) (List.drop 1 [c0, c1])) = some y1 := hf 1 _ rfl
  rw [cells23] at h0 h1
  obtain ⟨a, ea, _, wa⟩ := DataW.trod_int Try.underlying23 (x := y0) h0
  obtain ⟨b, eb, _, wb⟩ := DataW.trod_int Try.underlying23 (x := y1) h1
  simp at ea eb
  subst ea eb
  exact ⟨a, b, rfl, wf_u64 wa, wf_u64 wb⟩
set_option maxRecDepth 100000 in
theorem arg_25 {r : Reach} {b0 : Nat} {v : Value} {D : DataW H} {p : List MemPlace} (hv : Value.okWide Try.prog w r b0 25 v) (h : DataW.Trod enc Try.prog w base spare held 25 v D p) :
    ∃ a b : Int, v = .agg #[.int .u64 a, .int .u64 b] ∧ U64 a ∧ U64 b := by
  obtain ⟨cs, rfl, _⟩ := okWide_struct Try.underlying25 hv
  obtain ⟨fuel, hf⟩ := h
  obtain ⟨a, b, e, ha, hb⟩ := came25 hf
  refine ⟨a, b, ?_, ha, hb⟩
  obtain ⟨l⟩ := cs
  simp [Value.cells] at e
  rw [e]
set_option maxRecDepth 100000 in
theorem arg_int {r : Reach} {b0 : Nat} {t : TypeId} {k : IntKind} {v : Value} {D : DataW H} {p : List MemPlace} (ht : Try.prog.underlying t = some (.int k)) (hv : Value.okWide Try.prog w r b0 t v) (h : DataW.Trod enc Try.prog w base spare held t v D p) :
    ∃ a : Int, v = .int k a ∧ (Lit.int k a).wf = true := by
  obtain ⟨a, h1, _, _, h2⟩ := open_int ht hv h
  exact ⟨a, h1, h2⟩
set_option maxRecDepth 100000 in
theorem args_back {P : Program} (hl : laidOutB P = true) {W W' : World} (hb : Below W.heap.size W W') : ∀ {ts : List TypeId} {vs : List Value} {ds : List (DataW H)} {p : List MemPlace},
    (ts.all fun t => P.readableRec t && decide (t < P.types.size)) = true → DataW.TrodAll enc P W 0 (fun _ => true) true ts vs ds p → DataW.TrodAll enc P W' 0 (fun b => decide (b < W.heap.size)) true ts vs ds p
  | [], vs, ds, p, _, h => by
    obtain ⟨rfl, rfl, rfl⟩ := trodAll_nil h
    exact trodAll_mk0
  | t :: ts, vs, ds, p, hg, h => by
    obtain ⟨v, vs', d, ds', p', q, rfl, rfl, rfl, h0, r⟩ := trodAll_cons h
    simp only [List.all_cons, Bool.and_eq_true, decide_eq_true_eq] at hg
    exact trodAll_cons_mk (Below.trod hl hg.1.1 hg.1.2 h0 hb (fun x hx => by
      obtain ⟨m, hm⟩ := h0
      exact DataW.trod_lt m _ _ _ hm x hx)) (args_back hl hb hg.2 r)
end
end Go.Proofs.Ytpkjpiphjdpegaa.P
namespace Go.Proofs.Ytpkjpiphjdpegaa.Facts
open Go
def signs : List Char := [Char.ofNat 104, Char.ofNat 97, Char.ofNat 114, Char.ofNat 110, Char.ofNat 101, Char.ofNat 115, Char.ofNat 115, Char.ofNat 32, Char.ofNat 97, Char.ofNat 102, Char.ofNat 97, Char.ofNat 57, Char.ofNat 52, Char.ofNat 98, Char.ofNat 50, Char.ofNat 97, Char.ofNat 97, Char.ofNat 57, Char.ofNat 48, Char.ofNat 98, Char.ofNat 100, Char.ofNat 55, Char.ofNat 98, Char.ofNat 99, Char.ofNat 57, Char.ofNat 100, Char.ofNat 54, Char.ofNat 52, Char.ofNat 56, Char.ofNat 99, Char.ofNat 56, Char.ofNat 52, Char.ofNat 51, Char.ofNat 48, Char.ofNat 98, Char.ofNat 99, Char.ofNat 48, Char.ofNat 100, Char.ofNat 102, Char.ofNat 48, Char.ofNat 98, Char.ofNat 49, Char.ofNat 56, Char.ofNat 48, Char.ofNat 54, Char.ofNat 98, Char.ofNat 49, Char.ofNat 53, Char.ofNat 56, Char.ofNat 48, Char.ofNat 101, Char.ofNat 53, Char.ofNat 56, Char.ofNat 52, Char.ofNat 51, Char.ofNat 55, Char.ofNat 54, Char.ofNat 55, Char.ofNat 99, Char.ofNat 49, Char.ofNat 53, Char.ofNat 56, Char.ofNat 100, Char.ofNat 57, Char.ofNat 99, Char.ofNat 52, Char.ofNat 50, Char.ofNat 100, Char.ofNat 49, Char.ofNat 57, Char.ofNat 98, Char.ofNat 52, Char.ofNat 32, Char.ofNat 99, Char.ofNat 117, Char.ofNat 116, Char.ofNat 32, Char.ofNat 97, Char.ofNat 116, Char.ofNat 32, Char.ofNat 112, Char.ofNat 97, Char.ofNat 121, Char.ofNat 109, Char.ofNat 97, Char.ofNat 115, Char.ofNat 116, Char.ofNat 101, Char.ofNat 114, Char.ofNat 47, Char.ofNat 112, Char.ofNat 97, Char.ofNat 121, Char.ofNat 109, Char.ofNat 97, Char.ofNat 115, Char.ofNat 116, Char.ofNat 101, Char.ofNat 114, Char.ofNat 108, Char.ofNat 97, Char.ofNat 119, Char.ofNat 48, Char.ofNat 51, Char.ofNat 46, Char.ofNat 87, Char.ofNat 105, Char.ofNat 100, Char.ofNat 101, Char.ofNat 65, Char.ofNat 108, Char.ofNat 108, Char.ofNat 32, Char.ofNat 112, Char.ofNat 97, Char.ofNat 121, Char.ofNat 109, Char.ofNat 97, Char.ofNat 115, Char.ofNat 116, Char.ofNat 101, Char.ofNat 114, Char.ofNat 47, Char.ofNat 112, Char.ofNat 97, Char.ofNat 121, Char.ofNat 109, Char.ofNat 97, Char.ofNat 115, Char.ofNat 116, Char.ofNat 101, Char.ofNat 114, Char.ofNat 108, Char.ofNat 97, Char.ofNat 119, Char.ofNat 48, Char.ofNat 49, Char.ofNat 46, Char.ofNat 85, Char.ofNat 49, Char.ofNat 50, Char.ofNat 56, Char.ofNat 66, Char.ofNat 121, Char.ofNat 116, Char.ofNat 101, Char.ofNat 115, Char.ofNat 32, Char.ofNat 112, Char.ofNat 97, Char.ofNat 121, Char.ofNat 109, Char.ofNat 97, Char.ofNat 115, Char.ofNat 116, Char.ofNat 101, Char.ofNat 114, Char.ofNat 47, Char.ofNat 112, Char.ofNat 97, Char.ofNat 121, Char.ofNat 109, Char.ofNat 97, Char.ofNat 115, Char.ofNat 116, Char.ofNat 101, Char.ofNat 114, Char.ofNat 108, Char.ofNat 97, Char.ofNat 119, Char.ofNat 48, Char.ofNat 51, Char.ofNat 46, Char.ofNat 87, Char.ofNat 105, Char.ofNat 100, Char.ofNat 101, Char.ofNat 65, Char.ofNat 100, Char.ofNat 100, Char.ofNat 115, Char.ofNat 32, Char.ofNat 112, Char.ofNat 97, Char.ofNat 121, Char.ofNat 109, Char.ofNat 97, Char.ofNat 115, Char.ofNat 116, Char.ofNat 101, Char.ofNat 114, Char.ofNat 47, Char.ofNat 112, Char.ofNat 97, Char.ofNat 121, Char.ofNat 109, Char.ofNat 97, Char.ofNat 115, Char.ofNat 116, Char.ofNat 101, Char.ofNat 114, Char.ofNat 108, Char.ofNat 97, Char.ofNat 119, Char.ofNat 48, Char.ofNat 49, Char.ofNat 46, Char.ofNat 85, Char.ofNat 49, Char.ofNat 50, Char.ofNat 56, Char.ofNat 65, Char.ofNat 100, Char.ofNat 100, Char.ofNat 115, Char.ofNat 32, Char.ofNat 112, Char.ofNat 97, Char.ofNat 121, Char.ofNat 109, Char.ofNat 97, Char.ofNat 115, Char.ofNat 116, Char.ofNat 101, Char.ofNat 114, Char.ofNat 47, Char.ofNat 112, Char.ofNat 97, Char.ofNat 121, Char.ofNat 109, Char.ofNat 97, Char.ofNat 115, Char.ofNat 116, Char.ofNat 101, Char.ofNat 114, Char.ofNat 108, Char.ofNat 97, Char.ofNat 119, Char.ofNat 48, Char.ofNat 51, Char.ofNat 46, Char.ofNat 87, Char.ofNat 105, Char.ofNat 100, Char.ofNat 101, Char.ofNat 79, Char.ofNat 114, Char.ofNat 100, Char.ofNat 101, Char.ofNat 114, Char.ofNat 115, Char.ofNat 32, Char.ofNat 112, Char.ofNat 97, Char.ofNat 121, Char.ofNat 109, Char.ofNat 97, Char.ofNat 115, Char.ofNat 116, Char.ofNat 101, Char.ofNat 114, Char.ofNat 47, Char.ofNat 112, Char.ofNat 97, Char.ofNat 121, Char.ofNat 109, Char.ofNat 97, Char.ofNat 115, Char.ofNat 116, Char.ofNat 101, Char.ofNat 114, Char.ofNat 108, Char.ofNat 97, Char.ofNat 119, Char.ofNat 48, Char.ofNat 51, Char.ofNat 46, Char.ofNat 87, Char.ofNat 105, Char.ofNat 100, Char.ofNat 101, Char.ofNat 67, Char.ofNat 111, Char.ofNat 109, Char.ofNat 112, Char.ofNat 97, Char.ofNat 114, Char.ofNat 101, Char.ofNat 115, Char.ofNat 32, Char.ofNat 112, Char.ofNat 97, Char.ofNat 121, Char.ofNat 109, Char.ofNat 97, Char.ofNat 115, Char.ofNat 116, Char.ofNat 101, Char.ofNat 114, Char.ofNat 47, Char.ofNat 112, Char.ofNat 97, Char.ofNat 121, Char.ofNat 109, Char.ofNat 97, Char.ofNat 115, Char.ofNat 116, Char.ofNat 101, Char.ofNat 114, Char.ofNat 108, Char.ofNat 97, Char.ofNat 119, Char.ofNat 48, Char.ofNat 51, Char.ofNat 46, Char.ofNat 87, Char.ofNat 105, Char.ofNat 100, Char.ofNat 101, Char.ofNat 66, Char.ofNat 97, Char.ofNat 108, Char.ofNat 97, Char.ofNat 110, Char.ofNat 99, Char.ofNat 101, Char.ofNat 100, Char.ofNat 32, Char.ofNat 112, Char.ofNat 97, Char.ofNat 121, Char.ofNat 109, Char.ofNat 97, Char.ofNat 115, Char.ofNat 116, Char.ofNat 101, Char.ofNat 114, Char.ofNat 47, Char.ofNat 112, Char.ofNat 97, Char.ofNat 121, Char.ofNat 109, Char.ofNat 97, Char.ofNat 115, Char.ofNat 116, Char.ofNat 101, Char.ofNat 114, Char.ofNat 108, Char.ofNat 97, Char.ofNat 119, Char.ofNat 48, Char.ofNat 49, Char.ofNat 46, Char.ofNat 85, Char.ofNat 49, Char.ofNat 50, Char.ofNat 56, Char.ofNat 84, Char.ofNat 105, Char.ofNat 109, Char.ofNat 101, Char.ofNat 115, Char.ofNat 32, Char.ofNat 112, Char.ofNat 97, Char.ofNat 121, Char.ofNat 109, Char.ofNat 97, Char.ofNat 115, Char.ofNat 116, Char.ofNat 101, Char.ofNat 114, Char.ofNat 47, Char.ofNat 112, Char.ofNat 97, Char.ofNat 121, Char.ofNat 109, Char.ofNat 97, Char.ofNat 115, Char.ofNat 116, Char.ofNat 101, Char.ofNat 114, Char.ofNat 108, Char.ofNat 97, Char.ofNat 119, Char.ofNat 48, Char.ofNat 51, Char.ofNat 46, Char.ofNat 87, Char.ofNat 105, Char.ofNat 100, Char.ofNat 101, Char.ofNat 78, Char.ofNat 97, Char.ofNat 114, Char.ofNat 114, Char.ofNat 111, Char.ofNat 119, Char.ofNat 32, Char.ofNat 112, Char.ofNat 97, Char.ofNat 121, Char.ofNat 109, Char.ofNat 97, Char.ofNat 115, Char.ofNat 116, Char.ofNat 101, Char.ofNat 114, Char.ofNat 47, Char.ofNat 112, Char.ofNat 97, Char.ofNat 121, Char.ofNat 109, Char.ofNat 97, Char.ofNat 115, Char.ofNat 116, Char.ofNat 101, Char.ofNat 114, Char.ofNat 108, Char.ofNat 97, Char.ofNat 119, Char.ofNat 48, Char.ofNat 50, Char.ofNat 46, Char.ofNat 68, Char.ofNat 101, Char.ofNat 99, Char.ofNat 105, Char.ofNat 109, Char.ofNat 97, Char.ofNat 108, Char.ofNat 68, Char.ofNat 105, Char.ofNat 103, Char.ofNat 105, Char.ofNat 116, Char.ofNat 115, Char.ofNat 32, Char.ofNat 112, Char.ofNat 97, Char.ofNat 121, Char.ofNat 109, Char.ofNat 97, Char.ofNat 115, Char.ofNat 116, Char.ofNat 101, Char.ofNat 114, Char.ofNat 47, Char.ofNat 112, Char.ofNat 97, Char.ofNat 121, Char.ofNat 109, Char.ofNat 97, Char.ofNat 115, Char.ofNat 116, Char.ofNat 101, Char.ofNat 114, Char.ofNat 108, Char.ofNat 97, Char.ofNat 119, Char.ofNat 48, Char.ofNat 49, Char.ofNat 46, Char.ofNat 85, Char.ofNat 49, Char.ofNat 50, Char.ofNat 56, Char.ofNat 66, Char.ofNat 97, Char.ofNat 99, Char.ofNat 107, Char.ofNat 32, Char.ofNat 112, Char.ofNat 97, Char.ofNat 121, Char.ofNat 109, Char.ofNat 97, Char.ofNat 115, Char.ofNat 116, Char.ofNat 101, Char.ofNat 114, Char.ofNat 47, Char.ofNat 112, Char.ofNat 97, Char.ofNat 121, Char.ofNat 109, Char.ofNat 97, Char.ofNat 115, Char.ofNat 116, Char.ofNat 101, Char.ofNat 114, Char.ofNat 108, Char.ofNat 97, Char.ofNat 119, Char.ofNat 48, Char.ofNat 49, Char.ofNat 46, Char.ofNat 85, Char.ofNat 49, Char.ofNat 50, Char.ofNat 56, Char.ofNat 79, Char.ofNat 114, Char.ofNat 100, Char.ofNat 101, Char.ofNat 114, Char.ofNat 32, Char.ofNat 112, Char.ofNat 97, Char.ofNat 121, Char.ofNat 109, Char.ofNat 97, Char.ofNat 115, Char.ofNat 116, Char.ofNat 101, Char.ofNat 114, Char.ofNat 47, Char.ofNat 112, Char.ofNat 97, Char.ofNat 121, Char.ofNat 109, Char.ofNat 97, Char.ofNat 115, Char.ofNat 116, Char.ofNat 101, Char.ofNat 114, Char.ofNat 108, Char.ofNat 97, Char.ofNat 119, Char.ofNat 48, Char.ofNat 49, Char.ofNat 46, Char.ofNat 85, Char.ofNat 49, Char.ofNat 50, Char.ofNat 56, Char.ofNat 83, Char.ofNat 117, Char.ofNat 109, Char.ofNat 115, Char.ofNat 32, Char.ofNat 112, Char.ofNat 97, Char.ofNat 121, Char.ofNat 109, Char.ofNat 97, Char.ofNat 115, Char.ofNat 116, Char.ofNat 101, Char.ofNat 114, Char.ofNat 47, Char.ofNat 112, Char.ofNat 97, Char.ofNat 121, Char.ofNat 109, Char.ofNat 97, Char.ofNat 115, Char.ofNat 116, Char.ofNat 101, Char.ofNat 114, Char.ofNat 108, Char.ofNat 97, Char.ofNat 119, Char.ofNat 48, Char.ofNat 49, Char.ofNat 46, Char.ofNat 85, Char.ofNat 49, Char.ofNat 50, Char.ofNat 56, Char.ofNat 68, Char.ofNat 105, Char.ofNat 118, Char.ofNat 105, Char.ofNat 100, Char.ofNat 101, Char.ofNat 115, Char.ofNat 32, Char.ofNat 112, Char.ofNat 97, Char.ofNat 121, Char.ofNat 109, Char.ofNat 97, Char.ofNat 115, Char.ofNat 116, Char.ofNat 101, Char.ofNat 114, Char.ofNat 47, Char.ofNat 112, Char.ofNat 97, Char.ofNat 121, Char.ofNat 109, Char.ofNat 97, Char.ofNat 115, Char.ofNat 116, Char.ofNat 101, Char.ofNat 114, Char.ofNat 108, Char.ofNat 97, Char.ofNat 119, Char.ofNat 48, Char.ofNat 57, Char.ofNat 46, Char.ofNat 76, Char.ofNat 105, Char.ofNat 110, Char.ofNat 101, Char.ofNat 115, Char.ofNat 74, Char.ofNat 111, Char.ofNat 105, Char.ofNat 110, Char.ofNat 115, Char.ofNat 32, Char.ofNat 112, Char.ofNat 97, Char.ofNat 121, Char.ofNat 109, Char.ofNat 97, Char.ofNat 115, Char.ofNat 116, Char.ofNat 101, Char.ofNat 114, Char.ofNat 47, Char.ofNat 112, Char.ofNat 97, Char.ofNat 121, Char.ofNat 109, Char.ofNat 97, Char.ofNat 115, Char.ofNat 116, Char.ofNat 101, Char.ofNat 114, Char.ofNat 108, Char.ofNat 97, Char.ofNat 119, Char.ofNat 49, Char.ofNat 49, Char.ofNat 46, Char.ofNat 76, Char.ofNat 101, Char.ofNat 100, Char.ofNat 103, Char.ofNat 101, Char.ofNat 114, Char.ofNat 70, Char.ofNat 105, Char.ofNat 110, Char.ofNat 100, Char.ofNat 115, Char.ofNat 32, Char.ofNat 112, Char.ofNat 97, Char.ofNat 121, Char.ofNat 109, Char.ofNat 97, Char.ofNat 115, Char.ofNat 116, Char.ofNat 101, Char.ofNat 114, Char.ofNat 47, Char.ofNat 112, Char.ofNat 97, Char.ofNat 121, Char.ofNat 109, Char.ofNat 97, Char.ofNat 115, Char.ofNat 116, Char.ofNat 101, Char.ofNat 114, Char.ofNat 108, Char.ofNat 97, Char.ofNat 119, Char.ofNat 48, Char.ofNat 50, Char.ofNat 46, Char.ofNat 68, Char.ofNat 101, Char.ofNat 99, Char.ofNat 105, Char.ofNat 109, Char.ofNat 97, Char.ofNat 108, Char.ofNat 84, Char.ofNat 101, Char.ofNat 120, Char.ofNat 116, Char.ofNat 115, Char.ofNat 32, Char.ofNat 112, Char.ofNat 97, Char.ofNat 121, Char.ofNat 109, Char.ofNat 97, Char.ofNat 115, Char.ofNat 116, Char.ofNat 101, Char.ofNat 114, Char.ofNat 47, Char.ofNat 112, Char.ofNat 97, Char.ofNat 121, Char.ofNat 109, Char.ofNat 97, Char.ofNat 115, Char.ofNat 116, Char.ofNat 101, Char.ofNat 114, Char.ofNat 108, Char.ofNat 97, Char.ofNat 119, Char.ofNat 48, Char.ofNat 50, Char.ofNat 46, Char.ofNat 68, Char.ofNat 101, Char.ofNat 99, Char.ofNat 105, Char.ofNat 109, Char.ofNat 97, Char.ofNat 108, Char.ofNat 66, Char.ofNat 97, Char.ofNat 99, Char.ofNat 107, Char.ofNat 32, Char.ofNat 112, Char.ofNat 97, Char.ofNat 121, Char.ofNat 109, Char.ofNat 97, Char.ofNat 115, Char.ofNat 116, Char.ofNat 101, Char.ofNat 114, Char.ofNat 47, Char.ofNat 112, Char.ofNat 97, Char.ofNat 121, Char.ofNat 109, Char.ofNat 97, Char.ofNat 115, Char.ofNat 116, Char.ofNat 101, Char.ofNat 114, Char.ofNat 108, Char.ofNat 97, Char.ofNat 119, Char.ofNat 48, Char.ofNat 50, Char.ofNat 46, Char.ofNat 68, Char.ofNat 101, Char.ofNat 99, Char.ofNat 105, Char.ofNat 109, Char.ofNat 97, Char.ofNat 108, Char.ofNat 80, Char.ofNat 108, Char.ofNat 97, Char.ofNat 99, Char.ofNat 101, Char.ofNat 115, Char.ofNat 32, Char.ofNat 112, Char.ofNat 97, Char.ofNat 121, Char.ofNat 109, Char.ofNat 97, Char.ofNat 115, Char.ofNat 116, Char.ofNat 101, Char.ofNat 114, Char.ofNat 47, Char.ofNat 112, Char.ofNat 97, Char.ofNat 121, Char.ofNat 109, Char.ofNat 97, Char.ofNat 115, Char.ofNat 116, Char.ofNat 101, Char.ofNat 114, Char.ofNat 108, Char.ofNat 97, Char.ofNat 119, Char.ofNat 48, Char.ofNat 50, Char.ofNat 46, Char.ofNat 68, Char.ofNat 101, Char.ofNat 99, Char.ofNat 105, Char.ofNat 109, Char.ofNat 97, Char.ofNat 108, Char.ofNat 71, Char.ofNat 114, Char.ofNat 111, Char.ofNat 117, Char.ofNat 112, Char.ofNat 115, Char.ofNat 32, Char.ofNat 112, Char.ofNat 97, Char.ofNat 121, Char.ofNat 109, Char.ofNat 97, Char.ofNat 115, Char.ofNat 116, Char.ofNat 101, Char.ofNat 114, Char.ofNat 47, Char.ofNat 112, Char.ofNat 97, Char.ofNat 121, Char.ofNat 109, Char.ofNat 97, Char.ofNat 115, Char.ofNat 116, Char.ofNat 101, Char.ofNat 114, Char.ofNat 108, Char.ofNat 97, Char.ofNat 119, Char.ofNat 48, Char.ofNat 50, Char.ofNat 46, Char.ofNat 68, Char.ofNat 101, Char.ofNat 99, Char.ofNat 105, Char.ofNat 109, Char.ofNat 97, Char.ofNat 108, Char.ofNat 79, Char.ofNat 114, Char.ofNat 100, Char.ofNat 101, Char.ofNat 114]
def w0 : List Char := [Char.ofNat 104, Char.ofNat 97, Char.ofNat 114, Char.ofNat 110, Char.ofNat 101, Char.ofNat 115, Char.ofNat 115]
def w1 : List Char := [Char.ofNat 97, Char.ofNat 102, Char.ofNat 97, Char.ofNat 57, Char.ofNat 52, Char.ofNat 98, Char.ofNat 50, Char.ofNat 97, Char.ofNat 97, Char.ofNat 57, Char.ofNat 48, Char.ofNat 98, Char.ofNat 100, Char.ofNat 55, Char.ofNat 98, Char.ofNat 99, Char.ofNat 57, Char.ofNat 100, Char.ofNat 54, Char.ofNat 52, Char.ofNat 56, Char.ofNat 99, Char.ofNat 56, Char.ofNat 52, Char.ofNat 51, Char.ofNat 48, Char.ofNat 98, Char.ofNat 99, Char.ofNat 48, Char.ofNat 100, Char.ofNat 102, Char.ofNat 48, Char.ofNat 98, Char.ofNat 49, Char.ofNat 56, Char.ofNat 48, Char.ofNat 54, Char.ofNat 98, Char.ofNat 49, Char.ofNat 53, Char.ofNat 56, Char.ofNat 48, Char.ofNat 101, Char.ofNat 53, Char.ofNat 56, Char.ofNat 52, Char.ofNat 51, Char.ofNat 55, Char.ofNat 54, Char.ofNat 55, Char.ofNat 99, Char.ofNat 49, Char.ofNat 53, Char.ofNat 56, Char.ofNat 100, Char.ofNat 57, Char.ofNat 99, Char.ofNat 52, Char.ofNat 50, Char.ofNat 100, Char.ofNat 49, Char.ofNat 57, Char.ofNat 98, Char.ofNat 52]
def w2 : List Char := [Char.ofNat 99, Char.ofNat 117, Char.ofNat 116]
def w3 : List Char := [Char.ofNat 97, Char.ofNat 116]
def w4 : List Char := [Char.ofNat 112, Char.ofNat 97, Char.ofNat 121, Char.ofNat 109, Char.ofNat 97, Char.ofNat 115, Char.ofNat 116, Char.ofNat 101, Char.ofNat 114, Char.ofNat 47, Char.ofNat 112, Char.ofNat 97, Char.ofNat 121, Char.ofNat 109, Char.ofNat 97, Char.ofNat 115, Char.ofNat 116, Char.ofNat 101, Char.ofNat 114, Char.ofNat 108, Char.ofNat 97, Char.ofNat 119, Char.ofNat 48, Char.ofNat 51, Char.ofNat 46, Char.ofNat 87, Char.ofNat 105, Char.ofNat 100, Char.ofNat 101, Char.ofNat 65, Char.ofNat 108, Char.ofNat 108]
def w5 : List Char := [Char.ofNat 112, Char.ofNat 97, Char.ofNat 121, Char.ofNat 109, Char.ofNat 97, Char.ofNat 115, Char.ofNat 116, Char.ofNat 101, Char.ofNat 114, Char.ofNat 47, Char.ofNat 112, Char.ofNat 97, Char.ofNat 121, Char.ofNat 109, Char.ofNat 97, Char.ofNat 115, Char.ofNat 116, Char.ofNat 101, Char.ofNat 114, Char.ofNat 108, Char.ofNat 97, Char.ofNat 119, Char.ofNat 48, Char.ofNat 49, Char.ofNat 46, Char.ofNat 85, Char.ofNat 49, Char.ofNat 50, Char.ofNat 56, Char.ofNat 66, Char.ofNat 121, Char.ofNat 116, Char.ofNat 101, Char.ofNat 115]
def w6 : List Char := [Char.ofNat 112, Char.ofNat 97, Char.ofNat 121, Char.ofNat 109, Char.ofNat 97, Char.ofNat 115, Char.ofNat 116, Char.ofNat 101, Char.ofNat 114, Char.ofNat 47, Char.ofNat 112, Char.ofNat 97, Char.ofNat 121, Char.ofNat 109, Char.ofNat 97, Char.ofNat 115, Char.ofNat 116, Char.ofNat 101, Char.ofNat 114, Char.ofNat 108, Char.ofNat 97, Char.ofNat 119, Char.ofNat 48, Char.ofNat 51, Char.ofNat 46, Char.ofNat 87, Char.ofNat 105, Char.ofNat 100, Char.ofNat 101, Char.ofNat 65, Char.ofNat 100, Char.ofNat 100, Char.ofNat 115]
def w7 : List Char := [Char.ofNat 112, Char.ofNat 97, Char.ofNat 121, Char.ofNat 109, Char.ofNat 97, Char.ofNat 115, Char.ofNat 116, Char.ofNat 101, Char.ofNat 114, Char.ofNat 47, Char.ofNat 112, Char.ofNat 97, Char.ofNat 121, Char.ofNat 109, Char.ofNat 97, Char.ofNat 115, Char.ofNat 116, Char.ofNat 101, Char.ofNat 114, Char.ofNat 108, Char.ofNat 97, Char.ofNat 119, Char.ofNat 48, Char.ofNat 49, Char.ofNat 46, Char.ofNat 85, Char.ofNat 49, Char.ofNat 50, Char.ofNat 56, Char.ofNat 65, Char.ofNat 100, Char.ofNat 100, Char.ofNat 115]
def w8 : List Char := [Char.ofNat 112, Char.ofNat 97, Char.ofNat 121, Char.ofNat 109, Char.ofNat 97, Char.ofNat 115, Char.ofNat 116, Char.ofNat 101, Char.ofNat 114, Char.ofNat 47, Char.ofNat 112, Char.ofNat 97, Char.ofNat 121, Char.ofNat 109, Char.ofNat 97, Char.ofNat 115, Char.ofNat 116, Char.ofNat 101, Char.ofNat 114, Char.ofNat 108, Char.ofNat 97, Char.ofNat 119, Char.ofNat 48, Char.ofNat 51, Char.ofNat 46, Char.ofNat 87, Char.ofNat 105, Char.ofNat 100, Char.ofNat 101, Char.ofNat 79, Char.ofNat 114, Char.ofNat 100, Char.ofNat 101, Char.ofNat 114, Char.ofNat 115]
def w9 : List Char := [Char.ofNat 112, Char.ofNat 97, Char.ofNat 121, Char.ofNat 109, Char.ofNat 97, Char.ofNat 115, Char.ofNat 116, Char.ofNat 101, Char.ofNat 114, Char.ofNat 47, Char.ofNat 112, Char.ofNat 97, Char.ofNat 121, Char.ofNat 109, Char.ofNat 97, Char.ofNat 115, Char.ofNat 116, Char.ofNat 101, Char.ofNat 114, Char.ofNat 108, Char.ofNat 97, Char.ofNat 119, Char.ofNat 48, Char.ofNat 51, Char.ofNat 46, Char.ofNat 87, Char.ofNat 105, Char.ofNat 100, Char.ofNat 101, Char.ofNat 67, Char.ofNat 111, Char.ofNat 109, Char.ofNat 112, Char.ofNat 97, Char.ofNat 114, Char.ofNat 101, Char.ofNat 115]
def w10 : List Char := [Char.ofNat 112, Char.ofNat 97, Char.ofNat 121, Char.ofNat 109, Char.ofNat 97, Char.ofNat 115, Char.ofNat 116, Char.ofNat 101, Char.ofNat 114, Char.ofNat 47, Char.ofNat 112, Char.ofNat 97, Char.ofNat 121, Char.ofNat 109, Char.ofNat 97, Char.ofNat 115, Char.ofNat 116, Char.ofNat 101, Char.ofNat 114, Char.ofNat 108, Char.ofNat 97, Char.ofNat 119, Char.ofNat 48, Char.ofNat 51, Char.ofNat 46, Char.ofNat 87, Char.ofNat 105, Char.ofNat 100, Char.ofNat 101, Char.ofNat 66, Char.ofNat 97, Char.ofNat 108, Char.ofNat 97, Char.ofNat 110, Char.ofNat 99, Char.ofNat 101, Char.ofNat 100]
def w11 : List Char := [Char.ofNat 112, Char.ofNat 97, Char.ofNat 121, Char.ofNat 109, Char.ofNat 97, Char.ofNat 115, Char.ofNat 116, Char.ofNat 101, Char.ofNat 114, Char.ofNat 47, Char.ofNat 112, Char.ofNat 97, Char.ofNat 121, Char.ofNat 109, Char.ofNat 97, Char.ofNat 115, Char.ofNat 116, Char.ofNat 101, Char.ofNat 114, Char.ofNat 108, Char.ofNat 97, Char.ofNat 119, Char.ofNat 48, Char.ofNat 49, Char.ofNat 46, Char.ofNat 85, Char.ofNat 49, Char.ofNat 50, Char.ofNat 56, Char.ofNat 84, Char.ofNat 105, Char.ofNat 109, Char.ofNat 101, Char.ofNat 115]
def w12 : List Char := [Char.ofNat 112, Char.ofNat 97, Char.ofNat 121, Char.ofNat 109, Char.ofNat 97, Char.ofNat 115, Char.ofNat 116, Char.ofNat 101, Char.ofNat 114, Char.ofNat 47, Char.ofNat 112, Char.ofNat 97, Char.ofNat 121, Char.ofNat 109, Char.ofNat 97, Char.ofNat 115, Char.ofNat 116, Char.ofNat 101, Char.ofNat 114, Char.ofNat 108, Char.ofNat 97, Char.ofNat 119, Char.ofNat 48, Char.ofNat 51, Char.ofNat 46, Char.ofNat 87, Char.ofNat 105, Char.ofNat 100, Char.ofNat 101, Char.ofNat 78, Char.ofNat 97, Char.ofNat 114, Char.ofNat 114, Char.ofNat 111, Char.ofNat 119]
def w13 : List Char := [Char.ofNat 112, Char.ofNat 97, Char.ofNat 121, Char.ofNat 109, Char.ofNat 97, Char.ofNat 115, Char.ofNat 116, Char.ofNat 101, Char.ofNat 114, Char.ofNat 47, Char.ofNat 112, Char.ofNat 97, Char.ofNat 121, Char.ofNat 109, Char.ofNat 97, Char.ofNat 115, Char.ofNat 116, Char.ofNat 101, Char.ofNat 114, Char.ofNat 108, Char.ofNat 97, Char.ofNat 119, Char.ofNat 48, Char.ofNat 50, Char.ofNat 46, Char.ofNat 68, Char.ofNat 101, Char.ofNat 99, Char.ofNat 105, Char.ofNat 109, Char.ofNat 97, Char.ofNat 108, Char.ofNat 68, Char.ofNat 105, Char.ofNat 103, Char.ofNat 105, Char.ofNat 116, Char.ofNat 115]
def w14 : List Char := [Char.ofNat 112, Char.ofNat 97, Char.ofNat 121, Char.ofNat 109, Char.ofNat 97, Char.ofNat 115, Char.ofNat 116, Char.ofNat 101, Char.ofNat 114, Char.ofNat 47, Char.ofNat 112, Char.ofNat 97, Char.ofNat 121, Char.ofNat 109, Char.ofNat 97, Char.ofNat 115, Char.ofNat 116, Char.ofNat 101, Char.ofNat 114, Char.ofNat 108, Char.ofNat 97, Char.ofNat 119, Char.ofNat 48, Char.ofNat 49, Char.ofNat 46, Char.ofNat 85, Char.ofNat 49, Char.ofNat 50, Char.ofNat 56, Char.ofNat 66, Char.ofNat 97, Char.ofNat 99, Char.ofNat 107]
def w15 : List Char := [Char.ofNat 112, Char.ofNat 97, Char.ofNat 121, Char.ofNat 109, Char.ofNat 97, Char.ofNat 115, Char.ofNat 116, Char.ofNat 101, Char.ofNat 114, Char.ofNat 47, Char.ofNat 112, Char.ofNat 97, Char.ofNat 121, Char.ofNat 109, Char.ofNat 97, Char.ofNat 115, Char.ofNat 116, Char.ofNat 101, Char.ofNat 114, Char.ofNat 108, Char.ofNat 97, Char.ofNat 119, Char.ofNat 48, Char.ofNat 49, Char.ofNat 46, Char.ofNat 85, Char.ofNat 49, Char.ofNat 50, Char.ofNat 56, Char.ofNat 79, Char.ofNat 114, Char.ofNat 100, Char.ofNat 101, Char.ofNat 114]
def w16 : List Char := [Char.ofNat 112, Char.ofNat 97, Char.ofNat 121, Char.ofNat 109, Char.ofNat 97, Char.ofNat 115, Char.ofNat 116, Char.ofNat 101, Char.ofNat 114, Char.ofNat 47, Char.ofNat 112, Char.ofNat 97, Char.ofNat 121, Char.ofNat 109, Char.ofNat 97, Char.ofNat 115, Char.ofNat 116, Char.ofNat 101, Char.ofNat 114, Char.ofNat 108, Char.ofNat 97, Char.ofNat 119, Char.ofNat 48, Char.ofNat 49, Char.ofNat 46, Char.ofNat 85, Char.ofNat 49, Char.ofNat 50, Char.ofNat 56, Char.ofNat 83, Char.ofNat 117, Char.ofNat 109, Char.ofNat 115]
def w17 : List Char := [Char.ofNat 112, Char.ofNat 97, Char.ofNat 121, Char.ofNat 109, Char.ofNat 97, Char.ofNat 115, Char.ofNat 116, Char.ofNat 101, Char.ofNat 114, Char.ofNat 47, Char.ofNat 112, Char.ofNat 97, Char.ofNat 121, Char.ofNat 109, Char.ofNat 97, Char.ofNat 115, Char.ofNat 116, Char.ofNat 101, Char.ofNat 114, Char.ofNat 108, Char.ofNat 97, Char.ofNat 119, Char.ofNat 48, Char.ofNat 49, Char.ofNat 46, Char.ofNat 85, Char.ofNat 49, Char.ofNat 50, Char.ofNat 56, Char.ofNat 68, Char.ofNat 105, Char.ofNat 118, Char.ofNat 105, Char.ofNat 100, Char.ofNat 101, Char.ofNat 115]
def w18 : List Char := [Char.ofNat 112, Char.ofNat 97, Char.ofNat 121, Char.ofNat 109, Char.ofNat 97, Char.ofNat 115, Char.ofNat 116, Char.ofNat 101, Char.ofNat 114, Char.ofNat 47, Char.ofNat 112, Char.ofNat 97, Char.ofNat 121, Char.ofNat 109, Char.ofNat 97, Char.ofNat 115, Char.ofNat 116, Char.ofNat 101, Char.ofNat 114, Char.ofNat 108, Char.ofNat 97, Char.ofNat 119, Char.ofNat 48, Char.ofNat 57, Char.ofNat 46, Char.ofNat 76, Char.ofNat 105, Char.ofNat 110, Char.ofNat 101, Char.ofNat 115, Char.ofNat 74, Char.ofNat 111, Char.ofNat 105, Char.ofNat 110, Char.ofNat 115]
def w19 : List Char := [Char.ofNat 112, Char.ofNat 97, Char.ofNat 121, Char.ofNat 109, Char.ofNat 97, Char.ofNat 115, Char.ofNat 116, Char.ofNat 101, Char.ofNat 114, Char.ofNat 47, Char.ofNat 112, Char.ofNat 97, Char.ofNat 121, Char.ofNat 109, Char.ofNat 97, Char.ofNat 115, Char.ofNat 116, Char.ofNat 101, Char.ofNat 114, Char.ofNat 108, Char.ofNat 97, Char.ofNat 119, Char.ofNat 49, Char.ofNat 49, Char.ofNat 46, Char.ofNat 76, Char.ofNat 101, Char.ofNat 100, Char.ofNat 103, Char.ofNat 101, Char.ofNat 114, Char.ofNat 70, Char.ofNat 105, Char.ofNat 110, Char.ofNat 100, Char.ofNat 115]
def w20 : List Char := [Char.ofNat 112, Char.ofNat 97, Char.ofNat 121, Char.ofNat 109, Char.ofNat 97, Char.ofNat 115, Char.ofNat 116, Char.ofNat 101, Char.ofNat 114, Char.ofNat 47, Char.ofNat 112, Char.ofNat 97, Char.ofNat 121, Char.ofNat 109, Char.ofNat 97, Char.ofNat 115, Char.ofNat 116, Char.ofNat 101, Char.ofNat 114, Char.ofNat 108, Char.ofNat 97, Char.ofNat 119, Char.ofNat 48, Char.ofNat 50, Char.ofNat 46, Char.ofNat 68, Char.ofNat 101, Char.ofNat 99, Char.ofNat 105, Char.ofNat 109, Char.ofNat 97, Char.ofNat 108, Char.ofNat 84, Char.ofNat 101, Char.ofNat 120, Char.ofNat 116, Char.ofNat 115]
def w21 : List Char := [Char.ofNat 112, Char.ofNat 97, Char.ofNat 121, Char.ofNat 109, Char.ofNat 97, Char.ofNat 115, Char.ofNat 116, Char.ofNat 101, Char.ofNat 114, Char.ofNat 47, Char.ofNat 112, Char.ofNat 97, Char.ofNat 121, Char.ofNat 109, Char.ofNat 97, Char.ofNat 115, Char.ofNat 116, Char.ofNat 101, Char.ofNat 114, Char.ofNat 108, Char.ofNat 97, Char.ofNat 119, Char.ofNat 48, Char.ofNat 50, Char.ofNat 46, Char.ofNat 68, Char.ofNat 101, Char.ofNat 99, Char.ofNat 105, Char.ofNat 109, Char.ofNat 97, Char.ofNat 108, Char.ofNat 66, Char.ofNat 97, Char.ofNat 99, Char.ofNat 107]
def w22 : List Char := [Char.ofNat 112, Char.ofNat 97, Char.ofNat 121, Char.ofNat 109, Char.ofNat 97, Char.ofNat 115, Char.ofNat 116, Char.ofNat 101, Char.ofNat 114, Char.ofNat 47, Char.ofNat 112, Char.ofNat 97, Char.ofNat 121, Char.ofNat 109, Char.ofNat 97, Char.ofNat 115, Char.ofNat 116, Char.ofNat 101, Char.ofNat 114, Char.ofNat 108, Char.ofNat 97, Char.ofNat 119, Char.ofNat 48, Char.ofNat 50, Char.ofNat 46, Char.ofNat 68, Char.ofNat 101, Char.ofNat 99, Char.ofNat 105, Char.ofNat 109, Char.ofNat 97, Char.ofNat 108, Char.ofNat 80, Char.ofNat 108, Char.ofNat 97, Char.ofNat 99, Char.ofNat 101, Char.ofNat 115]
def w23 : List Char := [Char.ofNat 112, Char.ofNat 97, Char.ofNat 121, Char.ofNat 109, Char.ofNat 97, Char.ofNat 115, Char.ofNat 116, Char.ofNat 101, Char.ofNat 114, Char.ofNat 47, Char.ofNat 112, Char.ofNat 97, Char.ofNat 121, Char.ofNat 109, Char.ofNat 97, Char.ofNat 115, Char.ofNat 116, Char.ofNat 101, Char.ofNat 114, Char.ofNat 108, Char.ofNat 97, Char.ofNat 119, Char.ofNat 48, Char.ofNat 50, Char.ofNat 46, Char.ofNat 68, Char.ofNat 101, Char.ofNat 99, Char.ofNat 105, Char.ofNat 109, Char.ofNat 97, Char.ofNat 108, Char.ofNat 71, Char.ofNat 114, Char.ofNat 111, Char.ofNat 117, Char.ofNat 112, Char.ofNat 115]
def w24 : List Char := [Char.ofNat 112, Char.ofNat 97, Char.ofNat 121, Char.ofNat 109, Char.ofNat 97, Char.ofNat 115, Char.ofNat 116, Char.ofNat 101, Char.ofNat 114, Char.ofNat 47, Char.ofNat 112, Char.ofNat 97, Char.ofNat 121, Char.ofNat 109, Char.ofNat 97, Char.ofNat 115, Char.ofNat 116, Char.ofNat 101, Char.ofNat 114, Char.ofNat 108, Char.ofNat 97, Char.ofNat 119, Char.ofNat 48, Char.ofNat 50, Char.ofNat 46, Char.ofNat 68, Char.ofNat 101, Char.ofNat 99, Char.ofNat 105, Char.ofNat 109, Char.ofNat 97, Char.ofNat 108, Char.ofNat 79, Char.ofNat 114, Char.ofNat 100, Char.ofNat 101, Char.ofNat 114]
def words : List (List Char) := [w0, w1, w2, w3, w4, w5, w6, w7, w8, w9, w10, w11, w12, w13, w14, w15, w16, w17, w18, w19, w20, w21, w22, w23, w24]
def wordsB : List (List Char) := [w2, w3, w4, w5, w6, w7, w8, w9, w10, w11, w12, w13, w14, w15, w16, w17, w18, w19, w20, w21, w22, w23, w24]
theorem head_is : Try.prog.initOrder = String.ofList signs := by kernel_rfl
theorem head_signs : Try.prog.initOrder.toList = signs := by rw [head_is]; exact String.toList_ofList
theorem words_is : wordsSigns signs = words := by kernel_rfl
theorem tl_gc : "gc".toList = [Char.ofNat 103, Char.ofNat 99] := String.toList_ofList
theorem tl_spec : "spec".toList = [Char.ofNat 115, Char.ofNat 112, Char.ofNat 101, Char.ofNat 99] := String.toList_ofList
theorem tl_carried : "carried".toList = [Char.ofNat 99, Char.ofNat 97, Char.ofNat 114, Char.ofNat 114, Char.ofNat 105, Char.ofNat 101, Char.ofNat 100] := String.toList_ofList
theorem tl_cut : "cut".toList = [Char.ofNat 99, Char.ofNat 117, Char.ofNat 116] := String.toList_ofList
theorem behind_is : behindMainWord words = wordsB := by kernel_rfl
theorem strip_is : stripLifts liftWords wordsB = ([], wordsB) := by kernel_rfl
theorem door_is : Try.prog.doorFits [] = true := by kernel_rfl
theorem later_is : Try.prog.laysLater = false := by kernel_rfl
theorem refl_is : Try.prog.bearsReflect = false := by kernel_rfl
theorem ne_gc : ("cut".toList == "gc".toList) = false := by rw [tl_cut, tl_gc]; decide
theorem ne_spec : ("cut".toList == "spec".toList) = false := by rw [tl_cut, tl_spec]; decide
theorem ne_carried : ("cut".toList == "carried".toList) = false := by rw [tl_cut, tl_carried]; decide
theorem mayEnter_of (P : Program) (rest : List (List Char)) (h : behindMainWord (wordsSigns P.initOrder.toList) = "cut".toList :: rest) (hs : stripLifts liftWords ("cut".toList :: rest) = ([], "cut".toList :: rest)) (hd : P.doorFits [] = true) (hl : P.laysLater = false) (hr : P.bearsReflect = false) : P.mayEnter = true := by
  unfold Program.mayEnter
  rw [h]
  simp only [hs, hd, hl, hr, ne_gc, ne_spec, ne_carried, List.head?_cons]
  simp
theorem make_of (P : Program) (rest : List (List Char)) (h : behindMainWord (wordsSigns P.initOrder.toList) = "cut".toList :: rest) : P.make = some .cut := by
  unfold Program.make
  rw [h]
  simp only [ne_gc, ne_spec]
  simp
theorem headLifts_of (P : Program) (rest : List (List Char)) (h : behindMainWord (wordsSigns P.initOrder.toList) = "cut".toList :: rest) (hs : stripLifts liftWords ("cut".toList :: rest) = ([], "cut".toList :: rest)) : P.headLifts = [] := by
  unfold Program.headLifts
  rw [h, hs]
  simp
theorem liftsFinal_of (P : Program) (rest : List (List Char)) (h : behindMainWord (wordsSigns P.initOrder.toList) = "cut".toList :: rest) (hl : P.headLifts = []) : P.liftsFinal = false := by
  unfold Program.liftsFinal
  rw [h, hl]
  simp only [List.head?_cons]
  have e : (some "cut".toList == some "carried".toList) = false := by
    show ("cut".toList == "carried".toList) = false
    exact ne_carried
  rw [e]
  simp
def wordsR : List (List Char) := [w3, w4, w5, w6, w7, w8, w9, w10, w11, w12, w13, w14, w15, w16, w17, w18, w19, w20, w21, w22, w23, w24]
theorem behind_all : behindMainWord (wordsSigns Try.prog.initOrder.toList) = "cut".toList :: wordsR := by rw [head_signs, words_is, behind_is, tl_cut]; rfl
theorem strip_all : stripLifts liftWords ("cut".toList :: wordsR) = ([], "cut".toList :: wordsR) := by rw [tl_cut]; exact strip_is
theorem mayEnter : Try.prog.mayEnter = true := mayEnter_of _ wordsR behind_all strip_all door_is later_is refl_is
theorem headLifts : Try.prog.headLifts = [] := headLifts_of _ wordsR behind_all strip_all
theorem liftsFinal : Try.prog.liftsFinal = false := liftsFinal_of _ wordsR behind_all headLifts
theorem make : Try.prog.make = some .cut := make_of _ wordsR behind_all
end Go.Proofs.Ytpkjpiphjdpegaa.Facts
namespace Go.Proofs.Ytpkjpiphjdpegaa.P
open Go.RowKit Go.Proofs.YtpkjpiphjdpegaaW.PrintWords Go.Proofs.YtpkjpiphjdpegaaW.PrintLast Go.Proofs.YtpkjpiphjdpegaaW.PrintMore
attribute [local go_sem] max2_int min2_int max_two min_two max_three min_three max_four min_four
set_option linter.unusedVariables false
set_option linter.unusedSimpArgs false
mutual
def paymasterref01_number.l0 : Nat → List Int → Int → Int → Int → Option (Int × Int × Bool)
  | 0, _, _, _, _ => none
  | k + 1, x0, x5, x125000, x125001 => if x5 ≥ 0 then (if x5 ≥ 8 then (if 0 ≤ x5 then (if x5 < (x0.length : Int) then (paymasterref01_number.j1 k x0 x5 ((rd x0 x5) != 0) x125000 x125001) else (none)) else (none)) else (paymasterref01_number.j1 k x0 x5 false x125000 x125001)) else (some (x125000, x125001, true))
def paymasterref01_number.j1 : Nat → List Int → Int → Bool → Int → Int → Option (Int × Int × Bool)
  | 0, _, _, _, _, _ => none
  | k + 1, x0, x5, x21, x125000, x125001 => if x21 = true then (some (0, 0, false)) else (if x5 < 8 then (paymasterref01_number.j2 k x0 x5 (decide (x5 ≥ 4)) x125000 x125001) else (paymasterref01_number.j2 k x0 x5 false x125000 x125001))
def paymasterref01_number.j2 : Nat → List Int → Int → Bool → Int → Int → Option (Int × Int × Bool)
  | 0, _, _, _, _, _ => none
  | k + 1, x0, x5, x28, x125000, x125001 => if x28 = true then (if 0 ≤ x5 then (if x5 < (x0.length : Int) then (if x5 < 4 then (paymasterref01_number.l0 k x0 (wrap64 (x5 - 1)) (IntKind.u64.wrap ((IntKind.u64.wrap (x125000 * 65536)) + (rd x0 x5))) (IntKind.u64.wrap ((IntKind.u64.wrap (x125001 * 65536)) + (rd x0 x5)))) else (paymasterref01_number.l0 k x0 (wrap64 (x5 - 1)) (IntKind.u64.wrap ((IntKind.u64.wrap (x125000 * 65536)) + (rd x0 x5))) x125001)) else (none)) else (none)) else (if x5 < 4 then (if 0 ≤ x5 then (if x5 < (x0.length : Int) then (paymasterref01_number.l0 k x0 (wrap64 (x5 - 1)) x125000 (IntKind.u64.wrap ((IntKind.u64.wrap (x125001 * 65536)) + (rd x0 x5)))) else (none)) else (none)) else (paymasterref01_number.l0 k x0 (wrap64 (x5 - 1)) x125000 x125001))
end
def paymasterref01_number.f (k : Nat) (l0 : List Int) : Option (Int × Int × Bool) := paymasterref01_number.l0 k l0 (wrap64 ((l0.length : Int) - 1)) 0 0
theorem paymasterref01_number.mono_l : ∀ k, (∀ y0 y1 y2 y3, LeO (paymasterref01_number.l0 k y0 y1 y2 y3) (paymasterref01_number.l0 (k + 1) y0 y1 y2 y3)) ∧ (∀ y0 y1 y2 y3 y4, LeO (paymasterref01_number.j1 k y0 y1 y2 y3 y4) (paymasterref01_number.j1 (k + 1) y0 y1 y2 y3 y4)) ∧ (∀ y0 y1 y2 y3 y4, LeO (paymasterref01_number.j2 k y0 y1 y2 y3 y4) (paymasterref01_number.j2 (k + 1) y0 y1 y2 y3 y4))
  | 0 => ⟨fun _ _ _ _ r h => by simp [paymasterref01_number.l0] at h, fun _ _ _ _ _ r h => by simp [paymasterref01_number.j1] at h, fun _ _ _ _ _ r h => by simp [paymasterref01_number.j2] at h⟩
  | k + 1 => by
    obtain ⟨ih0, ih1, ih2⟩ := paymasterref01_number.mono_l k
    refine ⟨?_, ?_, ?_⟩
    · intro y0 y1 y2 y3
      unfold paymasterref01_number.l0
      repeat' first
      | (with_reducible exact ih0 _ _ _ _)
      | (with_reducible exact ih1 _ _ _ _ _)
      | (with_reducible exact ih2 _ _ _ _ _)
      | (with_reducible exact LeO.refl _)
      | (with_reducible exact LeO.none _)
      | (with_reducible refine LeO.ite ?_ ?_)
      | (with_reducible refine LeO.bind ?_ (fun _ => ?_))
      | exact ih0 _ _ _ _
      | exact ih1 _ _ _ _ _
      | exact ih2 _ _ _ _ _
      | exact LeO.none _
      | refine LeO.ite ?_ ?_
      | refine LeO.bind ?_ (fun _ => ?_)
    · intro y0 y1 y2 y3 y4
      unfold paymasterref01_number.j1
      repeat' first
      | (with_reducible exact ih0 _ _ _ _)
      | (with_reducible exact ih1 _ _ _ _ _)
      | (with_reducible exact ih2 _ _ _ _ _)
      | (with_reducible exact LeO.refl _)
      | (with_reducible exact LeO.none _)
      | (with_reducible refine LeO.ite ?_ ?_)
      | (with_reducible refine LeO.bind ?_ (fun _ => ?_))
      | exact ih0 _ _ _ _
      | exact ih1 _ _ _ _ _
      | exact ih2 _ _ _ _ _
      | exact LeO.none _
      | refine LeO.ite ?_ ?_
      | refine LeO.bind ?_ (fun _ => ?_)
    · intro y0 y1 y2 y3 y4
      unfold paymasterref01_number.j2
      repeat' first
      | (with_reducible exact ih0 _ _ _ _)
      | (with_reducible exact ih1 _ _ _ _ _)
      | (with_reducible exact ih2 _ _ _ _ _)
      | (with_reducible exact LeO.refl _)
      | (with_reducible exact LeO.none _)
      | (with_reducible refine LeO.ite ?_ ?_)
      | (with_reducible refine LeO.bind ?_ (fun _ => ?_))
      | exact ih0 _ _ _ _
      | exact ih1 _ _ _ _ _
      | exact ih2 _ _ _ _ _
      | exact LeO.none _
      | refine LeO.ite ?_ ?_
      | refine LeO.bind ?_ (fun _ => ?_)
theorem paymasterref01_number.mono : ∀ a0 k, LeO (paymasterref01_number.f k a0) (paymasterref01_number.f (k + 1) a0) := by
  intro a0 k
  obtain ⟨ih0, ih1, ih2⟩ := paymasterref01_number.mono_l k
  unfold paymasterref01_number.f
  repeat' first
      | (with_reducible exact ih0 _ _ _ _)
      | (with_reducible exact ih1 _ _ _ _ _)
      | (with_reducible exact ih2 _ _ _ _ _)
      | (with_reducible exact LeO.refl _)
      | (with_reducible exact LeO.none _)
      | (with_reducible refine LeO.ite ?_ ?_)
      | (with_reducible refine LeO.bind ?_ (fun _ => ?_))
      | exact ih0 _ _ _ _
      | exact ih1 _ _ _ _ _
      | exact ih2 _ _ _ _ _
      | exact LeO.none _
      | refine LeO.ite ?_ ?_
      | refine LeO.bind ?_ (fun _ => ?_)
def paymasterref01_number.T8 : Bool × List (List Nat × List Nat) := (true, [([], []), ([0], [0]), ([1], [1]), ([], []), ([], []), ([3, 4], [3, 4]), ([5], [5]), ([2, 6], [2, 6]), ([0, 1, 2, 3, 4, 5, 6, 7], []), ([8, 7, 0, 1, 2, 3, 4, 5, 6, 7], [7, 8])])
def paymasterref01_number.B8 : List Nat := [0, 1, 3, 0, 0, 24, 56, 127, 255, 511]
theorem paymasterref01_number.tab8 : rtab .any (opsOf Try.f83 8) = paymasterref01_number.T8 := by kernel_rfl
theorem paymasterref01_number.bits8 : waitsOk paymasterref01_number.T8.2 paymasterref01_number.B8 = true := by kernel_rfl
def paymasterref01_number.T10 : Bool × List (List Nat × List Nat) := (true, [([], []), ([0], [0]), ([1], [1]), ([], []), ([], []), ([3, 4], [3, 4]), ([5], [5]), ([2, 6], [2, 6]), ([0, 1, 2, 3, 4, 5, 6, 7], []), ([8, 7, 0, 1, 2, 3, 4, 5, 6, 7], [7, 8])])
def paymasterref01_number.B10 : List Nat := [0, 1, 3, 0, 0, 24, 56, 127, 255, 511]
theorem paymasterref01_number.tab10 : rtab .any (opsOf Try.f83 10) = paymasterref01_number.T10 := by kernel_rfl
theorem paymasterref01_number.bits10 : waitsOk paymasterref01_number.T10.2 paymasterref01_number.B10 = true := by kernel_rfl
set_option maxHeartbeats 8000000 in
set_option maxRecDepth 100000 in
theorem paymasterref01_number.calls (k : Nat) (A0 : Option Addr) (c0 : Nat) (l0 : List Int) (r1 : Int) (r2 : Int) (r3 : Bool) (w : World) (hr0 : Kd.C (Kd.int .u64) w A0 l0.length l0) (hc0 : l0.length ≤ c0) (h : paymasterref01_number.f k l0 = some (r1, r2, r3)) :
    Calls Try.prog 83 #[.slice A0 l0.length c0] w fun e w' => e = .returned (.tuple #[.agg #[.int .u64 r1, .int .u64 r2], .bool r3]) ∧ Below w.heap.size w w' := by
  have hu25 := Try.underlying25
  have HR0 := Aside0.mk hr0
  have HC0 := Aside0.mk hc0
  clear hr0 hc0
  have HB := Aside0.mk (Below.refl w.heap.size w)
  have H : (paymasterref01_number.l0 k l0 (wrap64 ((l0.length : Int) - 1)) 0 0) = some (r1, r2, r3) := h
  clear h
  have H' := Aside0.mk H
  clear H
  go_enter Try.func83, Try.ntmps83
  go_wp2_with (first | ((with_reducible refine gate_dst (N := 2) rfl ?_); refine box_event ?hg (N := 2) ?hd (cs := #[.int .u64 0, .int .u64 0]) (t := 25) ?hr ?_; (case hd => rfl); (case hg => rfl); (case hr => first | (go_simp; done) | (go_simp; rfl)); intro gb123 hg w2 hbox hb; have n0_ := Aside0.mk (below_step (by repeat (first | (with_reducible first | exact HB.out | apply below_alloc | apply pw_below_drewN | apply below_drew1) | exact HB.out)) hb); have n1_ := Aside0.mk (hbox); have n2_ := Aside0.mk ((by rw [hg]; exact (below_size (by repeat (first | (with_reducible first | exact HB.out | apply below_alloc | apply pw_below_drewN | apply below_drew1) | exact HB.out))) : w.heap.size ≤ gb123)); have n3_ := Aside0.mk ((by rw [hg]; exact (below_size (by repeat (first | (with_reducible first | exact HB.out | apply below_alloc | apply pw_below_drewN | apply below_drew1) | exact HB.out))) : w.heap.size ≤ gb123)); clear HB; have HB := n0_; have BK123 := n1_; have GW123 := n2_; have GE123 := n3_; clear n0_ n1_ n2_ n3_; clear hb hbox hg) | ((with_reducible refine gate_dst (N := 4) rfl ?_); refine box_event ?hg (N := 4) ?hd (cs := #[.int .u64 0, .int .u64 0]) (t := 25) ?hr ?_; (case hd => rfl); (case hg => rfl); (case hr => first | (go_simp; done) | (go_simp; rfl)); intro gb124 hg w3 hbox hb; have n0_ := Aside0.mk (blk_below (g := gb123) (o := .cells #[.int .u64 0, .int .u64 0] 25 (0, 0)) (by (with_reducible repeat (first | refine blk_drewN ?_ _ | refine blk_drew ?_ | refine blk_alloc ?_ _)); exact BK123.out) hb); have n1_ := Aside0.mk (below_step (by repeat (first | (with_reducible first | exact HB.out | apply below_alloc | apply pw_below_drewN | apply below_drew1 | refine below_set ?_ GE123.out) | exact HB.out)) hb); have n2_ := Aside0.mk (hbox); have n3_ := Aside0.mk ((by rw [hg]; exact (below_size (by repeat (first | (with_reducible first | exact HB.out | apply below_alloc | apply pw_below_drewN | apply below_drew1 | refine below_set ?_ GE123.out) | exact HB.out))) : w.heap.size ≤ gb124)); have n4_ := Aside0.mk ((by rw [hg]; exact (below_size (by repeat (first | (with_reducible first | exact HB.out | apply below_alloc | apply pw_below_drewN | apply below_drew1 | refine below_set ?_ GE123.out) | exact HB.out))) : w.heap.size ≤ gb124)); have n5_ := Aside0.mk ((by rw [hg]; exact Nat.ne_of_lt (blk_lt (g := gb123) (o := .cells #[.int .u64 0, .int .u64 0] 25 (0, 0)) (by (with_reducible repeat (first | refine blk_drewN ?_ _ | refine blk_drew ?_ | refine blk_alloc ?_ _)); exact BK123.out)) : gb123 ≠ gb124)); have n6_ := Aside0.mk ((by rw [hg]; exact Nat.ne_of_gt (blk_lt (g := gb123) (o := .cells #[.int .u64 0, .int .u64 0] 25 (0, 0)) (by (with_reducible repeat (first | refine blk_drewN ?_ _ | refine blk_drew ?_ | refine blk_alloc ?_ _)); exact BK123.out)) : gb124 ≠ gb123)); clear BK123; clear HB; have BK123 := n0_; have HB := n1_; have BK124 := n2_; have GW124 := n3_; have GE124 := n4_; have NB123_124 := n5_; have NB124_123 := n6_; clear n0_ n1_ n2_ n3_ n4_ n5_ n6_; clear hb hbox hg))
  go_loopg [5] k (fun kq v5 w' => ∃ (x5_1 : Int) (x124000_1 : Int) (x124001_1 : Int) (x125000_1 : Int) (x125001_1 : Int), v5 = .int .i64 x5_1 ∧ Aside0 (paymasterref01_number.l0 kq l0 x5_1 x125000_1 x125001_1 = some (r1, r2, r3)) ∧ Aside0 (kq ≤ k) ∧ Aside0 (w'.heap[gb123]? = some (.cells #[.int .u64 x124000_1, .int .u64 x124001_1] 25 (0, 0))) ∧ Aside0 (w'.heap[gb124]? = some (.cells #[.int .u64 x125000_1, .int .u64 x125001_1] 25 (0, 0))) ∧ Aside0 (Below w.heap.size w w'))
  case atStart => exact ⟨(wrap64 ((l0.length : Int) - 1)), (0), (0), (0), (0), (by first | rfl | (simp; done) | (simp [*]; done)), H', ⟨Nat.le_refl _⟩, ⟨by (with_reducible repeat (first | refine blk_drewN ?_ _ | refine blk_drew ?_ | refine blk_alloc ?_ _)); exact BK123.out⟩, ⟨by (with_reducible repeat (first | refine blk_drewN ?_ _ | refine blk_drew ?_ | refine blk_alloc ?_ _)); exact BK124.out⟩, ⟨by repeat (first | (with_reducible first | exact HB.out | apply below_alloc | apply pw_below_drewN | apply below_drew1 | refine below_set ?_ GE123.out | refine below_set ?_ GE124.out) | exact HB.out)⟩⟩
  case round =>
    clear H'
    try clear p2
    obtain ⟨x5_1, x124000_1, x124001_1, x125000_1, x125001_1, rfl, HA, HK1, BK123, BK124, HB⟩ := hrel
    cases gk with
    | zero => exact absurd HA.out (by simp [paymasterref01_number.l0])
    | succ k1 =>
      have H := HA.out
      clear HA
      simp only [paymasterref01_number.l0] at H
      by_cases c4 : x5_1 ≥ 0
      · rw [if_pos c4] at H
        have c4b0 : decide (0 ≤ x5_1) = true := decide_eq_true c4
        clear c4
        have HC5 := Aside0.mk H
        clear H
        go_upto_region 5 with (fail)
        go_cut [21] (fun v21 wc => ∃ (kq : Nat) (x21_4 : Bool), v21 = .bool x21_4 ∧ Aside0 (paymasterref01_number.j1 kq l0 x5_1 x21_4 x125000_1 x125001_1 = some (r1, r2, r3)) ∧ Aside0 (kq ≤ k1) ∧ Aside0 (wc.heap[gb123]? = some (.cells #[.int .u64 x124000_1, .int .u64 x124001_1] 25 (0, 0))) ∧ Aside0 (wc.heap[gb124]? = some (.cells #[.int .u64 x125000_1, .int .u64 x125001_1] 25 (0, 0))) ∧ Aside0 (Below w.heap.size w wc))
        case first =>
          have H := HC5.out
          clear HC5
          by_cases c6 : x5_1 ≥ 8
          · rw [if_pos c6] at H
            have c6b0 : decide (8 ≤ x5_1) = true := decide_eq_true c6
            clear c6
            (first | rw [c6b0] | (simp only [i64_w, i32_w]; rw [c6b0]) | skip)
            by_cases c7 : 0 ≤ x5_1
            · rw [if_pos c7] at H
              have c7b0 : decide (0 ≤ x5_1) = true := decide_eq_true c7
              clear c7
              by_cases c8 : x5_1 < (l0.length : Int)
              · rw [if_pos c8] at H
                have c8b0 : decide (x5_1 < (l0.length : Int)) = true := decide_eq_true c8
                clear c8
                have H' := Aside0.mk H
                clear H
                have p125 : 0 ≤ (x5_1 : Int) := of_decide_eq_true (by first | (with_reducible assumption) | assumption)
                have q125 : x5_1 < (l0.length : Int) := of_decide_eq_true (by first | (with_reducible assumption) | assumption)
                obtain ⟨ad125, e125, hx125_0⟩ := Kd.at_int HR0.out x5_1 p125 q125
                cases e125
                replace hx125_0 := (HB.out.cell (World.block_lt_of_cell? w _ hx125_0)).trans hx125_0
                replace p125 := eq_true p125
                replace q125 := eq_true q125
                go_wp2
                go_meet
                case rel => exact ⟨_, (((rd l0 x5_1) != 0)), (by first | rfl | (simp; done) | (simp [*]; done)), H', ⟨by have := HK1.out; first | omega | exact Nat.le_refl _⟩, ⟨by (with_reducible repeat (first | refine blk_drewN ?_ _ | refine blk_drew ?_ | refine blk_alloc ?_ _)); exact BK123.out⟩, ⟨by (with_reducible repeat (first | refine blk_drewN ?_ _ | refine blk_drew ?_ | refine blk_alloc ?_ _)); exact BK124.out⟩, ⟨by repeat (first | (with_reducible first | exact HB.out | apply below_alloc | apply pw_below_drewN | apply below_drew1 | refine below_set ?_ GE123.out | refine below_set ?_ GE124.out) | exact HB.out)⟩⟩
              · rw [if_neg c8] at H
                exact absurd H (by simp)
            · rw [if_neg c7] at H
              exact absurd H (by simp)
          · rw [if_neg c6] at H
            have c6b0 : decide (8 ≤ x5_1) = false := decide_eq_false c6
            clear c6
            (first | rw [c6b0] | (simp only [i64_w, i32_w]; rw [c6b0]) | skip)
            have H' := Aside0.mk H
            clear H
            go_wp2
            go_meet
            case rel => exact ⟨_, (false), (by first | rfl | (simp; done) | (simp [*]; done)), H', ⟨by have := HK1.out; first | omega | exact Nat.le_refl _⟩, ⟨by (with_reducible repeat (first | refine blk_drewN ?_ _ | refine blk_drew ?_ | refine blk_alloc ?_ _)); exact BK123.out⟩, ⟨by (with_reducible repeat (first | refine blk_drewN ?_ _ | refine blk_drew ?_ | refine blk_alloc ?_ _)); exact BK124.out⟩, ⟨by repeat (first | (with_reducible first | exact HB.out | apply below_alloc | apply pw_below_drewN | apply below_drew1 | refine below_set ?_ GE123.out | refine below_set ?_ GE124.out) | exact HB.out)⟩⟩
        case rest =>
          clear HC5
          try clear p1
          try clear q1
          try clear hx1
          try clear p2
          try clear c4
          try clear c4b0
          try clear c6
          try clear c6b0
          try clear p6
          try clear c7
          try clear c7b0
          try clear c8
          try clear c8b0
          try clear hx125_0
          try clear p125
          try clear p2
          try clear q125
          obtain ⟨kq, x21_4, rfl, HA, HJ4, BK123, BK124, HB⟩ := hcut
          cases kq with
          | zero => exact absurd HA.out (by simp [paymasterref01_number.j1])
          | succ kj4 =>
            have H := HA.out
            clear HA
            simp only [paymasterref01_number.j1] at H
            by_cases c9 : x21_4 = true
            · subst c9
              have H1 : (some (0, 0, false)) = some (r1, r2, r3) := by rw [if_pos rfl] at H; exact H
              clear H
              have H := H1
              clear H1
              simp only [Option.some.injEq, Prod.mk.injEq] at H
              obtain ⟨rfl, rfl, rfl⟩ := H
              have hnb10 := NB123_124.out
              have hnc10 := NB124_123.out
              have hcz11_0 : wc.cell? ⟨gb123, 0, none⟩ = some (.int .u64 x124000_1) := (blk_cell BK123.out 0).trans rfl
              have hcz11_1 : wc.cell? ⟨gb123, 1, none⟩ = some (.int .u64 x124001_1) := (blk_cell BK123.out 1).trans rfl
              have hfz11_0 := blk_frozen BK123.out 0
              have hfz11_1 := blk_frozen BK123.out 1
              go_wp2
              refine bodyPost_ret (results_ct rfl _ _ gb123 25 #[.int .u64 0, .int .u64 0] (0, 0) _ rfl (by (with_reducible repeat (first | refine blk_drewN ?_ _ | refine blk_drew ?_ | refine blk_alloc ?_ _)); refine blk_put (cs := #[.int .u64 0, .int .u64 x124001_1]) ?_ 1 _ rfl; (with_reducible repeat (first | refine blk_drewN ?_ _ | refine blk_drew ?_ | refine blk_alloc ?_ _)); refine blk_put (cs := #[.int .u64 x124000_1, .int .u64 x124001_1]) ?_ 0 _ rfl; (with_reducible repeat (first | refine blk_drewN ?_ _ | refine blk_drew ?_ | refine blk_alloc ?_ _)); exact BK123.out) Try.underlying25 rfl (by kernel_rfl)) rfl ?_
              exact ⟨by first | rfl | (simp [errW_none, errW_some] <;> rfl) | (simp [*, errW_none, errW_some] <;> rfl), by repeat (first | (with_reducible first | exact HB.out | apply below_alloc | apply pw_below_drewN | apply below_drew1 | refine below_set ?_ GE123.out | refine below_set ?_ GE124.out) | exact HB.out)⟩
            · replace c9 := Bool.eq_false_iff.mpr c9
              subst c9
              have H1 : (if x5_1 < 8 then (paymasterref01_number.j2 kj4 l0 x5_1 (decide (x5_1 ≥ 4)) x125000_1 x125001_1) else (paymasterref01_number.j2 kj4 l0 x5_1 false x125000_1 x125001_1)) = some (r1, r2, r3) := by rw [if_neg (show ¬ (false = true) by decide)] at H; exact H
              clear H
              have H := H1
              clear H1
              have HC12 := Aside0.mk H
              clear H
              go_upto_region 7 with (fail)
              go_cut [28] (fun v28 wc => ∃ (kq : Nat) (x28_11 : Bool), v28 = .bool x28_11 ∧ Aside0 (paymasterref01_number.j2 kq l0 x5_1 x28_11 x125000_1 x125001_1 = some (r1, r2, r3)) ∧ Aside0 (kq ≤ kj4) ∧ Aside0 (wc.heap[gb123]? = some (.cells #[.int .u64 x124000_1, .int .u64 x124001_1] 25 (0, 0))) ∧ Aside0 (wc.heap[gb124]? = some (.cells #[.int .u64 x125000_1, .int .u64 x125001_1] 25 (0, 0))) ∧ Aside0 (Below w.heap.size w wc))
              case first =>
                have H := HC12.out
                clear HC12
                by_cases c13 : x5_1 < 8
                · rw [if_pos c13] at H
                  have c13b0 : decide (x5_1 < 8) = true := decide_eq_true c13
                  clear c13
                  (first | rw [c13b0] | (simp only [i64_w, i32_w]; rw [c13b0]) | skip)
                  have H' := Aside0.mk H
                  clear H
                  go_wp2
                  go_meet
                  case rel => exact ⟨_, (decide (x5_1 ≥ 4)), (by first | rfl | (simp; done) | (simp [*]; done)), H', ⟨by have := HK1.out; have := HJ4.out; first | omega | exact Nat.le_refl _⟩, ⟨by (with_reducible repeat (first | refine blk_drewN ?_ _ | refine blk_drew ?_ | refine blk_alloc ?_ _)); exact BK123.out⟩, ⟨by (with_reducible repeat (first | refine blk_drewN ?_ _ | refine blk_drew ?_ | refine blk_alloc ?_ _)); exact BK124.out⟩, ⟨by repeat (first | (with_reducible first | exact HB.out | apply below_alloc | apply pw_below_drewN | apply below_drew1 | refine below_set ?_ GE123.out | refine below_set ?_ GE124.out) | exact HB.out)⟩⟩
                · rw [if_neg c13] at H
                  have c13b0 : decide (x5_1 < 8) = false := decide_eq_false c13
                  clear c13
                  (first | rw [c13b0] | (simp only [i64_w, i32_w]; rw [c13b0]) | skip)
                  have H' := Aside0.mk H
                  clear H
                  go_wp2
                  go_meet
                  case rel => exact ⟨_, (false), (by first | rfl | (simp; done) | (simp [*]; done)), H', ⟨by have := HK1.out; have := HJ4.out; first | omega | exact Nat.le_refl _⟩, ⟨by (with_reducible repeat (first | refine blk_drewN ?_ _ | refine blk_drew ?_ | refine blk_alloc ?_ _)); exact BK123.out⟩, ⟨by (with_reducible repeat (first | refine blk_drewN ?_ _ | refine blk_drew ?_ | refine blk_alloc ?_ _)); exact BK124.out⟩, ⟨by repeat (first | (with_reducible first | exact HB.out | apply below_alloc | apply pw_below_drewN | apply below_drew1 | refine below_set ?_ GE123.out | refine below_set ?_ GE124.out) | exact HB.out)⟩⟩
              case rest =>
                clear HC12
                try clear c1
                try clear p1
                try clear q1
                try clear hx1
                try clear p2
                try clear c4
                try clear c4b0
                try clear c6
                try clear c6b0
                try clear p6
                try clear c7
                try clear c7b0
                try clear c8
                try clear c8b0
                try clear c9
                try clear c10
                try clear p12
                try clear q12
                try clear hx12
                try clear c13
                try clear c13b0
                try clear hcz11_0
                try clear hcz11_1
                try clear hfz11_0
                try clear hfz11_1
                try clear hx125_0
                try clear p1
                try clear p125
                try clear p2
                try clear p6
                try clear q1
                try clear q125
                obtain ⟨kq, x28_11, rfl, HA, HJ11, BK123, BK124, HB⟩ := hcut
                cases kq with
                | zero => exact absurd HA.out (by simp [paymasterref01_number.j2])
                | succ kj11 =>
                  have H := HA.out
                  clear HA
                  simp only [paymasterref01_number.j2] at H
                  by_cases c14 : x28_11 = true
                  · subst c14
                    have H1 : (if 0 ≤ x5_1 then (if x5_1 < (l0.length : Int) then (if x5_1 < 4 then (paymasterref01_number.l0 kj11 l0 (wrap64 (x5_1 - 1)) (IntKind.u64.wrap ((IntKind.u64.wrap (x125000_1 * 65536)) + (rd l0 x5_1))) (IntKind.u64.wrap ((IntKind.u64.wrap (x125001_1 * 65536)) + (rd l0 x5_1)))) else (paymasterref01_number.l0 kj11 l0 (wrap64 (x5_1 - 1)) (IntKind.u64.wrap ((IntKind.u64.wrap (x125000_1 * 65536)) + (rd l0 x5_1))) x125001_1)) else (none)) else (none)) = some (r1, r2, r3) := by rw [if_pos rfl] at H; exact H
                    clear H
                    have H := H1
                    clear H1
                    by_cases c15 : 0 ≤ x5_1
                    · rw [if_pos c15] at H
                      have c15b0 : decide (0 ≤ x5_1) = true := decide_eq_true c15
                      clear c15
                      by_cases c16 : x5_1 < (l0.length : Int)
                      · rw [if_pos c16] at H
                        have c16b0 : decide (x5_1 < (l0.length : Int)) = true := decide_eq_true c16
                        clear c16
                        by_cases c17 : x5_1 < 4
                        · rw [if_pos c17] at H
                          have c17b0 : decide (x5_1 < 4) = true := decide_eq_true c17
                          clear c17
                          have H' := Aside0.mk H
                          clear H
                          try go_wp2
                          have n0_ := Aside0.mk (blk_drew BK123.out)
                          have n1_ := Aside0.mk (blk_drew BK124.out)
                          have n2_ := Aside0.mk (below_drew1 HB.out)
                          clear BK123
                          clear BK124
                          clear HB
                          have BK123 := n0_
                          have BK124 := n1_
                          have HB := n2_
                          clear n0_ n1_ n2_
                          have p126 : 0 ≤ (x5_1 : Int) := of_decide_eq_true (by first | (with_reducible assumption) | assumption)
                          have q126 : x5_1 < (l0.length : Int) := of_decide_eq_true (by first | (with_reducible assumption) | assumption)
                          obtain ⟨ad126, e126, hx126_0⟩ := Kd.at_int HR0.out x5_1 p126 q126
                          have hw126_0 := hx126_0
                          cases e126
                          replace hx126_0 := (HB.out.cell (World.block_lt_of_cell? w _ hx126_0)).trans hx126_0
                          replace p126 := eq_true p126
                          replace q126 := eq_true q126
                          refine start_ (n := 10) (S := fun w' => w'.cell? ⟨gb124, 0, none⟩ = some (.int .u64 x125000_1) ∧ w'.cell? ⟨gb124, 1, none⟩ = some (.int .u64 x125001_1) ∧ w'.cell? (ad126.add (x5_1).toNat) = some (.int .u64 (rd l0 x5_1))) (ds := [9]) #[false, false, false, false, false, false, false, false, false, false] (by kernel_rfl) rfl rfl ⟨(blk_cell BK124.out 0).trans rfl, (blk_cell BK124.out 1).trans rfl, ((HB.out.cell (World.block_lt_of_cell? w _ hw126_0)).trans hw126_0)⟩ (fun hHeld => ?_); refine with_tabW paymasterref01_number.tab8 paymasterref01_number.bits8 (fun HT_ HW_ => ?_)
                          generalize wc.drew = w18 at BK123 BK124 HB hx126_0 hHeld ⊢
                          refine pure_ (i := 0) (N := some 29) (v := ?_) (a' := ?_) #[true, false, false, false, false, false, false, false, false, false] rfl rfl (any_of HT_.out (by kernel_rfl)) (fun _ _ _ h => h) (Or.inl ⟨by rfl, ?_⟩) ?_ ?_
                          rotate_left
                          · intro w'
                            go_simp
                            with_reducible rfl
                          rotate_left
                          · simp only [Act.put, List.setIfInBounds_toArray, List.set_cons_zero, List.set_cons_succ, i64_w, i32_w]
                            rfl
                          refine pure_ (i := 3) (N := some 32) (v := ?_) (a' := ?_) #[true, false, false, true, false, false, false, false, false, false] rfl rfl (any_of HT_.out (by kernel_rfl)) (fun _ _ _ h => h) (Or.inl ⟨by rfl, ?_⟩) ?_ ?_
                          rotate_left
                          · intro w'
                            go_simp
                            with_reducible rfl
                          rotate_left
                          · simp only [Act.put, List.setIfInBounds_toArray, List.set_cons_zero, List.set_cons_succ, i64_w, i32_w]
                            rfl
                          refine pure_ (i := 4) (N := some 33) (v := ?_) (a' := ?_) #[true, false, false, true, true, false, false, false, false, false] rfl rfl (any_of HT_.out (by kernel_rfl)) (fun _ _ _ h => h) (Or.inl ⟨by rfl, ?_⟩) ?_ ?_
                          rotate_left
                          · intro w'
                            go_simp
                            with_reducible rfl
                          rotate_left
                          · simp only [Act.put, List.setIfInBounds_toArray, List.set_cons_zero, List.set_cons_succ, i64_w, i32_w]
                            rfl
                          refine pure_ (i := 5) (N := some 34) (v := ?_) (a' := ?_) #[true, false, false, true, true, true, false, false, false, false] rfl rfl (any_of HT_.out (by kernel_rfl)) (fun _ _ _ h => h) (Or.inl ⟨by rfl, ?_⟩) ?_ ?_
                          rotate_left
                          · intro w'
                            go_simp
                            with_reducible rfl
                          rotate_left
                          · simp only [Act.put, List.setIfInBounds_toArray, List.set_cons_zero, List.set_cons_succ, i64_w, i32_w]
                            rfl
                          refine take_ (i := 1) (N := some 30) (v := ?_) (a' := ?_) #[true, true, false, true, true, true, false, false, false, false] rfl rfl (take_ofW HT_.out HW_.out (by kernel_rfl)) (fun _ _ _ h => h) (Or.inl ⟨by rfl, ?_⟩) hHeld ?_ ?_
                          rotate_left
                          · rintro w' ⟨s0, s1, s2⟩
                            go_simp
                            with_reducible rfl
                          rotate_left
                          · simp only [Act.put, List.setIfInBounds_toArray, List.set_cons_zero, List.set_cons_succ, i64_w, i32_w]
                            rfl
                          refine pure_ (i := 2) (N := some 31) (v := ?_) (a' := ?_) #[true, true, true, true, true, true, false, false, false, false] rfl rfl (any_of HT_.out (by kernel_rfl)) (fun _ _ _ h => h) (Or.inl ⟨by rfl, ?_⟩) ?_ ?_
                          rotate_left
                          · intro w'
                            go_simp
                            with_reducible rfl
                          rotate_left
                          · simp only [Act.put, List.setIfInBounds_toArray, List.set_cons_zero, List.set_cons_succ, i64_w, i32_w]
                            rfl
                          refine take_ (i := 6) (N := some 35) (v := ?_) (a' := ?_) #[true, true, true, true, true, true, true, false, false, false] rfl rfl (take_ofW HT_.out HW_.out (by kernel_rfl)) (fun _ _ _ h => h) (Or.inl ⟨by rfl, ?_⟩) hHeld ?_ ?_
                          rotate_left
                          · rintro w' ⟨s0, s1, s2⟩
                            go_simp
                            with_reducible rfl
                          rotate_left
                          · simp only [Act.put, List.setIfInBounds_toArray, List.set_cons_zero, List.set_cons_succ, i64_w, i32_w]
                            rfl
                          refine pure_ (i := 7) (N := some 36) (v := ?_) (a' := ?_) #[true, true, true, true, true, true, true, true, false, false] rfl rfl (any_of HT_.out (by kernel_rfl)) (fun _ _ _ h => h) (Or.inl ⟨by rfl, ?_⟩) ?_ ?_
                          rotate_left
                          · intro w'
                            go_simp
                            with_reducible rfl
                          rotate_left
                          · simp only [Act.put, List.setIfInBounds_toArray, List.set_cons_zero, List.set_cons_succ, i64_w, i32_w]
                            rfl
                          refine pure_ (i := 8) (N := some 37) (v := ?_) (a' := ?_) #[true, true, true, true, true, true, true, true, true, false] rfl rfl (any_of HT_.out (by kernel_rfl)) (fun _ _ _ h => h) (Or.inl ⟨by rfl, ?_⟩) ?_ ?_
                          rotate_left
                          · intro w'
                            go_simp
                            with_reducible rfl
                          rotate_left
                          · simp only [Act.put, List.setIfInBounds_toArray, List.set_cons_zero, List.set_cons_succ, i64_w, i32_w]
                            rfl
                          refine last_ (i := 9) (N := none) #[true, true, true, true, true, true, true, true, true, true] rfl rfl (one_of HT_.out (by kernel_rfl)) (by decide) (fun K hK => ?_)
                          have hs19 : w18.cell? ⟨gb124, 0, none⟩ = some (.int .u64 x125000_1) := (blk_cell BK124.out 0).trans rfl
                          have hfs19 := blk_frozen BK124.out 0
                          have hns19_0 := NB123_124.out
                          have hms19_0 := NB124_123.out
                          refine skip_ (w1 := ?_) (by rfl) rfl ?_ ?_
                          rotate_left
                          · go_simp
                            rfl
                          refine hK.out _ _ ?_
                          clear hK K
                          refine done_ (done_of HT_.out (by kernel_rfl)) ?_
                          try go_wp2
                          have n0_ : Aside0 ((w18.setCell ⟨gb124, 0, none⟩ (.int .u64 (IntKind.u64.wrap ((IntKind.u64.wrap (x125000_1 * 65536)) + (rd l0 x5_1))))).heap[gb123]? = some (.cells #[.int .u64 x124000_1, .int .u64 x124001_1] 25 (0, 0))) := ⟨by (with_reducible repeat (first | refine blk_drewN ?_ _ | refine blk_drew ?_ | refine blk_alloc ?_ _)); refine blk_far ?_ NB123_124.out _; (with_reducible repeat (first | refine blk_drewN ?_ _ | refine blk_drew ?_ | refine blk_alloc ?_ _)); exact BK123.out⟩
                          have n1_ : Aside0 ((w18.setCell ⟨gb124, 0, none⟩ (.int .u64 (IntKind.u64.wrap ((IntKind.u64.wrap (x125000_1 * 65536)) + (rd l0 x5_1))))).heap[gb124]? = some (.cells #[.int .u64 (IntKind.u64.wrap ((IntKind.u64.wrap (x125000_1 * 65536)) + (rd l0 x5_1))), .int .u64 x125001_1] 25 (0, 0))) := ⟨by (with_reducible repeat (first | refine blk_drewN ?_ _ | refine blk_drew ?_ | refine blk_alloc ?_ _)); refine blk_put (cs := #[.int .u64 x125000_1, .int .u64 x125001_1]) ?_ 0 _ rfl; (with_reducible repeat (first | refine blk_drewN ?_ _ | refine blk_drew ?_ | refine blk_alloc ?_ _)); exact BK124.out⟩
                          have n2_ : Aside0 (Below w.heap.size w (w18.setCell ⟨gb124, 0, none⟩ (.int .u64 (IntKind.u64.wrap ((IntKind.u64.wrap (x125000_1 * 65536)) + (rd l0 x5_1)))))) := ⟨by repeat (first | (with_reducible first | exact HB.out | apply below_alloc | apply pw_below_drewN | apply below_drew1 | refine below_set ?_ GE123.out | refine below_set ?_ GE124.out) | exact HB.out)⟩
                          (try clear BK123)
                          (try clear BK124)
                          (try clear HB)
                          generalize (w18.setCell ⟨gb124, 0, none⟩ (.int .u64 (IntKind.u64.wrap ((IntKind.u64.wrap (x125000_1 * 65536)) + (rd l0 x5_1))))) = w20 at n0_ n1_ n2_ ⊢
                          have BK123 := n0_
                          have BK124 := n1_
                          have HB := n2_
                          clear n0_ n1_ n2_
                          have n0_ := Aside0.mk (blk_drew BK123.out)
                          have n1_ := Aside0.mk (blk_drew BK124.out)
                          have n2_ := Aside0.mk (below_drew1 HB.out)
                          clear BK123
                          clear BK124
                          clear HB
                          have BK123 := n0_
                          have BK124 := n1_
                          have HB := n2_
                          clear n0_ n1_ n2_
                          have p127 : 0 ≤ (x5_1 : Int) := of_decide_eq_true (by first | (with_reducible assumption) | assumption)
                          have q127 : x5_1 < (l0.length : Int) := of_decide_eq_true (by first | (with_reducible assumption) | assumption)
                          obtain ⟨ad127, e127, hx127_0⟩ := Kd.at_int HR0.out x5_1 p127 q127
                          have hw127_0 := hx127_0
                          obtain rfl : ad126 = ad127 := (by injection e127)
                          replace hx127_0 := (HB.out.cell (World.block_lt_of_cell? w _ hx127_0)).trans hx127_0
                          replace p127 := eq_true p127
                          replace q127 := eq_true q127
                          refine start_ (n := 10) (S := fun w' => w'.cell? ⟨gb124, 0, none⟩ = some (.int .u64 (IntKind.u64.wrap ((IntKind.u64.wrap (x125000_1 * 65536)) + (rd l0 x5_1)))) ∧ w'.cell? ⟨gb124, 1, none⟩ = some (.int .u64 x125001_1) ∧ w'.cell? (ad126.add (x5_1).toNat) = some (.int .u64 (rd l0 x5_1))) (ds := [9]) #[false, false, false, false, false, false, false, false, false, false] (by kernel_rfl) rfl rfl ⟨(blk_cell BK124.out 0).trans rfl, (blk_cell BK124.out 1).trans rfl, ((HB.out.cell (World.block_lt_of_cell? w _ hw127_0)).trans hw127_0)⟩ (fun hHeld => ?_); refine with_tabW paymasterref01_number.tab10 paymasterref01_number.bits10 (fun HT_ HW_ => ?_)
                          generalize w20.drew = w21 at BK123 BK124 HB hx127_0 hHeld ⊢
                          refine pure_ (i := 0) (N := some 40) (v := ?_) (a' := ?_) #[true, false, false, false, false, false, false, false, false, false] rfl rfl (any_of HT_.out (by kernel_rfl)) (fun _ _ _ h => h) (Or.inl ⟨by rfl, ?_⟩) ?_ ?_
                          rotate_left
                          · intro w'
                            go_simp
                            with_reducible rfl
                          rotate_left
                          · simp only [Act.put, List.setIfInBounds_toArray, List.set_cons_zero, List.set_cons_succ, i64_w, i32_w]
                            rfl
                          refine pure_ (i := 3) (N := some 43) (v := ?_) (a' := ?_) #[true, false, false, true, false, false, false, false, false, false] rfl rfl (any_of HT_.out (by kernel_rfl)) (fun _ _ _ h => h) (Or.inl ⟨by rfl, ?_⟩) ?_ ?_
                          rotate_left
                          · intro w'
                            go_simp
                            with_reducible rfl
                          rotate_left
                          · simp only [Act.put, List.setIfInBounds_toArray, List.set_cons_zero, List.set_cons_succ, i64_w, i32_w]
                            rfl
                          refine pure_ (i := 4) (N := some 44) (v := ?_) (a' := ?_) #[true, false, false, true, true, false, false, false, false, false] rfl rfl (any_of HT_.out (by kernel_rfl)) (fun _ _ _ h => h) (Or.inl ⟨by rfl, ?_⟩) ?_ ?_
                          rotate_left
                          · intro w'
                            go_simp
                            with_reducible rfl
                          rotate_left
                          · simp only [Act.put, List.setIfInBounds_toArray, List.set_cons_zero, List.set_cons_succ, i64_w, i32_w]
                            rfl
                          refine pure_ (i := 5) (N := some 45) (v := ?_) (a' := ?_) #[true, false, false, true, true, true, false, false, false, false] rfl rfl (any_of HT_.out (by kernel_rfl)) (fun _ _ _ h => h) (Or.inl ⟨by rfl, ?_⟩) ?_ ?_
                          rotate_left
                          · intro w'
                            go_simp
                            with_reducible rfl
                          rotate_left
                          · simp only [Act.put, List.setIfInBounds_toArray, List.set_cons_zero, List.set_cons_succ, i64_w, i32_w]
                            rfl
                          refine take_ (i := 1) (N := some 41) (v := ?_) (a' := ?_) #[true, true, false, true, true, true, false, false, false, false] rfl rfl (take_ofW HT_.out HW_.out (by kernel_rfl)) (fun _ _ _ h => h) (Or.inl ⟨by rfl, ?_⟩) hHeld ?_ ?_
                          rotate_left
                          · rintro w' ⟨s0, s1, s2⟩
                            go_simp
                            with_reducible rfl
                          rotate_left
                          · simp only [Act.put, List.setIfInBounds_toArray, List.set_cons_zero, List.set_cons_succ, i64_w, i32_w]
                            rfl
                          refine pure_ (i := 2) (N := some 42) (v := ?_) (a' := ?_) #[true, true, true, true, true, true, false, false, false, false] rfl rfl (any_of HT_.out (by kernel_rfl)) (fun _ _ _ h => h) (Or.inl ⟨by rfl, ?_⟩) ?_ ?_
                          rotate_left
                          · intro w'
                            go_simp
                            with_reducible rfl
                          rotate_left
                          · simp only [Act.put, List.setIfInBounds_toArray, List.set_cons_zero, List.set_cons_succ, i64_w, i32_w]
                            rfl
                          refine take_ (i := 6) (N := some 46) (v := ?_) (a' := ?_) #[true, true, true, true, true, true, true, false, false, false] rfl rfl (take_ofW HT_.out HW_.out (by kernel_rfl)) (fun _ _ _ h => h) (Or.inl ⟨by rfl, ?_⟩) hHeld ?_ ?_
                          rotate_left
                          · rintro w' ⟨s0, s1, s2⟩
                            go_simp
                            with_reducible rfl
                          rotate_left
                          · simp only [Act.put, List.setIfInBounds_toArray, List.set_cons_zero, List.set_cons_succ, i64_w, i32_w]
                            rfl
                          refine pure_ (i := 7) (N := some 47) (v := ?_) (a' := ?_) #[true, true, true, true, true, true, true, true, false, false] rfl rfl (any_of HT_.out (by kernel_rfl)) (fun _ _ _ h => h) (Or.inl ⟨by rfl, ?_⟩) ?_ ?_
                          rotate_left
                          · intro w'
                            go_simp
                            with_reducible rfl
                          rotate_left
                          · simp only [Act.put, List.setIfInBounds_toArray, List.set_cons_zero, List.set_cons_succ, i64_w, i32_w]
                            rfl
                          refine pure_ (i := 8) (N := some 48) (v := ?_) (a' := ?_) #[true, true, true, true, true, true, true, true, true, false] rfl rfl (any_of HT_.out (by kernel_rfl)) (fun _ _ _ h => h) (Or.inl ⟨by rfl, ?_⟩) ?_ ?_
                          rotate_left
                          · intro w'
                            go_simp
                            with_reducible rfl
                          rotate_left
                          · simp only [Act.put, List.setIfInBounds_toArray, List.set_cons_zero, List.set_cons_succ, i64_w, i32_w]
                            rfl
                          refine last_ (i := 9) (N := none) #[true, true, true, true, true, true, true, true, true, true] rfl rfl (one_of HT_.out (by kernel_rfl)) (by decide) (fun K hK => ?_)
                          have hs22 : w21.cell? ⟨gb124, 1, none⟩ = some (.int .u64 x125001_1) := (blk_cell BK124.out 1).trans rfl
                          have hfs22 := blk_frozen BK124.out 1
                          have hns22_0 := NB123_124.out
                          have hms22_0 := NB124_123.out
                          refine skip_ (w1 := ?_) (by rfl) rfl ?_ ?_
                          rotate_left
                          · go_simp
                            rfl
                          refine hK.out _ _ ?_
                          clear hK K
                          refine done_ (done_of HT_.out (by kernel_rfl)) ?_
                          try go_wp2
                          go_roundg kj11
                          case measure => have := HK1.out; have := HJ4.out; have := HJ11.out; omega
                          case rel => exact ⟨(wrap64 (x5_1 - 1)), (x124000_1), (x124001_1), (IntKind.u64.wrap ((IntKind.u64.wrap (x125000_1 * 65536)) + (rd l0 x5_1))), (IntKind.u64.wrap ((IntKind.u64.wrap (x125001_1 * 65536)) + (rd l0 x5_1))), (by first | rfl | (simp; done) | (simp [*]; done)), H', ⟨by have := HK1.out; have := HJ4.out; have := HJ11.out; omega⟩, ⟨by (with_reducible repeat (first | refine blk_drewN ?_ _ | refine blk_drew ?_ | refine blk_alloc ?_ _)); refine blk_far ?_ NB123_124.out _; (with_reducible repeat (first | refine blk_drewN ?_ _ | refine blk_drew ?_ | refine blk_alloc ?_ _)); exact BK123.out⟩, ⟨by (with_reducible repeat (first | refine blk_drewN ?_ _ | refine blk_drew ?_ | refine blk_alloc ?_ _)); refine blk_put (cs := #[.int .u64 (IntKind.u64.wrap ((IntKind.u64.wrap (x125000_1 * 65536)) + (rd l0 x5_1))), .int .u64 x125001_1]) ?_ 1 _ rfl; (with_reducible repeat (first | refine blk_drewN ?_ _ | refine blk_drew ?_ | refine blk_alloc ?_ _)); exact BK124.out⟩, ⟨by repeat (first | (with_reducible first | exact HB.out | apply below_alloc | apply pw_below_drewN | apply below_drew1 | refine below_set ?_ GE123.out | refine below_set ?_ GE124.out) | exact HB.out)⟩⟩
                        · rw [if_neg c17] at H
                          have c17b0 : decide (x5_1 < 4) = false := decide_eq_false c17
                          clear c17
                          have H' := Aside0.mk H
                          clear H
                          try go_wp2
                          have n0_ := Aside0.mk (blk_drew BK123.out)
                          have n1_ := Aside0.mk (blk_drew BK124.out)
                          have n2_ := Aside0.mk (below_drew1 HB.out)
                          clear BK123
                          clear BK124
                          clear HB
                          have BK123 := n0_
                          have BK124 := n1_
                          have HB := n2_
                          clear n0_ n1_ n2_
                          have p126 : 0 ≤ (x5_1 : Int) := of_decide_eq_true (by first | (with_reducible assumption) | assumption)
                          have q126 : x5_1 < (l0.length : Int) := of_decide_eq_true (by first | (with_reducible assumption) | assumption)
                          obtain ⟨ad126, e126, hx126_0⟩ := Kd.at_int HR0.out x5_1 p126 q126
                          have hw126_0 := hx126_0
                          cases e126
                          replace hx126_0 := (HB.out.cell (World.block_lt_of_cell? w _ hx126_0)).trans hx126_0
                          replace p126 := eq_true p126
                          replace q126 := eq_true q126
                          refine start_ (n := 10) (S := fun w' => w'.cell? ⟨gb124, 0, none⟩ = some (.int .u64 x125000_1) ∧ w'.cell? ⟨gb124, 1, none⟩ = some (.int .u64 x125001_1) ∧ w'.cell? (ad126.add (x5_1).toNat) = some (.int .u64 (rd l0 x5_1))) (ds := [9]) #[false, false, false, false, false, false, false, false, false, false] (by kernel_rfl) rfl rfl ⟨(blk_cell BK124.out 0).trans rfl, (blk_cell BK124.out 1).trans rfl, ((HB.out.cell (World.block_lt_of_cell? w _ hw126_0)).trans hw126_0)⟩ (fun hHeld => ?_); refine with_tabW paymasterref01_number.tab8 paymasterref01_number.bits8 (fun HT_ HW_ => ?_)
                          generalize wc.drew = w23 at BK123 BK124 HB hx126_0 hHeld ⊢
                          refine pure_ (i := 0) (N := some 29) (v := ?_) (a' := ?_) #[true, false, false, false, false, false, false, false, false, false] rfl rfl (any_of HT_.out (by kernel_rfl)) (fun _ _ _ h => h) (Or.inl ⟨by rfl, ?_⟩) ?_ ?_
                          rotate_left
                          · intro w'
                            go_simp
                            with_reducible rfl
                          rotate_left
                          · simp only [Act.put, List.setIfInBounds_toArray, List.set_cons_zero, List.set_cons_succ, i64_w, i32_w]
                            rfl
                          refine pure_ (i := 3) (N := some 32) (v := ?_) (a' := ?_) #[true, false, false, true, false, false, false, false, false, false] rfl rfl (any_of HT_.out (by kernel_rfl)) (fun _ _ _ h => h) (Or.inl ⟨by rfl, ?_⟩) ?_ ?_
                          rotate_left
                          · intro w'
                            go_simp
                            with_reducible rfl
                          rotate_left
                          · simp only [Act.put, List.setIfInBounds_toArray, List.set_cons_zero, List.set_cons_succ, i64_w, i32_w]
                            rfl
                          refine pure_ (i := 4) (N := some 33) (v := ?_) (a' := ?_) #[true, false, false, true, true, false, false, false, false, false] rfl rfl (any_of HT_.out (by kernel_rfl)) (fun _ _ _ h => h) (Or.inl ⟨by rfl, ?_⟩) ?_ ?_
                          rotate_left
                          · intro w'
                            go_simp
                            with_reducible rfl
                          rotate_left
                          · simp only [Act.put, List.setIfInBounds_toArray, List.set_cons_zero, List.set_cons_succ, i64_w, i32_w]
                            rfl
                          refine pure_ (i := 5) (N := some 34) (v := ?_) (a' := ?_) #[true, false, false, true, true, true, false, false, false, false] rfl rfl (any_of HT_.out (by kernel_rfl)) (fun _ _ _ h => h) (Or.inl ⟨by rfl, ?_⟩) ?_ ?_
                          rotate_left
                          · intro w'
                            go_simp
                            with_reducible rfl
                          rotate_left
                          · simp only [Act.put, List.setIfInBounds_toArray, List.set_cons_zero, List.set_cons_succ, i64_w, i32_w]
                            rfl
                          refine take_ (i := 1) (N := some 30) (v := ?_) (a' := ?_) #[true, true, false, true, true, true, false, false, false, false] rfl rfl (take_ofW HT_.out HW_.out (by kernel_rfl)) (fun _ _ _ h => h) (Or.inl ⟨by rfl, ?_⟩) hHeld ?_ ?_
                          rotate_left
                          · rintro w' ⟨s0, s1, s2⟩
                            go_simp
                            with_reducible rfl
                          rotate_left
                          · simp only [Act.put, List.setIfInBounds_toArray, List.set_cons_zero, List.set_cons_succ, i64_w, i32_w]
                            rfl
                          refine pure_ (i := 2) (N := some 31) (v := ?_) (a' := ?_) #[true, true, true, true, true, true, false, false, false, false] rfl rfl (any_of HT_.out (by kernel_rfl)) (fun _ _ _ h => h) (Or.inl ⟨by rfl, ?_⟩) ?_ ?_
                          rotate_left
                          · intro w'
                            go_simp
                            with_reducible rfl
                          rotate_left
                          · simp only [Act.put, List.setIfInBounds_toArray, List.set_cons_zero, List.set_cons_succ, i64_w, i32_w]
                            rfl
                          refine take_ (i := 6) (N := some 35) (v := ?_) (a' := ?_) #[true, true, true, true, true, true, true, false, false, false] rfl rfl (take_ofW HT_.out HW_.out (by kernel_rfl)) (fun _ _ _ h => h) (Or.inl ⟨by rfl, ?_⟩) hHeld ?_ ?_
                          rotate_left
                          · rintro w' ⟨s0, s1, s2⟩
                            go_simp
                            with_reducible rfl
                          rotate_left
                          · simp only [Act.put, List.setIfInBounds_toArray, List.set_cons_zero, List.set_cons_succ, i64_w, i32_w]
                            rfl
                          refine pure_ (i := 7) (N := some 36) (v := ?_) (a' := ?_) #[true, true, true, true, true, true, true, true, false, false] rfl rfl (any_of HT_.out (by kernel_rfl)) (fun _ _ _ h => h) (Or.inl ⟨by rfl, ?_⟩) ?_ ?_
                          rotate_left
                          · intro w'
                            go_simp
                            with_reducible rfl
                          rotate_left
                          · simp only [Act.put, List.setIfInBounds_toArray, List.set_cons_zero, List.set_cons_succ, i64_w, i32_w]
                            rfl
                          refine pure_ (i := 8) (N := some 37) (v := ?_) (a' := ?_) #[true, true, true, true, true, true, true, true, true, false] rfl rfl (any_of HT_.out (by kernel_rfl)) (fun _ _ _ h => h) (Or.inl ⟨by rfl, ?_⟩) ?_ ?_
                          rotate_left
                          · intro w'
                            go_simp
                            with_reducible rfl
                          rotate_left
                          · simp only [Act.put, List.setIfInBounds_toArray, List.set_cons_zero, List.set_cons_succ, i64_w, i32_w]
                            rfl
                          refine last_ (i := 9) (N := none) #[true, true, true, true, true, true, true, true, true, true] rfl rfl (one_of HT_.out (by kernel_rfl)) (by decide) (fun K hK => ?_)
                          have hs24 : w23.cell? ⟨gb124, 0, none⟩ = some (.int .u64 x125000_1) := (blk_cell BK124.out 0).trans rfl
                          have hfs24 := blk_frozen BK124.out 0
                          have hns24_0 := NB123_124.out
                          have hms24_0 := NB124_123.out
                          refine skip_ (w1 := ?_) (by rfl) rfl ?_ ?_
                          rotate_left
                          · go_simp
                            rfl
                          refine hK.out _ _ ?_
                          clear hK K
                          refine done_ (done_of HT_.out (by kernel_rfl)) ?_
                          try go_wp2
                          go_roundg kj11
                          case measure => have := HK1.out; have := HJ4.out; have := HJ11.out; omega
                          case rel => exact ⟨(wrap64 (x5_1 - 1)), (x124000_1), (x124001_1), (IntKind.u64.wrap ((IntKind.u64.wrap (x125000_1 * 65536)) + (rd l0 x5_1))), (x125001_1), (by first | rfl | (simp; done) | (simp [*]; done)), H', ⟨by have := HK1.out; have := HJ4.out; have := HJ11.out; omega⟩, ⟨by (with_reducible repeat (first | refine blk_drewN ?_ _ | refine blk_drew ?_ | refine blk_alloc ?_ _)); refine blk_far ?_ NB123_124.out _; (with_reducible repeat (first | refine blk_drewN ?_ _ | refine blk_drew ?_ | refine blk_alloc ?_ _)); exact BK123.out⟩, ⟨by (with_reducible repeat (first | refine blk_drewN ?_ _ | refine blk_drew ?_ | refine blk_alloc ?_ _)); refine blk_put (cs := #[.int .u64 x125000_1, .int .u64 x125001_1]) ?_ 0 _ rfl; (with_reducible repeat (first | refine blk_drewN ?_ _ | refine blk_drew ?_ | refine blk_alloc ?_ _)); exact BK124.out⟩, ⟨by repeat (first | (with_reducible first | exact HB.out | apply below_alloc | apply pw_below_drewN | apply below_drew1 | refine below_set ?_ GE123.out | refine below_set ?_ GE124.out) | exact HB.out)⟩⟩
                      · rw [if_neg c16] at H
                        exact absurd H (by simp)
                    · rw [if_neg c15] at H
                      exact absurd H (by simp)
                  · replace c14 := Bool.eq_false_iff.mpr c14
                    subst c14
                    have H1 : (if x5_1 < 4 then (if 0 ≤ x5_1 then (if x5_1 < (l0.length : Int) then (paymasterref01_number.l0 kj11 l0 (wrap64 (x5_1 - 1)) x125000_1 (IntKind.u64.wrap ((IntKind.u64.wrap (x125001_1 * 65536)) + (rd l0 x5_1)))) else (none)) else (none)) else (paymasterref01_number.l0 kj11 l0 (wrap64 (x5_1 - 1)) x125000_1 x125001_1)) = some (r1, r2, r3) := by rw [if_neg (show ¬ (false = true) by decide)] at H; exact H
                    clear H
                    have H := H1
                    clear H1
                    by_cases c25 : x5_1 < 4
                    · rw [if_pos c25] at H
                      have c25b0 : decide (x5_1 < 4) = true := decide_eq_true c25
                      clear c25
                      by_cases c26 : 0 ≤ x5_1
                      · rw [if_pos c26] at H
                        have c26b0 : decide (0 ≤ x5_1) = true := decide_eq_true c26
                        clear c26
                        by_cases c27 : x5_1 < (l0.length : Int)
                        · rw [if_pos c27] at H
                          have c27b0 : decide (x5_1 < (l0.length : Int)) = true := decide_eq_true c27
                          clear c27
                          have H' := Aside0.mk H
                          clear H
                          try go_wp2
                          have n0_ := Aside0.mk (blk_drew BK123.out)
                          have n1_ := Aside0.mk (blk_drew BK124.out)
                          have n2_ := Aside0.mk (below_drew1 HB.out)
                          clear BK123
                          clear BK124
                          clear HB
                          have BK123 := n0_
                          have BK124 := n1_
                          have HB := n2_
                          clear n0_ n1_ n2_
                          have p128 : 0 ≤ (x5_1 : Int) := of_decide_eq_true (by first | (with_reducible assumption) | assumption)
                          have q128 : x5_1 < (l0.length : Int) := of_decide_eq_true (by first | (with_reducible assumption) | assumption)
                          obtain ⟨ad128, e128, hx128_0⟩ := Kd.at_int HR0.out x5_1 p128 q128
                          have hw128_0 := hx128_0
                          cases e128
                          replace hx128_0 := (HB.out.cell (World.block_lt_of_cell? w _ hx128_0)).trans hx128_0
                          replace p128 := eq_true p128
                          replace q128 := eq_true q128
                          refine start_ (n := 10) (S := fun w' => w'.cell? ⟨gb124, 0, none⟩ = some (.int .u64 x125000_1) ∧ w'.cell? ⟨gb124, 1, none⟩ = some (.int .u64 x125001_1) ∧ w'.cell? (ad128.add (x5_1).toNat) = some (.int .u64 (rd l0 x5_1))) (ds := [9]) #[false, false, false, false, false, false, false, false, false, false] (by kernel_rfl) rfl rfl ⟨(blk_cell BK124.out 0).trans rfl, (blk_cell BK124.out 1).trans rfl, ((HB.out.cell (World.block_lt_of_cell? w _ hw128_0)).trans hw128_0)⟩ (fun hHeld => ?_); refine with_tabW paymasterref01_number.tab10 paymasterref01_number.bits10 (fun HT_ HW_ => ?_)
                          generalize wc.drew = w28 at BK123 BK124 HB hx128_0 hHeld ⊢
                          refine pure_ (i := 0) (N := some 40) (v := ?_) (a' := ?_) #[true, false, false, false, false, false, false, false, false, false] rfl rfl (any_of HT_.out (by kernel_rfl)) (fun _ _ _ h => h) (Or.inl ⟨by rfl, ?_⟩) ?_ ?_
                          rotate_left
                          · intro w'
                            go_simp
                            with_reducible rfl
                          rotate_left
                          · simp only [Act.put, List.setIfInBounds_toArray, List.set_cons_zero, List.set_cons_succ, i64_w, i32_w]
                            rfl
                          refine pure_ (i := 3) (N := some 43) (v := ?_) (a' := ?_) #[true, false, false, true, false, false, false, false, false, false] rfl rfl (any_of HT_.out (by kernel_rfl)) (fun _ _ _ h => h) (Or.inl ⟨by rfl, ?_⟩) ?_ ?_
                          rotate_left
                          · intro w'
                            go_simp
                            with_reducible rfl
                          rotate_left
                          · simp only [Act.put, List.setIfInBounds_toArray, List.set_cons_zero, List.set_cons_succ, i64_w, i32_w]
                            rfl
                          refine pure_ (i := 4) (N := some 44) (v := ?_) (a' := ?_) #[true, false, false, true, true, false, false, false, false, false] rfl rfl (any_of HT_.out (by kernel_rfl)) (fun _ _ _ h => h) (Or.inl ⟨by rfl, ?_⟩) ?_ ?_
                          rotate_left
                          · intro w'
                            go_simp
                            with_reducible rfl
                          rotate_left
                          · simp only [Act.put, List.setIfInBounds_toArray, List.set_cons_zero, List.set_cons_succ, i64_w, i32_w]
                            rfl
                          refine pure_ (i := 5) (N := some 45) (v := ?_) (a' := ?_) #[true, false, false, true, true, true, false, false, false, false] rfl rfl (any_of HT_.out (by kernel_rfl)) (fun _ _ _ h => h) (Or.inl ⟨by rfl, ?_⟩) ?_ ?_
                          rotate_left
                          · intro w'
                            go_simp
                            with_reducible rfl
                          rotate_left
                          · simp only [Act.put, List.setIfInBounds_toArray, List.set_cons_zero, List.set_cons_succ, i64_w, i32_w]
                            rfl
                          refine take_ (i := 1) (N := some 41) (v := ?_) (a' := ?_) #[true, true, false, true, true, true, false, false, false, false] rfl rfl (take_ofW HT_.out HW_.out (by kernel_rfl)) (fun _ _ _ h => h) (Or.inl ⟨by rfl, ?_⟩) hHeld ?_ ?_
                          rotate_left
                          · rintro w' ⟨s0, s1, s2⟩
                            go_simp
                            with_reducible rfl
                          rotate_left
                          · simp only [Act.put, List.setIfInBounds_toArray, List.set_cons_zero, List.set_cons_succ, i64_w, i32_w]
                            rfl
                          refine pure_ (i := 2) (N := some 42) (v := ?_) (a' := ?_) #[true, true, true, true, true, true, false, false, false, false] rfl rfl (any_of HT_.out (by kernel_rfl)) (fun _ _ _ h => h) (Or.inl ⟨by rfl, ?_⟩) ?_ ?_
                          rotate_left
                          · intro w'
                            go_simp
                            with_reducible rfl
                          rotate_left
                          · simp only [Act.put, List.setIfInBounds_toArray, List.set_cons_zero, List.set_cons_succ, i64_w, i32_w]
                            rfl
                          refine take_ (i := 6) (N := some 46) (v := ?_) (a' := ?_) #[true, true, true, true, true, true, true, false, false, false] rfl rfl (take_ofW HT_.out HW_.out (by kernel_rfl)) (fun _ _ _ h => h) (Or.inl ⟨by rfl, ?_⟩) hHeld ?_ ?_
                          rotate_left
                          · rintro w' ⟨s0, s1, s2⟩
                            go_simp
                            with_reducible rfl
                          rotate_left
                          · simp only [Act.put, List.setIfInBounds_toArray, List.set_cons_zero, List.set_cons_succ, i64_w, i32_w]
                            rfl
                          refine pure_ (i := 7) (N := some 47) (v := ?_) (a' := ?_) #[true, true, true, true, true, true, true, true, false, false] rfl rfl (any_of HT_.out (by kernel_rfl)) (fun _ _ _ h => h) (Or.inl ⟨by rfl, ?_⟩) ?_ ?_
                          rotate_left
                          · intro w'
                            go_simp
                            with_reducible rfl
                          rotate_left
                          · simp only [Act.put, List.setIfInBounds_toArray, List.set_cons_zero, List.set_cons_succ, i64_w, i32_w]
                            rfl
                          refine pure_ (i := 8) (N := some 48) (v := ?_) (a' := ?_) #[true, true, true, true, true, true, true, true, true, false] rfl rfl (any_of HT_.out (by kernel_rfl)) (fun _ _ _ h => h) (Or.inl ⟨by rfl, ?_⟩) ?_ ?_
                          rotate_left
                          · intro w'
                            go_simp
                            with_reducible rfl
                          rotate_left
                          · simp only [Act.put, List.setIfInBounds_toArray, List.set_cons_zero, List.set_cons_succ, i64_w, i32_w]
                            rfl
                          refine last_ (i := 9) (N := none) #[true, true, true, true, true, true, true, true, true, true] rfl rfl (one_of HT_.out (by kernel_rfl)) (by decide) (fun K hK => ?_)
                          have hs29 : w28.cell? ⟨gb124, 1, none⟩ = some (.int .u64 x125001_1) := (blk_cell BK124.out 1).trans rfl
                          have hfs29 := blk_frozen BK124.out 1
                          have hns29_0 := NB123_124.out
                          have hms29_0 := NB124_123.out
                          refine skip_ (w1 := ?_) (by rfl) rfl ?_ ?_
                          rotate_left
                          · go_simp
                            rfl
                          refine hK.out _ _ ?_
                          clear hK K
                          refine done_ (done_of HT_.out (by kernel_rfl)) ?_
                          try go_wp2
                          go_roundg kj11
                          case measure => have := HK1.out; have := HJ4.out; have := HJ11.out; omega
                          case rel => exact ⟨(wrap64 (x5_1 - 1)), (x124000_1), (x124001_1), (x125000_1), (IntKind.u64.wrap ((IntKind.u64.wrap (x125001_1 * 65536)) + (rd l0 x5_1))), (by first | rfl | (simp; done) | (simp [*]; done)), H', ⟨by have := HK1.out; have := HJ4.out; have := HJ11.out; omega⟩, ⟨by (with_reducible repeat (first | refine blk_drewN ?_ _ | refine blk_drew ?_ | refine blk_alloc ?_ _)); refine blk_far ?_ NB123_124.out _; (with_reducible repeat (first | refine blk_drewN ?_ _ | refine blk_drew ?_ | refine blk_alloc ?_ _)); exact BK123.out⟩, ⟨by (with_reducible repeat (first | refine blk_drewN ?_ _ | refine blk_drew ?_ | refine blk_alloc ?_ _)); refine blk_put (cs := #[.int .u64 x125000_1, .int .u64 x125001_1]) ?_ 1 _ rfl; (with_reducible repeat (first | refine blk_drewN ?_ _ | refine blk_drew ?_ | refine blk_alloc ?_ _)); exact BK124.out⟩, ⟨by repeat (first | (with_reducible first | exact HB.out | apply below_alloc | apply pw_below_drewN | apply below_drew1 | refine below_set ?_ GE123.out | refine below_set ?_ GE124.out) | exact HB.out)⟩⟩
                        · rw [if_neg c27] at H
                          exact absurd H (by simp)
                      · rw [if_neg c26] at H
                        exact absurd H (by simp)
                    · rw [if_neg c25] at H
                      have c25b0 : decide (x5_1 < 4) = false := decide_eq_false c25
                      clear c25
                      have H' := Aside0.mk H
                      clear H
                      go_wp2
                      go_roundg kj11
                      case measure => have := HK1.out; have := HJ4.out; have := HJ11.out; omega
                      case rel => exact ⟨(wrap64 (x5_1 - 1)), (x124000_1), (x124001_1), (x125000_1), (x125001_1), (by first | rfl | (simp; done) | (simp [*]; done)), H', ⟨by have := HK1.out; have := HJ4.out; have := HJ11.out; omega⟩, ⟨by (with_reducible repeat (first | refine blk_drewN ?_ _ | refine blk_drew ?_ | refine blk_alloc ?_ _)); exact BK123.out⟩, ⟨by (with_reducible repeat (first | refine blk_drewN ?_ _ | refine blk_drew ?_ | refine blk_alloc ?_ _)); exact BK124.out⟩, ⟨by repeat (first | (with_reducible first | exact HB.out | apply below_alloc | apply pw_below_drewN | apply below_drew1 | refine below_set ?_ GE123.out | refine below_set ?_ GE124.out) | exact HB.out)⟩⟩
      · rw [if_neg c4] at H
        have c4b0 : decide (0 ≤ x5_1) = false := decide_eq_false c4
        clear c4
        simp only [Option.some.injEq, Prod.mk.injEq] at H
        obtain ⟨rfl, rfl, rfl⟩ := H
        have hnb30 := NB124_123.out
        have hnc30 := NB123_124.out
        have hcz31_0 : wr.cell? ⟨gb124, 0, none⟩ = some (.int .u64 x125000_1) := (blk_cell BK124.out 0).trans rfl
        have hcz31_1 : wr.cell? ⟨gb124, 1, none⟩ = some (.int .u64 x125001_1) := (blk_cell BK124.out 1).trans rfl
        have hfz31_0 := blk_frozen BK124.out 0
        have hfz31_1 := blk_frozen BK124.out 1
        have hcz32_0 : wr.cell? ⟨gb123, 0, none⟩ = some (.int .u64 x124000_1) := (blk_cell BK123.out 0).trans rfl
        have hcz32_1 : wr.cell? ⟨gb123, 1, none⟩ = some (.int .u64 x124001_1) := (blk_cell BK123.out 1).trans rfl
        have hfz32_0 := blk_frozen BK123.out 0
        have hfz32_1 := blk_frozen BK123.out 1
        go_wp2
        refine bodyPost_ret (results_ct rfl _ _ gb123 25 #[.int .u64 x125000_1, .int .u64 x125001_1] (0, 0) _ rfl (by (with_reducible repeat (first | refine blk_drewN ?_ _ | refine blk_drew ?_ | refine blk_alloc ?_ _)); refine blk_put (cs := #[.int .u64 x125000_1, .int .u64 x124001_1]) ?_ 1 _ rfl; (with_reducible repeat (first | refine blk_drewN ?_ _ | refine blk_drew ?_ | refine blk_alloc ?_ _)); refine blk_put (cs := #[.int .u64 x124000_1, .int .u64 x124001_1]) ?_ 0 _ rfl; (with_reducible repeat (first | refine blk_drewN ?_ _ | refine blk_drew ?_ | refine blk_alloc ?_ _)); exact BK123.out) Try.underlying25 rfl (by kernel_rfl)) rfl ?_
        exact ⟨by first | rfl | (simp [errW_none, errW_some] <;> rfl) | (simp [*, errW_none, errW_some] <;> rfl), by repeat (first | (with_reducible first | exact HB.out | apply below_alloc | apply pw_below_drewN | apply below_drew1 | refine below_set ?_ GE123.out | refine below_set ?_ GE124.out) | exact HB.out)⟩
end Go.Proofs.Ytpkjpiphjdpegaa.P
namespace Go.Proofs.Ytpkjpiphjdpegaa.P
open Go.RowKit Go.Proofs.YtpkjpiphjdpegaaW.PrintWords Go.Proofs.YtpkjpiphjdpegaaW.PrintLast Go.Proofs.YtpkjpiphjdpegaaW.PrintMore
attribute [local go_sem] max2_int min2_int max_two min_two max_three min_three max_four min_four
set_option linter.unusedVariables false
set_option linter.unusedSimpArgs false
mutual
def paymasterref01_digits.l0 : Nat → List Int → Int → Int → Int → Option (List Int)
  | 0, _, _, _, _ => none
  | k + 1, x3, x4, x130000, x130001 => if x4 < 4 then (if x3.length < 17592186044416 then (paymasterref01_digits.l0 k (x3 ++ [Int.tmod x130001 65536]) (wrap64 (x4 + 1)) x130000 (IntKind.u64.wrap (Int.tdiv x130001 65536))) else (none)) else (paymasterref01_digits.l1 k x3 0 x130000 x130001)
def paymasterref01_digits.l1 : Nat → List Int → Int → Int → Int → Option (List Int)
  | 0, _, _, _, _ => none
  | k + 1, x3, x5, x130000, x130001 => if x5 < 4 then (if x3.length < 17592186044416 then (paymasterref01_digits.l1 k (x3 ++ [Int.tmod x130000 65536]) (wrap64 (x5 + 1)) (IntKind.u64.wrap (Int.tdiv x130000 65536)) x130001) else (none)) else (some x3)
end
def paymasterref01_digits.f (k : Nat) (a0_0 : Int) (a0_1 : Int) : Option (List Int) := paymasterref01_digits.l0 k ([] : List Int) 0 a0_0 a0_1
theorem paymasterref01_digits.mono_l : ∀ k, (∀ y0 y1 y2 y3, LeO (paymasterref01_digits.l0 k y0 y1 y2 y3) (paymasterref01_digits.l0 (k + 1) y0 y1 y2 y3)) ∧ (∀ y0 y1 y2 y3, LeO (paymasterref01_digits.l1 k y0 y1 y2 y3) (paymasterref01_digits.l1 (k + 1) y0 y1 y2 y3))
  | 0 => ⟨fun _ _ _ _ r h => by simp [paymasterref01_digits.l0] at h, fun _ _ _ _ r h => by simp [paymasterref01_digits.l1] at h⟩
  | k + 1 => by
    obtain ⟨ih0, ih1⟩ := paymasterref01_digits.mono_l k
    refine ⟨?_, ?_⟩
    · intro y0 y1 y2 y3
      unfold paymasterref01_digits.l0
      repeat' first
      | (with_reducible exact ih0 _ _ _ _)
      | (with_reducible exact ih1 _ _ _ _)
      | (with_reducible exact LeO.refl _)
      | (with_reducible exact LeO.none _)
      | (with_reducible refine LeO.ite ?_ ?_)
      | (with_reducible refine LeO.bind ?_ (fun _ => ?_))
      | exact ih0 _ _ _ _
      | exact ih1 _ _ _ _
      | exact LeO.none _
      | refine LeO.ite ?_ ?_
      | refine LeO.bind ?_ (fun _ => ?_)
    · intro y0 y1 y2 y3
      unfold paymasterref01_digits.l1
      repeat' first
      | (with_reducible exact ih0 _ _ _ _)
      | (with_reducible exact ih1 _ _ _ _)
      | (with_reducible exact LeO.refl _)
      | (with_reducible exact LeO.none _)
      | (with_reducible refine LeO.ite ?_ ?_)
      | (with_reducible refine LeO.bind ?_ (fun _ => ?_))
      | exact ih0 _ _ _ _
      | exact ih1 _ _ _ _
      | exact LeO.none _
      | refine LeO.ite ?_ ?_
      | refine LeO.bind ?_ (fun _ => ?_)
theorem paymasterref01_digits.mono : ∀ a0 a1 k, LeO (paymasterref01_digits.f k a0 a1) (paymasterref01_digits.f (k + 1) a0 a1) := by
  intro a0 a1 k
  obtain ⟨ih0, ih1⟩ := paymasterref01_digits.mono_l k
  unfold paymasterref01_digits.f
  repeat' first
      | (with_reducible exact ih0 _ _ _ _)
      | (with_reducible exact ih1 _ _ _ _)
      | (with_reducible exact LeO.refl _)
      | (with_reducible exact LeO.none _)
      | (with_reducible refine LeO.ite ?_ ?_)
      | (with_reducible refine LeO.bind ?_ (fun _ => ?_))
      | exact ih0 _ _ _ _
      | exact ih1 _ _ _ _
      | exact LeO.none _
      | refine LeO.ite ?_ ?_
      | refine LeO.bind ?_ (fun _ => ?_)
set_option maxHeartbeats 8000000 in
set_option maxRecDepth 100000 in
theorem paymasterref01_digits.calls (k : Nat) (a0_0 : Int) (a0_1 : Int) (r : List Int) (w : World) (h : paymasterref01_digits.f k a0_0 a0_1 = some r) :
    Calls Try.prog 84 #[.agg #[.int .u64 a0_0, .int .u64 a0_1]] w fun e w' => ∃ v0_ : Value, e = .returned (v0_) ∧ Kd.R (Kd.int .u64) 23 w' w.heap.size (fun _ => True) v0_ r ∧ Below w.heap.size w w' := by
  have hu25 := Try.underlying25
  have HB := Aside0.mk (Below.refl w.heap.size w)
  have H : (paymasterref01_digits.l0 k ([] : List Int) 0 a0_0 a0_1) = some r := h
  clear h
  have H' := Aside0.mk H
  clear H
  go_enter Try.func84, Try.ntmps84
  go_wp2_with (first | ((with_reducible refine gate_dst (N := 1) rfl ?_); refine box_event ?hg (N := 1) ?hd (cs := #[.int .u64 a0_0, .int .u64 a0_1]) (t := 25) ?hr ?_; (case hd => rfl); (case hg => rfl); (case hr => first | (go_simp; done) | (go_simp; rfl)); intro gb129 hg w2 hbox hb; have n0_ := Aside0.mk (below_step (by repeat (first | (with_reducible first | exact HB.out | apply below_alloc | apply pw_below_drewN | apply below_drew1) | exact HB.out)) hb); have n1_ := Aside0.mk (hbox); have n2_ := Aside0.mk ((by rw [hg]; exact (below_size (by repeat (first | (with_reducible first | exact HB.out | apply below_alloc | apply pw_below_drewN | apply below_drew1) | exact HB.out))) : w.heap.size ≤ gb129)); have n3_ := Aside0.mk ((by rw [hg]; exact (below_size (by repeat (first | (with_reducible first | exact HB.out | apply below_alloc | apply pw_below_drewN | apply below_drew1) | exact HB.out))) : w.heap.size ≤ gb129)); clear HB; have HB := n0_; have BK129 := n1_; have GW129 := n2_; have GE129 := n3_; clear n0_ n1_ n2_ n3_; clear hb hbox hg))
  go_loopg [3, 4] k (fun kq v3 v4 w' => ∃ (x3_1 : List Int) (x4_1 : Int) (x130001_1 : Int), v4 = .int .i64 x4_1 ∧ Aside0 (paymasterref01_digits.l0 kq x3_1 x4_1 a0_0 x130001_1 = some r) ∧ Aside0 (kq ≤ k) ∧ Aside0 (Kd.R (Kd.int .u64) 23 w' w.heap.size (fun _ => True) v3 x3_1) ∧ Aside0 (w'.heap[gb129]? = some (.cells #[.int .u64 a0_0, .int .u64 x130001_1] 25 (0, 0))) ∧ Aside0 (Below w.heap.size w w'))
  case atStart => exact ⟨(([] : List Int)), (0), (a0_1), (by first | rfl | (simp; done) | (simp [*]; done)), H', ⟨Nat.le_refl _⟩, ⟨by first | exact Kd.R_nil _ _ _ _ _ | exact Kd.N_nil _ _ _ _ _ | exact Kd.V_nil _ _ _ _ _ | exact Kd.Q_nil _ _ _ _ _ | exact Kd.S_nil _ _ _ _ _⟩, ⟨by (with_reducible repeat (first | refine blk_drewN ?_ _ | refine blk_drew ?_ | refine blk_alloc ?_ _)); exact BK129.out⟩, ⟨by repeat (first | (with_reducible first | exact HB.out | apply below_alloc | apply pw_below_drewN | apply below_drew1 | refine below_set ?_ GE129.out) | exact HB.out)⟩⟩
  case round =>
    clear H'
    try clear p2
    obtain ⟨x3_1, x4_1, x130001_1, rfl, HA, HK1, HO_3, BK129, HB⟩ := hrel
    cases gk with
    | zero => exact absurd HA.out (by simp [paymasterref01_digits.l0])
    | succ k1 =>
      have H := HA.out
      clear HA
      simp only [paymasterref01_digits.l0] at H
      by_cases c3 : x4_1 < 4
      · rw [if_pos c3] at H
        have c3b0 : decide (x4_1 < 4) = true := decide_eq_true c3
        clear c3
        by_cases c4 : x3_1.length < 17592186044416
        · rw [if_pos c4] at H
          have LMc4 := Aside0.mk c4
          clear c4
          obtain ⟨y130, hy130⟩ : ∃ y_ : List Int, y_ = (x3_1 ++ [Int.tmod x130001_1 65536]) := ⟨_, rfl⟩
          replace H : (paymasterref01_digits.l0 k1 y130 (wrap64 (x4_1 + 1)) a0_0 (IntKind.u64.wrap (Int.tdiv x130001_1 65536))) = some r := by first | (rw [hy130]; with_reducible exact H) | (have H2_ := (Option.bind_some _ _).symm.trans H; rw [hy130]; with_reducible exact H2_) | (have H2_ := (Option.bind_some _ _).symm.trans H; with_reducible exact H2_) | with_reducible exact H | (rw [hy130]; exact H) | exact H
          have Ny130 := Aside0.mk hy130
          clear hy130
          have H' := Aside0.mk H
          clear H
          have hcz5_0 : wr.cell? ⟨gb129, 0, none⟩ = some (.int .u64 a0_0) := (blk_cell BK129.out 0).trans rfl
          have hcz5_1 : wr.cell? ⟨gb129, 1, none⟩ = some (.int .u64 x130001_1) := (blk_cell BK129.out 1).trans rfl
          have hfz5_0 := blk_frozen BK129.out 0
          have hfz5_1 := blk_frozen BK129.out 1
          go_wp2_with (first | ((with_reducible refine gate_builtin (b := .append) (xs := #[.tmp 10, .tmp 14]) rfl ?_); at_builtin; refine Kd.R_append (Kd.int .u64) (w0 := w) w.heap.size rfl (.tmp 10) (.tmp 14) 95 23 (.int .u64 0) 8 rfl Try.underlying95 info23 rfl (by decide) (by omega) u3 x3_1 (Int.tmod x130001_1 65536) [.int .u64 (Int.tmod x130001_1 65536)] (fun _ => True) (fun _ => False) rfl rfl ?aP (fun _ hk => hk.elim) ?aF ?aO ?aB ?aS ?aL ?_; (case aP => exact rfl); (case aB => exact (by repeat (first | (with_reducible first | exact HB.out | apply below_alloc | apply pw_below_drewN | apply below_drew1 | refine below_set ?_ GE129.out) | exact HB.out))); (case aF => exact (fun _ _ => trivial)); (case aO => exact (by (with_reducible repeat (first | apply Kd.R_alloc | apply Kd.R_drewN | apply Kd.R_drew)); exact HO_3.out)); (case aS => exact (below_size (by repeat (first | (with_reducible first | exact HB.out | apply below_alloc | apply pw_below_drewN | apply below_drew1 | refine below_set ?_ GE129.out) | exact HB.out)))); (case aL => have := LMc4.out; omega); intro v131 w6 ho hb hg hat; rw [← Ny130.out] at ho; have n0_ := Aside0.mk (blk_grown (g := gb129) (o := .cells #[.int .u64 a0_0, .int .u64 x130001_1] 25 (0, 0)) (by (with_reducible repeat (first | refine blk_drewN ?_ _ | refine blk_drew ?_ | refine blk_alloc ?_ _)); exact BK129.out) hg (Kd.R_ne HO_3.out BK129.out (by decide))); have n1_ := Aside0.mk (hb); have n2_ := Aside0.mk (ho); clear BK129; clear HB; clear HO_3; have BK129 := n0_; have HB := n1_; have HO132 := n2_; clear n0_ n1_ n2_; clear ho hb hg hat; have hcz7_0 : w6.cell? ⟨gb129, 0, none⟩ = some (.int .u64 a0_0) := (blk_cell BK129.out 0).trans rfl; have hcz7_1 : w6.cell? ⟨gb129, 1, none⟩ = some (.int .u64 x130001_1) := (blk_cell BK129.out 1).trans rfl; have hfz7_0 := blk_frozen BK129.out 0; have hfz7_1 := blk_frozen BK129.out 1))
          go_roundg k1
          case measure => have := HK1.out; omega
          case rel => exact ⟨(y130), (wrap64 (x4_1 + 1)), (IntKind.u64.wrap (Int.tdiv x130001_1 65536)), (by first | rfl | (simp; done) | (simp [*]; done)), H', ⟨by have := HK1.out; omega⟩, ⟨by (with_reducible repeat (first | apply Kd.R_alloc | apply Kd.R_drewN | apply Kd.R_drew)); exact Kd.R_mono (Kd.R_far (p := ⟨gb129, 1, none⟩) (Kd.R_types HO132.out BK129.out (by decide)) (fun _ hk => hk.2) (.int .u64 (IntKind.u64.wrap (Int.tdiv x130001_1 65536)))) (fun _ hk => trivial)⟩, ⟨by (with_reducible repeat (first | refine blk_drewN ?_ _ | refine blk_drew ?_ | refine blk_alloc ?_ _)); refine blk_put (cs := #[.int .u64 a0_0, .int .u64 x130001_1]) ?_ 1 _ rfl; (with_reducible repeat (first | refine blk_drewN ?_ _ | refine blk_drew ?_ | refine blk_alloc ?_ _)); exact BK129.out⟩, ⟨by repeat (first | (with_reducible first | exact HB.out | apply below_alloc | apply pw_below_drewN | apply below_drew1 | refine below_set ?_ GE129.out) | exact HB.out)⟩⟩
        · rw [if_neg c4] at H
          exact absurd H (by simp)
      · rw [if_neg c3] at H
        have c3b0 : decide (x4_1 < 4) = false := decide_eq_false c3
        clear c3
        have H' := Aside0.mk H
        clear H
        go_wp2
        go_loopg [3, 5] k1 (fun kq v3 v5 w' => ∃ (x3_2 : List Int) (x5_2 : Int) (x130000_2 : Int), v5 = .int .i64 x5_2 ∧ Aside0 (paymasterref01_digits.l1 kq x3_2 x5_2 x130000_2 x130001_1 = some r) ∧ Aside0 (kq ≤ k1) ∧ Aside0 (Kd.R (Kd.int .u64) 23 w' w.heap.size (fun _ => True) v3 x3_2) ∧ Aside0 (w'.heap[gb129]? = some (.cells #[.int .u64 x130000_2, .int .u64 x130001_1] 25 (0, 0))) ∧ Aside0 (Below w.heap.size w w'))
        case atStart => exact ⟨(x3_1), (0), (a0_0), (by first | rfl | (simp; done) | (simp [*]; done)), H', ⟨Nat.le_refl _⟩, ⟨by (with_reducible repeat (first | apply Kd.R_alloc | apply Kd.R_drewN | apply Kd.R_drew)); exact HO_3.out⟩, ⟨by (with_reducible repeat (first | refine blk_drewN ?_ _ | refine blk_drew ?_ | refine blk_alloc ?_ _)); exact BK129.out⟩, ⟨by repeat (first | (with_reducible first | exact HB.out | apply below_alloc | apply pw_below_drewN | apply below_drew1 | refine below_set ?_ GE129.out) | exact HB.out)⟩⟩
        case round =>
          clear H'
          try clear p2
          try clear c3
          try clear c3b0
          try clear c4
          try clear p6
          try clear hcz5_0
          try clear hcz5_1
          try clear hcz7_0
          try clear hcz7_1
          try clear hfz5_0
          try clear hfz5_1
          try clear hfz7_0
          try clear hfz7_1
          try clear p2
          obtain ⟨x3_2, x5_2, x130000_2, rfl, HA, HK2, HO_3, BK129, HB⟩ := hrel
          cases gk with
          | zero => exact absurd HA.out (by simp [paymasterref01_digits.l1])
          | succ k2 =>
            have H := HA.out
            clear HA
            simp only [paymasterref01_digits.l1] at H
            by_cases c8 : x5_2 < 4
            · rw [if_pos c8] at H
              have c8b0 : decide (x5_2 < 4) = true := decide_eq_true c8
              clear c8
              by_cases c9 : x3_2.length < 17592186044416
              · rw [if_pos c9] at H
                have LMc9 := Aside0.mk c9
                clear c9
                obtain ⟨y133, hy133⟩ : ∃ y_ : List Int, y_ = (x3_2 ++ [Int.tmod x130000_2 65536]) := ⟨_, rfl⟩
                replace H : (paymasterref01_digits.l1 k2 y133 (wrap64 (x5_2 + 1)) (IntKind.u64.wrap (Int.tdiv x130000_2 65536)) x130001_1) = some r := by first | (rw [hy133]; with_reducible exact H) | (have H2_ := (Option.bind_some _ _).symm.trans H; rw [hy133]; with_reducible exact H2_) | (have H2_ := (Option.bind_some _ _).symm.trans H; with_reducible exact H2_) | with_reducible exact H | (rw [hy133]; exact H) | exact H
                have Ny133 := Aside0.mk hy133
                clear hy133
                have H' := Aside0.mk H
                clear H
                have hcz10_0 : wr.cell? ⟨gb129, 0, none⟩ = some (.int .u64 x130000_2) := (blk_cell BK129.out 0).trans rfl
                have hcz10_1 : wr.cell? ⟨gb129, 1, none⟩ = some (.int .u64 x130001_1) := (blk_cell BK129.out 1).trans rfl
                have hfz10_0 := blk_frozen BK129.out 0
                have hfz10_1 := blk_frozen BK129.out 1
                go_wp2_with (first | ((with_reducible refine gate_builtin (b := .append) (xs := #[.tmp 24, .tmp 28]) rfl ?_); at_builtin; refine Kd.R_append (Kd.int .u64) (w0 := w) w.heap.size rfl (.tmp 24) (.tmp 28) 95 23 (.int .u64 0) 8 rfl Try.underlying95 info23 rfl (by decide) (by omega) u3 x3_2 (Int.tmod x130000_2 65536) [.int .u64 (Int.tmod x130000_2 65536)] (fun _ => True) (fun _ => False) rfl rfl ?aP (fun _ hk => hk.elim) ?aF ?aO ?aB ?aS ?aL ?_; (case aP => exact rfl); (case aB => exact (by repeat (first | (with_reducible first | exact HB.out | apply below_alloc | apply pw_below_drewN | apply below_drew1 | refine below_set ?_ GE129.out) | exact HB.out))); (case aF => exact (fun _ _ => trivial)); (case aO => exact (by (with_reducible repeat (first | apply Kd.R_alloc | apply Kd.R_drewN | apply Kd.R_drew)); exact HO_3.out)); (case aS => exact (below_size (by repeat (first | (with_reducible first | exact HB.out | apply below_alloc | apply pw_below_drewN | apply below_drew1 | refine below_set ?_ GE129.out) | exact HB.out)))); (case aL => have := LMc9.out; omega); intro v134 w11 ho hb hg hat; rw [← Ny133.out] at ho; have n0_ := Aside0.mk (blk_grown (g := gb129) (o := .cells #[.int .u64 x130000_2, .int .u64 x130001_1] 25 (0, 0)) (by (with_reducible repeat (first | refine blk_drewN ?_ _ | refine blk_drew ?_ | refine blk_alloc ?_ _)); exact BK129.out) hg (Kd.R_ne HO_3.out BK129.out (by decide))); have n1_ := Aside0.mk (hb); have n2_ := Aside0.mk (ho); clear BK129; clear HB; clear HO_3; have BK129 := n0_; have HB := n1_; have HO135 := n2_; clear n0_ n1_ n2_; clear ho hb hg hat; have hcz12_0 : w11.cell? ⟨gb129, 0, none⟩ = some (.int .u64 x130000_2) := (blk_cell BK129.out 0).trans rfl; have hcz12_1 : w11.cell? ⟨gb129, 1, none⟩ = some (.int .u64 x130001_1) := (blk_cell BK129.out 1).trans rfl; have hfz12_0 := blk_frozen BK129.out 0; have hfz12_1 := blk_frozen BK129.out 1))
                go_roundg k2
                case measure => have := HK1.out; have := HK2.out; omega
                case rel => exact ⟨(y133), (wrap64 (x5_2 + 1)), (IntKind.u64.wrap (Int.tdiv x130000_2 65536)), (by first | rfl | (simp; done) | (simp [*]; done)), H', ⟨by have := HK1.out; have := HK2.out; omega⟩, ⟨by (with_reducible repeat (first | apply Kd.R_alloc | apply Kd.R_drewN | apply Kd.R_drew)); exact Kd.R_mono (Kd.R_far (p := ⟨gb129, 0, none⟩) (Kd.R_types HO135.out BK129.out (by decide)) (fun _ hk => hk.2) (.int .u64 (IntKind.u64.wrap (Int.tdiv x130000_2 65536)))) (fun _ hk => trivial)⟩, ⟨by (with_reducible repeat (first | refine blk_drewN ?_ _ | refine blk_drew ?_ | refine blk_alloc ?_ _)); refine blk_put (cs := #[.int .u64 x130000_2, .int .u64 x130001_1]) ?_ 0 _ rfl; (with_reducible repeat (first | refine blk_drewN ?_ _ | refine blk_drew ?_ | refine blk_alloc ?_ _)); exact BK129.out⟩, ⟨by repeat (first | (with_reducible first | exact HB.out | apply below_alloc | apply pw_below_drewN | apply below_drew1 | refine below_set ?_ GE129.out) | exact HB.out)⟩⟩
              · rw [if_neg c9] at H
                exact absurd H (by simp)
            · rw [if_neg c8] at H
              have c8b0 : decide (x5_2 < 4) = false := decide_eq_false c8
              clear c8
              obtain rfl := Option.some.inj H
              go_wp2
              go_ret
              exact ⟨_, by first | rfl | (simp [errW_none, errW_some] <;> rfl) | (simp [*, errW_none, errW_some] <;> rfl), by (with_reducible repeat (first | apply Kd.R_alloc | apply Kd.R_drewN | apply Kd.R_drew)); exact HO_3.out, by repeat (first | (with_reducible first | exact HB.out | apply below_alloc | apply pw_below_drewN | apply below_drew1 | refine below_set ?_ GE129.out) | exact HB.out)⟩
end Go.Proofs.Ytpkjpiphjdpegaa.P
namespace Go.Proofs.Ytpkjpiphjdpegaa.P
open Go.RowKit Go.Proofs.YtpkjpiphjdpegaaW.PrintWords Go.Proofs.YtpkjpiphjdpegaaW.PrintLast Go.Proofs.YtpkjpiphjdpegaaW.PrintMore
set_option linter.unusedVariables false
set_option linter.unusedSimpArgs false
theorem wu (x : Int) (h0 : 0 ≤ x) (h1 : x < 18446744073709551616) : IntKind.u64.wrap x = x := by rw [IntKind.wrap_u64]; omega
theorem wi (x : Int) (h0 : -9223372036854775808 ≤ x) (h1 : x < 9223372036854775808) : wrap64 x = x := by unfold wrap64; omega
theorem tm (x : Int) (h0 : 0 ≤ x) : Int.tmod x 65536 = x % 65536 := Int.tmod_eq_emod_of_nonneg h0
theorem td (x : Int) (h0 : 0 ≤ x) : Int.tdiv x 65536 = x / 65536 := Int.tdiv_eq_ediv_of_nonneg h0
def dg (hi lo : Int) : List Int := [lo % 65536, lo / 65536 % 65536, lo / 65536 / 65536 % 65536, lo / 65536 / 65536 / 65536 % 65536, hi % 65536, hi / 65536 % 65536, hi / 65536 / 65536 % 65536, hi / 65536 / 65536 / 65536 % 65536]
theorem dg_step {k : Nat} (l : List Int) (i x y : Int) (hi : 0 ≤ i) (hi4 : i < 4) (hl : l.length < 100) (hx : 0 ≤ y) (hy : y < 18446744073709551616) :
    paymasterref01_digits.l0 (k + 1) l i x y = paymasterref01_digits.l0 k (l ++ [y % 65536]) (i + 1) x (y / 65536) := by
  simp only [paymasterref01_digits.l0]
  rw [if_pos hi4, if_pos (by omega), tm _ hx, td _ hx, wu _ (by omega) (by omega), wi _ (by omega) (by omega)]
theorem dg_step1 {k : Nat} (l : List Int) (i x y : Int) (hi : 0 ≤ i) (hi4 : i < 4) (hl : l.length < 100) (hx : 0 ≤ x) (hy : x < 18446744073709551616) :
    paymasterref01_digits.l1 (k + 1) l i x y = paymasterref01_digits.l1 k (l ++ [x % 65536]) (i + 1) (x / 65536) y := by
  simp only [paymasterref01_digits.l1]
  rw [if_pos hi4, if_pos (by omega), tm _ hx, td _ hx, wu _ (by omega) (by omega), wi _ (by omega) (by omega)]
theorem digits_is (k : Nat) (hi lo : Int) (h : U64 hi) (h' : U64 lo) : paymasterref01_digits.f (k + 10) hi lo = some (dg hi lo) := by
  unfold paymasterref01_digits.f
  rw [dg_step _ 0 _ _ (by omega) (by omega) (by simp) h'.1 h'.2, dg_step _ _ _ _ (by omega) (by omega) (by simp) (by omega) (by omega), dg_step _ _ _ _ (by omega) (by omega) (by simp) (by omega) (by omega), dg_step _ _ _ _ (by omega) (by omega) (by simp) (by omega) (by omega)]
  simp only [paymasterref01_digits.l0]
  rw [if_neg (by omega)]
  rw [dg_step1 _ 0 _ _ (by omega) (by omega) (by simp) h.1 h.2, dg_step1 _ _ _ _ (by omega) (by omega) (by simp) (by omega) (by omega), dg_step1 _ _ _ _ (by omega) (by omega) (by simp) (by omega) (by omega), dg_step1 _ _ _ _ (by omega) (by omega) (by simp) (by omega) (by omega)]
  simp only [paymasterref01_digits.l1]
  rw [if_neg (by omega)]
  rfl
def D16 (x : Int) : Prop := 0 ≤ x ∧ x < 65536
theorem num_hi {k : Nat} (l : List Int) (i j a b : Int) (hj : i = j + 1) (h4 : 4 ≤ i) (h8 : i < 8) (hl : i < l.length) (ha : 0 ≤ a) (ha' : a < 281474976710656) (hd : D16 (rd l i)) :
    paymasterref01_number.l0 (k + 3) l i a b = paymasterref01_number.l0 k l j (a * 65536 + rd l i) b := by
  obtain rfl : j = i - 1 := by omega
  obtain ⟨d0, d1⟩ := hd
  simp only [paymasterref01_number.l0, paymasterref01_number.j1, paymasterref01_number.j2]
  rw [if_pos (by omega), if_neg (by omega), if_neg (by simp), if_pos h8, if_pos (by simpa using h4), if_pos (by omega), if_pos hl, if_neg (by omega), wu (a * 65536) (by omega) (by omega), wu _ (by omega) (by omega), wi _ (by omega) (by omega)]
theorem num_lo {k : Nat} (l : List Int) (i j a b : Int) (hj : i = j + 1) (h4 : 0 ≤ i) (h8 : i < 4) (hl : i < l.length) (ha : 0 ≤ b) (ha' : b < 281474976710656) (hd : D16 (rd l i)) :
    paymasterref01_number.l0 (k + 3) l i a b = paymasterref01_number.l0 k l j a (b * 65536 + rd l i) := by
  obtain rfl : j = i - 1 := by omega
  obtain ⟨d0, d1⟩ := hd
  simp only [paymasterref01_number.l0, paymasterref01_number.j1, paymasterref01_number.j2]
  rw [if_pos (by omega), if_neg (by omega), if_neg (by simp), if_pos (by omega), if_neg (by simp; omega), if_pos (by omega), if_pos (by omega), if_pos hl, wu (b * 65536) (by omega) (by omega), wu _ (by omega) (by omega), wi _ (by omega) (by omega)]
theorem num_top {k : Nat} (l : List Int) (i a b : Int) (h8 : 8 ≤ i) (hl : i < l.length) (hb : i < 100) :
    paymasterref01_number.l0 (k + 3) l i a b = if rd l i = 0 then paymasterref01_number.l0 k l (i - 1) a b else some (0, 0, false) := by
  simp only [paymasterref01_number.l0, paymasterref01_number.j1, paymasterref01_number.j2]
  rw [if_pos (by omega), if_pos (by omega), if_pos (by omega), if_pos hl]
  by_cases h : rd l i = 0
  · rw [if_pos h, if_neg (by simp [h]), if_neg (by omega), if_neg (by simp), if_neg (by omega), wi _ (by omega) (by omega)]
  · rw [if_neg h, if_pos (by simpa using h)]
theorem num_end {k : Nat} (l : List Int) (a b : Int) : paymasterref01_number.l0 (k + 1) l (-1) a b = some (a, b, true) := by
  simp only [paymasterref01_number.l0]
  rw [if_neg (by omega)]
def hf (a b c d : Int) : Int := ((d * 65536 + c) * 65536 + b) * 65536 + a
theorem num_body (k : Nat) (l : List Int) (a b c d e f g h : Int) (hl : 8 ≤ l.length) (e0 : rd l 0 = a) (e1 : rd l 1 = b) (e2 : rd l 2 = c) (e3 : rd l 3 = d) (e4 : rd l 4 = e) (e5 : rd l 5 = f) (e6 : rd l 6 = g) (e7 : rd l 7 = h)
    (ha : D16 a) (hb : D16 b) (hc : D16 c) (hd : D16 d) (he : D16 e) (hf_ : D16 f) (hg : D16 g) (hh : D16 h) :
    paymasterref01_number.l0 (k + 25) l 7 0 0 = some (hf e f g h, hf a b c d, true) := by
  have b0 := ha; have b1 := hb; have b2 := hc; have b3 := hd; have b4 := he; have b5 := hf_; have b6 := hg; have b7 := hh
  unfold D16 at b0 b1 b2 b3 b4 b5 b6 b7
  subst e0 e1 e2 e3 e4 e5 e6 e7
  rw [num_hi l 7 (6) _ _ rfl (by omega) (by omega) (by omega) (by omega) (by omega) hh, num_hi l 6 (5) _ _ rfl (by omega) (by omega) (by omega) (by omega) (by omega) hg, num_hi l 5 (4) _ _ rfl (by omega) (by omega) (by omega) (by omega) (by omega) hf_, num_hi l 4 (3) _ _ rfl (by omega) (by omega) (by omega) (by omega) (by omega) he, num_lo l 3 (2) _ _ rfl (by omega) (by omega) (by omega) (by omega) (by omega) hd, num_lo l 2 (1) _ _ rfl (by omega) (by omega) (by omega) (by omega) (by omega) hc, num_lo l 1 (0) _ _ rfl (by omega) (by omega) (by omega) (by omega) (by omega) hb, num_lo l 0 (-1) _ _ rfl (by omega) (by omega) (by omega) (by omega) (by omega) ha]
  refine (num_end (k := k) l _ _).trans ?_
  unfold hf
  simp only [Int.zero_mul, Int.zero_add]
theorem number8 (k : Nat) (a b c d e f g h : Int) (ha : D16 a) (hb : D16 b) (hc : D16 c) (hd : D16 d) (he : D16 e) (hf_ : D16 f) (hg : D16 g) (hh : D16 h) :
    paymasterref01_number.f (k + 25) [a, b, c, d, e, f, g, h] = some (hf e f g h, hf a b c d, true) := by
  unfold paymasterref01_number.f
  rw [show wrap64 (([a, b, c, d, e, f, g, h].length : Int) - 1) = 7 from by simp [wrap64]]
  exact num_body k _ a b c d e f g h (by simp) rfl rfl rfl rfl rfl rfl rfl rfl ha hb hc hd he hf_ hg hh
theorem split4 (x : Int) (h : U64 x) : ∃ d0 d1 d2 d3 : Int, x % 65536 = d0 ∧ x / 65536 % 65536 = d1 ∧ x / 65536 / 65536 % 65536 = d2 ∧ x / 65536 / 65536 / 65536 % 65536 = d3 ∧ D16 d0 ∧ D16 d1 ∧ D16 d2 ∧ D16 d3 ∧ x = hf d0 d1 d2 d3 := by
  obtain ⟨h0, h1⟩ := h
  refine ⟨_, _, _, _, rfl, rfl, rfl, rfl, ?_⟩
  unfold D16 hf
  obtain ⟨a, ha⟩ : ∃ a, x / 65536 = a := ⟨_, rfl⟩
  rw [ha]
  obtain ⟨b, hb⟩ : ∃ b, a / 65536 = b := ⟨_, rfl⟩
  rw [hb]
  obtain ⟨c, hc⟩ : ∃ c, b / 65536 = c := ⟨_, rfl⟩
  rw [hc]
  have e0 : x = a * 65536 + x % 65536 := by omega
  have e1 : a = b * 65536 + a % 65536 := by omega
  have e2 : b = c * 65536 + b % 65536 := by omega
  have c1 : 0 ≤ c ∧ c < 65536 := by omega
  generalize hx : x % 65536 = p at *
  generalize hy : a % 65536 = q at *
  generalize hz : b % 65536 = r at *
  have hw : c % 65536 = c := by omega
  rw [hw]
  refine ⟨by omega, by omega, by omega, by omega, ?_⟩
  clear ha hb hc hx hy hz hw h0 h1 c1
  subst e2
  subst e1
  exact e0
end Go.Proofs.Ytpkjpiphjdpegaa.P
namespace Go.Proofs.Ytpkjpiphjdpegaa.P
open Go.RowKit Go.Proofs.YtpkjpiphjdpegaaW.PrintWords Go.Proofs.YtpkjpiphjdpegaaW.PrintLast Go.Proofs.YtpkjpiphjdpegaaW.PrintMore
attribute [local go_sem] max2_int min2_int max_two min_two max_three min_three max_four min_four
set_option linter.unusedVariables false
set_option linter.unusedSimpArgs false
def bits_Mul64.f (a0 : Int) (a1 : Int) : Option (Int × Int) := some (IntKind.u64.wrap ((IntKind.u64.wrap ((IntKind.u64.wrap ((a0 / 4294967296) * (a1 / 4294967296))) + ((IntKind.u64.wrap ((IntKind.u64.wrap ((a0 / 4294967296) * (Go.bits .and .u64 a1 4294967295))) + ((IntKind.u64.wrap ((Go.bits .and .u64 a0 4294967295) * (Go.bits .and .u64 a1 4294967295))) / 4294967296))) / 4294967296))) + ((IntKind.u64.wrap ((Go.bits .and .u64 (IntKind.u64.wrap ((IntKind.u64.wrap ((a0 / 4294967296) * (Go.bits .and .u64 a1 4294967295))) + ((IntKind.u64.wrap ((Go.bits .and .u64 a0 4294967295) * (Go.bits .and .u64 a1 4294967295))) / 4294967296))) 4294967295) + (IntKind.u64.wrap ((Go.bits .and .u64 a0 4294967295) * (a1 / 4294967296))))) / 4294967296)), IntKind.u64.wrap (a0 * a1))
set_option maxHeartbeats 8000000 in
set_option maxRecDepth 100000 in
theorem bits_Mul64.calls (a0 : Int) (a1 : Int) (r1 : Int) (r2 : Int) (w : World) (h : bits_Mul64.f a0 a1 = some (r1, r2)) :
    Calls Try.prog 89 #[.int .u64 a0, .int .u64 a1] w fun e w' => e = .returned (.tuple #[.int .u64 r1, .int .u64 r2]) ∧ Drawn0 w w' := by
  have H : (some (IntKind.u64.wrap ((IntKind.u64.wrap ((IntKind.u64.wrap ((a0 / 4294967296) * (a1 / 4294967296))) + ((IntKind.u64.wrap ((IntKind.u64.wrap ((a0 / 4294967296) * (Go.bits .and .u64 a1 4294967295))) + ((IntKind.u64.wrap ((Go.bits .and .u64 a0 4294967295) * (Go.bits .and .u64 a1 4294967295))) / 4294967296))) / 4294967296))) + ((IntKind.u64.wrap ((Go.bits .and .u64 (IntKind.u64.wrap ((IntKind.u64.wrap ((a0 / 4294967296) * (Go.bits .and .u64 a1 4294967295))) + ((IntKind.u64.wrap ((Go.bits .and .u64 a0 4294967295) * (Go.bits .and .u64 a1 4294967295))) / 4294967296))) 4294967295) + (IntKind.u64.wrap ((Go.bits .and .u64 a0 4294967295) * (a1 / 4294967296))))) / 4294967296)), IntKind.u64.wrap (a0 * a1))) = some (r1, r2) := h
  clear h
  simp only [Option.some.injEq, Prod.mk.injEq] at H
  obtain ⟨rfl, rfl⟩ := H
  go_enter Try.func89, Try.ntmps89
  go_wp2
  go_ret2
  exact ⟨by first | rfl | (simp; done) | (simp [*]; done), by repeat (first | exact Drawn0.refl _ | apply Drawn0.step)⟩
mutual
def paymasterref01_Times.l0 : Nat → List Int → List Int → List Int → Int → Option (Int × Int × Int)
  | 0, _, _, _, _ => none
  | k + 1, x6, x7, x8, x9 => if x9 < 8 then (paymasterref01_Times.l1 k x6 x7 x8 x9 0) else ((paymasterref01_number.f k x8).bind fun bt869 => (if bt869.2.2 = true then (some (bt869.1, bt869.2.1, 0)) else (some (0, 0, 10))))
def paymasterref01_Times.l1 : Nat → List Int → List Int → List Int → Int → Int → Option (Int × Int × Int)
  | 0, _, _, _, _, _ => none
  | k + 1, x6, x7, x8, x9, x10 => if x10 < 4 then (if 0 ≤ x9 then (if x9 < (x6.length : Int) then (if 0 ≤ x10 then (if x10 < (x7.length : Int) then (paymasterref01_Times.l2 k x6 x7 x8 x9 x10 (IntKind.u64.wrap ((rd x6 x9) * (rd x7 x10))) (wrap64 (x9 + x10))) else (none)) else (none)) else (none)) else (none)) else (paymasterref01_Times.l0 k x6 x7 x8 (wrap64 (x9 + 1)))
def paymasterref01_Times.l2 : Nat → List Int → List Int → List Int → Int → Int → Int → Int → Option (Int × Int × Int)
  | 0, _, _, _, _, _, _, _ => none
  | k + 1, x6, x7, x8, x9, x10, x11, x12 => if x11 > 0 then (if 0 ≤ x12 then (if x12 < (x8.length : Int) then (paymasterref01_Times.l2 k x6 x7 (x8.set (x12 : Int).toNat (Int.tmod (IntKind.u64.wrap (x11 + (rd x8 x12))) 65536)) x9 x10 (IntKind.u64.wrap (Int.tdiv (IntKind.u64.wrap (x11 + (rd x8 x12))) 65536)) (wrap64 (x12 + 1))) else (none)) else (none)) else (paymasterref01_Times.l1 k x6 x7 x8 x9 (wrap64 (x10 + 1)))
end
def paymasterref01_Times.f (k : Nat) (a0_0 : Int) (a0_1 : Int) (a1 : Int) : Option (Int × Int × Int) := (paymasterref01_digits.f k a0_0 a0_1).bind fun t860 => ((paymasterref01_digits.f k 0 a1).bind fun t863 => (if 17 ≤ 35184372088832 then (paymasterref01_Times.l0 k t860 t863 (List.replicate 17 0) 0) else (none)))
theorem paymasterref01_Times.mono_l : ∀ k, (∀ y0 y1 y2 y3, LeO (paymasterref01_Times.l0 k y0 y1 y2 y3) (paymasterref01_Times.l0 (k + 1) y0 y1 y2 y3)) ∧ (∀ y0 y1 y2 y3 y4, LeO (paymasterref01_Times.l1 k y0 y1 y2 y3 y4) (paymasterref01_Times.l1 (k + 1) y0 y1 y2 y3 y4)) ∧ (∀ y0 y1 y2 y3 y4 y5 y6, LeO (paymasterref01_Times.l2 k y0 y1 y2 y3 y4 y5 y6) (paymasterref01_Times.l2 (k + 1) y0 y1 y2 y3 y4 y5 y6))
  | 0 => ⟨fun _ _ _ _ r h => by simp [paymasterref01_Times.l0] at h, fun _ _ _ _ _ r h => by simp [paymasterref01_Times.l1] at h, fun _ _ _ _ _ _ _ r h => by simp [paymasterref01_Times.l2] at h⟩
  | k + 1 => by
    obtain ⟨ih0, ih1, ih2⟩ := paymasterref01_Times.mono_l k
    refine ⟨?_, ?_, ?_⟩
    · intro y0 y1 y2 y3
      unfold paymasterref01_Times.l0
      repeat' first
      | (with_reducible exact ih0 _ _ _ _)
      | (with_reducible exact ih1 _ _ _ _ _)
      | (with_reducible exact ih2 _ _ _ _ _ _ _)
      | (with_reducible exact paymasterref01_digits.mono _ _ _)
      | (with_reducible exact paymasterref01_number.mono _ _)
      | (with_reducible exact LeO.refl _)
      | (with_reducible exact LeO.none _)
      | (with_reducible refine LeO.ite ?_ ?_)
      | (with_reducible refine LeO.bind ?_ (fun _ => ?_))
      | exact ih0 _ _ _ _
      | exact ih1 _ _ _ _ _
      | exact ih2 _ _ _ _ _ _ _
      | exact paymasterref01_digits.mono _ _ _
      | exact paymasterref01_number.mono _ _
      | exact LeO.none _
      | refine LeO.ite ?_ ?_
      | refine LeO.bind ?_ (fun _ => ?_)
    · intro y0 y1 y2 y3 y4
      unfold paymasterref01_Times.l1
      repeat' first
      | (with_reducible exact ih0 _ _ _ _)
      | (with_reducible exact ih1 _ _ _ _ _)
      | (with_reducible exact ih2 _ _ _ _ _ _ _)
      | (with_reducible exact paymasterref01_digits.mono _ _ _)
      | (with_reducible exact paymasterref01_number.mono _ _)
      | (with_reducible exact LeO.refl _)
      | (with_reducible exact LeO.none _)
      | (with_reducible refine LeO.ite ?_ ?_)
      | (with_reducible refine LeO.bind ?_ (fun _ => ?_))
      | exact ih0 _ _ _ _
      | exact ih1 _ _ _ _ _
      | exact ih2 _ _ _ _ _ _ _
      | exact paymasterref01_digits.mono _ _ _
      | exact paymasterref01_number.mono _ _
      | exact LeO.none _
      | refine LeO.ite ?_ ?_
      | refine LeO.bind ?_ (fun _ => ?_)
    · intro y0 y1 y2 y3 y4 y5 y6
      unfold paymasterref01_Times.l2
      repeat' first
      | (with_reducible exact ih0 _ _ _ _)
      | (with_reducible exact ih1 _ _ _ _ _)
      | (with_reducible exact ih2 _ _ _ _ _ _ _)
      | (with_reducible exact paymasterref01_digits.mono _ _ _)
      | (with_reducible exact paymasterref01_number.mono _ _)
      | (with_reducible exact LeO.refl _)
      | (with_reducible exact LeO.none _)
      | (with_reducible refine LeO.ite ?_ ?_)
      | (with_reducible refine LeO.bind ?_ (fun _ => ?_))
      | exact ih0 _ _ _ _
      | exact ih1 _ _ _ _ _
      | exact ih2 _ _ _ _ _ _ _
      | exact paymasterref01_digits.mono _ _ _
      | exact paymasterref01_number.mono _ _
      | exact LeO.none _
      | refine LeO.ite ?_ ?_
      | refine LeO.bind ?_ (fun _ => ?_)
set_option maxHeartbeats 8000000 in
set_option maxRecDepth 100000 in
theorem paymasterref01_Times.calls (k : Nat) (a0_0 : Int) (a0_1 : Int) (a1 : Int) (r1 : Int) (r2 : Int) (r3 : Int) (w : World) (h : paymasterref01_Times.f k a0_0 a0_1 a1 = some (r1, r2, r3)) :
    Calls Try.prog 57 #[.agg #[.int .u64 a0_0, .int .u64 a0_1], .int .u64 a1] w fun e w' => e = .returned (.tuple #[.agg #[.int .u64 r1, .int .u64 r2], .int .i64 r3]) ∧ Below w.heap.size w w' := by
  have hu25 := Try.underlying25
  have HB := Aside0.mk (Below.refl w.heap.size w)
  have H : ((paymasterref01_digits.f k a0_0 a0_1).bind fun t860 => ((paymasterref01_digits.f k 0 a1).bind fun t863 => (if 17 ≤ 35184372088832 then (paymasterref01_Times.l0 k t860 t863 (List.replicate 17 0) 0) else (none)))) = some (r1, r2, r3) := h
  clear h
  replace H := Option.bind_eq_some_iff.mp H
  obtain ⟨t860, A30, H⟩ := H
  replace H : ((paymasterref01_digits.f k 0 a1).bind fun t863 => (if 17 ≤ 35184372088832 then (paymasterref01_Times.l0 k t860 t863 (List.replicate 17 0) 0) else (none))) = some (r1, r2, r3) := H
  have A3 := Aside0.mk A30
  clear A30
  replace H := Option.bind_eq_some_iff.mp H
  obtain ⟨t863, A40, H⟩ := H
  replace H : (if 17 ≤ 35184372088832 then (paymasterref01_Times.l0 k t860 t863 (List.replicate 17 0) 0) else (none)) = some (r1, r2, r3) := H
  have A4 := Aside0.mk A40
  clear A40
  by_cases c5 : 17 ≤ 35184372088832
  · rw [if_pos c5] at H
    have c5b0 := eq_true c5
    have c5b1 : decide (17 ≤ 35184372088832) = true := decide_eq_true c5
    clear c5
    obtain ⟨y866, hy866⟩ : ∃ y_ : List Int, y_ = (List.replicate 17 0) := ⟨_, rfl⟩
    replace H : (paymasterref01_Times.l0 k t860 t863 y866 0) = some (r1, r2, r3) := by first | (rw [hy866]; with_reducible exact H) | (have H2_ := (Option.bind_some _ _).symm.trans H; rw [hy866]; with_reducible exact H2_) | (have H2_ := (Option.bind_some _ _).symm.trans H; with_reducible exact H2_) | with_reducible exact H | (rw [hy866]; exact H) | exact H
    have Ny866 := Aside0.mk hy866
    clear hy866
    have H' := Aside0.mk H
    clear H
    go_enter Try.func57, Try.ntmps57
    go_wp2_with (first | ((with_reducible refine gate_dst (N := 2) rfl ?_); refine box_event ?hg (N := 2) ?hd (cs := #[.int .u64 a0_0, .int .u64 a0_1]) (t := 25) ?hr ?_; (case hd => rfl); (case hg => rfl); (case hr => first | (go_simp; done) | (go_simp; rfl)); intro gb858 hg w6 hbox hb; have n0_ := Aside0.mk (below_step (by repeat (first | (with_reducible first | exact HB.out | apply below_alloc | apply pw_below_drewN | apply below_drew1) | exact HB.out)) hb); have n1_ := Aside0.mk (hbox); have n2_ := Aside0.mk ((by rw [hg]; exact (below_size (by repeat (first | (with_reducible first | exact HB.out | apply below_alloc | apply pw_below_drewN | apply below_drew1) | exact HB.out))) : w.heap.size ≤ gb858)); have n3_ := Aside0.mk ((by rw [hg]; exact (below_size (by repeat (first | (with_reducible first | exact HB.out | apply below_alloc | apply pw_below_drewN | apply below_drew1) | exact HB.out))) : w.heap.size ≤ gb858)); clear HB; have HB := n0_; have BK858 := n1_; have GW858 := n2_; have GE858 := n3_; clear n0_ n1_ n2_ n3_; clear hb hbox hg) | ((with_reducible refine gate_dst (N := 4) rfl ?_); refine box_event ?hg (N := 4) ?hd (cs := #[.int .u64 0, .int .u64 0]) (t := 25) ?hr ?_; (case hd => rfl); (case hg => rfl); (case hr => first | (go_simp; done) | (go_simp; rfl)); intro gb859 hg w7 hbox hb; have n0_ := Aside0.mk (blk_below (g := gb858) (o := .cells #[.int .u64 a0_0, .int .u64 a0_1] 25 (0, 0)) (by (with_reducible repeat (first | refine blk_drewN ?_ _ | refine blk_drew ?_ | refine blk_alloc ?_ _)); exact BK858.out) hb); have n1_ := Aside0.mk (below_step (by repeat (first | (with_reducible first | exact HB.out | apply below_alloc | apply pw_below_drewN | apply below_drew1 | refine below_set ?_ GE858.out) | exact HB.out)) hb); have n2_ := Aside0.mk (hbox); have n3_ := Aside0.mk ((by rw [hg]; exact (below_size (by repeat (first | (with_reducible first | exact HB.out | apply below_alloc | apply pw_below_drewN | apply below_drew1 | refine below_set ?_ GE858.out) | exact HB.out))) : w.heap.size ≤ gb859)); have n4_ := Aside0.mk ((by rw [hg]; exact (below_size (by repeat (first | (with_reducible first | exact HB.out | apply below_alloc | apply pw_below_drewN | apply below_drew1 | refine below_set ?_ GE858.out) | exact HB.out))) : w.heap.size ≤ gb859)); have n5_ := Aside0.mk ((by rw [hg]; exact Nat.ne_of_lt (blk_lt (g := gb858) (o := .cells #[.int .u64 a0_0, .int .u64 a0_1] 25 (0, 0)) (by (with_reducible repeat (first | refine blk_drewN ?_ _ | refine blk_drew ?_ | refine blk_alloc ?_ _)); exact BK858.out)) : gb858 ≠ gb859)); have n6_ := Aside0.mk ((by rw [hg]; exact Nat.ne_of_gt (blk_lt (g := gb858) (o := .cells #[.int .u64 a0_0, .int .u64 a0_1] 25 (0, 0)) (by (with_reducible repeat (first | refine blk_drewN ?_ _ | refine blk_drew ?_ | refine blk_alloc ?_ _)); exact BK858.out)) : gb859 ≠ gb858)); clear BK858; clear HB; have BK858 := n0_; have HB := n1_; have BK859 := n2_; have GW859 := n3_; have GE859 := n4_; have NB858_859 := n5_; have NB859_858 := n6_; clear n0_ n1_ n2_ n3_ n4_ n5_ n6_; clear hb hbox hg; have hnb8 := NB858_859.out; have hnc8 := NB859_858.out; have hcz9_0 : w7.cell? ⟨gb858, 0, none⟩ = some (.int .u64 a0_0) := (blk_cell BK858.out 0).trans rfl; have hcz9_1 : w7.cell? ⟨gb858, 1, none⟩ = some (.int .u64 a0_1) := (blk_cell BK858.out 1).trans rfl; have hfz9_0 := blk_frozen BK858.out 0; have hfz9_1 := blk_frozen BK858.out 1) | (go_at_call 84; (with_reducible refine (paymasterref01_digits.calls k a0_0 a0_1 t860 _ A3.out).mono ?_); rintro e w10 ⟨v861, rfl, ho0, hb⟩; have n0_ := Aside0.mk (Kd.R_lower ho0 (below_size (by repeat (first | (with_reducible first | exact HB.out | apply below_alloc | apply pw_below_drewN | apply below_drew1 | refine below_set ?_ GE858.out | refine below_set ?_ GE859.out) | exact HB.out)))); have n1_ := Aside0.mk (blk_below (g := gb858) (o := .cells #[.int .u64 a0_0, .int .u64 a0_1] 25 (0, 0)) (by (with_reducible repeat (first | refine blk_drewN ?_ _ | refine blk_drew ?_ | refine blk_alloc ?_ _)); exact BK858.out) hb); have n2_ := Aside0.mk (blk_below (g := gb859) (o := .cells #[.int .u64 0, .int .u64 0] 25 (0, 0)) (by (with_reducible repeat (first | refine blk_drewN ?_ _ | refine blk_drew ?_ | refine blk_alloc ?_ _)); exact BK859.out) hb); have n3_ := Aside0.mk (below_step (by repeat (first | (with_reducible first | exact HB.out | apply below_alloc | apply pw_below_drewN | apply below_drew1 | refine below_set ?_ GE858.out | refine below_set ?_ GE859.out) | exact HB.out)) hb); clear BK858; clear BK859; clear HB; have HO862 := n0_; have BK858 := n1_; have BK859 := n2_; have HB := n3_; clear n0_ n1_ n2_ n3_; (try clear hb); (try clear hb2); (try clear hk); (try clear hi); (try clear ho0)) | (go_at_call 84; (with_reducible refine (paymasterref01_digits.calls k 0 a1 t863 _ A4.out).mono ?_); rintro e w11 ⟨v864, rfl, ho0, hb⟩; have n0_ := Aside0.mk (Kd.R_elder' (by (with_reducible repeat (first | apply Kd.R_alloc | apply Kd.R_drewN | apply Kd.R_drew)); exact HO862.out) (Kd.R_base ho0) hb); have n1_ := Aside0.mk (Kd.R_lower (Kd.R_new' ho0 (Kd.R_lt (by (with_reducible repeat (first | apply Kd.R_alloc | apply Kd.R_drewN | apply Kd.R_drew)); exact HO862.out))) (below_size (by repeat (first | (with_reducible first | exact HB.out | apply below_alloc | apply pw_below_drewN | apply below_drew1 | refine below_set ?_ GE858.out | refine below_set ?_ GE859.out) | exact HB.out)))); have n2_ := Aside0.mk (blk_below (g := gb858) (o := .cells #[.int .u64 a0_0, .int .u64 a0_1] 25 (0, 0)) (by (with_reducible repeat (first | refine blk_drewN ?_ _ | refine blk_drew ?_ | refine blk_alloc ?_ _)); exact BK858.out) hb); have n3_ := Aside0.mk (blk_below (g := gb859) (o := .cells #[.int .u64 0, .int .u64 0] 25 (0, 0)) (by (with_reducible repeat (first | refine blk_drewN ?_ _ | refine blk_drew ?_ | refine blk_alloc ?_ _)); exact BK859.out) hb); have n4_ := Aside0.mk (below_step (by repeat (first | (with_reducible first | exact HB.out | apply below_alloc | apply pw_below_drewN | apply below_drew1 | refine below_set ?_ GE858.out | refine below_set ?_ GE859.out) | exact HB.out)) hb); clear HO862; clear BK858; clear BK859; clear HB; have HO862 := n0_; have HO865 := n1_; have BK858 := n2_; have BK859 := n3_; have HB := n4_; clear n0_ n1_ n2_ n3_ n4_; (try clear hb); (try clear hb2); (try clear hk); (try clear hi); (try clear ho0)) | ((with_reducible refine gate_dst (N := 20) rfl ?_); refine Kd.R_make (Kd.int .u64) _ 23 rfl (N := 20) rfl 95 _ _ rfl 17 rfl rfl Try.underlying95 (.int .u64 0) 8 info23 rfl (by decide) (by omega) 0 (ok := fun _ => True) (okp := fun _ => True) rfl (fun _ hk => hk) trivial (by omega) (by omega) (Below.refl _ _) (Nat.le_refl _) ?_; intro v867 w12 ho13 hb hg_ hnew_; clear hg_ hnew_; (first | rw [← Ny866.out] at ho13 | (simp only [Int.reduceToNat] at ho13; rw [← Ny866.out] at ho13)); have n0_ := Aside0.mk (Kd.R_elder' (by (with_reducible repeat (first | apply Kd.R_alloc | apply Kd.R_drewN | apply Kd.R_drew)); exact HO862.out) (Kd.R_base ho13) hb); have n1_ := Aside0.mk (Kd.R_elder' (by (with_reducible repeat (first | apply Kd.R_alloc | apply Kd.R_drewN | apply Kd.R_drew)); exact HO865.out) (Kd.R_base ho13) hb); have n2_ := Aside0.mk (Kd.R_lower (Kd.R_new' (Kd.R_new' ho13 (Kd.R_lt (by (with_reducible repeat (first | apply Kd.R_alloc | apply Kd.R_drewN | apply Kd.R_drew)); exact HO862.out))) (Kd.R_lt (by (with_reducible repeat (first | apply Kd.R_alloc | apply Kd.R_drewN | apply Kd.R_drew)); exact HO865.out))) (below_size (by repeat (first | (with_reducible first | exact HB.out | apply below_alloc | apply pw_below_drewN | apply below_drew1 | refine below_set ?_ GE858.out | refine below_set ?_ GE859.out) | exact HB.out)))); have n3_ := Aside0.mk (blk_below (g := gb858) (o := .cells #[.int .u64 a0_0, .int .u64 a0_1] 25 (0, 0)) (by (with_reducible repeat (first | refine blk_drewN ?_ _ | refine blk_drew ?_ | refine blk_alloc ?_ _)); exact BK858.out) hb); have n4_ := Aside0.mk (blk_below (g := gb859) (o := .cells #[.int .u64 0, .int .u64 0] 25 (0, 0)) (by (with_reducible repeat (first | refine blk_drewN ?_ _ | refine blk_drew ?_ | refine blk_alloc ?_ _)); exact BK859.out) hb); have n5_ := Aside0.mk (below_step (by repeat (first | (with_reducible first | exact HB.out | apply below_alloc | apply pw_below_drewN | apply below_drew1 | refine below_set ?_ GE858.out | refine below_set ?_ GE859.out) | exact HB.out)) hb); clear HO862; clear HO865; clear BK858; clear BK859; clear HB; have HO862 := n0_; have HO865 := n1_; have HO868 := n2_; have BK858 := n3_; have BK859 := n4_; have HB := n5_; clear n0_ n1_ n2_ n3_ n4_ n5_; clear hb ho13))
    repeat (go_quiet (first | ((with_reducible refine gate_dst (N := 2) rfl ?_); refine box_event ?hg (N := 2) ?hd (cs := #[.int .u64 a0_0, .int .u64 a0_1]) (t := 25) ?hr ?_; (case hd => rfl); (case hg => rfl); (case hr => first | (go_simp; done) | (go_simp; rfl)); intro gb858 hg w6 hbox hb; have n0_ := Aside0.mk (below_step (by repeat (first | (with_reducible first | exact HB.out | apply below_alloc | apply pw_below_drewN | apply below_drew1) | exact HB.out)) hb); have n1_ := Aside0.mk (hbox); have n2_ := Aside0.mk ((by rw [hg]; exact (below_size (by repeat (first | (with_reducible first | exact HB.out | apply below_alloc | apply pw_below_drewN | apply below_drew1) | exact HB.out))) : w.heap.size ≤ gb858)); have n3_ := Aside0.mk ((by rw [hg]; exact (below_size (by repeat (first | (with_reducible first | exact HB.out | apply below_alloc | apply pw_below_drewN | apply below_drew1) | exact HB.out))) : w.heap.size ≤ gb858)); clear HB; have HB := n0_; have BK858 := n1_; have GW858 := n2_; have GE858 := n3_; clear n0_ n1_ n2_ n3_; clear hb hbox hg) | ((with_reducible refine gate_dst (N := 4) rfl ?_); refine box_event ?hg (N := 4) ?hd (cs := #[.int .u64 0, .int .u64 0]) (t := 25) ?hr ?_; (case hd => rfl); (case hg => rfl); (case hr => first | (go_simp; done) | (go_simp; rfl)); intro gb859 hg w7 hbox hb; have n0_ := Aside0.mk (blk_below (g := gb858) (o := .cells #[.int .u64 a0_0, .int .u64 a0_1] 25 (0, 0)) (by (with_reducible repeat (first | refine blk_drewN ?_ _ | refine blk_drew ?_ | refine blk_alloc ?_ _)); exact BK858.out) hb); have n1_ := Aside0.mk (below_step (by repeat (first | (with_reducible first | exact HB.out | apply below_alloc | apply pw_below_drewN | apply below_drew1 | refine below_set ?_ GE858.out) | exact HB.out)) hb); have n2_ := Aside0.mk (hbox); have n3_ := Aside0.mk ((by rw [hg]; exact (below_size (by repeat (first | (with_reducible first | exact HB.out | apply below_alloc | apply pw_below_drewN | apply below_drew1 | refine below_set ?_ GE858.out) | exact HB.out))) : w.heap.size ≤ gb859)); have n4_ := Aside0.mk ((by rw [hg]; exact (below_size (by repeat (first | (with_reducible first | exact HB.out | apply below_alloc | apply pw_below_drewN | apply below_drew1 | refine below_set ?_ GE858.out) | exact HB.out))) : w.heap.size ≤ gb859)); have n5_ := Aside0.mk ((by rw [hg]; exact Nat.ne_of_lt (blk_lt (g := gb858) (o := .cells #[.int .u64 a0_0, .int .u64 a0_1] 25 (0, 0)) (by (with_reducible repeat (first | refine blk_drewN ?_ _ | refine blk_drew ?_ | refine blk_alloc ?_ _)); exact BK858.out)) : gb858 ≠ gb859)); have n6_ := Aside0.mk ((by rw [hg]; exact Nat.ne_of_gt (blk_lt (g := gb858) (o := .cells #[.int .u64 a0_0, .int .u64 a0_1] 25 (0, 0)) (by (with_reducible repeat (first | refine blk_drewN ?_ _ | refine blk_drew ?_ | refine blk_alloc ?_ _)); exact BK858.out)) : gb859 ≠ gb858)); clear BK858; clear HB; have BK858 := n0_; have HB := n1_; have BK859 := n2_; have GW859 := n3_; have GE859 := n4_; have NB858_859 := n5_; have NB859_858 := n6_; clear n0_ n1_ n2_ n3_ n4_ n5_ n6_; clear hb hbox hg; have hnb8 := NB858_859.out; have hnc8 := NB859_858.out; have hcz9_0 : w7.cell? ⟨gb858, 0, none⟩ = some (.int .u64 a0_0) := (blk_cell BK858.out 0).trans rfl; have hcz9_1 : w7.cell? ⟨gb858, 1, none⟩ = some (.int .u64 a0_1) := (blk_cell BK858.out 1).trans rfl; have hfz9_0 := blk_frozen BK858.out 0; have hfz9_1 := blk_frozen BK858.out 1) | (go_at_call 84; (with_reducible refine (paymasterref01_digits.calls k a0_0 a0_1 t860 _ A3.out).mono ?_); rintro e w10 ⟨v861, rfl, ho0, hb⟩; have n0_ := Aside0.mk (Kd.R_lower ho0 (below_size (by repeat (first | (with_reducible first | exact HB.out | apply below_alloc | apply pw_below_drewN | apply below_drew1 | refine below_set ?_ GE858.out | refine below_set ?_ GE859.out) | exact HB.out)))); have n1_ := Aside0.mk (blk_below (g := gb858) (o := .cells #[.int .u64 a0_0, .int .u64 a0_1] 25 (0, 0)) (by (with_reducible repeat (first | refine blk_drewN ?_ _ | refine blk_drew ?_ | refine blk_alloc ?_ _)); exact BK858.out) hb); have n2_ := Aside0.mk (blk_below (g := gb859) (o := .cells #[.int .u64 0, .int .u64 0] 25 (0, 0)) (by (with_reducible repeat (first | refine blk_drewN ?_ _ | refine blk_drew ?_ | refine blk_alloc ?_ _)); exact BK859.out) hb); have n3_ := Aside0.mk (below_step (by repeat (first | (with_reducible first | exact HB.out | apply below_alloc | apply pw_below_drewN | apply below_drew1 | refine below_set ?_ GE858.out | refine below_set ?_ GE859.out) | exact HB.out)) hb); clear BK858; clear BK859; clear HB; have HO862 := n0_; have BK858 := n1_; have BK859 := n2_; have HB := n3_; clear n0_ n1_ n2_ n3_; (try clear hb); (try clear hb2); (try clear hk); (try clear hi); (try clear ho0)) | (go_at_call 84; (with_reducible refine (paymasterref01_digits.calls k 0 a1 t863 _ A4.out).mono ?_); rintro e w11 ⟨v864, rfl, ho0, hb⟩; have n0_ := Aside0.mk (Kd.R_elder' (by (with_reducible repeat (first | apply Kd.R_alloc | apply Kd.R_drewN | apply Kd.R_drew)); exact HO862.out) (Kd.R_base ho0) hb); have n1_ := Aside0.mk (Kd.R_lower (Kd.R_new' ho0 (Kd.R_lt (by (with_reducible repeat (first | apply Kd.R_alloc | apply Kd.R_drewN | apply Kd.R_drew)); exact HO862.out))) (below_size (by repeat (first | (with_reducible first | exact HB.out | apply below_alloc | apply pw_below_drewN | apply below_drew1 | refine below_set ?_ GE858.out | refine below_set ?_ GE859.out) | exact HB.out)))); have n2_ := Aside0.mk (blk_below (g := gb858) (o := .cells #[.int .u64 a0_0, .int .u64 a0_1] 25 (0, 0)) (by (with_reducible repeat (first | refine blk_drewN ?_ _ | refine blk_drew ?_ | refine blk_alloc ?_ _)); exact BK858.out) hb); have n3_ := Aside0.mk (blk_below (g := gb859) (o := .cells #[.int .u64 0, .int .u64 0] 25 (0, 0)) (by (with_reducible repeat (first | refine blk_drewN ?_ _ | refine blk_drew ?_ | refine blk_alloc ?_ _)); exact BK859.out) hb); have n4_ := Aside0.mk (below_step (by repeat (first | (with_reducible first | exact HB.out | apply below_alloc | apply pw_below_drewN | apply below_drew1 | refine below_set ?_ GE858.out | refine below_set ?_ GE859.out) | exact HB.out)) hb); clear HO862; clear BK858; clear BK859; clear HB; have HO862 := n0_; have HO865 := n1_; have BK858 := n2_; have BK859 := n3_; have HB := n4_; clear n0_ n1_ n2_ n3_ n4_; (try clear hb); (try clear hb2); (try clear hk); (try clear hi); (try clear ho0)) | ((with_reducible refine gate_dst (N := 20) rfl ?_); refine Kd.R_make (Kd.int .u64) _ 23 rfl (N := 20) rfl 95 _ _ rfl 17 rfl rfl Try.underlying95 (.int .u64 0) 8 info23 rfl (by decide) (by omega) 0 (ok := fun _ => True) (okp := fun _ => True) rfl (fun _ hk => hk) trivial (by omega) (by omega) (Below.refl _ _) (Nat.le_refl _) ?_; intro v867 w12 ho13 hb hg_ hnew_; clear hg_ hnew_; (first | rw [← Ny866.out] at ho13 | (simp only [Int.reduceToNat] at ho13; rw [← Ny866.out] at ho13)); have n0_ := Aside0.mk (Kd.R_elder' (by (with_reducible repeat (first | apply Kd.R_alloc | apply Kd.R_drewN | apply Kd.R_drew)); exact HO862.out) (Kd.R_base ho13) hb); have n1_ := Aside0.mk (Kd.R_elder' (by (with_reducible repeat (first | apply Kd.R_alloc | apply Kd.R_drewN | apply Kd.R_drew)); exact HO865.out) (Kd.R_base ho13) hb); have n2_ := Aside0.mk (Kd.R_lower (Kd.R_new' (Kd.R_new' ho13 (Kd.R_lt (by (with_reducible repeat (first | apply Kd.R_alloc | apply Kd.R_drewN | apply Kd.R_drew)); exact HO862.out))) (Kd.R_lt (by (with_reducible repeat (first | apply Kd.R_alloc | apply Kd.R_drewN | apply Kd.R_drew)); exact HO865.out))) (below_size (by repeat (first | (with_reducible first | exact HB.out | apply below_alloc | apply pw_below_drewN | apply below_drew1 | refine below_set ?_ GE858.out | refine below_set ?_ GE859.out) | exact HB.out)))); have n3_ := Aside0.mk (blk_below (g := gb858) (o := .cells #[.int .u64 a0_0, .int .u64 a0_1] 25 (0, 0)) (by (with_reducible repeat (first | refine blk_drewN ?_ _ | refine blk_drew ?_ | refine blk_alloc ?_ _)); exact BK858.out) hb); have n4_ := Aside0.mk (blk_below (g := gb859) (o := .cells #[.int .u64 0, .int .u64 0] 25 (0, 0)) (by (with_reducible repeat (first | refine blk_drewN ?_ _ | refine blk_drew ?_ | refine blk_alloc ?_ _)); exact BK859.out) hb); have n5_ := Aside0.mk (below_step (by repeat (first | (with_reducible first | exact HB.out | apply below_alloc | apply pw_below_drewN | apply below_drew1 | refine below_set ?_ GE858.out | refine below_set ?_ GE859.out) | exact HB.out)) hb); clear HO862; clear HO865; clear BK858; clear BK859; clear HB; have HO862 := n0_; have HO865 := n1_; have HO868 := n2_; have BK858 := n3_; have BK859 := n4_; have HB := n5_; clear n0_ n1_ n2_ n3_ n4_ n5_; clear hb ho13)); try go_wp2_with (first | ((with_reducible refine gate_dst (N := 2) rfl ?_); refine box_event ?hg (N := 2) ?hd (cs := #[.int .u64 a0_0, .int .u64 a0_1]) (t := 25) ?hr ?_; (case hd => rfl); (case hg => rfl); (case hr => first | (go_simp; done) | (go_simp; rfl)); intro gb858 hg w6 hbox hb; have n0_ := Aside0.mk (below_step (by repeat (first | (with_reducible first | exact HB.out | apply below_alloc | apply pw_below_drewN | apply below_drew1) | exact HB.out)) hb); have n1_ := Aside0.mk (hbox); have n2_ := Aside0.mk ((by rw [hg]; exact (below_size (by repeat (first | (with_reducible first | exact HB.out | apply below_alloc | apply pw_below_drewN | apply below_drew1) | exact HB.out))) : w.heap.size ≤ gb858)); have n3_ := Aside0.mk ((by rw [hg]; exact (below_size (by repeat (first | (with_reducible first | exact HB.out | apply below_alloc | apply pw_below_drewN | apply below_drew1) | exact HB.out))) : w.heap.size ≤ gb858)); clear HB; have HB := n0_; have BK858 := n1_; have GW858 := n2_; have GE858 := n3_; clear n0_ n1_ n2_ n3_; clear hb hbox hg) | ((with_reducible refine gate_dst (N := 4) rfl ?_); refine box_event ?hg (N := 4) ?hd (cs := #[.int .u64 0, .int .u64 0]) (t := 25) ?hr ?_; (case hd => rfl); (case hg => rfl); (case hr => first | (go_simp; done) | (go_simp; rfl)); intro gb859 hg w7 hbox hb; have n0_ := Aside0.mk (blk_below (g := gb858) (o := .cells #[.int .u64 a0_0, .int .u64 a0_1] 25 (0, 0)) (by (with_reducible repeat (first | refine blk_drewN ?_ _ | refine blk_drew ?_ | refine blk_alloc ?_ _)); exact BK858.out) hb); have n1_ := Aside0.mk (below_step (by repeat (first | (with_reducible first | exact HB.out | apply below_alloc | apply pw_below_drewN | apply below_drew1 | refine below_set ?_ GE858.out) | exact HB.out)) hb); have n2_ := Aside0.mk (hbox); have n3_ := Aside0.mk ((by rw [hg]; exact (below_size (by repeat (first | (with_reducible first | exact HB.out | apply below_alloc | apply pw_below_drewN | apply below_drew1 | refine below_set ?_ GE858.out) | exact HB.out))) : w.heap.size ≤ gb859)); have n4_ := Aside0.mk ((by rw [hg]; exact (below_size (by repeat (first | (with_reducible first | exact HB.out | apply below_alloc | apply pw_below_drewN | apply below_drew1 | refine below_set ?_ GE858.out) | exact HB.out))) : w.heap.size ≤ gb859)); have n5_ := Aside0.mk ((by rw [hg]; exact Nat.ne_of_lt (blk_lt (g := gb858) (o := .cells #[.int .u64 a0_0, .int .u64 a0_1] 25 (0, 0)) (by (with_reducible repeat (first | refine blk_drewN ?_ _ | refine blk_drew ?_ | refine blk_alloc ?_ _)); exact BK858.out)) : gb858 ≠ gb859)); have n6_ := Aside0.mk ((by rw [hg]; exact Nat.ne_of_gt (blk_lt (g := gb858) (o := .cells #[.int .u64 a0_0, .int .u64 a0_1] 25 (0, 0)) (by (with_reducible repeat (first | refine blk_drewN ?_ _ | refine blk_drew ?_ | refine blk_alloc ?_ _)); exact BK858.out)) : gb859 ≠ gb858)); clear BK858; clear HB; have BK858 := n0_; have HB := n1_; have BK859 := n2_; have GW859 := n3_; have GE859 := n4_; have NB858_859 := n5_; have NB859_858 := n6_; clear n0_ n1_ n2_ n3_ n4_ n5_ n6_; clear hb hbox hg; have hnb8 := NB858_859.out; have hnc8 := NB859_858.out; have hcz9_0 : w7.cell? ⟨gb858, 0, none⟩ = some (.int .u64 a0_0) := (blk_cell BK858.out 0).trans rfl; have hcz9_1 : w7.cell? ⟨gb858, 1, none⟩ = some (.int .u64 a0_1) := (blk_cell BK858.out 1).trans rfl; have hfz9_0 := blk_frozen BK858.out 0; have hfz9_1 := blk_frozen BK858.out 1) | (go_at_call 84; (with_reducible refine (paymasterref01_digits.calls k a0_0 a0_1 t860 _ A3.out).mono ?_); rintro e w10 ⟨v861, rfl, ho0, hb⟩; have n0_ := Aside0.mk (Kd.R_lower ho0 (below_size (by repeat (first | (with_reducible first | exact HB.out | apply below_alloc | apply pw_below_drewN | apply below_drew1 | refine below_set ?_ GE858.out | refine below_set ?_ GE859.out) | exact HB.out)))); have n1_ := Aside0.mk (blk_below (g := gb858) (o := .cells #[.int .u64 a0_0, .int .u64 a0_1] 25 (0, 0)) (by (with_reducible repeat (first | refine blk_drewN ?_ _ | refine blk_drew ?_ | refine blk_alloc ?_ _)); exact BK858.out) hb); have n2_ := Aside0.mk (blk_below (g := gb859) (o := .cells #[.int .u64 0, .int .u64 0] 25 (0, 0)) (by (with_reducible repeat (first | refine blk_drewN ?_ _ | refine blk_drew ?_ | refine blk_alloc ?_ _)); exact BK859.out) hb); have n3_ := Aside0.mk (below_step (by repeat (first | (with_reducible first | exact HB.out | apply below_alloc | apply pw_below_drewN | apply below_drew1 | refine below_set ?_ GE858.out | refine below_set ?_ GE859.out) | exact HB.out)) hb); clear BK858; clear BK859; clear HB; have HO862 := n0_; have BK858 := n1_; have BK859 := n2_; have HB := n3_; clear n0_ n1_ n2_ n3_; (try clear hb); (try clear hb2); (try clear hk); (try clear hi); (try clear ho0)) | (go_at_call 84; (with_reducible refine (paymasterref01_digits.calls k 0 a1 t863 _ A4.out).mono ?_); rintro e w11 ⟨v864, rfl, ho0, hb⟩; have n0_ := Aside0.mk (Kd.R_elder' (by (with_reducible repeat (first | apply Kd.R_alloc | apply Kd.R_drewN | apply Kd.R_drew)); exact HO862.out) (Kd.R_base ho0) hb); have n1_ := Aside0.mk (Kd.R_lower (Kd.R_new' ho0 (Kd.R_lt (by (with_reducible repeat (first | apply Kd.R_alloc | apply Kd.R_drewN | apply Kd.R_drew)); exact HO862.out))) (below_size (by repeat (first | (with_reducible first | exact HB.out | apply below_alloc | apply pw_below_drewN | apply below_drew1 | refine below_set ?_ GE858.out | refine below_set ?_ GE859.out) | exact HB.out)))); have n2_ := Aside0.mk (blk_below (g := gb858) (o := .cells #[.int .u64 a0_0, .int .u64 a0_1] 25 (0, 0)) (by (with_reducible repeat (first | refine blk_drewN ?_ _ | refine blk_drew ?_ | refine blk_alloc ?_ _)); exact BK858.out) hb); have n3_ := Aside0.mk (blk_below (g := gb859) (o := .cells #[.int .u64 0, .int .u64 0] 25 (0, 0)) (by (with_reducible repeat (first | refine blk_drewN ?_ _ | refine blk_drew ?_ | refine blk_alloc ?_ _)); exact BK859.out) hb); have n4_ := Aside0.mk (below_step (by repeat (first | (with_reducible first | exact HB.out | apply below_alloc | apply pw_below_drewN | apply below_drew1 | refine below_set ?_ GE858.out | refine below_set ?_ GE859.out) | exact HB.out)) hb); clear HO862; clear BK858; clear BK859; clear HB; have HO862 := n0_; have HO865 := n1_; have BK858 := n2_; have BK859 := n3_; have HB := n4_; clear n0_ n1_ n2_ n3_ n4_; (try clear hb); (try clear hb2); (try clear hk); (try clear hi); (try clear ho0)) | ((with_reducible refine gate_dst (N := 20) rfl ?_); refine Kd.R_make (Kd.int .u64) _ 23 rfl (N := 20) rfl 95 _ _ rfl 17 rfl rfl Try.underlying95 (.int .u64 0) 8 info23 rfl (by decide) (by omega) 0 (ok := fun _ => True) (okp := fun _ => True) rfl (fun _ hk => hk) trivial (by omega) (by omega) (Below.refl _ _) (Nat.le_refl _) ?_; intro v867 w12 ho13 hb hg_ hnew_; clear hg_ hnew_; (first | rw [← Ny866.out] at ho13 | (simp only [Int.reduceToNat] at ho13; rw [← Ny866.out] at ho13)); have n0_ := Aside0.mk (Kd.R_elder' (by (with_reducible repeat (first | apply Kd.R_alloc | apply Kd.R_drewN | apply Kd.R_drew)); exact HO862.out) (Kd.R_base ho13) hb); have n1_ := Aside0.mk (Kd.R_elder' (by (with_reducible repeat (first | apply Kd.R_alloc | apply Kd.R_drewN | apply Kd.R_drew)); exact HO865.out) (Kd.R_base ho13) hb); have n2_ := Aside0.mk (Kd.R_lower (Kd.R_new' (Kd.R_new' ho13 (Kd.R_lt (by (with_reducible repeat (first | apply Kd.R_alloc | apply Kd.R_drewN | apply Kd.R_drew)); exact HO862.out))) (Kd.R_lt (by (with_reducible repeat (first | apply Kd.R_alloc | apply Kd.R_drewN | apply Kd.R_drew)); exact HO865.out))) (below_size (by repeat (first | (with_reducible first | exact HB.out | apply below_alloc | apply pw_below_drewN | apply below_drew1 | refine below_set ?_ GE858.out | refine below_set ?_ GE859.out) | exact HB.out)))); have n3_ := Aside0.mk (blk_below (g := gb858) (o := .cells #[.int .u64 a0_0, .int .u64 a0_1] 25 (0, 0)) (by (with_reducible repeat (first | refine blk_drewN ?_ _ | refine blk_drew ?_ | refine blk_alloc ?_ _)); exact BK858.out) hb); have n4_ := Aside0.mk (blk_below (g := gb859) (o := .cells #[.int .u64 0, .int .u64 0] 25 (0, 0)) (by (with_reducible repeat (first | refine blk_drewN ?_ _ | refine blk_drew ?_ | refine blk_alloc ?_ _)); exact BK859.out) hb); have n5_ := Aside0.mk (below_step (by repeat (first | (with_reducible first | exact HB.out | apply below_alloc | apply pw_below_drewN | apply below_drew1 | refine below_set ?_ GE858.out | refine below_set ?_ GE859.out) | exact HB.out)) hb); clear HO862; clear HO865; clear BK858; clear BK859; clear HB; have HO862 := n0_; have HO865 := n1_; have HO868 := n2_; have BK858 := n3_; have BK859 := n4_; have HB := n5_; clear n0_ n1_ n2_ n3_ n4_ n5_; clear hb ho13)))
    go_loopg [9] k (fun kq v9 w' => ∃ (x8_1 : List Int) (x9_1 : Int), v9 = .int .i64 x9_1 ∧ Aside0 (paymasterref01_Times.l0 kq t860 t863 x8_1 x9_1 = some (r1, r2, r3)) ∧ Aside0 (kq ≤ k) ∧ Aside0 (Kd.R (Kd.int .u64) 23 w' w.heap.size (fun k_ => some k_ ≠ (v864 : Value).ownBlock ∧ some k_ ≠ (v867 : Value).ownBlock) v861 t860) ∧ Aside0 (Kd.R (Kd.int .u64) 23 w' w.heap.size (fun k_ => some k_ ≠ (v861 : Value).ownBlock ∧ some k_ ≠ (v867 : Value).ownBlock) v864 t863) ∧ Aside0 (Kd.R (Kd.int .u64) 23 w' w.heap.size (fun k_ => some k_ ≠ (v861 : Value).ownBlock ∧ some k_ ≠ (v864 : Value).ownBlock) v867 x8_1) ∧ Aside0 (w'.heap[gb858]? = some (.cells #[.int .u64 a0_0, .int .u64 a0_1] 25 (0, 0))) ∧ Aside0 (w'.heap[gb859]? = some (.cells #[.int .u64 0, .int .u64 0] 25 (0, 0))) ∧ Aside0 (Below w.heap.size w w'))
    case atStart => exact ⟨(y866), (0), (by first | rfl | (simp; done) | (simp [*]; done)), H', ⟨Nat.le_refl _⟩, ⟨by (with_reducible repeat (first | apply Kd.R_alloc | apply Kd.R_drewN | apply Kd.R_drew)); exact Kd.R_mono HO862.out (fun _ hk => ⟨hk.1.2, hk.2⟩)⟩, ⟨by (with_reducible repeat (first | apply Kd.R_alloc | apply Kd.R_drewN | apply Kd.R_drew)); exact Kd.R_mono HO865.out (fun _ hk => ⟨hk.1.2, hk.2⟩)⟩, ⟨by (with_reducible repeat (first | apply Kd.R_alloc | apply Kd.R_drewN | apply Kd.R_drew)); exact Kd.R_mono HO868.out (fun _ hk => ⟨hk.1.2, hk.2⟩)⟩, ⟨by (with_reducible repeat (first | refine blk_drewN ?_ _ | refine blk_drew ?_ | refine blk_alloc ?_ _)); exact BK858.out⟩, ⟨by (with_reducible repeat (first | refine blk_drewN ?_ _ | refine blk_drew ?_ | refine blk_alloc ?_ _)); exact BK859.out⟩, ⟨by repeat (first | (with_reducible first | exact HB.out | apply below_alloc | apply pw_below_drewN | apply below_drew1 | refine below_set ?_ GE858.out | refine below_set ?_ GE859.out) | exact HB.out)⟩⟩
    case round =>
      clear H'
      try clear p2
      try clear c5
      try clear c5b0
      try clear c5b1
      try clear c8
      try clear hcz9_0
      try clear hcz9_1
      try clear hfz9_0
      try clear hfz9_1
      obtain ⟨x8_1, x9_1, rfl, HA, HK1, HO_6, HO_7, HO_8, BK858, BK859, HB⟩ := hrel
      cases gk with
      | zero => exact absurd HA.out (by simp [paymasterref01_Times.l0])
      | succ k1 =>
        have H := HA.out
        clear HA
        simp only [paymasterref01_Times.l0] at H
        by_cases c14 : x9_1 < 8
        · rw [if_pos c14] at H
          have c14b0 : decide (x9_1 < 8) = true := decide_eq_true c14
          clear c14
          have H' := Aside0.mk H
          clear H
          go_wp2
          repeat (go_quiet (fail); try go_wp2)
          go_loopg [10] k1 (fun kq v10 w' => ∃ (x8_2 : List Int) (x10_2 : Int), v10 = .int .i64 x10_2 ∧ Aside0 (paymasterref01_Times.l1 kq t860 t863 x8_2 x9_1 x10_2 = some (r1, r2, r3)) ∧ Aside0 (kq ≤ k1) ∧ Aside0 (Kd.R (Kd.int .u64) 23 w' w.heap.size (fun k_ => some k_ ≠ (v864 : Value).ownBlock ∧ some k_ ≠ (v867 : Value).ownBlock) v861 t860) ∧ Aside0 (Kd.R (Kd.int .u64) 23 w' w.heap.size (fun k_ => some k_ ≠ (v861 : Value).ownBlock ∧ some k_ ≠ (v867 : Value).ownBlock) v864 t863) ∧ Aside0 (Kd.R (Kd.int .u64) 23 w' w.heap.size (fun k_ => some k_ ≠ (v861 : Value).ownBlock ∧ some k_ ≠ (v864 : Value).ownBlock) v867 x8_2) ∧ Aside0 (w'.heap[gb858]? = some (.cells #[.int .u64 a0_0, .int .u64 a0_1] 25 (0, 0))) ∧ Aside0 (w'.heap[gb859]? = some (.cells #[.int .u64 0, .int .u64 0] 25 (0, 0))) ∧ Aside0 (Below w.heap.size w w'))
          case atStart => exact ⟨(x8_1), (0), (by first | rfl | (simp; done) | (simp [*]; done)), H', ⟨Nat.le_refl _⟩, ⟨by (with_reducible repeat (first | apply Kd.R_alloc | apply Kd.R_drewN | apply Kd.R_drew)); exact HO_6.out⟩, ⟨by (with_reducible repeat (first | apply Kd.R_alloc | apply Kd.R_drewN | apply Kd.R_drew)); exact HO_7.out⟩, ⟨by (with_reducible repeat (first | apply Kd.R_alloc | apply Kd.R_drewN | apply Kd.R_drew)); exact HO_8.out⟩, ⟨by (with_reducible repeat (first | refine blk_drewN ?_ _ | refine blk_drew ?_ | refine blk_alloc ?_ _)); exact BK858.out⟩, ⟨by (with_reducible repeat (first | refine blk_drewN ?_ _ | refine blk_drew ?_ | refine blk_alloc ?_ _)); exact BK859.out⟩, ⟨by repeat (first | (with_reducible first | exact HB.out | apply below_alloc | apply pw_below_drewN | apply below_drew1 | refine below_set ?_ GE858.out | refine below_set ?_ GE859.out) | exact HB.out)⟩⟩
          case round =>
            clear H'
            try clear c1
            try clear p2
            try clear c5
            try clear c5b0
            try clear c5b1
            try clear c8
            try clear c14
            try clear c14b0
            try clear hcz9_0
            try clear hcz9_1
            try clear hfz9_0
            try clear hfz9_1
            try clear p2
            obtain ⟨x8_2, x10_2, rfl, HA, HK2, HO_6, HO_7, HO_8, BK858, BK859, HB⟩ := hrel
            cases gk with
            | zero => exact absurd HA.out (by simp [paymasterref01_Times.l1])
            | succ k2 =>
              have H := HA.out
              clear HA
              simp only [paymasterref01_Times.l1] at H
              by_cases c15 : x10_2 < 4
              · rw [if_pos c15] at H
                have c15b0 : decide (x10_2 < 4) = true := decide_eq_true c15
                clear c15
                by_cases c16 : 0 ≤ x9_1
                · rw [if_pos c16] at H
                  have c16b0 : decide (0 ≤ x9_1) = true := decide_eq_true c16
                  clear c16
                  by_cases c17 : x9_1 < (t860.length : Int)
                  · rw [if_pos c17] at H
                    have c17b0 : decide (x9_1 < (t860.length : Int)) = true := decide_eq_true c17
                    clear c17
                    by_cases c18 : 0 ≤ x10_2
                    · rw [if_pos c18] at H
                      have c18b0 : decide (0 ≤ x10_2) = true := decide_eq_true c18
                      clear c18
                      by_cases c19 : x10_2 < (t863.length : Int)
                      · rw [if_pos c19] at H
                        have c19b0 : decide (x10_2 < (t863.length : Int)) = true := decide_eq_true c19
                        clear c19
                        have H' := Aside0.mk H
                        clear H
                        obtain ⟨Ao20, co20, eo20⟩ := Kd.R_slice HO_6.out
                        subst eo20
                        have p873 : 0 ≤ (x9_1 : Int) := of_decide_eq_true (by first | (with_reducible assumption) | assumption)
                        have q873 : x9_1 < (t860.length : Int) := of_decide_eq_true (by first | (with_reducible assumption) | assumption)
                        obtain ⟨ad873, e873, hx873_0⟩ := Kd.at_int (Kd.R_reads' HO_6.out).2.2 x9_1 p873 q873
                        cases e873
                        replace p873 := eq_true p873
                        replace q873 := eq_true q873
                        obtain ⟨Ao21, co21, eo21⟩ := Kd.R_slice HO_7.out
                        subst eo21
                        have p874 : 0 ≤ (x10_2 : Int) := of_decide_eq_true (by first | (with_reducible assumption) | assumption)
                        have q874 : x10_2 < (t863.length : Int) := of_decide_eq_true (by first | (with_reducible assumption) | assumption)
                        obtain ⟨ad874, e874, hx874_0⟩ := Kd.at_int (Kd.R_reads' HO_7.out).2.2 x10_2 p874 q874
                        cases e874
                        replace p874 := eq_true p874
                        replace q874 := eq_true q874
                        go_wp2
                        repeat (go_quiet (fail); try go_wp2)
                        go_loopg [11, 12] k2 (fun kq v11 v12 w' => ∃ (x8_3 : List Int) (x11_3 : Int) (x12_3 : Int), v11 = .int .u64 x11_3 ∧ v12 = .int .i64 x12_3 ∧ Aside0 (paymasterref01_Times.l2 kq t860 t863 x8_3 x9_1 x10_2 x11_3 x12_3 = some (r1, r2, r3)) ∧ Aside0 (kq ≤ k2) ∧ Aside0 (Kd.R (Kd.int .u64) 23 w' w.heap.size (fun k_ => some k_ ≠ ((.slice (some ad874) t863.length co21) : Value).ownBlock ∧ some k_ ≠ (v867 : Value).ownBlock) (.slice (some ad873) t860.length co20) t860) ∧ Aside0 (Kd.R (Kd.int .u64) 23 w' w.heap.size (fun k_ => some k_ ≠ ((.slice (some ad873) t860.length co20) : Value).ownBlock ∧ some k_ ≠ (v867 : Value).ownBlock) (.slice (some ad874) t863.length co21) t863) ∧ Aside0 (Kd.R (Kd.int .u64) 23 w' w.heap.size (fun k_ => some k_ ≠ ((.slice (some ad873) t860.length co20) : Value).ownBlock ∧ some k_ ≠ ((.slice (some ad874) t863.length co21) : Value).ownBlock) v867 x8_3) ∧ Aside0 (w'.heap[gb858]? = some (.cells #[.int .u64 a0_0, .int .u64 a0_1] 25 (0, 0))) ∧ Aside0 (w'.heap[gb859]? = some (.cells #[.int .u64 0, .int .u64 0] 25 (0, 0))) ∧ Aside0 (Below w.heap.size w w'))
                        case atStart => exact ⟨(x8_2), (IntKind.u64.wrap ((rd t860 x9_1) * (rd t863 x10_2))), (wrap64 (x9_1 + x10_2)), (by first | rfl | (simp; done) | (simp [*]; done)), (by first | rfl | (simp; done) | (simp [*]; done)), H', ⟨Nat.le_refl _⟩, ⟨by (with_reducible repeat (first | apply Kd.R_alloc | apply Kd.R_drewN | apply Kd.R_drew)); exact HO_6.out⟩, ⟨by (with_reducible repeat (first | apply Kd.R_alloc | apply Kd.R_drewN | apply Kd.R_drew)); exact HO_7.out⟩, ⟨by (with_reducible repeat (first | apply Kd.R_alloc | apply Kd.R_drewN | apply Kd.R_drew)); exact HO_8.out⟩, ⟨by (with_reducible repeat (first | refine blk_drewN ?_ _ | refine blk_drew ?_ | refine blk_alloc ?_ _)); exact BK858.out⟩, ⟨by (with_reducible repeat (first | refine blk_drewN ?_ _ | refine blk_drew ?_ | refine blk_alloc ?_ _)); exact BK859.out⟩, ⟨by repeat (first | (with_reducible first | exact HB.out | apply below_alloc | apply pw_below_drewN | apply below_drew1 | refine below_set ?_ GE858.out | refine below_set ?_ GE859.out) | exact HB.out)⟩⟩
                        case round =>
                          clear H'
                          try clear c1
                          try clear p2
                          try clear c5
                          try clear c5b0
                          try clear c5b1
                          try clear p6
                          try clear c8
                          try clear p8
                          try clear q8
                          try clear hx8
                          try clear c14
                          try clear c14b0
                          try clear c15
                          try clear c15b0
                          try clear c16
                          try clear c16b0
                          try clear c17
                          try clear c17b0
                          try clear c18
                          try clear c18b0
                          try clear c19
                          try clear c19b0
                          try clear hcz9_0
                          try clear hcz9_1
                          try clear hfz9_0
                          try clear hfz9_1
                          try clear hx873_0
                          try clear hx874_0
                          try clear p2
                          try clear p873
                          try clear p874
                          try clear q873
                          try clear q874
                          obtain ⟨x8_3, x11_3, x12_3, rfl, rfl, HA, HK3, HO_6, HO_7, HO_8, BK858, BK859, HB⟩ := hrel
                          cases gk with
                          | zero => exact absurd HA.out (by simp [paymasterref01_Times.l2])
                          | succ k3 =>
                            have H := HA.out
                            clear HA
                            simp only [paymasterref01_Times.l2] at H
                            by_cases c22 : x11_3 > 0
                            · rw [if_pos c22] at H
                              have c22b0 : decide (0 < x11_3) = true := decide_eq_true c22
                              clear c22
                              by_cases c23 : 0 ≤ x12_3
                              · rw [if_pos c23] at H
                                have c23b0 : decide (0 ≤ x12_3) = true := decide_eq_true c23
                                clear c23
                                by_cases c24 : x12_3 < (x8_3.length : Int)
                                · rw [if_pos c24] at H
                                  have c24b0 : decide (x12_3 < (x8_3.length : Int)) = true := decide_eq_true c24
                                  clear c24
                                  obtain ⟨y876, hy876⟩ : ∃ y_ : List Int, y_ = (x8_3.set (x12_3 : Int).toNat (Int.tmod (IntKind.u64.wrap (x11_3 + (rd x8_3 x12_3))) 65536)) := ⟨_, rfl⟩
                                  replace H : (paymasterref01_Times.l2 k3 t860 t863 y876 x9_1 x10_2 (IntKind.u64.wrap (Int.tdiv (IntKind.u64.wrap (x11_3 + (rd x8_3 x12_3))) 65536)) (wrap64 (x12_3 + 1))) = some (r1, r2, r3) := by first | (rw [hy876]; with_reducible exact H) | (have H2_ := (Option.bind_some _ _).symm.trans H; rw [hy876]; with_reducible exact H2_) | (have H2_ := (Option.bind_some _ _).symm.trans H; with_reducible exact H2_) | with_reducible exact H | (rw [hy876]; exact H) | exact H
                                  have Ny876 := Aside0.mk hy876
                                  clear hy876
                                  have H' := Aside0.mk H
                                  clear H
                                  obtain ⟨Ao26, co26, eo26⟩ := Kd.R_slice HO_8.out
                                  subst eo26
                                  have p875 : 0 ≤ (x12_3 : Int) := of_decide_eq_true (by first | (with_reducible assumption) | assumption)
                                  have q875 : x12_3 < (x8_3.length : Int) := of_decide_eq_true (by first | (with_reducible assumption) | assumption)
                                  obtain ⟨ad875, e875, hx875_0⟩ := Kd.at_int (Kd.R_reads' HO_8.out).2.2 x12_3 p875 q875
                                  cases e875
                                  replace p875 := eq_true p875
                                  replace q875 := eq_true q875
                                  have p25 : 0 ≤ (x12_3 : Int) := of_decide_eq_true (by first | (with_reducible assumption) | assumption)
                                  have q25 : (x12_3 : Int) < ((x8_3.length : Int) : Int) := of_decide_eq_true (by first | (with_reducible assumption) | assumption)
                                  obtain ⟨go25, co25, eo25, gb25, gl25, cl25, HG25⟩ := Kd.R_form HO_8.out (by omega)
                                  (first | cases eo25 | (injection eo25 with ea_ en_ ec_; (first | subst ea_ | (injection ea_ with ea_; subst ea_)); subst ec_; clear en_))
                                  have GB25 := Aside0.mk gb25
                                  have GG25 := Aside0.mk HG25
                                  clear gb25 gl25 HG25
                                  (first | simp only [add_plain] at hx875_0 | skip)
                                  obtain ⟨hx25_0, hf25_0⟩ := Kd.R_celln 0 HO_8.out (x12_3 : Int) p25 q25
                                  replace p25 := eq_true p25
                                  replace q25 := eq_true q25
                                  have HP27 := Kd.R_putg HO_8.out (x12_3 : Int) (Int.tmod (IntKind.u64.wrap (x11_3 + (rd x8_3 x12_3))) 65536)
                                  go_wp2_with (first | ((with_reducible refine gate_store (t := 23) (p := 55) rfl ?_); (try (rw [drewN_self wr]; generalize hq_ : World.drewN wr _ = wr; have n0_ := Aside0.mk (Kd.R_at hq_ HO_6.out); have n1_ := Aside0.mk (Kd.R_at hq_ HO_7.out); have n2_ := Aside0.mk (Kd.R_at hq_ HO_8.out); have n3_ := Aside0.mk (blk_at hq_ BK858.out); have n4_ := Aside0.mk (blk_at hq_ BK859.out); have n5_ := Aside0.mk (below_at hq_ HB.out); clear hq_ HO_6 HO_7 HO_8 BK858 BK859 HB; have HO_6 := n0_; have HO_7 := n1_; have HO_8 := n2_; have BK858 := n3_; have BK859 := n4_; have HB := n5_; clear n0_ n1_ n2_ n3_ n4_ n5_; (try (have HP27 := Kd.R_putg HO_8.out (x12_3 : Int) (Int.tmod (IntKind.u64.wrap (x11_3 + (rd x8_3 x12_3))) 65536))))); refine store_event (t := 23) (p := 55) (v := ?vo_w28) (w1 := (wr.setCell ⟨go25, (x12_3 : Int).toNat, none⟩ (.int .u64 (Int.tmod (IntKind.u64.wrap (x11_3 + (rd x8_3 x12_3))) 65536)))) ?hg ?ho ?hn ?hr ?_; (case ho => rfl); (case hg => rfl); (case hn => rfl); (case hr => first | (go_simp; done) | (go_simp; rfl)); intro w28 hw; have hg : wr.grownBy w28 (some go25) := (by rw [hw]; exact HP27.2); have hp_ : Kd.R (Kd.int .u64) 23 w28 w.heap.size (fun k_ => some k_ ≠ (.slice (some ad873) t860.length co20 : Value).ownBlock ∧ some k_ ≠ (.slice (some ad874) t863.length co21 : Value).ownBlock) (.slice (some ⟨go25, 0, none⟩) x8_3.length co26) y876 := (by rw [hw, Ny876.out]; exact HP27.1); clear HP27; have n0_ := Aside0.mk (Kd.R_after (v := (.slice (some ⟨go25, 0, none⟩) x8_3.length co26)) (v1 := (.slice (some ⟨go25, 0, none⟩) x8_3.length co26)) (ok := (fun k_ => some k_ ≠ (.slice (some ad874) t863.length co21 : Value).ownBlock)) (by (with_reducible repeat (first | apply Kd.R_alloc | apply Kd.R_drewN | apply Kd.R_drew)); exact HO_6.out) hg (.inl rfl)); have n1_ := Aside0.mk (Kd.R_after (v := (.slice (some ⟨go25, 0, none⟩) x8_3.length co26)) (v1 := (.slice (some ⟨go25, 0, none⟩) x8_3.length co26)) (ok := (fun k_ => some k_ ≠ (.slice (some ad873) t860.length co20 : Value).ownBlock)) (by (with_reducible repeat (first | apply Kd.R_alloc | apply Kd.R_drewN | apply Kd.R_drew)); exact HO_7.out) hg (.inl rfl)); have n2_ := Aside0.mk (hp_); have n3_ := Aside0.mk (blk_grown (g := gb858) (o := .cells #[.int .u64 a0_0, .int .u64 a0_1] 25 (0, 0)) (by (with_reducible repeat (first | refine blk_drewN ?_ _ | refine blk_drew ?_ | refine blk_alloc ?_ _)); exact BK858.out) hg (Kd.R_ne HO_8.out BK858.out (by decide))); have n4_ := Aside0.mk (blk_grown (g := gb859) (o := .cells #[.int .u64 0, .int .u64 0] 25 (0, 0)) (by (with_reducible repeat (first | refine blk_drewN ?_ _ | refine blk_drew ?_ | refine blk_alloc ?_ _)); exact BK859.out) hg (Kd.R_ne HO_8.out BK859.out (by decide))); have n5_ := Aside0.mk ((by rw [hw]; exact below_set (HB.out) GB25.out : Below w.heap.size w w28)); clear HO_6; clear HO_7; clear HO_8; clear BK858; clear BK859; clear HB; have HO_6 := n0_; have HO_7 := n1_; have HO_8 := n2_; have BK858 := n3_; have BK859 := n4_; have HB := n5_; clear n0_ n1_ n2_ n3_ n4_ n5_; clear hg hw hp_))
                                  repeat (go_quiet (first | ((with_reducible refine gate_store (t := 23) (p := 55) rfl ?_); (try (rw [drewN_self wr]; generalize hq_ : World.drewN wr _ = wr; have n0_ := Aside0.mk (Kd.R_at hq_ HO_6.out); have n1_ := Aside0.mk (Kd.R_at hq_ HO_7.out); have n2_ := Aside0.mk (Kd.R_at hq_ HO_8.out); have n3_ := Aside0.mk (blk_at hq_ BK858.out); have n4_ := Aside0.mk (blk_at hq_ BK859.out); have n5_ := Aside0.mk (below_at hq_ HB.out); clear hq_ HO_6 HO_7 HO_8 BK858 BK859 HB; have HO_6 := n0_; have HO_7 := n1_; have HO_8 := n2_; have BK858 := n3_; have BK859 := n4_; have HB := n5_; clear n0_ n1_ n2_ n3_ n4_ n5_; (try (have HP27 := Kd.R_putg HO_8.out (x12_3 : Int) (Int.tmod (IntKind.u64.wrap (x11_3 + (rd x8_3 x12_3))) 65536))))); refine store_event (t := 23) (p := 55) (v := ?vo_w28) (w1 := (wr.setCell ⟨go25, (x12_3 : Int).toNat, none⟩ (.int .u64 (Int.tmod (IntKind.u64.wrap (x11_3 + (rd x8_3 x12_3))) 65536)))) ?hg ?ho ?hn ?hr ?_; (case ho => rfl); (case hg => rfl); (case hn => rfl); (case hr => first | (go_simp; done) | (go_simp; rfl)); intro w28 hw; have hg : wr.grownBy w28 (some go25) := (by rw [hw]; exact HP27.2); have hp_ : Kd.R (Kd.int .u64) 23 w28 w.heap.size (fun k_ => some k_ ≠ (.slice (some ad873) t860.length co20 : Value).ownBlock ∧ some k_ ≠ (.slice (some ad874) t863.length co21 : Value).ownBlock) (.slice (some ⟨go25, 0, none⟩) x8_3.length co26) y876 := (by rw [hw, Ny876.out]; exact HP27.1); clear HP27; have n0_ := Aside0.mk (Kd.R_after (v := (.slice (some ⟨go25, 0, none⟩) x8_3.length co26)) (v1 := (.slice (some ⟨go25, 0, none⟩) x8_3.length co26)) (ok := (fun k_ => some k_ ≠ (.slice (some ad874) t863.length co21 : Value).ownBlock)) (by (with_reducible repeat (first | apply Kd.R_alloc | apply Kd.R_drewN | apply Kd.R_drew)); exact HO_6.out) hg (.inl rfl)); have n1_ := Aside0.mk (Kd.R_after (v := (.slice (some ⟨go25, 0, none⟩) x8_3.length co26)) (v1 := (.slice (some ⟨go25, 0, none⟩) x8_3.length co26)) (ok := (fun k_ => some k_ ≠ (.slice (some ad873) t860.length co20 : Value).ownBlock)) (by (with_reducible repeat (first | apply Kd.R_alloc | apply Kd.R_drewN | apply Kd.R_drew)); exact HO_7.out) hg (.inl rfl)); have n2_ := Aside0.mk (hp_); have n3_ := Aside0.mk (blk_grown (g := gb858) (o := .cells #[.int .u64 a0_0, .int .u64 a0_1] 25 (0, 0)) (by (with_reducible repeat (first | refine blk_drewN ?_ _ | refine blk_drew ?_ | refine blk_alloc ?_ _)); exact BK858.out) hg (Kd.R_ne HO_8.out BK858.out (by decide))); have n4_ := Aside0.mk (blk_grown (g := gb859) (o := .cells #[.int .u64 0, .int .u64 0] 25 (0, 0)) (by (with_reducible repeat (first | refine blk_drewN ?_ _ | refine blk_drew ?_ | refine blk_alloc ?_ _)); exact BK859.out) hg (Kd.R_ne HO_8.out BK859.out (by decide))); have n5_ := Aside0.mk ((by rw [hw]; exact below_set (HB.out) GB25.out : Below w.heap.size w w28)); clear HO_6; clear HO_7; clear HO_8; clear BK858; clear BK859; clear HB; have HO_6 := n0_; have HO_7 := n1_; have HO_8 := n2_; have BK858 := n3_; have BK859 := n4_; have HB := n5_; clear n0_ n1_ n2_ n3_ n4_ n5_; clear hg hw hp_)); try go_wp2_with (first | ((with_reducible refine gate_store (t := 23) (p := 55) rfl ?_); (try (rw [drewN_self wr]; generalize hq_ : World.drewN wr _ = wr; have n0_ := Aside0.mk (Kd.R_at hq_ HO_6.out); have n1_ := Aside0.mk (Kd.R_at hq_ HO_7.out); have n2_ := Aside0.mk (Kd.R_at hq_ HO_8.out); have n3_ := Aside0.mk (blk_at hq_ BK858.out); have n4_ := Aside0.mk (blk_at hq_ BK859.out); have n5_ := Aside0.mk (below_at hq_ HB.out); clear hq_ HO_6 HO_7 HO_8 BK858 BK859 HB; have HO_6 := n0_; have HO_7 := n1_; have HO_8 := n2_; have BK858 := n3_; have BK859 := n4_; have HB := n5_; clear n0_ n1_ n2_ n3_ n4_ n5_; (try (have HP27 := Kd.R_putg HO_8.out (x12_3 : Int) (Int.tmod (IntKind.u64.wrap (x11_3 + (rd x8_3 x12_3))) 65536))))); refine store_event (t := 23) (p := 55) (v := ?vo_w28) (w1 := (wr.setCell ⟨go25, (x12_3 : Int).toNat, none⟩ (.int .u64 (Int.tmod (IntKind.u64.wrap (x11_3 + (rd x8_3 x12_3))) 65536)))) ?hg ?ho ?hn ?hr ?_; (case ho => rfl); (case hg => rfl); (case hn => rfl); (case hr => first | (go_simp; done) | (go_simp; rfl)); intro w28 hw; have hg : wr.grownBy w28 (some go25) := (by rw [hw]; exact HP27.2); have hp_ : Kd.R (Kd.int .u64) 23 w28 w.heap.size (fun k_ => some k_ ≠ (.slice (some ad873) t860.length co20 : Value).ownBlock ∧ some k_ ≠ (.slice (some ad874) t863.length co21 : Value).ownBlock) (.slice (some ⟨go25, 0, none⟩) x8_3.length co26) y876 := (by rw [hw, Ny876.out]; exact HP27.1); clear HP27; have n0_ := Aside0.mk (Kd.R_after (v := (.slice (some ⟨go25, 0, none⟩) x8_3.length co26)) (v1 := (.slice (some ⟨go25, 0, none⟩) x8_3.length co26)) (ok := (fun k_ => some k_ ≠ (.slice (some ad874) t863.length co21 : Value).ownBlock)) (by (with_reducible repeat (first | apply Kd.R_alloc | apply Kd.R_drewN | apply Kd.R_drew)); exact HO_6.out) hg (.inl rfl)); have n1_ := Aside0.mk (Kd.R_after (v := (.slice (some ⟨go25, 0, none⟩) x8_3.length co26)) (v1 := (.slice (some ⟨go25, 0, none⟩) x8_3.length co26)) (ok := (fun k_ => some k_ ≠ (.slice (some ad873) t860.length co20 : Value).ownBlock)) (by (with_reducible repeat (first | apply Kd.R_alloc | apply Kd.R_drewN | apply Kd.R_drew)); exact HO_7.out) hg (.inl rfl)); have n2_ := Aside0.mk (hp_); have n3_ := Aside0.mk (blk_grown (g := gb858) (o := .cells #[.int .u64 a0_0, .int .u64 a0_1] 25 (0, 0)) (by (with_reducible repeat (first | refine blk_drewN ?_ _ | refine blk_drew ?_ | refine blk_alloc ?_ _)); exact BK858.out) hg (Kd.R_ne HO_8.out BK858.out (by decide))); have n4_ := Aside0.mk (blk_grown (g := gb859) (o := .cells #[.int .u64 0, .int .u64 0] 25 (0, 0)) (by (with_reducible repeat (first | refine blk_drewN ?_ _ | refine blk_drew ?_ | refine blk_alloc ?_ _)); exact BK859.out) hg (Kd.R_ne HO_8.out BK859.out (by decide))); have n5_ := Aside0.mk ((by rw [hw]; exact below_set (HB.out) GB25.out : Below w.heap.size w w28)); clear HO_6; clear HO_7; clear HO_8; clear BK858; clear BK859; clear HB; have HO_6 := n0_; have HO_7 := n1_; have HO_8 := n2_; have BK858 := n3_; have BK859 := n4_; have HB := n5_; clear n0_ n1_ n2_ n3_ n4_ n5_; clear hg hw hp_)))
                                  go_roundg k3
                                  case measure => have := HK1.out; have := HK2.out; have := HK3.out; omega
                                  case rel => exact ⟨(y876), (IntKind.u64.wrap (Int.tdiv (IntKind.u64.wrap (x11_3 + (rd x8_3 x12_3))) 65536)), (wrap64 (x12_3 + 1)), (by first | rfl | (simp; done) | (simp [*]; done)), (by first | rfl | (simp; done) | (simp [*]; done)), H', ⟨by have := HK1.out; have := HK2.out; have := HK3.out; omega⟩, ⟨by (with_reducible repeat (first | apply Kd.R_alloc | apply Kd.R_drewN | apply Kd.R_drew)); exact HO_6.out⟩, ⟨by (with_reducible repeat (first | apply Kd.R_alloc | apply Kd.R_drewN | apply Kd.R_drew)); exact HO_7.out⟩, ⟨by (with_reducible repeat (first | apply Kd.R_alloc | apply Kd.R_drewN | apply Kd.R_drew)); exact HO_8.out⟩, ⟨by (with_reducible repeat (first | refine blk_drewN ?_ _ | refine blk_drew ?_ | refine blk_alloc ?_ _)); exact BK858.out⟩, ⟨by (with_reducible repeat (first | refine blk_drewN ?_ _ | refine blk_drew ?_ | refine blk_alloc ?_ _)); exact BK859.out⟩, ⟨by repeat (first | (with_reducible first | exact HB.out | apply below_alloc | apply pw_below_drewN | apply below_drew1 | refine below_set ?_ GE858.out | refine below_set ?_ GE859.out) | exact HB.out)⟩⟩
                                · rw [if_neg c24] at H
                                  exact absurd H (by simp)
                              · rw [if_neg c23] at H
                                exact absurd H (by simp)
                            · rw [if_neg c22] at H
                              have c22b0 : decide (0 < x11_3) = false := decide_eq_false c22
                              clear c22
                              have H' := Aside0.mk H
                              clear H
                              go_wp2
                              repeat (go_quiet (fail); try go_wp2)
                              go_roundg k3
                              case measure => have := HK1.out; have := HK2.out; have := HK3.out; omega
                              case rel => exact ⟨(x8_3), (wrap64 (x10_2 + 1)), (by first | rfl | (simp; done) | (simp [*]; done)), H', ⟨by have := HK1.out; have := HK2.out; have := HK3.out; omega⟩, ⟨by (with_reducible repeat (first | apply Kd.R_alloc | apply Kd.R_drewN | apply Kd.R_drew)); exact HO_6.out⟩, ⟨by (with_reducible repeat (first | apply Kd.R_alloc | apply Kd.R_drewN | apply Kd.R_drew)); exact HO_7.out⟩, ⟨by (with_reducible repeat (first | apply Kd.R_alloc | apply Kd.R_drewN | apply Kd.R_drew)); exact HO_8.out⟩, ⟨by (with_reducible repeat (first | refine blk_drewN ?_ _ | refine blk_drew ?_ | refine blk_alloc ?_ _)); exact BK858.out⟩, ⟨by (with_reducible repeat (first | refine blk_drewN ?_ _ | refine blk_drew ?_ | refine blk_alloc ?_ _)); exact BK859.out⟩, ⟨by repeat (first | (with_reducible first | exact HB.out | apply below_alloc | apply pw_below_drewN | apply below_drew1 | refine below_set ?_ GE858.out | refine below_set ?_ GE859.out) | exact HB.out)⟩⟩
                      · rw [if_neg c19] at H
                        exact absurd H (by simp)
                    · rw [if_neg c18] at H
                      exact absurd H (by simp)
                  · rw [if_neg c17] at H
                    exact absurd H (by simp)
                · rw [if_neg c16] at H
                  exact absurd H (by simp)
              · rw [if_neg c15] at H
                have c15b0 : decide (x10_2 < 4) = false := decide_eq_false c15
                clear c15
                have H' := Aside0.mk H
                clear H
                go_wp2
                repeat (go_quiet (fail); try go_wp2)
                go_roundg k2
                case measure => have := HK1.out; have := HK2.out; omega
                case rel => exact ⟨(x8_2), (wrap64 (x9_1 + 1)), (by first | rfl | (simp; done) | (simp [*]; done)), H', ⟨by have := HK1.out; have := HK2.out; omega⟩, ⟨by (with_reducible repeat (first | apply Kd.R_alloc | apply Kd.R_drewN | apply Kd.R_drew)); exact HO_6.out⟩, ⟨by (with_reducible repeat (first | apply Kd.R_alloc | apply Kd.R_drewN | apply Kd.R_drew)); exact HO_7.out⟩, ⟨by (with_reducible repeat (first | apply Kd.R_alloc | apply Kd.R_drewN | apply Kd.R_drew)); exact HO_8.out⟩, ⟨by (with_reducible repeat (first | refine blk_drewN ?_ _ | refine blk_drew ?_ | refine blk_alloc ?_ _)); exact BK858.out⟩, ⟨by (with_reducible repeat (first | refine blk_drewN ?_ _ | refine blk_drew ?_ | refine blk_alloc ?_ _)); exact BK859.out⟩, ⟨by repeat (first | (with_reducible first | exact HB.out | apply below_alloc | apply pw_below_drewN | apply below_drew1 | refine below_set ?_ GE858.out | refine below_set ?_ GE859.out) | exact HB.out)⟩⟩
        · rw [if_neg c14] at H
          have c14b0 : decide (x9_1 < 8) = false := decide_eq_false c14
          clear c14
          replace H := Option.bind_eq_some_iff.mp H
          obtain ⟨⟨t869, t870, t871⟩, A290, H⟩ := H
          replace H : (if t871 = true then (some (t869, t870, 0)) else (some (0, 0, 10))) = some (r1, r2, r3) := H
          have A29 := Aside0.mk A290
          clear A290
          by_cases c30 : t871 = true
          · subst c30
            have H1 : (some (t869, t870, 0)) = some (r1, r2, r3) := by rw [if_pos rfl] at H; exact H
            clear H
            have H := H1
            clear H1
            simp only [Option.some.injEq, Prod.mk.injEq] at H
            obtain ⟨rfl, rfl, rfl⟩ := H
            obtain ⟨Ao31, co31, eo31⟩ := Kd.R_slice HO_8.out
            subst eo31
            go_wp2_with (first | (go_at_call 83; (with_reducible refine (paymasterref01_number.calls k1 _ _ x8_1 t869 t870 true _ ?side1 ?side2 A29.out).mono ?_); (case side1 => repeat (first | exact (Kd.R_reads' HO_8.out).2.2 | (with_reducible refine Kd.C_alloc ?_ _) | (with_reducible refine Kd.C_drewN ?_ _) | (with_reducible refine Kd.C_drew ?_))); (case side2 => exact (Kd.R_reads' HO_8.out).2.1); rintro e w32 ⟨rfl, hb⟩; have n0_ := Aside0.mk (Kd.R_below (by (with_reducible repeat (first | apply Kd.R_alloc | apply Kd.R_drewN | apply Kd.R_drew)); exact HO_6.out) hb); have n1_ := Aside0.mk (Kd.R_below (by (with_reducible repeat (first | apply Kd.R_alloc | apply Kd.R_drewN | apply Kd.R_drew)); exact HO_7.out) hb); have n2_ := Aside0.mk (Kd.R_below (by (with_reducible repeat (first | apply Kd.R_alloc | apply Kd.R_drewN | apply Kd.R_drew)); exact HO_8.out) hb); have n3_ := Aside0.mk (blk_below (g := gb858) (o := .cells #[.int .u64 a0_0, .int .u64 a0_1] 25 (0, 0)) (by (with_reducible repeat (first | refine blk_drewN ?_ _ | refine blk_drew ?_ | refine blk_alloc ?_ _)); exact BK858.out) hb); have n4_ := Aside0.mk (blk_below (g := gb859) (o := .cells #[.int .u64 0, .int .u64 0] 25 (0, 0)) (by (with_reducible repeat (first | refine blk_drewN ?_ _ | refine blk_drew ?_ | refine blk_alloc ?_ _)); exact BK859.out) hb); have n5_ := Aside0.mk (below_step (by repeat (first | (with_reducible first | exact HB.out | apply below_alloc | apply pw_below_drewN | apply below_drew1 | refine below_set ?_ GE858.out | refine below_set ?_ GE859.out) | exact HB.out)) hb); clear HO_6; clear HO_7; clear HO_8; clear BK858; clear BK859; clear HB; have HO_6 := n0_; have HO_7 := n1_; have HO_8 := n2_; have BK858 := n3_; have BK859 := n4_; have HB := n5_; clear n0_ n1_ n2_ n3_ n4_ n5_; (try clear hb); (try clear hb2); (try clear hk); (try clear hi)) | ((with_reducible refine gate_dst (N := 13) rfl ?_); refine box_event ?hg (N := 13) ?hd (cs := #[.int .u64 0, .int .u64 0]) (t := 25) ?hr ?_; (case hd => rfl); (case hg => rfl); (case hr => first | (go_simp; done) | (go_simp; rfl)); intro gb872 hg w33 hbox hb; have n0_ := Aside0.mk (Kd.R_below (by (with_reducible repeat (first | apply Kd.R_alloc | apply Kd.R_drewN | apply Kd.R_drew)); exact HO_6.out) hb); have n1_ := Aside0.mk (Kd.R_below (by (with_reducible repeat (first | apply Kd.R_alloc | apply Kd.R_drewN | apply Kd.R_drew)); exact HO_7.out) hb); have n2_ := Aside0.mk (Kd.R_below (by (with_reducible repeat (first | apply Kd.R_alloc | apply Kd.R_drewN | apply Kd.R_drew)); exact HO_8.out) hb); have n3_ := Aside0.mk (blk_below (g := gb858) (o := .cells #[.int .u64 a0_0, .int .u64 a0_1] 25 (0, 0)) (by (with_reducible repeat (first | refine blk_drewN ?_ _ | refine blk_drew ?_ | refine blk_alloc ?_ _)); exact BK858.out) hb); have n4_ := Aside0.mk (blk_below (g := gb859) (o := .cells #[.int .u64 0, .int .u64 0] 25 (0, 0)) (by (with_reducible repeat (first | refine blk_drewN ?_ _ | refine blk_drew ?_ | refine blk_alloc ?_ _)); exact BK859.out) hb); have n5_ := Aside0.mk (below_step (by repeat (first | (with_reducible first | exact HB.out | apply below_alloc | apply pw_below_drewN | apply below_drew1 | refine below_set ?_ GE858.out | refine below_set ?_ GE859.out) | exact HB.out)) hb); have n6_ := Aside0.mk (hbox); have n7_ := Aside0.mk ((by rw [hg]; exact (below_size (by repeat (first | (with_reducible first | exact HB.out | apply below_alloc | apply pw_below_drewN | apply below_drew1 | refine below_set ?_ GE858.out | refine below_set ?_ GE859.out) | exact HB.out))) : w.heap.size ≤ gb872)); have n8_ := Aside0.mk ((by rw [hg]; exact (below_size (by repeat (first | (with_reducible first | exact HB.out | apply below_alloc | apply pw_below_drewN | apply below_drew1 | refine below_set ?_ GE858.out | refine below_set ?_ GE859.out) | exact HB.out))) : w.heap.size ≤ gb872)); have n9_ := Aside0.mk ((by rw [hg]; exact Nat.ne_of_lt (blk_lt (g := gb858) (o := .cells #[.int .u64 a0_0, .int .u64 a0_1] 25 (0, 0)) (by (with_reducible repeat (first | refine blk_drewN ?_ _ | refine blk_drew ?_ | refine blk_alloc ?_ _)); exact BK858.out)) : gb858 ≠ gb872)); have n10_ := Aside0.mk ((by rw [hg]; exact Nat.ne_of_gt (blk_lt (g := gb858) (o := .cells #[.int .u64 a0_0, .int .u64 a0_1] 25 (0, 0)) (by (with_reducible repeat (first | refine blk_drewN ?_ _ | refine blk_drew ?_ | refine blk_alloc ?_ _)); exact BK858.out)) : gb872 ≠ gb858)); have n11_ := Aside0.mk ((by rw [hg]; exact Nat.ne_of_lt (blk_lt (g := gb859) (o := .cells #[.int .u64 0, .int .u64 0] 25 (0, 0)) (by (with_reducible repeat (first | refine blk_drewN ?_ _ | refine blk_drew ?_ | refine blk_alloc ?_ _)); exact BK859.out)) : gb859 ≠ gb872)); have n12_ := Aside0.mk ((by rw [hg]; exact Nat.ne_of_gt (blk_lt (g := gb859) (o := .cells #[.int .u64 0, .int .u64 0] 25 (0, 0)) (by (with_reducible repeat (first | refine blk_drewN ?_ _ | refine blk_drew ?_ | refine blk_alloc ?_ _)); exact BK859.out)) : gb872 ≠ gb859)); clear HO_6; clear HO_7; clear HO_8; clear BK858; clear BK859; clear HB; have HO_6 := n0_; have HO_7 := n1_; have HO_8 := n2_; have BK858 := n3_; have BK859 := n4_; have HB := n5_; have BK872 := n6_; have GW872 := n7_; have GE872 := n8_; have NB858_872 := n9_; have NB872_858 := n10_; have NB859_872 := n11_; have NB872_859 := n12_; clear n0_ n1_ n2_ n3_ n4_ n5_ n6_ n7_ n8_ n9_ n10_ n11_ n12_; clear hb hbox hg; have hnb34 := NB872_858.out; have hnc34 := NB858_872.out; have hnb35 := NB872_859.out; have hnc35 := NB859_872.out; have hcz36_0 : w33.cell? ⟨gb872, 0, none⟩ = some (.int .u64 0) := (blk_cell BK872.out 0).trans rfl; have hcz36_1 : w33.cell? ⟨gb872, 1, none⟩ = some (.int .u64 0) := (blk_cell BK872.out 1).trans rfl; have hfz36_0 := blk_frozen BK872.out 0; have hfz36_1 := blk_frozen BK872.out 1; have hnb37 := NB859_858.out; have hnc37 := NB858_859.out; have hcz38_0 : w33.cell? ⟨gb859, 0, none⟩ = some (.int .u64 0) := (blk_cell BK859.out 0).trans rfl; have hcz38_1 : w33.cell? ⟨gb859, 1, none⟩ = some (.int .u64 0) := (blk_cell BK859.out 1).trans rfl; have hfz38_0 := blk_frozen BK859.out 0; have hfz38_1 := blk_frozen BK859.out 1))
            repeat (go_quiet (first | (go_at_call 83; (with_reducible refine (paymasterref01_number.calls k1 _ _ x8_1 t869 t870 true _ ?side1 ?side2 A29.out).mono ?_); (case side1 => repeat (first | exact (Kd.R_reads' HO_8.out).2.2 | (with_reducible refine Kd.C_alloc ?_ _) | (with_reducible refine Kd.C_drewN ?_ _) | (with_reducible refine Kd.C_drew ?_))); (case side2 => exact (Kd.R_reads' HO_8.out).2.1); rintro e w32 ⟨rfl, hb⟩; have n0_ := Aside0.mk (Kd.R_below (by (with_reducible repeat (first | apply Kd.R_alloc | apply Kd.R_drewN | apply Kd.R_drew)); exact HO_6.out) hb); have n1_ := Aside0.mk (Kd.R_below (by (with_reducible repeat (first | apply Kd.R_alloc | apply Kd.R_drewN | apply Kd.R_drew)); exact HO_7.out) hb); have n2_ := Aside0.mk (Kd.R_below (by (with_reducible repeat (first | apply Kd.R_alloc | apply Kd.R_drewN | apply Kd.R_drew)); exact HO_8.out) hb); have n3_ := Aside0.mk (blk_below (g := gb858) (o := .cells #[.int .u64 a0_0, .int .u64 a0_1] 25 (0, 0)) (by (with_reducible repeat (first | refine blk_drewN ?_ _ | refine blk_drew ?_ | refine blk_alloc ?_ _)); exact BK858.out) hb); have n4_ := Aside0.mk (blk_below (g := gb859) (o := .cells #[.int .u64 0, .int .u64 0] 25 (0, 0)) (by (with_reducible repeat (first | refine blk_drewN ?_ _ | refine blk_drew ?_ | refine blk_alloc ?_ _)); exact BK859.out) hb); have n5_ := Aside0.mk (below_step (by repeat (first | (with_reducible first | exact HB.out | apply below_alloc | apply pw_below_drewN | apply below_drew1 | refine below_set ?_ GE858.out | refine below_set ?_ GE859.out) | exact HB.out)) hb); clear HO_6; clear HO_7; clear HO_8; clear BK858; clear BK859; clear HB; have HO_6 := n0_; have HO_7 := n1_; have HO_8 := n2_; have BK858 := n3_; have BK859 := n4_; have HB := n5_; clear n0_ n1_ n2_ n3_ n4_ n5_; (try clear hb); (try clear hb2); (try clear hk); (try clear hi)) | ((with_reducible refine gate_dst (N := 13) rfl ?_); refine box_event ?hg (N := 13) ?hd (cs := #[.int .u64 0, .int .u64 0]) (t := 25) ?hr ?_; (case hd => rfl); (case hg => rfl); (case hr => first | (go_simp; done) | (go_simp; rfl)); intro gb872 hg w33 hbox hb; have n0_ := Aside0.mk (Kd.R_below (by (with_reducible repeat (first | apply Kd.R_alloc | apply Kd.R_drewN | apply Kd.R_drew)); exact HO_6.out) hb); have n1_ := Aside0.mk (Kd.R_below (by (with_reducible repeat (first | apply Kd.R_alloc | apply Kd.R_drewN | apply Kd.R_drew)); exact HO_7.out) hb); have n2_ := Aside0.mk (Kd.R_below (by (with_reducible repeat (first | apply Kd.R_alloc | apply Kd.R_drewN | apply Kd.R_drew)); exact HO_8.out) hb); have n3_ := Aside0.mk (blk_below (g := gb858) (o := .cells #[.int .u64 a0_0, .int .u64 a0_1] 25 (0, 0)) (by (with_reducible repeat (first | refine blk_drewN ?_ _ | refine blk_drew ?_ | refine blk_alloc ?_ _)); exact BK858.out) hb); have n4_ := Aside0.mk (blk_below (g := gb859) (o := .cells #[.int .u64 0, .int .u64 0] 25 (0, 0)) (by (with_reducible repeat (first | refine blk_drewN ?_ _ | refine blk_drew ?_ | refine blk_alloc ?_ _)); exact BK859.out) hb); have n5_ := Aside0.mk (below_step (by repeat (first | (with_reducible first | exact HB.out | apply below_alloc | apply pw_below_drewN | apply below_drew1 | refine below_set ?_ GE858.out | refine below_set ?_ GE859.out) | exact HB.out)) hb); have n6_ := Aside0.mk (hbox); have n7_ := Aside0.mk ((by rw [hg]; exact (below_size (by repeat (first | (with_reducible first | exact HB.out | apply below_alloc | apply pw_below_drewN | apply below_drew1 | refine below_set ?_ GE858.out | refine below_set ?_ GE859.out) | exact HB.out))) : w.heap.size ≤ gb872)); have n8_ := Aside0.mk ((by rw [hg]; exact (below_size (by repeat (first | (with_reducible first | exact HB.out | apply below_alloc | apply pw_below_drewN | apply below_drew1 | refine below_set ?_ GE858.out | refine below_set ?_ GE859.out) | exact HB.out))) : w.heap.size ≤ gb872)); have n9_ := Aside0.mk ((by rw [hg]; exact Nat.ne_of_lt (blk_lt (g := gb858) (o := .cells #[.int .u64 a0_0, .int .u64 a0_1] 25 (0, 0)) (by (with_reducible repeat (first | refine blk_drewN ?_ _ | refine blk_drew ?_ | refine blk_alloc ?_ _)); exact BK858.out)) : gb858 ≠ gb872)); have n10_ := Aside0.mk ((by rw [hg]; exact Nat.ne_of_gt (blk_lt (g := gb858) (o := .cells #[.int .u64 a0_0, .int .u64 a0_1] 25 (0, 0)) (by (with_reducible repeat (first | refine blk_drewN ?_ _ | refine blk_drew ?_ | refine blk_alloc ?_ _)); exact BK858.out)) : gb872 ≠ gb858)); have n11_ := Aside0.mk ((by rw [hg]; exact Nat.ne_of_lt (blk_lt (g := gb859) (o := .cells #[.int .u64 0, .int .u64 0] 25 (0, 0)) (by (with_reducible repeat (first | refine blk_drewN ?_ _ | refine blk_drew ?_ | refine blk_alloc ?_ _)); exact BK859.out)) : gb859 ≠ gb872)); have n12_ := Aside0.mk ((by rw [hg]; exact Nat.ne_of_gt (blk_lt (g := gb859) (o := .cells #[.int .u64 0, .int .u64 0] 25 (0, 0)) (by (with_reducible repeat (first | refine blk_drewN ?_ _ | refine blk_drew ?_ | refine blk_alloc ?_ _)); exact BK859.out)) : gb872 ≠ gb859)); clear HO_6; clear HO_7; clear HO_8; clear BK858; clear BK859; clear HB; have HO_6 := n0_; have HO_7 := n1_; have HO_8 := n2_; have BK858 := n3_; have BK859 := n4_; have HB := n5_; have BK872 := n6_; have GW872 := n7_; have GE872 := n8_; have NB858_872 := n9_; have NB872_858 := n10_; have NB859_872 := n11_; have NB872_859 := n12_; clear n0_ n1_ n2_ n3_ n4_ n5_ n6_ n7_ n8_ n9_ n10_ n11_ n12_; clear hb hbox hg; have hnb34 := NB872_858.out; have hnc34 := NB858_872.out; have hnb35 := NB872_859.out; have hnc35 := NB859_872.out; have hcz36_0 : w33.cell? ⟨gb872, 0, none⟩ = some (.int .u64 0) := (blk_cell BK872.out 0).trans rfl; have hcz36_1 : w33.cell? ⟨gb872, 1, none⟩ = some (.int .u64 0) := (blk_cell BK872.out 1).trans rfl; have hfz36_0 := blk_frozen BK872.out 0; have hfz36_1 := blk_frozen BK872.out 1; have hnb37 := NB859_858.out; have hnc37 := NB858_859.out; have hcz38_0 : w33.cell? ⟨gb859, 0, none⟩ = some (.int .u64 0) := (blk_cell BK859.out 0).trans rfl; have hcz38_1 : w33.cell? ⟨gb859, 1, none⟩ = some (.int .u64 0) := (blk_cell BK859.out 1).trans rfl; have hfz38_0 := blk_frozen BK859.out 0; have hfz38_1 := blk_frozen BK859.out 1)); try go_wp2_with (first | (go_at_call 83; (with_reducible refine (paymasterref01_number.calls k1 _ _ x8_1 t869 t870 true _ ?side1 ?side2 A29.out).mono ?_); (case side1 => repeat (first | exact (Kd.R_reads' HO_8.out).2.2 | (with_reducible refine Kd.C_alloc ?_ _) | (with_reducible refine Kd.C_drewN ?_ _) | (with_reducible refine Kd.C_drew ?_))); (case side2 => exact (Kd.R_reads' HO_8.out).2.1); rintro e w32 ⟨rfl, hb⟩; have n0_ := Aside0.mk (Kd.R_below (by (with_reducible repeat (first | apply Kd.R_alloc | apply Kd.R_drewN | apply Kd.R_drew)); exact HO_6.out) hb); have n1_ := Aside0.mk (Kd.R_below (by (with_reducible repeat (first | apply Kd.R_alloc | apply Kd.R_drewN | apply Kd.R_drew)); exact HO_7.out) hb); have n2_ := Aside0.mk (Kd.R_below (by (with_reducible repeat (first | apply Kd.R_alloc | apply Kd.R_drewN | apply Kd.R_drew)); exact HO_8.out) hb); have n3_ := Aside0.mk (blk_below (g := gb858) (o := .cells #[.int .u64 a0_0, .int .u64 a0_1] 25 (0, 0)) (by (with_reducible repeat (first | refine blk_drewN ?_ _ | refine blk_drew ?_ | refine blk_alloc ?_ _)); exact BK858.out) hb); have n4_ := Aside0.mk (blk_below (g := gb859) (o := .cells #[.int .u64 0, .int .u64 0] 25 (0, 0)) (by (with_reducible repeat (first | refine blk_drewN ?_ _ | refine blk_drew ?_ | refine blk_alloc ?_ _)); exact BK859.out) hb); have n5_ := Aside0.mk (below_step (by repeat (first | (with_reducible first | exact HB.out | apply below_alloc | apply pw_below_drewN | apply below_drew1 | refine below_set ?_ GE858.out | refine below_set ?_ GE859.out) | exact HB.out)) hb); clear HO_6; clear HO_7; clear HO_8; clear BK858; clear BK859; clear HB; have HO_6 := n0_; have HO_7 := n1_; have HO_8 := n2_; have BK858 := n3_; have BK859 := n4_; have HB := n5_; clear n0_ n1_ n2_ n3_ n4_ n5_; (try clear hb); (try clear hb2); (try clear hk); (try clear hi)) | ((with_reducible refine gate_dst (N := 13) rfl ?_); refine box_event ?hg (N := 13) ?hd (cs := #[.int .u64 0, .int .u64 0]) (t := 25) ?hr ?_; (case hd => rfl); (case hg => rfl); (case hr => first | (go_simp; done) | (go_simp; rfl)); intro gb872 hg w33 hbox hb; have n0_ := Aside0.mk (Kd.R_below (by (with_reducible repeat (first | apply Kd.R_alloc | apply Kd.R_drewN | apply Kd.R_drew)); exact HO_6.out) hb); have n1_ := Aside0.mk (Kd.R_below (by (with_reducible repeat (first | apply Kd.R_alloc | apply Kd.R_drewN | apply Kd.R_drew)); exact HO_7.out) hb); have n2_ := Aside0.mk (Kd.R_below (by (with_reducible repeat (first | apply Kd.R_alloc | apply Kd.R_drewN | apply Kd.R_drew)); exact HO_8.out) hb); have n3_ := Aside0.mk (blk_below (g := gb858) (o := .cells #[.int .u64 a0_0, .int .u64 a0_1] 25 (0, 0)) (by (with_reducible repeat (first | refine blk_drewN ?_ _ | refine blk_drew ?_ | refine blk_alloc ?_ _)); exact BK858.out) hb); have n4_ := Aside0.mk (blk_below (g := gb859) (o := .cells #[.int .u64 0, .int .u64 0] 25 (0, 0)) (by (with_reducible repeat (first | refine blk_drewN ?_ _ | refine blk_drew ?_ | refine blk_alloc ?_ _)); exact BK859.out) hb); have n5_ := Aside0.mk (below_step (by repeat (first | (with_reducible first | exact HB.out | apply below_alloc | apply pw_below_drewN | apply below_drew1 | refine below_set ?_ GE858.out | refine below_set ?_ GE859.out) | exact HB.out)) hb); have n6_ := Aside0.mk (hbox); have n7_ := Aside0.mk ((by rw [hg]; exact (below_size (by repeat (first | (with_reducible first | exact HB.out | apply below_alloc | apply pw_below_drewN | apply below_drew1 | refine below_set ?_ GE858.out | refine below_set ?_ GE859.out) | exact HB.out))) : w.heap.size ≤ gb872)); have n8_ := Aside0.mk ((by rw [hg]; exact (below_size (by repeat (first | (with_reducible first | exact HB.out | apply below_alloc | apply pw_below_drewN | apply below_drew1 | refine below_set ?_ GE858.out | refine below_set ?_ GE859.out) | exact HB.out))) : w.heap.size ≤ gb872)); have n9_ := Aside0.mk ((by rw [hg]; exact Nat.ne_of_lt (blk_lt (g := gb858) (o := .cells #[.int .u64 a0_0, .int .u64 a0_1] 25 (0, 0)) (by (with_reducible repeat (first | refine blk_drewN ?_ _ | refine blk_drew ?_ | refine blk_alloc ?_ _)); exact BK858.out)) : gb858 ≠ gb872)); have n10_ := Aside0.mk ((by rw [hg]; exact Nat.ne_of_gt (blk_lt (g := gb858) (o := .cells #[.int .u64 a0_0, .int .u64 a0_1] 25 (0, 0)) (by (with_reducible repeat (first | refine blk_drewN ?_ _ | refine blk_drew ?_ | refine blk_alloc ?_ _)); exact BK858.out)) : gb872 ≠ gb858)); have n11_ := Aside0.mk ((by rw [hg]; exact Nat.ne_of_lt (blk_lt (g := gb859) (o := .cells #[.int .u64 0, .int .u64 0] 25 (0, 0)) (by (with_reducible repeat (first | refine blk_drewN ?_ _ | refine blk_drew ?_ | refine blk_alloc ?_ _)); exact BK859.out)) : gb859 ≠ gb872)); have n12_ := Aside0.mk ((by rw [hg]; exact Nat.ne_of_gt (blk_lt (g := gb859) (o := .cells #[.int .u64 0, .int .u64 0] 25 (0, 0)) (by (with_reducible repeat (first | refine blk_drewN ?_ _ | refine blk_drew ?_ | refine blk_alloc ?_ _)); exact BK859.out)) : gb872 ≠ gb859)); clear HO_6; clear HO_7; clear HO_8; clear BK858; clear BK859; clear HB; have HO_6 := n0_; have HO_7 := n1_; have HO_8 := n2_; have BK858 := n3_; have BK859 := n4_; have HB := n5_; have BK872 := n6_; have GW872 := n7_; have GE872 := n8_; have NB858_872 := n9_; have NB872_858 := n10_; have NB859_872 := n11_; have NB872_859 := n12_; clear n0_ n1_ n2_ n3_ n4_ n5_ n6_ n7_ n8_ n9_ n10_ n11_ n12_; clear hb hbox hg; have hnb34 := NB872_858.out; have hnc34 := NB858_872.out; have hnb35 := NB872_859.out; have hnc35 := NB859_872.out; have hcz36_0 : w33.cell? ⟨gb872, 0, none⟩ = some (.int .u64 0) := (blk_cell BK872.out 0).trans rfl; have hcz36_1 : w33.cell? ⟨gb872, 1, none⟩ = some (.int .u64 0) := (blk_cell BK872.out 1).trans rfl; have hfz36_0 := blk_frozen BK872.out 0; have hfz36_1 := blk_frozen BK872.out 1; have hnb37 := NB859_858.out; have hnc37 := NB858_859.out; have hcz38_0 : w33.cell? ⟨gb859, 0, none⟩ = some (.int .u64 0) := (blk_cell BK859.out 0).trans rfl; have hcz38_1 : w33.cell? ⟨gb859, 1, none⟩ = some (.int .u64 0) := (blk_cell BK859.out 1).trans rfl; have hfz38_0 := blk_frozen BK859.out 0; have hfz38_1 := blk_frozen BK859.out 1)))
            refine bodyPost_ret (results_ct rfl _ _ gb859 25 #[.int .u64 t869, .int .u64 t870] (0, 0) _ rfl (by (with_reducible repeat (first | refine blk_drewN ?_ _ | refine blk_drew ?_ | refine blk_alloc ?_ _)); refine blk_put (cs := #[.int .u64 t869, .int .u64 0]) ?_ 1 _ rfl; (with_reducible repeat (first | refine blk_drewN ?_ _ | refine blk_drew ?_ | refine blk_alloc ?_ _)); refine blk_put (cs := #[.int .u64 0, .int .u64 0]) ?_ 0 _ rfl; (with_reducible repeat (first | refine blk_drewN ?_ _ | refine blk_drew ?_ | refine blk_alloc ?_ _)); refine blk_far ?_ NB859_872.out _; (with_reducible repeat (first | refine blk_drewN ?_ _ | refine blk_drew ?_ | refine blk_alloc ?_ _)); refine blk_far ?_ NB859_872.out _; (with_reducible repeat (first | refine blk_drewN ?_ _ | refine blk_drew ?_ | refine blk_alloc ?_ _)); exact BK859.out) Try.underlying25 rfl (by kernel_rfl)) rfl ?_
            exact ⟨by first | rfl | (simp [errW_none, errW_some] <;> rfl) | (simp [*, errW_none, errW_some] <;> rfl), by repeat (first | (with_reducible first | exact HB.out | apply below_alloc | apply pw_below_drewN | apply below_drew1 | refine below_set ?_ GE858.out | refine below_set ?_ GE859.out | refine below_set ?_ GE872.out) | exact HB.out)⟩
          · replace c30 := Bool.eq_false_iff.mpr c30
            subst c30
            have H1 : (some (0, 0, 10)) = some (r1, r2, r3) := by rw [if_neg (show ¬ (false = true) by decide)] at H; exact H
            clear H
            have H := H1
            clear H1
            simp only [Option.some.injEq, Prod.mk.injEq] at H
            obtain ⟨rfl, rfl, rfl⟩ := H
            obtain ⟨Ao39, co39, eo39⟩ := Kd.R_slice HO_8.out
            subst eo39
            go_wp2_with (first | (go_at_call 83; (with_reducible refine (paymasterref01_number.calls k1 _ _ x8_1 t869 t870 false _ ?side1 ?side2 A29.out).mono ?_); (case side1 => repeat (first | exact (Kd.R_reads' HO_8.out).2.2 | (with_reducible refine Kd.C_alloc ?_ _) | (with_reducible refine Kd.C_drewN ?_ _) | (with_reducible refine Kd.C_drew ?_))); (case side2 => exact (Kd.R_reads' HO_8.out).2.1); rintro e w40 ⟨rfl, hb⟩; have n0_ := Aside0.mk (Kd.R_below (by (with_reducible repeat (first | apply Kd.R_alloc | apply Kd.R_drewN | apply Kd.R_drew)); exact HO_6.out) hb); have n1_ := Aside0.mk (Kd.R_below (by (with_reducible repeat (first | apply Kd.R_alloc | apply Kd.R_drewN | apply Kd.R_drew)); exact HO_7.out) hb); have n2_ := Aside0.mk (Kd.R_below (by (with_reducible repeat (first | apply Kd.R_alloc | apply Kd.R_drewN | apply Kd.R_drew)); exact HO_8.out) hb); have n3_ := Aside0.mk (blk_below (g := gb858) (o := .cells #[.int .u64 a0_0, .int .u64 a0_1] 25 (0, 0)) (by (with_reducible repeat (first | refine blk_drewN ?_ _ | refine blk_drew ?_ | refine blk_alloc ?_ _)); exact BK858.out) hb); have n4_ := Aside0.mk (blk_below (g := gb859) (o := .cells #[.int .u64 0, .int .u64 0] 25 (0, 0)) (by (with_reducible repeat (first | refine blk_drewN ?_ _ | refine blk_drew ?_ | refine blk_alloc ?_ _)); exact BK859.out) hb); have n5_ := Aside0.mk (below_step (by repeat (first | (with_reducible first | exact HB.out | apply below_alloc | apply pw_below_drewN | apply below_drew1 | refine below_set ?_ GE858.out | refine below_set ?_ GE859.out) | exact HB.out)) hb); clear HO_6; clear HO_7; clear HO_8; clear BK858; clear BK859; clear HB; have HO_6 := n0_; have HO_7 := n1_; have HO_8 := n2_; have BK858 := n3_; have BK859 := n4_; have HB := n5_; clear n0_ n1_ n2_ n3_ n4_ n5_; (try clear hb); (try clear hb2); (try clear hk); (try clear hi)) | ((with_reducible refine gate_dst (N := 13) rfl ?_); refine box_event ?hg (N := 13) ?hd (cs := #[.int .u64 0, .int .u64 0]) (t := 25) ?hr ?_; (case hd => rfl); (case hg => rfl); (case hr => first | (go_simp; done) | (go_simp; rfl)); intro gb872 hg w41 hbox hb; have n0_ := Aside0.mk (Kd.R_below (by (with_reducible repeat (first | apply Kd.R_alloc | apply Kd.R_drewN | apply Kd.R_drew)); exact HO_6.out) hb); have n1_ := Aside0.mk (Kd.R_below (by (with_reducible repeat (first | apply Kd.R_alloc | apply Kd.R_drewN | apply Kd.R_drew)); exact HO_7.out) hb); have n2_ := Aside0.mk (Kd.R_below (by (with_reducible repeat (first | apply Kd.R_alloc | apply Kd.R_drewN | apply Kd.R_drew)); exact HO_8.out) hb); have n3_ := Aside0.mk (blk_below (g := gb858) (o := .cells #[.int .u64 a0_0, .int .u64 a0_1] 25 (0, 0)) (by (with_reducible repeat (first | refine blk_drewN ?_ _ | refine blk_drew ?_ | refine blk_alloc ?_ _)); exact BK858.out) hb); have n4_ := Aside0.mk (blk_below (g := gb859) (o := .cells #[.int .u64 0, .int .u64 0] 25 (0, 0)) (by (with_reducible repeat (first | refine blk_drewN ?_ _ | refine blk_drew ?_ | refine blk_alloc ?_ _)); exact BK859.out) hb); have n5_ := Aside0.mk (below_step (by repeat (first | (with_reducible first | exact HB.out | apply below_alloc | apply pw_below_drewN | apply below_drew1 | refine below_set ?_ GE858.out | refine below_set ?_ GE859.out) | exact HB.out)) hb); have n6_ := Aside0.mk (hbox); have n7_ := Aside0.mk ((by rw [hg]; exact (below_size (by repeat (first | (with_reducible first | exact HB.out | apply below_alloc | apply pw_below_drewN | apply below_drew1 | refine below_set ?_ GE858.out | refine below_set ?_ GE859.out) | exact HB.out))) : w.heap.size ≤ gb872)); have n8_ := Aside0.mk ((by rw [hg]; exact (below_size (by repeat (first | (with_reducible first | exact HB.out | apply below_alloc | apply pw_below_drewN | apply below_drew1 | refine below_set ?_ GE858.out | refine below_set ?_ GE859.out) | exact HB.out))) : w.heap.size ≤ gb872)); have n9_ := Aside0.mk ((by rw [hg]; exact Nat.ne_of_lt (blk_lt (g := gb858) (o := .cells #[.int .u64 a0_0, .int .u64 a0_1] 25 (0, 0)) (by (with_reducible repeat (first | refine blk_drewN ?_ _ | refine blk_drew ?_ | refine blk_alloc ?_ _)); exact BK858.out)) : gb858 ≠ gb872)); have n10_ := Aside0.mk ((by rw [hg]; exact Nat.ne_of_gt (blk_lt (g := gb858) (o := .cells #[.int .u64 a0_0, .int .u64 a0_1] 25 (0, 0)) (by (with_reducible repeat (first | refine blk_drewN ?_ _ | refine blk_drew ?_ | refine blk_alloc ?_ _)); exact BK858.out)) : gb872 ≠ gb858)); have n11_ := Aside0.mk ((by rw [hg]; exact Nat.ne_of_lt (blk_lt (g := gb859) (o := .cells #[.int .u64 0, .int .u64 0] 25 (0, 0)) (by (with_reducible repeat (first | refine blk_drewN ?_ _ | refine blk_drew ?_ | refine blk_alloc ?_ _)); exact BK859.out)) : gb859 ≠ gb872)); have n12_ := Aside0.mk ((by rw [hg]; exact Nat.ne_of_gt (blk_lt (g := gb859) (o := .cells #[.int .u64 0, .int .u64 0] 25 (0, 0)) (by (with_reducible repeat (first | refine blk_drewN ?_ _ | refine blk_drew ?_ | refine blk_alloc ?_ _)); exact BK859.out)) : gb872 ≠ gb859)); clear HO_6; clear HO_7; clear HO_8; clear BK858; clear BK859; clear HB; have HO_6 := n0_; have HO_7 := n1_; have HO_8 := n2_; have BK858 := n3_; have BK859 := n4_; have HB := n5_; have BK872 := n6_; have GW872 := n7_; have GE872 := n8_; have NB858_872 := n9_; have NB872_858 := n10_; have NB859_872 := n11_; have NB872_859 := n12_; clear n0_ n1_ n2_ n3_ n4_ n5_ n6_ n7_ n8_ n9_ n10_ n11_ n12_; clear hb hbox hg; have hnb42 := NB872_858.out; have hnc42 := NB858_872.out; have hnb43 := NB872_859.out; have hnc43 := NB859_872.out; have hcz44_0 : w41.cell? ⟨gb872, 0, none⟩ = some (.int .u64 0) := (blk_cell BK872.out 0).trans rfl; have hcz44_1 : w41.cell? ⟨gb872, 1, none⟩ = some (.int .u64 0) := (blk_cell BK872.out 1).trans rfl; have hfz44_0 := blk_frozen BK872.out 0; have hfz44_1 := blk_frozen BK872.out 1; have hnb45 := NB859_858.out; have hnc45 := NB858_859.out; have hcz46_0 : w41.cell? ⟨gb859, 0, none⟩ = some (.int .u64 0) := (blk_cell BK859.out 0).trans rfl; have hcz46_1 : w41.cell? ⟨gb859, 1, none⟩ = some (.int .u64 0) := (blk_cell BK859.out 1).trans rfl; have hfz46_0 := blk_frozen BK859.out 0; have hfz46_1 := blk_frozen BK859.out 1))
            repeat (go_quiet (first | (go_at_call 83; (with_reducible refine (paymasterref01_number.calls k1 _ _ x8_1 t869 t870 false _ ?side1 ?side2 A29.out).mono ?_); (case side1 => repeat (first | exact (Kd.R_reads' HO_8.out).2.2 | (with_reducible refine Kd.C_alloc ?_ _) | (with_reducible refine Kd.C_drewN ?_ _) | (with_reducible refine Kd.C_drew ?_))); (case side2 => exact (Kd.R_reads' HO_8.out).2.1); rintro e w40 ⟨rfl, hb⟩; have n0_ := Aside0.mk (Kd.R_below (by (with_reducible repeat (first | apply Kd.R_alloc | apply Kd.R_drewN | apply Kd.R_drew)); exact HO_6.out) hb); have n1_ := Aside0.mk (Kd.R_below (by (with_reducible repeat (first | apply Kd.R_alloc | apply Kd.R_drewN | apply Kd.R_drew)); exact HO_7.out) hb); have n2_ := Aside0.mk (Kd.R_below (by (with_reducible repeat (first | apply Kd.R_alloc | apply Kd.R_drewN | apply Kd.R_drew)); exact HO_8.out) hb); have n3_ := Aside0.mk (blk_below (g := gb858) (o := .cells #[.int .u64 a0_0, .int .u64 a0_1] 25 (0, 0)) (by (with_reducible repeat (first | refine blk_drewN ?_ _ | refine blk_drew ?_ | refine blk_alloc ?_ _)); exact BK858.out) hb); have n4_ := Aside0.mk (blk_below (g := gb859) (o := .cells #[.int .u64 0, .int .u64 0] 25 (0, 0)) (by (with_reducible repeat (first | refine blk_drewN ?_ _ | refine blk_drew ?_ | refine blk_alloc ?_ _)); exact BK859.out) hb); have n5_ := Aside0.mk (below_step (by repeat (first | (with_reducible first | exact HB.out | apply below_alloc | apply pw_below_drewN | apply below_drew1 | refine below_set ?_ GE858.out | refine below_set ?_ GE859.out) | exact HB.out)) hb); clear HO_6; clear HO_7; clear HO_8; clear BK858; clear BK859; clear HB; have HO_6 := n0_; have HO_7 := n1_; have HO_8 := n2_; have BK858 := n3_; have BK859 := n4_; have HB := n5_; clear n0_ n1_ n2_ n3_ n4_ n5_; (try clear hb); (try clear hb2); (try clear hk); (try clear hi)) | ((with_reducible refine gate_dst (N := 13) rfl ?_); refine box_event ?hg (N := 13) ?hd (cs := #[.int .u64 0, .int .u64 0]) (t := 25) ?hr ?_; (case hd => rfl); (case hg => rfl); (case hr => first | (go_simp; done) | (go_simp; rfl)); intro gb872 hg w41 hbox hb; have n0_ := Aside0.mk (Kd.R_below (by (with_reducible repeat (first | apply Kd.R_alloc | apply Kd.R_drewN | apply Kd.R_drew)); exact HO_6.out) hb); have n1_ := Aside0.mk (Kd.R_below (by (with_reducible repeat (first | apply Kd.R_alloc | apply Kd.R_drewN | apply Kd.R_drew)); exact HO_7.out) hb); have n2_ := Aside0.mk (Kd.R_below (by (with_reducible repeat (first | apply Kd.R_alloc | apply Kd.R_drewN | apply Kd.R_drew)); exact HO_8.out) hb); have n3_ := Aside0.mk (blk_below (g := gb858) (o := .cells #[.int .u64 a0_0, .int .u64 a0_1] 25 (0, 0)) (by (with_reducible repeat (first | refine blk_drewN ?_ _ | refine blk_drew ?_ | refine blk_alloc ?_ _)); exact BK858.out) hb); have n4_ := Aside0.mk (blk_below (g := gb859) (o := .cells #[.int .u64 0, .int .u64 0] 25 (0, 0)) (by (with_reducible repeat (first | refine blk_drewN ?_ _ | refine blk_drew ?_ | refine blk_alloc ?_ _)); exact BK859.out) hb); have n5_ := Aside0.mk (below_step (by repeat (first | (with_reducible first | exact HB.out | apply below_alloc | apply pw_below_drewN | apply below_drew1 | refine below_set ?_ GE858.out | refine below_set ?_ GE859.out) | exact HB.out)) hb); have n6_ := Aside0.mk (hbox); have n7_ := Aside0.mk ((by rw [hg]; exact (below_size (by repeat (first | (with_reducible first | exact HB.out | apply below_alloc | apply pw_below_drewN | apply below_drew1 | refine below_set ?_ GE858.out | refine below_set ?_ GE859.out) | exact HB.out))) : w.heap.size ≤ gb872)); have n8_ := Aside0.mk ((by rw [hg]; exact (below_size (by repeat (first | (with_reducible first | exact HB.out | apply below_alloc | apply pw_below_drewN | apply below_drew1 | refine below_set ?_ GE858.out | refine below_set ?_ GE859.out) | exact HB.out))) : w.heap.size ≤ gb872)); have n9_ := Aside0.mk ((by rw [hg]; exact Nat.ne_of_lt (blk_lt (g := gb858) (o := .cells #[.int .u64 a0_0, .int .u64 a0_1] 25 (0, 0)) (by (with_reducible repeat (first | refine blk_drewN ?_ _ | refine blk_drew ?_ | refine blk_alloc ?_ _)); exact BK858.out)) : gb858 ≠ gb872)); have n10_ := Aside0.mk ((by rw [hg]; exact Nat.ne_of_gt (blk_lt (g := gb858) (o := .cells #[.int .u64 a0_0, .int .u64 a0_1] 25 (0, 0)) (by (with_reducible repeat (first | refine blk_drewN ?_ _ | refine blk_drew ?_ | refine blk_alloc ?_ _)); exact BK858.out)) : gb872 ≠ gb858)); have n11_ := Aside0.mk ((by rw [hg]; exact Nat.ne_of_lt (blk_lt (g := gb859) (o := .cells #[.int .u64 0, .int .u64 0] 25 (0, 0)) (by (with_reducible repeat (first | refine blk_drewN ?_ _ | refine blk_drew ?_ | refine blk_alloc ?_ _)); exact BK859.out)) : gb859 ≠ gb872)); have n12_ := Aside0.mk ((by rw [hg]; exact Nat.ne_of_gt (blk_lt (g := gb859) (o := .cells #[.int .u64 0, .int .u64 0] 25 (0, 0)) (by (with_reducible repeat (first | refine blk_drewN ?_ _ | refine blk_drew ?_ | refine blk_alloc ?_ _)); exact BK859.out)) : gb872 ≠ gb859)); clear HO_6; clear HO_7; clear HO_8; clear BK858; clear BK859; clear HB; have HO_6 := n0_; have HO_7 := n1_; have HO_8 := n2_; have BK858 := n3_; have BK859 := n4_; have HB := n5_; have BK872 := n6_; have GW872 := n7_; have GE872 := n8_; have NB858_872 := n9_; have NB872_858 := n10_; have NB859_872 := n11_; have NB872_859 := n12_; clear n0_ n1_ n2_ n3_ n4_ n5_ n6_ n7_ n8_ n9_ n10_ n11_ n12_; clear hb hbox hg; have hnb42 := NB872_858.out; have hnc42 := NB858_872.out; have hnb43 := NB872_859.out; have hnc43 := NB859_872.out; have hcz44_0 : w41.cell? ⟨gb872, 0, none⟩ = some (.int .u64 0) := (blk_cell BK872.out 0).trans rfl; have hcz44_1 : w41.cell? ⟨gb872, 1, none⟩ = some (.int .u64 0) := (blk_cell BK872.out 1).trans rfl; have hfz44_0 := blk_frozen BK872.out 0; have hfz44_1 := blk_frozen BK872.out 1; have hnb45 := NB859_858.out; have hnc45 := NB858_859.out; have hcz46_0 : w41.cell? ⟨gb859, 0, none⟩ = some (.int .u64 0) := (blk_cell BK859.out 0).trans rfl; have hcz46_1 : w41.cell? ⟨gb859, 1, none⟩ = some (.int .u64 0) := (blk_cell BK859.out 1).trans rfl; have hfz46_0 := blk_frozen BK859.out 0; have hfz46_1 := blk_frozen BK859.out 1)); try go_wp2_with (first | (go_at_call 83; (with_reducible refine (paymasterref01_number.calls k1 _ _ x8_1 t869 t870 false _ ?side1 ?side2 A29.out).mono ?_); (case side1 => repeat (first | exact (Kd.R_reads' HO_8.out).2.2 | (with_reducible refine Kd.C_alloc ?_ _) | (with_reducible refine Kd.C_drewN ?_ _) | (with_reducible refine Kd.C_drew ?_))); (case side2 => exact (Kd.R_reads' HO_8.out).2.1); rintro e w40 ⟨rfl, hb⟩; have n0_ := Aside0.mk (Kd.R_below (by (with_reducible repeat (first | apply Kd.R_alloc | apply Kd.R_drewN | apply Kd.R_drew)); exact HO_6.out) hb); have n1_ := Aside0.mk (Kd.R_below (by (with_reducible repeat (first | apply Kd.R_alloc | apply Kd.R_drewN | apply Kd.R_drew)); exact HO_7.out) hb); have n2_ := Aside0.mk (Kd.R_below (by (with_reducible repeat (first | apply Kd.R_alloc | apply Kd.R_drewN | apply Kd.R_drew)); exact HO_8.out) hb); have n3_ := Aside0.mk (blk_below (g := gb858) (o := .cells #[.int .u64 a0_0, .int .u64 a0_1] 25 (0, 0)) (by (with_reducible repeat (first | refine blk_drewN ?_ _ | refine blk_drew ?_ | refine blk_alloc ?_ _)); exact BK858.out) hb); have n4_ := Aside0.mk (blk_below (g := gb859) (o := .cells #[.int .u64 0, .int .u64 0] 25 (0, 0)) (by (with_reducible repeat (first | refine blk_drewN ?_ _ | refine blk_drew ?_ | refine blk_alloc ?_ _)); exact BK859.out) hb); have n5_ := Aside0.mk (below_step (by repeat (first | (with_reducible first | exact HB.out | apply below_alloc | apply pw_below_drewN | apply below_drew1 | refine below_set ?_ GE858.out | refine below_set ?_ GE859.out) | exact HB.out)) hb); clear HO_6; clear HO_7; clear HO_8; clear BK858; clear BK859; clear HB; have HO_6 := n0_; have HO_7 := n1_; have HO_8 := n2_; have BK858 := n3_; have BK859 := n4_; have HB := n5_; clear n0_ n1_ n2_ n3_ n4_ n5_; (try clear hb); (try clear hb2); (try clear hk); (try clear hi)) | ((with_reducible refine gate_dst (N := 13) rfl ?_); refine box_event ?hg (N := 13) ?hd (cs := #[.int .u64 0, .int .u64 0]) (t := 25) ?hr ?_; (case hd => rfl); (case hg => rfl); (case hr => first | (go_simp; done) | (go_simp; rfl)); intro gb872 hg w41 hbox hb; have n0_ := Aside0.mk (Kd.R_below (by (with_reducible repeat (first | apply Kd.R_alloc | apply Kd.R_drewN | apply Kd.R_drew)); exact HO_6.out) hb); have n1_ := Aside0.mk (Kd.R_below (by (with_reducible repeat (first | apply Kd.R_alloc | apply Kd.R_drewN | apply Kd.R_drew)); exact HO_7.out) hb); have n2_ := Aside0.mk (Kd.R_below (by (with_reducible repeat (first | apply Kd.R_alloc | apply Kd.R_drewN | apply Kd.R_drew)); exact HO_8.out) hb); have n3_ := Aside0.mk (blk_below (g := gb858) (o := .cells #[.int .u64 a0_0, .int .u64 a0_1] 25 (0, 0)) (by (with_reducible repeat (first | refine blk_drewN ?_ _ | refine blk_drew ?_ | refine blk_alloc ?_ _)); exact BK858.out) hb); have n4_ := Aside0.mk (blk_below (g := gb859) (o := .cells #[.int .u64 0, .int .u64 0] 25 (0, 0)) (by (with_reducible repeat (first | refine blk_drewN ?_ _ | refine blk_drew ?_ | refine blk_alloc ?_ _)); exact BK859.out) hb); have n5_ := Aside0.mk (below_step (by repeat (first | (with_reducible first | exact HB.out | apply below_alloc | apply pw_below_drewN | apply below_drew1 | refine below_set ?_ GE858.out | refine below_set ?_ GE859.out) | exact HB.out)) hb); have n6_ := Aside0.mk (hbox); have n7_ := Aside0.mk ((by rw [hg]; exact (below_size (by repeat (first | (with_reducible first | exact HB.out | apply below_alloc | apply pw_below_drewN | apply below_drew1 | refine below_set ?_ GE858.out | refine below_set ?_ GE859.out) | exact HB.out))) : w.heap.size ≤ gb872)); have n8_ := Aside0.mk ((by rw [hg]; exact (below_size (by repeat (first | (with_reducible first | exact HB.out | apply below_alloc | apply pw_below_drewN | apply below_drew1 | refine below_set ?_ GE858.out | refine below_set ?_ GE859.out) | exact HB.out))) : w.heap.size ≤ gb872)); have n9_ := Aside0.mk ((by rw [hg]; exact Nat.ne_of_lt (blk_lt (g := gb858) (o := .cells #[.int .u64 a0_0, .int .u64 a0_1] 25 (0, 0)) (by (with_reducible repeat (first | refine blk_drewN ?_ _ | refine blk_drew ?_ | refine blk_alloc ?_ _)); exact BK858.out)) : gb858 ≠ gb872)); have n10_ := Aside0.mk ((by rw [hg]; exact Nat.ne_of_gt (blk_lt (g := gb858) (o := .cells #[.int .u64 a0_0, .int .u64 a0_1] 25 (0, 0)) (by (with_reducible repeat (first | refine blk_drewN ?_ _ | refine blk_drew ?_ | refine blk_alloc ?_ _)); exact BK858.out)) : gb872 ≠ gb858)); have n11_ := Aside0.mk ((by rw [hg]; exact Nat.ne_of_lt (blk_lt (g := gb859) (o := .cells #[.int .u64 0, .int .u64 0] 25 (0, 0)) (by (with_reducible repeat (first | refine blk_drewN ?_ _ | refine blk_drew ?_ | refine blk_alloc ?_ _)); exact BK859.out)) : gb859 ≠ gb872)); have n12_ := Aside0.mk ((by rw [hg]; exact Nat.ne_of_gt (blk_lt (g := gb859) (o := .cells #[.int .u64 0, .int .u64 0] 25 (0, 0)) (by (with_reducible repeat (first | refine blk_drewN ?_ _ | refine blk_drew ?_ | refine blk_alloc ?_ _)); exact BK859.out)) : gb872 ≠ gb859)); clear HO_6; clear HO_7; clear HO_8; clear BK858; clear BK859; clear HB; have HO_6 := n0_; have HO_7 := n1_; have HO_8 := n2_; have BK858 := n3_; have BK859 := n4_; have HB := n5_; have BK872 := n6_; have GW872 := n7_; have GE872 := n8_; have NB858_872 := n9_; have NB872_858 := n10_; have NB859_872 := n11_; have NB872_859 := n12_; clear n0_ n1_ n2_ n3_ n4_ n5_ n6_ n7_ n8_ n9_ n10_ n11_ n12_; clear hb hbox hg; have hnb42 := NB872_858.out; have hnc42 := NB858_872.out; have hnb43 := NB872_859.out; have hnc43 := NB859_872.out; have hcz44_0 : w41.cell? ⟨gb872, 0, none⟩ = some (.int .u64 0) := (blk_cell BK872.out 0).trans rfl; have hcz44_1 : w41.cell? ⟨gb872, 1, none⟩ = some (.int .u64 0) := (blk_cell BK872.out 1).trans rfl; have hfz44_0 := blk_frozen BK872.out 0; have hfz44_1 := blk_frozen BK872.out 1; have hnb45 := NB859_858.out; have hnc45 := NB858_859.out; have hcz46_0 : w41.cell? ⟨gb859, 0, none⟩ = some (.int .u64 0) := (blk_cell BK859.out 0).trans rfl; have hcz46_1 : w41.cell? ⟨gb859, 1, none⟩ = some (.int .u64 0) := (blk_cell BK859.out 1).trans rfl; have hfz46_0 := blk_frozen BK859.out 0; have hfz46_1 := blk_frozen BK859.out 1)))
            refine bodyPost_ret (results_ct rfl _ _ gb859 25 #[.int .u64 0, .int .u64 0] (0, 0) _ rfl (by (with_reducible repeat (first | refine blk_drewN ?_ _ | refine blk_drew ?_ | refine blk_alloc ?_ _)); refine blk_put (cs := #[.int .u64 0, .int .u64 0]) ?_ 1 _ rfl; (with_reducible repeat (first | refine blk_drewN ?_ _ | refine blk_drew ?_ | refine blk_alloc ?_ _)); refine blk_put (cs := #[.int .u64 0, .int .u64 0]) ?_ 0 _ rfl; (with_reducible repeat (first | refine blk_drewN ?_ _ | refine blk_drew ?_ | refine blk_alloc ?_ _)); refine blk_far ?_ NB859_872.out _; (with_reducible repeat (first | refine blk_drewN ?_ _ | refine blk_drew ?_ | refine blk_alloc ?_ _)); refine blk_far ?_ NB859_872.out _; (with_reducible repeat (first | refine blk_drewN ?_ _ | refine blk_drew ?_ | refine blk_alloc ?_ _)); exact BK859.out) Try.underlying25 rfl (by kernel_rfl)) rfl ?_
            exact ⟨by first | rfl | (simp [errW_none, errW_some] <;> rfl) | (simp [*, errW_none, errW_some] <;> rfl), by repeat (first | (with_reducible first | exact HB.out | apply below_alloc | apply pw_below_drewN | apply below_drew1 | refine below_set ?_ GE858.out | refine below_set ?_ GE859.out | refine below_set ?_ GE872.out) | exact HB.out)⟩
  · rw [if_neg c5] at H
    exact absurd H (by simp)
def bits_Len64.j0 : Nat → Int → Int → Option (Int)
  | 0, _, _ => none
  | k + 1, x0, x2 => if x0 ≥ 65536 then (if (x0 / 65536) ≥ 256 then (if 0 ≤ (((x0 / 65536) / 256) % 256) then (if (((x0 / 65536) / 256) % 256) < 256 then (some (wrap64 ((wrap64 ((wrap64 (x2 + 16)) + 8)) + (wrap64 (bt (⟨#[0, 1, 2, 2, 3, 3, 3, 3, 4, 4, 4, 4, 4, 4, 4, 4, 5, 5, 5, 5, 5, 5, 5, 5, 5, 5, 5, 5, 5, 5, 5, 5, 6, 6, 6, 6, 6, 6, 6, 6, 6, 6, 6, 6, 6, 6, 6, 6, 6, 6, 6, 6, 6, 6, 6, 6, 6, 6, 6, 6, 6, 6, 6, 6, 7, 7, 7, 7, 7, 7, 7, 7, 7, 7, 7, 7, 7, 7, 7, 7, 7, 7, 7, 7, 7, 7, 7, 7, 7, 7, 7, 7, 7, 7, 7, 7, 7, 7, 7, 7, 7, 7, 7, 7, 7, 7, 7, 7, 7, 7, 7, 7, 7, 7, 7, 7, 7, 7, 7, 7, 7, 7, 7, 7, 7, 7, 7, 7, 8, 8, 8, 8, 8, 8, 8, 8, 8, 8, 8, 8, 8, 8, 8, 8, 8, 8, 8, 8, 8, 8, 8, 8, 8, 8, 8, 8, 8, 8, 8, 8, 8, 8, 8, 8, 8, 8, 8, 8, 8, 8, 8, 8, 8, 8, 8, 8, 8, 8, 8, 8, 8, 8, 8, 8, 8, 8, 8, 8, 8, 8, 8, 8, 8, 8, 8, 8, 8, 8, 8, 8, 8, 8, 8, 8, 8, 8, 8, 8, 8, 8, 8, 8, 8, 8, 8, 8, 8, 8, 8, 8, 8, 8, 8, 8, 8, 8, 8, 8, 8, 8, 8, 8, 8, 8, 8, 8, 8, 8, 8, 8, 8, 8, 8, 8, 8, 8, 8, 8, 8, 8, 8, 8, 8, 8, 8, 8]⟩ : ByteArray) (((x0 / 65536) / 256) % 256)))))) else (none)) else (none)) else (if 0 ≤ ((x0 / 65536) % 256) then (if ((x0 / 65536) % 256) < 256 then (some (wrap64 ((wrap64 (x2 + 16)) + (wrap64 (bt (⟨#[0, 1, 2, 2, 3, 3, 3, 3, 4, 4, 4, 4, 4, 4, 4, 4, 5, 5, 5, 5, 5, 5, 5, 5, 5, 5, 5, 5, 5, 5, 5, 5, 6, 6, 6, 6, 6, 6, 6, 6, 6, 6, 6, 6, 6, 6, 6, 6, 6, 6, 6, 6, 6, 6, 6, 6, 6, 6, 6, 6, 6, 6, 6, 6, 7, 7, 7, 7, 7, 7, 7, 7, 7, 7, 7, 7, 7, 7, 7, 7, 7, 7, 7, 7, 7, 7, 7, 7, 7, 7, 7, 7, 7, 7, 7, 7, 7, 7, 7, 7, 7, 7, 7, 7, 7, 7, 7, 7, 7, 7, 7, 7, 7, 7, 7, 7, 7, 7, 7, 7, 7, 7, 7, 7, 7, 7, 7, 7, 8, 8, 8, 8, 8, 8, 8, 8, 8, 8, 8, 8, 8, 8, 8, 8, 8, 8, 8, 8, 8, 8, 8, 8, 8, 8, 8, 8, 8, 8, 8, 8, 8, 8, 8, 8, 8, 8, 8, 8, 8, 8, 8, 8, 8, 8, 8, 8, 8, 8, 8, 8, 8, 8, 8, 8, 8, 8, 8, 8, 8, 8, 8, 8, 8, 8, 8, 8, 8, 8, 8, 8, 8, 8, 8, 8, 8, 8, 8, 8, 8, 8, 8, 8, 8, 8, 8, 8, 8, 8, 8, 8, 8, 8, 8, 8, 8, 8, 8, 8, 8, 8, 8, 8, 8, 8, 8, 8, 8, 8, 8, 8, 8, 8, 8, 8, 8, 8, 8, 8, 8, 8, 8, 8, 8, 8, 8, 8]⟩ : ByteArray) ((x0 / 65536) % 256)))))) else (none)) else (none))) else (if x0 ≥ 256 then (if 0 ≤ ((x0 / 256) % 256) then (if ((x0 / 256) % 256) < 256 then (some (wrap64 ((wrap64 (x2 + 8)) + (wrap64 (bt (⟨#[0, 1, 2, 2, 3, 3, 3, 3, 4, 4, 4, 4, 4, 4, 4, 4, 5, 5, 5, 5, 5, 5, 5, 5, 5, 5, 5, 5, 5, 5, 5, 5, 6, 6, 6, 6, 6, 6, 6, 6, 6, 6, 6, 6, 6, 6, 6, 6, 6, 6, 6, 6, 6, 6, 6, 6, 6, 6, 6, 6, 6, 6, 6, 6, 7, 7, 7, 7, 7, 7, 7, 7, 7, 7, 7, 7, 7, 7, 7, 7, 7, 7, 7, 7, 7, 7, 7, 7, 7, 7, 7, 7, 7, 7, 7, 7, 7, 7, 7, 7, 7, 7, 7, 7, 7, 7, 7, 7, 7, 7, 7, 7, 7, 7, 7, 7, 7, 7, 7, 7, 7, 7, 7, 7, 7, 7, 7, 7, 8, 8, 8, 8, 8, 8, 8, 8, 8, 8, 8, 8, 8, 8, 8, 8, 8, 8, 8, 8, 8, 8, 8, 8, 8, 8, 8, 8, 8, 8, 8, 8, 8, 8, 8, 8, 8, 8, 8, 8, 8, 8, 8, 8, 8, 8, 8, 8, 8, 8, 8, 8, 8, 8, 8, 8, 8, 8, 8, 8, 8, 8, 8, 8, 8, 8, 8, 8, 8, 8, 8, 8, 8, 8, 8, 8, 8, 8, 8, 8, 8, 8, 8, 8, 8, 8, 8, 8, 8, 8, 8, 8, 8, 8, 8, 8, 8, 8, 8, 8, 8, 8, 8, 8, 8, 8, 8, 8, 8, 8, 8, 8, 8, 8, 8, 8, 8, 8, 8, 8, 8, 8, 8, 8, 8, 8, 8, 8]⟩ : ByteArray) ((x0 / 256) % 256)))))) else (none)) else (none)) else (if 0 ≤ ((x0) % 256) then (if ((x0) % 256) < 256 then (some (wrap64 (x2 + (wrap64 (bt (⟨#[0, 1, 2, 2, 3, 3, 3, 3, 4, 4, 4, 4, 4, 4, 4, 4, 5, 5, 5, 5, 5, 5, 5, 5, 5, 5, 5, 5, 5, 5, 5, 5, 6, 6, 6, 6, 6, 6, 6, 6, 6, 6, 6, 6, 6, 6, 6, 6, 6, 6, 6, 6, 6, 6, 6, 6, 6, 6, 6, 6, 6, 6, 6, 6, 7, 7, 7, 7, 7, 7, 7, 7, 7, 7, 7, 7, 7, 7, 7, 7, 7, 7, 7, 7, 7, 7, 7, 7, 7, 7, 7, 7, 7, 7, 7, 7, 7, 7, 7, 7, 7, 7, 7, 7, 7, 7, 7, 7, 7, 7, 7, 7, 7, 7, 7, 7, 7, 7, 7, 7, 7, 7, 7, 7, 7, 7, 7, 7, 8, 8, 8, 8, 8, 8, 8, 8, 8, 8, 8, 8, 8, 8, 8, 8, 8, 8, 8, 8, 8, 8, 8, 8, 8, 8, 8, 8, 8, 8, 8, 8, 8, 8, 8, 8, 8, 8, 8, 8, 8, 8, 8, 8, 8, 8, 8, 8, 8, 8, 8, 8, 8, 8, 8, 8, 8, 8, 8, 8, 8, 8, 8, 8, 8, 8, 8, 8, 8, 8, 8, 8, 8, 8, 8, 8, 8, 8, 8, 8, 8, 8, 8, 8, 8, 8, 8, 8, 8, 8, 8, 8, 8, 8, 8, 8, 8, 8, 8, 8, 8, 8, 8, 8, 8, 8, 8, 8, 8, 8, 8, 8, 8, 8, 8, 8, 8, 8, 8, 8, 8, 8, 8, 8, 8, 8, 8, 8]⟩ : ByteArray) ((x0) % 256)))))) else (none)) else (none)))
def bits_Len64.f (k : Nat) (a0 : Int) : Option (Int) := if a0 ≥ 4294967296 then (bits_Len64.j0 k (a0 / 4294967296) 32) else (bits_Len64.j0 k a0 0)
set_option maxHeartbeats 8000000 in
set_option maxRecDepth 100000 in
theorem bits_Len64.calls (k : Nat) (a0 : Int) (r : Int) (w : World) (h : bits_Len64.f k a0 = some r) :
    Calls Try.prog 117 #[.int .u64 a0] w fun e w' => e = .returned (.int .i64 r) ∧ Drawn0 w w' := by
  have H : (if a0 ≥ 4294967296 then (bits_Len64.j0 k (a0 / 4294967296) 32) else (bits_Len64.j0 k a0 0)) = some r := h
  clear h
  have HC2 := Aside0.mk H
  clear H
  go_enter Try.func117, Try.ntmps117
  go_upto_if 4 with (fail)
  go_cut [0, 2] (fun v0 v2 wc => ∃ (kq : Nat) (x0_1 : Int) (x2_1 : Int), v0 = .int .u64 x0_1 ∧ v2 = .int .i64 x2_1 ∧ Aside0 (bits_Len64.j0 kq x0_1 x2_1 = some r) ∧ Aside0 (kq ≤ k) ∧ Drawn0 w wc)
  case first =>
    have H := HC2.out
    clear HC2
    by_cases c3 : a0 ≥ 4294967296
    · rw [if_pos c3] at H
      have c3b0 : decide (4294967296 ≤ a0) = true := decide_eq_true c3
      clear c3
      (first | rw [c3b0] | (simp only [i64_w, i32_w]; rw [c3b0]) | skip)
      have H' := Aside0.mk H
      clear H
      go_wp2
      go_meet
      case rel => exact ⟨_, (a0 / 4294967296), (32), (by first | rfl | (simp; done) | (simp [*]; done)), (by first | rfl | (simp; done) | (simp [*]; done)), H', ⟨by first | omega | exact Nat.le_refl _⟩, by repeat (first | exact Drawn0.refl _ | apply Drawn0.step)⟩
    · rw [if_neg c3] at H
      have c3b0 : decide (4294967296 ≤ a0) = false := decide_eq_false c3
      clear c3
      (first | rw [c3b0] | (simp only [i64_w, i32_w]; rw [c3b0]) | skip)
      have H' := Aside0.mk H
      clear H
      go_wp2
      go_meet
      case rel => exact ⟨_, (a0), (0), (by first | rfl | (simp; done) | (simp [*]; done)), (by first | rfl | (simp; done) | (simp [*]; done)), H', ⟨by first | omega | exact Nat.le_refl _⟩, by repeat (first | exact Drawn0.refl _ | apply Drawn0.step)⟩
  case rest =>
    clear HC2
    try clear c1
    try clear p2
    try clear c3
    try clear c3b0
    obtain ⟨kq, x0_1, x2_1, rfl, rfl, HA, HJ1, ⟨mc1, rfl⟩⟩ := hcut
    cases kq with
    | zero => exact absurd HA.out (by simp [bits_Len64.j0])
    | succ kj1 =>
      have H := HA.out
      clear HA
      simp only [bits_Len64.j0] at H
      by_cases c4 : x0_1 ≥ 65536
      · rw [if_pos c4] at H
        have c4b0 : decide (65536 ≤ x0_1) = true := decide_eq_true c4
        clear c4
        by_cases c5 : (x0_1 / 65536) ≥ 256
        · rw [if_pos c5] at H
          have c5b0 : decide (256 ≤ (x0_1 / 65536)) = true := decide_eq_true c5
          clear c5
          obtain ⟨ji6, hji6⟩ : ∃ j_ : Int, (((x0_1 / 65536) / 256) % 256) = j_ := ⟨_, rfl⟩
          replace H : (if 0 ≤ (ji6) then (if (ji6) < 256 then (some (wrap64 ((wrap64 ((wrap64 (x2_1 + 16)) + 8)) + (wrap64 (bt (⟨#[0, 1, 2, 2, 3, 3, 3, 3, 4, 4, 4, 4, 4, 4, 4, 4, 5, 5, 5, 5, 5, 5, 5, 5, 5, 5, 5, 5, 5, 5, 5, 5, 6, 6, 6, 6, 6, 6, 6, 6, 6, 6, 6, 6, 6, 6, 6, 6, 6, 6, 6, 6, 6, 6, 6, 6, 6, 6, 6, 6, 6, 6, 6, 6, 7, 7, 7, 7, 7, 7, 7, 7, 7, 7, 7, 7, 7, 7, 7, 7, 7, 7, 7, 7, 7, 7, 7, 7, 7, 7, 7, 7, 7, 7, 7, 7, 7, 7, 7, 7, 7, 7, 7, 7, 7, 7, 7, 7, 7, 7, 7, 7, 7, 7, 7, 7, 7, 7, 7, 7, 7, 7, 7, 7, 7, 7, 7, 7, 8, 8, 8, 8, 8, 8, 8, 8, 8, 8, 8, 8, 8, 8, 8, 8, 8, 8, 8, 8, 8, 8, 8, 8, 8, 8, 8, 8, 8, 8, 8, 8, 8, 8, 8, 8, 8, 8, 8, 8, 8, 8, 8, 8, 8, 8, 8, 8, 8, 8, 8, 8, 8, 8, 8, 8, 8, 8, 8, 8, 8, 8, 8, 8, 8, 8, 8, 8, 8, 8, 8, 8, 8, 8, 8, 8, 8, 8, 8, 8, 8, 8, 8, 8, 8, 8, 8, 8, 8, 8, 8, 8, 8, 8, 8, 8, 8, 8, 8, 8, 8, 8, 8, 8, 8, 8, 8, 8, 8, 8, 8, 8, 8, 8, 8, 8, 8, 8, 8, 8, 8, 8, 8, 8, 8, 8, 8, 8]⟩ : ByteArray) (ji6)))))) else (none)) else (none)) = some r := by first | (rw [hji6] at H; exact H) | (simp only [hji6] at H ⊢; exact H)
          by_cases c7 : 0 ≤ (ji6)
          · rw [if_pos c7] at H
            have c7b0 : decide (0 ≤ (ji6)) = true := decide_eq_true c7
            clear c7
            by_cases c8 : (ji6) < 256
            · rw [if_pos c8] at H
              have c8b0 : decide ((ji6) < 256) = true := decide_eq_true c8
              clear c8
              obtain rfl := Option.some.inj H
              have p9 : 0 ≤ ((ji6) : Int) := of_decide_eq_true (by first | (with_reducible assumption) | assumption)
              have q9 : (ji6) < (256 : Int) := of_decide_eq_true (by first | (with_reducible assumption) | assumption)
              have hx9 := bt_at (⟨#[0, 1, 2, 2, 3, 3, 3, 3, 4, 4, 4, 4, 4, 4, 4, 4, 5, 5, 5, 5, 5, 5, 5, 5, 5, 5, 5, 5, 5, 5, 5, 5, 6, 6, 6, 6, 6, 6, 6, 6, 6, 6, 6, 6, 6, 6, 6, 6, 6, 6, 6, 6, 6, 6, 6, 6, 6, 6, 6, 6, 6, 6, 6, 6, 7, 7, 7, 7, 7, 7, 7, 7, 7, 7, 7, 7, 7, 7, 7, 7, 7, 7, 7, 7, 7, 7, 7, 7, 7, 7, 7, 7, 7, 7, 7, 7, 7, 7, 7, 7, 7, 7, 7, 7, 7, 7, 7, 7, 7, 7, 7, 7, 7, 7, 7, 7, 7, 7, 7, 7, 7, 7, 7, 7, 7, 7, 7, 7, 8, 8, 8, 8, 8, 8, 8, 8, 8, 8, 8, 8, 8, 8, 8, 8, 8, 8, 8, 8, 8, 8, 8, 8, 8, 8, 8, 8, 8, 8, 8, 8, 8, 8, 8, 8, 8, 8, 8, 8, 8, 8, 8, 8, 8, 8, 8, 8, 8, 8, 8, 8, 8, 8, 8, 8, 8, 8, 8, 8, 8, 8, 8, 8, 8, 8, 8, 8, 8, 8, 8, 8, 8, 8, 8, 8, 8, 8, 8, 8, 8, 8, 8, 8, 8, 8, 8, 8, 8, 8, 8, 8, 8, 8, 8, 8, 8, 8, 8, 8, 8, 8, 8, 8, 8, 8, 8, 8, 8, 8, 8, 8, 8, 8, 8, 8, 8, 8, 8, 8, 8, 8, 8, 8, 8, 8, 8, 8]⟩ : ByteArray) (ji6)
              replace p9 := eq_true p9
              replace q9 := eq_true q9
              go_wp2
              go_ret
              exact ⟨by first | rfl | (simp; done) | (simp only [← hji6] <;> (first | rfl | simp)) | (simp [*]; done), by repeat (first | exact Drawn0.refl _ | apply Drawn0.step)⟩
            · rw [if_neg c8] at H
              exact absurd H (by simp)
          · rw [if_neg c7] at H
            exact absurd H (by simp)
        · rw [if_neg c5] at H
          have c5b0 : decide (256 ≤ (x0_1 / 65536)) = false := decide_eq_false c5
          clear c5
          obtain ⟨ji10, hji10⟩ : ∃ j_ : Int, ((x0_1 / 65536) % 256) = j_ := ⟨_, rfl⟩
          replace H : (if 0 ≤ (ji10) then (if (ji10) < 256 then (some (wrap64 ((wrap64 (x2_1 + 16)) + (wrap64 (bt (⟨#[0, 1, 2, 2, 3, 3, 3, 3, 4, 4, 4, 4, 4, 4, 4, 4, 5, 5, 5, 5, 5, 5, 5, 5, 5, 5, 5, 5, 5, 5, 5, 5, 6, 6, 6, 6, 6, 6, 6, 6, 6, 6, 6, 6, 6, 6, 6, 6, 6, 6, 6, 6, 6, 6, 6, 6, 6, 6, 6, 6, 6, 6, 6, 6, 7, 7, 7, 7, 7, 7, 7, 7, 7, 7, 7, 7, 7, 7, 7, 7, 7, 7, 7, 7, 7, 7, 7, 7, 7, 7, 7, 7, 7, 7, 7, 7, 7, 7, 7, 7, 7, 7, 7, 7, 7, 7, 7, 7, 7, 7, 7, 7, 7, 7, 7, 7, 7, 7, 7, 7, 7, 7, 7, 7, 7, 7, 7, 7, 8, 8, 8, 8, 8, 8, 8, 8, 8, 8, 8, 8, 8, 8, 8, 8, 8, 8, 8, 8, 8, 8, 8, 8, 8, 8, 8, 8, 8, 8, 8, 8, 8, 8, 8, 8, 8, 8, 8, 8, 8, 8, 8, 8, 8, 8, 8, 8, 8, 8, 8, 8, 8, 8, 8, 8, 8, 8, 8, 8, 8, 8, 8, 8, 8, 8, 8, 8, 8, 8, 8, 8, 8, 8, 8, 8, 8, 8, 8, 8, 8, 8, 8, 8, 8, 8, 8, 8, 8, 8, 8, 8, 8, 8, 8, 8, 8, 8, 8, 8, 8, 8, 8, 8, 8, 8, 8, 8, 8, 8, 8, 8, 8, 8, 8, 8, 8, 8, 8, 8, 8, 8, 8, 8, 8, 8, 8, 8]⟩ : ByteArray) (ji10)))))) else (none)) else (none)) = some r := by first | (rw [hji10] at H; exact H) | (simp only [hji10] at H ⊢; exact H)
          by_cases c11 : 0 ≤ (ji10)
          · rw [if_pos c11] at H
            have c11b0 : decide (0 ≤ (ji10)) = true := decide_eq_true c11
            clear c11
            by_cases c12 : (ji10) < 256
            · rw [if_pos c12] at H
              have c12b0 : decide ((ji10) < 256) = true := decide_eq_true c12
              clear c12
              obtain rfl := Option.some.inj H
              have p13 : 0 ≤ ((ji10) : Int) := of_decide_eq_true (by first | (with_reducible assumption) | assumption)
              have q13 : (ji10) < (256 : Int) := of_decide_eq_true (by first | (with_reducible assumption) | assumption)
              have hx13 := bt_at (⟨#[0, 1, 2, 2, 3, 3, 3, 3, 4, 4, 4, 4, 4, 4, 4, 4, 5, 5, 5, 5, 5, 5, 5, 5, 5, 5, 5, 5, 5, 5, 5, 5, 6, 6, 6, 6, 6, 6, 6, 6, 6, 6, 6, 6, 6, 6, 6, 6, 6, 6, 6, 6, 6, 6, 6, 6, 6, 6, 6, 6, 6, 6, 6, 6, 7, 7, 7, 7, 7, 7, 7, 7, 7, 7, 7, 7, 7, 7, 7, 7, 7, 7, 7, 7, 7, 7, 7, 7, 7, 7, 7, 7, 7, 7, 7, 7, 7, 7, 7, 7, 7, 7, 7, 7, 7, 7, 7, 7, 7, 7, 7, 7, 7, 7, 7, 7, 7, 7, 7, 7, 7, 7, 7, 7, 7, 7, 7, 7, 8, 8, 8, 8, 8, 8, 8, 8, 8, 8, 8, 8, 8, 8, 8, 8, 8, 8, 8, 8, 8, 8, 8, 8, 8, 8, 8, 8, 8, 8, 8, 8, 8, 8, 8, 8, 8, 8, 8, 8, 8, 8, 8, 8, 8, 8, 8, 8, 8, 8, 8, 8, 8, 8, 8, 8, 8, 8, 8, 8, 8, 8, 8, 8, 8, 8, 8, 8, 8, 8, 8, 8, 8, 8, 8, 8, 8, 8, 8, 8, 8, 8, 8, 8, 8, 8, 8, 8, 8, 8, 8, 8, 8, 8, 8, 8, 8, 8, 8, 8, 8, 8, 8, 8, 8, 8, 8, 8, 8, 8, 8, 8, 8, 8, 8, 8, 8, 8, 8, 8, 8, 8, 8, 8, 8, 8, 8, 8]⟩ : ByteArray) (ji10)
              replace p13 := eq_true p13
              replace q13 := eq_true q13
              go_wp2
              go_ret
              exact ⟨by first | rfl | (simp; done) | (simp only [← hji10] <;> (first | rfl | simp)) | (simp [*]; done), by repeat (first | exact Drawn0.refl _ | apply Drawn0.step)⟩
            · rw [if_neg c12] at H
              exact absurd H (by simp)
          · rw [if_neg c11] at H
            exact absurd H (by simp)
      · rw [if_neg c4] at H
        have c4b0 : decide (65536 ≤ x0_1) = false := decide_eq_false c4
        clear c4
        by_cases c14 : x0_1 ≥ 256
        · rw [if_pos c14] at H
          have c14b0 : decide (256 ≤ x0_1) = true := decide_eq_true c14
          clear c14
          obtain ⟨ji15, hji15⟩ : ∃ j_ : Int, ((x0_1 / 256) % 256) = j_ := ⟨_, rfl⟩
          replace H : (if 0 ≤ (ji15) then (if (ji15) < 256 then (some (wrap64 ((wrap64 (x2_1 + 8)) + (wrap64 (bt (⟨#[0, 1, 2, 2, 3, 3, 3, 3, 4, 4, 4, 4, 4, 4, 4, 4, 5, 5, 5, 5, 5, 5, 5, 5, 5, 5, 5, 5, 5, 5, 5, 5, 6, 6, 6, 6, 6, 6, 6, 6, 6, 6, 6, 6, 6, 6, 6, 6, 6, 6, 6, 6, 6, 6, 6, 6, 6, 6, 6, 6, 6, 6, 6, 6, 7, 7, 7, 7, 7, 7, 7, 7, 7, 7, 7, 7, 7, 7, 7, 7, 7, 7, 7, 7, 7, 7, 7, 7, 7, 7, 7, 7, 7, 7, 7, 7, 7, 7, 7, 7, 7, 7, 7, 7, 7, 7, 7, 7, 7, 7, 7, 7, 7, 7, 7, 7, 7, 7, 7, 7, 7, 7, 7, 7, 7, 7, 7, 7, 8, 8, 8, 8, 8, 8, 8, 8, 8, 8, 8, 8, 8, 8, 8, 8, 8, 8, 8, 8, 8, 8, 8, 8, 8, 8, 8, 8, 8, 8, 8, 8, 8, 8, 8, 8, 8, 8, 8, 8, 8, 8, 8, 8, 8, 8, 8, 8, 8, 8, 8, 8, 8, 8, 8, 8, 8, 8, 8, 8, 8, 8, 8, 8, 8, 8, 8, 8, 8, 8, 8, 8, 8, 8, 8, 8, 8, 8, 8, 8, 8, 8, 8, 8, 8, 8, 8, 8, 8, 8, 8, 8, 8, 8, 8, 8, 8, 8, 8, 8, 8, 8, 8, 8, 8, 8, 8, 8, 8, 8, 8, 8, 8, 8, 8, 8, 8, 8, 8, 8, 8, 8, 8, 8, 8, 8, 8, 8]⟩ : ByteArray) (ji15)))))) else (none)) else (none)) = some r := by first | (rw [hji15] at H; exact H) | (simp only [hji15] at H ⊢; exact H)
          by_cases c16 : 0 ≤ (ji15)
          · rw [if_pos c16] at H
            have c16b0 : decide (0 ≤ (ji15)) = true := decide_eq_true c16
            clear c16
            by_cases c17 : (ji15) < 256
            · rw [if_pos c17] at H
              have c17b0 : decide ((ji15) < 256) = true := decide_eq_true c17
              clear c17
              obtain rfl := Option.some.inj H
              have p18 : 0 ≤ ((ji15) : Int) := of_decide_eq_true (by first | (with_reducible assumption) | assumption)
              have q18 : (ji15) < (256 : Int) := of_decide_eq_true (by first | (with_reducible assumption) | assumption)
              have hx18 := bt_at (⟨#[0, 1, 2, 2, 3, 3, 3, 3, 4, 4, 4, 4, 4, 4, 4, 4, 5, 5, 5, 5, 5, 5, 5, 5, 5, 5, 5, 5, 5, 5, 5, 5, 6, 6, 6, 6, 6, 6, 6, 6, 6, 6, 6, 6, 6, 6, 6, 6, 6, 6, 6, 6, 6, 6, 6, 6, 6, 6, 6, 6, 6, 6, 6, 6, 7, 7, 7, 7, 7, 7, 7, 7, 7, 7, 7, 7, 7, 7, 7, 7, 7, 7, 7, 7, 7, 7, 7, 7, 7, 7, 7, 7, 7, 7, 7, 7, 7, 7, 7, 7, 7, 7, 7, 7, 7, 7, 7, 7, 7, 7, 7, 7, 7, 7, 7, 7, 7, 7, 7, 7, 7, 7, 7, 7, 7, 7, 7, 7, 8, 8, 8, 8, 8, 8, 8, 8, 8, 8, 8, 8, 8, 8, 8, 8, 8, 8, 8, 8, 8, 8, 8, 8, 8, 8, 8, 8, 8, 8, 8, 8, 8, 8, 8, 8, 8, 8, 8, 8, 8, 8, 8, 8, 8, 8, 8, 8, 8, 8, 8, 8, 8, 8, 8, 8, 8, 8, 8, 8, 8, 8, 8, 8, 8, 8, 8, 8, 8, 8, 8, 8, 8, 8, 8, 8, 8, 8, 8, 8, 8, 8, 8, 8, 8, 8, 8, 8, 8, 8, 8, 8, 8, 8, 8, 8, 8, 8, 8, 8, 8, 8, 8, 8, 8, 8, 8, 8, 8, 8, 8, 8, 8, 8, 8, 8, 8, 8, 8, 8, 8, 8, 8, 8, 8, 8, 8, 8]⟩ : ByteArray) (ji15)
              replace p18 := eq_true p18
              replace q18 := eq_true q18
              go_wp2
              go_ret
              exact ⟨by first | rfl | (simp; done) | (simp only [← hji15] <;> (first | rfl | simp)) | (simp [*]; done), by repeat (first | exact Drawn0.refl _ | apply Drawn0.step)⟩
            · rw [if_neg c17] at H
              exact absurd H (by simp)
          · rw [if_neg c16] at H
            exact absurd H (by simp)
        · rw [if_neg c14] at H
          have c14b0 : decide (256 ≤ x0_1) = false := decide_eq_false c14
          clear c14
          obtain ⟨ji19, hji19⟩ : ∃ j_ : Int, ((x0_1) % 256) = j_ := ⟨_, rfl⟩
          replace H : (if 0 ≤ (ji19) then (if (ji19) < 256 then (some (wrap64 (x2_1 + (wrap64 (bt (⟨#[0, 1, 2, 2, 3, 3, 3, 3, 4, 4, 4, 4, 4, 4, 4, 4, 5, 5, 5, 5, 5, 5, 5, 5, 5, 5, 5, 5, 5, 5, 5, 5, 6, 6, 6, 6, 6, 6, 6, 6, 6, 6, 6, 6, 6, 6, 6, 6, 6, 6, 6, 6, 6, 6, 6, 6, 6, 6, 6, 6, 6, 6, 6, 6, 7, 7, 7, 7, 7, 7, 7, 7, 7, 7, 7, 7, 7, 7, 7, 7, 7, 7, 7, 7, 7, 7, 7, 7, 7, 7, 7, 7, 7, 7, 7, 7, 7, 7, 7, 7, 7, 7, 7, 7, 7, 7, 7, 7, 7, 7, 7, 7, 7, 7, 7, 7, 7, 7, 7, 7, 7, 7, 7, 7, 7, 7, 7, 7, 8, 8, 8, 8, 8, 8, 8, 8, 8, 8, 8, 8, 8, 8, 8, 8, 8, 8, 8, 8, 8, 8, 8, 8, 8, 8, 8, 8, 8, 8, 8, 8, 8, 8, 8, 8, 8, 8, 8, 8, 8, 8, 8, 8, 8, 8, 8, 8, 8, 8, 8, 8, 8, 8, 8, 8, 8, 8, 8, 8, 8, 8, 8, 8, 8, 8, 8, 8, 8, 8, 8, 8, 8, 8, 8, 8, 8, 8, 8, 8, 8, 8, 8, 8, 8, 8, 8, 8, 8, 8, 8, 8, 8, 8, 8, 8, 8, 8, 8, 8, 8, 8, 8, 8, 8, 8, 8, 8, 8, 8, 8, 8, 8, 8, 8, 8, 8, 8, 8, 8, 8, 8, 8, 8, 8, 8, 8, 8]⟩ : ByteArray) (ji19)))))) else (none)) else (none)) = some r := by first | (rw [hji19] at H; exact H) | (simp only [hji19] at H ⊢; exact H)
          by_cases c20 : 0 ≤ (ji19)
          · rw [if_pos c20] at H
            have c20b0 : decide (0 ≤ (ji19)) = true := decide_eq_true c20
            clear c20
            by_cases c21 : (ji19) < 256
            · rw [if_pos c21] at H
              have c21b0 : decide ((ji19) < 256) = true := decide_eq_true c21
              clear c21
              obtain rfl := Option.some.inj H
              have p22 : 0 ≤ ((ji19) : Int) := of_decide_eq_true (by first | (with_reducible assumption) | assumption)
              have q22 : (ji19) < (256 : Int) := of_decide_eq_true (by first | (with_reducible assumption) | assumption)
              have hx22 := bt_at (⟨#[0, 1, 2, 2, 3, 3, 3, 3, 4, 4, 4, 4, 4, 4, 4, 4, 5, 5, 5, 5, 5, 5, 5, 5, 5, 5, 5, 5, 5, 5, 5, 5, 6, 6, 6, 6, 6, 6, 6, 6, 6, 6, 6, 6, 6, 6, 6, 6, 6, 6, 6, 6, 6, 6, 6, 6, 6, 6, 6, 6, 6, 6, 6, 6, 7, 7, 7, 7, 7, 7, 7, 7, 7, 7, 7, 7, 7, 7, 7, 7, 7, 7, 7, 7, 7, 7, 7, 7, 7, 7, 7, 7, 7, 7, 7, 7, 7, 7, 7, 7, 7, 7, 7, 7, 7, 7, 7, 7, 7, 7, 7, 7, 7, 7, 7, 7, 7, 7, 7, 7, 7, 7, 7, 7, 7, 7, 7, 7, 8, 8, 8, 8, 8, 8, 8, 8, 8, 8, 8, 8, 8, 8, 8, 8, 8, 8, 8, 8, 8, 8, 8, 8, 8, 8, 8, 8, 8, 8, 8, 8, 8, 8, 8, 8, 8, 8, 8, 8, 8, 8, 8, 8, 8, 8, 8, 8, 8, 8, 8, 8, 8, 8, 8, 8, 8, 8, 8, 8, 8, 8, 8, 8, 8, 8, 8, 8, 8, 8, 8, 8, 8, 8, 8, 8, 8, 8, 8, 8, 8, 8, 8, 8, 8, 8, 8, 8, 8, 8, 8, 8, 8, 8, 8, 8, 8, 8, 8, 8, 8, 8, 8, 8, 8, 8, 8, 8, 8, 8, 8, 8, 8, 8, 8, 8, 8, 8, 8, 8, 8, 8, 8, 8, 8, 8, 8, 8]⟩ : ByteArray) (ji19)
              replace p22 := eq_true p22
              replace q22 := eq_true q22
              go_wp2
              go_ret
              exact ⟨by first | rfl | (simp; done) | (simp only [← hji19] <;> (first | rfl | simp)) | (simp [*]; done), by repeat (first | exact Drawn0.refl _ | apply Drawn0.step)⟩
            · rw [if_neg c21] at H
              exact absurd H (by simp)
          · rw [if_neg c20] at H
            exact absurd H (by simp)
def bits_LeadingZeros64.f (k : Nat) (a0 : Int) : Option (Int) := (bits_Len64.f k a0).bind fun t877 => (some (wrap64 (64 - t877)))
set_option maxHeartbeats 8000000 in
set_option maxRecDepth 100000 in
theorem bits_LeadingZeros64.calls (k : Nat) (a0 : Int) (r : Int) (w : World) (h : bits_LeadingZeros64.f k a0 = some r) :
    Calls Try.prog 105 #[.int .u64 a0] w fun e w' => e = .returned (.int .i64 r) ∧ Drawn0 w w' := by
  have H : ((bits_Len64.f k a0).bind fun t877 => (some (wrap64 (64 - t877)))) = some r := h
  clear h
  replace H := Option.bind_eq_some_iff.mp H
  obtain ⟨t877, A20, H⟩ := H
  replace H : (some (wrap64 (64 - t877))) = some r := H
  have A2 := Aside0.mk A20
  clear A20
  obtain rfl := Option.some.inj H
  go_enter Try.func105, Try.ntmps105
  go_wp2_with (first | ((with_reducible refine gate_callee (f := 117) rfl ?_); refine goesL_ (some 4) rfl rfl Try.func117 (by kernel_rfl) rfl #[.int .u64 a0] rfl (by (try simp only [List.map_toArray, List.map_cons, List.map_nil]); first | done | rfl | (simp only [List.length_drop, List.length_take]; rfl)) ?_; (with_reducible refine (bits_Len64.calls k a0 t877 _ A2.out).mono ?_); rintro e w' ⟨rfl, ⟨nd, rfl⟩⟩; refine ⟨_, rfl, ?_⟩))
  go_ret
  exact ⟨by first | rfl | (simp; done) | (simp [*]; done), by repeat (first | exact Drawn0.refl _ | apply Drawn0.step)⟩
end Go.Proofs.Ytpkjpiphjdpegaa.P
