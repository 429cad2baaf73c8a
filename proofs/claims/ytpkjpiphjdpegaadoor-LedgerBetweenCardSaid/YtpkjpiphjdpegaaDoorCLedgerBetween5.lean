/- A program of this session wrote this text out of the session's own texts. (part 5 of 46) -/
import Derived.Test.YtpkjpiphjdpegaaDoorCLedgerBetween4
import Derived.ProofKit
import Derived.OpenShut
import Derived.ShutString
import Derived.ChangeOld
import Derived.Below
import Derived.SizedLaws
import Derived.Carry
import Derived.Deep.Slices
namespace Go.Proofs.YtpkjpiphjdpegaaDoor.P
open Go.RowKit Go.ChangeShapes Go.WideShapes Go.Deep Go.Proofs.YtpkjpiphjdpegaaDoorW.PrintWords Go.Proofs.YtpkjpiphjdpegaaDoorW.PrintLast Go.Proofs.YtpkjpiphjdpegaaDoorW.PrintMore
set_option linter.unusedVariables false
set_option linter.unusedSimpArgs false
abbrev U64 (n : Int) : Prop := 0 ≤ n ∧ n < 18446744073709551616
theorem len2 {α : Type} {l : List α} (h : l.length = 2) : ∃ a b, l = [a, b] := by
  match l, h with
  | [a, b], _ => exact ⟨a, b, rfl⟩
theorem len3 {α : Type} {l : List α} (h : l.length = 3) : ∃ a b c, l = [a, b, c] := by
  match l, h with
  | [a, b, c], _ => exact ⟨a, b, c, rfl⟩
section
variable {H : Type} {enc : TypeId × Value → H} {w : World} {base : Nat} {spare : Nat → Bool} {held : Bool}

theorem wf_u64 {n : Int} (h : (Lit.int .u64 n).wf = true) : U64 n := by
  have := bounds_u64 h
  constructor <;> omega
theorem cells42 : Tryd.prog.cellsOf 42 = 2 := by kernel_rfl
theorem cells44 : Tryd.prog.cellsOf 44 = 3 := by kernel_rfl
theorem cells40 : Tryd.prog.cellsOf 40 = 1 := by kernel_rfl
theorem cells9 : Tryd.prog.cellsOf 9 = 1 := by kernel_rfl
set_option maxRecDepth 100000 in
theorem came42 {n : Nat} {cs : List Value} {x : DataW H × List MemPlace} (h : DataW.trod enc Tryd.prog w base spare held n 42 cs = some x) :
    ∃ a b : Int, cs = [.int .u64 a, .int .u64 b] ∧ U64 a ∧ U64 b := by
  obtain ⟨xs, m, _, _, hl, hxl, hf⟩ := DataW.trod_struct Tryd.underlying42 h
  rw [cells42] at hl
  obtain ⟨c0, c1, rfl⟩ := len2 hl
  obtain ⟨y0, y1, rfl⟩ := len2 (show xs.length = 2 from hxl)
  have h0 : DataW.trod enc Tryd.prog w base spare held m 40 (List.take (Tryd.prog.cellsOf 40) (List.drop 0 [c0, c1])) = some y0 := hf 0 _ rfl
  have h1 : DataW.trod enc Tryd.prog w base spare held m 40 (List.take (Tryd.prog.cellsOf 40) (List.drop 1 [c0, c1])) = some y1 := hf 1 _ rfl
  rw [cells40] at h0 h1
  obtain ⟨a, ea, _, wa⟩ := DataW.trod_int Tryd.underlying40 (x := y0) h0
  obtain ⟨b, eb, _, wb⟩ := DataW.trod_int Tryd.underlying40 (x := y1) h1
  simp at ea eb
  subst ea eb
  exact ⟨a, b, rfl, wf_u64 wa, wf_u64 wb⟩
set_option maxRecDepth 100000 in
theorem came44 {n : Nat} {cs : List Value} {x : DataW H × List MemPlace} (h : DataW.trod enc Tryd.prog w base spare held n 44 cs = some x) :
    ∃ (s : ByteArray) (a b : Int), cs = [.string s, .int .u64 a, .int .u64 b] ∧ s.size ≤ 9223372036854775807 ∧ U64 a ∧ U64 b := by
  obtain ⟨xs, m, _, _, hl, hxl, hf⟩ := DataW.trod_struct Tryd.underlying44 h
  rw [cells44] at hl
  obtain ⟨c0, c1, c2, rfl⟩ := len3 hl
  obtain ⟨y0, y1, rfl⟩ := len2 (show xs.length = 2 from hxl)
  have h0 : DataW.trod enc Tryd.prog w base spare held m 9 (List.take (Tryd.prog.cellsOf 9) (List.drop 0 [c0, c1, c2])) = some y0 := hf 0 _ rfl
  have h1 : DataW.trod enc Tryd.prog w base spare held m 42 (List.take (Tryd.prog.cellsOf 42) (List.drop 1 [c0, c1, c2])) = some y1 := hf 1 _ rfl
  rw [cells9] at h0
  rw [cells42] at h1
  obtain ⟨a, ea, _, wa⟩ := DataW.trod_string Tryd.underlying9 (x := y0) h0
  obtain ⟨b, c, eb, wb, wc⟩ := came42 (x := y1) h1
  simp at ea eb
  obtain ⟨rfl, rfl⟩ := eb
  subst ea
  unfold maxLen at wa
  exact ⟨a, b, c, rfl, wa, wb, wc⟩
set_option maxRecDepth 100000 in
theorem came_row {α : Type} (d : Kd α) {t e : TypeId} (good : α → Prop) (ht : Tryd.prog.underlying t = some (.slice e)) (hs : d.sz = Tryd.prog.cellsOf e)
    (one : ∀ (n : Nat) (cs : List Value) (x : DataW H × List MemPlace), DataW.trod enc Tryd.prog w base spare held n e cs = some x → ∃ y, d.K w y cs ∧ good y)
    {r : Reach} {b0 : Nat} {v : Value} {D : DataW H} {p : List MemPlace} (hv : Value.okWide Tryd.prog w r b0 t v) (h : DataW.Trod enc Tryd.prog w base spare held t v D p) :
    ∃ (A : Option Addr) (c : Nat) (l : List α), v = .slice A l.length c ∧ l.length ≤ c ∧ d.C w A l.length l ∧ ∀ y ∈ l, good y := by
  obtain ⟨A, len, c, rfl⟩ := okWide_slice ht hv
  obtain ⟨fuel, hf⟩ := h
  rcases open_slice ht hf with ⟨hcs, _⟩ | ⟨a, len', cap', m, n, D', Pl, hcs, hb, hl, hm, hmm, hx, hi⟩
  · simp [Value.cells] at hcs
    obtain ⟨rfl, rfl, rfl⟩ := hcs
    exact ⟨none, 0, [], rfl, Nat.le_refl _, Kd.C_nil d w, by simp⟩
  · simp [Value.cells] at hcs
    obtain ⟨rfl, rfl, rfl⟩ := hcs
    have hlm : len ≤ m := by rw [hmm]; split <;> omega
    have each : ∀ i, i < len → ∃ y, good y ∧ ∃ cs, cs.length = d.sz ∧ d.K w y cs ∧ ∀ j u, cs[j]? = some u → w.cell? (a.add (i * d.sz + j)) = some u := by
      intro i hlt
      obtain ⟨cs', hc, ht'⟩ := hi i (by omega)
      obtain ⟨y, hy, hg⟩ := one _ _ _ ht'
      obtain ⟨_, hcl, hat⟩ := World.cells?_some hc
      refine ⟨y, hg, cs', d.K_len hy, hy, fun j u hu => ?_⟩
      have hj : j < cs'.length := (List.getElem?_eq_some_iff.1 hu).1
      rw [hs, ← Go.Deep.add_add, hat j (by omega), hu]
    have all : ∀ k, k ≤ len → ∃ l : List α, l.length = k ∧ (∀ y ∈ l, good y) ∧ ∀ j y, l[j]? = some y → ∃ cs, cs.length = d.sz ∧ d.K w y cs ∧ ∀ i u, cs[i]? = some u → w.cell? (a.add (j * d.sz + i)) = some u := by
      intro k
      induction k with
      | zero => exact fun _ => ⟨[], rfl, by simp, by simp⟩
      | succ k ih =>
        intro hk
        obtain ⟨l, hl1, hg, hl2⟩ := ih (by omega)
        obtain ⟨y, hy, cs, h1, h2, h3⟩ := each k (by omega)
        refine ⟨l ++ [y], by simp [hl1], ?_, ?_⟩
        · intro z hz
          rcases List.mem_append.1 hz with hz | hz
          · exact hg z hz
          · rw [List.mem_singleton.1 hz]; exact hy
        · intro j z hz
          by_cases hj : j < l.length
          · rw [List.getElem?_append_left hj] at hz
            exact hl2 j z hz
          · rw [List.getElem?_append_right (by omega)] at hz
            have : j - l.length = 0 := by
              rcases Nat.eq_zero_or_pos (j - l.length) with h0 | h0
              · exact h0
              · rw [List.getElem?_eq_none (by simp; omega)] at hz
                cases hz
            rw [this] at hz
            simp at hz
            subst hz
            have hjk : j = k := by omega
            subst hjk
            exact ⟨cs, h1, h2, h3⟩
    obtain ⟨l, hl1, hg, hl2⟩ := all len (Nat.le_refl _)
    refine ⟨some a, c, l, by rw [hl1], by omega, ⟨rfl, by unfold maxLen at hm; omega, fun _ => ⟨a, rfl, hl2⟩⟩, hg⟩
set_option maxRecDepth 100000 in
theorem arg_row44 {r : Reach} {b0 : Nat} {v : Value} {D : DataW H} {p : List MemPlace} (hv : Value.okWide Tryd.prog w r b0 34 v) (h : DataW.Trod enc Tryd.prog w base spare held 34 v D p) :
    ∃ (A : Option Addr) (c : Nat) (l : List S44), v = .slice A l.length c ∧ l.length ≤ c ∧ k44.C w A l.length l ∧ ∀ y ∈ l, y.f0.size ≤ 9223372036854775807 ∧ U64 y.f1.f0 ∧ U64 y.f1.f1 :=
  came_row k44 (fun y => y.f0.size ≤ 9223372036854775807 ∧ U64 y.f1.f0 ∧ U64 y.f1.f1) Tryd.underlying34 (cells44.symm ▸ rfl) (fun n cs x hx => by
    obtain ⟨s, a, b, rfl, hs, ha, hb⟩ := came44 hx
    exact ⟨⟨s, ⟨a, b⟩⟩, k44_mk w ⟨s, ⟨a, b⟩⟩, hs, ha, hb⟩) hv h
set_option maxRecDepth 100000 in
theorem args_back {P : Program} (hl : laidOutB P = true) {W W' : World} (hb : Below W.heap.size W W') : ∀ {ts : List TypeId} {vs : List Value} {ds : List (DataW H)} {p : List MemPlace},
    (ts.all fun t => P.readableRec t && decide (t < P.types.size)) = true → DataW.TrodAll enc P W 0 (fun _ => true) true ts vs ds p → DataW.TrodAll enc P W' 0 (fun b => decide (b < W.heap.size)) true ts vs ds p
  | [], vs, ds, p, _, h => by
    obtain ⟨rfl, rfl, rfl⟩ := trodAll_nil h
    exact trodAll_mk0
  | t :: ts, vs, ds, p, hg, h => by
    obtain ⟨v, vs', d, ds', p', q, rfl, rfl, rfl, h0, r⟩ := trodAll_cons h
    simp only [List.all_cons, Bool.and_eq_true, decide_eq_true_eq] at hg
    exact trodAll_cons_mk (Below.trod hl hg.1.1 hg.1.2 h0 hb (fun x hx => by
      obtain ⟨m, hm⟩ := h0
      exact DataW.trod_lt m _ _ _ hm x hx)) (args_back hl hb hg.2 r)
end
end Go.Proofs.YtpkjpiphjdpegaaDoor.P
