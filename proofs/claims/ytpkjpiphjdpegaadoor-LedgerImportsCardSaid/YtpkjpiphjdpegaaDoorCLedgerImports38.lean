/- A program of this session wrote this text out of the session's own texts. (part 38 of 45) -/
import Derived.Test.YtpkjpiphjdpegaaDoorCLedgerImportsQ
import Derived.Test.YtpkjpiphjdpegaaDoorCLedgerImports23
import Derived.Test.YtpkjpiphjdpegaaDoorCLedgerImports29
import Derived.Test.YtpkjpiphjdpegaaDoorCLedgerImports36
import Derived.Test.YtpkjpiphjdpegaaDoorCLedgerImports37
import Derived.Maps.Views
import Derived.Sort.Grow
import Derived.Handy
import Derived.Laws.EntriesVeiled
namespace Go.Proofs.YtpkjpiphjdpegaaDoor.P
open Go.RowKit Go.Proofs.YtpkjpiphjdpegaaDoor.RF Go.Proofs.YtpkjpiphjdpegaaDoorW.PrintWords Go.Proofs.YtpkjpiphjdpegaaDoorW.PrintLast Go.Proofs.YtpkjpiphjdpegaaDoorW.PrintMore
open Go.Maps
set_option linter.unusedVariables false
set_option linter.unusedSimpArgs false
def bookO (most : Int) (v : Value) (B : Nat) (s : Int) : Obj := .cells #[.int .i64 most, v, .map (some B), .int .u64 (hiOf s), .int .u64 (loOf s)] 113 (0, 0)
def IdMap (B : Nat) (rows : List S44) (w : World) : Prop :=
 ∃ (n : Nat) (D : DataW Unit), w.ownsMap Tryd.prog 9 (plainElem Tryd.prog 3) B n D ∧ n ≤ rows.length ∧ Go.Maps.IsMap D ∧
  ∀ s : ByteArray, D.atKey (.string s.data.toList) (.lit (.int .i64 0)) = .lit (.int .i64 (if idIn rows s = true then 1 else 0))
def Book (n0 Bx Pb B : Nat) (most : Int) (rows : List S44) (w : World) : Prop :=
 n0 ≤ Pb ∧ n0 ≤ B ∧ Pb ≠ B ∧ (∃ v, w.heap[Pb]? = some (bookO most v B (sumOf rows)) ∧ Kd.R k44 44 w n0 (fun k => k ≠ Bx) v rows) ∧ IdMap B rows w
def Kept (Bx Pb B : Nat) (W W' : World) : Prop :=
 W.heap.size ≤ W'.heap.size ∧ ∀ k o, W.heap[k]? = some o → k ≠ Pb → k ≠ B → (k = Bx ∨ ∀ cs fr, o ≠ .cells cs 44 fr) → W'.heap[k]? = some o
theorem kept_trans {Bx Pb B : Nat} {X Y Z : World} (h : Kept Bx Pb B X Y) (k : Kept Bx Pb B Y Z) : Kept Bx Pb B X Z :=
 ⟨Nat.le_trans h.1 k.1, fun i o hi h1 h2 h3 => k.2 i o (h.2 i o hi h1 h2 h3) h1 h2 h3⟩
theorem kept_below {Bx Pb B : Nat} {X Y : World} (h : Below X.heap.size X Y) : Kept Bx Pb B X Y :=
 ⟨h.size, fun i o hi _ _ _ => (h.block i (Array.getElem?_eq_some_iff.1 hi).1).trans hi⟩
theorem kept_grown {Bx Pb B : Nat} {X Y : World} {row : Option Nat} (h : X.grownBy Y row) (hr : ∀ k, row = some k → k = Pb ∨ k = B ∨ (k ≠ Bx ∧ ∃ cs, X.heap[k]? = some (.cells cs 44 (0, 0)))) : Kept Bx Pb B X Y :=
 ⟨h.size, fun i o hi h1 h2 h3 => (h.block i (Array.getElem?_eq_some_iff.1 hi).1 (fun e => by
  rcases hr i e.symm with q | q | ⟨n, cs, q⟩
  ·exact h1 q
  ·exact h2 q
  ·rw [hi] at q
   rcases h3 with h3 | h3
   ·exact n h3
   ·exact h3 cs (0, 0) (Option.some.inj q))).trans hi⟩
theorem kept_set {Bx Pb B : Nat} (X : World) (j : Nat) (v : Value) : Kept Bx Pb B X (X.setCell ⟨Pb, j, none⟩ v) :=
 ⟨by simp, fun i o hi h1 _ _ => (Below.heap_setCell _ _ _ _ h1).trans hi⟩
theorem kept_boxed {Bx Pb B : Nat} {X Y : World} (h : Kept Bx Pb B X Y) {b t : Nat} {v : Value} (hb : Boxed X b t v) (h1 : b ≠ Pb) (h2 : b ≠ B) (ht : t ≠ 44) : Boxed Y b t v :=
 h.2 b _ hb h1 h2 (.inr fun cs fr e => by cases e; exact ht rfl)
theorem kept_from {Bx Pb B n : Nat} {X Y : World} (h : Kept Bx Pb B X Y) (h1 : Pb < n) (h2 : B < n) : KeepsFrom n X Y :=
 ⟨h.1, fun k o hk ho hc => h.2 k o ho zv1 zv1 (.inr fun cs fr e => by rw [e] at hc; cases hc)⟩
theorem kept_bx {Bx Pb B : Nat} {X Y : World} (h : Kept Bx Pb B X Y) (hx : Bx < X.heap.size) (h1 : Bx ≠ Pb) (h2 : Bx ≠ B) : Y.heap[Bx]? = X.heap[Bx]? := by
 have e := Array.getElem?_eq_getElem hx; rw [h.2 Bx _ e h1 h2 (.inl rfl), e]
theorem rows_grown {n0 Bx : Nat} {v : Value} {rows : List S44} {X Y : World} {row : Option Nat} (hr : Kd.R k44 44 X n0 (fun k => k ≠ Bx) v rows) (hg : X.grownBy Y row) (h3 : ∀ k, k ≠ Bx → (∃ cs, X.heap[k]? = some (.cells cs 44 (0, 0))) → some k ≠ row) : Kd.R k44 44 Y n0 (fun k => k ≠ Bx) v rows := by
 refine Kd.R_mono (Kd.R_step (w1 := Y) (Kd.R_bound hr) fun k hk hlt => ?_) fun k hk => hk.1
 obtain ⟨hne, _, _, q, hq, cs, hc⟩ := hk
 have hq' : q = 44 := by
  rcases List.mem_cons.1 hq with e | e
  ·exact e
  ·rw [show k44.E = [] from rfl] at e; cases e
 subst hq'; exact hg.block k hlt (h3 k hne ⟨cs, hc⟩)
theorem book_grown {n0 Bx Pb B : Nat} {most : Int} {rows : List S44} {X Y : World} {row : Option Nat} (h : Book n0 Bx Pb B most rows X) (hg : X.grownBy Y row) (h1 : some Pb ≠ row) (h2 : some B ≠ row) (h3 : ∀ k, k ≠ Bx → (∃ cs, X.heap[k]? = some (.cells cs 44 (0, 0))) → some k ≠ row) : Book n0 Bx Pb B most rows Y := by
 obtain ⟨a, b, c, ⟨v, hv, hr⟩, n, D, ho, hn, hm, hat⟩ := h; exact ⟨a, b, c, ⟨v, (hg.block Pb (Array.getElem?_eq_some_iff.1 hv).1 h1).trans hv, rows_grown hr hg h3⟩, n, D, ho.kept hg h2, hn, hm, hat⟩
theorem book_below {n0 Bx Pb B : Nat} {most : Int} {rows : List S44} {X Y : World} (h : Book n0 Bx Pb B most rows X) (hb : Below X.heap.size X Y) : Book n0 Bx Pb B most rows Y :=
 book_grown h (zRp hb none) zv10 zv10 (fun _ _ _ => by simp)
theorem book_opened (n0 Bx : Nat) (most : Int) (w : World) (hn : n0 ≤ w.heap.size) : Book n0 Bx (w.heap.size + 1) w.heap.size most [] ((w.alloc (.map #[] 0)).alloc (.cells #[.int .i64 most, .slice none 0 0, .map (some w.heap.size), .int .u64 0, .int .u64 0] 113)) := by
 refine ⟨zv1, hn, zv1, ⟨.slice none 0 0, ?_, Kd.R_nil _ _ _ _ _⟩, 0, .map [], (World.ownsMap_made w Tryd.prog 9 (plainElem Tryd.prog 3)).alloc _, Nat.le_refl _, isMap_empty, fun s => rfl⟩; have := (MapKept.heap_alloc (w.alloc (.map #[] 0)) (.cells #[.int .i64 most, .slice none 0 0, .map (some w.heap.size), .int .u64 0, .int .u64 0] 113)).1
 rwa [World.size_alloc] at this
end Go.Proofs.YtpkjpiphjdpegaaDoor.P
