/- A program of this session wrote this text out of the session's own texts. (part 24 of 45) -/
import Derived.Test.YtpkjpiphjdpegaaDoorCLedgerImportsQ
import Derived.Test.YtpkjpiphjdpegaaDoorCLedgerImports18
import Derived.Test.YtpkjpiphjdpegaaDoorCLedgerImports22
import Derived.Test.YtpkjpiphjdpegaaDoorCLedgerImports23
import Derived.Shelf.Abstract
import Derived.Shelf.RegionOpen
import Derived.WalkKit
import Derived.OwnWalkIn
import Derived.TacticsInMore
import Derived.LoopNIn
import Derived.LoopIn
import Derived.Maps.AppendAt
namespace Go.Proofs.YtpkjpiphjdpegaaDoor.P
open Go.RowKit Go.Shelf Go.Proofs.YtpkjpiphjdpegaaDoor.RF Go.Proofs.YtpkjpiphjdpegaaDoorW.PrintWords
attribute [local go_sem] Oper.semAt_some
set_option linter.unusedVariables false
set_option linter.unusedSimpArgs false
set_option maxHeartbeats 8000000 in
set_option maxRecDepth 100000 in
theorem each2_in (n : Nat) (hn : 1 ≤ n) (l Bx n₀ : Nat) (s : ByteArray) (hs : s.size ≤ 1000000000) (J Jx : List S56 → World → Prop) (W : World)
  (hJ : AbX Bx W.heap.size J) (hG : ∀ W', Below n₀ W W' → GT W') (hxB : n₀ ≤ Bx) (hlt : Bx < W.heap.size)
  (hY : ∀ pre x W, J pre W → pre.length < (allL s).length → x ∈ allL s → YieldAt Fence.wide (n - 1) Tryd.prog l #[lineV x] W fun e W' =>
   (e = .returned (.bool true) ∧ J (pre ++ [x]) W' ∧ KpE n₀ Bx W W') ∨ (e = .returned (.bool false) ∧ Jx (pre ++ [x]) W'))
  (hBx : Boxed W Bx 9 (.string s)) (h0 : J [] W) :
  CallsIn Fence.wide n Tryd.prog 73 #[.func (.yield l) #[] #[], .pointer (some ⟨Bx, 0, none⟩)] W fun e W' => (∃ v, e = .returned v) ∧
   ((∃ ys, ys = allL s ∧ J ys W') ∨ (∃ pre, pre <+: allL s ∧ Jx pre W')) := by
 refine callsIn_of_wp Tryd.func73 rfl trivial ?_ rfl; simp only [Tryd.ntmps73, List.size_toArray, List.length_cons, List.length_nil, Nat.reduceAdd, Nat.reduceSub, Array.replicate_succ, Array.replicate_zero, List.push_toArray, List.append_toArray, List.nil_append, List.cons_append]; gi_wp2
 gi_loopw [3] (fun p wr => ∃ (pre : List S56) (t : List UInt8), p = .int .i64 ((pre.length : Int) + 1) ∧ pre ++ linesL ((pre.length : Int) + 1) (splitB t) = allL s ∧ Boxed wr Bx 9 (.string (mk t)) ∧ t.length ≤ s.size ∧ pre.length + t.length ≤ s.size ∧ Below n₀ W wr ∧ J pre wr)
  (fun p wr => leftE Bx wr)
 case atStart =>
  exact ⟨[], s.data.toList, rfl, rfl, (by rw [mk_of]; exact hBx), zv10, by simp, Below.refl _ _, h0⟩
 case round =>
  obtain ⟨pre, t, rfl, hx, hb, ht, hpt, hBel, hJs⟩ := hrel; have hcell := hb.cell; have hfro := hb.frozen; have hle : n₀ ≤ wr.heap.size := by have := hb.lt; omega
  have hn64 : (pre.length : Int) + 1 ≤ 1000000001 := by omega
  have arm : ∀ (h tl : List UInt8) (mo : Bool), h.length ≤ 1000000000 → strings_Cut.f (mk t) (⟨#[10]⟩ : ByteArray) = some (mk h, mk tl, mo) → pre.length < (allL s).length → True := fun _ _ _ _ _ _ => trivial
  clear arm
  by_cases hi : Lib.indexByte t 10 = -1
  ·have hsp := splitB_none hi; have hcut := cut_none hi; rw [hsp] at hx; have hx' : pre ++ [lineOf ((pre.length : Int) + 1) t] = allL s := hx; have hlen : pre.length < (allL s).length := by rw [← hx']; simp
   have hmem : lineOf ((pre.length : Int) + 1) t ∈ allL s := by rw [← hx']; simp
   have hk := kind_is t zv1; have hw := wrong_is t zv1
   gi_wp2_with (first
    | (refine ⟨trivial, ?_⟩; gi_at_call 74; refine (callsIn_wide.2 (strings_Cut.calls (mk t) _ _ _ _ _ hcut)).mono ?_; rintro e W1 ⟨rfl, hb1⟩; have hbel1 := hBel.trans (hb1.mono hle); have hJ1 := hJ.below hJs hb1; have hbx1 := hb.kept (zRp hb1 none) zv10; have hs1 := hb1.size)
    | (refine ⟨trivial, ?_⟩; gi_at_call 37; refine (callsIn_wide.2 (lines_Kind.calls (mk t) _ _ hk)).mono ?_; rintro e W2 ⟨rfl, hb2⟩; have hbel2 := hbel1.trans (hb2.mono zv1); have hJ2 := hJ.below hJ1 hb2; have hbx2 := hbx1.kept (zRp hb2 none) zv10; have hs2 := hb2.size)
    | (refine ⟨trivial, ?_⟩; gi_at_call 75; refine (callsIn_wide.2 (lines_wrong.calls (mk t) _ _ (hG _ hbel2) hw)).mono ?_; rintro e W3 ⟨rfl, hb3⟩; have hbel3 := hbel2.trans (hb3.mono zv1); have hJ3 := hJ.below hJ2 hb3; have hbx3 := hbx2.kept (zRp hb3 none) zv10; obtain ⟨fn, tmps, assign, body, hy, hR⟩ := hY pre (lineOf ((pre.length : Int) + 1) t) W3 hJ3 hlen hmem; dsimp only [lineV, lineOf] at hy))
   refine hR.mono ?_; rintro e W4 (⟨rfl, hJ4, hk4⟩ | ⟨rfl, hJx4⟩)
   ·gi_wp2; refine bodyPost_ret (results_none rfl _ _ _) rfl ?_; exact ⟨⟨_, rfl⟩, .inl ⟨_, hx', hJ4⟩⟩
   ·gi_wp2; refine bodyPost_ret (results_none rfl _ _ _) rfl ?_; exact ⟨⟨_, rfl⟩, .inr ⟨_, ⟨[], (by rw [List.append_nil]; exact hx')⟩, hJx4⟩⟩
  ·obtain ⟨i, hi⟩ : ∃ i : Nat, Lib.indexByte t 10 = (i : Int) := ⟨(Lib.indexByte t 10).toNat, (by have := Lib.indexByte_ge t 10; omega)⟩
   obtain ⟨hsp, hit⟩ := splitB_some hi; have hcut := cut_some zv1 hi; rw [hsp] at hx; have hx' : pre ++ (lineOf ((pre.length : Int) + 1) (t.take i) :: linesL ((pre.length : Int) + 1 + 1) (splitB (t.drop (i + 1)))) = allL s := hx; have hlen : pre.length < (allL s).length := by rw [← hx']; simp
   have hmem : lineOf ((pre.length : Int) + 1) (t.take i) ∈ allL s := by rw [← hx']; simp
   have hli : (t.take i).length ≤ t.length := by simp; omega
   have hk := kind_is (t.take i) zv1; have hw := wrong_is (t.take i) zv1
   gi_wp2_with (first
    | (refine ⟨trivial, ?_⟩; gi_at_call 74; refine (callsIn_wide.2 (strings_Cut.calls (mk t) _ _ _ _ _ hcut)).mono ?_; rintro e W1 ⟨rfl, hb1⟩; have hbel1 := hBel.trans (hb1.mono hle); have hJ1 := hJ.below hJs hb1; have hbx1 := hb.kept (zRp hb1 none) zv10; have hs1 := hb1.size)
    | (refine ⟨trivial, ?_⟩; gi_at_call 37; refine (callsIn_wide.2 (lines_Kind.calls (mk (t.take i)) _ _ hk)).mono ?_; rintro e W2 ⟨rfl, hb2⟩; have hbel2 := hbel1.trans (hb2.mono zv1); have hJ2 := hJ.below hJ1 hb2; have hbx2 := hbx1.kept (zRp hb2 none) zv10; have hs2 := hb2.size)
    | (refine ⟨trivial, ?_⟩; gi_at_call 75; refine (callsIn_wide.2 (lines_wrong.calls (mk (t.take i)) _ _ (hG _ hbel2) hw)).mono ?_; rintro e W3 ⟨rfl, hb3⟩; have hbel3 := hbel2.trans (hb3.mono zv1); have hJ3 := hJ.below hJ2 hb3; have hbx3 := hbx2.kept (zRp hb3 none) zv10; obtain ⟨fn, tmps, assign, body, hy, hR⟩ := hY pre (lineOf ((pre.length : Int) + 1) (t.take i)) W3 hJ3 hlen hmem; dsimp only [lineV, lineOf] at hy))
   refine hR.mono ?_; rintro e W4 (⟨rfl, hJ4, hk4⟩ | ⟨rfl, hJx4⟩)
   ·have hbx4 : Boxed W4 Bx 9 (.string (mk t)) := hk4.2.trans hbx3; have hc4 := hbx4.cell; have hf4 := hbx4.frozen; gi_wp2; go_roundw
    case rel =>
     refine ⟨pre ++ [lineOf ((pre.length : Int) + 1) (t.take i)], t.drop (i + 1), ?_, ?_, hbx4.set _, zv27, by simp; omega, ?_, hJ.set _ hJ4⟩
     ·simp
     ·rw [List.append_assoc, List.length_append]; exact hx'
     ·exact (hbel3.trans hk4.1).setCell (p := ⟨Bx, 0, none⟩) hxB _
    case measure =>
     have e1 := (hbx4.set (.string (mk (t.drop (i + 1))))).cell; unfold leftE; rw [e1, hcell]; simp [mk_size]; omega
   ·gi_wp2; refine bodyPost_ret (results_none rfl _ _ _) rfl ?_; exact ⟨⟨_, rfl⟩, .inr ⟨_, ⟨linesL ((pre.length : Int) + 1 + 1) (splitB (t.drop (i + 1))), (by rw [List.append_assoc]; exact hx')⟩, hJx4⟩⟩
abbrev LineIn (s : ByteArray) := {x : S56 // x ∈ allL s}
theorem each_stops2 (n : Nat) (hn : 1 ≤ n) (Bx n₀ : Nat) (s : ByteArray) (hs : s.size ≤ 1000000000) (w w0 : World) (hG : GT w0) (h0 : w0.heap.size ≤ n₀) (hb0 : Below n₀ w0 w) (hxB : n₀ ≤ Bx) (hlt : Bx < w.heap.size)
  (hBx : Boxed w Bx 9 (.string s)) :
  SeqX (α := LineIn s) Fence.wide n Tryd.prog 73 #[.pointer (some ⟨Bx, 0, none⟩)] (fun x => #[lineV x.1]) (KpE n₀ Bx) Bx (fun ys => ys.map Subtype.val = allL s) (fun pre => pre.map Subtype.val <+: allL s) (allL s).length w :=
 fun l J Jx W hW hJ hJx hY h00 => by
  refine (each2_in n hn l Bx n₀ s hs (fun p W => ∃ q : List (LineIn s), q.map Subtype.val = p ∧ J q W) (fun p W => ∃ q : List (LineIn s), q.map Subtype.val = p ∧ Jx q W) W
   (fun p A B row hp hg hr => by obtain ⟨q, e, hq⟩ := hp; exact ⟨q, e, hJ q A B row hq hg hr⟩)
   (fun W' hb' => gt_same hG h0 ((hb0.trans (hW.mono zv1)).trans hb')) hxB (by have := hW.size; omega) ?_ (hBx.kept (zRp hW none) zv10) ⟨[], rfl, h00⟩).mono ?_
  ·rintro pre x W1 ⟨q, rfl, hq⟩ hl hm; obtain ⟨fn, tmps, assign, body, hy, hR⟩ := hY q ⟨x, hm⟩ W1 hq (by simpa using hl); refine ⟨fn, tmps, assign, body, hy, hR.mono ?_⟩; rintro e W' (⟨he, hj, hk⟩ | ⟨he, hj⟩)
   ·exact .inl ⟨he, ⟨_, by simp, hj⟩, hk⟩
   ·exact .inr ⟨he, _, by simp, hj⟩
  ·rintro e W' ⟨hv, ⟨ys, rfl, q, e1, hq⟩ | ⟨pre, hp, q, rfl, hq⟩⟩
   ·exact ⟨hv, .inl ⟨q, e1, hq⟩⟩
   ·exact ⟨hv, .inr ⟨q, hp, hq⟩⟩
end Go.Proofs.YtpkjpiphjdpegaaDoor.P
