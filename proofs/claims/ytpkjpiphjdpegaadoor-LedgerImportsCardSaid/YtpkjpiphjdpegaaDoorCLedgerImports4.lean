/- A program of this session wrote this text out of the session's own texts. (part 4 of 45) -/
import Derived.Test.YtpkjpiphjdpegaaDoorCLedgerImportsQ
import Derived.Test.YtpkjpiphjdpegaaDoorCLedgerImports1
import Derived.Test.YtpkjpiphjdpegaaDoorCLedgerImports2
import Derived.Test.YtpkjpiphjdpegaaDoorCLedgerImports3
import Derived.Test.YtpkjpiphjdpegaaDoorProg
import Derived.Below
import Derived.Deep.Draws
import Derived.Deep.AppendLies
import Derived.Maps.AppendAt
import Derived.OwnWalk
import Derived.Laws.BytesArg
import Derived.Laws.MakeOwn
import Derived.Laws.OwnMore
import Derived.Deep.OwnRows
import Derived.Tactics
import Derived.Lib.ConvBytes
import Derived.Laws.Slices
import Derived.WalkKit
import Derived.KernelRfl
import Derived.RowKit3
import Derived.Deep.LoopGhost
import Derived.Deep.QuietTactic
import Derived.BigQuiet
import Derived.WideLaws
import Derived.Deep.DeepCutAuto
import Derived.Deep.CutBlock
import Derived.Deep.RegionHeld3
import Derived.Laws.Rows
import Derived.Lib.AppendStr
import Derived.ArgAppend
import Derived.Laws.IdiomCopy
import Derived.OrdersHeld
import Derived.Laws.BitsLemmas
import Derived.RowKit
namespace Go.Proofs.YtpkjpiphjdpegaaDoor.P
open Go.RowKit Go.Proofs.YtpkjpiphjdpegaaDoorW.PrintWords Go.Proofs.YtpkjpiphjdpegaaDoorW.PrintLast Go.Proofs.YtpkjpiphjdpegaaDoorW.PrintMore
attribute [local go_sem] max2_int min2_int max_two min_two max_three min_three max_four min_four
set_option linter.unusedVariables false
set_option linter.unusedSimpArgs false
def errW : Option Int → Value
 | none => .nilIface
 | some c => .iface 0 (.int .i64 c)
theorem errW_none : errW none = .nilIface := rfl
theorem errW_some (c : Int) : errW (some c) = .iface 0 (.int .i64 c) := rfl
theorem info5 : (Tryd.prog.info? 5).map (fun i => (i.zero, i.size, i.bytes)) = some (some (.int .u8 0), 1, 1) := by kernel_rfl
theorem info9 : (Tryd.prog.info? 9).map (fun i => (i.zero, i.size, i.bytes)) = some (some (.string ⟨#[]⟩), 1, 16) := by kernel_rfl
theorem info21 : (Tryd.prog.info? 21).map (fun i => (i.zero, i.size, i.bytes)) = some (some (.int .i32 0), 1, 4) := by kernel_rfl
theorem info40 : (Tryd.prog.info? 40).map (fun i => (i.zero, i.size, i.bytes)) = some (some (.int .u64 0), 1, 8) := by kernel_rfl
theorem info44 : (Tryd.prog.info? 44).map (fun i => (i.zero, i.size, i.bytes)) = some (some (.agg #[(.string ⟨#[]⟩), (.int .u64 0), (.int .u64 0)]), 3, 32) := by kernel_rfl
structure S56 where
 f0 : Int
 f1 : ByteArray
 f2 : Int
 f3 : Int
structure S42 where
 f0 : Int
 f1 : Int
def z42 : S42 := ⟨(0 : Int), (0 : Int)⟩
def k42 : Kd S42 := Kd.iso (Kd.pair (Kd.int .u64) (Kd.int .u64)) (fun x : S42 => (x.f0, x.f1))
theorem k42_open {w : World} {x : S42} {cs : List Value} (h : k42.K w x cs) : cs = [.int .u64 x.f0, .int .u64 x.f1] := by
 obtain ⟨_, _, rfl, rfl, rfl⟩ := h; exact rfl
theorem k42_mkM (w : World) (base : Nat) (ok : Nat → Prop) (x : S42)  : k42.M w base ok x [.int .u64 x.f0, .int .u64 x.f1] := ⟨[.int .u64 x.f0], [.int .u64 x.f1], rfl, rfl, rfl⟩
structure S44 where
 f0 : ByteArray
 f1 : S42
def z44 : S44 := ⟨(⟨#[]⟩ : ByteArray), z42⟩
def k44 : Kd S44 := Kd.iso (Kd.pair Kd.string k42) (fun x : S44 => (x.f0, x.f1))
theorem k44_open {w : World} {x : S44} {cs : List Value} (h : k44.K w x cs) : cs = [.string x.f0, .int .u64 x.f1.f0, .int .u64 x.f1.f1] := by
 obtain ⟨_, _, rfl, rfl, s1⟩ := h; obtain rfl := k42_open s1; exact rfl
theorem k44_mkM (w : World) (base : Nat) (ok : Nat → Prop) (x : S44)  : k44.M w base ok x [.string x.f0, .int .u64 x.f1.f0, .int .u64 x.f1.f1] := ⟨[.string x.f0], [.int .u64 x.f1.f0, .int .u64 x.f1.f1], rfl, rfl, (k42_mkM w base ok x.f1 )⟩
def rd_T44 (xs : List S44) (i : Int) : S44 := xs.getD i.toNat z44
theorem at_T44 {w : World} {A : Option Addr} {n : Nat} {xs : List S44} (h : Kd.C k44 w A n xs) (i : Int) (h0 : 0 ≤ i) (h1 : i < n) : ∃ ad , A = some ad ∧ w.cell? (ad.add (i.toNat * 3)) = some (.string (rd_T44 xs i).f0) ∧ w.cell? ⟨(ad.add (i.toNat * 3)).block, (ad.add (i.toNat * 3)).off + 1, none⟩ = some (.int .u64 (rd_T44 xs i).f1.f0) ∧ w.cell? ⟨(ad.add (i.toNat * 3)).block, (ad.add (i.toNat * 3)).off + 2, none⟩ = some (.int .u64 (rd_T44 xs i).f1.f1) := by
 obtain ⟨ad, c, e, _, hK, hc0⟩ := Kd.C_get h z44 i h0 h1; have hc : ∀ j u, c[j]? = some u → w.cell? (ad.add (i.toNat * 3 + j)) = some u := hc0; obtain rfl := k44_open hK; exact ⟨ad, e, hc 0 _ rfl, (by rw [← add_field _ _ 1 zv1]; exact hc 1 _ rfl), (by rw [← add_field _ _ 2 zv1]; exact hc 2 _ rfl)⟩
theorem eqA56 (d : Nat) (w : World) (x0 y0 : Int) (x1 y1 : ByteArray) (x2 y2 : Int) (x3 y3 : Int) :
  (Op.equalIn (d + 2) 56 (.agg #[.int .i64 x0, .string x1, .int .u8 x2, .int .i64 x3]) (.agg #[.int .i64 y0, .string y1, .int .u8 y2, .int .i64 y3])).run Tryd.prog w = .ok (x0 == y0 && (x1.toList == y1.toList && (x2 == y2 && (x3 == y3)))) w := by
 refine eqA_of Tryd.underlying56 (by kernel_rfl) ?_; refine eqf_cons zvv (by go_simp; rfl) (by go_simp; rfl) (by go_simp) ?_; refine eqf_cons zvv (by go_simp; rfl) (by go_simp; rfl) (by go_simp) ?_; refine eqf_cons zvv (by go_simp; rfl) (by go_simp; rfl) (by go_simp) ?_; exact eqf_last zvv (by go_simp; rfl) (by go_simp; rfl) (by go_simp)
mutual
def paymasterref07_Rune.j0 : Nat → ByteArray → Int → Bool → Option (Int × Int)
 | 0, _, _, _ => none
 | k + 1, x0, x1, x18 => if x18 = true then (some (0, 0)) else (if 0 ≤ x1 then (if x1 < (x0.size : Int) then (if (wrap64 (bt x0 x1)) < 128 then (some (wrap64 (bt x0 x1), 1)) else (if (wrap64 (bt x0 x1)) ≥ 192 then (paymasterref07_Rune.j1 k x0 x1 (wrap64 (bt x0 x1)) (decide ((wrap64 (bt x0 x1)) < 224))) else (paymasterref07_Rune.j1 k x0 x1 (wrap64 (bt x0 x1)) false))) else (none)) else (none))
def paymasterref07_Rune.j3 : Nat → ByteArray → Int → Int → Int → Int → Option (Int × Int)
 | 0, _, _, _, _, _ => none
 | k + 1, x0, x1, x7, x8, x9 => paymasterref07_Rune.l0 k x0 x1 x7 x8 x9 1
def paymasterref07_Rune.l0 : Nat → ByteArray → Int → Int → Int → Int → Int → Option (Int × Int)
 | 0, _, _, _, _, _, _ => none
 | k + 1, x0, x1, x7, x8, x9, x10 => if x10 < x7 then (if (wrap64 (x1 + x10)) ≥ (x0.size : Int) then (some (0, 0)) else (if 0 ≤ (wrap64 (x1 + x10)) then (if (wrap64 (x1 + x10)) < (x0.size : Int) then (if (bt x0 (wrap64 (x1 + x10))) < 128 then (some (0, 0)) else (if (bt x0 (wrap64 (x1 + x10))) ≥ 192 then (some (0, 0)) else (paymasterref07_Rune.l0 k x0 x1 x7 (wrap64 ((wrap64 ((wrap64 (64 * x8)) + (wrap64 (bt x0 (wrap64 (x1 + x10)))))) - 128)) x9 (wrap64 (x10 + 1))))) else (none)) else (none))) else (if x8 < x9 then (some (0, 0)) else (if x8 > 1114111 then (some (0, 0)) else (if x8 ≥ 55296 then (if x8 < 57344 then (some (0, 0)) else (some (x8, x7))) else (some (x8, x7)))))
def paymasterref07_Rune.j1 : Nat → ByteArray → Int → Int → Bool → Option (Int × Int)
 | 0, _, _, _, _ => none
 | k + 1, x0, x1, x6, x27 => if x27 = true then (paymasterref07_Rune.j3 k x0 x1 2 (wrap64 (x6 - 192)) 128) else (if x6 ≥ 224 then (paymasterref07_Rune.j2 k x0 x1 x6 (decide (x6 < 240))) else (paymasterref07_Rune.j2 k x0 x1 x6 false))
def paymasterref07_Rune.j2 : Nat → ByteArray → Int → Int → Bool → Option (Int × Int)
 | 0, _, _, _, _ => none
 | k + 1, x0, x1, x6, x36 => if x36 = true then (paymasterref07_Rune.j3 k x0 x1 3 (wrap64 (x6 - 224)) 2048) else (if x6 ≥ 240 then (if x6 < 248 then (paymasterref07_Rune.j3 k x0 x1 4 (wrap64 (x6 - 240)) 65536) else (some (0, 0))) else (some (0, 0)))
end
def paymasterref07_Rune.f (k : Nat) (a0 : ByteArray) (a1 : Int) : Option (Int × Int) := if a1 < 0 then (paymasterref07_Rune.j0 k a0 a1 true) else (paymasterref07_Rune.j0 k a0 a1 (decide (a1 ≥ (a0.size : Int))))
theorem paymasterref07_Rune.mono_l : ∀ k, (∀ y0 y1 y2, LeO (paymasterref07_Rune.j0 k y0 y1 y2) (paymasterref07_Rune.j0 (k + 1) y0 y1 y2)) ∧ (∀ y0 y1 y2 y3 y4, LeO (paymasterref07_Rune.j3 k y0 y1 y2 y3 y4) (paymasterref07_Rune.j3 (k + 1) y0 y1 y2 y3 y4)) ∧ (∀ y0 y1 y2 y3 y4 y5, LeO (paymasterref07_Rune.l0 k y0 y1 y2 y3 y4 y5) (paymasterref07_Rune.l0 (k + 1) y0 y1 y2 y3 y4 y5)) ∧ (∀ y0 y1 y2 y3, LeO (paymasterref07_Rune.j1 k y0 y1 y2 y3) (paymasterref07_Rune.j1 (k + 1) y0 y1 y2 y3)) ∧ (∀ y0 y1 y2 y3, LeO (paymasterref07_Rune.j2 k y0 y1 y2 y3) (paymasterref07_Rune.j2 (k + 1) y0 y1 y2 y3))
 | 0 => ⟨fun _ _ _ r h => by simp [paymasterref07_Rune.j0] at h, fun _ _ _ _ _ r h => by simp [paymasterref07_Rune.j3] at h, fun _ _ _ _ _ _ r h => by simp [paymasterref07_Rune.l0] at h, fun _ _ _ _ r h => by simp [paymasterref07_Rune.j1] at h, fun _ _ _ _ r h => by simp [paymasterref07_Rune.j2] at h⟩
 | k + 1 => by
  obtain ⟨ih0, ih1, ih2, ih3, ih4⟩ := paymasterref07_Rune.mono_l k; refine ⟨?_, ?_, ?_, ?_, ?_⟩
  ·intro y0 y1 y2; unfold paymasterref07_Rune.j0; repeat' first
   | (with_reducible exact ih0 _ _ _)
   | (with_reducible exact ih1 _ _ _ _ _)
   | (with_reducible exact ih2 _ _ _ _ _ _)
   | (with_reducible exact ih3 _ _ _ _)
   | (with_reducible exact ih4 _ _ _ _)
   | (with_reducible exact LeO.refl _)
   | (with_reducible exact LeO.none _)
   | (with_reducible refine LeO.ite ?_ ?_)
   | (with_reducible refine LeO.bind ?_ (fun _ => ?_))
   | exact ih0 _ _ _
   | exact ih1 _ _ _ _ _
   | exact ih2 _ _ _ _ _ _
   | exact ih3 _ _ _ _
   | exact ih4 _ _ _ _
   | exact LeO.none _
   | refine LeO.ite ?_ ?_
   | refine LeO.bind ?_ (fun _ => ?_)
  ·intro y0 y1 y2 y3 y4; unfold paymasterref07_Rune.j3; repeat' first
   | (with_reducible exact ih0 _ _ _)
   | (with_reducible exact ih1 _ _ _ _ _)
   | (with_reducible exact ih2 _ _ _ _ _ _)
   | (with_reducible exact ih3 _ _ _ _)
   | (with_reducible exact ih4 _ _ _ _)
   | (with_reducible exact LeO.refl _)
   | (with_reducible exact LeO.none _)
   | (with_reducible refine LeO.ite ?_ ?_)
   | (with_reducible refine LeO.bind ?_ (fun _ => ?_))
   | exact ih0 _ _ _
   | exact ih1 _ _ _ _ _
   | exact ih2 _ _ _ _ _ _
   | exact ih3 _ _ _ _
   | exact ih4 _ _ _ _
   | exact LeO.none _
   | refine LeO.ite ?_ ?_
   | refine LeO.bind ?_ (fun _ => ?_)
  ·intro y0 y1 y2 y3 y4 y5; unfold paymasterref07_Rune.l0; repeat' first
   | (with_reducible exact ih0 _ _ _)
   | (with_reducible exact ih1 _ _ _ _ _)
   | (with_reducible exact ih2 _ _ _ _ _ _)
   | (with_reducible exact ih3 _ _ _ _)
   | (with_reducible exact ih4 _ _ _ _)
   | (with_reducible exact LeO.refl _)
   | (with_reducible exact LeO.none _)
   | (with_reducible refine LeO.ite ?_ ?_)
   | (with_reducible refine LeO.bind ?_ (fun _ => ?_))
   | exact ih0 _ _ _
   | exact ih1 _ _ _ _ _
   | exact ih2 _ _ _ _ _ _
   | exact ih3 _ _ _ _
   | exact ih4 _ _ _ _
   | exact LeO.none _
   | refine LeO.ite ?_ ?_
   | refine LeO.bind ?_ (fun _ => ?_)
  ·intro y0 y1 y2 y3; unfold paymasterref07_Rune.j1; repeat' first
   | (with_reducible exact ih0 _ _ _)
   | (with_reducible exact ih1 _ _ _ _ _)
   | (with_reducible exact ih2 _ _ _ _ _ _)
   | (with_reducible exact ih3 _ _ _ _)
   | (with_reducible exact ih4 _ _ _ _)
   | (with_reducible exact LeO.refl _)
   | (with_reducible exact LeO.none _)
   | (with_reducible refine LeO.ite ?_ ?_)
   | (with_reducible refine LeO.bind ?_ (fun _ => ?_))
   | exact ih0 _ _ _
   | exact ih1 _ _ _ _ _
   | exact ih2 _ _ _ _ _ _
   | exact ih3 _ _ _ _
   | exact ih4 _ _ _ _
   | exact LeO.none _
   | refine LeO.ite ?_ ?_
   | refine LeO.bind ?_ (fun _ => ?_)
  ·intro y0 y1 y2 y3; unfold paymasterref07_Rune.j2; repeat' first
   | (with_reducible exact ih0 _ _ _)
   | (with_reducible exact ih1 _ _ _ _ _)
   | (with_reducible exact ih2 _ _ _ _ _ _)
   | (with_reducible exact ih3 _ _ _ _)
   | (with_reducible exact ih4 _ _ _ _)
   | (with_reducible exact LeO.refl _)
   | (with_reducible exact LeO.none _)
   | (with_reducible refine LeO.ite ?_ ?_)
   | (with_reducible refine LeO.bind ?_ (fun _ => ?_))
   | exact ih0 _ _ _
   | exact ih1 _ _ _ _ _
   | exact ih2 _ _ _ _ _ _
   | exact ih3 _ _ _ _
   | exact ih4 _ _ _ _
   | exact LeO.none _
   | refine LeO.ite ?_ ?_
   | refine LeO.bind ?_ (fun _ => ?_)
theorem paymasterref07_Rune.mono : ∀ a0 a1 k, LeO (paymasterref07_Rune.f k a0 a1) (paymasterref07_Rune.f (k + 1) a0 a1) := by
 intro a0 a1 k; obtain ⟨ih0, ih1, ih2, ih3, ih4⟩ := paymasterref07_Rune.mono_l k; unfold paymasterref07_Rune.f
 repeat' first
   | (with_reducible exact ih0 _ _ _)
   | (with_reducible exact ih1 _ _ _ _ _)
   | (with_reducible exact ih2 _ _ _ _ _ _)
   | (with_reducible exact ih3 _ _ _ _)
   | (with_reducible exact ih4 _ _ _ _)
   | (with_reducible exact LeO.refl _)
   | (with_reducible exact LeO.none _)
   | (with_reducible refine LeO.ite ?_ ?_)
   | (with_reducible refine LeO.bind ?_ (fun _ => ?_))
   | exact ih0 _ _ _
   | exact ih1 _ _ _ _ _
   | exact ih2 _ _ _ _ _ _
   | exact ih3 _ _ _ _
   | exact ih4 _ _ _ _
   | exact LeO.none _
   | refine LeO.ite ?_ ?_
   | refine LeO.bind ?_ (fun _ => ?_)
set_option maxHeartbeats 8000000 in
set_option maxRecDepth 100000 in
theorem paymasterref07_Rune.calls (k : Nat) (a0 : ByteArray) (a1 : Int) (r1 : Int) (r2 : Int) (w : World) (h : paymasterref07_Rune.f k a0 a1 = some (r1, r2)) :
  Calls Tryd.prog 59 #[.string a0, .int .i64 a1] w fun e w' => e = .returned (.tuple #[.int .i64 r1, .int .i64 r2]) ∧ Drawn0 w w' := by
 have H : (if a1 < 0 then (paymasterref07_Rune.j0 k a0 a1 true) else (paymasterref07_Rune.j0 k a0 a1 (decide (a1 ≥ (a0.size : Int))))) = some (r1, r2) := h; clear h; have HC3 := Aside0.mk H; clear H; go_enter Tryd.func59, Tryd.ntmps59
 go_upto_region 1 with (fail)
 go_cut [18] (fun v18 wc => ∃ (kq : Nat) (x18_2 : Bool), v18 = .bool x18_2 ∧ Aside0 (paymasterref07_Rune.j0 kq a0 a1 x18_2 = some (r1, r2)) ∧ Aside0 (kq ≤ k) ∧ Drawn0 w wc)
 case first =>
  have H := HC3.out; clear HC3
  by_cases c4 : a1 < 0
  ·rw [if_pos c4] at H; have c4b0 : decide (a1 < 0) = true := decide_eq_true c4; clear c4; (first | rw [c4b0] | (simp only [i64_w, i32_w]; rw [c4b0]) | skip)
   have H' := Aside0.mk H; clear H; go_wp2; go_meet
   case rel => exact ⟨_, (true), zv5, H', ⟨zv3o⟩, zv9⟩
  ·rw [if_neg c4] at H; have c4b0 : decide (a1 < 0) = false := decide_eq_false c4; clear c4; (first | rw [c4b0] | (simp only [i64_w, i32_w]; rw [c4b0]) | skip)
   have H' := Aside0.mk H; clear H; go_wp2; go_meet
   case rel => exact ⟨_, (decide (a1 ≥ (a0.size : Int))), zv5, H', ⟨zv3o⟩, zv9⟩
 case rest =>
  clear HC3; try clear p2
  try clear c4
  try clear c4b0
  obtain ⟨kq, x18_2, rfl, HA, HJ2, ⟨mc2, rfl⟩⟩ := hcut; cases kq with
  | zero => exact absurd HA.out (by simp [paymasterref07_Rune.j0])
  | succ kj2 =>
   have H := HA.out; clear HA; simp only [paymasterref07_Rune.j0] at H
   by_cases c5 : x18_2 = true
   ·subst c5; have H1 : (some (0, 0)) = some (r1, r2) := by rw [if_pos rfl] at H; exact H
    clear H; have H := H1; clear H1; simp only [Option.some.injEq, Prod.mk.injEq] at H; obtain ⟨rfl, rfl⟩ := H; go_wp2
    go_ret2
    exact ⟨zv5, zv9⟩
   ·replace c5 := Bool.eq_false_iff.mpr c5; subst c5; have H1 : (if 0 ≤ a1 then (if a1 < (a0.size : Int) then (if (wrap64 (bt a0 a1)) < 128 then (some (wrap64 (bt a0 a1), 1)) else (if (wrap64 (bt a0 a1)) ≥ 192 then (paymasterref07_Rune.j1 kj2 a0 a1 (wrap64 (bt a0 a1)) (decide ((wrap64 (bt a0 a1)) < 224))) else (paymasterref07_Rune.j1 kj2 a0 a1 (wrap64 (bt a0 a1)) false))) else (none)) else (none)) = some (r1, r2) := by rw [if_neg (show ¬ (false = true) by decide)] at H; exact H
    clear H; have H := H1; clear H1
    by_cases c6 : 0 ≤ a1
    ·rw [if_pos c6] at H; have c6b0 : decide (0 ≤ a1) = true := decide_eq_true c6; clear c6
     by_cases c7 : a1 < (a0.size : Int)
     ·rw [if_pos c7] at H; have c7b0 : decide (a1 < (a0.size : Int)) = true := decide_eq_true c7; clear c7; have HC9 := Aside0.mk H; clear H; have p8 : 0 ≤ (a1 : Int) := of_decide_eq_true zv6; have q8 : a1 < (a0.size : Int) := of_decide_eq_true zv6; have hx8 := bt_at a0 a1; replace p8 := eq_true p8; replace q8 := eq_true q8
      go_upto_block 0 with (fail)
      go_cut [7, 8, 9] (fun v7 v8 v9 wc => ∃ (kq : Nat) (x7_8 : Int) (x8_8 : Int) (x9_8 : Int), v7 = .int .i64 x7_8 ∧ v8 = .int .i64 x8_8 ∧ v9 = .int .i64 x9_8 ∧ Aside0 (paymasterref07_Rune.j3 kq a0 a1 x7_8 x8_8 x9_8 = some (r1, r2)) ∧ Aside0 (kq ≤ kj2) ∧ Drawn0 w wc)
      case first =>
       have H := HC9.out; clear HC9
       by_cases c10 : (wrap64 (bt a0 a1)) < 128
       ·rw [if_pos c10] at H; have c10b0 : decide ((wrap64 (bt a0 a1)) < 128) = true := decide_eq_true c10; clear c10; (first | rw [c10b0] | (simp only [i64_w, i32_w]; rw [c10b0]) | skip)
        simp only [Option.some.injEq, Prod.mk.injEq] at H; obtain ⟨rfl, rfl⟩ := H; go_wp2
        go_ret2
        exact ⟨zv5, zv9⟩
       ·rw [if_neg c10] at H; have c10b0 : decide ((wrap64 (bt a0 a1)) < 128) = false := decide_eq_false c10; clear c10; (first | rw [c10b0] | (simp only [i64_w, i32_w]; rw [c10b0]) | skip)
        have HC11 := Aside0.mk H; clear H
        go_upto_region 8 with (fail)
        go_cut [27] (fun v27 wc => ∃ (kq : Nat) (x27_10 : Bool), v27 = .bool x27_10 ∧ Aside0 (paymasterref07_Rune.j1 kq a0 a1 (wrap64 (bt a0 a1)) x27_10 = some (r1, r2)) ∧ Aside0 (kq ≤ kj2) ∧ Drawn0 w wc)
        case first =>
         have H := HC11.out; clear HC11
         by_cases c12 : (wrap64 (bt a0 a1)) ≥ 192
         ·rw [if_pos c12] at H; have c12b0 : decide (192 ≤ (wrap64 (bt a0 a1))) = true := decide_eq_true c12; clear c12; (first | rw [c12b0] | (simp only [i64_w, i32_w]; rw [c12b0]) | skip)
          have H' := Aside0.mk H; clear H; go_wp2; go_meet
          case rel => exact ⟨_, (decide ((wrap64 (bt a0 a1)) < 224)), zv5, H', ⟨(by have := HJ2.out; first | omega | exact Nat.le_refl _)⟩, zv9⟩
         ·rw [if_neg c12] at H; have c12b0 : decide (192 ≤ (wrap64 (bt a0 a1))) = false := decide_eq_false c12; clear c12; (first | rw [c12b0] | (simp only [i64_w, i32_w]; rw [c12b0]) | skip)
          have H' := Aside0.mk H; clear H; go_wp2; go_meet
          case rel => exact ⟨_, (false), zv5, H', ⟨(by have := HJ2.out; first | omega | exact Nat.le_refl _)⟩, zv9⟩
        case rest =>
         clear HC11; try clear c1
         try clear c2
         try clear p2
         try clear c4
         try clear c4b0
         try clear c5
         try clear c6
         try clear c6b0
         try clear p6
         try clear c7
         try clear c7b0
         try clear p8
         try clear q8
         try clear hx8
         try clear c10
         try clear c10b0
         try clear c12
         try clear c12b0
         try clear p2
         try clear p8
         try clear q8
         obtain ⟨kq, x27_10, rfl, HA, HJ10, ⟨mc10, rfl⟩⟩ := hcut; cases kq with
         | zero => exact absurd HA.out (by simp [paymasterref07_Rune.j1])
         | succ kj10 =>
          have H := HA.out; clear HA; simp only [paymasterref07_Rune.j1] at H
          by_cases c13 : x27_10 = true
          ·subst c13; have H1 : (paymasterref07_Rune.j3 kj10 a0 a1 2 (wrap64 ((wrap64 (bt a0 a1)) - 192)) 128) = some (r1, r2) := by rw [if_pos rfl] at H; exact H
           clear H; have H := H1; clear H1; have H' := Aside0.mk H; clear H; go_wp2; go_meet
           case rel => exact ⟨_, (2), (wrap64 ((wrap64 (bt a0 a1)) - 192)), (128), zv5, zv5, zv5, H', ⟨zv35⟩, zv9⟩
          ·replace c13 := Bool.eq_false_iff.mpr c13; subst c13; have H1 : (if (wrap64 (bt a0 a1)) ≥ 224 then (paymasterref07_Rune.j2 kj10 a0 a1 (wrap64 (bt a0 a1)) (decide ((wrap64 (bt a0 a1)) < 240))) else (paymasterref07_Rune.j2 kj10 a0 a1 (wrap64 (bt a0 a1)) false)) = some (r1, r2) := by rw [if_neg (show ¬ (false = true) by decide)] at H; exact H
           clear H; have H := H1; clear H1; have HC14 := Aside0.mk H; clear H
           go_upto_region 10 with (fail)
           go_cut [36] (fun v36 wc => ∃ (kq : Nat) (x36_13 : Bool), v36 = .bool x36_13 ∧ Aside0 (paymasterref07_Rune.j2 kq a0 a1 (wrap64 (bt a0 a1)) x36_13 = some (r1, r2)) ∧ Aside0 (kq ≤ kj10) ∧ Drawn0 w wc)
           case first =>
            have H := HC14.out; clear HC14
            by_cases c15 : (wrap64 (bt a0 a1)) ≥ 224
            ·rw [if_pos c15] at H; have c15b0 : decide (224 ≤ (wrap64 (bt a0 a1))) = true := decide_eq_true c15; clear c15; (first | rw [c15b0] | (simp only [i64_w, i32_w]; rw [c15b0]) | skip)
             have H' := Aside0.mk H; clear H; go_wp2; go_meet
             case rel => exact ⟨_, (decide ((wrap64 (bt a0 a1)) < 240)), zv5, H', ⟨zv35⟩, zv9⟩
            ·rw [if_neg c15] at H; have c15b0 : decide (224 ≤ (wrap64 (bt a0 a1))) = false := decide_eq_false c15; clear c15; (first | rw [c15b0] | (simp only [i64_w, i32_w]; rw [c15b0]) | skip)
             have H' := Aside0.mk H; clear H; go_wp2; go_meet
             case rel => exact ⟨_, (false), zv5, H', ⟨zv35⟩, zv9⟩
           case rest =>
            clear HC14; try clear c1
            try clear c2
            try clear p2
            try clear c4
            try clear c4b0
            try clear c5
            try clear c6
            try clear c6b0
            try clear p6
            try clear c7
            try clear c7b0
            try clear p8
            try clear q8
            try clear hx8
            try clear c10
            try clear c10b0
            try clear c12
            try clear c12b0
            try clear c13
            try clear c15
            try clear c15b0
            try clear p2
            try clear p6
            try clear p8
            try clear q8
            obtain ⟨kq, x36_13, rfl, HA, HJ13, ⟨mc13, rfl⟩⟩ := hcut; cases kq with
            | zero => exact absurd HA.out (by simp [paymasterref07_Rune.j2])
            | succ kj13 =>
             have H := HA.out; clear HA; simp only [paymasterref07_Rune.j2] at H
             by_cases c16 : x36_13 = true
             ·subst c16; have H1 : (paymasterref07_Rune.j3 kj13 a0 a1 3 (wrap64 ((wrap64 (bt a0 a1)) - 224)) 2048) = some (r1, r2) := by rw [if_pos rfl] at H; exact H
              clear H; have H := H1; clear H1; have H' := Aside0.mk H; clear H; go_wp2; go_meet
              case rel => exact ⟨_, (3), (wrap64 ((wrap64 (bt a0 a1)) - 224)), (2048), zv5, zv5, zv5, H', ⟨zv3r⟩, zv9⟩
             ·replace c16 := Bool.eq_false_iff.mpr c16; subst c16; have H1 : (if (wrap64 (bt a0 a1)) ≥ 240 then (if (wrap64 (bt a0 a1)) < 248 then (paymasterref07_Rune.j3 kj13 a0 a1 4 (wrap64 ((wrap64 (bt a0 a1)) - 240)) 65536) else (some (0, 0))) else (some (0, 0))) = some (r1, r2) := by rw [if_neg (show ¬ (false = true) by decide)] at H; exact H
              clear H; have H := H1; clear H1
              by_cases c17 : (wrap64 (bt a0 a1)) ≥ 240
              ·rw [if_pos c17] at H; have c17b0 : decide (240 ≤ (wrap64 (bt a0 a1))) = true := decide_eq_true c17; clear c17
               by_cases c18 : (wrap64 (bt a0 a1)) < 248
               ·rw [if_pos c18] at H; have c18b0 : decide ((wrap64 (bt a0 a1)) < 248) = true := decide_eq_true c18; clear c18; have H' := Aside0.mk H; clear H; go_wp2; go_meet
                case rel => exact ⟨_, (4), (wrap64 ((wrap64 (bt a0 a1)) - 240)), (65536), zv5, zv5, zv5, H', ⟨zv3r⟩, zv9⟩
               ·rw [if_neg c18] at H; have c18b0 : decide ((wrap64 (bt a0 a1)) < 248) = false := decide_eq_false c18; clear c18; simp only [Option.some.injEq, Prod.mk.injEq] at H; obtain ⟨rfl, rfl⟩ := H; go_wp2
                go_ret2
                exact ⟨zv5, zv9⟩
              ·rw [if_neg c17] at H; have c17b0 : decide (240 ≤ (wrap64 (bt a0 a1))) = false := decide_eq_false c17; clear c17; simp only [Option.some.injEq, Prod.mk.injEq] at H; obtain ⟨rfl, rfl⟩ := H; go_wp2
               go_ret2
               exact ⟨zv5, zv9⟩
      case rest =>
       clear HC9; try clear c1
       try clear c2
       try clear p2
       try clear c4
       try clear c4b0
       try clear c5
       try clear c6
       try clear c6b0
       try clear p6
       try clear c7
       try clear c7b0
       try clear p8
       try clear q8
       try clear hx8
       try clear c10
       try clear c10b0
       try clear c12
       try clear c12b0
       try clear c13
       try clear c15
       try clear c15b0
       try clear c16
       try clear c17
       try clear c17b0
       try clear c18
       try clear c18b0
       try clear p2
       try clear p6
       try clear p8
       try clear q8
       obtain ⟨kq, x7_8, x8_8, x9_8, rfl, rfl, rfl, HA, HJ8, ⟨mc8, rfl⟩⟩ := hcut; cases kq with
       | zero => exact absurd HA.out (by simp [paymasterref07_Rune.j3])
       | succ kj8 =>
        have H := HA.out; clear HA; simp only [paymasterref07_Rune.j3] at H; have H' := Aside0.mk H; clear H; go_wp2
        go_loopg [8, 10] kj8 (fun kq v8 v10 w' => ∃ (x8_3 : Int) (x10_3 : Int), v8 = .int .i64 x8_3 ∧ v10 = .int .i64 x10_3 ∧ Aside0 (paymasterref07_Rune.l0 kq a0 a1 x7_8 x8_3 x9_8 x10_3 = some (r1, r2)) ∧ Aside0 (kq ≤ kj8) ∧ Drawn0 w w')
        case atStart => exact ⟨(x8_8), (1), zv5, zv5, H', ⟨Nat.le_refl _⟩, zv9⟩
        case round =>
         clear H'; try clear c1
         try clear c2
         try clear p2
         try clear c4
         try clear c4b0
         try clear c5
         try clear c6
         try clear c6b0
         try clear p6
         try clear c7
         try clear c7b0
         try clear c8
         try clear p8
         try clear q8
         try clear hx8
         try clear c10
         try clear c10b0
         try clear c12
         try clear c12b0
         try clear c13
         try clear c15
         try clear c15b0
         try clear c16
         try clear c17
         try clear c17b0
         try clear c18
         try clear c18b0
         try clear p2
         try clear p6
         try clear p8
         try clear q8
         obtain ⟨x8_3, x10_3, rfl, rfl, HA, HK3, ⟨m3, rfl⟩⟩ := hrel; cases gk with
         | zero => exact absurd HA.out (by simp [paymasterref07_Rune.l0])
         | succ k3 =>
          have H := HA.out; clear HA; simp only [paymasterref07_Rune.l0] at H
          by_cases c19 : x10_3 < x7_8
          ·rw [if_pos c19] at H; have c19b0 : decide (x10_3 < x7_8) = true := decide_eq_true c19; clear c19
           by_cases c20 : (wrap64 (a1 + x10_3)) ≥ (a0.size : Int)
           ·rw [if_pos c20] at H; have c20b0 : decide ((a0.size : Int) ≤ (wrap64 (a1 + x10_3))) = true := decide_eq_true c20; clear c20; simp only [Option.some.injEq, Prod.mk.injEq] at H; obtain ⟨rfl, rfl⟩ := H; go_wp2
            go_ret2
            exact ⟨zv5, zv9⟩
           ·rw [if_neg c20] at H; have c20b0 : decide ((a0.size : Int) ≤ (wrap64 (a1 + x10_3))) = false := decide_eq_false c20; clear c20; obtain ⟨ji21, hji21⟩ : ∃ j_ : Int, (wrap64 (a1 + x10_3)) = j_ := ⟨_, rfl⟩
            replace H : (if 0 ≤ (ji21) then (if (ji21) < (a0.size : Int) then (if (bt a0 (ji21)) < 128 then (some (0, 0)) else (if (bt a0 (ji21)) ≥ 192 then (some (0, 0)) else (paymasterref07_Rune.l0 k3 a0 a1 x7_8 (wrap64 ((wrap64 ((wrap64 (64 * x8_3)) + (wrap64 (bt a0 (ji21))))) - 128)) x9_8 (wrap64 (x10_3 + 1))))) else (none)) else (none)) = some (r1, r2) := by first | (rw [hji21] at H; exact H) | (simp only [hji21] at H ⊢; exact H)
            (try rw [hji21] at c20b0)
            have hji21w : (IntKind.i64.wrap (a1 + x10_3)) = ji21 := (i64_w _).trans hji21
            by_cases c22 : 0 ≤ (ji21)
            ·rw [if_pos c22] at H; have c22b0 : decide (0 ≤ (ji21)) = true := decide_eq_true c22; clear c22
             by_cases c23 : (ji21) < (a0.size : Int)
             ·rw [if_pos c23] at H; have c23b0 : decide ((ji21) < (a0.size : Int)) = true := decide_eq_true c23; clear c23
              by_cases c25 : (bt a0 (ji21)) < 128
              ·rw [if_pos c25] at H; have c25b0 : decide ((bt a0 (ji21)) < 128) = true := decide_eq_true c25; clear c25; simp only [Option.some.injEq, Prod.mk.injEq] at H; obtain ⟨rfl, rfl⟩ := H; have p24 : 0 ≤ ((ji21) : Int) := of_decide_eq_true zv6; have q24 : (ji21) < (a0.size : Int) := of_decide_eq_true zv6; have hx24 := bt_at a0 (ji21); replace p24 := eq_true p24; replace q24 := eq_true q24; go_wp2
               go_ret2
               exact ⟨zv2q, zv9⟩
              ·rw [if_neg c25] at H; have c25b0 : decide ((bt a0 (ji21)) < 128) = false := decide_eq_false c25; clear c25
               by_cases c27 : (bt a0 (ji21)) ≥ 192
               ·rw [if_pos c27] at H; have c27b0 : decide (192 ≤ (bt a0 (ji21))) = true := decide_eq_true c27; clear c27; simp only [Option.some.injEq, Prod.mk.injEq] at H; obtain ⟨rfl, rfl⟩ := H; have p24 : 0 ≤ ((ji21) : Int) := of_decide_eq_true zv6; have q24 : (ji21) < (a0.size : Int) := of_decide_eq_true zv6; have hx24 := bt_at a0 (ji21); replace p24 := eq_true p24; replace q24 := eq_true q24; have p26 : 0 ≤ ((ji21) : Int) := of_decide_eq_true zv6; have q26 : (ji21) < (a0.size : Int) := of_decide_eq_true zv6; have hx26 := bt_at a0 (ji21); replace p26 := eq_true p26; replace q26 := eq_true q26; go_wp2
                go_ret2
                exact ⟨zv2q, zv9⟩
               ·rw [if_neg c27] at H; have c27b0 : decide (192 ≤ (bt a0 (ji21))) = false := decide_eq_false c27; clear c27; have H' := Aside0.mk H; clear H; have p24 : 0 ≤ ((ji21) : Int) := of_decide_eq_true zv6; have q24 : (ji21) < (a0.size : Int) := of_decide_eq_true zv6; have hx24 := bt_at a0 (ji21); replace p24 := eq_true p24; replace q24 := eq_true q24; have p26 : 0 ≤ ((ji21) : Int) := of_decide_eq_true zv6; have q26 : (ji21) < (a0.size : Int) := of_decide_eq_true zv6; have hx26 := bt_at a0 (ji21); replace p26 := eq_true p26; replace q26 := eq_true q26; have p28 : 0 ≤ ((ji21) : Int) := of_decide_eq_true zv6; have q28 : (ji21) < (a0.size : Int) := of_decide_eq_true zv6; have hx28 := bt_at a0 (ji21); replace p28 := eq_true p28; replace q28 := eq_true q28; go_wp2; go_roundg k3
                case measure => have := HJ2.out; have := HJ8.out; have := HK3.out; omega
                case rel => exact ⟨(wrap64 ((wrap64 ((wrap64 (64 * x8_3)) + (wrap64 (bt a0 (ji21))))) - 128)), (wrap64 (x10_3 + 1)), zv2q, zv5, H', ⟨(by have := HJ2.out; have := HJ8.out; have := HK3.out; omega)⟩, zv9⟩
             ·rw [if_neg c23] at H; exact absurd H zv10
            ·rw [if_neg c22] at H; exact absurd H zv10
          ·rw [if_neg c19] at H; have c19b0 : decide (x10_3 < x7_8) = false := decide_eq_false c19; clear c19
           by_cases c29 : x8_3 < x9_8
           ·rw [if_pos c29] at H; have c29b0 : decide (x8_3 < x9_8) = true := decide_eq_true c29; clear c29; simp only [Option.some.injEq, Prod.mk.injEq] at H; obtain ⟨rfl, rfl⟩ := H; go_wp2
            go_ret2
            exact ⟨zv5, zv9⟩
           ·rw [if_neg c29] at H; have c29b0 : decide (x8_3 < x9_8) = false := decide_eq_false c29; clear c29
            by_cases c30 : x8_3 > 1114111
            ·rw [if_pos c30] at H; have c30b0 : decide (1114111 < x8_3) = true := decide_eq_true c30; clear c30; simp only [Option.some.injEq, Prod.mk.injEq] at H; obtain ⟨rfl, rfl⟩ := H; go_wp2
             go_ret2
             exact ⟨zv5, zv9⟩
            ·rw [if_neg c30] at H; have c30b0 : decide (1114111 < x8_3) = false := decide_eq_false c30; clear c30
             by_cases c31 : x8_3 ≥ 55296
             ·rw [if_pos c31] at H; have c31b0 : decide (55296 ≤ x8_3) = true := decide_eq_true c31; clear c31
              by_cases c32 : x8_3 < 57344
              ·rw [if_pos c32] at H; have c32b0 : decide (x8_3 < 57344) = true := decide_eq_true c32; clear c32; simp only [Option.some.injEq, Prod.mk.injEq] at H; obtain ⟨rfl, rfl⟩ := H; go_wp2
               go_ret2
               exact ⟨zv5, zv9⟩
              ·rw [if_neg c32] at H; have c32b0 : decide (x8_3 < 57344) = false := decide_eq_false c32; clear c32; simp only [Option.some.injEq, Prod.mk.injEq] at H; obtain ⟨rfl, rfl⟩ := H; go_wp2
               go_ret2
               exact ⟨zv5, zv9⟩
             ·rw [if_neg c31] at H; have c31b0 : decide (55296 ≤ x8_3) = false := decide_eq_false c31; clear c31; simp only [Option.some.injEq, Prod.mk.injEq] at H; obtain ⟨rfl, rfl⟩ := H; go_wp2
              go_ret2
              exact ⟨zv5, zv9⟩
     ·rw [if_neg c7] at H; exact absurd H zv10
    ·rw [if_neg c6] at H; exact absurd H zv10
def paymasterref09_Runes.l0 : Nat → ByteArray → List Int → Int → Option (List Int × Int)
 | 0, _, _, _ => none
 | k + 1, x0, x4, x5 => if x5 < (x0.size : Int) then ((paymasterref07_Rune.f k x0 x5).bind fun bt108 => (if bt108.2 = 0 then (some (([] : List Int), 90)) else (if x4.length < 35184372088832 then (paymasterref09_Runes.l0 k x0 (x4 ++ [wrap32 (bt108.1)]) (wrap64 (x5 + bt108.2))) else (none)))) else (some (x4, 0))
def paymasterref09_Runes.f (k : Nat) (a0 : ByteArray) : Option (List Int × Int) := paymasterref09_Runes.l0 k a0 ([] : List Int) 0
theorem paymasterref09_Runes.mono_l : ∀ k, (∀ y0 y1 y2, LeO (paymasterref09_Runes.l0 k y0 y1 y2) (paymasterref09_Runes.l0 (k + 1) y0 y1 y2))
 | 0 => fun _ _ _ r h => by simp [paymasterref09_Runes.l0] at h
 | k + 1 => by
  have ih0 := paymasterref09_Runes.mono_l k
  ·intro y0 y1 y2; unfold paymasterref09_Runes.l0; repeat' first
   | (with_reducible exact ih0 _ _ _)
   | (with_reducible exact paymasterref07_Rune.mono _ _ _)
   | (with_reducible exact LeO.refl _)
   | (with_reducible exact LeO.none _)
   | (with_reducible refine LeO.ite ?_ ?_)
   | (with_reducible refine LeO.bind ?_ (fun _ => ?_))
   | exact ih0 _ _ _
   | exact paymasterref07_Rune.mono _ _ _
   | exact LeO.none _
   | refine LeO.ite ?_ ?_
   | refine LeO.bind ?_ (fun _ => ?_)
theorem paymasterref09_Runes.mono : ∀ a0 k, LeO (paymasterref09_Runes.f k a0) (paymasterref09_Runes.f (k + 1) a0) := by
 intro a0 k; have ih0 := paymasterref09_Runes.mono_l k; unfold paymasterref09_Runes.f
 repeat' first
   | (with_reducible exact ih0 _ _ _)
   | (with_reducible exact paymasterref07_Rune.mono _ _ _)
   | (with_reducible exact LeO.refl _)
   | (with_reducible exact LeO.none _)
   | (with_reducible refine LeO.ite ?_ ?_)
   | (with_reducible refine LeO.bind ?_ (fun _ => ?_))
   | exact ih0 _ _ _
   | exact paymasterref07_Rune.mono _ _ _
   | exact LeO.none _
   | refine LeO.ite ?_ ?_
   | refine LeO.bind ?_ (fun _ => ?_)
set_option maxHeartbeats 8000000 in
set_option maxRecDepth 100000 in
theorem paymasterref09_Runes.calls (k : Nat) (a0 : ByteArray) (r1 : List Int) (r2 : Int) (w : World) (h : paymasterref09_Runes.f k a0 = some (r1, r2)) :
  Calls Tryd.prog 21 #[.string a0] w fun e w' => ∃ v0_ : Value, e = .returned (.tuple #[v0_, .int .i64 r2]) ∧ Kd.R (Kd.int .i32) 21 w' w.heap.size (fun _ => True) v0_ r1 ∧ Below w.heap.size w w' := by
 have HB := Aside0.mk (Below.refl w.heap.size w); have H : (paymasterref09_Runes.l0 k a0 ([] : List Int) 0) = some (r1, r2) := h; clear h; have H' := Aside0.mk H; clear H; go_enter Tryd.func21, Tryd.ntmps21; go_wp2
 go_loopg [4, 5] k (fun kq v4 v5 w' => ∃ (x4_1 : List Int) (x5_1 : Int), v5 = .int .i64 x5_1 ∧ Aside0 (paymasterref09_Runes.l0 kq a0 x4_1 x5_1 = some (r1, r2)) ∧ Aside0 (kq ≤ k) ∧ Aside0 (Kd.R (Kd.int .i32) 21 w' w.heap.size (fun _ => True) v4 x4_1) ∧ Aside0 (Below w.heap.size w w'))
 case atStart => exact ⟨(([] : List Int)), (0), zv5, H', ⟨Nat.le_refl _⟩, ⟨zvo⟩, ⟨zv0⟩⟩
 case round =>
  clear H'; obtain ⟨x4_1, x5_1, rfl, HA, HK1, HO_4, HB⟩ := hrel; cases gk with
  | zero => exact absurd HA.out (by simp [paymasterref09_Runes.l0])
  | succ k1 =>
   have H := HA.out; clear HA; simp only [paymasterref09_Runes.l0] at H
   by_cases c2 : x5_1 < (a0.size : Int)
   ·rw [if_pos c2] at H; have c2b0 : decide (x5_1 < (a0.size : Int)) = true := decide_eq_true c2; clear c2; replace H := Option.bind_eq_some_iff.mp H; obtain ⟨⟨t108, t109⟩, A30, H⟩ := H; replace H : (if t109 = 0 then (some (([] : List Int), 90)) else (if x4_1.length < 35184372088832 then (paymasterref09_Runes.l0 k1 a0 (x4_1 ++ [wrap32 (t108)]) (wrap64 (x5_1 + t109))) else (none))) = some (r1, r2) := H; have A3 := Aside0.mk A30; clear A30
    by_cases c4 : t109 = 0
    ·rw [if_pos c4] at H; have c4b0 : (t109 == 0) = true := beq_iff_eq.mpr c4; have c4b1 : (t109 != 0) = false := bne_eq_false_iff_eq.mpr c4; clear c4; simp only [Option.some.injEq, Prod.mk.injEq] at H; obtain ⟨rfl, rfl⟩ := H
     go_wp2_with (first | ((with_reducible refine zRl (f := 59) rfl ?_); refine goesL_ (some 15) rfl rfl Tryd.func59 (by kernel_rfl) rfl #[.string a0, .int .i64 x5_1] rfl zv3 ?_; (with_reducible refine (paymasterref07_Rune.calls k1 a0 x5_1 t108 t109 _ A3.out).mono ?_); rintro e w' ⟨rfl, ⟨nd, rfl⟩⟩; refine ⟨_, rfl, ?_⟩))
     go_ret2
     exact ⟨_, zv8, zvo, zv0⟩
    ·rw [if_neg c4] at H; have c4b0 : (t109 == 0) = false := beq_eq_false_iff_ne.mpr c4; have c4b1 : (t109 != 0) = true := bne_iff_ne.mpr c4
     by_cases c5 : x4_1.length < 35184372088832
     ·rw [if_pos c5] at H; have LMc5 := Aside0.mk c5; clear c5; obtain ⟨y110, hy110⟩ : ∃ y_ : List Int, y_ = (x4_1 ++ [wrap32 (t108)]) := ⟨_, rfl⟩
      replace H : (paymasterref09_Runes.l0 k1 a0 y110 (wrap64 (x5_1 + t109))) = some (r1, r2) := by first | (rw [hy110]; with_reducible exact H) | (have H2_ := (Option.bind_some _ _).symm.trans H; rw [hy110]; with_reducible exact H2_) | (have H2_ := (Option.bind_some _ _).symm.trans H; with_reducible exact H2_) | with_reducible exact H | (rw [hy110]; exact H) | exact H
      have Ny110 := Aside0.mk hy110; clear hy110; have H' := Aside0.mk H; clear H
      go_wp2_with (first | ((with_reducible refine zRl (f := 59) rfl ?_); refine goesL_ (some 15) rfl rfl Tryd.func59 (by kernel_rfl) rfl #[.string a0, .int .i64 x5_1] rfl zv3 ?_; (with_reducible refine (paymasterref07_Rune.calls k1 a0 x5_1 t108 t109 _ A3.out).mono ?_); rintro e w' ⟨rfl, ⟨nd, rfl⟩⟩; refine ⟨_, rfl, ?_⟩) | ((with_reducible refine gate_builtin (b := .append) (xs := #[.tmp 20, .tmp 23]) rfl ?_); at_builtin; refine Kd.R_append (Kd.int .i32) (w0 := w) w.heap.size rfl (.tmp 20) (.tmp 23) 22 21 (.int .i32 0) 4 rfl Tryd.underlying22 info21 rfl zvz zv1 u4 x4_1 (wrap32 (t108)) [.int .i32 (wrap32 (t108))] (fun _ => True) (fun _ => False) rfl rfl ?aP (fun _ hk => hk.elim) ?aF ?aO ?aB ?aS ?aL ?_; (case aP => exact rfl); (case aB => exact zv0); (case aF => exact (fun _ _ => trivial)); (case aO => exact (zqr HO_4.out)); (case aS => exact (zRg zv0)); (case aL => have := LMc5.out; omega); intro v111 w6 ho hb hg hat; rw [← Ny110.out] at ho; have n0_ := Aside0.mk (hb); have n1_ := Aside0.mk (ho); clear HB; clear HO_4; have HB := n0_; have HO112 := n1_; clear n0_ n1_; clear ho hb hg hat))
      go_roundg k1
      case measure => have := HK1.out; omega
      case rel => exact ⟨(y110), (wrap64 (x5_1 + t109)), zv5, H', ⟨zv2g⟩, ⟨(by (with_reducible repeat (first | apply Kd.R_alloc | apply Kd.R_drewN | apply Kd.R_drew)); exact HO112.out)⟩, ⟨zv0⟩⟩
     ·rw [if_neg c5] at H; exact absurd H zv10
   ·rw [if_neg c2] at H; have c2b0 : decide (x5_1 < (a0.size : Int)) = false := decide_eq_false c2; clear c2; simp only [Option.some.injEq, Prod.mk.injEq] at H; obtain ⟨rfl, rfl⟩ := H; go_wp2
    go_ret2
    exact ⟨_, zv8, (by (with_reducible repeat (first | apply Kd.R_alloc | apply Kd.R_drewN | apply Kd.R_drew)); exact HO_4.out), zv0⟩
end Go.Proofs.YtpkjpiphjdpegaaDoor.P
namespace Go.Proofs.YtpkjpiphjdpegaaDoor.P
open Go.RowKit Go.Proofs.YtpkjpiphjdpegaaDoorW.PrintWords Go.Proofs.YtpkjpiphjdpegaaDoorW.PrintLast Go.Proofs.YtpkjpiphjdpegaaDoorW.PrintMore
set_option linter.unusedVariables false
set_option linter.unusedSimpArgs false
def nb (s : ByteArray) : List Int := s.data.toList.map fun x => (x.toNat : Int)
theorem nb_str (s : ByteArray) : strOfNums (nb s) = s := by
 unfold nb strOfNums; rw [List.map_map]
 have : s.data.toList.map ((fun n : Int => UInt8.ofNat n.toNat) ∘ fun x : UInt8 => (x.toNat : Int)) = s.data.toList := by
  conv => rhs; rw [← List.map_id s.data.toList]
  refine List.map_congr_left fun x _ => ?_
  simp
 rw [this]
theorem nb_length (s : ByteArray) : (nb s).length = s.size := by
 unfold nb; rw [List.length_map]; rfl
theorem bt_nb (s : ByteArray) (i : Nat) : bt s (i : Int) = (nb s).getD i 0 := by
 unfold bt nb; rw [List.getD_eq_getElem?_getD, List.getElem?_map]
 by_cases h : i < s.size
 ·have h' : ((i : Int)).toNat < s.size := by omega
  rw [dif_pos h', List.getElem?_eq_getElem (by simpa using h)]; simp only [Option.map_some, Option.getD_some, Array.getElem_toList]; rfl
 ·have h' : ¬ ((i : Int)).toNat < s.size := by omega
  rw [dif_neg h', List.getElem?_eq_none (by simpa using Nat.le_of_not_lt h)]; rfl
end Go.Proofs.YtpkjpiphjdpegaaDoor.P
namespace Go.Proofs.YtpkjpiphjdpegaaDoor.P
open Go.RowKit Go.Proofs.YtpkjpiphjdpegaaDoorW.PrintWords
set_option linter.unusedVariables false
set_option linter.unusedSimpArgs false
theorem wrap64_in (n : Int) (h : -9223372036854775808 ≤ n ∧ n ≤ 9223372036854775807) : wrap64 n = n := by unfold wrap64; omega
def nbAt (s : ByteArray) (p : Nat) : Nat := (s.get! p).toNat
theorem nbAt_lt (s : ByteArray) (p : Nat) : nbAt s p < 256 := (s.get! p).toNat_lt
theorem bt_nbAt (s : ByteArray) (p : Nat) (h : p < s.size) : bt s (p : Int) = (nbAt s p : Int) := by
 unfold bt nbAt; rw [Int.toNat_natCast, dif_pos h]
 congr 2
 simp [ByteArray.get!, getElem!_pos, h]; rfl
def contAt (s : ByteArray) (p : Nat) : Bool := decide (p < s.size) && (nbAt s p / 64 == 2)
def fits (v least many : Int) : Int × Int := if v < least ∨ v > 1114111 ∨ (v ≥ 55296 ∧ v < 57344) then (0, 0) else (v, many)
theorem rune_end (k : Nat) (s : ByteArray) (p m v x : Int) : paymasterref07_Rune.l0 (k + 1) s p m v x m = some (fits v x m) := by
 rw [paymasterref07_Rune.l0, if_neg (Int.lt_irrefl m)]; unfold fits
 by_cases h1 : v < x
 ·rw [if_pos h1, if_pos (.inl h1)]
 ·rw [if_neg h1]
  by_cases h2 : v > 1114111
  ·rw [if_pos h2, if_pos (.inr (.inl h2))]
  ·rw [if_neg h2]
   by_cases h3 : v ≥ 55296
   ·rw [if_pos h3]
    by_cases h4 : v < 57344
    ·rw [if_pos h4, if_pos (.inr (.inr ⟨h3, h4⟩))]
    ·rw [if_neg h4, if_neg zv1]
   ·rw [if_neg h3, if_neg zv1]
theorem rune_step (k : Nat) (s : ByteArray) (p : Nat) (m v x : Int) (i : Nat) (him : (i : Int) < m) (hi : i < 8) (hp : p < 1000000000000) (h0 : 0 ≤ v) (h1 : v ≤ 2000000) :
  paymasterref07_Rune.l0 (k + 1) s p m v x i = if contAt s (p + i) = true then paymasterref07_Rune.l0 k s p m (64 * v + (nbAt s (p + i) % 64 : Nat)) x ((i + 1 : Nat) : Int) else some (0, 0) := by
 have e1 : wrap64 ((p : Int) + (i : Int)) = ((p + i : Nat) : Int) := by rw [wrap64_in _ zv1]; push_cast; rfl
 rw [paymasterref07_Rune.l0, if_pos him, e1]
 by_cases hs : p + i < s.size
 ·rw [if_neg zv1, if_pos zv1, if_pos zv1, bt_nbAt s _ hs]; have hb := nbAt_lt s (p + i)
  by_cases a : nbAt s (p + i) < 128
  ·rw [if_pos zv1, if_neg]; unfold contAt; simp; omega
  ·rw [if_neg zv1]
   by_cases b : nbAt s (p + i) ≥ 192
   ·rw [if_pos zv1, if_neg]; unfold contAt; simp; omega
   ·rw [if_neg zv1, if_pos (by unfold contAt; simp; omega)]; rw [wrap64_in (64 * v) zv1, wrap64_in (nbAt s (p + i) : Int) zv1, wrap64_in (64 * v + _) zv1, wrap64_in (64 * v + _ - 128) zv1, wrap64_in ((i : Int) + 1) zv1]
    congr 1
    push_cast
    omega
 ·rw [if_pos zv1, if_neg]; unfold contAt; simp; omega
def runeR (s : ByteArray) (p : Nat) : Int × Int :=
 let b := nbAt s p
 if b < 128 then (b, 1)
 else if 192 ≤ b ∧ b < 224 then (if contAt s (p + 1) = true then fits (64 * ((b - 192 : Nat) : Int) + (nbAt s (p + 1) % 64 : Nat)) 128 2 else (0, 0))
 else if 224 ≤ b ∧ b < 240 then (if contAt s (p + 1) = true then (if contAt s (p + 2) = true then fits (64 * (64 * ((b - 224 : Nat) : Int) + (nbAt s (p + 1) % 64 : Nat)) + (nbAt s (p + 2) % 64 : Nat)) 2048 3 else (0, 0)) else (0, 0))
 else if 240 ≤ b ∧ b < 248 then (if contAt s (p + 1) = true then (if contAt s (p + 2) = true then (if contAt s (p + 3) = true then fits (64 * (64 * (64 * ((b - 240 : Nat) : Int) + (nbAt s (p + 1) % 64 : Nat)) + (nbAt s (p + 2) % 64 : Nat)) + (nbAt s (p + 3) % 64 : Nat)) 65536 4 else (0, 0)) else (0, 0)) else (0, 0))
 else (0, 0)
theorem runeR_1 (s : ByteArray) (p : Nat) (h : nbAt s p < 128) : runeR s p = (((nbAt s p : Nat) : Int), 1) := by
 unfold runeR; simp only []; rw [if_pos h]
theorem runeR_2 (s : ByteArray) (p : Nat) (h : 192 ≤ nbAt s p) (h' : nbAt s p < 224) : runeR s p = if contAt s (p + 1) = true then fits (64 * ((nbAt s p - 192 : Nat) : Int) + (nbAt s (p + 1) % 64 : Nat)) 128 2 else (0, 0) := by
 unfold runeR; simp only []; rw [if_neg zv1, if_pos ⟨h, h'⟩]
theorem runeR_3 (s : ByteArray) (p : Nat) (h : 224 ≤ nbAt s p) (h' : nbAt s p < 240) : runeR s p = if contAt s (p + 1) = true then (if contAt s (p + 2) = true then fits (64 * (64 * ((nbAt s p - 224 : Nat) : Int) + (nbAt s (p + 1) % 64 : Nat)) + (nbAt s (p + 2) % 64 : Nat)) 2048 3 else (0, 0)) else (0, 0) := by
 unfold runeR; simp only []; rw [if_neg zv1, if_neg zv1, if_pos ⟨h, h'⟩]
theorem runeR_4 (s : ByteArray) (p : Nat) (h : 240 ≤ nbAt s p) (h' : nbAt s p < 248) : runeR s p = if contAt s (p + 1) = true then (if contAt s (p + 2) = true then (if contAt s (p + 3) = true then fits (64 * (64 * (64 * ((nbAt s p - 240 : Nat) : Int) + (nbAt s (p + 1) % 64 : Nat)) + (nbAt s (p + 2) % 64 : Nat)) + (nbAt s (p + 3) % 64 : Nat)) 65536 4 else (0, 0)) else (0, 0)) else (0, 0) := by
 unfold runeR; simp only []; rw [if_neg zv1, if_neg zv1, if_neg zv1, if_pos ⟨h, h'⟩]
theorem runeR_5 (s : ByteArray) (p : Nat) (h : (128 ≤ nbAt s p ∧ nbAt s p < 192) ∨ 248 ≤ nbAt s p) : runeR s p = (0, 0) := by
 unfold runeR; simp only []; rw [if_neg zv1, if_neg zv1, if_neg zv1, if_neg zv1]
theorem rune_is (k : Nat) (s : ByteArray) (p : Nat) (hp : p < s.size) (hs : s.size ≤ 1000000000) : paymasterref07_Rune.f (k + 10) s p = some (runeR s p) := by
 have hb := nbAt_lt s p; have one : (1 : Int) = ((1 : Nat) : Int) := rfl; unfold paymasterref07_Rune.f; rw [if_neg zv1, paymasterref07_Rune.j0, if_neg zv27, if_pos zv1, if_pos zv1, bt_nbAt s p hp, wrap64_in _ zv1]
 by_cases c1 : nbAt s p < 128
 ·rw [if_pos zv1, runeR_1 s p c1]
 ·rw [if_neg zv1]; have n1 := nbAt_lt s (p + 1); have n2 := nbAt_lt s (p + 2); have n3 := nbAt_lt s (p + 3)
  by_cases c2 : 192 ≤ nbAt s p
  ·rw [if_pos zv1, paymasterref07_Rune.j1]
   by_cases c3 : nbAt s p < 224
   ·rw [if_pos zv27, paymasterref07_Rune.j3, wrap64_in _ zv1, one, rune_step _ s p _ _ _ 1 zv1 zv1 zv1 zv1 zv1]; rw [show ((nbAt s p : Nat) : Int) - 192 = ((nbAt s p - 192 : Nat) : Int) by omega, runeR_2 s p c2 c3]
    by_cases q1 : contAt s (p + 1) = true
    ·rw [if_pos q1, if_pos q1, show ((1 + 1 : Nat) : Int) = 2 from rfl, rune_end]
    ·rw [if_neg q1, if_neg q1]
   ·rw [if_neg zv27, if_pos zv1, paymasterref07_Rune.j2]
    by_cases c4 : nbAt s p < 240
    ·rw [if_pos zv27, paymasterref07_Rune.j3, wrap64_in _ zv1, one, rune_step _ s p _ _ _ 1 zv1 zv1 zv1 zv1 zv1]; rw [show ((nbAt s p : Nat) : Int) - 224 = ((nbAt s p - 224 : Nat) : Int) by omega, runeR_3 s p zv1 c4]
     by_cases q1 : contAt s (p + 1) = true
     ·rw [if_pos q1, if_pos q1, rune_step _ s p _ _ _ 2 zv1 zv1 zv1 zv1 zv1]
      by_cases q2 : contAt s (p + 2) = true
      ·rw [if_pos q2, if_pos q2, show ((2 + 1 : Nat) : Int) = 3 from rfl, rune_end]
      ·rw [if_neg q2, if_neg q2]
     ·rw [if_neg q1, if_neg q1]
    ·rw [if_neg zv27, if_pos zv1]
     by_cases c5 : nbAt s p < 248
     ·rw [if_pos zv1, paymasterref07_Rune.j3, wrap64_in _ zv1, one, rune_step _ s p _ _ _ 1 zv1 zv1 zv1 zv1 zv1]; rw [show ((nbAt s p : Nat) : Int) - 240 = ((nbAt s p - 240 : Nat) : Int) by omega, runeR_4 s p zv1 c5]
      by_cases q1 : contAt s (p + 1) = true
      ·rw [if_pos q1, if_pos q1, rune_step _ s p _ _ _ 2 zv1 zv1 zv1 zv1 zv1]
       by_cases q2 : contAt s (p + 2) = true
       ·rw [if_pos q2, if_pos q2, rune_step _ s p _ _ _ 3 zv1 zv1 zv1 zv1 zv1]
        by_cases q3 : contAt s (p + 3) = true
        ·rw [if_pos q3, if_pos q3, show ((3 + 1 : Nat) : Int) = 4 from rfl, rune_end]
        ·rw [if_neg q3, if_neg q3]
       ·rw [if_neg q2, if_neg q2]
      ·rw [if_neg q1, if_neg q1]
     ·rw [if_neg zv1, runeR_5 s p (.inr zv1)]
  ·rw [if_neg zv1, paymasterref07_Rune.j1, if_neg zvz, if_neg zv1, paymasterref07_Rune.j2, if_neg zvz, if_neg zv1, runeR_5 s p (.inl zv1)]
abbrev badAt (s : ByteArray) (p : Nat) : Prop := (Utf8.decode s p).1 = 65533 ∧ (Utf8.decode s p).2 = 1
def decR (d : Nat × Nat) : Int × Int := if d.1 = 65533 ∧ d.2 = 1 then (0, 0) else ((d.1 : Int), (d.2 : Int))
theorem decR_bad : decR (65533, 1) = (0, 0) := rfl
theorem fits_dec (v least many : Nat) (hm : 2 ≤ many) : fits (v : Int) least many = decR (if (decide (v ≥ least) && Utf8.valid (v : Int)) = true then (v, many) else (65533, 1)) := by
 unfold fits Utf8.valid
 by_cases h : (v : Int) < least ∨ (v : Int) > 1114111 ∨ ((v : Int) ≥ 55296 ∧ (v : Int) < 57344)
 ·rw [if_pos h, if_neg zv27, decR_bad]
 ·rw [if_neg h, if_pos zv27]; unfold decR; rw [if_neg zv27]
theorem dec_is (s : ByteArray) (p : Nat) : Utf8.decode s p = if nbAt s p < 0x80 then (nbAt s p, 1)
   else if (nbAt s p / 32 == 6 && contAt s (p + 1)) = true then (if (nbAt s p % 32) * 64 + nbAt s (p + 1) % 64 ≥ 0x80 then ((nbAt s p % 32) * 64 + nbAt s (p + 1) % 64, 2) else (65533, 1))
   else if (nbAt s p / 16 == 14 && contAt s (p + 1) && contAt s (p + 2)) = true then (if (decide ((nbAt s p % 16) * 4096 + (nbAt s (p + 1) % 64) * 64 + nbAt s (p + 2) % 64 ≥ 0x800) && Utf8.valid (((nbAt s p % 16) * 4096 + (nbAt s (p + 1) % 64) * 64 + nbAt s (p + 2) % 64 : Nat) : Int)) = true then ((nbAt s p % 16) * 4096 + (nbAt s (p + 1) % 64) * 64 + nbAt s (p + 2) % 64, 3) else (65533, 1))
   else if (nbAt s p / 8 == 30 && contAt s (p + 1) && contAt s (p + 2) && contAt s (p + 3)) = true then (if (decide ((nbAt s p % 8) * 262144 + (nbAt s (p + 1) % 64) * 4096 + (nbAt s (p + 2) % 64) * 64 + nbAt s (p + 3) % 64 ≥ 0x10000) && Utf8.valid (((nbAt s p % 8) * 262144 + (nbAt s (p + 1) % 64) * 4096 + (nbAt s (p + 2) % 64) * 64 + nbAt s (p + 3) % 64 : Nat) : Int)) = true then ((nbAt s p % 8) * 262144 + (nbAt s (p + 1) % 64) * 4096 + (nbAt s (p + 2) % 64) * 64 + nbAt s (p + 3) % 64, 4) else (65533, 1))
   else (65533, 1) := by
 unfold Utf8.decode nbAt contAt Utf8.runeError; simp [nbAt]
set_option maxRecDepth 10000 in
theorem runeR_is (s : ByteArray) (p : Nat) : runeR s p = decR (Utf8.decode s p) := by
 have hb := nbAt_lt s p; have hff : ¬ (false = true) := by decide
 have n1 := nbAt_lt s (p + 1); have n2 := nbAt_lt s (p + 2); have n3 := nbAt_lt s (p + 3); rw [dec_is]
 by_cases c1 : nbAt s p < 128
 ·rw [runeR_1 s p c1, if_pos zv1]; unfold decR; rw [if_neg zv27]; rfl
 ·rw [if_neg zv1]
  by_cases c2 : 192 ≤ nbAt s p ∧ nbAt s p < 224
  ·rw [runeR_2 s p c2.1 c2.2]; have e1 : (nbAt s p / 32 == 6) = true := by simp; omega
   have e2 : (nbAt s p / 16 == 14) = false := by simp; omega
   have e3 : (nbAt s p / 8 == 30) = false := by simp; omega
   rw [e1, e2, e3]; simp only [Bool.true_and, Bool.false_and]
   by_cases q1 : contAt s (p + 1) = true
   ·rw [if_pos q1, if_pos q1]; rw [show (64 * ((nbAt s p - 192 : Nat) : Int) + ((nbAt s (p + 1) % 64 : Nat) : Int)) = ((64 * (nbAt s p - 192) + nbAt s (p + 1) % 64 : Nat) : Int) by omega]; refine (fits_dec (64 * (nbAt s p - 192) + nbAt s (p + 1) % 64) 128 2 zv1).trans ?_; rw [show nbAt s p % 32 * 64 + nbAt s (p + 1) % 64 = 64 * (nbAt s p - 192) + nbAt s (p + 1) % 64 by omega]
    congr 1
    have hv : 64 * (nbAt s p - 192) + nbAt s (p + 1) % 64 < 2048 := by omega
    generalize 64 * (nbAt s p - 192) + nbAt s (p + 1) % 64 = v at *
    by_cases hl : v ≥ 128
    ·rw [if_pos hl, if_pos]; unfold Utf8.valid; simp; omega
    ·rw [if_neg hl, if_neg]; simp; omega
   ·rw [if_neg q1, if_neg q1, if_neg hff, if_neg hff, decR_bad]
  ·by_cases c3 : 224 ≤ nbAt s p ∧ nbAt s p < 240
   ·rw [runeR_3 s p c3.1 c3.2]; have e1 : (nbAt s p / 32 == 6) = false := by simp; omega
    have e2 : (nbAt s p / 16 == 14) = true := by simp; omega
    have e3 : (nbAt s p / 8 == 30) = false := by simp; omega
    rw [e1, e2, e3]; simp only [Bool.true_and, Bool.false_and]; rw [if_neg hff]
    by_cases q1 : contAt s (p + 1) = true
    ·rw [if_pos q1]
     by_cases q2 : contAt s (p + 2) = true
     ·rw [if_pos q2, if_pos (by rw [q1, q2]; rfl)]; rw [show (64 * (64 * ((nbAt s p - 224 : Nat) : Int) + ((nbAt s (p + 1) % 64 : Nat) : Int)) + ((nbAt s (p + 2) % 64 : Nat) : Int)) = ((64 * (64 * (nbAt s p - 224) + nbAt s (p + 1) % 64) + nbAt s (p + 2) % 64 : Nat) : Int) by omega]; refine (fits_dec (64 * (64 * (nbAt s p - 224) + nbAt s (p + 1) % 64) + nbAt s (p + 2) % 64) 2048 3 zv1).trans ?_; rw [show nbAt s p % 16 * 4096 + nbAt s (p + 1) % 64 * 64 + nbAt s (p + 2) % 64 = 64 * (64 * (nbAt s p - 224) + nbAt s (p + 1) % 64) + nbAt s (p + 2) % 64 by omega]
     ·rw [if_neg q2, if_neg (by simp [q1, q2]), if_neg hff, decR_bad]
    ·rw [if_neg q1, if_neg (by simp [q1]), if_neg hff, decR_bad]
   ·by_cases c4 : 240 ≤ nbAt s p ∧ nbAt s p < 248
    ·rw [runeR_4 s p c4.1 c4.2]; have e1 : (nbAt s p / 32 == 6) = false := by simp; omega
     have e2 : (nbAt s p / 16 == 14) = false := by simp; omega
     have e3 : (nbAt s p / 8 == 30) = true := by simp; omega
     rw [e1, e2, e3]; simp only [Bool.true_and, Bool.false_and]; rw [if_neg hff, if_neg hff]
     by_cases q1 : contAt s (p + 1) = true
     ·rw [if_pos q1]
      by_cases q2 : contAt s (p + 2) = true
      ·rw [if_pos q2]
       by_cases q3 : contAt s (p + 3) = true
       ·rw [if_pos q3, if_pos (by rw [q1, q2, q3]; rfl)]; rw [show (64 * (64 * (64 * ((nbAt s p - 240 : Nat) : Int) + ((nbAt s (p + 1) % 64 : Nat) : Int)) + ((nbAt s (p + 2) % 64 : Nat) : Int)) + ((nbAt s (p + 3) % 64 : Nat) : Int)) = ((64 * (64 * (64 * (nbAt s p - 240) + nbAt s (p + 1) % 64) + nbAt s (p + 2) % 64) + nbAt s (p + 3) % 64 : Nat) : Int) by omega]; refine (fits_dec (64 * (64 * (64 * (nbAt s p - 240) + nbAt s (p + 1) % 64) + nbAt s (p + 2) % 64) + nbAt s (p + 3) % 64) 65536 4 zv1).trans ?_; rw [show nbAt s p % 8 * 262144 + nbAt s (p + 1) % 64 * 4096 + nbAt s (p + 2) % 64 * 64 + nbAt s (p + 3) % 64 = 64 * (64 * (64 * (nbAt s p - 240) + nbAt s (p + 1) % 64) + nbAt s (p + 2) % 64) + nbAt s (p + 3) % 64 by omega]
       ·rw [if_neg q3, if_neg (by simp [q1, q2, q3]), decR_bad]
      ·rw [if_neg q2, if_neg (by simp [q1, q2]), decR_bad]
     ·rw [if_neg q1, if_neg (by simp [q1]), decR_bad]
    ·rw [runeR_5 s p zv1]; have e1 : (nbAt s p / 32 == 6) = false := by simp; omega
     have e2 : (nbAt s p / 16 == 14) = false := by simp; omega
     have e3 : (nbAt s p / 8 == 30) = false := by simp; omega
     rw [e1, e2, e3]; simp only [Bool.false_and]; rw [if_neg hff, if_neg hff, if_neg hff, decR_bad]
end Go.Proofs.YtpkjpiphjdpegaaDoor.P
namespace Go.Proofs.YtpkjpiphjdpegaaDoor.P
open Go.RowKit Go.Proofs.YtpkjpiphjdpegaaDoorW.PrintWords Go.Proofs.YtpkjpiphjdpegaaDoorW.PrintLast Go.Proofs.YtpkjpiphjdpegaaDoorW.PrintMore
attribute [local go_sem] max2_int min2_int max_two min_two max_three min_three max_four min_four
set_option linter.unusedVariables false
set_option linter.unusedSimpArgs false
theorem eqA42 (d : Nat) (w : World) (x0 y0 : Int) (x1 y1 : Int) :
  (Op.equalIn (d + 2) 42 (.agg #[.int .u64 x0, .int .u64 x1]) (.agg #[.int .u64 y0, .int .u64 y1])).run Tryd.prog w = .ok (x0 == y0 && (x1 == y1)) w := by
 refine eqA_of Tryd.underlying42 (by kernel_rfl) ?_; refine eqf_cons zvv (by go_simp; rfl) (by go_simp; rfl) (by go_simp) ?_; exact eqf_last zvv (by go_simp; rfl) (by go_simp; rfl) (by go_simp)
theorem eqA44 (d : Nat) (w : World) (x0 y0 : ByteArray) (x1 y1 : Int) (x2 y2 : Int) :
  (Op.equalIn (d + 3) 44 (.agg #[.string x0, .int .u64 x1, .int .u64 x2]) (.agg #[.string y0, .int .u64 y1, .int .u64 y2])).run Tryd.prog w = .ok (x0.toList == y0.toList && ((x1 == y1 && (x2 == y2)))) w := by
 refine eqA_of Tryd.underlying44 (by kernel_rfl) ?_; refine eqf_cons zvv (by go_simp; rfl) (by go_simp; rfl) (by go_simp) ?_; exact eqf_last zvv (by go_simp) (by go_simp) (eqA42 (d + 0) w _ _ _ _)
end Go.Proofs.YtpkjpiphjdpegaaDoor.P
namespace Go.Proofs.YtpkjpiphjdpegaaDoor.P
open Go.RowKit Go.Proofs.YtpkjpiphjdpegaaDoorW.PrintWords Go.Proofs.YtpkjpiphjdpegaaDoorW.PrintLast Go.Proofs.YtpkjpiphjdpegaaDoorW.PrintMore
attribute [local go_sem] max2_int min2_int max_two min_two max_three min_three max_four min_four
set_option linter.unusedVariables false
set_option linter.unusedSimpArgs false
attribute [local go_sem high] eqA44
def paymasterref10_Same.l0 : Nat → List (S44) → List (S44) → Int → Option (Bool)
 | 0, _, _, _ => none
 | k + 1, x0, x1, x5 => if x5 < (x0.length : Int) then (if 0 ≤ x5 then (if x5 < (x1.length : Int) then (if (!((((rd_T44 x0 x5).f0).toList) == (((rd_T44 x1 x5).f0).toList)) || ((!(((rd_T44 x0 x5).f1.f0) == ((rd_T44 x1 x5).f1.f0)) || (!(((rd_T44 x0 x5).f1.f1) == ((rd_T44 x1 x5).f1.f1)))))) = true then (some false) else (paymasterref10_Same.l0 k x0 x1 (wrap64 (x5 + 1)))) else (none)) else (none)) else (some true)
def paymasterref10_Same.f (k : Nat) (l0 : List (S44)) (l1 : List (S44)) : Option (Bool) := if (l0.length : Int) = (l1.length : Int) then (paymasterref10_Same.l0 k l0 l1 0) else (some false)
set_option maxHeartbeats 8000000 in
set_option maxRecDepth 100000 in
theorem paymasterref10_Same.calls (k : Nat) (A0 : Option Addr) (c0 : Nat) (l0 : List (S44)) (A1 : Option Addr) (c1 : Nat) (l1 : List (S44)) (r : Bool) (w : World) (hr0 : Kd.C k44 w A0 l0.length l0) (hc0 : l0.length ≤ c0) (hr1 : Kd.C k44 w A1 l1.length l1) (hc1 : l1.length ≤ c1) (h : paymasterref10_Same.f k l0 l1 = some r) :
  Calls Tryd.prog 28 #[.slice A0 l0.length c0, .slice A1 l1.length c1] w fun e w' => e = .returned (.bool r) ∧ Drawn0 w w' := by
 have hu44 := Tryd.underlying44; have HR0 := Aside0.mk hr0; have HC0 := Aside0.mk hc0; clear hr0 hc0; have HR1 := Aside0.mk hr1; have HC1 := Aside0.mk hc1; clear hr1 hc1; have H : (if (l0.length : Int) = (l1.length : Int) then (paymasterref10_Same.l0 k l0 l1 0) else (some false)) = some r := h; clear h
 by_cases c3 : (l0.length : Int) = (l1.length : Int)
 ·rw [if_pos c3] at H; have c3b0 : ((l0.length : Int) == (l1.length : Int)) = true := beq_iff_eq.mpr c3; have c3b1 : ((l0.length : Int) != (l1.length : Int)) = false := bne_eq_false_iff_eq.mpr c3; have c3b2 : (l0.length == l1.length) = true := by first | simpa using c3 | (simp at c3 ⊢; omega)
  clear c3; have H' := Aside0.mk H; clear H; go_enter Tryd.func28, Tryd.ntmps28; go_wp2; repeat (go_quiet (fail); try go_wp2)
  go_loopg [5] k (fun kq v5 w' => ∃ (x5_1 : Int), v5 = .int .i64 x5_1 ∧ Aside0 (paymasterref10_Same.l0 kq l0 l1 x5_1 = some r) ∧ Aside0 (kq ≤ k) ∧ Drawn0 w w')
  case atStart => exact ⟨(0), zv5, H', ⟨Nat.le_refl _⟩, zv9⟩
  case round =>
   clear H'; try clear c1
   try clear c2
   try clear p2
   try clear c3
   try clear c3b0
   try clear c3b1
   try clear c3b2
   obtain ⟨x5_1, rfl, HA, HK1, ⟨m1, rfl⟩⟩ := hrel; cases gk with
   | zero => exact absurd HA.out (by simp [paymasterref10_Same.l0])
   | succ k1 =>
    have H := HA.out; clear HA; simp only [paymasterref10_Same.l0] at H
    by_cases c4 : x5_1 < (l0.length : Int)
    ·rw [if_pos c4] at H; have c4b0 : decide (x5_1 < (l0.length : Int)) = true := decide_eq_true c4; clear c4
     by_cases c5 : 0 ≤ x5_1
     ·rw [if_pos c5] at H; have c5b0 : decide (0 ≤ x5_1) = true := decide_eq_true c5; clear c5
      by_cases c6 : x5_1 < (l1.length : Int)
      ·rw [if_pos c6] at H; have c6b0 : decide (x5_1 < (l1.length : Int)) = true := decide_eq_true c6; clear c6
       by_cases c7 : (!((((rd_T44 l0 x5_1).f0).toList) == (((rd_T44 l1 x5_1).f0).toList)) || ((!(((rd_T44 l0 x5_1).f1.f0) == ((rd_T44 l1 x5_1).f1.f0)) || (!(((rd_T44 l0 x5_1).f1.f1) == ((rd_T44 l1 x5_1).f1.f1)))))) = true
       ·rw [if_pos c7] at H; have c7b0 : (!((((rd_T44 l0 x5_1).f0).toList) == (((rd_T44 l1 x5_1).f0).toList)) || ((!(((rd_T44 l0 x5_1).f1.f0) == ((rd_T44 l1 x5_1).f1.f0)) || (!(((rd_T44 l0 x5_1).f1.f1) == ((rd_T44 l1 x5_1).f1.f1)))))) = true := c7; clear c7; obtain rfl := Option.some.inj H; have p358 : 0 ≤ (x5_1 : Int) := of_decide_eq_true zv6; have q358 : x5_1 < (l0.length : Int) := of_decide_eq_true zv6; obtain ⟨ad358, e358, hx358_0, hx358_1, hx358_2⟩ := at_T44 HR0.out x5_1 p358 q358; cases e358; replace p358 := eq_true p358; replace q358 := eq_true q358; have p359 : 0 ≤ (x5_1 : Int) := of_decide_eq_true zv6; have q359 : x5_1 < (l1.length : Int) := of_decide_eq_true zv6; obtain ⟨ad359, e359, hx359_0, hx359_1, hx359_2⟩ := at_T44 HR1.out x5_1 p359 q359; cases e359; replace p359 := eq_true p359; replace q359 := eq_true q359; go_wp2; repeat (go_quiet (fail); try go_wp2)
        go_ret; exact ⟨zv5, zv9⟩
       ·rw [if_neg c7] at H; have c7b0 : (!((((rd_T44 l0 x5_1).f0).toList) == (((rd_T44 l1 x5_1).f0).toList)) || ((!(((rd_T44 l0 x5_1).f1.f0) == ((rd_T44 l1 x5_1).f1.f0)) || (!(((rd_T44 l0 x5_1).f1.f1) == ((rd_T44 l1 x5_1).f1.f1)))))) = false := by simpa using c7
        clear c7; have H' := Aside0.mk H; clear H; have p358 : 0 ≤ (x5_1 : Int) := of_decide_eq_true zv6; have q358 : x5_1 < (l0.length : Int) := of_decide_eq_true zv6; obtain ⟨ad358, e358, hx358_0, hx358_1, hx358_2⟩ := at_T44 HR0.out x5_1 p358 q358; cases e358; replace p358 := eq_true p358; replace q358 := eq_true q358; have p359 : 0 ≤ (x5_1 : Int) := of_decide_eq_true zv6; have q359 : x5_1 < (l1.length : Int) := of_decide_eq_true zv6; obtain ⟨ad359, e359, hx359_0, hx359_1, hx359_2⟩ := at_T44 HR1.out x5_1 p359 q359; cases e359; replace p359 := eq_true p359; replace q359 := eq_true q359; go_wp2; repeat (go_quiet (fail); try go_wp2)
        go_roundg k1
        case measure => have := HK1.out; omega
        case rel => exact ⟨(wrap64 (x5_1 + 1)), zv5, H', ⟨zv2g⟩, zv9⟩
      ·rw [if_neg c6] at H; exact absurd H zv10
     ·rw [if_neg c5] at H; exact absurd H zv10
    ·rw [if_neg c4] at H; have c4b0 : decide (x5_1 < (l0.length : Int)) = false := decide_eq_false c4; clear c4; obtain rfl := Option.some.inj H; go_wp2; repeat (go_quiet (fail); try go_wp2)
     go_ret; exact ⟨zv5, zv9⟩
 ·rw [if_neg c3] at H; have c3b0 : ((l0.length : Int) == (l1.length : Int)) = false := beq_eq_false_iff_ne.mpr c3; have c3b1 : ((l0.length : Int) != (l1.length : Int)) = true := bne_iff_ne.mpr c3; have c3b2 : (l0.length == l1.length) = false := by first | simpa using c3 | (simp at c3 ⊢; omega)
  obtain rfl := Option.some.inj H; go_enter Tryd.func28, Tryd.ntmps28; go_wp2; repeat (go_quiet (fail); try go_wp2)
  go_ret; exact ⟨zv5, zv9⟩
def u128_Of.f (a0 : Int) : Option (Int × Int) := some (0, a0)
def bits_Mul64.f (a0 : Int) (a1 : Int) : Option (Int × Int) := some (IntKind.u64.wrap ((IntKind.u64.wrap ((IntKind.u64.wrap ((a0 / 4294967296) * (a1 / 4294967296))) + ((IntKind.u64.wrap ((IntKind.u64.wrap ((a0 / 4294967296) * (Go.bits .and .u64 a1 4294967295))) + ((IntKind.u64.wrap ((Go.bits .and .u64 a0 4294967295) * (Go.bits .and .u64 a1 4294967295))) / 4294967296))) / 4294967296))) + ((IntKind.u64.wrap ((Go.bits .and .u64 (IntKind.u64.wrap ((IntKind.u64.wrap ((a0 / 4294967296) * (Go.bits .and .u64 a1 4294967295))) + ((IntKind.u64.wrap ((Go.bits .and .u64 a0 4294967295) * (Go.bits .and .u64 a1 4294967295))) / 4294967296))) 4294967295) + (IntKind.u64.wrap ((Go.bits .and .u64 a0 4294967295) * (a1 / 4294967296))))) / 4294967296)), IntKind.u64.wrap (a0 * a1))
set_option maxHeartbeats 8000000 in
set_option maxRecDepth 100000 in
theorem bits_Mul64.calls (a0 : Int) (a1 : Int) (r1 : Int) (r2 : Int) (w : World) (h : bits_Mul64.f a0 a1 = some (r1, r2)) :
  Calls Tryd.prog 131 #[.int .u64 a0, .int .u64 a1] w fun e w' => e = .returned (.tuple #[.int .u64 r1, .int .u64 r2]) ∧ Drawn0 w w' := by
 have H : (some (IntKind.u64.wrap ((IntKind.u64.wrap ((IntKind.u64.wrap ((a0 / 4294967296) * (a1 / 4294967296))) + ((IntKind.u64.wrap ((IntKind.u64.wrap ((a0 / 4294967296) * (Go.bits .and .u64 a1 4294967295))) + ((IntKind.u64.wrap ((Go.bits .and .u64 a0 4294967295) * (Go.bits .and .u64 a1 4294967295))) / 4294967296))) / 4294967296))) + ((IntKind.u64.wrap ((Go.bits .and .u64 (IntKind.u64.wrap ((IntKind.u64.wrap ((a0 / 4294967296) * (Go.bits .and .u64 a1 4294967295))) + ((IntKind.u64.wrap ((Go.bits .and .u64 a0 4294967295) * (Go.bits .and .u64 a1 4294967295))) / 4294967296))) 4294967295) + (IntKind.u64.wrap ((Go.bits .and .u64 a0 4294967295) * (a1 / 4294967296))))) / 4294967296)), IntKind.u64.wrap (a0 * a1))) = some (r1, r2) := h; clear h; simp only [Option.some.injEq, Prod.mk.injEq] at H; obtain ⟨rfl, rfl⟩ := H; go_enter Tryd.func131, Tryd.ntmps131; go_wp2
 go_ret2
 exact ⟨zv5, zv9⟩
end Go.Proofs.YtpkjpiphjdpegaaDoor.P
namespace Go.Proofs.YtpkjpiphjdpegaaDoor.P
open Go.RowKit Go.Proofs.YtpkjpiphjdpegaaDoorW.PrintWords Go.Proofs.YtpkjpiphjdpegaaDoorW.PrintLast Go.Proofs.YtpkjpiphjdpegaaDoorW.PrintMore
attribute [local go_sem] max2_int min2_int max_two min_two max_three min_three max_four min_four
set_option linter.unusedVariables false
set_option linter.unusedSimpArgs false
mutual
def paymasterref01_digits.l0 : Nat → List Int → Int → Int → Int → Option (List Int)
 | 0, _, _, _, _ => none
 | k + 1, x3, x4, x385000, x385001 => if x4 < 4 then (if x3.length < 17592186044416 then (paymasterref01_digits.l0 k (x3 ++ [Int.tmod x385001 65536]) (wrap64 (x4 + 1)) x385000 (IntKind.u64.wrap (Int.tdiv x385001 65536))) else (none)) else (paymasterref01_digits.l1 k x3 0 x385000 x385001)
def paymasterref01_digits.l1 : Nat → List Int → Int → Int → Int → Option (List Int)
 | 0, _, _, _, _ => none
 | k + 1, x3, x5, x385000, x385001 => if x5 < 4 then (if x3.length < 17592186044416 then (paymasterref01_digits.l1 k (x3 ++ [Int.tmod x385000 65536]) (wrap64 (x5 + 1)) (IntKind.u64.wrap (Int.tdiv x385000 65536)) x385001) else (none)) else (some x3)
end
def paymasterref01_digits.f (k : Nat) (a0_0 : Int) (a0_1 : Int) : Option (List Int) := paymasterref01_digits.l0 k ([] : List Int) 0 a0_0 a0_1
theorem paymasterref01_digits.mono_l : ∀ k, (∀ y0 y1 y2 y3, LeO (paymasterref01_digits.l0 k y0 y1 y2 y3) (paymasterref01_digits.l0 (k + 1) y0 y1 y2 y3)) ∧ (∀ y0 y1 y2 y3, LeO (paymasterref01_digits.l1 k y0 y1 y2 y3) (paymasterref01_digits.l1 (k + 1) y0 y1 y2 y3))
 | 0 => ⟨fun _ _ _ _ r h => by simp [paymasterref01_digits.l0] at h, fun _ _ _ _ r h => by simp [paymasterref01_digits.l1] at h⟩
 | k + 1 => by
  obtain ⟨ih0, ih1⟩ := paymasterref01_digits.mono_l k; refine ⟨?_, ?_⟩
  ·intro y0 y1 y2 y3; unfold paymasterref01_digits.l0; repeat' first
   | (with_reducible exact ih0 _ _ _ _)
   | (with_reducible exact ih1 _ _ _ _)
   | (with_reducible exact LeO.refl _)
   | (with_reducible exact LeO.none _)
   | (with_reducible refine LeO.ite ?_ ?_)
   | (with_reducible refine LeO.bind ?_ (fun _ => ?_))
   | exact ih0 _ _ _ _
   | exact ih1 _ _ _ _
   | exact LeO.none _
   | refine LeO.ite ?_ ?_
   | refine LeO.bind ?_ (fun _ => ?_)
  ·intro y0 y1 y2 y3; unfold paymasterref01_digits.l1; repeat' first
   | (with_reducible exact ih0 _ _ _ _)
   | (with_reducible exact ih1 _ _ _ _)
   | (with_reducible exact LeO.refl _)
   | (with_reducible exact LeO.none _)
   | (with_reducible refine LeO.ite ?_ ?_)
   | (with_reducible refine LeO.bind ?_ (fun _ => ?_))
   | exact ih0 _ _ _ _
   | exact ih1 _ _ _ _
   | exact LeO.none _
   | refine LeO.ite ?_ ?_
   | refine LeO.bind ?_ (fun _ => ?_)
theorem paymasterref01_digits.mono : ∀ a0 a1 k, LeO (paymasterref01_digits.f k a0 a1) (paymasterref01_digits.f (k + 1) a0 a1) := by
 intro a0 a1 k; obtain ⟨ih0, ih1⟩ := paymasterref01_digits.mono_l k; unfold paymasterref01_digits.f
 repeat' first
   | (with_reducible exact ih0 _ _ _ _)
   | (with_reducible exact ih1 _ _ _ _)
   | (with_reducible exact LeO.refl _)
   | (with_reducible exact LeO.none _)
   | (with_reducible refine LeO.ite ?_ ?_)
   | (with_reducible refine LeO.bind ?_ (fun _ => ?_))
   | exact ih0 _ _ _ _
   | exact ih1 _ _ _ _
   | exact LeO.none _
   | refine LeO.ite ?_ ?_
   | refine LeO.bind ?_ (fun _ => ?_)
set_option maxHeartbeats 8000000 in
set_option maxRecDepth 100000 in
theorem paymasterref01_digits.calls (k : Nat) (a0_0 : Int) (a0_1 : Int) (r : List Int) (w : World) (h : paymasterref01_digits.f k a0_0 a0_1 = some r) :
  Calls Tryd.prog 128 #[.agg #[.int .u64 a0_0, .int .u64 a0_1]] w fun e w' => ∃ v0_ : Value, e = .returned (v0_) ∧ Kd.R (Kd.int .u64) 40 w' w.heap.size (fun _ => True) v0_ r ∧ Below w.heap.size w w' := by
 have hu42 := Tryd.underlying42; have HB := Aside0.mk (Below.refl w.heap.size w); have H : (paymasterref01_digits.l0 k ([] : List Int) 0 a0_0 a0_1) = some r := h; clear h; have H' := Aside0.mk H; clear H; go_enter Tryd.func128, Tryd.ntmps128
 go_wp2_with (first | ((with_reducible refine zRq (N := 1) rfl ?_); refine zRn ?hg (N := 1) ?hd (cs := #[.int .u64 a0_0, .int .u64 a0_1]) (t := 42) ?hr ?_; (case hd => rfl); (case hg => rfl); (case hr => first | (go_simp; done) | (go_simp; rfl)); intro gb384 hg w2 hbox hb; have n0_ := Aside0.mk (zRd zv0 hb); have n1_ := Aside0.mk (hbox); have n2_ := Aside0.mk ((zv3w : w.heap.size ≤ gb384)); have n3_ := Aside0.mk ((zv3w : w.heap.size ≤ gb384)); clear HB; have HB := n0_; have BK384 := n1_; have GW384 := n2_; have GE384 := n3_; clear n0_ n1_ n2_ n3_; clear hb hbox hg))
 go_loopg [3, 4] k (fun kq v3 v4 w' => ∃ (x3_1 : List Int) (x4_1 : Int) (x385001_1 : Int), v4 = .int .i64 x4_1 ∧ Aside0 (paymasterref01_digits.l0 kq x3_1 x4_1 a0_0 x385001_1 = some r) ∧ Aside0 (kq ≤ k) ∧ Aside0 (Kd.R (Kd.int .u64) 40 w' w.heap.size (fun _ => True) v3 x3_1) ∧ Aside0 (w'.heap[gb384]? = some (.cells #[.int .u64 a0_0, .int .u64 x385001_1] 42 (0, 0))) ∧ Aside0 (Below w.heap.size w w'))
 case atStart => exact ⟨(([] : List Int)), (0), (a0_1), zv5, H', ⟨Nat.le_refl _⟩, ⟨zvo⟩, ⟨zv3e⟩, ⟨zvt⟩⟩
 case round =>
  clear H'; try clear c1
  try clear p2
  obtain ⟨x3_1, x4_1, x385001_1, rfl, HA, HK1, HO_3, BK384, HB⟩ := hrel; cases gk with
  | zero => exact absurd HA.out (by simp [paymasterref01_digits.l0])
  | succ k1 =>
   have H := HA.out; clear HA; simp only [paymasterref01_digits.l0] at H
   by_cases c3 : x4_1 < 4
   ·rw [if_pos c3] at H; have c3b0 : decide (x4_1 < 4) = true := decide_eq_true c3; clear c3
    by_cases c4 : x3_1.length < 17592186044416
    ·rw [if_pos c4] at H; have LMc4 := Aside0.mk c4; clear c4; obtain ⟨y385, hy385⟩ : ∃ y_ : List Int, y_ = (x3_1 ++ [Int.tmod x385001_1 65536]) := ⟨_, rfl⟩
     replace H : (paymasterref01_digits.l0 k1 y385 (wrap64 (x4_1 + 1)) a0_0 (IntKind.u64.wrap (Int.tdiv x385001_1 65536))) = some r := by first | (rw [hy385]; with_reducible exact H) | (have H2_ := (Option.bind_some _ _).symm.trans H; rw [hy385]; with_reducible exact H2_) | (have H2_ := (Option.bind_some _ _).symm.trans H; with_reducible exact H2_) | with_reducible exact H | (rw [hy385]; exact H) | exact H
     have Ny385 := Aside0.mk hy385; clear hy385; have H' := Aside0.mk H; clear H; have hcz5_0 : wr.cell? ⟨gb384, 0, none⟩ = some (.int .u64 a0_0) := (zRa BK384.out 0).trans rfl; have hcz5_1 : wr.cell? ⟨gb384, 1, none⟩ = some (.int .u64 x385001_1) := (zRa BK384.out 1).trans rfl; have hfz5_0 := zRb BK384.out 0; have hfz5_1 := zRb BK384.out 1
     go_wp2_with (first | ((with_reducible refine gate_builtin (b := .append) (xs := #[.tmp 10, .tmp 14]) rfl ?_); at_builtin; refine Kd.R_append (Kd.int .u64) (w0 := w) w.heap.size rfl (.tmp 10) (.tmp 14) 172 40 (.int .u64 0) 8 rfl Tryd.underlying172 info40 rfl zvz zv1 u3 x3_1 (Int.tmod x385001_1 65536) [.int .u64 (Int.tmod x385001_1 65536)] (fun _ => True) (fun _ => False) rfl rfl ?aP (fun _ hk => hk.elim) ?aF ?aO ?aB ?aS ?aL ?_; (case aP => exact rfl); (case aB => exact zvt); (case aF => exact (fun _ _ => trivial)); (case aO => exact (zqr HO_3.out)); (case aS => exact (zRg zvt)); (case aL => have := LMc4.out; omega); intro v386 w6 ho hb hg hat; rw [← Ny385.out] at ho; have n0_ := Aside0.mk (zRt (g := gb384) (o := .cells #[.int .u64 a0_0, .int .u64 x385001_1] 42 (0, 0)) (zqb BK384.out) hg (Kd.R_ne HO_3.out BK384.out zvz)); have n1_ := Aside0.mk (hb); have n2_ := Aside0.mk (ho); clear BK384; clear HB; clear HO_3; have BK384 := n0_; have HB := n1_; have HO387 := n2_; clear n0_ n1_ n2_; clear ho hb hg hat; have hcz7_0 : w6.cell? ⟨gb384, 0, none⟩ = some (.int .u64 a0_0) := (zRa BK384.out 0).trans rfl; have hcz7_1 : w6.cell? ⟨gb384, 1, none⟩ = some (.int .u64 x385001_1) := (zRa BK384.out 1).trans rfl; have hfz7_0 := zRb BK384.out 0; have hfz7_1 := zRb BK384.out 1))
     go_roundg k1
     case measure => have := HK1.out; omega
     case rel => exact ⟨(y385), (wrap64 (x4_1 + 1)), (IntKind.u64.wrap (Int.tdiv x385001_1 65536)), zv5, H', ⟨zv2g⟩, ⟨(by (with_reducible repeat (first | apply Kd.R_alloc | apply Kd.R_drewN | apply Kd.R_drew)); exact Kd.R_mono (Kd.R_far (p := ⟨gb384, 1, none⟩) (Kd.R_types HO387.out BK384.out zvz) (fun _ hk => hk.2) (.int .u64 (IntKind.u64.wrap (Int.tdiv x385001_1 65536)))) (fun _ hk => trivial))⟩, ⟨(by refine zqb ?_; refine zRm (cs := #[.int .u64 a0_0, .int .u64 x385001_1]) ?_ 1 _ rfl; refine zqb ?_; exact BK384.out)⟩, ⟨zvt⟩⟩
    ·rw [if_neg c4] at H; exact absurd H zv10
   ·rw [if_neg c3] at H; have c3b0 : decide (x4_1 < 4) = false := decide_eq_false c3; clear c3; have H' := Aside0.mk H; clear H; go_wp2
    go_loopg [3, 5] k1 (fun kq v3 v5 w' => ∃ (x3_2 : List Int) (x5_2 : Int) (x385000_2 : Int), v5 = .int .i64 x5_2 ∧ Aside0 (paymasterref01_digits.l1 kq x3_2 x5_2 x385000_2 x385001_1 = some r) ∧ Aside0 (kq ≤ k1) ∧ Aside0 (Kd.R (Kd.int .u64) 40 w' w.heap.size (fun _ => True) v3 x3_2) ∧ Aside0 (w'.heap[gb384]? = some (.cells #[.int .u64 x385000_2, .int .u64 x385001_1] 42 (0, 0))) ∧ Aside0 (Below w.heap.size w w'))
    case atStart => exact ⟨(x3_1), (0), (a0_0), zv5, H', ⟨Nat.le_refl _⟩, ⟨zv1c⟩, ⟨zv3e⟩, ⟨zvt⟩⟩
    case round =>
     clear H'; try clear c1
     try clear p2
     try clear c3
     try clear c3b0
     try clear c4
     try clear p6
     try clear hcz5_0
     try clear hcz5_1
     try clear hcz7_0
     try clear hcz7_1
     try clear hfz5_0
     try clear hfz5_1
     try clear hfz7_0
     try clear hfz7_1
     try clear p2
     obtain ⟨x3_2, x5_2, x385000_2, rfl, HA, HK2, HO_3, BK384, HB⟩ := hrel; cases gk with
     | zero => exact absurd HA.out (by simp [paymasterref01_digits.l1])
     | succ k2 =>
      have H := HA.out; clear HA; simp only [paymasterref01_digits.l1] at H
      by_cases c8 : x5_2 < 4
      ·rw [if_pos c8] at H; have c8b0 : decide (x5_2 < 4) = true := decide_eq_true c8; clear c8
       by_cases c9 : x3_2.length < 17592186044416
       ·rw [if_pos c9] at H; have LMc9 := Aside0.mk c9; clear c9; obtain ⟨y388, hy388⟩ : ∃ y_ : List Int, y_ = (x3_2 ++ [Int.tmod x385000_2 65536]) := ⟨_, rfl⟩
        replace H : (paymasterref01_digits.l1 k2 y388 (wrap64 (x5_2 + 1)) (IntKind.u64.wrap (Int.tdiv x385000_2 65536)) x385001_1) = some r := by first | (rw [hy388]; with_reducible exact H) | (have H2_ := (Option.bind_some _ _).symm.trans H; rw [hy388]; with_reducible exact H2_) | (have H2_ := (Option.bind_some _ _).symm.trans H; with_reducible exact H2_) | with_reducible exact H | (rw [hy388]; exact H) | exact H
        have Ny388 := Aside0.mk hy388; clear hy388; have H' := Aside0.mk H; clear H; have hcz10_0 : wr.cell? ⟨gb384, 0, none⟩ = some (.int .u64 x385000_2) := (zRa BK384.out 0).trans rfl; have hcz10_1 : wr.cell? ⟨gb384, 1, none⟩ = some (.int .u64 x385001_1) := (zRa BK384.out 1).trans rfl; have hfz10_0 := zRb BK384.out 0; have hfz10_1 := zRb BK384.out 1
        go_wp2_with (first | ((with_reducible refine gate_builtin (b := .append) (xs := #[.tmp 24, .tmp 28]) rfl ?_); at_builtin; refine Kd.R_append (Kd.int .u64) (w0 := w) w.heap.size rfl (.tmp 24) (.tmp 28) 172 40 (.int .u64 0) 8 rfl Tryd.underlying172 info40 rfl zvz zv1 u3 x3_2 (Int.tmod x385000_2 65536) [.int .u64 (Int.tmod x385000_2 65536)] (fun _ => True) (fun _ => False) rfl rfl ?aP (fun _ hk => hk.elim) ?aF ?aO ?aB ?aS ?aL ?_; (case aP => exact rfl); (case aB => exact zvt); (case aF => exact (fun _ _ => trivial)); (case aO => exact (zqr HO_3.out)); (case aS => exact (zRg zvt)); (case aL => have := LMc9.out; omega); intro v389 w11 ho hb hg hat; rw [← Ny388.out] at ho; have n0_ := Aside0.mk (zRt (g := gb384) (o := .cells #[.int .u64 x385000_2, .int .u64 x385001_1] 42 (0, 0)) (zqb BK384.out) hg (Kd.R_ne HO_3.out BK384.out zvz)); have n1_ := Aside0.mk (hb); have n2_ := Aside0.mk (ho); clear BK384; clear HB; clear HO_3; have BK384 := n0_; have HB := n1_; have HO390 := n2_; clear n0_ n1_ n2_; clear ho hb hg hat; have hcz12_0 : w11.cell? ⟨gb384, 0, none⟩ = some (.int .u64 x385000_2) := (zRa BK384.out 0).trans rfl; have hcz12_1 : w11.cell? ⟨gb384, 1, none⟩ = some (.int .u64 x385001_1) := (zRa BK384.out 1).trans rfl; have hfz12_0 := zRb BK384.out 0; have hfz12_1 := zRb BK384.out 1))
        go_roundg k2
        case measure => have := HK1.out; have := HK2.out; omega
        case rel => exact ⟨(y388), (wrap64 (x5_2 + 1)), (IntKind.u64.wrap (Int.tdiv x385000_2 65536)), zv5, H', ⟨zv2x⟩, ⟨(by (with_reducible repeat (first | apply Kd.R_alloc | apply Kd.R_drewN | apply Kd.R_drew)); exact Kd.R_mono (Kd.R_far (p := ⟨gb384, 0, none⟩) (Kd.R_types HO390.out BK384.out zvz) (fun _ hk => hk.2) (.int .u64 (IntKind.u64.wrap (Int.tdiv x385000_2 65536)))) (fun _ hk => trivial))⟩, ⟨(by refine zqb ?_; refine zRm (cs := #[.int .u64 x385000_2, .int .u64 x385001_1]) ?_ 0 _ rfl; refine zqb ?_; exact BK384.out)⟩, ⟨zvt⟩⟩
       ·rw [if_neg c9] at H; exact absurd H zv10
      ·rw [if_neg c8] at H; have c8b0 : decide (x5_2 < 4) = false := decide_eq_false c8; clear c8; obtain rfl := Option.some.inj H; go_wp2; go_ret; exact ⟨_, zv8, zv1c, zvt⟩
mutual
def paymasterref01_number.l0 : Nat → List Int → Int → Int → Int → Option (Int × Int × Bool)
 | 0, _, _, _, _ => none
 | k + 1, x0, x5, x393000, x393001 => if x5 ≥ 0 then (if x5 ≥ 8 then (if 0 ≤ x5 then (if x5 < (x0.length : Int) then (paymasterref01_number.j1 k x0 x5 ((rd x0 x5) != 0) x393000 x393001) else (none)) else (none)) else (paymasterref01_number.j1 k x0 x5 false x393000 x393001)) else (some (x393000, x393001, true))
def paymasterref01_number.j1 : Nat → List Int → Int → Bool → Int → Int → Option (Int × Int × Bool)
 | 0, _, _, _, _, _ => none
 | k + 1, x0, x5, x21, x393000, x393001 => if x21 = true then (some (0, 0, false)) else (if x5 < 8 then (paymasterref01_number.j2 k x0 x5 (decide (x5 ≥ 4)) x393000 x393001) else (paymasterref01_number.j2 k x0 x5 false x393000 x393001))
def paymasterref01_number.j2 : Nat → List Int → Int → Bool → Int → Int → Option (Int × Int × Bool)
 | 0, _, _, _, _, _ => none
 | k + 1, x0, x5, x28, x393000, x393001 => if x28 = true then (if 0 ≤ x5 then (if x5 < (x0.length : Int) then (if x5 < 4 then (paymasterref01_number.l0 k x0 (wrap64 (x5 - 1)) (IntKind.u64.wrap ((IntKind.u64.wrap (x393000 * 65536)) + (rd x0 x5))) (IntKind.u64.wrap ((IntKind.u64.wrap (x393001 * 65536)) + (rd x0 x5)))) else (paymasterref01_number.l0 k x0 (wrap64 (x5 - 1)) (IntKind.u64.wrap ((IntKind.u64.wrap (x393000 * 65536)) + (rd x0 x5))) x393001)) else (none)) else (none)) else (if x5 < 4 then (if 0 ≤ x5 then (if x5 < (x0.length : Int) then (paymasterref01_number.l0 k x0 (wrap64 (x5 - 1)) x393000 (IntKind.u64.wrap ((IntKind.u64.wrap (x393001 * 65536)) + (rd x0 x5)))) else (none)) else (none)) else (paymasterref01_number.l0 k x0 (wrap64 (x5 - 1)) x393000 x393001))
end
def paymasterref01_number.f (k : Nat) (l0 : List Int) : Option (Int × Int × Bool) := paymasterref01_number.l0 k l0 (wrap64 ((l0.length : Int) - 1)) 0 0
theorem paymasterref01_number.mono_l : ∀ k, (∀ y0 y1 y2 y3, LeO (paymasterref01_number.l0 k y0 y1 y2 y3) (paymasterref01_number.l0 (k + 1) y0 y1 y2 y3)) ∧ (∀ y0 y1 y2 y3 y4, LeO (paymasterref01_number.j1 k y0 y1 y2 y3 y4) (paymasterref01_number.j1 (k + 1) y0 y1 y2 y3 y4)) ∧ (∀ y0 y1 y2 y3 y4, LeO (paymasterref01_number.j2 k y0 y1 y2 y3 y4) (paymasterref01_number.j2 (k + 1) y0 y1 y2 y3 y4))
 | 0 => ⟨fun _ _ _ _ r h => by simp [paymasterref01_number.l0] at h, fun _ _ _ _ _ r h => by simp [paymasterref01_number.j1] at h, fun _ _ _ _ _ r h => by simp [paymasterref01_number.j2] at h⟩
 | k + 1 => by
  obtain ⟨ih0, ih1, ih2⟩ := paymasterref01_number.mono_l k; refine ⟨?_, ?_, ?_⟩
  ·intro y0 y1 y2 y3; unfold paymasterref01_number.l0; repeat' first
   | (with_reducible exact ih0 _ _ _ _)
   | (with_reducible exact ih1 _ _ _ _ _)
   | (with_reducible exact ih2 _ _ _ _ _)
   | (with_reducible exact LeO.refl _)
   | (with_reducible exact LeO.none _)
   | (with_reducible refine LeO.ite ?_ ?_)
   | (with_reducible refine LeO.bind ?_ (fun _ => ?_))
   | exact ih0 _ _ _ _
   | exact ih1 _ _ _ _ _
   | exact ih2 _ _ _ _ _
   | exact LeO.none _
   | refine LeO.ite ?_ ?_
   | refine LeO.bind ?_ (fun _ => ?_)
  ·intro y0 y1 y2 y3 y4; unfold paymasterref01_number.j1; repeat' first
   | (with_reducible exact ih0 _ _ _ _)
   | (with_reducible exact ih1 _ _ _ _ _)
   | (with_reducible exact ih2 _ _ _ _ _)
   | (with_reducible exact LeO.refl _)
   | (with_reducible exact LeO.none _)
   | (with_reducible refine LeO.ite ?_ ?_)
   | (with_reducible refine LeO.bind ?_ (fun _ => ?_))
   | exact ih0 _ _ _ _
   | exact ih1 _ _ _ _ _
   | exact ih2 _ _ _ _ _
   | exact LeO.none _
   | refine LeO.ite ?_ ?_
   | refine LeO.bind ?_ (fun _ => ?_)
  ·intro y0 y1 y2 y3 y4; unfold paymasterref01_number.j2; repeat' first
   | (with_reducible exact ih0 _ _ _ _)
   | (with_reducible exact ih1 _ _ _ _ _)
   | (with_reducible exact ih2 _ _ _ _ _)
   | (with_reducible exact LeO.refl _)
   | (with_reducible exact LeO.none _)
   | (with_reducible refine LeO.ite ?_ ?_)
   | (with_reducible refine LeO.bind ?_ (fun _ => ?_))
   | exact ih0 _ _ _ _
   | exact ih1 _ _ _ _ _
   | exact ih2 _ _ _ _ _
   | exact LeO.none _
   | refine LeO.ite ?_ ?_
   | refine LeO.bind ?_ (fun _ => ?_)
theorem paymasterref01_number.mono : ∀ a0 k, LeO (paymasterref01_number.f k a0) (paymasterref01_number.f (k + 1) a0) := by
 intro a0 k; obtain ⟨ih0, ih1, ih2⟩ := paymasterref01_number.mono_l k; unfold paymasterref01_number.f
 repeat' first
   | (with_reducible exact ih0 _ _ _ _)
   | (with_reducible exact ih1 _ _ _ _ _)
   | (with_reducible exact ih2 _ _ _ _ _)
   | (with_reducible exact LeO.refl _)
   | (with_reducible exact LeO.none _)
   | (with_reducible refine LeO.ite ?_ ?_)
   | (with_reducible refine LeO.bind ?_ (fun _ => ?_))
   | exact ih0 _ _ _ _
   | exact ih1 _ _ _ _ _
   | exact ih2 _ _ _ _ _
   | exact LeO.none _
   | refine LeO.ite ?_ ?_
   | refine LeO.bind ?_ (fun _ => ?_)
def paymasterref01_number.T8 : Bool × List (List Nat × List Nat) := (true, [([], []), ([0], [0]), ([1], [1]), ([], []), ([], []), ([3, 4], [3, 4]), ([5], [5]), ([2, 6], [2, 6]), ([0, 1, 2, 3, 4, 5, 6, 7], []), ([8, 7, 0, 1, 2, 3, 4, 5, 6, 7], [7, 8])])
def paymasterref01_number.B8 : List Nat := [0, 1, 3, 0, 0, 24, 56, 127, 255, 511]
theorem paymasterref01_number.tab8 : rtab .any (opsOf Tryd.f129 8) = paymasterref01_number.T8 := by kernel_rfl
theorem paymasterref01_number.bits8 : waitsOk paymasterref01_number.T8.2 paymasterref01_number.B8 = true := by kernel_rfl
def paymasterref01_number.T10 : Bool × List (List Nat × List Nat) := (true, [([], []), ([0], [0]), ([1], [1]), ([], []), ([], []), ([3, 4], [3, 4]), ([5], [5]), ([2, 6], [2, 6]), ([0, 1, 2, 3, 4, 5, 6, 7], []), ([8, 7, 0, 1, 2, 3, 4, 5, 6, 7], [7, 8])])
def paymasterref01_number.B10 : List Nat := [0, 1, 3, 0, 0, 24, 56, 127, 255, 511]
theorem paymasterref01_number.tab10 : rtab .any (opsOf Tryd.f129 10) = paymasterref01_number.T10 := by kernel_rfl
theorem paymasterref01_number.bits10 : waitsOk paymasterref01_number.T10.2 paymasterref01_number.B10 = true := by kernel_rfl
set_option maxHeartbeats 8000000 in
set_option maxRecDepth 100000 in
theorem paymasterref01_number.calls (k : Nat) (A0 : Option Addr) (c0 : Nat) (l0 : List Int) (r1 : Int) (r2 : Int) (r3 : Bool) (w : World) (hr0 : Kd.C (Kd.int .u64) w A0 l0.length l0) (hc0 : l0.length ≤ c0) (h : paymasterref01_number.f k l0 = some (r1, r2, r3)) :
  Calls Tryd.prog 129 #[.slice A0 l0.length c0] w fun e w' => e = .returned (.tuple #[.agg #[.int .u64 r1, .int .u64 r2], .bool r3]) ∧ Below w.heap.size w w' := by
 have hu42 := Tryd.underlying42; have HR0 := Aside0.mk hr0; have HC0 := Aside0.mk hc0; clear hr0 hc0; have HB := Aside0.mk (Below.refl w.heap.size w); have H : (paymasterref01_number.l0 k l0 (wrap64 ((l0.length : Int) - 1)) 0 0) = some (r1, r2, r3) := h; clear h; have H' := Aside0.mk H; clear H; go_enter Tryd.func129, Tryd.ntmps129
 go_wp2_with (first | ((with_reducible refine zRq (N := 2) rfl ?_); refine zRn ?hg (N := 2) ?hd (cs := #[.int .u64 0, .int .u64 0]) (t := 42) ?hr ?_; (case hd => rfl); (case hg => rfl); (case hr => first | (go_simp; done) | (go_simp; rfl)); intro gb391 hg w2 hbox hb; have n0_ := Aside0.mk (zRd zv0 hb); have n1_ := Aside0.mk (hbox); have n2_ := Aside0.mk ((zv3w : w.heap.size ≤ gb391)); have n3_ := Aside0.mk ((zv3w : w.heap.size ≤ gb391)); clear HB; have HB := n0_; have BK391 := n1_; have GW391 := n2_; have GE391 := n3_; clear n0_ n1_ n2_ n3_; clear hb hbox hg) | ((with_reducible refine zRq (N := 4) rfl ?_); refine zRn ?hg (N := 4) ?hd (cs := #[.int .u64 0, .int .u64 0]) (t := 42) ?hr ?_; (case hd => rfl); (case hg => rfl); (case hr => first | (go_simp; done) | (go_simp; rfl)); intro gb392 hg w3 hbox hb; have n0_ := Aside0.mk (zRc (g := gb391) (o := .cells #[.int .u64 0, .int .u64 0] 42 (0, 0)) (zqb BK391.out) hb); have n1_ := Aside0.mk (zRd zv2c hb); have n2_ := Aside0.mk (hbox); have n3_ := Aside0.mk ((by rw [hg]; exact (zRg zv2c) : w.heap.size ≤ gb392)); have n4_ := Aside0.mk ((by rw [hg]; exact (zRg zv2c) : w.heap.size ≤ gb392)); have n5_ := Aside0.mk ((by rw [hg]; exact Nat.ne_of_lt (blk_lt (g := gb391) (o := .cells #[.int .u64 0, .int .u64 0] 42 (0, 0)) (zqb BK391.out)) : gb391 ≠ gb392)); have n6_ := Aside0.mk ((by rw [hg]; exact Nat.ne_of_gt (blk_lt (g := gb391) (o := .cells #[.int .u64 0, .int .u64 0] 42 (0, 0)) (zqb BK391.out)) : gb392 ≠ gb391)); clear BK391; clear HB; have BK391 := n0_; have HB := n1_; have BK392 := n2_; have GW392 := n3_; have GE392 := n4_; have NB391_392 := n5_; have NB392_391 := n6_; clear n0_ n1_ n2_ n3_ n4_ n5_ n6_; clear hb hbox hg))
 go_loopg [5] k (fun kq v5 w' => ∃ (x5_1 : Int) (x392000_1 : Int) (x392001_1 : Int) (x393000_1 : Int) (x393001_1 : Int), v5 = .int .i64 x5_1 ∧ Aside0 (paymasterref01_number.l0 kq l0 x5_1 x393000_1 x393001_1 = some (r1, r2, r3)) ∧ Aside0 (kq ≤ k) ∧ Aside0 (w'.heap[gb391]? = some (.cells #[.int .u64 x392000_1, .int .u64 x392001_1] 42 (0, 0))) ∧ Aside0 (w'.heap[gb392]? = some (.cells #[.int .u64 x393000_1, .int .u64 x393001_1] 42 (0, 0))) ∧ Aside0 (Below w.heap.size w w'))
 case atStart => exact ⟨(wrap64 ((l0.length : Int) - 1)), (0), (0), (0), (0), zv5, H', ⟨Nat.le_refl _⟩, ⟨zv1e⟩, ⟨zv1f⟩, ⟨zvh⟩⟩
 case round =>
  clear H'; try clear c1
  try clear p2
  obtain ⟨x5_1, x392000_1, x392001_1, x393000_1, x393001_1, rfl, HA, HK1, BK391, BK392, HB⟩ := hrel; cases gk with
  | zero => exact absurd HA.out (by simp [paymasterref01_number.l0])
  | succ k1 =>
   have H := HA.out; clear HA; simp only [paymasterref01_number.l0] at H
   by_cases c4 : x5_1 ≥ 0
   ·rw [if_pos c4] at H; have c4b0 : decide (0 ≤ x5_1) = true := decide_eq_true c4; clear c4; have HC5 := Aside0.mk H; clear H
    go_upto_region 5 with (fail)
    go_cut [21] (fun v21 wc => ∃ (kq : Nat) (x21_4 : Bool), v21 = .bool x21_4 ∧ Aside0 (paymasterref01_number.j1 kq l0 x5_1 x21_4 x393000_1 x393001_1 = some (r1, r2, r3)) ∧ Aside0 (kq ≤ k1) ∧ Aside0 (wc.heap[gb391]? = some (.cells #[.int .u64 x392000_1, .int .u64 x392001_1] 42 (0, 0))) ∧ Aside0 (wc.heap[gb392]? = some (.cells #[.int .u64 x393000_1, .int .u64 x393001_1] 42 (0, 0))) ∧ Aside0 (Below w.heap.size w wc))
    case first =>
     have H := HC5.out; clear HC5
     by_cases c6 : x5_1 ≥ 8
     ·rw [if_pos c6] at H; have c6b0 : decide (8 ≤ x5_1) = true := decide_eq_true c6; clear c6; (first | rw [c6b0] | (simp only [i64_w, i32_w]; rw [c6b0]) | skip)
      by_cases c7 : 0 ≤ x5_1
      ·rw [if_pos c7] at H; have c7b0 : decide (0 ≤ x5_1) = true := decide_eq_true c7; clear c7
       by_cases c8 : x5_1 < (l0.length : Int)
       ·rw [if_pos c8] at H; have c8b0 : decide (x5_1 < (l0.length : Int)) = true := decide_eq_true c8; clear c8; have H' := Aside0.mk H; clear H; have p393 : 0 ≤ (x5_1 : Int) := of_decide_eq_true zv6; have q393 : x5_1 < (l0.length : Int) := of_decide_eq_true zv6; obtain ⟨ad393, e393, hx393_0⟩ := Kd.at_int HR0.out x5_1 p393 q393; cases e393; replace hx393_0 := (HB.out.cell (World.block_lt_of_cell? w _ hx393_0)).trans hx393_0; replace p393 := eq_true p393; replace q393 := eq_true q393; go_wp2; go_meet
        case rel => exact ⟨_, (((rd l0 x5_1) != 0)), zv5, H', ⟨zv2p⟩, ⟨zv1e⟩, ⟨zv1f⟩, ⟨zvh⟩⟩
       ·rw [if_neg c8] at H; exact absurd H zv10
      ·rw [if_neg c7] at H; exact absurd H zv10
     ·rw [if_neg c6] at H; have c6b0 : decide (8 ≤ x5_1) = false := decide_eq_false c6; clear c6; (first | rw [c6b0] | (simp only [i64_w, i32_w]; rw [c6b0]) | skip)
      have H' := Aside0.mk H; clear H; go_wp2; go_meet
      case rel => exact ⟨_, (false), zv5, H', ⟨zv2p⟩, ⟨zv1e⟩, ⟨zv1f⟩, ⟨zvh⟩⟩
    case rest =>
     clear HC5; try clear c1
     try clear p2
     try clear p3
     try clear q3
     try clear hx3
     try clear c4
     try clear c4b0
     try clear c6
     try clear c6b0
     try clear p6
     try clear c7
     try clear c7b0
     try clear c8
     try clear c8b0
     try clear hx393_0
     try clear p2
     try clear p393
     try clear q393
     obtain ⟨kq, x21_4, rfl, HA, HJ4, BK391, BK392, HB⟩ := hcut; cases kq with
     | zero => exact absurd HA.out (by simp [paymasterref01_number.j1])
     | succ kj4 =>
      have H := HA.out; clear HA; simp only [paymasterref01_number.j1] at H
      by_cases c9 : x21_4 = true
      ·subst c9; have H1 : (some (0, 0, false)) = some (r1, r2, r3) := by rw [if_pos rfl] at H; exact H
       clear H; have H := H1; clear H1; simp only [Option.some.injEq, Prod.mk.injEq] at H; obtain ⟨rfl, rfl, rfl⟩ := H; have hnb10 := NB391_392.out; have hnc10 := NB392_391.out; have hcz11_0 : wc.cell? ⟨gb391, 0, none⟩ = some (.int .u64 x392000_1) := (zRa BK391.out 0).trans rfl; have hcz11_1 : wc.cell? ⟨gb391, 1, none⟩ = some (.int .u64 x392001_1) := (zRa BK391.out 1).trans rfl; have hfz11_0 := zRb BK391.out 0; have hfz11_1 := zRb BK391.out 1; go_wp2; refine bodyPost_ret (zRu rfl _ _ gb391 42 #[.int .u64 0, .int .u64 0] (0, 0) _ rfl (by refine zqb ?_; refine zRm (cs := #[.int .u64 0, .int .u64 x392001_1]) ?_ 1 _ rfl; refine zqb ?_; refine zRm (cs := #[.int .u64 x392000_1, .int .u64 x392001_1]) ?_ 0 _ rfl; refine zqb ?_; exact BK391.out) Tryd.underlying42 rfl (by kernel_rfl)) rfl ?_; exact ⟨zv8, zvh⟩
      ·replace c9 := Bool.eq_false_iff.mpr c9; subst c9; have H1 : (if x5_1 < 8 then (paymasterref01_number.j2 kj4 l0 x5_1 (decide (x5_1 ≥ 4)) x393000_1 x393001_1) else (paymasterref01_number.j2 kj4 l0 x5_1 false x393000_1 x393001_1)) = some (r1, r2, r3) := by rw [if_neg (show ¬ (false = true) by decide)] at H; exact H
       clear H; have H := H1; clear H1; have HC12 := Aside0.mk H; clear H
       go_upto_region 7 with (fail)
       go_cut [28] (fun v28 wc => ∃ (kq : Nat) (x28_11 : Bool), v28 = .bool x28_11 ∧ Aside0 (paymasterref01_number.j2 kq l0 x5_1 x28_11 x393000_1 x393001_1 = some (r1, r2, r3)) ∧ Aside0 (kq ≤ kj4) ∧ Aside0 (wc.heap[gb391]? = some (.cells #[.int .u64 x392000_1, .int .u64 x392001_1] 42 (0, 0))) ∧ Aside0 (wc.heap[gb392]? = some (.cells #[.int .u64 x393000_1, .int .u64 x393001_1] 42 (0, 0))) ∧ Aside0 (Below w.heap.size w wc))
       case first =>
        have H := HC12.out; clear HC12
        by_cases c13 : x5_1 < 8
        ·rw [if_pos c13] at H; have c13b0 : decide (x5_1 < 8) = true := decide_eq_true c13; clear c13; (first | rw [c13b0] | (simp only [i64_w, i32_w]; rw [c13b0]) | skip)
         have H' := Aside0.mk H; clear H; go_wp2; go_meet
         case rel => exact ⟨_, (decide (x5_1 ≥ 4)), zv5, H', ⟨zv3v⟩, ⟨zv1e⟩, ⟨zv1f⟩, ⟨zvh⟩⟩
        ·rw [if_neg c13] at H; have c13b0 : decide (x5_1 < 8) = false := decide_eq_false c13; clear c13; (first | rw [c13b0] | (simp only [i64_w, i32_w]; rw [c13b0]) | skip)
         have H' := Aside0.mk H; clear H; go_wp2; go_meet
         case rel => exact ⟨_, (false), zv5, H', ⟨zv3v⟩, ⟨zv1e⟩, ⟨zv1f⟩, ⟨zvh⟩⟩
       case rest =>
        clear HC12; try clear c1
        try clear p2
        try clear p3
        try clear q3
        try clear hx3
        try clear c4
        try clear c4b0
        try clear c6
        try clear c6b0
        try clear p6
        try clear c7
        try clear c7b0
        try clear c8
        try clear c8b0
        try clear c9
        try clear c10
        try clear c12
        try clear c13
        try clear c13b0
        try clear hcz11_0
        try clear hcz11_1
        try clear hfz11_0
        try clear hfz11_1
        try clear hx393_0
        try clear p2
        try clear p3
        try clear p393
        try clear p6
        try clear q3
        try clear q393
        obtain ⟨kq, x28_11, rfl, HA, HJ11, BK391, BK392, HB⟩ := hcut; cases kq with
        | zero => exact absurd HA.out (by simp [paymasterref01_number.j2])
        | succ kj11 =>
         have H := HA.out; clear HA; simp only [paymasterref01_number.j2] at H
         by_cases c14 : x28_11 = true
         ·subst c14; have H1 : (if 0 ≤ x5_1 then (if x5_1 < (l0.length : Int) then (if x5_1 < 4 then (paymasterref01_number.l0 kj11 l0 (wrap64 (x5_1 - 1)) (IntKind.u64.wrap ((IntKind.u64.wrap (x393000_1 * 65536)) + (rd l0 x5_1))) (IntKind.u64.wrap ((IntKind.u64.wrap (x393001_1 * 65536)) + (rd l0 x5_1)))) else (paymasterref01_number.l0 kj11 l0 (wrap64 (x5_1 - 1)) (IntKind.u64.wrap ((IntKind.u64.wrap (x393000_1 * 65536)) + (rd l0 x5_1))) x393001_1)) else (none)) else (none)) = some (r1, r2, r3) := by rw [if_pos rfl] at H; exact H
          clear H; have H := H1; clear H1
          by_cases c15 : 0 ≤ x5_1
          ·rw [if_pos c15] at H; have c15b0 : decide (0 ≤ x5_1) = true := decide_eq_true c15; clear c15
           by_cases c16 : x5_1 < (l0.length : Int)
           ·rw [if_pos c16] at H; have c16b0 : decide (x5_1 < (l0.length : Int)) = true := decide_eq_true c16; clear c16
            by_cases c17 : x5_1 < 4
            ·rw [if_pos c17] at H; have c17b0 : decide (x5_1 < 4) = true := decide_eq_true c17; clear c17; have H' := Aside0.mk H; clear H; try go_wp2
             have n0_ := Aside0.mk (zRk BK391.out); have n1_ := Aside0.mk (zRk BK392.out); have n2_ := Aside0.mk (zRj HB.out); clear BK391; clear BK392; clear HB; have BK391 := n0_; have BK392 := n1_; have HB := n2_; clear n0_ n1_ n2_; have p394 : 0 ≤ (x5_1 : Int) := of_decide_eq_true zv6; have q394 : x5_1 < (l0.length : Int) := of_decide_eq_true zv6; obtain ⟨ad394, e394, hx394_0⟩ := Kd.at_int HR0.out x5_1 p394 q394; have hw394_0 := hx394_0; cases e394; replace hx394_0 := (HB.out.cell (World.block_lt_of_cell? w _ hx394_0)).trans hx394_0; replace p394 := eq_true p394; replace q394 := eq_true q394; refine start_ (n := 10) (S := fun w' => w'.cell? ⟨gb392, 0, none⟩ = some (.int .u64 x393000_1) ∧ w'.cell? ⟨gb392, 1, none⟩ = some (.int .u64 x393001_1) ∧ w'.cell? (ad394.add (x5_1).toNat) = some (.int .u64 (rd l0 x5_1))) (ds := [9]) #[false, false, false, false, false, false, false, false, false, false] (by kernel_rfl) rfl rfl ⟨(zRa BK392.out 0).trans rfl, (zRa BK392.out 1).trans rfl, ((HB.out.cell (World.block_lt_of_cell? w _ hw394_0)).trans hw394_0)⟩ (fun hHeld => ?_); refine with_tabW paymasterref01_number.tab8 paymasterref01_number.bits8 (fun HT_ HW_ => ?_); generalize wc.drew = w18 at BK391 BK392 HB hx394_0 hHeld ⊢; refine pure_ (i := 0) (N := some 29) (v := ?_) (a' := ?_) #[true, false, false, false, false, false, false, false, false, false] rfl rfl (any_of HT_.out (by kernel_rfl)) (fun _ _ _ h => h) (Or.inl ⟨zvv, ?_⟩) ?_ ?_; rotate_left
             ·intro w'; go_simp; with_reducible rfl
             rotate_left
             ·simp only [Act.put, zsa, zsb, zsc, i64_w, i32_w]; rfl
             refine pure_ (i := 3) (N := some 32) (v := ?_) (a' := ?_) #[true, false, false, true, false, false, false, false, false, false] rfl rfl (any_of HT_.out (by kernel_rfl)) (fun _ _ _ h => h) (Or.inl ⟨zvv, ?_⟩) ?_ ?_; rotate_left
             ·intro w'; go_simp; with_reducible rfl
             rotate_left
             ·simp only [Act.put, zsa, zsb, zsc, i64_w, i32_w]; rfl
             refine pure_ (i := 4) (N := some 33) (v := ?_) (a' := ?_) #[true, false, false, true, true, false, false, false, false, false] rfl rfl (any_of HT_.out (by kernel_rfl)) (fun _ _ _ h => h) (Or.inl ⟨zvv, ?_⟩) ?_ ?_; rotate_left
             ·intro w'; go_simp; with_reducible rfl
             rotate_left
             ·simp only [Act.put, zsa, zsb, zsc, i64_w, i32_w]; rfl
             refine pure_ (i := 5) (N := some 34) (v := ?_) (a' := ?_) #[true, false, false, true, true, true, false, false, false, false] rfl rfl (any_of HT_.out (by kernel_rfl)) (fun _ _ _ h => h) (Or.inl ⟨zvv, ?_⟩) ?_ ?_; rotate_left
             ·intro w'; go_simp; with_reducible rfl
             rotate_left
             ·simp only [Act.put, zsa, zsb, zsc, i64_w, i32_w]; rfl
             refine take_ (i := 1) (N := some 30) (v := ?_) (a' := ?_) #[true, true, false, true, true, true, false, false, false, false] rfl rfl (zRA HT_.out HW_.out (by kernel_rfl)) (fun _ _ _ h => h) (Or.inl ⟨zvv, ?_⟩) hHeld ?_ ?_; rotate_left
             ·rintro w' ⟨s0, s1, s2⟩; go_simp; with_reducible rfl
             rotate_left
             ·simp only [Act.put, zsa, zsb, zsc, i64_w, i32_w]; rfl
             refine pure_ (i := 2) (N := some 31) (v := ?_) (a' := ?_) #[true, true, true, true, true, true, false, false, false, false] rfl rfl (any_of HT_.out (by kernel_rfl)) (fun _ _ _ h => h) (Or.inl ⟨zvv, ?_⟩) ?_ ?_; rotate_left
             ·intro w'; go_simp; with_reducible rfl
             rotate_left
             ·simp only [Act.put, zsa, zsb, zsc, i64_w, i32_w]; rfl
             refine take_ (i := 6) (N := some 35) (v := ?_) (a' := ?_) #[true, true, true, true, true, true, true, false, false, false] rfl rfl (zRA HT_.out HW_.out (by kernel_rfl)) (fun _ _ _ h => h) (Or.inl ⟨zvv, ?_⟩) hHeld ?_ ?_; rotate_left
             ·rintro w' ⟨s0, s1, s2⟩; go_simp; with_reducible rfl
             rotate_left
             ·simp only [Act.put, zsa, zsb, zsc, i64_w, i32_w]; rfl
             refine pure_ (i := 7) (N := some 36) (v := ?_) (a' := ?_) #[true, true, true, true, true, true, true, true, false, false] rfl rfl (any_of HT_.out (by kernel_rfl)) (fun _ _ _ h => h) (Or.inl ⟨zvv, ?_⟩) ?_ ?_; rotate_left
             ·intro w'; go_simp; with_reducible rfl
             rotate_left
             ·simp only [Act.put, zsa, zsb, zsc, i64_w, i32_w]; rfl
             refine pure_ (i := 8) (N := some 37) (v := ?_) (a' := ?_) #[true, true, true, true, true, true, true, true, true, false] rfl rfl (any_of HT_.out (by kernel_rfl)) (fun _ _ _ h => h) (Or.inl ⟨zvv, ?_⟩) ?_ ?_; rotate_left
             ·intro w'; go_simp; with_reducible rfl
             rotate_left
             ·simp only [Act.put, zsa, zsb, zsc, i64_w, i32_w]; rfl
             refine last_ (i := 9) (N := none) #[true, true, true, true, true, true, true, true, true, true] rfl rfl (one_of HT_.out (by kernel_rfl)) zvz (fun K hK => ?_); have hs19 : w18.cell? ⟨gb392, 0, none⟩ = some (.int .u64 x393000_1) := (zRa BK392.out 0).trans rfl; have hfs19 := zRb BK392.out 0; have hns19_0 := NB391_392.out; have hms19_0 := NB392_391.out; refine skip_ (w1 := ?_) zvv rfl ?_ ?_; rotate_left
             ·go_simp; rfl
             refine hK.out _ _ ?_; clear hK K; refine done_ (done_of HT_.out (by kernel_rfl)) ?_; try go_wp2
             have n0_ : Aside0 ((w18.setCell ⟨gb392, 0, none⟩ (.int .u64 (IntKind.u64.wrap ((IntKind.u64.wrap (x393000_1 * 65536)) + (rd l0 x5_1))))).heap[gb391]? = some (.cells #[.int .u64 x392000_1, .int .u64 x392001_1] 42 (0, 0))) := ⟨zv2n⟩
             have n1_ : Aside0 ((w18.setCell ⟨gb392, 0, none⟩ (.int .u64 (IntKind.u64.wrap ((IntKind.u64.wrap (x393000_1 * 65536)) + (rd l0 x5_1))))).heap[gb392]? = some (.cells #[.int .u64 (IntKind.u64.wrap ((IntKind.u64.wrap (x393000_1 * 65536)) + (rd l0 x5_1))), .int .u64 x393001_1] 42 (0, 0))) := ⟨zv39⟩
             have n2_ : Aside0 (Below w.heap.size w (w18.setCell ⟨gb392, 0, none⟩ (.int .u64 (IntKind.u64.wrap ((IntKind.u64.wrap (x393000_1 * 65536)) + (rd l0 x5_1)))))) := ⟨zvh⟩
             (try clear BK391)
             (try clear BK392)
             (try clear HB)
             generalize (w18.setCell ⟨gb392, 0, none⟩ (.int .u64 (IntKind.u64.wrap ((IntKind.u64.wrap (x393000_1 * 65536)) + (rd l0 x5_1))))) = w20 at n0_ n1_ n2_ ⊢; have BK391 := n0_; have BK392 := n1_; have HB := n2_; clear n0_ n1_ n2_; have n0_ := Aside0.mk (zRk BK391.out); have n1_ := Aside0.mk (zRk BK392.out); have n2_ := Aside0.mk (zRj HB.out); clear BK391; clear BK392; clear HB; have BK391 := n0_; have BK392 := n1_; have HB := n2_; clear n0_ n1_ n2_; have p395 : 0 ≤ (x5_1 : Int) := of_decide_eq_true zv6; have q395 : x5_1 < (l0.length : Int) := of_decide_eq_true zv6; obtain ⟨ad395, e395, hx395_0⟩ := Kd.at_int HR0.out x5_1 p395 q395; have hw395_0 := hx395_0; obtain rfl : ad394 = ad395 := (by injection e395)
             replace hx395_0 := (HB.out.cell (World.block_lt_of_cell? w _ hx395_0)).trans hx395_0; replace p395 := eq_true p395; replace q395 := eq_true q395; refine start_ (n := 10) (S := fun w' => w'.cell? ⟨gb392, 0, none⟩ = some (.int .u64 (IntKind.u64.wrap ((IntKind.u64.wrap (x393000_1 * 65536)) + (rd l0 x5_1)))) ∧ w'.cell? ⟨gb392, 1, none⟩ = some (.int .u64 x393001_1) ∧ w'.cell? (ad394.add (x5_1).toNat) = some (.int .u64 (rd l0 x5_1))) (ds := [9]) #[false, false, false, false, false, false, false, false, false, false] (by kernel_rfl) rfl rfl ⟨(zRa BK392.out 0).trans rfl, (zRa BK392.out 1).trans rfl, ((HB.out.cell (World.block_lt_of_cell? w _ hw395_0)).trans hw395_0)⟩ (fun hHeld => ?_); refine with_tabW paymasterref01_number.tab10 paymasterref01_number.bits10 (fun HT_ HW_ => ?_); generalize w20.drew = w21 at BK391 BK392 HB hx395_0 hHeld ⊢; refine pure_ (i := 0) (N := some 40) (v := ?_) (a' := ?_) #[true, false, false, false, false, false, false, false, false, false] rfl rfl (any_of HT_.out (by kernel_rfl)) (fun _ _ _ h => h) (Or.inl ⟨zvv, ?_⟩) ?_ ?_; rotate_left
             ·intro w'; go_simp; with_reducible rfl
             rotate_left
             ·simp only [Act.put, zsa, zsb, zsc, i64_w, i32_w]; rfl
             refine pure_ (i := 3) (N := some 43) (v := ?_) (a' := ?_) #[true, false, false, true, false, false, false, false, false, false] rfl rfl (any_of HT_.out (by kernel_rfl)) (fun _ _ _ h => h) (Or.inl ⟨zvv, ?_⟩) ?_ ?_; rotate_left
             ·intro w'; go_simp; with_reducible rfl
             rotate_left
             ·simp only [Act.put, zsa, zsb, zsc, i64_w, i32_w]; rfl
             refine pure_ (i := 4) (N := some 44) (v := ?_) (a' := ?_) #[true, false, false, true, true, false, false, false, false, false] rfl rfl (any_of HT_.out (by kernel_rfl)) (fun _ _ _ h => h) (Or.inl ⟨zvv, ?_⟩) ?_ ?_; rotate_left
             ·intro w'; go_simp; with_reducible rfl
             rotate_left
             ·simp only [Act.put, zsa, zsb, zsc, i64_w, i32_w]; rfl
             refine pure_ (i := 5) (N := some 45) (v := ?_) (a' := ?_) #[true, false, false, true, true, true, false, false, false, false] rfl rfl (any_of HT_.out (by kernel_rfl)) (fun _ _ _ h => h) (Or.inl ⟨zvv, ?_⟩) ?_ ?_; rotate_left
             ·intro w'; go_simp; with_reducible rfl
             rotate_left
             ·simp only [Act.put, zsa, zsb, zsc, i64_w, i32_w]; rfl
             refine take_ (i := 1) (N := some 41) (v := ?_) (a' := ?_) #[true, true, false, true, true, true, false, false, false, false] rfl rfl (zRA HT_.out HW_.out (by kernel_rfl)) (fun _ _ _ h => h) (Or.inl ⟨zvv, ?_⟩) hHeld ?_ ?_; rotate_left
             ·rintro w' ⟨s0, s1, s2⟩; go_simp; with_reducible rfl
             rotate_left
             ·simp only [Act.put, zsa, zsb, zsc, i64_w, i32_w]; rfl
             refine pure_ (i := 2) (N := some 42) (v := ?_) (a' := ?_) #[true, true, true, true, true, true, false, false, false, false] rfl rfl (any_of HT_.out (by kernel_rfl)) (fun _ _ _ h => h) (Or.inl ⟨zvv, ?_⟩) ?_ ?_; rotate_left
             ·intro w'; go_simp; with_reducible rfl
             rotate_left
             ·simp only [Act.put, zsa, zsb, zsc, i64_w, i32_w]; rfl
             refine take_ (i := 6) (N := some 46) (v := ?_) (a' := ?_) #[true, true, true, true, true, true, true, false, false, false] rfl rfl (zRA HT_.out HW_.out (by kernel_rfl)) (fun _ _ _ h => h) (Or.inl ⟨zvv, ?_⟩) hHeld ?_ ?_; rotate_left
             ·rintro w' ⟨s0, s1, s2⟩; go_simp; with_reducible rfl
             rotate_left
             ·simp only [Act.put, zsa, zsb, zsc, i64_w, i32_w]; rfl
             refine pure_ (i := 7) (N := some 47) (v := ?_) (a' := ?_) #[true, true, true, true, true, true, true, true, false, false] rfl rfl (any_of HT_.out (by kernel_rfl)) (fun _ _ _ h => h) (Or.inl ⟨zvv, ?_⟩) ?_ ?_; rotate_left
             ·intro w'; go_simp; with_reducible rfl
             rotate_left
             ·simp only [Act.put, zsa, zsb, zsc, i64_w, i32_w]; rfl
             refine pure_ (i := 8) (N := some 48) (v := ?_) (a' := ?_) #[true, true, true, true, true, true, true, true, true, false] rfl rfl (any_of HT_.out (by kernel_rfl)) (fun _ _ _ h => h) (Or.inl ⟨zvv, ?_⟩) ?_ ?_; rotate_left
             ·intro w'; go_simp; with_reducible rfl
             rotate_left
             ·simp only [Act.put, zsa, zsb, zsc, i64_w, i32_w]; rfl
             refine last_ (i := 9) (N := none) #[true, true, true, true, true, true, true, true, true, true] rfl rfl (one_of HT_.out (by kernel_rfl)) zvz (fun K hK => ?_); have hs22 : w21.cell? ⟨gb392, 1, none⟩ = some (.int .u64 x393001_1) := (zRa BK392.out 1).trans rfl; have hfs22 := zRb BK392.out 1; have hns22_0 := NB391_392.out; have hms22_0 := NB392_391.out; refine skip_ (w1 := ?_) zvv rfl ?_ ?_; rotate_left
             ·go_simp; rfl
             refine hK.out _ _ ?_; clear hK K; refine done_ (done_of HT_.out (by kernel_rfl)) ?_; try go_wp2
             go_roundg kj11
             case measure => have := HK1.out; have := HJ4.out; have := HJ11.out; omega
             case rel => exact ⟨(wrap64 (x5_1 - 1)), (x392000_1), (x392001_1), (IntKind.u64.wrap ((IntKind.u64.wrap (x393000_1 * 65536)) + (rd l0 x5_1))), (IntKind.u64.wrap ((IntKind.u64.wrap (x393001_1 * 65536)) + (rd l0 x5_1))), zv5, H', ⟨zv2s⟩, ⟨zv2n⟩, ⟨(by refine zqb ?_; refine zRm (cs := #[.int .u64 (IntKind.u64.wrap ((IntKind.u64.wrap (x393000_1 * 65536)) + (rd l0 x5_1))), .int .u64 x393001_1]) ?_ 1 _ rfl; refine zqb ?_; exact BK392.out)⟩, ⟨zvh⟩⟩
            ·rw [if_neg c17] at H; have c17b0 : decide (x5_1 < 4) = false := decide_eq_false c17; clear c17; have H' := Aside0.mk H; clear H; try go_wp2
             have n0_ := Aside0.mk (zRk BK391.out); have n1_ := Aside0.mk (zRk BK392.out); have n2_ := Aside0.mk (zRj HB.out); clear BK391; clear BK392; clear HB; have BK391 := n0_; have BK392 := n1_; have HB := n2_; clear n0_ n1_ n2_; have p394 : 0 ≤ (x5_1 : Int) := of_decide_eq_true zv6; have q394 : x5_1 < (l0.length : Int) := of_decide_eq_true zv6; obtain ⟨ad394, e394, hx394_0⟩ := Kd.at_int HR0.out x5_1 p394 q394; have hw394_0 := hx394_0; cases e394; replace hx394_0 := (HB.out.cell (World.block_lt_of_cell? w _ hx394_0)).trans hx394_0; replace p394 := eq_true p394; replace q394 := eq_true q394; refine start_ (n := 10) (S := fun w' => w'.cell? ⟨gb392, 0, none⟩ = some (.int .u64 x393000_1) ∧ w'.cell? ⟨gb392, 1, none⟩ = some (.int .u64 x393001_1) ∧ w'.cell? (ad394.add (x5_1).toNat) = some (.int .u64 (rd l0 x5_1))) (ds := [9]) #[false, false, false, false, false, false, false, false, false, false] (by kernel_rfl) rfl rfl ⟨(zRa BK392.out 0).trans rfl, (zRa BK392.out 1).trans rfl, ((HB.out.cell (World.block_lt_of_cell? w _ hw394_0)).trans hw394_0)⟩ (fun hHeld => ?_); refine with_tabW paymasterref01_number.tab8 paymasterref01_number.bits8 (fun HT_ HW_ => ?_); generalize wc.drew = w23 at BK391 BK392 HB hx394_0 hHeld ⊢; refine pure_ (i := 0) (N := some 29) (v := ?_) (a' := ?_) #[true, false, false, false, false, false, false, false, false, false] rfl rfl (any_of HT_.out (by kernel_rfl)) (fun _ _ _ h => h) (Or.inl ⟨zvv, ?_⟩) ?_ ?_; rotate_left
             ·intro w'; go_simp; with_reducible rfl
             rotate_left
             ·simp only [Act.put, zsa, zsb, zsc, i64_w, i32_w]; rfl
             refine pure_ (i := 3) (N := some 32) (v := ?_) (a' := ?_) #[true, false, false, true, false, false, false, false, false, false] rfl rfl (any_of HT_.out (by kernel_rfl)) (fun _ _ _ h => h) (Or.inl ⟨zvv, ?_⟩) ?_ ?_; rotate_left
             ·intro w'; go_simp; with_reducible rfl
             rotate_left
             ·simp only [Act.put, zsa, zsb, zsc, i64_w, i32_w]; rfl
             refine pure_ (i := 4) (N := some 33) (v := ?_) (a' := ?_) #[true, false, false, true, true, false, false, false, false, false] rfl rfl (any_of HT_.out (by kernel_rfl)) (fun _ _ _ h => h) (Or.inl ⟨zvv, ?_⟩) ?_ ?_; rotate_left
             ·intro w'; go_simp; with_reducible rfl
             rotate_left
             ·simp only [Act.put, zsa, zsb, zsc, i64_w, i32_w]; rfl
             refine pure_ (i := 5) (N := some 34) (v := ?_) (a' := ?_) #[true, false, false, true, true, true, false, false, false, false] rfl rfl (any_of HT_.out (by kernel_rfl)) (fun _ _ _ h => h) (Or.inl ⟨zvv, ?_⟩) ?_ ?_; rotate_left
             ·intro w'; go_simp; with_reducible rfl
             rotate_left
             ·simp only [Act.put, zsa, zsb, zsc, i64_w, i32_w]; rfl
             refine take_ (i := 1) (N := some 30) (v := ?_) (a' := ?_) #[true, true, false, true, true, true, false, false, false, false] rfl rfl (zRA HT_.out HW_.out (by kernel_rfl)) (fun _ _ _ h => h) (Or.inl ⟨zvv, ?_⟩) hHeld ?_ ?_; rotate_left
             ·rintro w' ⟨s0, s1, s2⟩; go_simp; with_reducible rfl
             rotate_left
             ·simp only [Act.put, zsa, zsb, zsc, i64_w, i32_w]; rfl
             refine pure_ (i := 2) (N := some 31) (v := ?_) (a' := ?_) #[true, true, true, true, true, true, false, false, false, false] rfl rfl (any_of HT_.out (by kernel_rfl)) (fun _ _ _ h => h) (Or.inl ⟨zvv, ?_⟩) ?_ ?_; rotate_left
             ·intro w'; go_simp; with_reducible rfl
             rotate_left
             ·simp only [Act.put, zsa, zsb, zsc, i64_w, i32_w]; rfl
             refine take_ (i := 6) (N := some 35) (v := ?_) (a' := ?_) #[true, true, true, true, true, true, true, false, false, false] rfl rfl (zRA HT_.out HW_.out (by kernel_rfl)) (fun _ _ _ h => h) (Or.inl ⟨zvv, ?_⟩) hHeld ?_ ?_; rotate_left
             ·rintro w' ⟨s0, s1, s2⟩; go_simp; with_reducible rfl
             rotate_left
             ·simp only [Act.put, zsa, zsb, zsc, i64_w, i32_w]; rfl
             refine pure_ (i := 7) (N := some 36) (v := ?_) (a' := ?_) #[true, true, true, true, true, true, true, true, false, false] rfl rfl (any_of HT_.out (by kernel_rfl)) (fun _ _ _ h => h) (Or.inl ⟨zvv, ?_⟩) ?_ ?_; rotate_left
             ·intro w'; go_simp; with_reducible rfl
             rotate_left
             ·simp only [Act.put, zsa, zsb, zsc, i64_w, i32_w]; rfl
             refine pure_ (i := 8) (N := some 37) (v := ?_) (a' := ?_) #[true, true, true, true, true, true, true, true, true, false] rfl rfl (any_of HT_.out (by kernel_rfl)) (fun _ _ _ h => h) (Or.inl ⟨zvv, ?_⟩) ?_ ?_; rotate_left
             ·intro w'; go_simp; with_reducible rfl
             rotate_left
             ·simp only [Act.put, zsa, zsb, zsc, i64_w, i32_w]; rfl
             refine last_ (i := 9) (N := none) #[true, true, true, true, true, true, true, true, true, true] rfl rfl (one_of HT_.out (by kernel_rfl)) zvz (fun K hK => ?_); have hs24 : w23.cell? ⟨gb392, 0, none⟩ = some (.int .u64 x393000_1) := (zRa BK392.out 0).trans rfl; have hfs24 := zRb BK392.out 0; have hns24_0 := NB391_392.out; have hms24_0 := NB392_391.out; refine skip_ (w1 := ?_) zvv rfl ?_ ?_; rotate_left
             ·go_simp; rfl
             refine hK.out _ _ ?_; clear hK K; refine done_ (done_of HT_.out (by kernel_rfl)) ?_; try go_wp2
             go_roundg kj11
             case measure => have := HK1.out; have := HJ4.out; have := HJ11.out; omega
             case rel => exact ⟨(wrap64 (x5_1 - 1)), (x392000_1), (x392001_1), (IntKind.u64.wrap ((IntKind.u64.wrap (x393000_1 * 65536)) + (rd l0 x5_1))), (x393001_1), zv5, H', ⟨zv2s⟩, ⟨zv2n⟩, ⟨zv39⟩, ⟨zvh⟩⟩
           ·rw [if_neg c16] at H; exact absurd H zv10
          ·rw [if_neg c15] at H; exact absurd H zv10
         ·replace c14 := Bool.eq_false_iff.mpr c14; subst c14; have H1 : (if x5_1 < 4 then (if 0 ≤ x5_1 then (if x5_1 < (l0.length : Int) then (paymasterref01_number.l0 kj11 l0 (wrap64 (x5_1 - 1)) x393000_1 (IntKind.u64.wrap ((IntKind.u64.wrap (x393001_1 * 65536)) + (rd l0 x5_1)))) else (none)) else (none)) else (paymasterref01_number.l0 kj11 l0 (wrap64 (x5_1 - 1)) x393000_1 x393001_1)) = some (r1, r2, r3) := by rw [if_neg (show ¬ (false = true) by decide)] at H; exact H
          clear H; have H := H1; clear H1
          by_cases c25 : x5_1 < 4
          ·rw [if_pos c25] at H; have c25b0 : decide (x5_1 < 4) = true := decide_eq_true c25; clear c25
           by_cases c26 : 0 ≤ x5_1
           ·rw [if_pos c26] at H; have c26b0 : decide (0 ≤ x5_1) = true := decide_eq_true c26; clear c26
            by_cases c27 : x5_1 < (l0.length : Int)
            ·rw [if_pos c27] at H; have c27b0 : decide (x5_1 < (l0.length : Int)) = true := decide_eq_true c27; clear c27; have H' := Aside0.mk H; clear H; try go_wp2
             have n0_ := Aside0.mk (zRk BK391.out); have n1_ := Aside0.mk (zRk BK392.out); have n2_ := Aside0.mk (zRj HB.out); clear BK391; clear BK392; clear HB; have BK391 := n0_; have BK392 := n1_; have HB := n2_; clear n0_ n1_ n2_; have p396 : 0 ≤ (x5_1 : Int) := of_decide_eq_true zv6; have q396 : x5_1 < (l0.length : Int) := of_decide_eq_true zv6; obtain ⟨ad396, e396, hx396_0⟩ := Kd.at_int HR0.out x5_1 p396 q396; have hw396_0 := hx396_0; cases e396; replace hx396_0 := (HB.out.cell (World.block_lt_of_cell? w _ hx396_0)).trans hx396_0; replace p396 := eq_true p396; replace q396 := eq_true q396; refine start_ (n := 10) (S := fun w' => w'.cell? ⟨gb392, 0, none⟩ = some (.int .u64 x393000_1) ∧ w'.cell? ⟨gb392, 1, none⟩ = some (.int .u64 x393001_1) ∧ w'.cell? (ad396.add (x5_1).toNat) = some (.int .u64 (rd l0 x5_1))) (ds := [9]) #[false, false, false, false, false, false, false, false, false, false] (by kernel_rfl) rfl rfl ⟨(zRa BK392.out 0).trans rfl, (zRa BK392.out 1).trans rfl, ((HB.out.cell (World.block_lt_of_cell? w _ hw396_0)).trans hw396_0)⟩ (fun hHeld => ?_); refine with_tabW paymasterref01_number.tab10 paymasterref01_number.bits10 (fun HT_ HW_ => ?_); generalize wc.drew = w28 at BK391 BK392 HB hx396_0 hHeld ⊢; refine pure_ (i := 0) (N := some 40) (v := ?_) (a' := ?_) #[true, false, false, false, false, false, false, false, false, false] rfl rfl (any_of HT_.out (by kernel_rfl)) (fun _ _ _ h => h) (Or.inl ⟨zvv, ?_⟩) ?_ ?_; rotate_left
             ·intro w'; go_simp; with_reducible rfl
             rotate_left
             ·simp only [Act.put, zsa, zsb, zsc, i64_w, i32_w]; rfl
             refine pure_ (i := 3) (N := some 43) (v := ?_) (a' := ?_) #[true, false, false, true, false, false, false, false, false, false] rfl rfl (any_of HT_.out (by kernel_rfl)) (fun _ _ _ h => h) (Or.inl ⟨zvv, ?_⟩) ?_ ?_; rotate_left
             ·intro w'; go_simp; with_reducible rfl
             rotate_left
             ·simp only [Act.put, zsa, zsb, zsc, i64_w, i32_w]; rfl
             refine pure_ (i := 4) (N := some 44) (v := ?_) (a' := ?_) #[true, false, false, true, true, false, false, false, false, false] rfl rfl (any_of HT_.out (by kernel_rfl)) (fun _ _ _ h => h) (Or.inl ⟨zvv, ?_⟩) ?_ ?_; rotate_left
             ·intro w'; go_simp; with_reducible rfl
             rotate_left
             ·simp only [Act.put, zsa, zsb, zsc, i64_w, i32_w]; rfl
             refine pure_ (i := 5) (N := some 45) (v := ?_) (a' := ?_) #[true, false, false, true, true, true, false, false, false, false] rfl rfl (any_of HT_.out (by kernel_rfl)) (fun _ _ _ h => h) (Or.inl ⟨zvv, ?_⟩) ?_ ?_; rotate_left
             ·intro w'; go_simp; with_reducible rfl
             rotate_left
             ·simp only [Act.put, zsa, zsb, zsc, i64_w, i32_w]; rfl
             refine take_ (i := 1) (N := some 41) (v := ?_) (a' := ?_) #[true, true, false, true, true, true, false, false, false, false] rfl rfl (zRA HT_.out HW_.out (by kernel_rfl)) (fun _ _ _ h => h) (Or.inl ⟨zvv, ?_⟩) hHeld ?_ ?_; rotate_left
             ·rintro w' ⟨s0, s1, s2⟩; go_simp; with_reducible rfl
             rotate_left
             ·simp only [Act.put, zsa, zsb, zsc, i64_w, i32_w]; rfl
             refine pure_ (i := 2) (N := some 42) (v := ?_) (a' := ?_) #[true, true, true, true, true, true, false, false, false, false] rfl rfl (any_of HT_.out (by kernel_rfl)) (fun _ _ _ h => h) (Or.inl ⟨zvv, ?_⟩) ?_ ?_; rotate_left
             ·intro w'; go_simp; with_reducible rfl
             rotate_left
             ·simp only [Act.put, zsa, zsb, zsc, i64_w, i32_w]; rfl
             refine take_ (i := 6) (N := some 46) (v := ?_) (a' := ?_) #[true, true, true, true, true, true, true, false, false, false] rfl rfl (zRA HT_.out HW_.out (by kernel_rfl)) (fun _ _ _ h => h) (Or.inl ⟨zvv, ?_⟩) hHeld ?_ ?_; rotate_left
             ·rintro w' ⟨s0, s1, s2⟩; go_simp; with_reducible rfl
             rotate_left
             ·simp only [Act.put, zsa, zsb, zsc, i64_w, i32_w]; rfl
             refine pure_ (i := 7) (N := some 47) (v := ?_) (a' := ?_) #[true, true, true, true, true, true, true, true, false, false] rfl rfl (any_of HT_.out (by kernel_rfl)) (fun _ _ _ h => h) (Or.inl ⟨zvv, ?_⟩) ?_ ?_; rotate_left
             ·intro w'; go_simp; with_reducible rfl
             rotate_left
             ·simp only [Act.put, zsa, zsb, zsc, i64_w, i32_w]; rfl
             refine pure_ (i := 8) (N := some 48) (v := ?_) (a' := ?_) #[true, true, true, true, true, true, true, true, true, false] rfl rfl (any_of HT_.out (by kernel_rfl)) (fun _ _ _ h => h) (Or.inl ⟨zvv, ?_⟩) ?_ ?_; rotate_left
             ·intro w'; go_simp; with_reducible rfl
             rotate_left
             ·simp only [Act.put, zsa, zsb, zsc, i64_w, i32_w]; rfl
             refine last_ (i := 9) (N := none) #[true, true, true, true, true, true, true, true, true, true] rfl rfl (one_of HT_.out (by kernel_rfl)) zvz (fun K hK => ?_); have hs29 : w28.cell? ⟨gb392, 1, none⟩ = some (.int .u64 x393001_1) := (zRa BK392.out 1).trans rfl; have hfs29 := zRb BK392.out 1; have hns29_0 := NB391_392.out; have hms29_0 := NB392_391.out; refine skip_ (w1 := ?_) zvv rfl ?_ ?_; rotate_left
             ·go_simp; rfl
             refine hK.out _ _ ?_; clear hK K; refine done_ (done_of HT_.out (by kernel_rfl)) ?_; try go_wp2
             go_roundg kj11
             case measure => have := HK1.out; have := HJ4.out; have := HJ11.out; omega
             case rel => exact ⟨(wrap64 (x5_1 - 1)), (x392000_1), (x392001_1), (x393000_1), (IntKind.u64.wrap ((IntKind.u64.wrap (x393001_1 * 65536)) + (rd l0 x5_1))), zv5, H', ⟨zv2s⟩, ⟨zv2n⟩, ⟨(by refine zqb ?_; refine zRm (cs := #[.int .u64 x393000_1, .int .u64 x393001_1]) ?_ 1 _ rfl; refine zqb ?_; exact BK392.out)⟩, ⟨zvh⟩⟩
            ·rw [if_neg c27] at H; exact absurd H zv10
           ·rw [if_neg c26] at H; exact absurd H zv10
          ·rw [if_neg c25] at H; have c25b0 : decide (x5_1 < 4) = false := decide_eq_false c25; clear c25; have H' := Aside0.mk H; clear H; go_wp2; go_roundg kj11
           case measure => have := HK1.out; have := HJ4.out; have := HJ11.out; omega
           case rel => exact ⟨(wrap64 (x5_1 - 1)), (x392000_1), (x392001_1), (x393000_1), (x393001_1), zv5, H', ⟨zv2s⟩, ⟨zv1e⟩, ⟨zv1f⟩, ⟨zvh⟩⟩
   ·rw [if_neg c4] at H; have c4b0 : decide (0 ≤ x5_1) = false := decide_eq_false c4; clear c4; simp only [Option.some.injEq, Prod.mk.injEq] at H; obtain ⟨rfl, rfl, rfl⟩ := H; have hnb30 := NB392_391.out; have hnc30 := NB391_392.out; have hcz31_0 : wr.cell? ⟨gb392, 0, none⟩ = some (.int .u64 x393000_1) := (zRa BK392.out 0).trans rfl; have hcz31_1 : wr.cell? ⟨gb392, 1, none⟩ = some (.int .u64 x393001_1) := (zRa BK392.out 1).trans rfl; have hfz31_0 := zRb BK392.out 0; have hfz31_1 := zRb BK392.out 1; have hcz32_0 : wr.cell? ⟨gb391, 0, none⟩ = some (.int .u64 x392000_1) := (zRa BK391.out 0).trans rfl; have hcz32_1 : wr.cell? ⟨gb391, 1, none⟩ = some (.int .u64 x392001_1) := (zRa BK391.out 1).trans rfl; have hfz32_0 := zRb BK391.out 0; have hfz32_1 := zRb BK391.out 1; go_wp2; refine bodyPost_ret (zRu rfl _ _ gb391 42 #[.int .u64 x393000_1, .int .u64 x393001_1] (0, 0) _ rfl (by refine zqb ?_; refine zRm (cs := #[.int .u64 x393000_1, .int .u64 x392001_1]) ?_ 1 _ rfl; refine zqb ?_; refine zRm (cs := #[.int .u64 x392000_1, .int .u64 x392001_1]) ?_ 0 _ rfl; refine zqb ?_; exact BK391.out) Tryd.underlying42 rfl (by kernel_rfl)) rfl ?_; exact ⟨zv8, zvh⟩
end Go.Proofs.YtpkjpiphjdpegaaDoor.P
