/- A program of this session wrote this text out of the session's own texts. (part 15 of 45) -/
import Derived.Test.YtpkjpiphjdpegaaDoorCLedgerImportsQ
import Derived.Test.YtpkjpiphjdpegaaDoorCLedgerImports13
import Derived.Test.YtpkjpiphjdpegaaDoorCLedgerImports14
import Derived.Test.YtpkjpiphjdpegaaDoorProg
import Derived.Shelf.SlSortCmp.KitK
import Derived.Sort.WalkB2
import Derived.Sort.WalkB12
import Derived.Deep.LoopGhost
import Derived.Lib.Walk
namespace Go.Proofs.YtpkjpiphjdpegaaDoor.Z
open Go.Shelf Go.RowKit Go.Lib Go.Sort Go.Proofs
set_option linter.unusedVariables false
set_option linter.unusedSimpArgs false
variable {α : Type} [Inhabited α]

set_option maxHeartbeats 4000000 in
set_option maxRecDepth 1000000 in
theorem swapRange_is (k : Nat) (aE : ∀ w, (isAgg 44).run Tryd.prog w = .ok true w) (zE : ∀ w, (Go.sizeOf 44).run Tryd.prog w = .ok k w) (enc : α → List Value) (g : Nat) (cb : Array Value) (blk off cap a b n : Nat) (d0 d : Array α) (w0 w : World)
  (R : RowK enc k w0 blk off d0) (hs : d0.size = d.size) (S : SWK enc k w0 blk off d w) (hab : a + n ≤ b) (hb : b + n ≤ d.size) (hsz : d.size < 4611686018427387904) :
  Calls Tryd.prog 144 #[.slice (some ⟨blk, off, none⟩) d.size cap, .int .i64 a, .int .i64 b, .int .i64 n, .func (.func g) #[] cb] w fun e w' => e = .returned (.tuple #[]) ∧ ∃ d', SWK enc k w0 blk off d' w' ∧ PermIn a (b + n) d d' ∧ ∀ x, d'[x]! = d[swapped a b n x]! := by
 have S0 : Aside (SWK enc k w0 blk off d w) := S; clear S; have mixed : Tryd.prog.follows .mixedOrders = true := by kernel_rfl
 go_enter Tryd.func144, Tryd.ntmps144; go_wp2
 go_loopg [10] n (fun kx s10 wr => ∃ (i : Nat) (dk : Array α), s10 = .int .i64 i ∧ i ≤ n ∧ n - i ≤ kx ∧ dk.size = d.size ∧ Aside (SWK enc k w0 blk off dk wr) ∧ Hid (PermIn a (b + n) d dk) ∧ Hid (∀ x, dk[x]! = d[swapped a b i x]!))
 case atStart => exact ⟨0, d, rfl, Nat.zero_le _, zv1, rfl, S0, permIn_refl _ _ _, fun x => by rw [swapped_zero]⟩
 case round =>
  clear S0; obtain ⟨i, dk, rfl, hi, hkx, hds, S1, HP, HG⟩ := hrel
  by_cases hlt : i < n
  ·have hltz : (i : Int) < (n : Int) := by omega
   have ea1 : ((a : Int) + (i : Int)).toNat = a + i := by omega
   have pa1 : (0 : Int) ≤ (a : Int) + (i : Int) := by omega
   have ba1 : (a : Int) + (i : Int) < (d.size : Int) := by omega
   have ra1 : IntKind.i64.wrap ((a : Int) + (i : Int)) = (a : Int) + (i : Int) := by rw [IntKind.wrap_i64]; omega
   have ec1 : ((b : Int) + (i : Int)).toNat = b + i := by omega
   have pc1 : (0 : Int) ≤ (b : Int) + (i : Int) := by omega
   have bc1 : (b : Int) + (i : Int) < (d.size : Int) := by omega
   have rc1 : IntKind.i64.wrap ((b : Int) + (i : Int)) = (b : Int) + (i : Int) := by rw [IntKind.wrap_i64]; omega
   have S2 : Aside (SWK enc k w0 blk off (swp dk (a + i) (b + i)) ((wr.drew.setCells blk (off + (a + i) * k) (enc dk[b + i]!)).setCells blk (off + (b + i) * k) (enc dk[a + i]!))) := S1.out.swapped R (a + i) (b + i) zv1 zv1; have l1a := S1.out.ld1 R zv1 Tryd.prog (a + i) zv1; have l1b := S1.out.ld1 R zv1 Tryd.prog (b + i) zv1; have s1a := S1.out.st1 R zv1 Tryd.prog (a + i) zv1 dk[b + i]!; have s1b := S1.out.st2 R zv1 Tryd.prog (a + i) (b + i) zv1 zv1 dk[b + i]! dk[a + i]!; have n1a : (enc dk[a + i]!).length = k := R.hk _; have n1b : (enc dk[b + i]!).length = k := R.hk _; generalize enc dk[a + i]! = cI1 at S2 l1a s1b n1a; generalize enc dk[b + i]! = cJ1 at S2 l1b s1a s1b n1b; clear S1
   go_wp2_with fail
   go_big_region_o
   clear l1a l1b s1a s1b; generalize (wr.drew.setCells blk (off + (a + i) * k) cJ1).setCells blk (off + (b + i) * k) cI1 = w2 at S2 ⊢; go_wp2; go_roundg (n - (i + 1))
   case measure => omega
   case rel => exact ⟨i + 1, swp dk (a + i) (b + i), (by go_num), zv1, Nat.le_refl _, by rw [size_swp]; exact hds, S2, permIn_trans _ _ _ _ _ HP.out (swp_permIn dk a (b + n) (a + i) (b + i) zv1 zv1 zv1 zv1 zv1), fun x => by rw [swp_is dk zv1 zv1, HG.out, swapped_step zv1]⟩
  ·have hltz : ¬ (i : Int) < (n : Int) := by omega
   obtain rfl : i = n := by omega
   go_wp2
   go_end0
   exact ⟨rfl, dk, S1.out, HP.out, HG.out⟩
set_option maxHeartbeats 4000000 in
set_option maxRecDepth 1000000 in
theorem rotate_is (k : Nat) (aE : ∀ w, (isAgg 44).run Tryd.prog w = .ok true w) (zE : ∀ w, (Go.sizeOf 44).run Tryd.prog w = .ok k w) (enc : α → List Value) (g : Nat) (cb : Array Value) (blk off cap a m b : Nat) (d0 d : Array α) (w0 w : World)
  (R : RowK enc k w0 blk off d0) (hs : d0.size = d.size) (S : SWK enc k w0 blk off d w) (ham : a < m) (hmb : m < b) (hb : b ≤ d.size) (hsz : d.size < 4611686018427387904) :
  Calls Tryd.prog 134 #[.slice (some ⟨blk, off, none⟩) d.size cap, .int .i64 a, .int .i64 m, .int .i64 b, .func (.func g) #[] cb] w fun e w' => e = .returned (.tuple #[]) ∧ ∃ d', SWK enc k w0 blk off d' w' ∧ PermIn a b d d' ∧ ∀ x, d'[x]! = d[turned a m b x]! := by
 have S0 : Aside (SWK enc k w0 blk off d w) := S; clear S; have e1 : ∀ args w, (callFunc 144 args).run Tryd.prog w = .ok (.enter 144 args) w := enters_of Tryd.func144 (by kernel_rfl) rfl; go_enter Tryd.func134, Tryd.ntmps134; go_wp2
 go_loopg [10, 11] (b - a) (fun kx s10 s11 wr => ∃ (i j : Nat) (dk : Array α), s10 = .int .i64 i ∧ s11 = .int .i64 j ∧ 0 < i ∧ 0 < j ∧ i ≤ m - a ∧ j ≤ b - m ∧ i + j ≤ kx ∧ dk.size = d.size ∧ Aside (SWK enc k w0 blk off dk wr) ∧ Hid (PermIn a b d dk) ∧ Hid (∀ (z : Array α), (∀ x, z[x]! = dk[turned (m - i) m (m + j) x]!) → ∀ x, z[x]! = d[turned a m b x]!))
 case atStart => exact ⟨m - a, b - m, d, (by go_num), (by go_num), zv1, zv1, Nat.le_refl _, Nat.le_refl _, zv1, rfl, S0, permIn_refl _ _ _, fun z h x => by rw [h x, show m - (m - a) = a by omega, show m + (b - m) = b by omega]⟩
 case round =>
  clear S0; obtain ⟨i, j, dk, rfl, rfl, hi0, hj0, him, hjb, hkx, hds, S1, HP, HG⟩ := hrel; have wmi : ((m : Int) - (i : Int)) = ((m - i : Nat) : Int) := by omega
  have rmi : IntKind.i64.wrap ((m : Int) - (i : Int)) = (m : Int) - (i : Int) := by rw [IntKind.wrap_i64]; omega
  by_cases hij : i = j
  ·subst hij; have c := swapRange_is k aE zE enc g cb blk off cap (m - i) m i d0 dk w0 wr R zv1 S1.out zv1 zv1 zv1; rw [hds] at c
   go_wp2_with (first | (go_at_fn 144; (with_reducible refine c.mono ?_); rintro e w2 ⟨rfl, d2, S2, hP, hG⟩))
   go_end0
   exact ⟨rfl, d2, S2, permIn_trans _ _ _ _ _ HP.out (permIn_mono _ _ _ _ _ _ zv1 zv1 zv1 hP), HG.out d2 fun x => by rw [hG, rot_last zv1]⟩
  ·have hne : ((i : Int) != (j : Int)) = true := by simp; omega
   by_cases hgt : j < i
   ·have hgz : (j : Int) < (i : Int) := by omega
    have c := swapRange_is k aE zE enc g cb blk off cap (m - i) m j d0 dk w0 wr R zv1 S1.out zv1 zv1 zv1; rw [hds] at c
    go_wp2_with (first | (go_at_fn 144; (with_reducible refine c.mono ?_); rintro e w2 ⟨rfl, d2, S2, hP, hG⟩))
    go_roundg (i - j + j)
    case measure => omega
    case rel => exact ⟨i - j, j, d2, (by go_num), rfl, zv1, hj0, zv1, hjb, Nat.le_refl _, by rw [hP.1]; exact hds, S2, permIn_trans _ _ _ _ _ HP.out (permIn_mono _ _ _ _ _ _ zv1 zv1 zv1 hP), fun z h => HG.out z fun x => by rw [h x, hG, rot_left zv1 hgt hj0]⟩
   ·have hgz : ¬ (j : Int) < (i : Int) := by omega
    have wmj : ((m : Int) + (j : Int) - (i : Int)) = ((m + j - i : Nat) : Int) := by omega
    have c := swapRange_is k aE zE enc g cb blk off cap (m - i) (m + j - i) i d0 dk w0 wr R zv1 S1.out zv1 zv1 zv1; have rmj : IntKind.i64.wrap ((m : Int) + (j : Int)) = (m : Int) + (j : Int) := by rw [IntKind.wrap_i64]; omega
    have rmj2 : IntKind.i64.wrap ((m : Int) + (j : Int) - (i : Int)) = (m : Int) + (j : Int) - (i : Int) := by rw [IntKind.wrap_i64]; omega
    rw [hds] at c
    go_wp2_with (first | (go_at_fn 144; (with_reducible refine c.mono ?_); rintro e w2 ⟨rfl, d2, S2, hP, hG⟩))
    go_roundg (i + (j - i))
    case measure => omega
    case rel => exact ⟨i, j - i, d2, rfl, (by go_num), hi0, zv1, him, zv1, Nat.le_refl _, by rw [hP.1]; exact hds, S2, permIn_trans _ _ _ _ _ HP.out (permIn_mono _ _ _ _ _ _ zv1 zv1 zv1 hP), fun z h => HG.out z fun x => by rw [h x, hG, rot_right zv1 zv1 hi0]⟩
set_option maxHeartbeats 16000000 in
set_option maxRecDepth 1000000 in
theorem symMerge_left (k : Nat) (aE : ∀ w, (isAgg 44).run Tryd.prog w = .ok true w) (zE : ∀ w, (Go.sizeOf 44).run Tryd.prog w = .ok k w) (enc : α → List Value) (cf : α → α → Int) (Rr : α → α → Prop) (g : Nat) (cb : Array Value) (blk off cap : Nat) (d0 : Array α) (w0 : World)
  (R : RowK enc k w0 blk off d0) (hcmp : CmpLays Tryd.prog g cb enc k cf blk off d0.size w0) (eg : ∀ args w, (callFunc g args).run Tryd.prog w = .ok (.enter g args) w) (hT : ∀ x y z, Rr x y → Rr y z → Rr x z) (hsz : d0.size < 4611686018427387904) (a m b : Nat) (d : Array α) (w : World) (ham : a < m) (hmb : m < b) (hb : b ≤ d.size) (hds0 : d.size = d0.size) (hL : Asc Rr a m d) (hR : Asc Rr m b d) (hC : Cross cf Rr a m b d) (S : SWK enc k w0 blk off d w) (c1 : m - a = 1) :
  Calls Tryd.prog 123 #[.slice (some ⟨blk, off, none⟩) d0.size cap, .int .i64 a, .int .i64 m, .int .i64 b, .func (.func g) #[] cb] w fun e w' => e = .returned (.tuple #[]) ∧ ∃ d', SWK enc k w0 blk off d' w' ∧ PermIn a b d d' ∧ Asc Rr a b d' := by
 have HC : Aside _ := hcmp; have HL : Hid (Asc Rr a m d) := hL; have HR : Hid (Asc Rr m b d) := hR; have HX : Hid (Cross cf Rr a m b d) := hC; have HT : Hid _ := hT; clear hcmp hL hR hC hT; have S0 : Aside (SWK enc k w0 blk off d w) := S; clear S; have e1 : ∀ args w, (callFunc 134 args).run Tryd.prog w = .ok (.enter 134 args) w := enters_of Tryd.func134 (by kernel_rfl) rfl; have e2 : ∀ args w, (callFunc 123 args).run Tryd.prog w = .ok (.enter 123 args) w := enters_of Tryd.func123 (by kernel_rfl) rfl; have mixed : Tryd.prog.follows .mixedOrders = true := by kernel_rfl
 rw [← hds0] at hsz ⊢; have hd0 : d0.size = d.size := hds0.symm; clear hds0; have z1 : ((m : Int) - (a : Int) == 1) = true := by simp; omega
 go_enter Tryd.func123, Tryd.ntmps123
 go_wp2_with fail
 go_loopg [10, 11] (b - m) (fun kx s10 s11 wr => ∃ (i j : Nat), s10 = .int .i64 i ∧ s11 = .int .i64 j ∧ m ≤ i ∧ i ≤ j ∧ j ≤ b ∧ j - i ≤ kx ∧ Aside (SWK enc k w0 blk off d wr) ∧ Hid ((m < i → cf d[i - 1]! d[a]! < 0) ∧ (j < b → ¬ cf d[j]! d[a]! < 0)))
 case atStart => exact ⟨m, b, rfl, rfl, Nat.le_refl _, zv1, Nat.le_refl _, Nat.le_refl _, S0, ⟨fun h => absurd h (Nat.lt_irrefl _), fun h => absurd h (Nat.lt_irrefl _)⟩⟩
 case round =>
  clear S0; obtain ⟨i, j, rfl, rfl, hi0, hij, hj0, hkx, S1, HI⟩ := hrel
  by_cases hlt : i < j
  ·have hltz : (i : Int) < (j : Int) := by omega
   have hh1 : i ≤ (i + j) / 2 := by omega
   have hh2 : (i + j) / 2 < j := by omega
   by_cases HV : cf d[(i + j) / 2]! d[a]! < 0
   ·have ea1 : (((i : Int) + (j : Int)) / 2).toNat = (i + j) / 2 := by omega
    have pa1 : (0 : Int) ≤ ((i : Int) + (j : Int)) / 2 := by omega
    have ba1 : ((i : Int) + (j : Int)) / 2 < (d.size : Int) := by omega
    have ra1 : IntKind.i64.wrap (((i : Int) + (j : Int)) / 2) = ((i : Int) + (j : Int)) / 2 := by rw [IntKind.wrap_i64]; omega
    have ec1 : ((a : Int)).toNat = a := by omega
    have pc1 : (0 : Int) ≤ (a : Int) := by omega
    have bc1 : (a : Int) < (d.size : Int) := by omega
    have rc1 : IntKind.i64.wrap ((a : Int)) = (a : Int) := by rw [IntKind.wrap_i64]; omega
    obtain ⟨x1, hx1⟩ : ∃ x, x = d[(i + j) / 2]! := ⟨_, rfl⟩
    obtain ⟨y1, hy1⟩ : ∃ x, x = d[a]! := ⟨_, rfl⟩
    have l1a := S1.out.ld R zv1 Tryd.prog ((i + j) / 2) zv1; have l1b := S1.out.ld R zv1 Tryd.prog (a) zv1; rw [← hx1] at l1a; rw [← hy1] at l1b; have hc1 := S1.out.cmp HC.out zv1 x1 y1; have hv1 : cf x1 y1 < 0 := by rw [hx1, hy1]; exact HV
    have hd1 : decide (cf x1 y1 < 0) = true := decide_eq_true hv1; clear hx1 hy1
    go_wp2_with fail
    go_quiet_grown (first | (go_at_fn g; refine Calls.grown_of (hc1 _ _)))
    have S2 : Aside (SWK enc k w0 blk off d (grow (wr.drewN nq) osq)) := S1.out.grown nq osq; clear l1a l1b hc1 S1; generalize grow (wr.drewN nq) osq = w2 at S2 ⊢; clear nq osq; go_wp2; go_roundg (j - ((i + j) / 2 + 1))
    case measure => omega
    case rel => exact ⟨(i + j) / 2 + 1, j, (by go_num), rfl, zv1, zv1, hj0, Nat.le_refl _, S2, ⟨fun _ => by rw [Nat.add_sub_cancel]; omega, fun h => by have := HI.out.2 h; omega⟩⟩
   ·have ea1 : (((i : Int) + (j : Int)) / 2).toNat = (i + j) / 2 := by omega
    have pa1 : (0 : Int) ≤ ((i : Int) + (j : Int)) / 2 := by omega
    have ba1 : ((i : Int) + (j : Int)) / 2 < (d.size : Int) := by omega
    have ra1 : IntKind.i64.wrap (((i : Int) + (j : Int)) / 2) = ((i : Int) + (j : Int)) / 2 := by rw [IntKind.wrap_i64]; omega
    have ec1 : ((a : Int)).toNat = a := by omega
    have pc1 : (0 : Int) ≤ (a : Int) := by omega
    have bc1 : (a : Int) < (d.size : Int) := by omega
    have rc1 : IntKind.i64.wrap ((a : Int)) = (a : Int) := by rw [IntKind.wrap_i64]; omega
    obtain ⟨x1, hx1⟩ : ∃ x, x = d[(i + j) / 2]! := ⟨_, rfl⟩
    obtain ⟨y1, hy1⟩ : ∃ x, x = d[a]! := ⟨_, rfl⟩
    have l1a := S1.out.ld R zv1 Tryd.prog ((i + j) / 2) zv1; have l1b := S1.out.ld R zv1 Tryd.prog (a) zv1; rw [← hx1] at l1a; rw [← hy1] at l1b; have hc1 := S1.out.cmp HC.out zv1 x1 y1; have hv1 : ¬ cf x1 y1 < 0 := by rw [hx1, hy1]; exact HV
    have hd1 : decide (cf x1 y1 < 0) = false := decide_eq_false hv1; clear hx1 hy1
    go_wp2_with fail
    go_quiet_grown (first | (go_at_fn g; refine Calls.grown_of (hc1 _ _)))
    have S2 : Aside (SWK enc k w0 blk off d (grow (wr.drewN nq) osq)) := S1.out.grown nq osq; clear l1a l1b hc1 S1; generalize grow (wr.drewN nq) osq = w2 at S2 ⊢; clear nq osq; go_wp2; go_roundg ((i + j) / 2 - i)
    case measure => omega
    case rel => exact ⟨i, (i + j) / 2, rfl, (by go_num), hi0, zv1, zv1, Nat.le_refl _, S2, ⟨fun h => by have := HI.out.1 h; omega, fun _ => by omega⟩⟩
  ·have hltz : ¬ (i : Int) < (j : Int) := by omega
   obtain rfl : i = j := by omega
   go_wp2_with fail
   go_loopg [13] (i - 1 - a) (fun kx s13 wr => ∃ (q : Nat) (dk : Array α), s13 = .int .i64 q ∧ a ≤ q ∧ q ≤ i - 1 ∧ i - 1 - q ≤ kx ∧ dk.size = d.size ∧ Aside (SWK enc k w0 blk off dk wr) ∧ Hid (PermIn a b d dk) ∧ Hid (∀ x, dk[x]! = d[turned a (a + 1) (q + 1) x]!))
   case atStart => exact ⟨a, d, rfl, Nat.le_refl _, zv1, Nat.le_refl _, rfl, S1, permIn_refl _ _ _, fun x => by rw [shift_up_start]⟩
   case round =>
    clear S1; obtain ⟨q, dk, rfl, hq0, hq1, hqk, hds, S3, HP, HG⟩ := hrel
    by_cases hq : q < i - 1
    ·have hqz : (q : Int) < (i : Int) - 1 := by omega
     have ea3 : ((q : Int)).toNat = q := by omega
     have pa3 : (0 : Int) ≤ (q : Int) := by omega
     have ba3 : (q : Int) < (d.size : Int) := by omega
     have ra3 : IntKind.i64.wrap ((q : Int)) = (q : Int) := by rw [IntKind.wrap_i64]; omega
     have ec3 : ((q : Int) + 1).toNat = q + 1 := by omega
     have pc3 : (0 : Int) ≤ (q : Int) + 1 := by omega
     have bc3 : (q : Int) + 1 < (d.size : Int) := by omega
     have rc3 : IntKind.i64.wrap ((q : Int) + 1) = (q : Int) + 1 := by rw [IntKind.wrap_i64]; omega
     have S4 : Aside (SWK enc k w0 blk off (swp dk (q) (q + 1)) ((wr.drew.setCells blk (off + (q) * k) (enc dk[q + 1]!)).setCells blk (off + (q + 1) * k) (enc dk[q]!))) := S3.out.swapped R (q) (q + 1) zv1 zv1; have l3a := S3.out.ld1 R zv1 Tryd.prog (q) zv1; have l3b := S3.out.ld1 R zv1 Tryd.prog (q + 1) zv1; have s3a := S3.out.st1 R zv1 Tryd.prog (q) zv1 dk[q + 1]!; have s3b := S3.out.st2 R zv1 Tryd.prog (q) (q + 1) zv1 zv1 dk[q + 1]! dk[q]!; have n3a : (enc dk[q]!).length = k := R.hk _; have n3b : (enc dk[q + 1]!).length = k := R.hk _; generalize enc dk[q]! = cI3 at S4 l3a s3b n3a; generalize enc dk[q + 1]! = cJ3 at S4 l3b s3a s3b n3b; clear S3
     go_wp2_with fail
     go_big_region_o
     clear l3a l3b s3a s3b; generalize (wr.drew.setCells blk (off + (q) * k) cJ3).setCells blk (off + (q + 1) * k) cI3 = w4 at S4 ⊢; go_wp2; go_roundg (i - 1 - (q + 1))
     case measure => omega
     case rel => exact ⟨q + 1, swp dk q (q + 1), (by go_num), zv1, zv1, Nat.le_refl _, by rw [size_swp]; exact hds, S4, permIn_trans _ _ _ _ _ HP.out (swp_permIn dk a b q (q + 1) zv1 zv1 zv1 zv1 zv1), fun x => by rw [swp_is dk zv1 zv1, HG.out, shift_up zv1]⟩
    ·have hqz : ¬ (q : Int) < (i : Int) - 1 := by omega
     obtain rfl : q = i - 1 := by omega
     go_wp2; (try simp only [Exit.inBlock, Exit.then]); refine bodyPost_ret (results_none rfl _ _ _) rfl ?_
     have HG' : ∀ x, dk[x]! = d[turned a (a + 1) i x]! := fun x => by have := HG.out x; rwa [show i - 1 + 1 = i by omega] at this
     refine ⟨rfl, dk, S3.out, HP.out, one_left HT.out zv1 hj0 HG' (by have := HR.out; rwa [show m = a + 1 by omega] at this) (fun h => ?_) (fun h => ?_)⟩
     ·exact (HX.out a (i - 1) (Nat.le_refl _) ham zv1 zv1).1 (by have := HI.out.1 zv1; omega)
     ·exact (HX.out a i (Nat.le_refl _) ham hi0 h).2 (by have := HI.out.2 h; omega)
set_option maxHeartbeats 16000000 in
set_option maxRecDepth 1000000 in
theorem symMerge_right (k : Nat) (aE : ∀ w, (isAgg 44).run Tryd.prog w = .ok true w) (zE : ∀ w, (Go.sizeOf 44).run Tryd.prog w = .ok k w) (enc : α → List Value) (cf : α → α → Int) (Rr : α → α → Prop) (g : Nat) (cb : Array Value) (blk off cap : Nat) (d0 : Array α) (w0 : World)
  (R : RowK enc k w0 blk off d0) (hcmp : CmpLays Tryd.prog g cb enc k cf blk off d0.size w0) (eg : ∀ args w, (callFunc g args).run Tryd.prog w = .ok (.enter g args) w) (hT : ∀ x y z, Rr x y → Rr y z → Rr x z) (hsz : d0.size < 4611686018427387904) (a m b : Nat) (d : Array α) (w : World) (ham : a < m) (hmb : m < b) (hb : b ≤ d.size) (hds0 : d.size = d0.size) (hL : Asc Rr a m d) (hR : Asc Rr m b d) (hC : Cross cf Rr a m b d) (S : SWK enc k w0 blk off d w) (c1 : ¬ m - a = 1) (c2 : b - m = 1) :
  Calls Tryd.prog 123 #[.slice (some ⟨blk, off, none⟩) d0.size cap, .int .i64 a, .int .i64 m, .int .i64 b, .func (.func g) #[] cb] w fun e w' => e = .returned (.tuple #[]) ∧ ∃ d', SWK enc k w0 blk off d' w' ∧ PermIn a b d d' ∧ Asc Rr a b d' := by
 have HC : Aside _ := hcmp; have HL : Hid (Asc Rr a m d) := hL; have HR : Hid (Asc Rr m b d) := hR; have HX : Hid (Cross cf Rr a m b d) := hC; have HT : Hid _ := hT; clear hcmp hL hR hC hT; have S0 : Aside (SWK enc k w0 blk off d w) := S; clear S; have e1 : ∀ args w, (callFunc 134 args).run Tryd.prog w = .ok (.enter 134 args) w := enters_of Tryd.func134 (by kernel_rfl) rfl; have e2 : ∀ args w, (callFunc 123 args).run Tryd.prog w = .ok (.enter 123 args) w := enters_of Tryd.func123 (by kernel_rfl) rfl; have mixed : Tryd.prog.follows .mixedOrders = true := by kernel_rfl
 rw [← hds0] at hsz ⊢; have hd0 : d0.size = d.size := hds0.symm; clear hds0; have z1 : ((m : Int) - (a : Int) == 1) = false := by simp; omega
 have z2 : ((b : Int) - (m : Int) == 1) = true := by simp; omega
 go_enter Tryd.func123, Tryd.ntmps123
 go_wp2_with fail
 go_loopg [14, 15] (m - a) (fun kx s10 s11 wr => ∃ (i j : Nat), s10 = .int .i64 i ∧ s11 = .int .i64 j ∧ a ≤ i ∧ i ≤ j ∧ j ≤ m ∧ j - i ≤ kx ∧ Aside (SWK enc k w0 blk off d wr) ∧ Hid ((a < i → ¬ cf d[m]! d[i - 1]! < 0) ∧ (j < m → cf d[m]! d[j]! < 0)))
 case atStart => exact ⟨a, m, rfl, rfl, Nat.le_refl _, zv1, Nat.le_refl _, Nat.le_refl _, S0, ⟨fun h => absurd h (Nat.lt_irrefl _), fun h => absurd h (Nat.lt_irrefl _)⟩⟩
 case round =>
  clear S0; obtain ⟨i, j, rfl, rfl, hi0, hij, hj0, hkx, S1, HI⟩ := hrel
  by_cases hlt : i < j
  ·have hltz : (i : Int) < (j : Int) := by omega
   have hh1 : i ≤ (i + j) / 2 := by omega
   have hh2 : (i + j) / 2 < j := by omega
   by_cases HV : cf d[m]! d[(i + j) / 2]! < 0
   ·have ea1 : ((m : Int)).toNat = m := by omega
    have pa1 : (0 : Int) ≤ (m : Int) := by omega
    have ba1 : (m : Int) < (d.size : Int) := by omega
    have ra1 : IntKind.i64.wrap ((m : Int)) = (m : Int) := by rw [IntKind.wrap_i64]; omega
    have ec1 : (((i : Int) + (j : Int)) / 2).toNat = (i + j) / 2 := by omega
    have pc1 : (0 : Int) ≤ ((i : Int) + (j : Int)) / 2 := by omega
    have bc1 : ((i : Int) + (j : Int)) / 2 < (d.size : Int) := by omega
    have rc1 : IntKind.i64.wrap (((i : Int) + (j : Int)) / 2) = ((i : Int) + (j : Int)) / 2 := by rw [IntKind.wrap_i64]; omega
    obtain ⟨x1, hx1⟩ : ∃ x, x = d[m]! := ⟨_, rfl⟩
    obtain ⟨y1, hy1⟩ : ∃ x, x = d[(i + j) / 2]! := ⟨_, rfl⟩
    have l1a := S1.out.ld R zv1 Tryd.prog (m) zv1; have l1b := S1.out.ld R zv1 Tryd.prog ((i + j) / 2) zv1; rw [← hx1] at l1a; rw [← hy1] at l1b; have hc1 := S1.out.cmp HC.out zv1 x1 y1; have hv1 : cf x1 y1 < 0 := by rw [hx1, hy1]; exact HV
    have hd1 : decide (cf x1 y1 < 0) = true := decide_eq_true hv1; clear hx1 hy1
    go_wp2_with fail
    go_quiet_grown (first | (go_at_fn g; refine Calls.grown_of (hc1 _ _)))
    have S2 : Aside (SWK enc k w0 blk off d (grow (wr.drewN nq) osq)) := S1.out.grown nq osq; clear l1a l1b hc1 S1; generalize grow (wr.drewN nq) osq = w2 at S2 ⊢; clear nq osq; go_wp2; go_roundg ((i + j) / 2 - i)
    case measure => omega
    case rel => exact ⟨i, (i + j) / 2, rfl, (by go_num), hi0, zv1, zv1, Nat.le_refl _, S2, ⟨fun h => by have := HI.out.1 h; omega, fun _ => by omega⟩⟩
   ·have ea1 : ((m : Int)).toNat = m := by omega
    have pa1 : (0 : Int) ≤ (m : Int) := by omega
    have ba1 : (m : Int) < (d.size : Int) := by omega
    have ra1 : IntKind.i64.wrap ((m : Int)) = (m : Int) := by rw [IntKind.wrap_i64]; omega
    have ec1 : (((i : Int) + (j : Int)) / 2).toNat = (i + j) / 2 := by omega
    have pc1 : (0 : Int) ≤ ((i : Int) + (j : Int)) / 2 := by omega
    have bc1 : ((i : Int) + (j : Int)) / 2 < (d.size : Int) := by omega
    have rc1 : IntKind.i64.wrap (((i : Int) + (j : Int)) / 2) = ((i : Int) + (j : Int)) / 2 := by rw [IntKind.wrap_i64]; omega
    obtain ⟨x1, hx1⟩ : ∃ x, x = d[m]! := ⟨_, rfl⟩
    obtain ⟨y1, hy1⟩ : ∃ x, x = d[(i + j) / 2]! := ⟨_, rfl⟩
    have l1a := S1.out.ld R zv1 Tryd.prog (m) zv1; have l1b := S1.out.ld R zv1 Tryd.prog ((i + j) / 2) zv1; rw [← hx1] at l1a; rw [← hy1] at l1b; have hc1 := S1.out.cmp HC.out zv1 x1 y1; have hv1 : ¬ cf x1 y1 < 0 := by rw [hx1, hy1]; exact HV
    have hd1 : decide (cf x1 y1 < 0) = false := decide_eq_false hv1; clear hx1 hy1
    go_wp2_with fail
    go_quiet_grown (first | (go_at_fn g; refine Calls.grown_of (hc1 _ _)))
    have S2 : Aside (SWK enc k w0 blk off d (grow (wr.drewN nq) osq)) := S1.out.grown nq osq; clear l1a l1b hc1 S1; generalize grow (wr.drewN nq) osq = w2 at S2 ⊢; clear nq osq; go_wp2; go_roundg (j - ((i + j) / 2 + 1))
    case measure => omega
    case rel => exact ⟨(i + j) / 2 + 1, j, (by go_num), rfl, zv1, zv1, hj0, Nat.le_refl _, S2, ⟨fun _ => by rw [Nat.add_sub_cancel]; omega, fun h => by have := HI.out.2 h; omega⟩⟩
  ·have hltz : ¬ (i : Int) < (j : Int) := by omega
   obtain rfl : i = j := by omega
   go_wp2_with fail
   go_loopg [17] (m - i) (fun kx s17 wr => ∃ (q : Nat) (dk : Array α), s17 = .int .i64 q ∧ i ≤ q ∧ q ≤ m ∧ q - i ≤ kx ∧ dk.size = d.size ∧ Aside (SWK enc k w0 blk off dk wr) ∧ Hid (PermIn a b d dk) ∧ Hid (∀ x, dk[x]! = d[turned q m (m + 1) x]!))
   case atStart => exact ⟨m, d, rfl, hj0, Nat.le_refl _, Nat.le_refl _, rfl, S1, permIn_refl _ _ _, fun x => by rw [shift_down_start]⟩
   case round =>
    clear S1; obtain ⟨q, dk, rfl, hq0, hq1, hqk, hds, S3, HP, HG⟩ := hrel
    by_cases hq : i < q
    ·have hqz : (i : Int) < (q : Int) := by omega
     have ea3 : ((q : Int)).toNat = q := by omega
     have pa3 : (0 : Int) ≤ (q : Int) := by omega
     have ba3 : (q : Int) < (d.size : Int) := by omega
     have ra3 : IntKind.i64.wrap ((q : Int)) = (q : Int) := by rw [IntKind.wrap_i64]; omega
     have ec3 : ((q : Int) - 1).toNat = q - 1 := by omega
     have pc3 : (0 : Int) ≤ (q : Int) - 1 := by omega
     have bc3 : (q : Int) - 1 < (d.size : Int) := by omega
     have rc3 : IntKind.i64.wrap ((q : Int) - 1) = (q : Int) - 1 := by rw [IntKind.wrap_i64]; omega
     have S4 : Aside (SWK enc k w0 blk off (swp dk (q) (q - 1)) ((wr.drew.setCells blk (off + (q) * k) (enc dk[q - 1]!)).setCells blk (off + (q - 1) * k) (enc dk[q]!))) := S3.out.swapped R (q) (q - 1) zv1 zv1; have l3a := S3.out.ld1 R zv1 Tryd.prog (q) zv1; have l3b := S3.out.ld1 R zv1 Tryd.prog (q - 1) zv1; have s3a := S3.out.st1 R zv1 Tryd.prog (q) zv1 dk[q - 1]!; have s3b := S3.out.st2 R zv1 Tryd.prog (q) (q - 1) zv1 zv1 dk[q - 1]! dk[q]!; have n3a : (enc dk[q]!).length = k := R.hk _; have n3b : (enc dk[q - 1]!).length = k := R.hk _; generalize enc dk[q]! = cI3 at S4 l3a s3b n3a; generalize enc dk[q - 1]! = cJ3 at S4 l3b s3a s3b n3b; clear S3
     go_wp2_with fail
     go_big_region_o
     clear l3a l3b s3a s3b; generalize (wr.drew.setCells blk (off + (q) * k) cJ3).setCells blk (off + (q - 1) * k) cI3 = w4 at S4 ⊢; go_wp2; go_roundg (q - 1 - i)
     case measure => omega
     case rel => exact ⟨q - 1, swp dk q (q - 1), (by go_num), zv1, zv1, Nat.le_refl _, by rw [size_swp]; exact hds, S4, permIn_trans _ _ _ _ _ HP.out (swp_permIn dk a b q (q - 1) zv1 zv1 zv1 zv1 zv1), fun x => by rw [swp_is dk zv1 zv1, HG.out]; have := shift_down (k := q - 1) (m := m) zv1 x; rw [show q - 1 + 1 = q by omega] at this; rw [this]⟩
    ·have hqz : ¬ (i : Int) < (q : Int) := by omega
     obtain rfl : q = i := by omega
     go_wp2; (try simp only [Exit.inBlock, Exit.then]); refine bodyPost_ret (results_none rfl _ _ _) rfl ?_
     obtain rfl : b = m + 1 := by omega
     refine ⟨rfl, dk, S3.out, HP.out, one_right HT.out hi0 hj0 HG.out HL.out (fun h => ?_) (fun h => ?_)⟩
     ·exact (HX.out (q - 1) m zv1 zv1 (Nat.le_refl _) zv1).2 (by have := HI.out.1 h; omega)
     ·exact (HX.out q m hi0 h (Nat.le_refl _) zv1).1 (by have := HI.out.2 h; omega)
set_option maxHeartbeats 16000000 in
set_option maxRecDepth 1000000 in
theorem symMerge_coreL (k : Nat) (aE : ∀ w, (isAgg 44).run Tryd.prog w = .ok true w) (zE : ∀ w, (Go.sizeOf 44).run Tryd.prog w = .ok k w) (enc : α → List Value) (cf : α → α → Int) (Rr : α → α → Prop) (g : Nat) (cb : Array Value) (blk off cap : Nat) (d0 : Array α) (w0 : World)
  (R : RowK enc k w0 blk off d0) (hcmp : CmpLays Tryd.prog g cb enc k cf blk off d0.size w0) (eg : ∀ args w, (callFunc g args).run Tryd.prog w = .ok (.enter g args) w) (hT : ∀ x y z, Rr x y → Rr y z → Rr x z) (hsz : d0.size < 4611686018427387904) (N : Nat) (IH0 : ∀ (a m b : Nat) (d : Array α) (w : World), b - a ≤ N → a < m → m < b → b ≤ d.size → d.size = d0.size → Asc Rr a m d → Asc Rr m b d → Cross cf Rr a m b d → SWK enc k w0 blk off d w → Calls Tryd.prog 123 #[.slice (some ⟨blk, off, none⟩) d0.size cap, .int .i64 a, .int .i64 m, .int .i64 b, .func (.func g) #[] cb] w fun e w' => e = .returned (.tuple #[]) ∧ ∃ d', SWK enc k w0 blk off d' w' ∧ PermIn a b d d' ∧ Asc Rr a b d')
  (a m b : Nat) (d : Array α) (w : World) (ham : a < m) (hmb : m < b) (hb : b ≤ d.size) (hds0 : d.size = d0.size) (hL : Asc Rr a m d) (hR : Asc Rr m b d) (hC : Cross cf Rr a m b d) (S : SWK enc k w0 blk off d w) (hN : b - a ≤ N + 1) (c1 : ¬ m - a = 1) (c2 : ¬ b - m = 1) (mid : Nat) (hmid : mid = (a + b) / 2) (c3 : mid < m) :
  Calls Tryd.prog 123 #[.slice (some ⟨blk, off, none⟩) d0.size cap, .int .i64 a, .int .i64 m, .int .i64 b, .func (.func g) #[] cb] w fun e w' => e = .returned (.tuple #[]) ∧ ∃ d', SWK enc k w0 blk off d' w' ∧ PermIn a b d d' ∧ Asc Rr a b d' := by
 have HC : Aside _ := hcmp; have HL : Hid (Asc Rr a m d) := hL; have HR : Hid (Asc Rr m b d) := hR; have HX : Hid (Cross cf Rr a m b d) := hC; have HT : Hid _ := hT; clear hcmp hL hR hC hT; have S0 : Aside (SWK enc k w0 blk off d w) := S; clear S; have e1 : ∀ args w, (callFunc 134 args).run Tryd.prog w = .ok (.enter 134 args) w := enters_of Tryd.func134 (by kernel_rfl) rfl; have e2 : ∀ args w, (callFunc 123 args).run Tryd.prog w = .ok (.enter 123 args) w := enters_of Tryd.func123 (by kernel_rfl) rfl; have mixed : Tryd.prog.follows .mixedOrders = true := by kernel_rfl
 rw [← hds0] at hsz IH0 ⊢; have IH : Aside _ := IH0; clear IH0; have hd0 : d0.size = d.size := hds0.symm; clear hds0; have z1 : ((m : Int) - (a : Int) == 1) = false := by simp; omega
 have z2 : ((b : Int) - (m : Int) == 1) = false := by simp; omega
 have zmid : ((a : Int) + (b : Int)) / 2 = (mid : Int) := by omega
 clear hmid; have zc : (mid : Int) < (m : Int) := by omega
 have wn : IntKind.i64.wrap ((mid : Int) + (m : Int)) = (mid : Int) + (m : Int) := by rw [IntKind.wrap_i64]; omega
 have wp : IntKind.i64.wrap ((mid : Int) + (m : Int) - 1) = (mid : Int) + (m : Int) - 1 := by rw [IntKind.wrap_i64]; omega
 have ws : IntKind.i64.wrap ((mid : Int) + (m : Int) - (b : Int)) = (mid : Int) + (m : Int) - (b : Int) := by rw [IntKind.wrap_i64]; omega
 go_enter Tryd.func123, Tryd.ntmps123
 go_wp2_with fail
 go_loopg [20, 21] (mid - (mid + m - b)) (fun kx s20 s21 wr => ∃ (s r : Nat), s20 = .int .i64 s ∧ s21 = .int .i64 r ∧ (mid + m - b) ≤ s ∧ s ≤ r ∧ r ≤ mid ∧ r - s ≤ kx ∧ Aside (SWK enc k w0 blk off d wr) ∧ Hid (((mid + m - b) < s → ¬ cf d[mid + m - s]! d[s - 1]! < 0) ∧ (r < mid → cf d[mid + m - 1 - r]! d[r]! < 0)))
 case atStart => exact ⟨(mid + m - b), mid, (by go_num), (by go_num), Nat.le_refl _, zv1, Nat.le_refl _, Nat.le_refl _, S0, ⟨fun h => absurd h (Nat.lt_irrefl _), fun h => absurd h (Nat.lt_irrefl _)⟩⟩
 case round =>
  clear S0; obtain ⟨s, r, rfl, rfl, hs0, hsr, hr0, hkx, S1, HI⟩ := hrel
  by_cases hlt : s < r
  ·have hltz : (s : Int) < (r : Int) := by omega
   obtain ⟨c, hc⟩ : ∃ c, c = (s + r) / 2 := ⟨_, rfl⟩
   obtain ⟨q, hq⟩ : ∃ q, q = mid + m - 1 - c := ⟨_, rfl⟩
   have zcc : ((s : Int) + (r : Int)) / 2 = (c : Int) := by omega
   have zq : (mid : Int) + (m : Int) - 1 - (c : Int) = (q : Int) := by omega
   clear hc hq; have wq : IntKind.i64.wrap ((mid : Int) + (m : Int) - 1 - (c : Int)) = (mid : Int) + (m : Int) - 1 - (c : Int) := by rw [IntKind.wrap_i64]; omega
   by_cases HV : cf d[q]! d[c]! < 0
   ·have ea1 : ((q : Int)).toNat = q := by omega
    have pa1 : (0 : Int) ≤ (q : Int) := by omega
    have ba1 : (q : Int) < (d.size : Int) := by omega
    have ra1 : IntKind.i64.wrap ((q : Int)) = (q : Int) := by rw [IntKind.wrap_i64]; omega
    have ec1 : ((c : Int)).toNat = c := by omega
    have pc1 : (0 : Int) ≤ (c : Int) := by omega
    have bc1 : (c : Int) < (d.size : Int) := by omega
    have rc1 : IntKind.i64.wrap ((c : Int)) = (c : Int) := by rw [IntKind.wrap_i64]; omega
    obtain ⟨x1, hx1⟩ : ∃ x, x = d[q]! := ⟨_, rfl⟩
    obtain ⟨y1, hy1⟩ : ∃ x, x = d[c]! := ⟨_, rfl⟩
    have l1a := S1.out.ld R zv1 Tryd.prog (q) zv1; have l1b := S1.out.ld R zv1 Tryd.prog (c) zv1; rw [← hx1] at l1a; rw [← hy1] at l1b; have hc1 := S1.out.cmp HC.out zv1 x1 y1; have hv1 : cf x1 y1 < 0 := by rw [hx1, hy1]; exact HV
    have hd1 : decide (cf x1 y1 < 0) = true := decide_eq_true hv1; clear hx1 hy1
    go_wp2_with fail
    go_quiet_grown (first | (go_at_fn g; refine Calls.grown_of (hc1 _ _)))
    have S2 : Aside (SWK enc k w0 blk off d (grow (wr.drewN nq) osq)) := S1.out.grown nq osq; clear l1a l1b hc1 S1; generalize grow (wr.drewN nq) osq = w2 at S2 ⊢; clear nq osq; go_wp2; go_roundg (c - s)
    case measure => omega
    case rel => exact ⟨s, c, rfl, (by go_num), hs0, zv1, zv1, Nat.le_refl _, S2, ⟨fun h => by have := HI.out.1 h; omega, fun _ => by rw [show mid + m - 1 - c = q by omega]; omega⟩⟩
   ·have ea1 : ((q : Int)).toNat = q := by omega
    have pa1 : (0 : Int) ≤ (q : Int) := by omega
    have ba1 : (q : Int) < (d.size : Int) := by omega
    have ra1 : IntKind.i64.wrap ((q : Int)) = (q : Int) := by rw [IntKind.wrap_i64]; omega
    have ec1 : ((c : Int)).toNat = c := by omega
    have pc1 : (0 : Int) ≤ (c : Int) := by omega
    have bc1 : (c : Int) < (d.size : Int) := by omega
    have rc1 : IntKind.i64.wrap ((c : Int)) = (c : Int) := by rw [IntKind.wrap_i64]; omega
    obtain ⟨x1, hx1⟩ : ∃ x, x = d[q]! := ⟨_, rfl⟩
    obtain ⟨y1, hy1⟩ : ∃ x, x = d[c]! := ⟨_, rfl⟩
    have l1a := S1.out.ld R zv1 Tryd.prog (q) zv1; have l1b := S1.out.ld R zv1 Tryd.prog (c) zv1; rw [← hx1] at l1a; rw [← hy1] at l1b; have hc1 := S1.out.cmp HC.out zv1 x1 y1; have hv1 : ¬ cf x1 y1 < 0 := by rw [hx1, hy1]; exact HV
    have hd1 : decide (cf x1 y1 < 0) = false := decide_eq_false hv1; clear hx1 hy1
    go_wp2_with fail
    go_quiet_grown (first | (go_at_fn g; refine Calls.grown_of (hc1 _ _)))
    have S2 : Aside (SWK enc k w0 blk off d (grow (wr.drewN nq) osq)) := S1.out.grown nq osq; clear l1a l1b hc1 S1; generalize grow (wr.drewN nq) osq = w2 at S2 ⊢; clear nq osq; go_wp2; go_roundg (r - (c + 1))
    case measure => omega
    case rel => exact ⟨c + 1, r, (by go_num), rfl, zv1, zv1, hr0, Nat.le_refl _, S2, ⟨fun _ => by rw [show mid + m - (c + 1) = q by omega, Nat.add_sub_cancel]; omega, fun h => by have := HI.out.2 h; omega⟩⟩
  ·have hltz : ¬ (s : Int) < (r : Int) := by omega
   obtain rfl : s = r := by omega
   obtain ⟨e, he⟩ : ∃ e, e = mid + m - s := ⟨_, rfl⟩
   have ze : (mid : Int) + (m : Int) - (s : Int) = (e : Int) := by omega
   have we : IntKind.i64.wrap ((mid : Int) + (m : Int) - (s : Int)) = (mid : Int) + (m : Int) - (s : Int) := by rw [IntKind.wrap_i64]; omega
   have hA : Hid (a < s → e < b → Rr d[s - 1]! d[e]!) := fun h h' => (HX.out (s - 1) e zv1 zv1 zv1 h').2 (by have := HI.out.1 zv1; rw [← he] at this; omega)
   have hB : Hid (s < m → m < e → Rr d[e - 1]! d[s]!) := fun h h' => (HX.out s (e - 1) zv1 h zv1 zv1).1 zv4c
   clear HI he; have uA : s < m := by omega
   by_cases uB : s < mid
   ·by_cases uC : a < s
    ·by_cases uD : e < b
     ·have kA : (s : Int) < (m : Int) := by omega
      have kB : (m : Int) < (e : Int) := by omega
      have kC : (a : Int) < (s : Int) := by omega
      have kD : (s : Int) < (mid : Int) := by omega
      have kE : (mid : Int) < (e : Int) := by omega
      have kF : (e : Int) < (b : Int) := by omega
      have r1 := rotate_is k aE zE enc g cb blk off cap s m e d0 d w0 wr R hd0 S1.out zv1 zv1 zv1 hsz
      go_wp2_with (first | (go_at_fn 134; (with_reducible refine r1.mono ?_); rintro x w2 ⟨rfl, d1, S2, hP, hG⟩))
      have S2' : Aside _ := S2; clear S2; have G1 : Hid (∀ x, d1[x]! = d[turned s m e x]!) := hG; have P1 : Hid (PermIn a b d d1) := permIn_mono _ _ _ _ _ _ zv1 zv1 zv1 hP; have hs1 : d1.size = d.size := hP.1; clear hG hP r1; have V1 : Hid (Asc Rr a s d1 ∧ Asc Rr s mid d1 ∧ Asc Rr mid e d1 ∧ Asc Rr e b d1 ∧ ∀ i j, a ≤ i → i < mid → mid ≤ j → j < b → Rr d1[i]! d1[j]!) := halves HT.out (a := a) (s := s) (m := m) (e := e) (b := b) (mid := mid) (d := d) (d1 := d1) zv1 zv1 zv1 zv1 zv1 G1.out HL.out HR.out (fun _ _ => hA.out zv1 zv1) (fun _ _ => hB.out zv1 zv1); have V2 : Hid (Cross cf Rr a s mid d1 ∧ Cross cf Rr mid e b d1) := zRz (a := a) (s := s) (m := m) (e := e) (b := b) (mid := mid) (d := d) (d1 := d1) zv1 zv1 zv1 zv1 zv1 G1.out HX.out; have r2 := IH.out a s mid d1 w2 zv1 zv1 zv1 zv1 zv1 V1.out.1 V1.out.2.1 V2.out.1 S2'.out
      go_wp2_with (first | (go_at_fn 123; (with_reducible refine r2.mono ?_); rintro x w3 ⟨rfl, d2, S3, hP, hA2⟩))
      have S3' : Aside _ := S3; clear S3; have P2 : Hid (PermIn a mid d1 d2) := hP; have T2 : Hid (Asc Rr a mid d2) := hA2; have hs2 : d2.size = d1.size := hP.1; clear hP hA2 r2; have r3 := IH.out mid e b d2 w3 zv1 zv1 zv1 zv1 zv1 (V1.out.2.2.1.same fun x hx hx' => P2.out.2.1 x (.inr hx)) (V1.out.2.2.2.1.same fun x hx hx' => P2.out.2.1 x (.inr zv1)) (V2.out.2.same fun x hx hx' => P2.out.2.1 x (.inr hx)) S3'.out
      go_wp2_with (first | (go_at_fn 123; (with_reducible refine r3.mono ?_); rintro x w4 ⟨rfl, d3, S4, hP, hA3⟩))
      go_end0
      have J := joined (a := a) (b := b) (mid := mid) zv1 zv1 zv1 V1.out.2.2.2.2 P2.out hP T2.out hA3; exact ⟨rfl, d3, S4, permIn_trans _ _ _ _ _ P1.out J.1, J.2⟩
     ·have kA : (s : Int) < (m : Int) := by omega
      have kB : (m : Int) < (e : Int) := by omega
      have kC : (a : Int) < (s : Int) := by omega
      have kD : (s : Int) < (mid : Int) := by omega
      have kE : (mid : Int) < (e : Int) := by omega
      have kF : ¬ (e : Int) < (b : Int) := by omega
      have r1 := rotate_is k aE zE enc g cb blk off cap s m e d0 d w0 wr R hd0 S1.out zv1 zv1 zv1 hsz
      go_wp2_with (first | (go_at_fn 134; (with_reducible refine r1.mono ?_); rintro x w2 ⟨rfl, d1, S2, hP, hG⟩))
      have S2' : Aside _ := S2; clear S2; have G1 : Hid (∀ x, d1[x]! = d[turned s m e x]!) := hG; have P1 : Hid (PermIn a b d d1) := permIn_mono _ _ _ _ _ _ zv1 zv1 zv1 hP; have hs1 : d1.size = d.size := hP.1; clear hG hP r1; have V1 : Hid (Asc Rr a s d1 ∧ Asc Rr s mid d1 ∧ Asc Rr mid e d1 ∧ Asc Rr e b d1 ∧ ∀ i j, a ≤ i → i < mid → mid ≤ j → j < b → Rr d1[i]! d1[j]!) := halves HT.out (a := a) (s := s) (m := m) (e := e) (b := b) (mid := mid) (d := d) (d1 := d1) zv1 zv1 zv1 zv1 zv1 G1.out HL.out HR.out (fun _ _ => hA.out zv1 zv1) (fun _ _ => hB.out zv1 zv1); have V2 : Hid (Cross cf Rr a s mid d1 ∧ Cross cf Rr mid e b d1) := zRz (a := a) (s := s) (m := m) (e := e) (b := b) (mid := mid) (d := d) (d1 := d1) zv1 zv1 zv1 zv1 zv1 G1.out HX.out; have r2 := IH.out a s mid d1 w2 zv1 zv1 zv1 zv1 zv1 V1.out.1 V1.out.2.1 V2.out.1 S2'.out
      go_wp2_with (first | (go_at_fn 123; (with_reducible refine r2.mono ?_); rintro x w3 ⟨rfl, d2, S3, hP, hA2⟩))
      have S3' : Aside _ := S3; clear S3; have P2 : Hid (PermIn a mid d1 d2) := hP; have T2 : Hid (Asc Rr a mid d2) := hA2; have hs2 : d2.size = d1.size := hP.1; clear hP hA2 r2
      have T3 : Asc Rr mid b d2 := by
       have := V1.out.2.2.1; rw [show e = b by omega] at this; exact this.same fun x hx hx' => P2.out.2.1 x (.inr hx)
      have J := joined (a := a) (b := b) (mid := mid) zv1 zv1 zv1 V1.out.2.2.2.2 P2.out (permIn_refl _ _ _) T2.out T3; have J' : Hid (PermIn a b d1 d2 ∧ Asc Rr a b d2) := J; clear J T3; go_wp2
      go_end0
      exact ⟨rfl, d2, S3'.out, permIn_trans _ _ _ _ _ P1.out J'.out.1, J'.out.2⟩
    ·by_cases uD : e < b
     ·have kA : (s : Int) < (m : Int) := by omega
      have kB : (m : Int) < (e : Int) := by omega
      have kC : ¬ (a : Int) < (s : Int) := by omega
      have kD : (s : Int) < (mid : Int) := by omega
      have kE : (mid : Int) < (e : Int) := by omega
      have kF : (e : Int) < (b : Int) := by omega
      have r1 := rotate_is k aE zE enc g cb blk off cap s m e d0 d w0 wr R hd0 S1.out zv1 zv1 zv1 hsz
      go_wp2_with (first | (go_at_fn 134; (with_reducible refine r1.mono ?_); rintro x w2 ⟨rfl, d1, S2, hP, hG⟩))
      have S2' : Aside _ := S2; clear S2; have G1 : Hid (∀ x, d1[x]! = d[turned s m e x]!) := hG; have P1 : Hid (PermIn a b d d1) := permIn_mono _ _ _ _ _ _ zv1 zv1 zv1 hP; have hs1 : d1.size = d.size := hP.1; clear hG hP r1; have V1 : Hid (Asc Rr a s d1 ∧ Asc Rr s mid d1 ∧ Asc Rr mid e d1 ∧ Asc Rr e b d1 ∧ ∀ i j, a ≤ i → i < mid → mid ≤ j → j < b → Rr d1[i]! d1[j]!) := halves HT.out (a := a) (s := s) (m := m) (e := e) (b := b) (mid := mid) (d := d) (d1 := d1) zv1 zv1 zv1 zv1 zv1 G1.out HL.out HR.out (fun _ _ => hA.out zv1 zv1) (fun _ _ => hB.out zv1 zv1); have V2 : Hid (Cross cf Rr a s mid d1 ∧ Cross cf Rr mid e b d1) := zRz (a := a) (s := s) (m := m) (e := e) (b := b) (mid := mid) (d := d) (d1 := d1) zv1 zv1 zv1 zv1 zv1 G1.out HX.out; obtain ⟨d2, hd2⟩ : ∃ d2, d2 = d1 := ⟨d1, rfl⟩
      have S3' : Aside (SWK enc k w0 blk off d2 w2) := by rw [hd2]; exact S2'
      have P2 : Hid (PermIn a mid d1 d2) := by rw [hd2]; exact permIn_refl _ _ _
      have T2 : Hid (Asc Rr a mid d2) := by have := V1.out.2.1; rw [hd2]; rwa [show s = a by omega] at this
      have hs2 : d2.size = d1.size := by rw [hd2]
      clear hd2; have r3 := IH.out mid e b d2 w2 zv1 zv1 zv1 zv1 zv1 (V1.out.2.2.1.same fun x hx hx' => P2.out.2.1 x (.inr hx)) (V1.out.2.2.2.1.same fun x hx hx' => P2.out.2.1 x (.inr zv1)) (V2.out.2.same fun x hx hx' => P2.out.2.1 x (.inr hx)) S3'.out
      go_wp2_with (first | (go_at_fn 123; (with_reducible refine r3.mono ?_); rintro x w4 ⟨rfl, d3, S4, hP, hA3⟩))
      go_end0
      have J := joined (a := a) (b := b) (mid := mid) zv1 zv1 zv1 V1.out.2.2.2.2 P2.out hP T2.out hA3; exact ⟨rfl, d3, S4, permIn_trans _ _ _ _ _ P1.out J.1, J.2⟩
     ·have kA : (s : Int) < (m : Int) := by omega
      have kB : (m : Int) < (e : Int) := by omega
      have kC : ¬ (a : Int) < (s : Int) := by omega
      have kD : (s : Int) < (mid : Int) := by omega
      have kE : (mid : Int) < (e : Int) := by omega
      have kF : ¬ (e : Int) < (b : Int) := by omega
      have r1 := rotate_is k aE zE enc g cb blk off cap s m e d0 d w0 wr R hd0 S1.out zv1 zv1 zv1 hsz
      go_wp2_with (first | (go_at_fn 134; (with_reducible refine r1.mono ?_); rintro x w2 ⟨rfl, d1, S2, hP, hG⟩))
      have S2' : Aside _ := S2; clear S2; have G1 : Hid (∀ x, d1[x]! = d[turned s m e x]!) := hG; have P1 : Hid (PermIn a b d d1) := permIn_mono _ _ _ _ _ _ zv1 zv1 zv1 hP; have hs1 : d1.size = d.size := hP.1; clear hG hP r1; have V1 : Hid (Asc Rr a s d1 ∧ Asc Rr s mid d1 ∧ Asc Rr mid e d1 ∧ Asc Rr e b d1 ∧ ∀ i j, a ≤ i → i < mid → mid ≤ j → j < b → Rr d1[i]! d1[j]!) := halves HT.out (a := a) (s := s) (m := m) (e := e) (b := b) (mid := mid) (d := d) (d1 := d1) zv1 zv1 zv1 zv1 zv1 G1.out HL.out HR.out (fun _ _ => hA.out zv1 zv1) (fun _ _ => hB.out zv1 zv1); have V2 : Hid (Cross cf Rr a s mid d1 ∧ Cross cf Rr mid e b d1) := zRz (a := a) (s := s) (m := m) (e := e) (b := b) (mid := mid) (d := d) (d1 := d1) zv1 zv1 zv1 zv1 zv1 G1.out HX.out; obtain ⟨d2, hd2⟩ : ∃ d2, d2 = d1 := ⟨d1, rfl⟩
      have S3' : Aside (SWK enc k w0 blk off d2 w2) := by rw [hd2]; exact S2'
      have P2 : Hid (PermIn a mid d1 d2) := by rw [hd2]; exact permIn_refl _ _ _
      have T2 : Hid (Asc Rr a mid d2) := by have := V1.out.2.1; rw [hd2]; rwa [show s = a by omega] at this
      have hs2 : d2.size = d1.size := by rw [hd2]
      clear hd2
      have T3 : Asc Rr mid b d2 := by
       have := V1.out.2.2.1; rw [show e = b by omega] at this; exact this.same fun x hx hx' => P2.out.2.1 x (.inr hx)
      have J := joined (a := a) (b := b) (mid := mid) zv1 zv1 zv1 V1.out.2.2.2.2 P2.out (permIn_refl _ _ _) T2.out T3; have J' : Hid (PermIn a b d1 d2 ∧ Asc Rr a b d2) := J; clear J T3; go_wp2
      go_end0
      exact ⟨rfl, d2, S3'.out, permIn_trans _ _ _ _ _ P1.out J'.out.1, J'.out.2⟩
   ·by_cases uC : a < s
    ·by_cases uD : e < b
     ·have kA : (s : Int) < (m : Int) := by omega
      have kB : ¬ (m : Int) < (e : Int) := by omega
      have kC : (a : Int) < (s : Int) := by omega
      have kD : ¬ (s : Int) < (mid : Int) := by omega
      have kE : (mid : Int) < (e : Int) := by omega
      have kF : (e : Int) < (b : Int) := by omega
      obtain ⟨d1, hd1⟩ : ∃ d1, d1 = d := ⟨d, rfl⟩
      have S2' : Aside (SWK enc k w0 blk off d1 wr) := by rw [hd1]; exact S1
      have G1 : Hid (∀ x, d1[x]! = d[turned s m e x]!) := fun x => by rw [hd1, turned_none zv1 zv1 zv1]
      have P1 : Hid (PermIn a b d d1) := by rw [hd1]; exact permIn_refl _ _ _
      have hs1 : d1.size = d.size := by rw [hd1]
      clear hd1; have V1 : Hid (Asc Rr a s d1 ∧ Asc Rr s mid d1 ∧ Asc Rr mid e d1 ∧ Asc Rr e b d1 ∧ ∀ i j, a ≤ i → i < mid → mid ≤ j → j < b → Rr d1[i]! d1[j]!) := halves HT.out (a := a) (s := s) (m := m) (e := e) (b := b) (mid := mid) (d := d) (d1 := d1) zv1 zv1 zv1 zv1 zv1 G1.out HL.out HR.out (fun _ _ => hA.out zv1 zv1) (fun _ _ => hB.out zv1 zv1); have V2 : Hid (Cross cf Rr a s mid d1 ∧ Cross cf Rr mid e b d1) := zRz (a := a) (s := s) (m := m) (e := e) (b := b) (mid := mid) (d := d) (d1 := d1) zv1 zv1 zv1 zv1 zv1 G1.out HX.out; obtain ⟨d2, hd2⟩ : ∃ d2, d2 = d1 := ⟨d1, rfl⟩
      have S3' : Aside (SWK enc k w0 blk off d2 wr) := by rw [hd2]; exact S2'
      have P2 : Hid (PermIn a mid d1 d2) := by rw [hd2]; exact permIn_refl _ _ _
      have T2 : Hid (Asc Rr a mid d2) := by have := V1.out.1; rw [hd2]; rwa [show s = mid by omega] at this
      have hs2 : d2.size = d1.size := by rw [hd2]
      clear hd2; have r3 := IH.out mid e b d2 wr zv1 zv1 zv1 zv1 zv1 (V1.out.2.2.1.same fun x hx hx' => P2.out.2.1 x (.inr hx)) (V1.out.2.2.2.1.same fun x hx hx' => P2.out.2.1 x (.inr zv1)) (V2.out.2.same fun x hx hx' => P2.out.2.1 x (.inr hx)) S3'.out
      go_wp2_with (first | (go_at_fn 123; (with_reducible refine r3.mono ?_); rintro x w4 ⟨rfl, d3, S4, hP, hA3⟩))
      go_end0
      have J := joined (a := a) (b := b) (mid := mid) zv1 zv1 zv1 V1.out.2.2.2.2 P2.out hP T2.out hA3; exact ⟨rfl, d3, S4, permIn_trans _ _ _ _ _ P1.out J.1, J.2⟩
     ·have kA : (s : Int) < (m : Int) := by omega
      have kB : ¬ (m : Int) < (e : Int) := by omega
      have kC : (a : Int) < (s : Int) := by omega
      have kD : ¬ (s : Int) < (mid : Int) := by omega
      have kE : (mid : Int) < (e : Int) := by omega
      have kF : ¬ (e : Int) < (b : Int) := by omega
      obtain ⟨d1, hd1⟩ : ∃ d1, d1 = d := ⟨d, rfl⟩
      have S2' : Aside (SWK enc k w0 blk off d1 wr) := by rw [hd1]; exact S1
      have G1 : Hid (∀ x, d1[x]! = d[turned s m e x]!) := fun x => by rw [hd1, turned_none zv1 zv1 zv1]
      have P1 : Hid (PermIn a b d d1) := by rw [hd1]; exact permIn_refl _ _ _
      have hs1 : d1.size = d.size := by rw [hd1]
      clear hd1; have V1 : Hid (Asc Rr a s d1 ∧ Asc Rr s mid d1 ∧ Asc Rr mid e d1 ∧ Asc Rr e b d1 ∧ ∀ i j, a ≤ i → i < mid → mid ≤ j → j < b → Rr d1[i]! d1[j]!) := halves HT.out (a := a) (s := s) (m := m) (e := e) (b := b) (mid := mid) (d := d) (d1 := d1) zv1 zv1 zv1 zv1 zv1 G1.out HL.out HR.out (fun _ _ => hA.out zv1 zv1) (fun _ _ => hB.out zv1 zv1); have V2 : Hid (Cross cf Rr a s mid d1 ∧ Cross cf Rr mid e b d1) := zRz (a := a) (s := s) (m := m) (e := e) (b := b) (mid := mid) (d := d) (d1 := d1) zv1 zv1 zv1 zv1 zv1 G1.out HX.out; obtain ⟨d2, hd2⟩ : ∃ d2, d2 = d1 := ⟨d1, rfl⟩
      have S3' : Aside (SWK enc k w0 blk off d2 wr) := by rw [hd2]; exact S2'
      have P2 : Hid (PermIn a mid d1 d2) := by rw [hd2]; exact permIn_refl _ _ _
      have T2 : Hid (Asc Rr a mid d2) := by have := V1.out.1; rw [hd2]; rwa [show s = mid by omega] at this
      have hs2 : d2.size = d1.size := by rw [hd2]
      clear hd2
      have T3 : Asc Rr mid b d2 := by
       have := V1.out.2.2.1; rw [show e = b by omega] at this; exact this.same fun x hx hx' => P2.out.2.1 x (.inr hx)
      have J := joined (a := a) (b := b) (mid := mid) zv1 zv1 zv1 V1.out.2.2.2.2 P2.out (permIn_refl _ _ _) T2.out T3; have J' : Hid (PermIn a b d1 d2 ∧ Asc Rr a b d2) := J; clear J T3; go_wp2
      go_end0
      exact ⟨rfl, d2, S3'.out, permIn_trans _ _ _ _ _ P1.out J'.out.1, J'.out.2⟩
    ·by_cases uD : e < b
     ·have kA : (s : Int) < (m : Int) := by omega
      have kB : ¬ (m : Int) < (e : Int) := by omega
      have kC : ¬ (a : Int) < (s : Int) := by omega
      have kD : ¬ (s : Int) < (mid : Int) := by omega
      have kE : (mid : Int) < (e : Int) := by omega
      have kF : (e : Int) < (b : Int) := by omega
      obtain ⟨d1, hd1⟩ : ∃ d1, d1 = d := ⟨d, rfl⟩
      have S2' : Aside (SWK enc k w0 blk off d1 wr) := by rw [hd1]; exact S1
      have G1 : Hid (∀ x, d1[x]! = d[turned s m e x]!) := fun x => by rw [hd1, turned_none zv1 zv1 zv1]
      have P1 : Hid (PermIn a b d d1) := by rw [hd1]; exact permIn_refl _ _ _
      have hs1 : d1.size = d.size := by rw [hd1]
      clear hd1; have V1 : Hid (Asc Rr a s d1 ∧ Asc Rr s mid d1 ∧ Asc Rr mid e d1 ∧ Asc Rr e b d1 ∧ ∀ i j, a ≤ i → i < mid → mid ≤ j → j < b → Rr d1[i]! d1[j]!) := halves HT.out (a := a) (s := s) (m := m) (e := e) (b := b) (mid := mid) (d := d) (d1 := d1) zv1 zv1 zv1 zv1 zv1 G1.out HL.out HR.out (fun _ _ => hA.out zv1 zv1) (fun _ _ => hB.out zv1 zv1); have V2 : Hid (Cross cf Rr a s mid d1 ∧ Cross cf Rr mid e b d1) := zRz (a := a) (s := s) (m := m) (e := e) (b := b) (mid := mid) (d := d) (d1 := d1) zv1 zv1 zv1 zv1 zv1 G1.out HX.out; obtain ⟨d2, hd2⟩ : ∃ d2, d2 = d1 := ⟨d1, rfl⟩
      have S3' : Aside (SWK enc k w0 blk off d2 wr) := by rw [hd2]; exact S2'
      have P2 : Hid (PermIn a mid d1 d2) := by rw [hd2]; exact permIn_refl _ _ _
      have T2 : Hid (Asc Rr a mid d2) := by have := V1.out.2.1; rw [hd2]; rwa [show s = a by omega] at this
      have hs2 : d2.size = d1.size := by rw [hd2]
      clear hd2; have r3 := IH.out mid e b d2 wr zv1 zv1 zv1 zv1 zv1 (V1.out.2.2.1.same fun x hx hx' => P2.out.2.1 x (.inr hx)) (V1.out.2.2.2.1.same fun x hx hx' => P2.out.2.1 x (.inr zv1)) (V2.out.2.same fun x hx hx' => P2.out.2.1 x (.inr hx)) S3'.out
      go_wp2_with (first | (go_at_fn 123; (with_reducible refine r3.mono ?_); rintro x w4 ⟨rfl, d3, S4, hP, hA3⟩))
      go_end0
      have J := joined (a := a) (b := b) (mid := mid) zv1 zv1 zv1 V1.out.2.2.2.2 P2.out hP T2.out hA3; exact ⟨rfl, d3, S4, permIn_trans _ _ _ _ _ P1.out J.1, J.2⟩
     ·have kA : (s : Int) < (m : Int) := by omega
      have kB : ¬ (m : Int) < (e : Int) := by omega
      have kC : ¬ (a : Int) < (s : Int) := by omega
      have kD : ¬ (s : Int) < (mid : Int) := by omega
      have kE : (mid : Int) < (e : Int) := by omega
      have kF : ¬ (e : Int) < (b : Int) := by omega
      obtain ⟨d1, hd1⟩ : ∃ d1, d1 = d := ⟨d, rfl⟩
      have S2' : Aside (SWK enc k w0 blk off d1 wr) := by rw [hd1]; exact S1
      have G1 : Hid (∀ x, d1[x]! = d[turned s m e x]!) := fun x => by rw [hd1, turned_none zv1 zv1 zv1]
      have P1 : Hid (PermIn a b d d1) := by rw [hd1]; exact permIn_refl _ _ _
      have hs1 : d1.size = d.size := by rw [hd1]
      clear hd1; have V1 : Hid (Asc Rr a s d1 ∧ Asc Rr s mid d1 ∧ Asc Rr mid e d1 ∧ Asc Rr e b d1 ∧ ∀ i j, a ≤ i → i < mid → mid ≤ j → j < b → Rr d1[i]! d1[j]!) := halves HT.out (a := a) (s := s) (m := m) (e := e) (b := b) (mid := mid) (d := d) (d1 := d1) zv1 zv1 zv1 zv1 zv1 G1.out HL.out HR.out (fun _ _ => hA.out zv1 zv1) (fun _ _ => hB.out zv1 zv1); have V2 : Hid (Cross cf Rr a s mid d1 ∧ Cross cf Rr mid e b d1) := zRz (a := a) (s := s) (m := m) (e := e) (b := b) (mid := mid) (d := d) (d1 := d1) zv1 zv1 zv1 zv1 zv1 G1.out HX.out; obtain ⟨d2, hd2⟩ : ∃ d2, d2 = d1 := ⟨d1, rfl⟩
      have S3' : Aside (SWK enc k w0 blk off d2 wr) := by rw [hd2]; exact S2'
      have P2 : Hid (PermIn a mid d1 d2) := by rw [hd2]; exact permIn_refl _ _ _
      have T2 : Hid (Asc Rr a mid d2) := by have := V1.out.2.1; rw [hd2]; rwa [show s = a by omega] at this
      have hs2 : d2.size = d1.size := by rw [hd2]
      clear hd2
      have T3 : Asc Rr mid b d2 := by
       have := V1.out.2.2.1; rw [show e = b by omega] at this; exact this.same fun x hx hx' => P2.out.2.1 x (.inr hx)
      have J := joined (a := a) (b := b) (mid := mid) zv1 zv1 zv1 V1.out.2.2.2.2 P2.out (permIn_refl _ _ _) T2.out T3; have J' : Hid (PermIn a b d1 d2 ∧ Asc Rr a b d2) := J; clear J T3; go_wp2
      go_end0
      exact ⟨rfl, d2, S3'.out, permIn_trans _ _ _ _ _ P1.out J'.out.1, J'.out.2⟩
set_option maxHeartbeats 16000000 in
set_option maxRecDepth 1000000 in
theorem symMerge_coreR (k : Nat) (aE : ∀ w, (isAgg 44).run Tryd.prog w = .ok true w) (zE : ∀ w, (Go.sizeOf 44).run Tryd.prog w = .ok k w) (enc : α → List Value) (cf : α → α → Int) (Rr : α → α → Prop) (g : Nat) (cb : Array Value) (blk off cap : Nat) (d0 : Array α) (w0 : World)
  (R : RowK enc k w0 blk off d0) (hcmp : CmpLays Tryd.prog g cb enc k cf blk off d0.size w0) (eg : ∀ args w, (callFunc g args).run Tryd.prog w = .ok (.enter g args) w) (hT : ∀ x y z, Rr x y → Rr y z → Rr x z) (hsz : d0.size < 4611686018427387904) (N : Nat) (IH0 : ∀ (a m b : Nat) (d : Array α) (w : World), b - a ≤ N → a < m → m < b → b ≤ d.size → d.size = d0.size → Asc Rr a m d → Asc Rr m b d → Cross cf Rr a m b d → SWK enc k w0 blk off d w → Calls Tryd.prog 123 #[.slice (some ⟨blk, off, none⟩) d0.size cap, .int .i64 a, .int .i64 m, .int .i64 b, .func (.func g) #[] cb] w fun e w' => e = .returned (.tuple #[]) ∧ ∃ d', SWK enc k w0 blk off d' w' ∧ PermIn a b d d' ∧ Asc Rr a b d')
  (a m b : Nat) (d : Array α) (w : World) (ham : a < m) (hmb : m < b) (hb : b ≤ d.size) (hds0 : d.size = d0.size) (hL : Asc Rr a m d) (hR : Asc Rr m b d) (hC : Cross cf Rr a m b d) (S : SWK enc k w0 blk off d w) (hN : b - a ≤ N + 1) (c1 : ¬ m - a = 1) (c2 : ¬ b - m = 1) (mid : Nat) (hmid : mid = (a + b) / 2) (c3 : ¬ mid < m) :
  Calls Tryd.prog 123 #[.slice (some ⟨blk, off, none⟩) d0.size cap, .int .i64 a, .int .i64 m, .int .i64 b, .func (.func g) #[] cb] w fun e w' => e = .returned (.tuple #[]) ∧ ∃ d', SWK enc k w0 blk off d' w' ∧ PermIn a b d d' ∧ Asc Rr a b d' := by
 have HC : Aside _ := hcmp; have HL : Hid (Asc Rr a m d) := hL; have HR : Hid (Asc Rr m b d) := hR; have HX : Hid (Cross cf Rr a m b d) := hC; have HT : Hid _ := hT; clear hcmp hL hR hC hT; have S0 : Aside (SWK enc k w0 blk off d w) := S; clear S; have e1 : ∀ args w, (callFunc 134 args).run Tryd.prog w = .ok (.enter 134 args) w := enters_of Tryd.func134 (by kernel_rfl) rfl; have e2 : ∀ args w, (callFunc 123 args).run Tryd.prog w = .ok (.enter 123 args) w := enters_of Tryd.func123 (by kernel_rfl) rfl; have mixed : Tryd.prog.follows .mixedOrders = true := by kernel_rfl
 rw [← hds0] at hsz IH0 ⊢; have IH : Aside _ := IH0; clear IH0; have hd0 : d0.size = d.size := hds0.symm; clear hds0; have z1 : ((m : Int) - (a : Int) == 1) = false := by simp; omega
 have z2 : ((b : Int) - (m : Int) == 1) = false := by simp; omega
 have zmid : ((a : Int) + (b : Int)) / 2 = (mid : Int) := by omega
 clear hmid; have zc : ¬ (mid : Int) < (m : Int) := by omega
 have wn : IntKind.i64.wrap ((mid : Int) + (m : Int)) = (mid : Int) + (m : Int) := by rw [IntKind.wrap_i64]; omega
 have wp : IntKind.i64.wrap ((mid : Int) + (m : Int) - 1) = (mid : Int) + (m : Int) - 1 := by rw [IntKind.wrap_i64]; omega
 have ws : IntKind.i64.wrap ((mid : Int) + (m : Int) - (b : Int)) = (mid : Int) + (m : Int) - (b : Int) := by rw [IntKind.wrap_i64]; omega
 go_enter Tryd.func123, Tryd.ntmps123
 go_wp2_with fail
 go_loopg [20, 21] (m - a) (fun kx s20 s21 wr => ∃ (s r : Nat), s20 = .int .i64 s ∧ s21 = .int .i64 r ∧ a ≤ s ∧ s ≤ r ∧ r ≤ m ∧ r - s ≤ kx ∧ Aside (SWK enc k w0 blk off d wr) ∧ Hid ((a < s → ¬ cf d[mid + m - s]! d[s - 1]! < 0) ∧ (r < m → cf d[mid + m - 1 - r]! d[r]! < 0)))
 case atStart => exact ⟨a, m, (by go_num), (by go_num), Nat.le_refl _, zv1, Nat.le_refl _, Nat.le_refl _, S0, ⟨fun h => absurd h (Nat.lt_irrefl _), fun h => absurd h (Nat.lt_irrefl _)⟩⟩
 case round =>
  clear S0; obtain ⟨s, r, rfl, rfl, hs0, hsr, hr0, hkx, S1, HI⟩ := hrel
  by_cases hlt : s < r
  ·have hltz : (s : Int) < (r : Int) := by omega
   obtain ⟨c, hc⟩ : ∃ c, c = (s + r) / 2 := ⟨_, rfl⟩
   obtain ⟨q, hq⟩ : ∃ q, q = mid + m - 1 - c := ⟨_, rfl⟩
   have zcc : ((s : Int) + (r : Int)) / 2 = (c : Int) := by omega
   have zq : (mid : Int) + (m : Int) - 1 - (c : Int) = (q : Int) := by omega
   clear hc hq; have wq : IntKind.i64.wrap ((mid : Int) + (m : Int) - 1 - (c : Int)) = (mid : Int) + (m : Int) - 1 - (c : Int) := by rw [IntKind.wrap_i64]; omega
   by_cases HV : cf d[q]! d[c]! < 0
   ·have ea1 : ((q : Int)).toNat = q := by omega
    have pa1 : (0 : Int) ≤ (q : Int) := by omega
    have ba1 : (q : Int) < (d.size : Int) := by omega
    have ra1 : IntKind.i64.wrap ((q : Int)) = (q : Int) := by rw [IntKind.wrap_i64]; omega
    have ec1 : ((c : Int)).toNat = c := by omega
    have pc1 : (0 : Int) ≤ (c : Int) := by omega
    have bc1 : (c : Int) < (d.size : Int) := by omega
    have rc1 : IntKind.i64.wrap ((c : Int)) = (c : Int) := by rw [IntKind.wrap_i64]; omega
    obtain ⟨x1, hx1⟩ : ∃ x, x = d[q]! := ⟨_, rfl⟩
    obtain ⟨y1, hy1⟩ : ∃ x, x = d[c]! := ⟨_, rfl⟩
    have l1a := S1.out.ld R zv1 Tryd.prog (q) zv1; have l1b := S1.out.ld R zv1 Tryd.prog (c) zv1; rw [← hx1] at l1a; rw [← hy1] at l1b; have hc1 := S1.out.cmp HC.out zv1 x1 y1; have hv1 : cf x1 y1 < 0 := by rw [hx1, hy1]; exact HV
    have hd1 : decide (cf x1 y1 < 0) = true := decide_eq_true hv1; clear hx1 hy1
    go_wp2_with fail
    go_quiet_grown (first | (go_at_fn g; refine Calls.grown_of (hc1 _ _)))
    have S2 : Aside (SWK enc k w0 blk off d (grow (wr.drewN nq) osq)) := S1.out.grown nq osq; clear l1a l1b hc1 S1; generalize grow (wr.drewN nq) osq = w2 at S2 ⊢; clear nq osq; go_wp2; go_roundg (c - s)
    case measure => omega
    case rel => exact ⟨s, c, rfl, (by go_num), hs0, zv1, zv1, Nat.le_refl _, S2, ⟨fun h => by have := HI.out.1 h; omega, fun _ => by rw [show mid + m - 1 - c = q by omega]; omega⟩⟩
   ·have ea1 : ((q : Int)).toNat = q := by omega
    have pa1 : (0 : Int) ≤ (q : Int) := by omega
    have ba1 : (q : Int) < (d.size : Int) := by omega
    have ra1 : IntKind.i64.wrap ((q : Int)) = (q : Int) := by rw [IntKind.wrap_i64]; omega
    have ec1 : ((c : Int)).toNat = c := by omega
    have pc1 : (0 : Int) ≤ (c : Int) := by omega
    have bc1 : (c : Int) < (d.size : Int) := by omega
    have rc1 : IntKind.i64.wrap ((c : Int)) = (c : Int) := by rw [IntKind.wrap_i64]; omega
    obtain ⟨x1, hx1⟩ : ∃ x, x = d[q]! := ⟨_, rfl⟩
    obtain ⟨y1, hy1⟩ : ∃ x, x = d[c]! := ⟨_, rfl⟩
    have l1a := S1.out.ld R zv1 Tryd.prog (q) zv1; have l1b := S1.out.ld R zv1 Tryd.prog (c) zv1; rw [← hx1] at l1a; rw [← hy1] at l1b; have hc1 := S1.out.cmp HC.out zv1 x1 y1; have hv1 : ¬ cf x1 y1 < 0 := by rw [hx1, hy1]; exact HV
    have hd1 : decide (cf x1 y1 < 0) = false := decide_eq_false hv1; clear hx1 hy1
    go_wp2_with fail
    go_quiet_grown (first | (go_at_fn g; refine Calls.grown_of (hc1 _ _)))
    have S2 : Aside (SWK enc k w0 blk off d (grow (wr.drewN nq) osq)) := S1.out.grown nq osq; clear l1a l1b hc1 S1; generalize grow (wr.drewN nq) osq = w2 at S2 ⊢; clear nq osq; go_wp2; go_roundg (r - (c + 1))
    case measure => omega
    case rel => exact ⟨c + 1, r, (by go_num), rfl, zv1, zv1, hr0, Nat.le_refl _, S2, ⟨fun _ => by rw [show mid + m - (c + 1) = q by omega, Nat.add_sub_cancel]; omega, fun h => by have := HI.out.2 h; omega⟩⟩
  ·have hltz : ¬ (s : Int) < (r : Int) := by omega
   obtain rfl : s = r := by omega
   obtain ⟨e, he⟩ : ∃ e, e = mid + m - s := ⟨_, rfl⟩
   have ze : (mid : Int) + (m : Int) - (s : Int) = (e : Int) := by omega
   have we : IntKind.i64.wrap ((mid : Int) + (m : Int) - (s : Int)) = (mid : Int) + (m : Int) - (s : Int) := by rw [IntKind.wrap_i64]; omega
   have hA : Hid (a < s → e < b → Rr d[s - 1]! d[e]!) := fun h h' => (HX.out (s - 1) e zv1 zv1 zv1 h').2 (by have := HI.out.1 zv1; rw [← he] at this; omega)
   have hB : Hid (s < m → m < e → Rr d[e - 1]! d[s]!) := fun h h' => (HX.out s (e - 1) zv1 h zv1 zv1).1 zv4c
   clear HI he
   by_cases uA : s < m
   ·have uB : s < mid := by omega
    by_cases uC : a < s
    ·by_cases uD : e < b
     ·have kA : (s : Int) < (m : Int) := by omega
      have kB : (m : Int) < (e : Int) := by omega
      have kC : (a : Int) < (s : Int) := by omega
      have kD : (s : Int) < (mid : Int) := by omega
      have kE : (mid : Int) < (e : Int) := by omega
      have kF : (e : Int) < (b : Int) := by omega
      have r1 := rotate_is k aE zE enc g cb blk off cap s m e d0 d w0 wr R hd0 S1.out zv1 zv1 zv1 hsz
      go_wp2_with (first | (go_at_fn 134; (with_reducible refine r1.mono ?_); rintro x w2 ⟨rfl, d1, S2, hP, hG⟩))
      have S2' : Aside _ := S2; clear S2; have G1 : Hid (∀ x, d1[x]! = d[turned s m e x]!) := hG; have P1 : Hid (PermIn a b d d1) := permIn_mono _ _ _ _ _ _ zv1 zv1 zv1 hP; have hs1 : d1.size = d.size := hP.1; clear hG hP r1; have V1 : Hid (Asc Rr a s d1 ∧ Asc Rr s mid d1 ∧ Asc Rr mid e d1 ∧ Asc Rr e b d1 ∧ ∀ i j, a ≤ i → i < mid → mid ≤ j → j < b → Rr d1[i]! d1[j]!) := halves HT.out (a := a) (s := s) (m := m) (e := e) (b := b) (mid := mid) (d := d) (d1 := d1) zv1 zv1 zv1 zv1 zv1 G1.out HL.out HR.out (fun _ _ => hA.out zv1 zv1) (fun _ _ => hB.out zv1 zv1); have V2 : Hid (Cross cf Rr a s mid d1 ∧ Cross cf Rr mid e b d1) := zRz (a := a) (s := s) (m := m) (e := e) (b := b) (mid := mid) (d := d) (d1 := d1) zv1 zv1 zv1 zv1 zv1 G1.out HX.out; have r2 := IH.out a s mid d1 w2 zv1 zv1 zv1 zv1 zv1 V1.out.1 V1.out.2.1 V2.out.1 S2'.out
      go_wp2_with (first | (go_at_fn 123; (with_reducible refine r2.mono ?_); rintro x w3 ⟨rfl, d2, S3, hP, hA2⟩))
      have S3' : Aside _ := S3; clear S3; have P2 : Hid (PermIn a mid d1 d2) := hP; have T2 : Hid (Asc Rr a mid d2) := hA2; have hs2 : d2.size = d1.size := hP.1; clear hP hA2 r2; have r3 := IH.out mid e b d2 w3 zv1 zv1 zv1 zv1 zv1 (V1.out.2.2.1.same fun x hx hx' => P2.out.2.1 x (.inr hx)) (V1.out.2.2.2.1.same fun x hx hx' => P2.out.2.1 x (.inr zv1)) (V2.out.2.same fun x hx hx' => P2.out.2.1 x (.inr hx)) S3'.out
      go_wp2_with (first | (go_at_fn 123; (with_reducible refine r3.mono ?_); rintro x w4 ⟨rfl, d3, S4, hP, hA3⟩))
      go_end0
      have J := joined (a := a) (b := b) (mid := mid) zv1 zv1 zv1 V1.out.2.2.2.2 P2.out hP T2.out hA3; exact ⟨rfl, d3, S4, permIn_trans _ _ _ _ _ P1.out J.1, J.2⟩
     ·have kA : (s : Int) < (m : Int) := by omega
      have kB : (m : Int) < (e : Int) := by omega
      have kC : (a : Int) < (s : Int) := by omega
      have kD : (s : Int) < (mid : Int) := by omega
      have kE : (mid : Int) < (e : Int) := by omega
      have kF : ¬ (e : Int) < (b : Int) := by omega
      have r1 := rotate_is k aE zE enc g cb blk off cap s m e d0 d w0 wr R hd0 S1.out zv1 zv1 zv1 hsz
      go_wp2_with (first | (go_at_fn 134; (with_reducible refine r1.mono ?_); rintro x w2 ⟨rfl, d1, S2, hP, hG⟩))
      have S2' : Aside _ := S2; clear S2; have G1 : Hid (∀ x, d1[x]! = d[turned s m e x]!) := hG; have P1 : Hid (PermIn a b d d1) := permIn_mono _ _ _ _ _ _ zv1 zv1 zv1 hP; have hs1 : d1.size = d.size := hP.1; clear hG hP r1; have V1 : Hid (Asc Rr a s d1 ∧ Asc Rr s mid d1 ∧ Asc Rr mid e d1 ∧ Asc Rr e b d1 ∧ ∀ i j, a ≤ i → i < mid → mid ≤ j → j < b → Rr d1[i]! d1[j]!) := halves HT.out (a := a) (s := s) (m := m) (e := e) (b := b) (mid := mid) (d := d) (d1 := d1) zv1 zv1 zv1 zv1 zv1 G1.out HL.out HR.out (fun _ _ => hA.out zv1 zv1) (fun _ _ => hB.out zv1 zv1); have V2 : Hid (Cross cf Rr a s mid d1 ∧ Cross cf Rr mid e b d1) := zRz (a := a) (s := s) (m := m) (e := e) (b := b) (mid := mid) (d := d) (d1 := d1) zv1 zv1 zv1 zv1 zv1 G1.out HX.out; have r2 := IH.out a s mid d1 w2 zv1 zv1 zv1 zv1 zv1 V1.out.1 V1.out.2.1 V2.out.1 S2'.out
      go_wp2_with (first | (go_at_fn 123; (with_reducible refine r2.mono ?_); rintro x w3 ⟨rfl, d2, S3, hP, hA2⟩))
      have S3' : Aside _ := S3; clear S3; have P2 : Hid (PermIn a mid d1 d2) := hP; have T2 : Hid (Asc Rr a mid d2) := hA2; have hs2 : d2.size = d1.size := hP.1; clear hP hA2 r2
      have T3 : Asc Rr mid b d2 := by
       have := V1.out.2.2.1; rw [show e = b by omega] at this; exact this.same fun x hx hx' => P2.out.2.1 x (.inr hx)
      have J := joined (a := a) (b := b) (mid := mid) zv1 zv1 zv1 V1.out.2.2.2.2 P2.out (permIn_refl _ _ _) T2.out T3; have J' : Hid (PermIn a b d1 d2 ∧ Asc Rr a b d2) := J; clear J T3; go_wp2
      go_end0
      exact ⟨rfl, d2, S3'.out, permIn_trans _ _ _ _ _ P1.out J'.out.1, J'.out.2⟩
    ·by_cases uD : e < b
     ·have kA : (s : Int) < (m : Int) := by omega
      have kB : (m : Int) < (e : Int) := by omega
      have kC : ¬ (a : Int) < (s : Int) := by omega
      have kD : (s : Int) < (mid : Int) := by omega
      have kE : (mid : Int) < (e : Int) := by omega
      have kF : (e : Int) < (b : Int) := by omega
      have r1 := rotate_is k aE zE enc g cb blk off cap s m e d0 d w0 wr R hd0 S1.out zv1 zv1 zv1 hsz
      go_wp2_with (first | (go_at_fn 134; (with_reducible refine r1.mono ?_); rintro x w2 ⟨rfl, d1, S2, hP, hG⟩))
      have S2' : Aside _ := S2; clear S2; have G1 : Hid (∀ x, d1[x]! = d[turned s m e x]!) := hG; have P1 : Hid (PermIn a b d d1) := permIn_mono _ _ _ _ _ _ zv1 zv1 zv1 hP; have hs1 : d1.size = d.size := hP.1; clear hG hP r1; have V1 : Hid (Asc Rr a s d1 ∧ Asc Rr s mid d1 ∧ Asc Rr mid e d1 ∧ Asc Rr e b d1 ∧ ∀ i j, a ≤ i → i < mid → mid ≤ j → j < b → Rr d1[i]! d1[j]!) := halves HT.out (a := a) (s := s) (m := m) (e := e) (b := b) (mid := mid) (d := d) (d1 := d1) zv1 zv1 zv1 zv1 zv1 G1.out HL.out HR.out (fun _ _ => hA.out zv1 zv1) (fun _ _ => hB.out zv1 zv1); have V2 : Hid (Cross cf Rr a s mid d1 ∧ Cross cf Rr mid e b d1) := zRz (a := a) (s := s) (m := m) (e := e) (b := b) (mid := mid) (d := d) (d1 := d1) zv1 zv1 zv1 zv1 zv1 G1.out HX.out; obtain ⟨d2, hd2⟩ : ∃ d2, d2 = d1 := ⟨d1, rfl⟩
      have S3' : Aside (SWK enc k w0 blk off d2 w2) := by rw [hd2]; exact S2'
      have P2 : Hid (PermIn a mid d1 d2) := by rw [hd2]; exact permIn_refl _ _ _
      have T2 : Hid (Asc Rr a mid d2) := by have := V1.out.2.1; rw [hd2]; rwa [show s = a by omega] at this
      have hs2 : d2.size = d1.size := by rw [hd2]
      clear hd2; have r3 := IH.out mid e b d2 w2 zv1 zv1 zv1 zv1 zv1 (V1.out.2.2.1.same fun x hx hx' => P2.out.2.1 x (.inr hx)) (V1.out.2.2.2.1.same fun x hx hx' => P2.out.2.1 x (.inr zv1)) (V2.out.2.same fun x hx hx' => P2.out.2.1 x (.inr hx)) S3'.out
      go_wp2_with (first | (go_at_fn 123; (with_reducible refine r3.mono ?_); rintro x w4 ⟨rfl, d3, S4, hP, hA3⟩))
      go_end0
      have J := joined (a := a) (b := b) (mid := mid) zv1 zv1 zv1 V1.out.2.2.2.2 P2.out hP T2.out hA3; exact ⟨rfl, d3, S4, permIn_trans _ _ _ _ _ P1.out J.1, J.2⟩
     ·have kA : (s : Int) < (m : Int) := by omega
      have kB : (m : Int) < (e : Int) := by omega
      have kC : ¬ (a : Int) < (s : Int) := by omega
      have kD : (s : Int) < (mid : Int) := by omega
      have kE : (mid : Int) < (e : Int) := by omega
      have kF : ¬ (e : Int) < (b : Int) := by omega
      have r1 := rotate_is k aE zE enc g cb blk off cap s m e d0 d w0 wr R hd0 S1.out zv1 zv1 zv1 hsz
      go_wp2_with (first | (go_at_fn 134; (with_reducible refine r1.mono ?_); rintro x w2 ⟨rfl, d1, S2, hP, hG⟩))
      have S2' : Aside _ := S2; clear S2; have G1 : Hid (∀ x, d1[x]! = d[turned s m e x]!) := hG; have P1 : Hid (PermIn a b d d1) := permIn_mono _ _ _ _ _ _ zv1 zv1 zv1 hP; have hs1 : d1.size = d.size := hP.1; clear hG hP r1; have V1 : Hid (Asc Rr a s d1 ∧ Asc Rr s mid d1 ∧ Asc Rr mid e d1 ∧ Asc Rr e b d1 ∧ ∀ i j, a ≤ i → i < mid → mid ≤ j → j < b → Rr d1[i]! d1[j]!) := halves HT.out (a := a) (s := s) (m := m) (e := e) (b := b) (mid := mid) (d := d) (d1 := d1) zv1 zv1 zv1 zv1 zv1 G1.out HL.out HR.out (fun _ _ => hA.out zv1 zv1) (fun _ _ => hB.out zv1 zv1); have V2 : Hid (Cross cf Rr a s mid d1 ∧ Cross cf Rr mid e b d1) := zRz (a := a) (s := s) (m := m) (e := e) (b := b) (mid := mid) (d := d) (d1 := d1) zv1 zv1 zv1 zv1 zv1 G1.out HX.out; obtain ⟨d2, hd2⟩ : ∃ d2, d2 = d1 := ⟨d1, rfl⟩
      have S3' : Aside (SWK enc k w0 blk off d2 w2) := by rw [hd2]; exact S2'
      have P2 : Hid (PermIn a mid d1 d2) := by rw [hd2]; exact permIn_refl _ _ _
      have T2 : Hid (Asc Rr a mid d2) := by have := V1.out.2.1; rw [hd2]; rwa [show s = a by omega] at this
      have hs2 : d2.size = d1.size := by rw [hd2]
      clear hd2
      have T3 : Asc Rr mid b d2 := by
       have := V1.out.2.2.1; rw [show e = b by omega] at this; exact this.same fun x hx hx' => P2.out.2.1 x (.inr hx)
      have J := joined (a := a) (b := b) (mid := mid) zv1 zv1 zv1 V1.out.2.2.2.2 P2.out (permIn_refl _ _ _) T2.out T3; have J' : Hid (PermIn a b d1 d2 ∧ Asc Rr a b d2) := J; clear J T3; go_wp2
      go_end0
      exact ⟨rfl, d2, S3'.out, permIn_trans _ _ _ _ _ P1.out J'.out.1, J'.out.2⟩
   ·have uC : a < s := by omega
    have sm : m ≤ s := by omega
    have ee : mid ≤ e ∧ e ≤ mid := by omega
    have uD : e < b := by omega
    by_cases uB : s < mid
    ·have kA : ¬ (s : Int) < (m : Int) := by omega
     have kB : (m : Int) < (e : Int) := by omega
     have kC : (a : Int) < (s : Int) := by omega
     have kD : (s : Int) < (mid : Int) := by omega
     have kE : ¬ (mid : Int) < (e : Int) := by omega
     have kF : (e : Int) < (b : Int) := by omega
     obtain ⟨d1, hd1⟩ : ∃ d1, d1 = d := ⟨d, rfl⟩
     have S2' : Aside (SWK enc k w0 blk off d1 wr) := by rw [hd1]; exact S1
     have G1 : Hid (∀ x, d1[x]! = d[turned s m e x]!) := fun x => by rw [hd1, turned_none zv1 zv1 zv1]
     have P1 : Hid (PermIn a b d d1) := by rw [hd1]; exact permIn_refl _ _ _
     have hs1 : d1.size = d.size := by rw [hd1]
     clear hd1; have V1 : Hid (Asc Rr a s d1 ∧ Asc Rr s mid d1 ∧ Asc Rr mid e d1 ∧ Asc Rr e b d1 ∧ ∀ i j, a ≤ i → i < mid → mid ≤ j → j < b → Rr d1[i]! d1[j]!) := halves HT.out (a := a) (s := s) (m := m) (e := e) (b := b) (mid := mid) (d := d) (d1 := d1) zv1 zv1 zv1 zv1 zv1 G1.out HL.out HR.out (fun _ _ => hA.out zv1 zv1) (fun _ _ => hB.out zv1 zv1); have V2 : Hid (Cross cf Rr a s mid d1 ∧ Cross cf Rr mid e b d1) := zRz (a := a) (s := s) (m := m) (e := e) (b := b) (mid := mid) (d := d) (d1 := d1) zv1 zv1 zv1 zv1 zv1 G1.out HX.out; have r2 := IH.out a s mid d1 wr zv1 zv1 zv1 zv1 zv1 V1.out.1 V1.out.2.1 V2.out.1 S2'.out
     go_wp2_with (first | (go_at_fn 123; (with_reducible refine r2.mono ?_); rintro x w3 ⟨rfl, d2, S3, hP, hA2⟩))
     have S3' : Aside _ := S3; clear S3; have P2 : Hid (PermIn a mid d1 d2) := hP; have T2 : Hid (Asc Rr a mid d2) := hA2; have hs2 : d2.size = d1.size := hP.1; clear hP hA2 r2
     have T3 : Asc Rr mid b d2 := by
      have := V1.out.2.2.2.1; rw [show e = mid by omega] at this; exact this.same fun x hx hx' => P2.out.2.1 x (.inr hx)
     have J := joined (a := a) (b := b) (mid := mid) zv1 zv1 zv1 V1.out.2.2.2.2 P2.out (permIn_refl _ _ _) T2.out T3; have J' : Hid (PermIn a b d1 d2 ∧ Asc Rr a b d2) := J; clear J T3; go_wp2
     go_end0
     exact ⟨rfl, d2, S3'.out, permIn_trans _ _ _ _ _ P1.out J'.out.1, J'.out.2⟩
    ·have kA : ¬ (s : Int) < (m : Int) := by omega
     have kB : ¬ (m : Int) < (e : Int) := by omega
     have kC : (a : Int) < (s : Int) := by omega
     have kD : ¬ (s : Int) < (mid : Int) := by omega
     have kE : ¬ (mid : Int) < (e : Int) := by omega
     have kF : (e : Int) < (b : Int) := by omega
     obtain ⟨d1, hd1⟩ : ∃ d1, d1 = d := ⟨d, rfl⟩
     have S2' : Aside (SWK enc k w0 blk off d1 wr) := by rw [hd1]; exact S1
     have G1 : Hid (∀ x, d1[x]! = d[turned s m e x]!) := fun x => by rw [hd1, turned_none zv1 zv1 zv1]
     have P1 : Hid (PermIn a b d d1) := by rw [hd1]; exact permIn_refl _ _ _
     have hs1 : d1.size = d.size := by rw [hd1]
     clear hd1; have V1 : Hid (Asc Rr a s d1 ∧ Asc Rr s mid d1 ∧ Asc Rr mid e d1 ∧ Asc Rr e b d1 ∧ ∀ i j, a ≤ i → i < mid → mid ≤ j → j < b → Rr d1[i]! d1[j]!) := halves HT.out (a := a) (s := s) (m := m) (e := e) (b := b) (mid := mid) (d := d) (d1 := d1) zv1 zv1 zv1 zv1 zv1 G1.out HL.out HR.out (fun _ _ => hA.out zv1 zv1) (fun _ _ => hB.out zv1 zv1); have V2 : Hid (Cross cf Rr a s mid d1 ∧ Cross cf Rr mid e b d1) := zRz (a := a) (s := s) (m := m) (e := e) (b := b) (mid := mid) (d := d) (d1 := d1) zv1 zv1 zv1 zv1 zv1 G1.out HX.out; obtain ⟨d2, hd2⟩ : ∃ d2, d2 = d1 := ⟨d1, rfl⟩
     have S3' : Aside (SWK enc k w0 blk off d2 wr) := by rw [hd2]; exact S2'
     have P2 : Hid (PermIn a mid d1 d2) := by rw [hd2]; exact permIn_refl _ _ _
     have T2 : Hid (Asc Rr a mid d2) := by have := V1.out.1; rw [hd2]; rwa [show s = mid by omega] at this
     have hs2 : d2.size = d1.size := by rw [hd2]
     clear hd2
     have T3 : Asc Rr mid b d2 := by
      have := V1.out.2.2.2.1; rw [show e = mid by omega] at this; exact this.same fun x hx hx' => P2.out.2.1 x (.inr hx)
     have J := joined (a := a) (b := b) (mid := mid) zv1 zv1 zv1 V1.out.2.2.2.2 P2.out (permIn_refl _ _ _) T2.out T3; have J' : Hid (PermIn a b d1 d2 ∧ Asc Rr a b d2) := J; clear J T3; go_wp2
     go_end0
     exact ⟨rfl, d2, S3'.out, permIn_trans _ _ _ _ _ P1.out J'.out.1, J'.out.2⟩
theorem symMerge_is (k : Nat) (aE : ∀ w, (isAgg 44).run Tryd.prog w = .ok true w) (zE : ∀ w, (Go.sizeOf 44).run Tryd.prog w = .ok k w) (enc : α → List Value) (cf : α → α → Int) (Rr : α → α → Prop) (g : Nat) (cb : Array Value) (blk off cap : Nat) (d0 : Array α) (w0 : World)
  (R : RowK enc k w0 blk off d0) (hcmp : CmpLays Tryd.prog g cb enc k cf blk off d0.size w0) (eg : ∀ args w, (callFunc g args).run Tryd.prog w = .ok (.enter g args) w) (hT : ∀ x y z, Rr x y → Rr y z → Rr x z) (hsz : d0.size < 4611686018427387904) : ∀ (N : Nat), ∀ (a m b : Nat) (d : Array α) (w : World), b - a ≤ N → a < m → m < b → b ≤ d.size → d.size = d0.size → Asc Rr a m d → Asc Rr m b d → Cross cf Rr a m b d → SWK enc k w0 blk off d w → Calls Tryd.prog 123 #[.slice (some ⟨blk, off, none⟩) d0.size cap, .int .i64 a, .int .i64 m, .int .i64 b, .func (.func g) #[] cb] w fun e w' => e = .returned (.tuple #[]) ∧ ∃ d', SWK enc k w0 blk off d' w' ∧ PermIn a b d d' ∧ Asc Rr a b d'
 | 0 => fun a m b d w hN h1 h2 _ _ _ _ _ _ => by omega
 | N + 1 => fun a m b d w hN h1 h2 h3 h4 h5 h6 h7 h8 => by
  by_cases c1 : m - a = 1
  ·exact symMerge_left k aE zE enc cf Rr g cb blk off cap d0 w0 R hcmp eg hT hsz a m b d w h1 h2 h3 h4 h5 h6 h7 h8 c1
  ·by_cases c2 : b - m = 1
   ·exact symMerge_right k aE zE enc cf Rr g cb blk off cap d0 w0 R hcmp eg hT hsz a m b d w h1 h2 h3 h4 h5 h6 h7 h8 c1 c2
   ·by_cases c3 : (a + b) / 2 < m
    ·exact symMerge_coreL k aE zE enc cf Rr g cb blk off cap d0 w0 R hcmp eg hT hsz N (symMerge_is k aE zE enc cf Rr g cb blk off cap d0 w0 R hcmp eg hT hsz N) a m b d w h1 h2 h3 h4 h5 h6 h7 h8 hN c1 c2 _ rfl c3
    ·exact symMerge_coreR k aE zE enc cf Rr g cb blk off cap d0 w0 R hcmp eg hT hsz N (symMerge_is k aE zE enc cf Rr g cb blk off cap d0 w0 R hcmp eg hT hsz N) a m b d w h1 h2 h3 h4 h5 h6 h7 h8 hN c1 c2 _ rfl c3
end Go.Proofs.YtpkjpiphjdpegaaDoor.Z
namespace Go.Proofs.YtpkjpiphjdpegaaDoor.Z
open Go.Shelf Go.RowKit Go.Lib Go.Sort Go.Proofs
set_option linter.unusedVariables false
set_option linter.unusedSimpArgs false
variable {σ : Type} [Inhabited σ]

theorem cmp_on {α : Type} [Inhabited α] {P : Program} {g : Nat} {cb : Array Value} {enc : α → List Value} {k : Nat} {cf : α → α → Int} {blk off size : Nat} {w0 W : World} {dk : Array α} (hC : CmpLays P g cb enc k cf blk off size w0) (h : SWK enc k w0 blk off dk W) (hblk : blk < w0.heap.size) (hs : dk.size = size) : CmpLays P g cb enc k cf blk off size W := by
 obtain ⟨n, os, rfl⟩ := h; intro m os' dk' hs' x y; rw [sortWorldK_on enc k w0 blk off n m dk dk' os os' hblk (hs'.trans hs.symm)]; exact hC _ _ dk' hs' x y
theorem runs_same {α : Type} [Inhabited α] {tag : α → Nat} {R : α → α → Prop} {B lo hi : Nat} {d d' : Array α} (h : Runs tag R B lo hi d) (e : ∀ x, x < hi → d'[x]! = d[x]!) : Runs tag R B lo hi d' := by
 intro q h1 h2; obtain ⟨r1, r2⟩ := h q h1 h2; exact ⟨r1.same fun x hx hx' => e x zv1, fun i hi hi' => by rw [e i zv1]; exact r2 i hi hi'⟩
theorem insertion_is (k : Nat) (aE : ∀ w, (isAgg 44).run Tryd.prog w = .ok true w) (zE : ∀ w, (Go.sizeOf 44).run Tryd.prog w = .ok k w) (enc : σ × Nat → List Value) (key : σ → List UInt8) (cf : σ × Nat → σ × Nat → Int) (g : Nat) (cb : Array Value) (blk off cap : Nat) (d0 : Array (σ × Nat)) (w0 : World)
  (R : RowK enc k w0 blk off d0) (hcmp : CmpLays Tryd.prog g cb enc k cf blk off d0.size w0) (eg : ∀ args w, (callFunc g args).run Tryd.prog w = .ok (.enter g args) w) (hcf : ∀ x y, cf x y < 0 ↔ Op.bytesLess (key x.1) (key y.1) = true) (hsz : d0.size < 1000000000000) (a b : Nat) (d : Array (σ × Nat)) (w : World) (hab : a ≤ b) (hb : b ≤ d.size) (hds : d.size = d0.size) (S : SWK enc k w0 blk off d w) (ht : ∀ i j, a ≤ i → i < j → j < b → d[i]!.2 < d[j]!.2) :
  Calls Tryd.prog 122 #[.slice (some ⟨blk, off, none⟩) d0.size cap, .int .i64 a, .int .i64 b, .func (.func g) #[] cb] w fun e w' => e = .returned (.tuple #[]) ∧ ∃ d', SWK enc k w0 blk off d' w' ∧ PermIn a b d d' ∧ Asc (Rb key) a b d' := by
 have H := S.holds R.hblk R.hH hds; have C := cmp_on hcmp S R.hblk hds; rw [← hds] at C; have c := AnyQ.insertionSortCmpFunc P.sh_lf122 k aE zE enc R.hk R.h1 cf g cb blk off cap a b d w eg C H (S.lt R.hblk) hab hb zv1; rw [hds] at c; have p := insertion_stable key hcf hab hb ht; refine c.mono ?_; rintro e w' ⟨rfl, q, os, rfl⟩; exact ⟨rfl, _, S.on R.hblk q _ os p.1.1, p.1, p.2⟩
theorem merge_is (k : Nat) (aE : ∀ w, (isAgg 44).run Tryd.prog w = .ok true w) (zE : ∀ w, (Go.sizeOf 44).run Tryd.prog w = .ok k w) (enc : σ × Nat → List Value) (key : σ → List UInt8) (cf : σ × Nat → σ × Nat → Int) (g : Nat) (cb : Array Value) (blk off cap : Nat) (d0 : Array (σ × Nat)) (w0 : World)
  (R : RowK enc k w0 blk off d0) (hcmp : CmpLays Tryd.prog g cb enc k cf blk off d0.size w0) (eg : ∀ args w, (callFunc g args).run Tryd.prog w = .ok (.enter g args) w) (hcf : ∀ x y, cf x y < 0 ↔ Op.bytesLess (key x.1) (key y.1) = true) (hsz : d0.size < 1000000000000) (a m b : Nat) (d : Array (σ × Nat)) (w : World) (h1 : a < m) (h2 : m < b) (hb : b ≤ d.size) (hds : d.size = d0.size) (S : SWK enc k w0 blk off d w) (hL : Asc (Rb key) a m d) (hR : Asc (Rb key) m b d) (ht : ∀ i j, a ≤ i → i < m → m ≤ j → j < b → d[i]!.2 < d[j]!.2) :
  Calls Tryd.prog 123 #[.slice (some ⟨blk, off, none⟩) d0.size cap, .int .i64 a, .int .i64 m, .int .i64 b, .func (.func g) #[] cb] w fun e w' => e = .returned (.tuple #[]) ∧ ∃ d', SWK enc k w0 blk off d' w' ∧ PermIn a b d d' ∧ Asc (Rb key) a b d' :=
 symMerge_is k aE zE enc cf (Rb key) g cb blk off cap d0 w0 R hcmp eg (rb_trans key) zv1 (b - a) a m b d w (Nat.le_refl _) h1 h2 hb hds hL hR (cross_of key hcf ht) S
set_option maxHeartbeats 16000000 in
set_option maxRecDepth 1000000 in
theorem stable_walk (k : Nat) (aE : ∀ w, (isAgg 44).run Tryd.prog w = .ok true w) (zE : ∀ w, (Go.sizeOf 44).run Tryd.prog w = .ok k w) (enc : σ × Nat → List Value) (key : σ → List UInt8) (cf : σ × Nat → σ × Nat → Int) (g : Nat) (cb : Array Value) (blk off cap : Nat) (d0 : Array (σ × Nat)) (w0 : World)
  (R : RowK enc k w0 blk off d0) (hcmp : CmpLays Tryd.prog g cb enc k cf blk off d0.size w0) (eg : ∀ args w, (callFunc g args).run Tryd.prog w = .ok (.enter g args) w) (hcf : ∀ x y, cf x y < 0 ↔ Op.bytesLess (key x.1) (key y.1) = true) (hsz : d0.size < 1000000000000) (htag : ∀ i, i < d0.size → d0[i]!.2 = i) (S : SWK enc k w0 blk off d0 w0) :
  Calls Tryd.prog 95 #[.slice (some ⟨blk, off, none⟩) d0.size cap, .int .i64 d0.size, .func (.func g) #[] cb] w0 fun e w' => e = .returned (.tuple #[]) ∧ ∃ d', SWK enc k w0 blk off d' w' ∧ PermIn 0 d0.size d0 d' ∧ Asc (Rb key) 0 d0.size d' := by
 have HC : Aside (CmpLays Tryd.prog g cb enc k cf blk off d0.size w0) := hcmp; have HT : Hid (∀ i, i < d0.size → d0[i]!.2 = i) := htag; have S0 : Aside (SWK enc k w0 blk off d0 w0) := S; clear hcmp htag S; have e1 : ∀ args w, (callFunc 122 args).run Tryd.prog w = .ok (.enter 122 args) w := enters_of Tryd.func122 (by kernel_rfl) rfl; have e2 : ∀ args w, (callFunc 123 args).run Tryd.prog w = .ok (.enter 123 args) w := enters_of Tryd.func123 (by kernel_rfl) rfl; have mixed : Tryd.prog.follows .mixedOrders = true := by kernel_rfl
 go_enter Tryd.func95, Tryd.ntmps95
 go_wp2_with fail
 go_loopg [7, 8] (d0.size + 20) (fun kx s7 s8 wr => ∃ (i a b : Nat) (dk : Array (σ × Nat)), s7 = .int .i64 a ∧ s8 = .int .i64 b ∧ b ≤ a + 20 ∧ a + 20 ≤ b ∧ a ≤ d0.size ∧ d0.size + 20 - a ≤ kx ∧ dk.size = d0.size ∧ Aside (SWK enc k w0 blk off dk wr) ∧ Hid (a = i * (2 * 10)) ∧ Hid (PermIn 0 a d0 dk) ∧ Hid (Runs (fun x : σ × Nat => x.2) (Rb key) (2 * 10) 0 a dk))
 case atStart => exact ⟨0, 0, 20, d0, rfl, rfl, Nat.le_refl _, Nat.le_refl _, Nat.zero_le _, zv1, rfl, S0, (show 0 = 0 * (2 * 10) by omega), permIn_refl _ _ _, fun q h1 h2 => absurd h2 (Nat.not_lt_zero _)⟩
 case round =>
  clear S0; obtain ⟨i, a, b, dk, rfl, rfl, hb1, hb2, ha, hkx, hds, S1, HI, HP, HU⟩ := hrel; have TG : Hid (∀ x, a ≤ x → x < d0.size → dk[x]!.2 = x) := fun x hx hx' => by rw [HP.out.2.1 x (.inr hx)]; exact HT.out x hx'
  by_cases hle : b ≤ d0.size
  ·have hz : (b : Int) ≤ (d0.size : Int) := by omega
   have c := insertion_is k aE zE enc key cf g cb blk off cap d0 w0 R HC.out eg hcf hsz a b dk wr zv1 zv1 zv1 S1.out (fun p q h1 h2 h3 => by rw [TG.out p h1 zv1, TG.out q zv1 zv1]; exact h2)
   go_wp2_with (first | (go_at_fn 122; (with_reducible refine c.mono ?_); rintro e w2 ⟨rfl, d2, S2, hP, hA⟩))
   have S2' : Aside (SWK enc k w0 blk off d2 w2) := S2; have P2 : Hid (PermIn a b dk d2) := hP; have A2 : Hid (Asc (Rb key) a b d2) := hA; clear S2 hP hA c; go_wp2; go_roundg (d0.size + 20 - b)
   case measure => omega
   case rel =>
    refine ⟨i + 1, b, b + 20, d2, (by go_num), (by go_num), Nat.le_refl _, Nat.le_refl _, hle, Nat.le_refl _, by rw [P2.out.1]; exact hds, S2', (show b = (i + 1) * (2 * 10) by have := HI.out; omega), permIn_trans _ _ _ _ _ (permIn_mono _ _ _ _ _ _ (Nat.le_refl _) zv1 zv1 HP.out) (permIn_mono _ _ _ _ _ _ (Nat.zero_le _) (Nat.le_refl _) zv1 P2.out), ?_⟩; exact runs_merged (n := d0.size) HI.out zv1 HU.out zv1 zv1 hle (.inl zv1) zv1 P2.out A2.out (fun x hx hx' => by show a ≤ dk[x]!.2 ∧ dk[x]!.2 < a + 2 * 10; rw [TG.out x hx zv1]; omega)
  ·have hz : ¬ (b : Int) ≤ (d0.size : Int) := by omega
   have c := insertion_is k aE zE enc key cf g cb blk off cap d0 w0 R HC.out eg hcf hsz a d0.size dk wr zv1 zv1 zv1 S1.out (fun p q h1 h2 h3 => by rw [TG.out p h1 zv1, TG.out q zv1 zv1]; exact h2)
   go_wp2_with (first | (go_at_fn 122; (with_reducible refine c.mono ?_); rintro e w2 ⟨rfl, d2, S2, hP, hA⟩))
   have S2' : Aside (SWK enc k w0 blk off d2 w2) := S2; have P2 : Hid (PermIn a d0.size dk d2) := hP; have A2 : Hid (Asc (Rb key) a d0.size d2) := hA; have PP : Hid (PermIn 0 d0.size d0 d2) := permIn_trans _ _ _ _ _ (permIn_mono _ _ _ _ _ _ (Nat.le_refl _) ha zv1 HP.out) (permIn_mono _ _ _ _ _ _ (Nat.zero_le _) (Nat.le_refl _) zv1 P2.out)
   have UU : Hid (Runs (fun x : σ × Nat => x.2) (Rb key) 20 0 d0.size d2) := by
    by_cases ea : a < d0.size
    ·exact runs_merged (B := 10) (n := d0.size) HI.out zv1 HU.out ea zv1 (Nat.le_refl _) (.inr rfl) zv1 P2.out A2.out (fun x hx hx' => by show a ≤ dk[x]!.2 ∧ dk[x]!.2 < a + 2 * 10; rw [TG.out x hx hx']; omega)
    ·have ee : a = d0.size := by omega
     have := HU.out; rw [ee] at this; exact runs_same this fun x hx => P2.out.2.1 x (.inl zv1)
   have hs2 : d2.size = d0.size := by rw [P2.out.1]; exact hds
   clear S1 S2 hP hA c P2 A2 TG HI HP HU
   go_wp2_with fail
   go_loopg [6] (d0.size) (fun ky s6 wr => ∃ (B : Nat) (dk : Array (σ × Nat)), s6 = .int .i64 B ∧ 0 < B ∧ B ≤ 2 * d0.size + 20 ∧ d0.size - B ≤ ky ∧ dk.size = d0.size ∧ Aside (SWK enc k w0 blk off dk wr) ∧ Hid (PermIn 0 d0.size d0 dk) ∧ Hid (Runs (fun x : σ × Nat => x.2) (Rb key) B 0 d0.size dk))
   case atStart => exact ⟨20, d2, rfl, zv1, zv1, zv1, hs2, S2', PP, UU⟩
   case round =>
    clear S2' PP UU hs2 hds; obtain ⟨B, dk, rfl, hB0, hB1, hky, hds, S3, QP, QU⟩ := hrel
    by_cases hlt : B < d0.size
    ·have hlz : (B : Int) < (d0.size : Int) := by omega
     go_wp2_with fail
     go_loopg [7, 8] (d0.size + 2 * B) (fun kv s7 s8 wr => ∃ (q a b : Nat) (dj : Array (σ × Nat)), s7 = .int .i64 a ∧ s8 = .int .i64 b ∧ b ≤ a + 2 * B ∧ a + 2 * B ≤ b ∧ a ≤ d0.size ∧ d0.size + 2 * B - a ≤ kv ∧ dj.size = d0.size ∧ Aside (SWK enc k w0 blk off dj wr) ∧ Hid (a = q * (2 * B)) ∧ Hid (PermIn 0 d0.size d0 dj) ∧ Hid (Runs (fun x : σ × Nat => x.2) (Rb key) (2 * B) 0 a dj) ∧ Hid (Runs (fun x : σ × Nat => x.2) (Rb key) B a d0.size dj))
     case atStart => exact ⟨0, 0, 2 * B, dk, rfl, (by go_num), zv1, zv1, Nat.zero_le _, zv1, hds, S3, (show 0 = 0 * (2 * B) by rw [Nat.zero_mul]), QP, fun q h1 h2 => absurd h2 (Nat.not_lt_zero _), QU⟩
     case round =>
      clear S3 QP QU hds; obtain ⟨q, a, b, dj, rfl, rfl, hb1, hb2, ha, hkv, hds, S4, HI, HP, HU, HV⟩ := hrel; have rB : IntKind.i64.wrap ((a : Int) + (B : Int)) = (a : Int) + (B : Int) := by rw [IntKind.wrap_i64]; omega
      obtain ⟨m, hm⟩ : ∃ m, m = a + B := ⟨_, rfl⟩
      have zB : (a : Int) + (B : Int) = (m : Int) := by omega
      have HM : Hid (m = a + B) := hm; clear hm; have r2 : IntKind.i64.wrap ((B : Int) * 2) = (B : Int) * 2 := by rw [IntKind.wrap_i64]; omega
      have r3 : IntKind.i64.wrap (2 * (B : Int)) = 2 * (B : Int) := by rw [IntKind.wrap_i64]; omega
      have r4 : IntKind.i64.wrap ((b : Int) + 2 * (B : Int)) = (b : Int) + 2 * (B : Int) := by rw [IntKind.wrap_i64]; omega
      by_cases hle : b ≤ d0.size
      ·have hz : (b : Int) ≤ (d0.size : Int) := by omega
       have U2 : Hid (Asc (Rb key) a m dj ∧ Asc (Rb key) m b dj ∧ (∀ i j, a ≤ i → i < m → m ≤ j → j < b → dj[i]!.2 < dj[j]!.2) ∧ ∀ i, a ≤ i → i < b → a ≤ dj[i]!.2 ∧ dj[i]!.2 < a + 2 * B) := by rw [HM.out]; exact runs_two HI.out hB0 HV.out zv1 zv1 hle (.inl zv1)
       have c := merge_is k aE zE enc key cf g cb blk off cap d0 w0 R HC.out eg hcf hsz a m b dj wr zv1 zv1 zv1 zv1 S4.out U2.out.1 U2.out.2.1 U2.out.2.2.1
       go_wp2_with (first | (go_at_fn 123; (with_reducible refine c.mono ?_); rintro e w2 ⟨rfl, d2, S2, hP, hA⟩))
       have S2' : Aside (SWK enc k w0 blk off d2 w2) := S2; have P2 : Hid (PermIn a b dj d2) := hP; have A2 : Hid (Asc (Rb key) a b d2) := hA; clear S2 hP hA c S4; go_wp2; go_roundg (d0.size + 2 * B - b)
       case measure => omega
       case rel => exact ⟨q + 1, b, b + 2 * B, d2, (by go_num), (by go_num), Nat.le_refl _, Nat.le_refl _, hle, Nat.le_refl _, by rw [P2.out.1]; exact hds, S2', (show b = (q + 1) * (2 * B) by have := HI.out; rw [Nat.add_mul, Nat.one_mul]; omega), permIn_trans _ _ _ _ _ HP.out (permIn_mono _ _ _ _ _ _ (Nat.zero_le _) hle zv1 P2.out), runs_merged (n := d0.size) HI.out hB0 HU.out zv1 zv1 hle (.inl zv1) zv1 P2.out A2.out U2.out.2.2.2, runs_rest (q := q) HV.out zv1 P2.out⟩
      ·have hz : ¬ (b : Int) ≤ (d0.size : Int) := by omega
       by_cases hm : m < d0.size
       ·have hmz : (m : Int) < (d0.size : Int) := by omega
        have U2 : Hid (Asc (Rb key) a m dj ∧ Asc (Rb key) m d0.size dj ∧ (∀ i j, a ≤ i → i < m → m ≤ j → j < d0.size → dj[i]!.2 < dj[j]!.2) ∧ ∀ i, a ≤ i → i < d0.size → a ≤ dj[i]!.2 ∧ dj[i]!.2 < a + 2 * B) := by rw [HM.out]; exact runs_two HI.out hB0 HV.out zv1 zv1 (Nat.le_refl _) (.inr rfl)
        have c := merge_is k aE zE enc key cf g cb blk off cap d0 w0 R HC.out eg hcf hsz a m d0.size dj wr zv1 zv1 zv1 zv1 S4.out U2.out.1 U2.out.2.1 U2.out.2.2.1
        go_wp2_with (first | (go_at_fn 123; (with_reducible refine c.mono ?_); rintro e w2 ⟨rfl, d2, S2, hP, hA⟩))
        have S2' : Aside (SWK enc k w0 blk off d2 w2) := S2; have P2 : Hid (PermIn a d0.size dj d2) := hP; have A2 : Hid (Asc (Rb key) a d0.size d2) := hA; clear S2 hP hA c S4; go_wp2; go_roundg (d0.size - 2 * B)
        case measure => omega
        case rel => exact ⟨2 * B, d2, (by go_num), zv1, zv1, Nat.le_refl _, by rw [P2.out.1]; exact hds, S2', permIn_trans _ _ _ _ _ HP.out (permIn_mono _ _ _ _ _ _ (Nat.zero_le _) (Nat.le_refl _) zv1 P2.out), runs_merged (n := d0.size) HI.out hB0 HU.out zv1 zv1 (Nat.le_refl _) (.inr rfl) zv1 P2.out A2.out U2.out.2.2.2⟩
       ·have hmz : ¬ (m : Int) < (d0.size : Int) := by omega
        go_wp2; go_roundg (d0.size - 2 * B)
        case measure => omega
        case rel => exact ⟨2 * B, dj, (by go_num), zv1, zv1, Nat.le_refl _, hds, S4, HP, runs_last HI.out hB0 HU.out HV.out ha (by have := HM.out; omega)⟩
    ·have hlz : ¬ (B : Int) < (d0.size : Int) := by omega
     go_wp2
     go_end0
     exact ⟨rfl, dk, S3.out, QP.out, runs_all hB0 zv1 QU.out⟩
set_option maxHeartbeats 16000000 in
set_option maxRecDepth 1000000 in
theorem sortStable_is (k : Nat) (aE : ∀ w, (isAgg 44).run Tryd.prog w = .ok true w) (zE : ∀ w, (Go.sizeOf 44).run Tryd.prog w = .ok k w) (enc : σ × Nat → List Value) (key : σ → List UInt8) (cf : σ × Nat → σ × Nat → Int) (g : Nat) (cb : Array Value) (blk off cap : Nat) (d0 : Array (σ × Nat)) (w0 : World)
  (R : RowK enc k w0 blk off d0) (hcmp : CmpLays Tryd.prog g cb enc k cf blk off d0.size w0) (eg : ∀ args w, (callFunc g args).run Tryd.prog w = .ok (.enter g args) w) (hcf : ∀ x y, cf x y < 0 ↔ Op.bytesLess (key x.1) (key y.1) = true) (hsz : d0.size < 1000000000000) (htag : ∀ i, i < d0.size → d0[i]!.2 = i) (S : SWK enc k w0 blk off d0 w0) :
  Calls Tryd.prog 64 #[.slice (some ⟨blk, off, none⟩) d0.size cap, .func (.func g) #[] cb] w0 fun e w' => e = .returned (.tuple #[]) ∧ ∃ d', SWK enc k w0 blk off d' w' ∧ PermIn 0 d0.size d0 d' ∧ Asc (Rb key) 0 d0.size d' := by
 have c := stable_walk k aE zE enc key cf g cb blk off cap d0 w0 R hcmp eg hcf hsz htag S; clear hcmp htag S R hcf; have e1 : ∀ args w, (callFunc 95 args).run Tryd.prog w = .ok (.enter 95 args) w := enters_of Tryd.func95 (by kernel_rfl) rfl; go_enter Tryd.func64, Tryd.ntmps64
 go_wp2_with (first | (go_at_fn 95; (with_reducible refine c.mono ?_); rintro e w2 ⟨rfl, d2, S2, hP, hA⟩))
 go_end0
 exact ⟨rfl, d2, S2, hP, hA⟩
end Go.Proofs.YtpkjpiphjdpegaaDoor.Z
