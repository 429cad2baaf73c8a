/- A program of this session wrote this text out of the session's own texts. (part 37 of 45) -/
import Derived.Test.YtpkjpiphjdpegaaDoorCLedgerImportsQ
import Derived.Test.YtpkjpiphjdpegaaDoorCLedgerImports4
import Derived.Maps.OwnOps
import Derived.Maps.Views
import Derived.Lib.Walk
namespace Go.Proofs.YtpkjpiphjdpegaaDoor.P
open Go.RowKit Go.Proofs.YtpkjpiphjdpegaaDoorW.PrintWords Go.Proofs.YtpkjpiphjdpegaaDoorW.PrintLast Go.Proofs.YtpkjpiphjdpegaaDoorW.PrintMore
open Go.Maps
set_option linter.unusedVariables false
set_option linter.unusedSimpArgs false
set_option maxRecDepth 100000 in
set_option maxHeartbeats 1000000 in
theorem opened_good (h : Nat) (hh : h ≤ 10) (w : World) :
  Calls Tryd.prog 69 #[.int .i64 (h : Int)] w fun e w' => e = .returned (.tuple #[.pointer (some ⟨w.heap.size + 1, 0, none⟩), .int .i64 0]) ∧
   w' = (w.alloc (.map #[] 0)).alloc (.cells #[.int .i64 (2 ^ h : Nat), .slice none 0 0, .map (some w.heap.size), .int .u64 0, .int .u64 0] 113) := by
 have hmm := @run_makeMap Tryd.prog; have h1 : decide ((h : Int) < 0) = false := decide_eq_false zv1; have h2 : decide ((10 : Int) < (h : Int)) = false := decide_eq_false zv1
 have hw : wrap64 (2 ^ h) = ((2 ^ h : Nat) : Int) := by
  have c : h = 0 ∨ h = 1 ∨ h = 2 ∨ h = 3 ∨ h = 4 ∨ h = 5 ∨ h = 6 ∨ h = 7 ∨ h = 8 ∨ h = 9 ∨ h = 10 := by omega
  rcases c with rfl | rfl | rfl | rfl | rfl | rfl | rfl | rfl | rfl | rfl | rfl <;> simp [wrap64]
 go_enter Tryd.func69, Tryd.ntmps69
 go_wp2_with fail
 rw [hw]
 go_ret2
 exact ⟨rfl, rfl⟩
set_option maxRecDepth 100000 in
set_option maxHeartbeats 1000000 in
theorem opened_bad (h : Int) (hh : h < 0 ∨ 10 < h) (w : World) :
  Calls Tryd.prog 69 #[.int .i64 h] w fun e w' => e = .returned (.tuple #[.pointer none, .int .i64 120]) ∧ w' = w := by
 by_cases c : h < 0
 ·have h1 : decide (h < 0) = true := decide_eq_true c; go_enter Tryd.func69, Tryd.ntmps69
  go_wp2_with fail
  go_ret2
  exact ⟨rfl, rfl⟩
 ·have h1 : decide (h < 0) = false := decide_eq_false c; have h2 : decide ((10 : Int) < h) = true := decide_eq_true zv1; go_enter Tryd.func69, Tryd.ntmps69
  go_wp2_with fail
  go_ret2
  exact ⟨rfl, rfl⟩
set_option maxRecDepth 100000 in
set_option maxHeartbeats 1000000 in
theorem full_is (Bb Pb : Nat) (A : Option Addr) (n c : Nat) (most : Int) (w : World) (h0 : w.cell? ⟨Bb, 0, none⟩ = some (.pointer (some ⟨Pb, 0, none⟩))) (h1 : w.cell? ⟨Pb, 1, none⟩ = some (.slice A n c)) (h2 : w.cell? ⟨Pb, 0, none⟩ = some (.int .i64 most)) :
  Calls Tryd.prog 98 #[.pointer (some ⟨Bb, 0, none⟩)] w fun e w' => e = .returned (.bool ((n : Int) == most)) ∧ ∃ q, w' = w.drewN q := by
 go_enter Tryd.func98, Tryd.ntmps98; go_wp2
 go_region
 go_wp2; go_ret; exact ⟨rfl, _, rfl⟩
set_option maxRecDepth 100000 in
set_option maxHeartbeats 1000000 in
theorem over_is (Be : Nat) (e : Int) (w : World) (h0 : w.cell? ⟨Be, 0, none⟩ = some (.int .i64 e)) :
  Calls Tryd.prog 100 #[.pointer (some ⟨Be, 0, none⟩)] w fun x w' => x = .returned (.bool (e != 0)) ∧ w' = w := by
 go_enter Tryd.func100, Tryd.ntmps100; go_wp2; go_ret; exact ⟨rfl, rfl⟩
theorem law9 : Keyed Tryd.prog 9 := string_keyed Tryd.underlying9
theorem zero3 (w : World) : (zeroValue 3).run Tryd.prog w = .ok (.int .i64 0) w := Tryd.zeroValue3 w
set_option maxRecDepth 100000 in
set_option maxHeartbeats 1000000 in
theorem twice_is (Bb Pb Br B n : Nat) (D : DataW Unit) (s : ByteArray) (hs : s.size ≤ maxLen) (w : World) (h0 : w.cell? ⟨Bb, 0, none⟩ = some (.pointer (some ⟨Pb, 0, none⟩))) (h1 : w.cell? ⟨Pb, 2, none⟩ = some (.map (some B))) (h2 : w.cell? ⟨Br, 0, none⟩ = some (.string s)) (hown : w.ownsMap Tryd.prog 9 (plainElem Tryd.prog 3) B n D) :
  Calls Tryd.prog 99 #[.pointer (some ⟨Bb, 0, none⟩), .pointer (some ⟨Br, 0, none⟩)] w fun e w' => ∃ c : Int, D.atKey (.string s.data.toList) (.lit (.int .i64 0)) = .lit (.int .i64 c) ∧ e = .returned (.bool (decide (0 < c))) ∧ ∃ q, w' = w.drewN q := by
 have hown1 : w.drew.ownsMap Tryd.prog 9 (plainElem Tryd.prog 3) B n D := hown; obtain ⟨c, hrun, hat, hwf⟩ := hown1.lookup_int law9 Tryd.underlying111 Tryd.underlying3 (zero3 _) (Go.WideMaps.keyOf_string_mk Tryd.underlying9 hs); clear hown hown1; go_enter Tryd.func99, Tryd.ntmps99
 go_wp2_with fail
 go_region
 go_wp2; go_ret; exact ⟨c, hat, rfl, _, rfl⟩
end Go.Proofs.YtpkjpiphjdpegaaDoor.P
