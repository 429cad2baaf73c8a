/- A program of this session wrote this text out of the session's own texts. (part 31 of 45) -/
import Derived.Test.YtpkjpiphjdpegaaDoorCLedgerImportsQ
import Derived.Test.YtpkjpiphjdpegaaDoorCLedgerImports19
import Derived.Test.YtpkjpiphjdpegaaDoorCLedgerImports20
import Derived.Test.YtpkjpiphjdpegaaDoorCLedgerImports30
import Derived.Laws.Runes
import Derived.Lib.Walk
namespace Go.Proofs.YtpkjpiphjdpegaaDoor.P
open Go.RowKit Go.Proofs.YtpkjpiphjdpegaaDoorW.PrintWords Go.Proofs.YtpkjpiphjdpegaaDoorW.PrintLast Go.Proofs.YtpkjpiphjdpegaaDoorW.PrintMore
set_option linter.unusedVariables false
set_option linter.unusedSimpArgs false
abbrev signs : ByteArray := ⟨#[46, 95, 45]⟩
theorem big_byte (n : Nat) (h : 128 ≤ n) (h' : n < 256) : 128 ≤ (UInt8.ofNat n).toNat := by
 rw [UInt8.toNat_ofNat']; omega
theorem enc_w2 (r : Int) (h0 : 128 ≤ r) (h1 : r < 2048) : ∃ a b : UInt8, Utf8.encode r = ⟨#[a, b]⟩ ∧ 128 ≤ b.toNat := by
 have v : Utf8.valid r = true := by unfold Utf8.valid; simp; omega
 refine ⟨UInt8.ofNat (0xC0 + r.toNat / 64), UInt8.ofNat (0x80 + r.toNat % 64), ?_, big_byte _ zv1 zv1⟩; unfold Utf8.encode; simp only [v, if_true]; rw [if_neg zv1, if_pos zv1]
theorem enc_w3 (r : Int) (h0 : 2048 ≤ r) (h1 : r < 65536) (v : Utf8.valid r = true) : ∃ a b c : UInt8, Utf8.encode r = ⟨#[a, b, c]⟩ ∧ 128 ≤ c.toNat := by
 refine ⟨UInt8.ofNat (0xE0 + r.toNat / 4096), UInt8.ofNat (0x80 + r.toNat / 64 % 64), UInt8.ofNat (0x80 + r.toNat % 64), ?_, big_byte _ zv1 zv1⟩; unfold Utf8.encode; simp only [v, if_true]; rw [if_neg zv1, if_neg zv1, if_pos zv1]
theorem enc_w4 (r : Int) (h0 : 65536 ≤ r) (v : Utf8.valid r = true) : ∃ a b c d : UInt8, Utf8.encode r = ⟨#[a, b, c, d]⟩ := by
 refine ⟨UInt8.ofNat (0xF0 + r.toNat / 262144), UInt8.ofNat (0x80 + r.toNat / 4096 % 64), UInt8.ofNat (0x80 + r.toNat / 64 % 64), UInt8.ofNat (0x80 + r.toNat % 64), ?_⟩; unfold Utf8.encode; simp only [v, if_true]; rw [if_neg zv1, if_neg zv1, if_neg zv1]
theorem index_one (b : UInt8) (h : 128 ≤ b.toNat) : Lib.indexByte [45] b = -1 := by
 have e : ¬ ((45 : UInt8) = b) := fun e => by rw [← e] at h; revert h; decide
 unfold Lib.indexByte; rw [if_neg (by simpa using e)]; rfl
theorem ext23 : (signs.extract 2 3).data.toList = [45] := by
 rw [ByteArray.data_extract]; rfl
theorem ext33 : (signs.extract 3 3).data.toList = [] := by
 rw [ByteArray.data_extract]; rfl
theorem index_nil (b : UInt8) : Lib.indexByte [] b = -1 := rfl
set_option maxHeartbeats 4000000 in
set_option maxRecDepth 100000 in
theorem indexRune_w2 (r : Int) (h0 : 128 ≤ r) (h1 : r < 2048) (w : World) : Calls Tryd.prog 133 #[.string signs, .int .i32 r] w fun e w' => e = .returned (.int .i64 (-1)) ∧ Below w.heap.size w w' := by
 obtain ⟨a, b, he, hb⟩ := enc_w2 r h0 h1; have vr : Lib.validRune r = true := by unfold Lib.validRune; simp; omega
 have C : ∀ W, Calls Tryd.prog 61 #[.int .i32 r] W fun e w' => e = .returned (.bool true) ∧ w' = W := fun W => by have := sh_utf8_ValidRune r W; rw [vr] at this; exact this
 have I : ∀ (t : ByteArray) (x : Int) W, t.data.toList = [45] → x = (b.toNat : Int) → Calls Tryd.prog 143 #[.string t, .int .u8 x] W fun e w' => e = .returned (.int .i64 (-1)) ∧ w' = W := fun t x W ht hx => by
  have := sh_strings_IndexByte t x W; rw [hx, show ((b.toNat : Int)).toNat.toUInt8 = b by simp, ht, index_one b hb, ← hx] at this; exact this
 have n1 : ∀ (p1 : 1 < signs.size) (p2 : 1 < (⟨#[a, b]⟩ : ByteArray).size), (((signs[1]'p1).toNat : Int) != (((⟨#[a, b]⟩ : ByteArray)[1]'p2).toNat : Int)) = true := by
  intro p1 p2; show ((95 : Int) != (b.toNat : Int)) = true; simp; omega
 have r2 : IntKind.i64.wrap 2 = 2 := by decide
 have g1 : ¬ (r < 128) := by omega
 have g2 : (r == 65533) = false := by simp; omega
 have mixed : Tryd.prog.follows .mixedOrders = true := by kernel_rfl
 clear vr; go_enter Tryd.func133, Tryd.ntmps133
 go_wp2_with (first | (go_at_call 61; (with_reducible refine (C _).mono ?_); rintro e w' ⟨rfl, rfl⟩))
 go_step3
 go_wp2; refine wp_loop_rounds 1 ?_; rw [rounds_succ]; go_wp2
 go_step3
 go_wp2_with fail
 go_big_region_o
 have B1 := zRj (Below.refl w'.heap.size w'); generalize World.drew w' = w1 at B1 ⊢
 go_wp2_with fail
 go_quiet (first | (go_at_call 143; refine Calls.quiet_of_same (I _ _ _ ext23 ?_); rfl))
 go_wp2; rw [Exit.noGoto_ret]; try go_wp2
 try rw [Exit.noGoto_ret]
 go_ret; exact ⟨rfl, zRh B1 nq⟩
set_option maxHeartbeats 4000000 in
set_option maxRecDepth 100000 in
theorem indexRune_w3 (r : Int) (h0 : 2048 ≤ r) (h1 : r < 65536) (hs : r < 55296 ∨ 57344 ≤ r) (hn : r ≠ 65533) (w : World) : Calls Tryd.prog 133 #[.string signs, .int .i32 r] w fun e w' => e = .returned (.int .i64 (-1)) ∧ Below w.heap.size w w' := by
 have v : Utf8.valid r = true := by unfold Utf8.valid; simp; omega
 obtain ⟨a, b, c, he, hb⟩ := enc_w3 r h0 h1 v; have vr : Lib.validRune r = true := by unfold Lib.validRune; simp; omega
 have C : ∀ W, Calls Tryd.prog 61 #[.int .i32 r] W fun e w' => e = .returned (.bool true) ∧ w' = W := fun W => by have := sh_utf8_ValidRune r W; rw [vr] at this; exact this
 have I : ∀ (t : ByteArray) (x : Int) W, t.data.toList = [] → x = (c.toNat : Int) → Calls Tryd.prog 143 #[.string t, .int .u8 x] W fun e w' => e = .returned (.int .i64 (-1)) ∧ w' = W := fun t x W ht hx => by
  have := sh_strings_IndexByte t x W; rw [hx, show ((c.toNat : Int)).toNat.toUInt8 = c by simp, ht, index_nil c, ← hx] at this; exact this
 have n1 : ∀ (p1 : 2 < signs.size) (p2 : 2 < (⟨#[a, b, c]⟩ : ByteArray).size), (((signs[2]'p1).toNat : Int) != (((⟨#[a, b, c]⟩ : ByteArray)[2]'p2).toNat : Int)) = true := by
  intro p1 p2; show ((45 : Int) != (c.toNat : Int)) = true; simp; omega
 have r2 : IntKind.i64.wrap 3 = 3 := by decide
 have g1 : ¬ (r < 128) := by omega
 have g2 : (r == 65533) = false := by simp; omega
 have mixed : Tryd.prog.follows .mixedOrders = true := by kernel_rfl
 clear vr; go_enter Tryd.func133, Tryd.ntmps133
 go_wp2_with (first | (go_at_call 61; (with_reducible refine (C _).mono ?_); rintro e w' ⟨rfl, rfl⟩))
 go_step3
 go_wp2; refine wp_loop_rounds 1 ?_; rw [rounds_succ]; go_wp2
 go_step3
 go_wp2_with fail
 go_big_region_o
 have B1 := zRj (Below.refl w'.heap.size w'); generalize World.drew w' = w1 at B1 ⊢
 go_wp2_with fail
 go_quiet (first | (go_at_call 143; refine Calls.quiet_of_same (I _ _ _ ext33 ?_); rfl))
 go_wp2; rw [Exit.noGoto_ret]; try go_wp2
 try rw [Exit.noGoto_ret]
 go_ret; exact ⟨rfl, zRh B1 nq⟩
set_option maxHeartbeats 4000000 in
set_option maxRecDepth 100000 in
theorem indexRune_w4 (r : Int) (h0 : 65536 ≤ r) (h1 : r ≤ 1114111) (w : World) : Calls Tryd.prog 133 #[.string signs, .int .i32 r] w fun e w' => e = .returned (.int .i64 (-1)) ∧ Below w.heap.size w w' := by
 have v : Utf8.valid r = true := by unfold Utf8.valid; simp; omega
 obtain ⟨a, b, c, d, he⟩ := enc_w4 r h0 v; have vr : Lib.validRune r = true := by unfold Lib.validRune; simp; omega
 have C : ∀ W, Calls Tryd.prog 61 #[.int .i32 r] W fun e w' => e = .returned (.bool true) ∧ w' = W := fun W => by have := sh_utf8_ValidRune r W; rw [vr] at this; exact this
 have g1 : ¬ (r < 128) := by omega
 have g2 : (r == 65533) = false := by simp; omega
 have mixed : Tryd.prog.follows .mixedOrders = true := by kernel_rfl
 clear vr; go_enter Tryd.func133, Tryd.ntmps133
 go_wp2_with (first | (go_at_call 61; (with_reducible refine (C _).mono ?_); rintro e w' ⟨rfl, rfl⟩))
 go_step3
 go_wp2; refine wp_loop_rounds 1 ?_; rw [rounds_succ]; go_wp2; rw [Exit.noGoto_ret]; try go_wp2
 try rw [Exit.noGoto_ret]
 go_ret; exact ⟨rfl, Below.refl _ _⟩
end Go.Proofs.YtpkjpiphjdpegaaDoor.P
