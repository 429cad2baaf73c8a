/- A program of this session wrote this text out of the session's own texts. (part 44 of 45) -/
import Derived.Test.YtpkjpiphjdpegaaDoorCLedgerImportsQ
import Derived.Test.YtpkjpiphjdpegaaDoorCLedgerImports27
import Derived.Test.YtpkjpiphjdpegaaDoorCLedgerImports41
import Derived.Test.YtpkjpiphjdpegaaDoorCLedgerImports43
namespace Go.Proofs.YtpkjpiphjdpegaaDoor.P
open Go.RowKit Go.Proofs.YtpkjpiphjdpegaaDoorW.PrintWords Go.Proofs.YtpkjpiphjdpegaaDoorW.PrintLast Go.Proofs.YtpkjpiphjdpegaaDoorW.PrintMore
open Go.Proofs.YtpkjpiphjdpegaaDoor.Z
set_option linter.unusedVariables false
set_option linter.unusedSimpArgs false
def fillS : ByteArray := ⟨(([35, 97, 97, 97, 97, 97, 97, 97, 97, 97, 97, 97, 97, 97, 97, 97, 97, 97, 97, 97, 97, 97, 97, 97, 97, 97, 97, 97, 97, 97, 97, 97, 97, 97, 97, 97, 97, 97] : List UInt8) ++ [97, 97, 97, 97, 97, 97, 97, 97, 97, 97, 97, 97, 97, 97, 97, 97, 97, 97, 97, 97, 97, 97, 97, 97, 97, 97, 97, 97, 97, 97, 97, 97, 97, 97, 97, 97, 97, 97, 10]).toArray⟩
theorem import_len (s : ByteArray) (hs : s.size ≤ 4000) (h : Int) : (importOf s h).1.length ≤ 4001 := by
 by_cases hb : h < 0 ∨ 10 < h
 ·rw [importOf_bad s h hb]; exact Nat.zero_le _
 ·rw [importOf_ok s h hb zv1]; show (sortL rowKey _).length ≤ 4001; rw [sort_len]; have e : s.data.toList.length = s.size := Array.length_toList; have sl := splitB_len s.data.toList; have rl := rowsQ_len (splitB s.data.toList); obtain ⟨_, i2, i3⟩ := imp_ok (most := ((2 ^ h.toNat : Nat) : Int)) (splitB s.data.toList) [] 1 (good_nil (most_pos h))
  by_cases z : (impL ((2 ^ h.toNat : Nat) : Int) 1 [] (splitB s.data.toList)).2.2 = 0
  ·rw [(i2 z).2.2]; show ([] ++ rowsQ _ : List S44).length ≤ 4001; rw [List.nil_append]; omega
  ·rw [(i3 z).1]; exact Nat.zero_le _
theorem import_too (s : ByteArray) (h1 : 65536 < s.size) (h2 : s.size ≤ 1000000) (h : Int) : ledger_Import.f s h = some ([], 0, if h < 0 ∨ 10 < h then 120 else 3) := by
 rw [import_f s h zv1]
 by_cases hb : h < 0 ∨ 10 < h
 ·rw [importOf_bad s h hb, if_pos hb]
 ·unfold importOf; rw [if_neg hb, if_pos h1, if_neg hb]
def LawPost (w : World) (e : Ending) (W : World) : Prop := e = .returned (.bool true) ∧ Below w.heap.size w W
set_option maxRecDepth 100000 in
set_option maxHeartbeats 8000000 in
theorem ledgerImports_walk0 {w : World} (a0 : ByteArray) (g0 : a0.size ≤ 9223372036854775807) (a1 : Int) (g1 : (Lit.int .i64 a1).wf = true) (hG : GT w) :
  Calls Tryd.prog 12 #[.string a0, .int .i64 a1, .bool false] w (LawPost w) := by
 by_cases hs : 4000 < a0.size
 ·have h1 : decide ((4000 : Int) < (a0.size : Int)) = true := decide_eq_true zv1; go_enter Tryd.func12, Tryd.ntmps12
  go_wp2_with fail
  go_ret; exact ⟨rfl, Below.refl _ _⟩
 ·have h1 : decide ((4000 : Int) < (a0.size : Int)) = false := decide_eq_false zv1; obtain ⟨K, hK⟩ := refImport_is a0 zv1 a1; have hl := import_len a0 zv1 a1; have hI := import_f a0 a1 zv1; obtain ⟨⟨r1, r2, r3⟩, hr⟩ : ∃ r, importOf a0 a1 = r := ⟨_, rfl⟩
  rw [hr] at hK hl hI; have HR := Aside0.mk (hK (K + 5000) zv1); have HS := Aside0.mk (same44_is r1 (by have : r1.length ≤ 4001 := hl; omega) 5000 (by have : r1.length ≤ 4001 := hl; omega)); have HI := Aside0.mk hI; clear hK hl hI hr; go_enter Tryd.func12, Tryd.ntmps12
  go_wp2_with (first
   | (go_at_call 32; (with_reducible refine (ledger_Import.calls a0 a1 r1 r2 r3 _ hG HI.out).mono ?_); rintro e W1 ⟨v1, rfl, hR1, hb1⟩)
   | (go_at_call 50; (with_reducible refine (paymasterref11_Import.calls (K + 5000) a0 a1 r1 r2 r3 _ HR.out).mono ?_); rintro e W2 ⟨v2, rfl, hR2, hb2⟩))
  obtain ⟨A1, c1, rfl, hc1, hC1⟩ := Kd.R_reads hR1; obtain ⟨A2, c2, rfl, hc2, hC2⟩ := Kd.R_reads hR2; refine (paymasterref10_Same.calls 5000 A1 c1 r1 A2 c2 r1 true W2 (Kd.C_below hC1 hb2) hc1 hC2 hc2 HS.out).mono ?_; rintro e W3 ⟨rfl, m, rfl⟩; have HB := Aside0.mk (hb1.trans (hb2.mono hb1.size)); clear hR1 hR2 hC1 hC2 hb1 hb2
  go_wp2_with fail
  go_ret; exact ⟨rfl, zRh HB.out m⟩
theorem fill_size : fillS.size = 77 := by decide
def FillR (w : World) (n : Nat) (v : Value) (W : World) : Prop := ∃ xs : List Int, xs.length = n ∧ W.ownsRow w.heap.size 5 1 v xs.length (nums .u8 xs) ∧ Below w.heap.size w W
theorem conv_own (A : Option Addr) (n c : Nat) (xs : List Int) (W : World) {base : Nat} (hx : xs.length = n) (h : W.ownsRow base 5 1 (.slice A n c) xs.length (nums .u8 xs)) : ∃ S : ByteArray, (convert 82 9 (.slice A n c)).run Tryd.prog W = .ok (.string S) W ∧ S.size = n :=
 ⟨strOfNums xs, own_string Tryd.underlying82 Tryd.underlying5 Tryd.underlying9 h, (by rw [← hx]; simp [strOfNums, ByteArray.size])⟩
set_option maxRecDepth 100000 in
set_option maxHeartbeats 8000000 in
theorem ledgerImports_walk1 {w : World} (a0 : ByteArray) (g0 : a0.size ≤ 9223372036854775807) (a1 : Int) (g1 : (Lit.int .i64 a1).wf = true) (hG : GT w) :
  Calls Tryd.prog 12 #[.string a0, .int .i64 a1, .bool true] w (LawPost w) := by
 by_cases hs : 4000 < a0.size
 ·have h1 : decide ((4000 : Int) < (a0.size : Int)) = true := decide_eq_true zv1; go_enter Tryd.func12, Tryd.ntmps12
  go_wp2_with fail
  go_ret; exact ⟨rfl, Below.refl _ _⟩
 ·have h1 : decide ((4000 : Int) < (a0.size : Int)) = false := decide_eq_false zv1; obtain ⟨K, hK⟩ := refImport_is a0 zv1 a1; have hl := import_len a0 zv1 a1; have hI := import_f a0 a1 zv1; obtain ⟨⟨r1, r2, r3⟩, hr⟩ : ∃ r, importOf a0 a1 = r := ⟨_, rfl⟩
  rw [hr] at hK hl hI; have HR := Aside0.mk (hK (K + 5000) zv1); have HS := Aside0.mk (same44_is r1 (by have : r1.length ≤ 4001 := hl; omega) 5000 (by have : r1.length ≤ 4001 := hl; omega)); have HI := Aside0.mk hI; clear hK hl hI hr; obtain ⟨i0, hi, hz0, hz1, hz2⟩ := info_parts info5; obtain ⟨W1, hmk, hown, hg⟩ := run_make_own (P := Tryd.prog) w w.heap.size 82 5 i0 _ 1 Tryd.underlying82 hi hz0 hz1 .i64 .i64 70000 (by rw [hz2]; omega) (by unfold maxLen; omega) (Nat.le_refl _); have hmk' : (Instr.makeSlice 82 (.int .i64 0) (.int .i64 70000)).run Tryd.prog w = .ok (.slice (some ⟨w.heap.size, 0, none⟩) 0 70000) W1 := hmk; have h0 : FillR w 0 (.slice (some ⟨w.heap.size, 0, none⟩) 0 70000) W1 := ⟨[], rfl, hown, (Below.refl _ w).grown hg (Nat.le_refl _) (fun k e => by cases e)⟩
  have H0 := Aside0.mk h0; clear hmk hown hg h0 hi hz0 hz1 hz2; go_enter Tryd.func12, Tryd.ntmps12
  go_wp2_with fail
  clear hmk'
  go_loopw [7] (fun v W => ∃ n c : Nat, ∃ A, n ≤ 65614 ∧ v = .slice A n c ∧ Aside0 (FillR w n (.slice A n c) W)) (fun v W => match v with | .slice _ n _ => 65614 - n | _ => 0)
  case atStart => exact ⟨0, 70000, _, zv1, rfl, H0⟩
  case round =>
   obtain ⟨n, c, A, hn, rfl, HF⟩ := hrel
   by_cases hle : n ≤ 65536
   ·have h2 : decide ((n : Int) ≤ 65536) = true := decide_eq_true zv1; obtain ⟨xs, hx, hown, hb⟩ := HF.out
    go_wp2_with (first | (at_builtin; refine print_append_str (w0 := w) w.heap.size rfl (.tmp 27) _ 82 9 5 rfl Tryd.underlying82 Tryd.underlying9 info5 (.slice A n c) xs fillS rfl rfl hown hb hb.size (by rw [hx, fill_size]; omega) ?_; intro v1 w1 ho1 hb1 hg1))
    obtain ⟨A', c', ev⟩ := own_slice ho1; subst ev; have e77 : (xs ++ bytesOf fillS).length = n + 77 := by rw [List.length_append, bytesOf_length, hx, fill_size]
    go_roundw
    case rel =>
     exact ⟨n + 77, c', A', zv1, by rw [e77], ⟨⟨xs ++ bytesOf fillS, e77, by rw [← e77]; exact ho1, hb1⟩⟩⟩
    case measure => rw [e77]; show 65614 - (n + 77) < 65614 - n; omega
   ·have h2 : decide ((n : Int) ≤ 65536) = false := decide_eq_false zv1; obtain ⟨xs, hx, hown, hb⟩ := HF.out; obtain ⟨S, hcv, hS⟩ := conv_own A n c xs wr hx hown; have h3 : ∀ q : Prop, q → q := fun _ h => h
    have sz : (S ++ a0).size = n + a0.size := by rw [ByteArray.size_append, hS]
    have it := import_too (S ++ a0) zv1 zv1 a1; have IT := Aside0.mk it; have HB := Aside0.mk hb; have hsz63 : S.size + a0.size ≤ 9223372036854775807 := by omega
    clear h3 it hown hx HF; obtain ⟨er, her⟩ : ∃ er : Int, (if a1 < 0 ∨ 10 < a1 then (120 : Int) else 3) = er := ⟨_, rfl⟩
    rw [her] at IT; have HER := Aside0.mk her; clear her
    rcases (show a1 < 0 ∨ (¬ a1 < 0 ∧ 10 < a1) ∨ (¬ a1 < 0 ∧ ¬ 10 < a1) by omega) with q | ⟨q, q2⟩ | ⟨q, q2⟩
    ·obtain rfl : er = 120 := by rw [← HER.out, if_pos zv1]
     have d1 : decide (a1 < 0) = true := decide_eq_true q; clear HER
     go_wp2_with (first
      | (go_at_call 32; (with_reducible refine (ledger_Import.calls (S ++ a0) a1 _ _ _ _ (gt_same hG (Nat.le_refl _) HB.out) IT.out).mono ?_); rintro e W2 ⟨v1, rfl, hR1, hb1⟩)
      | (go_at_call 32; (with_reducible refine (ledger_Import.calls a0 a1 r1 r2 r3 _ (gt_same hG (Nat.le_refl _) (HB.out.trans (hb1.mono HB.out.size))) HI.out).mono ?_); rintro e W3 ⟨v3, rfl, hR3, hb3⟩)
      | (go_at_call 50; (with_reducible refine (paymasterref11_Import.calls (K + 5000) a0 a1 r1 r2 r3 _ HR.out).mono ?_); rintro e W4 ⟨v4, rfl, hR4, hb4⟩))
     obtain ⟨A1, c1, rfl, hc1, hC1⟩ := Kd.R_reads hR3; obtain ⟨A2, c2, rfl, hc2, hC2⟩ := Kd.R_reads hR4; refine (paymasterref10_Same.calls 5000 A1 c1 r1 A2 c2 r1 true W4 (Kd.C_below hC1 hb4) hc1 hC2 hc2 HS.out).mono ?_; rintro e W5 ⟨rfl, m, rfl⟩; have HBB := Aside0.mk (HB.out.trans ((hb1.trans ((hb3.trans (hb4.mono hb3.size)).mono hb1.size)).mono HB.out.size)); clear hR1 hR3 hR4 hC1 hC2 hb1 hb3 hb4
     go_wp2_with fail
     go_ret; exact ⟨rfl, zRh HBB.out m⟩
    ·obtain rfl : er = 120 := by rw [← HER.out, if_pos zv1]
     have d1 : decide (a1 < 0) = false := decide_eq_false q; have d2 : decide (10 < a1) = true := decide_eq_true q2; clear HER
     go_wp2_with (first
      | (go_at_call 32; (with_reducible refine (ledger_Import.calls (S ++ a0) a1 _ _ _ _ (gt_same hG (Nat.le_refl _) HB.out) IT.out).mono ?_); rintro e W2 ⟨v1, rfl, hR1, hb1⟩)
      | (go_at_call 32; (with_reducible refine (ledger_Import.calls a0 a1 r1 r2 r3 _ (gt_same hG (Nat.le_refl _) (HB.out.trans (hb1.mono HB.out.size))) HI.out).mono ?_); rintro e W3 ⟨v3, rfl, hR3, hb3⟩)
      | (go_at_call 50; (with_reducible refine (paymasterref11_Import.calls (K + 5000) a0 a1 r1 r2 r3 _ HR.out).mono ?_); rintro e W4 ⟨v4, rfl, hR4, hb4⟩))
     obtain ⟨A1, c1, rfl, hc1, hC1⟩ := Kd.R_reads hR3; obtain ⟨A2, c2, rfl, hc2, hC2⟩ := Kd.R_reads hR4; refine (paymasterref10_Same.calls 5000 A1 c1 r1 A2 c2 r1 true W4 (Kd.C_below hC1 hb4) hc1 hC2 hc2 HS.out).mono ?_; rintro e W5 ⟨rfl, m, rfl⟩; have HBB := Aside0.mk (HB.out.trans ((hb1.trans ((hb3.trans (hb4.mono hb3.size)).mono hb1.size)).mono HB.out.size)); clear hR1 hR3 hR4 hC1 hC2 hb1 hb3 hb4
     go_wp2_with fail
     go_ret; exact ⟨rfl, zRh HBB.out m⟩
    ·obtain rfl : er = 3 := by rw [← HER.out, if_neg zv1]
     have d1 : decide (a1 < 0) = false := decide_eq_false q; have d2 : decide (10 < a1) = false := decide_eq_false q2; clear HER
     go_wp2_with (first
      | (go_at_call 32; (with_reducible refine (ledger_Import.calls (S ++ a0) a1 _ _ _ _ (gt_same hG (Nat.le_refl _) HB.out) IT.out).mono ?_); rintro e W2 ⟨v1, rfl, hR1, hb1⟩)
      | (go_at_call 32; (with_reducible refine (ledger_Import.calls a0 a1 r1 r2 r3 _ (gt_same hG (Nat.le_refl _) (HB.out.trans (hb1.mono HB.out.size))) HI.out).mono ?_); rintro e W3 ⟨v3, rfl, hR3, hb3⟩)
      | (go_at_call 50; (with_reducible refine (paymasterref11_Import.calls (K + 5000) a0 a1 r1 r2 r3 _ HR.out).mono ?_); rintro e W4 ⟨v4, rfl, hR4, hb4⟩))
     obtain ⟨A1, c1, rfl, hc1, hC1⟩ := Kd.R_reads hR3; obtain ⟨A2, c2, rfl, hc2, hC2⟩ := Kd.R_reads hR4; refine (paymasterref10_Same.calls 5000 A1 c1 r1 A2 c2 r1 true W4 (Kd.C_below hC1 hb4) hc1 hC2 hc2 HS.out).mono ?_; rintro e W5 ⟨rfl, m, rfl⟩; have HBB := Aside0.mk (HB.out.trans ((hb1.trans ((hb3.trans (hb4.mono hb3.size)).mono hb1.size)).mono HB.out.size)); clear hR1 hR3 hR4 hC1 hC2 hb1 hb3 hb4
     go_wp2_with fail
     go_ret; exact ⟨rfl, zRh HBB.out m⟩
theorem ledgerImports_walk {w : World} (a0 : ByteArray) (g0 : a0.size ≤ 9223372036854775807) (a1 : Int) (g1 : (Lit.int .i64 a1).wf = true) (a2 : Bool) (hG : GT w) :
  Calls Tryd.prog 12 #[.string a0, .int .i64 a1, .bool a2] w fun e w' => e = .returned (.bool true) ∧ Below w.heap.size w w' := by
 cases a2 with
 | false => exact ledgerImports_walk0 a0 g0 a1 g1 hG
 | true => exact ledgerImports_walk1 a0 g0 a1 g1 hG
end Go.Proofs.YtpkjpiphjdpegaaDoor.P
