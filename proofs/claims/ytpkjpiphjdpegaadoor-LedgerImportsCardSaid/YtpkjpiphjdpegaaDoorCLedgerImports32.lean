/- A program of this session wrote this text out of the session's own texts. (part 32 of 45) -/
import Derived.Test.YtpkjpiphjdpegaaDoorCLedgerImportsQ
import Derived.Test.YtpkjpiphjdpegaaDoorCLedgerImports31
import Derived.Lib.ValidLaws
import Derived.Lib.IndexAny
namespace Go.Proofs.YtpkjpiphjdpegaaDoor.P
open Go.RowKit Go.Proofs.YtpkjpiphjdpegaaDoorW.PrintWords Go.Proofs.YtpkjpiphjdpegaaDoorW.PrintLast Go.Proofs.YtpkjpiphjdpegaaDoorW.PrintMore
set_option linter.unusedVariables false
set_option linter.unusedSimpArgs false
def withinR (c : Int) : Bool := decide (97 ≤ c ∧ c ≤ 122 ∨ 65 ≤ c ∧ c ≤ 90 ∨ 48 ≤ c ∧ c ≤ 57 ∨ c = 46 ∨ c = 95 ∨ c = 45 ∨ 161 ≤ c)
def mayId (s : ByteArray) : Bool := Lib.validD s.data.toList && (zRx s s.size 0).all withinR && decide (1 ≤ (zRx s s.size 0).length ∧ (zRx s s.size 0).length ≤ 24)
def tag_MayId.f (a0 : ByteArray) : Option Bool := if a0.size ≤ 1000000000 then some (mayId a0) else none
theorem count_is (s : ByteArray) : ∀ n p, Lib.runeCountFrom s n p = (zRx s n p).length
 | 0, p => rfl
 | n + 1, p => by
  rw [Lib.runeCountFrom, zRx]
  by_cases h : p < s.size
  ·rw [if_pos h, if_pos h, List.length_cons, count_is s n]; omega
  ·rw [if_neg h, if_neg h]; rfl
theorem dec_signs (p : Nat) (h : p < 3) : ((Utf8.decode signs p).1 : Int) ≠ 65533 ∧ (Utf8.decode signs p).2 = 1 := by
 match p, h with
 | 0, _ => decide
 | 1, _ => decide
 | 2, _ => decide
set_option maxHeartbeats 4000000 in
set_option maxRecDepth 100000 in
theorem indexRune_fffd (w : World) : Calls Tryd.prog 133 #[.string signs, .int .i32 65533] w fun e w' => e = .returned (.int .i64 (-1)) ∧ Below w.heap.size w w' := by
 go_enter Tryd.func133, Tryd.ntmps133; go_wp2
 go_loopg [5, 6] 3 (fun gk v5 v6 wr => ∃ p : Nat, p + gk = 3 ∧ wr.heap[w.heap.size]? = some (.stringIter signs p) ∧ Aside0 (Below w.heap.size w wr))
 case atStart => exact ⟨0, rfl, World.iter_heap w signs 0, ⟨zRe (Below.refl _ _) _⟩⟩
 case round =>
  obtain ⟨p, hg, hit, HB⟩ := hrel; have hwib : w.heap.size ≤ w.heap.size := Nat.le_refl _; have sz : signs.size = 3 := rfl
  by_cases hp : p < signs.size
  ·have hnx : ∀ ty, (Instr.next (.pointer (some ⟨w.heap.size, 0, none⟩)) true ty).run Tryd.prog wr = _ := fun ty => Lib.run_next_any_at wr w.heap.size signs p ty hit hp
   obtain ⟨d1, d2⟩ := dec_signs p zv1; rw [d2] at hnx; have dn : (((Utf8.decode signs p).1 : Int) == 65533) = false := by simpa using d1
   obtain ⟨W2, hW2⟩ : ∃ W2, wr.iterAt w.heap.size signs (p + 1) = W2 := ⟨_, rfl⟩
   have HB2 : Aside0 (Below w.heap.size w W2) := ⟨(by rw [← hW2]; exact Lib.below_iterAt HB.out hwib signs _)⟩
   have hit2 : W2.heap[w.heap.size]? = some (.stringIter signs (p + 1)) := by rw [← hW2]; exact Lib.iterAt_heap wr w.heap.size signs p _ hit
   rw [hW2] at hnx; clear d1 d2 hit; go_wp2; go_roundg (3 - (p + 1))
   case measure => omega
   case rel => exact ⟨p + 1, zv1, hit2, HB2⟩
  ·have hnx : ∀ ty, (Instr.next (.pointer (some ⟨w.heap.size, 0, none⟩)) true ty).run Tryd.prog wr = _ := fun ty => Lib.run_next_end_at wr w.heap.size signs p ty hit hp
   go_wp2; go_ret; exact ⟨rfl, HB.out⟩
set_option maxHeartbeats 4000000 in
set_option maxRecDepth 100000 in
theorem indexRune_sur (r : Int) (h0 : 55296 ≤ r) (h1 : r < 57344) (w : World) : Calls Tryd.prog 133 #[.string signs, .int .i32 r] w fun e w' => e = .returned (.int .i64 (-1)) ∧ Below w.heap.size w w' := by
 have vr : Lib.validRune r = false := by unfold Lib.validRune; simp; omega
 have C : ∀ W, Calls Tryd.prog 61 #[.int .i32 r] W fun e w' => e = .returned (.bool false) ∧ w' = W := fun W => by have := sh_utf8_ValidRune r W; rw [vr] at this; exact this
 have g1 : ¬ (r < 128) := by omega
 have g2 : (r == 65533) = false := by simp; omega
 clear vr; go_enter Tryd.func133, Tryd.ntmps133
 go_wp2_with (first | (go_at_call 61; (with_reducible refine (C _).mono ?_); rintro e w' ⟨rfl, rfl⟩))
 go_ret; exact ⟨rfl, Below.refl _ _⟩
theorem indexRune_high (r : Int) (h0 : 128 ≤ r) (h1 : r ≤ 1114111) (w : World) : Calls Tryd.prog 133 #[.string signs, .int .i32 r] w fun e w' => e = .returned (.int .i64 (-1)) ∧ Below w.heap.size w w' := by
 by_cases c1 : r < 2048
 ·exact indexRune_w2 r h0 c1 w
 ·by_cases c2 : 55296 ≤ r ∧ r < 57344
  ·exact indexRune_sur r c2.1 c2.2 w
  ·by_cases c3 : r = 65533
   ·rw [c3]; exact indexRune_fffd w
   ·by_cases c4 : r < 65536
    ·exact indexRune_w3 r zv1 c4 zv1 c3 w
    ·exact indexRune_w4 r zv1 h1 w
def sign (r : Int) : Bool := decide (r = 46 ∨ r = 95 ∨ r = 45)
theorem sign_ascii (r : Int) (h0 : 0 ≤ r) (h1 : r < 128) : decide (0 ≤ Lib.indexByte signs.data.toList r.toNat.toUInt8) = sign r := by
 rw [← Lib.contains_iff_indexByte]; unfold sign; rw [Bool.eq_iff_iff, decide_eq_true_eq]; show (([46, 95, 45] : List UInt8).contains r.toNat.toUInt8 = true) ↔ _
 have e : ∀ k : Nat, k < 128 → ((r.toNat.toUInt8 = k.toUInt8) ↔ r = (k : Int)) := fun k hk => by
  constructor
  ·intro h; have := congrArg UInt8.toNat h; simp only [Nat.toUInt8, UInt8.toNat_ofNat'] at this; omega
  ·intro h; rw [h]; rfl
 have e1 := e 46 zv1; have e2 := e 95 zv1; have e3 := e 45 zv1; rw [List.contains_iff_mem]; simp only [List.mem_cons, List.not_mem_nil, or_false]; exact or_congr e1 (or_congr e2 e3)
set_option maxHeartbeats 4000000 in
set_option maxRecDepth 100000 in
theorem contains_is (r : Int) (h0 : 0 ≤ r) (h1 : r ≤ 1114111) (w : World) : Calls Tryd.prog 119 #[.string signs, .int .i32 r] w fun e w' => e = .returned (.bool (sign r)) ∧ Below w.heap.size w w' := by
 by_cases c : r < 128
 ·have := sh_strings_ContainsRune_ascii signs r w h0 c; rw [sign_ascii r h0 c] at this; exact this.mono fun e w' ⟨he, hw⟩ => ⟨he, (by rw [hw]; exact Below.refl _ _)⟩
 ·have hs : sign r = false := by unfold sign; rw [decide_eq_false]; omega
  rw [hs]; have C := indexRune_high r zv1 h1; go_enter Tryd.func119, Tryd.ntmps119
  go_wp2_with (first | (go_at_call 133; (with_reducible refine (C _).mono ?_); rintro e w' ⟨rfl, hb⟩))
  go_ret; exact ⟨by simp, hb⟩
set_option maxHeartbeats 4000000 in
set_option maxRecDepth 100000 in
theorem within_is (r : Int) (h0 : 0 ≤ r) (h1 : r ≤ 1114111) (w : World) : Calls Tryd.prog 90 #[.int .i32 r] w fun e w' => e = .returned (.bool (withinR r)) ∧ Below w.heap.size w w' := by
 have C := contains_is r h0 h1; obtain ⟨b, hb⟩ : ∃ b, sign r = b := ⟨_, rfl⟩
 rw [hb] at C; obtain ⟨v, hv⟩ : ∃ v, withinR r = v := ⟨_, rfl⟩
 rw [hv]; have V := hv; unfold withinR at V; unfold sign at hb
 by_cases a1 : 97 ≤ r
 ·by_cases a2 : r ≤ 122
  ·have e : v = true := by rw [← V]; simp; omega
   subst e; clear V hb hv; go_enter Tryd.func90, Tryd.ntmps90; go_wp2; go_ret; exact ⟨by simp, Below.refl _ _⟩
  ·have q1 : ¬ r ≤ 90 := by omega
   have q2 : ¬ r ≤ 57 := by omega
   have q3 : 65 ≤ r := by omega
   have q4 : 48 ≤ r := by omega
   have eb : b = false := by rw [← hb]; simp; omega
   have e : v = decide (161 ≤ r) := by rw [← V, decide_eq_decide]; omega
   subst eb e; clear V hb hv; go_enter Tryd.func90, Tryd.ntmps90
   go_wp2_with (first | (go_at_call 119; (with_reducible refine (C _).mono ?_); rintro e w' ⟨rfl, hb⟩))
   go_ret; exact ⟨by simp, hb⟩
 ·by_cases a3 : 65 ≤ r
  ·have q4 : 48 ≤ r := by omega
   by_cases a4 : r ≤ 90
   ·have e : v = true := by rw [← V]; simp; omega
    subst e; clear V hb hv; go_enter Tryd.func90, Tryd.ntmps90; go_wp2; go_ret; exact ⟨by simp, Below.refl _ _⟩
   ·have q2 : ¬ r ≤ 57 := by omega
    have q5 : ¬ 161 ≤ r := by omega
    have e : v = b := by rw [← V, ← hb, decide_eq_decide]; omega
    subst e; clear V hb hv; go_enter Tryd.func90, Tryd.ntmps90; cases v
    all_goals
     go_wp2_with (first | (go_at_call 119; (with_reducible refine (C _).mono ?_); rintro e w' ⟨rfl, hb⟩))
     go_ret; exact ⟨by first | (simp; done) | (simp; omega), hb⟩
  ·have q5 : ¬ 161 ≤ r := by omega
   by_cases a5 : 48 ≤ r
   ·by_cases a6 : r ≤ 57
    ·have e : v = true := by rw [← V]; simp; omega
     subst e; clear V hb hv; go_enter Tryd.func90, Tryd.ntmps90; go_wp2; go_ret; exact ⟨by simp, Below.refl _ _⟩
    ·have e : v = b := by rw [← V, ← hb, decide_eq_decide]; omega
     subst e; clear V hb hv; go_enter Tryd.func90, Tryd.ntmps90; cases v
     all_goals
      go_wp2_with (first | (go_at_call 119; (with_reducible refine (C _).mono ?_); rintro e w' ⟨rfl, hb⟩))
      go_ret; exact ⟨by first | (simp; done) | (simp; omega), hb⟩
   ·have e : v = b := by rw [← V, ← hb, decide_eq_decide]; omega
    subst e; clear V hb hv; go_enter Tryd.func90, Tryd.ntmps90; cases v
    all_goals
     go_wp2_with (first | (go_at_call 119; (with_reducible refine (C _).mono ?_); rintro e w' ⟨rfl, hb⟩))
     go_ret; exact ⟨by first | (simp; done) | (simp; omega), hb⟩
set_option maxHeartbeats 4000000 in
set_option maxRecDepth 100000 in
theorem tag_MayId.calls (a0 : ByteArray) (r : Bool) (w : World) (hG : GT w) (h : tag_MayId.f a0 = some r) :
  Calls Tryd.prog 51 #[.string a0] w fun e w' => e = .returned (.bool r) ∧ Below w.heap.size w w' := by
 have hs : a0.size ≤ 1000000000 := by
  unfold tag_MayId.f at h
  split at h
  ·assumption
  ·cases h
 unfold tag_MayId.f at h; rw [if_pos hs] at h; have h' := Option.some.inj h; clear h; obtain ⟨n, hn⟩ : ∃ n, (zRx a0 a0.size 0).length = n := ⟨_, rfl⟩
 have N : ∀ W, Calls Tryd.prog 89 #[.string a0] W fun e w' => e = .returned (.int .i64 (n : Int)) ∧ Below W.heap.size W w' := fun W => by
  refine (sh_utf8_RuneCountInString a0 W zv1).mono ?_; rintro e w' ⟨he, pos, rfl⟩; refine ⟨?_, zRe (Below.refl _ _) _⟩; rw [he]; unfold Lib.runeCount; rw [count_is, hn]
 have V : ∀ W, Below w.heap.size w W → Calls Tryd.prog 58 #[.string a0] W fun e w' => e = .returned (.bool (Lib.validD a0.data.toList)) ∧ Below W.heap.size W w' := fun W hb => valid_is a0 W zv1 (gt_below hG hb)
 unfold mayId at h'; rw [hn] at h'
 by_cases c1 : (n : Int) < 1
 ·have e : r = false := by rw [← h', decide_eq_false (show ¬ (1 ≤ n ∧ n ≤ 24) by omega), Bool.and_false]
  subst e; clear h' V hn; go_enter Tryd.func51, Tryd.ntmps51
  go_wp2_with (first | (go_at_call 89; (with_reducible refine (N _).mono ?_); rintro e w1 ⟨rfl, hb1⟩))
  go_ret; exact ⟨rfl, hb1⟩
 ·by_cases c2 : (24 : Int) < (n : Int)
  ·have e : r = false := by rw [← h', decide_eq_false (show ¬ (1 ≤ n ∧ n ≤ 24) by omega), Bool.and_false]
   subst e; clear h' V hn; go_enter Tryd.func51, Tryd.ntmps51
   go_wp2_with (first | (go_at_call 89; (with_reducible refine (N _).mono ?_); rintro e w1 ⟨rfl, hb1⟩))
   go_ret; exact ⟨rfl, hb1⟩
  ·rw [decide_eq_true (show 1 ≤ n ∧ n ≤ 24 by omega), Bool.and_true] at h'
   by_cases v : Lib.validD a0.data.toList = true
   ·rw [v, Bool.true_and] at h'; rw [v] at V; clear v; go_enter Tryd.func51, Tryd.ntmps51
    go_wp2_with (first | (go_at_call 89; (with_reducible refine (N _).mono ?_); rintro e w1 ⟨rfl, hb1⟩) | (go_at_call 58; (with_reducible refine (V _ hb1).mono ?_); rintro e w2 ⟨rfl, hb2⟩; have hb3 := zRd hb1 hb2))
    have hwib : w.heap.size ≤ w2.heap.size := hb3.size
    go_loopg [5] a0.size (fun gk v5 wr => ∃ p : Nat, Aside0 ((zRx a0 gk p).all withinR = r ∧ a0.size ≤ p + gk) ∧ wr.heap[w2.heap.size]? = some (.stringIter a0 p) ∧ Aside0 (Below w.heap.size w wr))
    case atStart => exact ⟨0, ⟨h', zv1⟩, World.iter_heap w2 a0 0, ⟨zRe hb3 _⟩⟩
    case round =>
     obtain ⟨p, HX, hit, HB⟩ := hrel
     by_cases hp : p < a0.size
     ·have hnx : ∀ ty, (Instr.next (.pointer (some ⟨w2.heap.size, 0, none⟩)) true ty).run Tryd.prog wr = _ := fun ty => Lib.run_next_any_at wr w2.heap.size a0 p ty hit hp
      have hwd := wide_pos a0 p hp; have hrl := Lib.rune_le a0 p; obtain ⟨k1, rfl⟩ : ∃ k1, gk = k1 + 1 := ⟨gk - 1, (by have := HX.out.2; omega)⟩
      obtain ⟨W2, hW2⟩ : ∃ W2, wr.iterAt w2.heap.size a0 (p + (Utf8.decode a0 p).2) = W2 := ⟨_, rfl⟩
      have HB2 : Aside0 (Below w.heap.size w W2) := ⟨(by rw [← hW2]; exact Lib.below_iterAt HB.out hwib a0 _)⟩
      have hit2 : W2.heap[w2.heap.size]? = some (.stringIter a0 (p + (Utf8.decode a0 p).2)) := by rw [← hW2]; exact Lib.iterAt_heap wr w2.heap.size a0 p _ hit
      rw [hW2] at hnx; have X := HX.out.1; rw [zRx, if_pos hp, List.all_cons] at X; obtain ⟨cr, hcr⟩ : ∃ cr : Nat, (Utf8.decode a0 p).1 = cr := ⟨_, rfl⟩
      obtain ⟨cw, hcw⟩ : ∃ cw : Nat, (Utf8.decode a0 p).2 = cw := ⟨_, rfl⟩
      rw [hcr] at hnx hrl X; rw [hcw] at hwd hit2 X; have C := within_is (cr : Int) zv1 zv1
      by_cases q : withinR (cr : Int) = true
      ·rw [q] at C; rw [q, Bool.true_and] at X; have X' := Aside0.mk X; clear X h' N V hcr hcw hit
       go_wp2_with (first | (go_at_call 90; (with_reducible refine (C _).mono ?_); rintro e w4 ⟨rfl, hb4⟩; have HB4 := Aside0.mk (zRd HB2.out hb4); have hit4 := (hb4.block w2.heap.size (Array.getElem?_eq_some_iff.1 hit2).1).trans hit2))
       go_roundg k1
       case measure => omega
       case rel => exact ⟨p + cw, ⟨X'.out, (by have := HX.out.2; omega)⟩, hit4, HB4⟩
      ·have q : withinR (cr : Int) = false := by simpa using q
       rw [q] at C; rw [q, Bool.false_and] at X; subst X; clear h' N V hcr hcw hit
       go_wp2_with (first | (go_at_call 90; (with_reducible refine (C _).mono ?_); rintro e w4 ⟨rfl, hb4⟩; have HB4 := Aside0.mk (zRd HB2.out hb4)))
       go_ret; exact ⟨rfl, HB4.out⟩
     ·have hnx : ∀ ty, (Instr.next (.pointer (some ⟨w2.heap.size, 0, none⟩)) true ty).run Tryd.prog wr = _ := fun ty => Lib.run_next_end_at wr w2.heap.size a0 p ty hit hp
      have X := HX.out.1; rw [runesAt_end a0 gk p hp] at X; subst X; clear h' N V; go_wp2; go_ret; exact ⟨rfl, HB.out⟩
   ·have v : Lib.validD a0.data.toList = false := by simpa using v
    rw [v, Bool.false_and] at h'; subst h'; rw [v] at V; clear v; go_enter Tryd.func51, Tryd.ntmps51
    go_wp2_with (first | (go_at_call 89; (with_reducible refine (N _).mono ?_); rintro e w1 ⟨rfl, hb1⟩) | (go_at_call 58; (with_reducible refine (V _ hb1).mono ?_); rintro e w2 ⟨rfl, hb2⟩; have hb3 := zRd hb1 hb2))
    go_ret; exact ⟨rfl, hb3⟩
end Go.Proofs.YtpkjpiphjdpegaaDoor.P
