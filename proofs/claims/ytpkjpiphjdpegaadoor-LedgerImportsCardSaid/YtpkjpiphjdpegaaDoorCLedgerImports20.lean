/- A program of this session wrote this text out of the session's own texts. (part 20 of 45) -/
import Derived.Test.YtpkjpiphjdpegaaDoorCLedgerImportsQ
import Derived.Test.YtpkjpiphjdpegaaDoorCLedgerImports4
import Derived.Test.YtpkjpiphjdpegaaDoorCLedgerImports10
import Derived.Test.YtpkjpiphjdpegaaDoorCLedgerImports19
import Derived.Lib.OthersKept
import Derived.Laws.Cover4
import Derived.Lib.ValidLaws
import Derived.Lib.TrimUEq
namespace Go.Proofs.YtpkjpiphjdpegaaDoor.P
open Go.RowKit Go.Proofs.YtpkjpiphjdpegaaDoorW.PrintWords Go.Proofs.YtpkjpiphjdpegaaDoorW.PrintLast Go.Proofs.YtpkjpiphjdpegaaDoorW.PrintMore
set_option linter.unusedVariables false
set_option linter.unusedSimpArgs false
def zRx (s : ByteArray) : Nat → Nat → List Int
 | 0, _ => []
 | n + 1, p => if p < s.size then ((Utf8.decode s p).1 : Int) :: zRx s n (p + (Utf8.decode s p).2) else []
theorem runesAt_end (s : ByteArray) (n p : Nat) (h : ¬ p < s.size) : zRx s n p = [] := by
 cases n with
 | zero => rfl
 | succ n => rw [zRx, if_neg h]
def lines_Runes.f (a0 : ByteArray) : Option (List Int × Int) :=
 if a0.size ≤ 1000000000 then some (if Lib.validD a0.data.toList = true then (zRx a0 a0.size 0, 0) else ([], 90)) else none
theorem wide_pos (s : ByteArray) (pos : Nat) (h : pos < s.size) : 1 ≤ (Utf8.decode s pos).2 := by
 by_cases ha : (s[pos]'h).toNat < 128
 ·rw [decode_ascii s pos h ha]; exact Nat.le_refl _
 ·exact (decode_high s pos h zv1).2
theorem iter_grown (w : World) (k : Nat) (s : ByteArray) (p : Nat) : w.grownBy (w.iterAt k s p) (some k) :=
 ⟨rfl, rfl, rfl, by rw [Lib.iterAt_size]; exact Nat.le_refl _, fun j hj hk => Lib.iterAt_other w k j s p (fun e => hk (by rw [e]))⟩
set_option maxHeartbeats 8000000 in
set_option maxRecDepth 100000 in
theorem lines_Runes.calls (a0 : ByteArray) (r1 : List Int) (r2 : Int) (w : World) (hG : GT w) (h : lines_Runes.f a0 = some (r1, r2)) :
  Calls Tryd.prog 20 #[.string a0] w fun e w' => ∃ v0_ : Value, e = .returned (.tuple #[v0_, .int .i64 r2]) ∧ Kd.R (Kd.int .i32) 21 w' w.heap.size (fun _ => True) v0_ r1 ∧ Below w.heap.size w w' := by
 have hs : a0.size ≤ 1000000000 := by
  unfold lines_Runes.f at h
  split at h
  ·assumption
  ·cases h
 unfold lines_Runes.f at h; rw [if_pos hs] at h; have V := valid_is a0 w zv1 hG
 by_cases b : Lib.validD a0.data.toList = true
 ·rw [if_pos b] at h; cases h; rw [b] at V; go_enter Tryd.func20, Tryd.ntmps20
  go_wp2_with (first | (go_at_call 58; (with_reducible refine V.mono ?_); rintro e W1 ⟨rfl, hb1⟩))
  have hwib : w.heap.size ≤ W1.heap.size := hb1.size
  go_loopg [4] a0.size (fun gk v4 wr => ∃ (x4 : List Int) (p : Nat), Aside0 (x4 ++ zRx a0 gk p = zRx a0 a0.size 0 ∧ x4.length ≤ p ∧ a0.size ≤ p + gk) ∧ wr.heap[W1.heap.size]? = some (.stringIter a0 p) ∧ Aside0 (Kd.R (Kd.int .i32) 21 wr w.heap.size (fun _ => True) v4 x4) ∧ Aside0 (Below w.heap.size w wr))
  case atStart =>
   refine ⟨[], 0, ⟨rfl, Nat.le_refl _, zv1⟩, ?_, ⟨Kd.R_nil _ _ _ _ _⟩, ⟨?_⟩⟩
   ·exact World.iter_heap W1 a0 0
   ·exact zRe hb1 _
  case round =>
   obtain ⟨x4, p, HX, hit, HO, HB⟩ := hrel; have hlt : W1.heap.size < wr.heap.size := (Array.getElem?_eq_some_iff.1 hit).1
   by_cases hp : p < a0.size
   ·have hnx : ∀ ty, (Instr.next (.pointer (some ⟨W1.heap.size, 0, none⟩)) true ty).run Tryd.prog wr = _ := fun ty => Lib.run_next_any_at wr W1.heap.size a0 p ty hit hp
    have hwd := wide_pos a0 p hp; obtain ⟨k1, rfl⟩ : ∃ k1, gk = k1 + 1 := ⟨gk - 1, (by have := HX.out.2.2; omega)⟩
    have hne : some W1.heap.size ≠ u4.ownBlock := fun e => by
     obtain ⟨cells, hc⟩ := Kd.R_typed HO.out W1.heap.size e.symm; rw [hit] at hc; cases hc
    obtain ⟨W2, hW2⟩ : ∃ W2, wr.iterAt W1.heap.size a0 (p + (Utf8.decode a0 p).2) = W2 := ⟨_, rfl⟩
    have HO2 : Aside0 (Kd.R (Kd.int .i32) 21 W2 w.heap.size (fun _ => True) u4 x4) := ⟨(by rw [← hW2]; exact Kd.R_grown2 HO.out rfl (iter_grown wr W1.heap.size a0 _) (fun k e => by cases e; exact hne))⟩
    have HB2 : Aside0 (Below w.heap.size w W2) := ⟨(by rw [← hW2]; exact Lib.below_iterAt HB.out hwib a0 _)⟩
    have hit2 : W2.heap[W1.heap.size]? = some (.stringIter a0 (p + (Utf8.decode a0 p).2)) := by rw [← hW2]; exact Lib.iterAt_heap wr W1.heap.size a0 p _ hit
    rw [hW2] at hnx; have hx : x4.length ≤ 1000000000 := by have := HX.out.2.1; omega
    go_wp2_with (first | ((with_reducible refine gate_builtin (b := .append) (xs := #[.tmp 15, .tmp 17]) rfl ?_); at_builtin; refine Kd.R_append (Kd.int .i32) (w0 := w) w.heap.size rfl (.tmp 15) (.tmp 17) 22 21 (.int .i32 0) 4 rfl Tryd.underlying22 info21 rfl zvz zv1 u4 x4 ((Utf8.decode a0 p).1 : Int) [.int .i32 ((Utf8.decode a0 p).1 : Int)] (fun _ => True) (fun _ => False) rfl rfl ?aP (fun _ hk => hk.elim) ?aF ?aO ?aB ?aS ?aL ?_; (case aP => exact rfl); (case aB => exact HB2.out); (case aF => exact (fun _ _ => trivial)); (case aO => exact HO2.out); (case aS => exact (zRg HB2.out)); (case aL => omega); intro v111 w6 ho hb hg hat))
    go_roundg k1
    case measure => omega
    case rel =>
     refine ⟨x4 ++ [((Utf8.decode a0 p).1 : Int)], p + (Utf8.decode a0 p).2, ⟨?_, ?_, ?_⟩, ?_, ⟨ho⟩, ⟨hb⟩⟩
     ·rw [← HX.out.1, zRx, if_pos hp, List.append_assoc]; rfl
     ·have := HX.out.2.1; simp; omega
     ·have := HX.out.2.2; omega
     ·rw [hg.block W1.heap.size (by have := (Array.getElem?_eq_some_iff.1 hit2).1; exact this) hne]; exact hit2
   ·have hnx : ∀ ty, (Instr.next (.pointer (some ⟨W1.heap.size, 0, none⟩)) true ty).run Tryd.prog wr = _ := fun ty => Lib.run_next_end_at wr W1.heap.size a0 p ty hit hp
    have e : x4 = zRx a0 a0.size 0 := by have := HX.out.1; rw [runesAt_end a0 gk p hp, List.append_nil] at this; exact this
    go_wp2
    go_ret2
    exact ⟨_, rfl, by rw [← e]; exact HO.out, HB.out⟩
 ·have b : Lib.validD a0.data.toList = false := by simpa using b
  rw [if_neg (by rw [b]; decide)] at h; cases h; rw [b] at V; go_enter Tryd.func20, Tryd.ntmps20
  go_wp2_with (first | (go_at_call 58; (with_reducible refine V.mono ?_); rintro e W1 ⟨rfl, hb1⟩))
  go_ret2
  exact ⟨_, rfl, Kd.R_nil _ _ _ _ _, hb1⟩
def oddR (c : Int) : Bool := !Lib.validRune c
end Go.Proofs.YtpkjpiphjdpegaaDoor.P
namespace Go.Proofs.YtpkjpiphjdpegaaDoor.P
open Go.RowKit Go.Proofs.YtpkjpiphjdpegaaDoorW.PrintWords Go.Proofs.YtpkjpiphjdpegaaDoorW.PrintLast Go.Proofs.YtpkjpiphjdpegaaDoorW.PrintMore
attribute [local go_sem] max2_int min2_int max_two min_two max_three min_three max_four min_four
set_option linter.unusedVariables false
set_option linter.unusedSimpArgs false
def paymasterref09_Split.l0 : Nat → ByteArray → List ByteArray → Int → Int → Option (List ByteArray)
 | 0, _, _, _, _ => none
 | k + 1, x0, x3, x4, x5 => if x5 ≤ (x0.size : Int) then (if x5 = (x0.size : Int) then (if 0 ≤ x4 then (if x4 ≤ x5 then (if x3.length < 8796093022208 then (paymasterref09_Split.l0 k x0 (x3 ++ [x0.extract (x4 : Int).toNat (x5 : Int).toNat]) (wrap64 (x5 + 1)) (wrap64 (x5 + 1))) else (none)) else (none)) else (none)) else (if 0 ≤ x5 then (if x5 < (x0.size : Int) then (if (bt x0 x5) = 10 then (if 0 ≤ x4 then (if x4 ≤ x5 then (if x3.length < 8796093022208 then (paymasterref09_Split.l0 k x0 (x3 ++ [x0.extract (x4 : Int).toNat (x5 : Int).toNat]) (wrap64 (x5 + 1)) (wrap64 (x5 + 1))) else (none)) else (none)) else (none)) else (paymasterref09_Split.l0 k x0 x3 x4 (wrap64 (x5 + 1)))) else (none)) else (none))) else (some x3)
def paymasterref09_Split.f (k : Nat) (a0 : ByteArray) : Option (List ByteArray) := paymasterref09_Split.l0 k a0 ([] : List ByteArray) 0 0
set_option maxHeartbeats 8000000 in
set_option maxRecDepth 100000 in
theorem paymasterref09_Split.calls (k : Nat) (a0 : ByteArray) (r : List ByteArray) (w : World) (h : paymasterref09_Split.f k a0 = some r) :
  Calls Tryd.prog 33 #[.string a0] w fun e w' => ∃ v0_ : Value, e = .returned (v0_) ∧ Kd.R Kd.string 9 w' w.heap.size (fun _ => True) v0_ r ∧ Below w.heap.size w w' := by
 have HB := Aside0.mk (Below.refl w.heap.size w); have H : (paymasterref09_Split.l0 k a0 ([] : List ByteArray) 0 0) = some r := h; clear h; have H' := Aside0.mk H; clear H; go_enter Tryd.func33, Tryd.ntmps33; go_wp2
 go_loopg [3, 4, 5] k (fun kq v3 v4 v5 w' => ∃ (x3_1 : List ByteArray) (x4_1 : Int) (x5_1 : Int), v4 = .int .i64 x4_1 ∧ v5 = .int .i64 x5_1 ∧ Aside0 (paymasterref09_Split.l0 kq a0 x3_1 x4_1 x5_1 = some r) ∧ Aside0 (kq ≤ k) ∧ Aside0 (Kd.R Kd.string 9 w' w.heap.size (fun _ => True) v3 x3_1) ∧ Aside0 (Below w.heap.size w w'))
 case atStart => exact ⟨(([] : List ByteArray)), (0), (0), zv5, zv5, H', ⟨Nat.le_refl _⟩, ⟨zvo⟩, ⟨zv0⟩⟩
 case round =>
  clear H'; obtain ⟨x3_1, x4_1, x5_1, rfl, rfl, HA, HK1, HO_3, HB⟩ := hrel; cases gk with
  | zero => exact absurd HA.out (by simp [paymasterref09_Split.l0])
  | succ k1 =>
   have H := HA.out; clear HA; simp only [paymasterref09_Split.l0] at H
   by_cases c2 : x5_1 ≤ (a0.size : Int)
   ·rw [if_pos c2] at H; have c2b0 : decide (x5_1 ≤ (a0.size : Int)) = true := decide_eq_true c2; clear c2
    by_cases c3 : x5_1 = (a0.size : Int)
    ·rw [if_pos c3] at H; have c3b0 : (x5_1 == (a0.size : Int)) = true := beq_iff_eq.mpr c3; have c3b1 : (x5_1 != (a0.size : Int)) = false := bne_eq_false_iff_eq.mpr c3; clear c3
     by_cases c4 : 0 ≤ x4_1
     ·rw [if_pos c4] at H; have c4b0 := eq_true c4; have c4b1 : decide (0 ≤ x4_1) = true := decide_eq_true c4; clear c4
      by_cases c5 : x4_1 ≤ x5_1
      ·rw [if_pos c5] at H; have c5b0 := eq_true c5; have c5b1 : decide (x4_1 ≤ x5_1) = true := decide_eq_true c5; clear c5; have c6b0 := eq_true (of_decide_eq_true zv6 : x5_1 ≤ (a0.size : Int))
       by_cases c7 : x3_1.length < 8796093022208
       ·rw [if_pos c7] at H; have LMc7 := Aside0.mk c7; clear c7; obtain ⟨y176, hy176⟩ : ∃ y_ : List ByteArray, y_ = (x3_1 ++ [a0.extract (x4_1 : Int).toNat (x5_1 : Int).toNat]) := ⟨_, rfl⟩
        replace H : (paymasterref09_Split.l0 k1 a0 y176 (wrap64 (x5_1 + 1)) (wrap64 (x5_1 + 1))) = some r := by first | (rw [hy176]; with_reducible exact H) | (have H2_ := (Option.bind_some _ _).symm.trans H; rw [hy176]; with_reducible exact H2_) | (have H2_ := (Option.bind_some _ _).symm.trans H; with_reducible exact H2_) | with_reducible exact H | (rw [hy176]; exact H) | exact H
        have Ny176 := Aside0.mk hy176; clear hy176; have H' := Aside0.mk H; clear H
        go_wp2_with (first | ((with_reducible refine gate_builtin (b := .append) (xs := #[.tmp 22, .tmp 27]) rfl ?_); at_builtin; refine Kd.R_append Kd.string (w0 := w) w.heap.size rfl (.tmp 22) (.tmp 27) 51 9 (.string ⟨#[]⟩) 16 rfl Tryd.underlying51 info9 rfl zvz zv1 u3 x3_1 (a0.extract (x4_1 : Int).toNat (x5_1 : Int).toNat) [.string (a0.extract (x4_1 : Int).toNat (x5_1 : Int).toNat)] (fun _ => True) (fun _ => False) rfl rfl ?aP (fun _ hk => hk.elim) ?aF ?aO ?aB ?aS ?aL ?_; (case aP => exact rfl); (case aB => exact zv0); (case aF => exact (fun _ _ => trivial)); (case aO => exact (zqr HO_3.out)); (case aS => exact (zRg zv0)); (case aL => have := LMc7.out; omega); intro v177 w8 ho hb hg hat; rw [← Ny176.out] at ho; have n0_ := Aside0.mk (hb); have n1_ := Aside0.mk (ho); clear HB; clear HO_3; have HB := n0_; have HO178 := n1_; clear n0_ n1_; clear ho hb hg hat))
        go_roundg k1
        case measure => have := HK1.out; omega
        case rel => exact ⟨(y176), (wrap64 (x5_1 + 1)), (wrap64 (x5_1 + 1)), zv5, zv5, H', ⟨zv2g⟩, ⟨(by (with_reducible repeat (first | apply Kd.R_alloc | apply Kd.R_drewN | apply Kd.R_drew)); exact HO178.out)⟩, ⟨zv0⟩⟩
       ·rw [if_neg c7] at H; exact absurd H zv10
      ·rw [if_neg c5] at H; exact absurd H zv10
     ·rw [if_neg c4] at H; exact absurd H zv10
    ·rw [if_neg c3] at H; have c3b0 : (x5_1 == (a0.size : Int)) = false := beq_eq_false_iff_ne.mpr c3; have c3b1 : (x5_1 != (a0.size : Int)) = true := bne_iff_ne.mpr c3
     by_cases c9 : 0 ≤ x5_1
     ·rw [if_pos c9] at H; have c9b0 : decide (0 ≤ x5_1) = true := decide_eq_true c9; clear c9
      by_cases c10 : x5_1 < (a0.size : Int)
      ·rw [if_pos c10] at H; have c10b0 : decide (x5_1 < (a0.size : Int)) = true := decide_eq_true c10; clear c10
       by_cases c12 : (bt a0 x5_1) = 10
       ·rw [if_pos c12] at H; have c12b0 : ((bt a0 x5_1) == 10) = true := beq_iff_eq.mpr c12; have c12b1 : ((bt a0 x5_1) != 10) = false := bne_eq_false_iff_eq.mpr c12; clear c12
        by_cases c13 : 0 ≤ x4_1
        ·rw [if_pos c13] at H; have c13b0 := eq_true c13; have c13b1 : decide (0 ≤ x4_1) = true := decide_eq_true c13; clear c13
         by_cases c14 : x4_1 ≤ x5_1
         ·rw [if_pos c14] at H; have c14b0 := eq_true c14; have c14b1 : decide (x4_1 ≤ x5_1) = true := decide_eq_true c14; clear c14; have c15b0 := eq_true (of_decide_eq_true zv6 : x5_1 ≤ (a0.size : Int))
          by_cases c16 : x3_1.length < 8796093022208
          ·rw [if_pos c16] at H; have LMc16 := Aside0.mk c16; clear c16; obtain ⟨y179, hy179⟩ : ∃ y_ : List ByteArray, y_ = (x3_1 ++ [a0.extract (x4_1 : Int).toNat (x5_1 : Int).toNat]) := ⟨_, rfl⟩
           replace H : (paymasterref09_Split.l0 k1 a0 y179 (wrap64 (x5_1 + 1)) (wrap64 (x5_1 + 1))) = some r := by first | (rw [hy179]; with_reducible exact H) | (have H2_ := (Option.bind_some _ _).symm.trans H; rw [hy179]; with_reducible exact H2_) | (have H2_ := (Option.bind_some _ _).symm.trans H; with_reducible exact H2_) | with_reducible exact H | (rw [hy179]; exact H) | exact H
           have Ny179 := Aside0.mk hy179; clear hy179; have H' := Aside0.mk H; clear H; have p11 : 0 ≤ (x5_1 : Int) := of_decide_eq_true zv6; have q11 : x5_1 < (a0.size : Int) := of_decide_eq_true zv6; have hx11 := bt_at a0 x5_1; replace p11 := eq_true p11; replace q11 := eq_true q11
           go_wp2_with (first | ((with_reducible refine gate_builtin (b := .append) (xs := #[.tmp 22, .tmp 27]) rfl ?_); at_builtin; refine Kd.R_append Kd.string (w0 := w) w.heap.size rfl (.tmp 22) (.tmp 27) 51 9 (.string ⟨#[]⟩) 16 rfl Tryd.underlying51 info9 rfl zvz zv1 u3 x3_1 (a0.extract (x4_1 : Int).toNat (x5_1 : Int).toNat) [.string (a0.extract (x4_1 : Int).toNat (x5_1 : Int).toNat)] (fun _ => True) (fun _ => False) rfl rfl ?aP (fun _ hk => hk.elim) ?aF ?aO ?aB ?aS ?aL ?_; (case aP => exact rfl); (case aB => exact zv0); (case aF => exact (fun _ _ => trivial)); (case aO => exact (zqr HO_3.out)); (case aS => exact (zRg zv0)); (case aL => have := LMc16.out; omega); intro v180 w17 ho hb hg hat; rw [← Ny179.out] at ho; have n0_ := Aside0.mk (hb); have n1_ := Aside0.mk (ho); clear HB; clear HO_3; have HB := n0_; have HO181 := n1_; clear n0_ n1_; clear ho hb hg hat))
           go_roundg k1
           case measure => have := HK1.out; omega
           case rel => exact ⟨(y179), (wrap64 (x5_1 + 1)), (wrap64 (x5_1 + 1)), zv5, zv5, H', ⟨zv2g⟩, ⟨(by (with_reducible repeat (first | apply Kd.R_alloc | apply Kd.R_drewN | apply Kd.R_drew)); exact HO181.out)⟩, ⟨zv0⟩⟩
          ·rw [if_neg c16] at H; exact absurd H zv10
         ·rw [if_neg c14] at H; exact absurd H zv10
        ·rw [if_neg c13] at H; exact absurd H zv10
       ·rw [if_neg c12] at H; have c12b0 : ((bt a0 x5_1) == 10) = false := beq_eq_false_iff_ne.mpr c12; have c12b1 : ((bt a0 x5_1) != 10) = true := bne_iff_ne.mpr c12; have H' := Aside0.mk H; clear H; have p11 : 0 ≤ (x5_1 : Int) := of_decide_eq_true zv6; have q11 : x5_1 < (a0.size : Int) := of_decide_eq_true zv6; have hx11 := bt_at a0 x5_1; replace p11 := eq_true p11; replace q11 := eq_true q11; go_wp2; go_roundg k1
        case measure => have := HK1.out; omega
        case rel => exact ⟨(x3_1), (x4_1), (wrap64 (x5_1 + 1)), zv5, zv5, H', ⟨zv2g⟩, ⟨zv1c⟩, ⟨zv0⟩⟩
      ·rw [if_neg c10] at H; exact absurd H zv10
     ·rw [if_neg c9] at H; exact absurd H zv10
   ·rw [if_neg c2] at H; have c2b0 : decide (x5_1 ≤ (a0.size : Int)) = false := decide_eq_false c2; clear c2; obtain rfl := Option.some.inj H; go_wp2; go_ret; exact ⟨_, zv8, zv1c, zv0⟩
end Go.Proofs.YtpkjpiphjdpegaaDoor.P
namespace Go.Proofs.YtpkjpiphjdpegaaDoor.P
open Go.RowKit Go.Proofs.YtpkjpiphjdpegaaDoorW.PrintWords Go.Proofs.YtpkjpiphjdpegaaDoorW.PrintLast Go.Proofs.YtpkjpiphjdpegaaDoorW.PrintMore
set_option linter.unusedVariables false
set_option linter.unusedSimpArgs false
theorem valid_at (s : ByteArray) (p : Nat) (hp : p < s.size) : Lib.validD (s.data.toList.drop p) = if badAt s p then false else Lib.validD (s.data.toList.drop (p + (Utf8.decode s p).2)) := by
 have hl : s.data.toList.length = s.size := by simp
 rw [Lib.validD_step _ (by intro e; have := congrArg List.length e; rw [List.length_drop, hl] at this; simp at this; omega), Lib.decodeL_drop, List.drop_drop]
theorem valid_end (s : ByteArray) (p : Nat) (hp : ¬ p < s.size) : Lib.validD (s.data.toList.drop p) = true := by
 have hl : s.data.toList.length = s.size := by simp
 rw [List.drop_eq_nil_of_le (by rw [hl]; omega), Lib.validD_nil]
theorem wide_4 (s : ByteArray) (p : Nat) : (Utf8.decode s p).2 ≤ 4 := by
 rw [dec_is]; repeat' split
 all_goals simp
theorem refRunes_loop (s : ByteArray) (hs : s.size ≤ 1000000000) : ∀ (n p : Nat) (x : List Int), s.size ≤ p + n → x.length ≤ p → p ≤ s.size + 4 →
  paymasterref09_Runes.l0 (n + 11) s x p = some (if Lib.validD (s.data.toList.drop p) = true then (x ++ zRx s n p, 0) else ([], 90))
 | n, p, x, h, hx, hp4 => by
  by_cases hp : p < s.size
  ·obtain ⟨m, rfl⟩ : ∃ m, n = m + 1 := ⟨n - 1, zv1⟩
   have w1 := wide_pos s p hp; have w4 := wide_4 s p; have r1 := Lib.rune_le s p; rw [paymasterref09_Runes.l0, if_pos zv1, show m + 11 = (m + 1) + 10 from rfl, rune_is (m + 1) s p hp hs, Option.bind_some, runeR_is, valid_at s p hp]
   by_cases b : badAt s p
   ·have e : decR (Utf8.decode s p) = (0, 0) := by unfold decR; rw [if_pos b]
    rw [e, if_pos b, if_pos rfl, if_neg zvz]
   ·have e : decR (Utf8.decode s p) = (((Utf8.decode s p).1 : Int), ((Utf8.decode s p).2 : Int)) := by unfold decR; rw [if_neg b]
    rw [e, if_neg b, if_neg (show ¬ (((Utf8.decode s p).2 : Nat) : Int) = 0 by omega), if_pos zv1]; have wr : wrap32 (((Utf8.decode s p).1 : Nat) : Int) = (((Utf8.decode s p).1 : Nat) : Int) := by unfold wrap32; omega
    have wp : wrap64 ((p : Int) + (((Utf8.decode s p).2 : Nat) : Int)) = ((p + (Utf8.decode s p).2 : Nat) : Int) := by rw [wrap64_in _ zv1]; push_cast; rfl
    rw [wr, wp, show m + 1 + 10 = m + 11 by omega, refRunes_loop s hs m (p + (Utf8.decode s p).2) (x ++ [(((Utf8.decode s p).1 : Nat) : Int)]) zv1 zv27 zv1]; rw [zRx, if_pos hp, List.append_assoc]; rfl
  ·rw [paymasterref09_Runes.l0, if_neg zv1, valid_end s p hp, if_pos rfl, runesAt_end s n p hp, List.append_nil]
theorem refRunes_is (s : ByteArray) (hs : s.size ≤ 1000000000) : paymasterref09_Runes.f (s.size + 11) s = some (if Lib.validD s.data.toList = true then (zRx s s.size 0, 0) else ([], 90)) := by
 have := refRunes_loop s hs s.size 0 [] zv1 (Nat.le_refl _) zv1; unfold paymasterref09_Runes.f; rw [show (((0 : Nat) : Int)) = 0 from rfl] at this; rw [this]; rfl
def enc (c : Int) : List Int := nb (Utf8.encode c)
theorem odd_is (c : Int) : oddR c = decide (c < 0 ∨ c > 1114111 ∨ (c ≥ 55296 ∧ c < 57344)) := by
 unfold oddR Lib.validRune
 by_cases h : (0 ≤ c ∧ c < 0xD800) ∨ (0xDFFF < c ∧ c ≤ 0x10FFFF)
 ·rw [decide_eq_true h, decide_eq_false zv1]; rfl
 ·rw [decide_eq_false h, decide_eq_true zv1]; rfl
theorem nb_mk (a : Array UInt8) : nb ⟨a⟩ = a.toList.map fun x => (x.toNat : Int) := rfl
theorem byte_of (n : Nat) (h : n < 256) : (((UInt8.ofNat n).toNat : Nat) : Int) = (n : Int) := by
 rw [UInt8.toNat_ofNat_of_lt' (by show n < 256; exact h)]
theorem enc_1 (c : Nat) (h : c < 128) : enc (c : Int) = [(c : Int)] := by
 unfold enc Utf8.encode; have v : Utf8.valid (c : Int) = true := by unfold Utf8.valid; simp; omega
 simp only [v, if_true, Int.toNat_natCast]; rw [if_pos h, nb_mk]; simp only [List.map_cons, List.map_nil]; rw [byte_of _ zv1]
theorem enc_2 (c : Nat) (h0 : 128 ≤ c) (h : c < 2048) : enc (c : Int) = [((192 + c / 64 : Nat) : Int), ((128 + c % 64 : Nat) : Int)] := by
 unfold enc Utf8.encode; have v : Utf8.valid (c : Int) = true := by unfold Utf8.valid; simp; omega
 simp only [v, if_true, Int.toNat_natCast]; rw [if_neg zv1, if_pos h, nb_mk]; simp only [List.map_cons, List.map_nil]; rw [byte_of _ zv1, byte_of _ zv1]
theorem enc_3 (c : Nat) (h0 : 2048 ≤ c) (h : c < 65536) (hv : ¬ (c ≥ 55296 ∧ c < 57344)) : enc (c : Int) = [((224 + c / 4096 : Nat) : Int), ((128 + c / 64 % 64 : Nat) : Int), ((128 + c % 64 : Nat) : Int)] := by
 unfold enc Utf8.encode; have v : Utf8.valid (c : Int) = true := by unfold Utf8.valid; simp; omega
 simp only [v, if_true, Int.toNat_natCast]; rw [if_neg zv1, if_neg zv1, if_pos h, nb_mk]; simp only [List.map_cons, List.map_nil]; rw [byte_of _ zv1, byte_of _ zv1, byte_of _ zv1]
theorem enc_4 (c : Nat) (h0 : 65536 ≤ c) (h : c ≤ 1114111) : enc (c : Int) = [((240 + c / 262144 : Nat) : Int), ((128 + c / 4096 % 64 : Nat) : Int), ((128 + c / 64 % 64 : Nat) : Int), ((128 + c % 64 : Nat) : Int)] := by
 unfold enc Utf8.encode; have v : Utf8.valid (c : Int) = true := by unfold Utf8.valid; simp; omega
 simp only [v, if_true, Int.toNat_natCast]; rw [if_neg zv1, if_neg zv1, if_neg zv1, nb_mk]; simp only [List.map_cons, List.map_nil]; rw [byte_of _ zv1, byte_of _ zv1, byte_of _ zv1, byte_of _ zv1]
theorem enc_len (c : Int) : (enc c).length ≤ 4 := by
 unfold enc; rw [nb_length]; exact encode_size_le c
theorem up {β : Type} {F : Nat → Option β} (m : ∀ k, LeO (F k) (F (k + 1))) {a : Nat} {r : β} (h : F a = some r) : ∀ b, a ≤ b → F b = some r := by
 intro b hb
 induction b with
 | zero =>
  obtain rfl : a = 0 := by omega
  exact h
 | succ b ih =>
  by_cases e : a = b + 1
  ·rw [← e]; exact h
  ·exact m b r (ih zv1)
theorem refRunes_up (s : ByteArray) (hs : s.size ≤ 1000000000) (k : Nat) (hk : s.size + 11 ≤ k) : paymasterref09_Runes.f k s = some (if Lib.validD s.data.toList = true then (zRx s s.size 0, 0) else ([], 90)) :=
 up (F := fun k => paymasterref09_Runes.f k s) (paymasterref09_Runes.mono s) (refRunes_is s hs) k hk
theorem nb_at (s : ByteArray) (p : Nat) (h : p < s.size) : (nb s).drop p = (nbAt s p : Int) :: (nb s).drop (p + 1) := by
 have hl : p < (nb s).length := by rw [nb_length]; exact h
 rw [List.drop_eq_getElem_cons hl]
 congr 1
 rw [← bt_nbAt s p h, bt_nb, List.getD_eq_getElem?_getD, List.getElem?_eq_getElem hl]; rfl
theorem cont_is (s : ByteArray) (p : Nat) (h : contAt s p = true) : p < s.size ∧ nbAt s p / 64 = 2 := by
 unfold contAt at h
 simpa using h
theorem odd_false (c : Int) (h : ¬ (c < 0 ∨ c > 1114111 ∨ (c ≥ 55296 ∧ c < 57344))) : oddR c = false := by rw [odd_is, decide_eq_false h]
theorem valid_is' (c : Nat) (h : Utf8.valid (c : Int) = true) : c < 55296 ∨ (57344 ≤ c ∧ c ≤ 1114111) := by
 unfold Utf8.valid at h; simp at h; omega
def GoodStep (s : ByteArray) (p : Nat) (d : Nat × Nat) : Prop :=
 oddR (d.1 : Int) = false ∧ (nb s).drop p = enc (d.1 : Int) ++ (nb s).drop (p + d.2) ∧ (enc (d.1 : Int)).length = d.2
set_option maxRecDepth 10000 in
theorem dec_good (s : ByteArray) (p : Nat) (hp : p < s.size) (hb : ¬ badAt s p) : GoodStep s p (Utf8.decode s p) := by
 unfold badAt at hb; have hlt := nbAt_lt s p; have n1 := nbAt_lt s (p + 1); have n2 := nbAt_lt s (p + 2); have n3 := nbAt_lt s (p + 3); have d0 := nb_at s p hp; rw [dec_is] at hb ⊢
 by_cases c1 : nbAt s p < 0x80
 ·rw [if_pos c1]; exact ⟨odd_false _ zv27, (by rw [enc_1 _ c1, d0]; rfl), (by rw [enc_1 _ c1]; rfl)⟩
 ·rw [if_neg c1] at hb ⊢
  by_cases c2 : (nbAt s p / 32 == 6 && contAt s (p + 1)) = true
  ·rw [if_pos c2] at hb ⊢; simp only [Bool.and_eq_true, beq_iff_eq] at c2; obtain ⟨c2, q1⟩ := c2; obtain ⟨l1, e1⟩ := cont_is s _ q1; have d1 := nb_at s (p + 1) l1
   by_cases c3 : (nbAt s p % 32) * 64 + nbAt s (p + 1) % 64 ≥ 0x80
   ·rw [if_pos c3]; have e := enc_2 ((nbAt s p % 32) * 64 + nbAt s (p + 1) % 64) c3 zv1; refine ⟨odd_false _ zv27, ?_, (by rw [e]; rfl)⟩; rw [e, d0, d1]; rw [show 192 + ((nbAt s p % 32) * 64 + nbAt s (p + 1) % 64) / 64 = nbAt s p by omega, show 128 + ((nbAt s p % 32) * 64 + nbAt s (p + 1) % 64) % 64 = nbAt s (p + 1) by omega]; rfl
   ·rw [if_neg c3] at hb; exact absurd ⟨rfl, rfl⟩ hb
  ·rw [if_neg c2] at hb ⊢
   by_cases c4 : (nbAt s p / 16 == 14 && contAt s (p + 1) && contAt s (p + 2)) = true
   ·rw [if_pos c4] at hb ⊢; simp only [Bool.and_eq_true, beq_iff_eq] at c4; obtain ⟨⟨c4, q1⟩, q2⟩ := c4; obtain ⟨l1, e1⟩ := cont_is s _ q1; obtain ⟨l2, e2⟩ := cont_is s _ q2; have d1 := nb_at s (p + 1) l1; have d2 := nb_at s (p + 2) l2
    by_cases c5 : (decide ((nbAt s p % 16) * 4096 + (nbAt s (p + 1) % 64) * 64 + nbAt s (p + 2) % 64 ≥ 0x800) && Utf8.valid (((nbAt s p % 16) * 4096 + (nbAt s (p + 1) % 64) * 64 + nbAt s (p + 2) % 64 : Nat) : Int)) = true
    ·rw [if_pos c5]; simp only [Bool.and_eq_true, decide_eq_true_eq] at c5; obtain ⟨c5, hv⟩ := c5; have hv := valid_is' _ hv; have e := enc_3 ((nbAt s p % 16) * 4096 + (nbAt s (p + 1) % 64) * 64 + nbAt s (p + 2) % 64) c5 zv1 zv1; refine ⟨odd_false _ zv27, ?_, (by rw [e]; rfl)⟩; rw [e, d0, d1, d2]
     rw [show 224 + ((nbAt s p % 16) * 4096 + (nbAt s (p + 1) % 64) * 64 + nbAt s (p + 2) % 64) / 4096 = nbAt s p by omega, show 128 + ((nbAt s p % 16) * 4096 + (nbAt s (p + 1) % 64) * 64 + nbAt s (p + 2) % 64) / 64 % 64 = nbAt s (p + 1) by omega,
      show 128 + ((nbAt s p % 16) * 4096 + (nbAt s (p + 1) % 64) * 64 + nbAt s (p + 2) % 64) % 64 = nbAt s (p + 2) by omega]
     rfl
    ·rw [if_neg c5] at hb; exact absurd ⟨rfl, rfl⟩ hb
   ·rw [if_neg c4] at hb ⊢
    by_cases c6 : (nbAt s p / 8 == 30 && contAt s (p + 1) && contAt s (p + 2) && contAt s (p + 3)) = true
    ·rw [if_pos c6] at hb ⊢; simp only [Bool.and_eq_true, beq_iff_eq] at c6; obtain ⟨⟨⟨c6, q1⟩, q2⟩, q3⟩ := c6; obtain ⟨l1, e1⟩ := cont_is s _ q1; obtain ⟨l2, e2⟩ := cont_is s _ q2; obtain ⟨l3, e3⟩ := cont_is s _ q3; have d1 := nb_at s (p + 1) l1; have d2 := nb_at s (p + 2) l2; have d3 := nb_at s (p + 3) l3
     by_cases c7 : (decide ((nbAt s p % 8) * 262144 + (nbAt s (p + 1) % 64) * 4096 + (nbAt s (p + 2) % 64) * 64 + nbAt s (p + 3) % 64 ≥ 0x10000) && Utf8.valid (((nbAt s p % 8) * 262144 + (nbAt s (p + 1) % 64) * 4096 + (nbAt s (p + 2) % 64) * 64 + nbAt s (p + 3) % 64 : Nat) : Int)) = true
     ·rw [if_pos c7]; simp only [Bool.and_eq_true, decide_eq_true_eq] at c7; obtain ⟨c7, hv⟩ := c7; have hv := valid_is' _ hv; have e := enc_4 ((nbAt s p % 8) * 262144 + (nbAt s (p + 1) % 64) * 4096 + (nbAt s (p + 2) % 64) * 64 + nbAt s (p + 3) % 64) c7 zv1; refine ⟨odd_false _ zv27, ?_, (by rw [e]; rfl)⟩; rw [e, d0, d1, d2, d3]
      rw [show 240 + ((nbAt s p % 8) * 262144 + (nbAt s (p + 1) % 64) * 4096 + (nbAt s (p + 2) % 64) * 64 + nbAt s (p + 3) % 64) / 262144 = nbAt s p by omega, show 128 + ((nbAt s p % 8) * 262144 + (nbAt s (p + 1) % 64) * 4096 + (nbAt s (p + 2) % 64) * 64 + nbAt s (p + 3) % 64) / 4096 % 64 = nbAt s (p + 1) by omega,
       show 128 + ((nbAt s p % 8) * 262144 + (nbAt s (p + 1) % 64) * 4096 + (nbAt s (p + 2) % 64) * 64 + nbAt s (p + 3) % 64) / 64 % 64 = nbAt s (p + 2) by omega, show 128 + ((nbAt s p % 8) * 262144 + (nbAt s (p + 1) % 64) * 4096 + (nbAt s (p + 2) % 64) * 64 + nbAt s (p + 3) % 64) % 64 = nbAt s (p + 3) by omega]
      rfl
     ·rw [if_neg c7] at hb; exact absurd ⟨rfl, rfl⟩ hb
    ·rw [if_neg c6] at hb; exact absurd ⟨rfl, rfl⟩ hb
theorem runes_enc (s : ByteArray) : ∀ (n p : Nat), s.size ≤ p + n → Lib.validD (s.data.toList.drop p) = true → (zRx s n p).any oddR = false ∧ (zRx s n p).flatMap enc = (nb s).drop p ∧ (zRx s n p).length ≤ s.size - p ∧ s.size - p ≤ 4 * (zRx s n p).length := by
 intro n
 induction n with
 | zero =>
  intro p h hv; have : (nb s).drop p = [] := List.drop_eq_nil_of_le zv3n; rw [this]; exact ⟨rfl, rfl, (by simp [zRx]), (by simp [zRx]; omega)⟩
 | succ n ih =>
  intro p h hv
  by_cases hp : p < s.size
  ·rw [valid_at s p hp] at hv
   by_cases hb : badAt s p
   ·rw [if_pos hb] at hv; cases hv
   ·rw [if_neg hb] at hv; obtain ⟨g1, g2, g3⟩ := dec_good s p hp hb; have w1 := wide_pos s p hp; have w4 := wide_4 s p; obtain ⟨i1, i2, i3, i4⟩ := ih (p + (Utf8.decode s p).2) zv1 hv
    have hsz : p + (Utf8.decode s p).2 ≤ s.size := by
     have := congrArg List.length g2; rw [List.length_drop, List.length_append, List.length_drop, nb_length, g3] at this; omega
    rw [zRx, if_pos hp]; refine ⟨(by rw [List.any_cons, g1, i1]; rfl), (by rw [List.flatMap_cons, i2, ← g2]), zv27, zv27⟩
  ·have : (nb s).drop p = [] := List.drop_eq_nil_of_le zv3n; rw [this, runesAt_end s _ p hp]; exact ⟨rfl, rfl, zv10, zv27⟩
theorem enc_ne (c : Nat) (ho : oddR (c : Int) = false) : (enc (c : Int)).length ≥ 1 ∧ ((enc (c : Int)).length = 1 → c < 128) := by
 have hv : ¬ ((c : Int) < 0 ∨ (c : Int) > 1114111 ∨ ((c : Int) ≥ 55296 ∧ (c : Int) < 57344)) := by
  rw [odd_is] at ho; simpa using ho
 by_cases c1 : c < 128
 ·rw [enc_1 c c1]; exact ⟨by simp, fun _ => c1⟩
 ·by_cases c2 : c < 2048
  ·rw [enc_2 c zv1 c2]; exact ⟨by simp, fun h => by simp at h⟩
  ·by_cases c3 : c < 65536
   ·rw [enc_3 c zv1 c3 zv1]; exact ⟨by simp, fun h => by simp at h⟩
   ·rw [enc_4 c zv1 zv1]; exact ⟨by simp, fun h => by simp at h⟩
end Go.Proofs.YtpkjpiphjdpegaaDoor.P
