/- A program of this session wrote this text out of the session's own texts. (part 10 of 20) -/
import Derived.Test.YtpkjpiphjdpegaaDoorCLinesTells4
import Derived.Test.YtpkjpiphjdpegaaDoorCLinesTells7
import Derived.Lib.OthersKept
import Derived.Laws.Cover4
import Derived.Shelf.SlicesE.IndexFunc
import Derived.Ground.SlgfProg
import Derived.Shelf.Small.Utf8
import Derived.Test.YtpkjpiphjdpegaaDoorProg
import Derived.Lib.ValidLaws
import Derived.Lib.TrimUEq
namespace Go.Proofs.YtpkjpiphjdpegaaDoor.P
open Go.RowKit Go.Proofs.YtpkjpiphjdpegaaDoorW.PrintWords Go.Proofs.YtpkjpiphjdpegaaDoorW.PrintLast Go.Proofs.YtpkjpiphjdpegaaDoorW.PrintMore
set_option linter.unusedVariables false
set_option linter.unusedSimpArgs false
def runesAt (s : ByteArray) : Nat → Nat → List Int
  | 0, _ => []
  | n + 1, p => if p < s.size then ((Utf8.decode s p).1 : Int) :: runesAt s n (p + (Utf8.decode s p).2) else []
theorem runesAt_end (s : ByteArray) (n p : Nat) (h : ¬ p < s.size) : runesAt s n p = [] := by
  cases n with
  | zero => rfl
  | succ n => rw [runesAt, if_neg h]
def lines_Runes.f (a0 : ByteArray) : Option (List Int × Int) :=
  if a0.size ≤ 1000000000 then some (if Lib.validD a0.data.toList = true then (runesAt a0 a0.size 0, 0) else ([], 90)) else none
theorem wide_pos (s : ByteArray) (pos : Nat) (h : pos < s.size) : 1 ≤ (Utf8.decode s pos).2 := by
  by_cases ha : (s[pos]'h).toNat < 128
  · rw [decode_ascii s pos h ha]
    exact Nat.le_refl _
  · exact (decode_high s pos h (by omega)).2
theorem iter_grown (w : World) (k : Nat) (s : ByteArray) (p : Nat) : w.grownBy (w.iterAt k s p) (some k) :=
  ⟨rfl, rfl, rfl, by rw [Lib.iterAt_size]; exact Nat.le_refl _, fun j hj hk => Lib.iterAt_other w k j s p (fun e => hk (by rw [e]))⟩
set_option maxHeartbeats 8000000 in
set_option maxRecDepth 100000 in
theorem lines_Runes.calls (a0 : ByteArray) (r1 : List Int) (r2 : Int) (w : World) (hG : GT w) (h : lines_Runes.f a0 = some (r1, r2)) :
    Calls Tryd.prog 20 #[.string a0] w fun e w' => ∃ v0_ : Value, e = .returned (.tuple #[v0_, .int .i64 r2]) ∧ Kd.R (Kd.int .i32) 21 w' w.heap.size (fun _ => True) v0_ r1 ∧ Below w.heap.size w w' := by
  have hs : a0.size ≤ 1000000000 := by
    unfold lines_Runes.f at h
    split at h
    · assumption
    · cases h
  unfold lines_Runes.f at h
  rw [if_pos hs] at h
  have V := valid_is a0 w (by omega) hG
  by_cases b : Lib.validD a0.data.toList = true
  · rw [if_pos b] at h
    cases h
    rw [b] at V
    go_enter Tryd.func20, Tryd.ntmps20
    go_wp2_with (first | (go_at_call 58; (with_reducible refine V.mono ?_); rintro e W1 ⟨rfl, hb1⟩))
    have hwib : w.heap.size ≤ W1.heap.size := hb1.size
    go_loopg [4] a0.size (fun gk v4 wr => ∃ (x4 : List Int) (p : Nat), Aside0 (x4 ++ runesAt a0 gk p = runesAt a0 a0.size 0 ∧ x4.length ≤ p ∧ a0.size ≤ p + gk) ∧ wr.heap[W1.heap.size]? = some (.stringIter a0 p) ∧ Aside0 (Kd.R (Kd.int .i32) 21 wr w.heap.size (fun _ => True) v4 x4) ∧ Aside0 (Below w.heap.size w wr))
    case atStart =>
      refine ⟨[], 0, ⟨rfl, Nat.le_refl _, by omega⟩, ?_, ⟨Kd.R_nil _ _ _ _ _⟩, ⟨?_⟩⟩
      · exact World.iter_heap W1 a0 0
      · exact below_alloc hb1 _
    case round =>
      obtain ⟨x4, p, HX, hit, HO, HB⟩ := hrel
      have hlt : W1.heap.size < wr.heap.size := (Array.getElem?_eq_some_iff.1 hit).1
      by_cases hp : p < a0.size
      · have hnx : ∀ ty, (Instr.next (.pointer (some ⟨W1.heap.size, 0, none⟩)) true ty).run Tryd.prog wr = _ := fun ty => Lib.run_next_any_at wr W1.heap.size a0 p ty hit hp
        have hwd := wide_pos a0 p hp
        obtain ⟨k1, rfl⟩ : ∃ k1, gk = k1 + 1 := ⟨gk - 1, by have := HX.out.2.2; omega⟩
        have hne : some W1.heap.size ≠ u4.ownBlock := fun e => by
          obtain ⟨cells, hc⟩ := Kd.R_typed HO.out W1.heap.size e.symm
          rw [hit] at hc
          cases hc
        obtain ⟨W2, hW2⟩ : ∃ W2, wr.iterAt W1.heap.size a0 (p + (Utf8.decode a0 p).2) = W2 := ⟨_, rfl⟩
        have HO2 : Aside0 (Kd.R (Kd.int .i32) 21 W2 w.heap.size (fun _ => True) u4 x4) := ⟨by rw [← hW2]; exact Kd.R_grown2 HO.out rfl (iter_grown wr W1.heap.size a0 _) (fun k e => by cases e; exact hne)⟩
        have HB2 : Aside0 (Below w.heap.size w W2) := ⟨by rw [← hW2]; exact Lib.below_iterAt HB.out hwib a0 _⟩
        have hit2 : W2.heap[W1.heap.size]? = some (.stringIter a0 (p + (Utf8.decode a0 p).2)) := by rw [← hW2]; exact Lib.iterAt_heap wr W1.heap.size a0 p _ hit
        rw [hW2] at hnx
        have hx : x4.length ≤ 1000000000 := by have := HX.out.2.1; omega
        go_wp2_with (first | ((with_reducible refine gate_builtin (b := .append) (xs := #[.tmp 15, .tmp 17]) rfl ?_); at_builtin; refine Kd.R_append (Kd.int .i32) (w0 := w) w.heap.size rfl (.tmp 15) (.tmp 17) 22 21 (.int .i32 0) 4 rfl Tryd.underlying22 info21 rfl (by decide) (by omega) u4 x4 ((Utf8.decode a0 p).1 : Int) [.int .i32 ((Utf8.decode a0 p).1 : Int)] (fun _ => True) (fun _ => False) rfl rfl ?aP (fun _ hk => hk.elim) ?aF ?aO ?aB ?aS ?aL ?_; (case aP => exact rfl); (case aB => exact HB2.out); (case aF => exact (fun _ _ => trivial)); (case aO => exact HO2.out); (case aS => exact (below_size HB2.out)); (case aL => omega); intro v111 w6 ho hb hg hat))
        go_roundg k1
        case measure => omega
        case rel =>
          refine ⟨x4 ++ [((Utf8.decode a0 p).1 : Int)], p + (Utf8.decode a0 p).2, ⟨?_, ?_, ?_⟩, ?_, ⟨ho⟩, ⟨hb⟩⟩
          · rw [← HX.out.1, runesAt, if_pos hp, List.append_assoc]; rfl
          · have := HX.out.2.1; simp; omega
          · have := HX.out.2.2; omega
          · rw [hg.block W1.heap.size (by have := (Array.getElem?_eq_some_iff.1 hit2).1; exact this) hne]; exact hit2
      · have hnx : ∀ ty, (Instr.next (.pointer (some ⟨W1.heap.size, 0, none⟩)) true ty).run Tryd.prog wr = _ := fun ty => Lib.run_next_end_at wr W1.heap.size a0 p ty hit hp
        have e : x4 = runesAt a0 a0.size 0 := by have := HX.out.1; rw [runesAt_end a0 gk p hp, List.append_nil] at this; exact this
        go_wp2
        go_ret2
        exact ⟨_, rfl, by rw [← e]; exact HO.out, HB.out⟩
  · have b : Lib.validD a0.data.toList = false := by simpa using b
    rw [if_neg (by rw [b]; decide)] at h
    cases h
    rw [b] at V
    go_enter Tryd.func20, Tryd.ntmps20
    go_wp2_with (first | (go_at_call 58; (with_reducible refine V.mono ?_); rintro e W1 ⟨rfl, hb1⟩))
    go_ret2
    exact ⟨_, rfl, Kd.R_nil _ _ _ _ _, hb1⟩
end Go.Proofs.YtpkjpiphjdpegaaDoor.P
namespace Go.Proofs.YtpkjpiphjdpegaaDoor.P
open Go.RowKit Go.Proofs.YtpkjpiphjdpegaaDoorW.PrintWords Go.Proofs.YtpkjpiphjdpegaaDoorW.PrintLast Go.Proofs.YtpkjpiphjdpegaaDoorW.PrintMore
attribute [local go_sem] max2_int min2_int max_two min_two max_three min_three max_four min_four
set_option linter.unusedVariables false
set_option linter.unusedSimpArgs false
def paymasterref09_Split.l0 : Nat → ByteArray → List ByteArray → Int → Int → Option (List ByteArray)
  | 0, _, _, _, _ => none
  | k + 1, x0, x3, x4, x5 => if x5 ≤ (x0.size : Int) then (if x5 = (x0.size : Int) then (if 0 ≤ x4 then (if x4 ≤ x5 then (if x3.length < 8796093022208 then (paymasterref09_Split.l0 k x0 (x3 ++ [x0.extract (x4 : Int).toNat (x5 : Int).toNat]) (wrap64 (x5 + 1)) (wrap64 (x5 + 1))) else (none)) else (none)) else (none)) else (if 0 ≤ x5 then (if x5 < (x0.size : Int) then (if (bt x0 x5) = 10 then (if 0 ≤ x4 then (if x4 ≤ x5 then (if x3.length < 8796093022208 then (paymasterref09_Split.l0 k x0 (x3 ++ [x0.extract (x4 : Int).toNat (x5 : Int).toNat]) (wrap64 (x5 + 1)) (wrap64 (x5 + 1))) else (none)) else (none)) else (none)) else (paymasterref09_Split.l0 k x0 x3 x4 (wrap64 (x5 + 1)))) else (none)) else (none))) else (some x3)
def paymasterref09_Split.f (k : Nat) (a0 : ByteArray) : Option (List ByteArray) := paymasterref09_Split.l0 k a0 ([] : List ByteArray) 0 0
set_option maxHeartbeats 8000000 in
set_option maxRecDepth 100000 in
theorem paymasterref09_Split.calls (k : Nat) (a0 : ByteArray) (r : List ByteArray) (w : World) (h : paymasterref09_Split.f k a0 = some r) :
    Calls Tryd.prog 33 #[.string a0] w fun e w' => ∃ v0_ : Value, e = .returned (v0_) ∧ Kd.R Kd.string 9 w' w.heap.size (fun _ => True) v0_ r ∧ Below w.heap.size w w' := by
  have HB := Aside0.mk (Below.refl w.heap.size w)
  have H : (paymasterref09_Split.l0 k a0 ([] : List ByteArray) 0 0) = some r := h
  clear h
  have H' := Aside0.mk H
  clear H
  go_enter Tryd.func33, Tryd.ntmps33
  go_wp2
  go_loopg [3, 4, 5] k (fun kq v3 v4 v5 w' => ∃ (x3_1 : List ByteArray) (x4_1 : Int) (x5_1 : Int), v4 = .int .i64 x4_1 ∧ v5 = .int .i64 x5_1 ∧ Aside0 (paymasterref09_Split.l0 kq a0 x3_1 x4_1 x5_1 = some r) ∧ Aside0 (kq ≤ k) ∧ Aside0 (Kd.R Kd.string 9 w' w.heap.size (fun _ => True) v3 x3_1) ∧ Aside0 (Below w.heap.size w w'))
  case atStart => exact ⟨(([] : List ByteArray)), (0), (0), (by first | rfl | (simp; done) | (simp [*]; done)), (by first | rfl | (simp; done) | (simp [*]; done)), H', ⟨Nat.le_refl _⟩, ⟨by first | exact Kd.R_nil _ _ _ _ _ | exact Kd.N_nil _ _ _ _ _ | exact Kd.V_nil _ _ _ _ _ | exact Kd.Q_nil _ _ _ _ _ | exact Kd.S_nil _ _ _ _ _⟩, ⟨by repeat (first | (with_reducible first | exact HB.out | apply below_alloc | apply pw_below_drewN | apply below_drew1) | exact HB.out)⟩⟩
  case round =>
    clear H'
    obtain ⟨x3_1, x4_1, x5_1, rfl, rfl, HA, HK1, HO_3, HB⟩ := hrel
    cases gk with
    | zero => exact absurd HA.out (by simp [paymasterref09_Split.l0])
    | succ k1 =>
      have H := HA.out
      clear HA
      simp only [paymasterref09_Split.l0] at H
      by_cases c2 : x5_1 ≤ (a0.size : Int)
      · rw [if_pos c2] at H
        have c2b0 : decide (x5_1 ≤ (a0.size : Int)) = true := decide_eq_true c2
        clear c2
        by_cases c3 : x5_1 = (a0.size : Int)
        · rw [if_pos c3] at H
          have c3b0 : (x5_1 == (a0.size : Int)) = true := beq_iff_eq.mpr c3
          have c3b1 : (x5_1 != (a0.size : Int)) = false := bne_eq_false_iff_eq.mpr c3
          clear c3
          by_cases c4 : 0 ≤ x4_1
          · rw [if_pos c4] at H
            have c4b0 := eq_true c4
            have c4b1 : decide (0 ≤ x4_1) = true := decide_eq_true c4
            clear c4
            by_cases c5 : x4_1 ≤ x5_1
            · rw [if_pos c5] at H
              have c5b0 := eq_true c5
              have c5b1 : decide (x4_1 ≤ x5_1) = true := decide_eq_true c5
              clear c5
              have c6b0 := eq_true (of_decide_eq_true (by first | (with_reducible assumption) | assumption) : x5_1 ≤ (a0.size : Int))
              by_cases c7 : x3_1.length < 8796093022208
              · rw [if_pos c7] at H
                have LMc7 := Aside0.mk c7
                clear c7
                obtain ⟨y176, hy176⟩ : ∃ y_ : List ByteArray, y_ = (x3_1 ++ [a0.extract (x4_1 : Int).toNat (x5_1 : Int).toNat]) := ⟨_, rfl⟩
                replace H : (paymasterref09_Split.l0 k1 a0 y176 (wrap64 (x5_1 + 1)) (wrap64 (x5_1 + 1))) = some r := by first | (rw [hy176]; with_reducible exact H) | (have H2_ := (Option.bind_some _ _).symm.trans H; rw [hy176]; with_reducible exact H2_) | (have H2_ := (Option.bind_some _ _).symm.trans H; with_reducible exact H2_) | with_reducible exact H | (rw [hy176]; exact H) | exact H
                have Ny176 := Aside0.mk hy176
                clear hy176
                have H' := Aside0.mk H
                clear H
                go_wp2_with (first | ((with_reducible refine gate_builtin (b := .append) (xs := #[.tmp 22, .tmp 27]) rfl ?_); at_builtin; refine Kd.R_append Kd.string (w0 := w) w.heap.size rfl (.tmp 22) (.tmp 27) 51 9 (.string ⟨#[]⟩) 16 rfl Tryd.underlying51 info9 rfl (by decide) (by omega) u3 x3_1 (a0.extract (x4_1 : Int).toNat (x5_1 : Int).toNat) [.string (a0.extract (x4_1 : Int).toNat (x5_1 : Int).toNat)] (fun _ => True) (fun _ => False) rfl rfl ?aP (fun _ hk => hk.elim) ?aF ?aO ?aB ?aS ?aL ?_; (case aP => exact rfl); (case aB => exact (by repeat (first | (with_reducible first | exact HB.out | apply below_alloc | apply pw_below_drewN | apply below_drew1) | exact HB.out))); (case aF => exact (fun _ _ => trivial)); (case aO => exact (by (with_reducible repeat (first | apply Kd.R_alloc | apply Kd.R_drewN | apply Kd.R_drew)); exact HO_3.out)); (case aS => exact (below_size (by repeat (first | (with_reducible first | exact HB.out | apply below_alloc | apply pw_below_drewN | apply below_drew1) | exact HB.out)))); (case aL => have := LMc7.out; omega); intro v177 w8 ho hb hg hat; rw [← Ny176.out] at ho; have n0_ := Aside0.mk (hb); have n1_ := Aside0.mk (ho); clear HB; clear HO_3; have HB := n0_; have HO178 := n1_; clear n0_ n1_; clear ho hb hg hat))
                go_roundg k1
                case measure => have := HK1.out; omega
                case rel => exact ⟨(y176), (wrap64 (x5_1 + 1)), (wrap64 (x5_1 + 1)), (by first | rfl | (simp; done) | (simp [*]; done)), (by first | rfl | (simp; done) | (simp [*]; done)), H', ⟨by have := HK1.out; omega⟩, ⟨by (with_reducible repeat (first | apply Kd.R_alloc | apply Kd.R_drewN | apply Kd.R_drew)); exact HO178.out⟩, ⟨by repeat (first | (with_reducible first | exact HB.out | apply below_alloc | apply pw_below_drewN | apply below_drew1) | exact HB.out)⟩⟩
              · rw [if_neg c7] at H
                exact absurd H (by simp)
            · rw [if_neg c5] at H
              exact absurd H (by simp)
          · rw [if_neg c4] at H
            exact absurd H (by simp)
        · rw [if_neg c3] at H
          have c3b0 : (x5_1 == (a0.size : Int)) = false := beq_eq_false_iff_ne.mpr c3
          have c3b1 : (x5_1 != (a0.size : Int)) = true := bne_iff_ne.mpr c3
          by_cases c9 : 0 ≤ x5_1
          · rw [if_pos c9] at H
            have c9b0 : decide (0 ≤ x5_1) = true := decide_eq_true c9
            clear c9
            by_cases c10 : x5_1 < (a0.size : Int)
            · rw [if_pos c10] at H
              have c10b0 : decide (x5_1 < (a0.size : Int)) = true := decide_eq_true c10
              clear c10
              by_cases c12 : (bt a0 x5_1) = 10
              · rw [if_pos c12] at H
                have c12b0 : ((bt a0 x5_1) == 10) = true := beq_iff_eq.mpr c12
                have c12b1 : ((bt a0 x5_1) != 10) = false := bne_eq_false_iff_eq.mpr c12
                clear c12
                by_cases c13 : 0 ≤ x4_1
                · rw [if_pos c13] at H
                  have c13b0 := eq_true c13
                  have c13b1 : decide (0 ≤ x4_1) = true := decide_eq_true c13
                  clear c13
                  by_cases c14 : x4_1 ≤ x5_1
                  · rw [if_pos c14] at H
                    have c14b0 := eq_true c14
                    have c14b1 : decide (x4_1 ≤ x5_1) = true := decide_eq_true c14
                    clear c14
                    have c15b0 := eq_true (of_decide_eq_true (by first | (with_reducible assumption) | assumption) : x5_1 ≤ (a0.size : Int))
                    by_cases c16 : x3_1.length < 8796093022208
                    · rw [if_pos c16] at H
                      have LMc16 := Aside0.mk c16
                      clear c16
                      obtain ⟨y179, hy179⟩ : ∃ y_ : List ByteArray, y_ = (x3_1 ++ [a0.extract (x4_1 : Int).toNat (x5_1 : Int).toNat]) := ⟨_, rfl⟩
                      replace H : (paymasterref09_Split.l0 k1 a0 y179 (wrap64 (x5_1 + 1)) (wrap64 (x5_1 + 1))) = some r := by first | (rw [hy179]; with_reducible exact H) | (have H2_ := (Option.bind_some _ _).symm.trans H; rw [hy179]; with_reducible exact H2_) | (have H2_ := (Option.bind_some _ _).symm.trans H; with_reducible exact H2_) | with_reducible exact H | (rw [hy179]; exact H) | exact H
                      have Ny179 := Aside0.mk hy179
                      clear hy179
                      have H' := Aside0.mk H
                      clear H
                      have p11 : 0 ≤ (x5_1 : Int) := of_decide_eq_true (by first | (with_reducible assumption) | assumption)
                      have q11 : x5_1 < (a0.size : Int) := of_decide_eq_true (by first | (with_reducible assumption) | assumption)
                      have hx11 := bt_at a0 x5_1
                      replace p11 := eq_true p11
                      replace q11 := eq_true q11
                      go_wp2_with (first | ((with_reducible refine gate_builtin (b := .append) (xs := #[.tmp 22, .tmp 27]) rfl ?_); at_builtin; refine Kd.R_append Kd.string (w0 := w) w.heap.size rfl (.tmp 22) (.tmp 27) 51 9 (.string ⟨#[]⟩) 16 rfl Tryd.underlying51 info9 rfl (by decide) (by omega) u3 x3_1 (a0.extract (x4_1 : Int).toNat (x5_1 : Int).toNat) [.string (a0.extract (x4_1 : Int).toNat (x5_1 : Int).toNat)] (fun _ => True) (fun _ => False) rfl rfl ?aP (fun _ hk => hk.elim) ?aF ?aO ?aB ?aS ?aL ?_; (case aP => exact rfl); (case aB => exact (by repeat (first | (with_reducible first | exact HB.out | apply below_alloc | apply pw_below_drewN | apply below_drew1) | exact HB.out))); (case aF => exact (fun _ _ => trivial)); (case aO => exact (by (with_reducible repeat (first | apply Kd.R_alloc | apply Kd.R_drewN | apply Kd.R_drew)); exact HO_3.out)); (case aS => exact (below_size (by repeat (first | (with_reducible first | exact HB.out | apply below_alloc | apply pw_below_drewN | apply below_drew1) | exact HB.out)))); (case aL => have := LMc16.out; omega); intro v180 w17 ho hb hg hat; rw [← Ny179.out] at ho; have n0_ := Aside0.mk (hb); have n1_ := Aside0.mk (ho); clear HB; clear HO_3; have HB := n0_; have HO181 := n1_; clear n0_ n1_; clear ho hb hg hat))
                      go_roundg k1
                      case measure => have := HK1.out; omega
                      case rel => exact ⟨(y179), (wrap64 (x5_1 + 1)), (wrap64 (x5_1 + 1)), (by first | rfl | (simp; done) | (simp [*]; done)), (by first | rfl | (simp; done) | (simp [*]; done)), H', ⟨by have := HK1.out; omega⟩, ⟨by (with_reducible repeat (first | apply Kd.R_alloc | apply Kd.R_drewN | apply Kd.R_drew)); exact HO181.out⟩, ⟨by repeat (first | (with_reducible first | exact HB.out | apply below_alloc | apply pw_below_drewN | apply below_drew1) | exact HB.out)⟩⟩
                    · rw [if_neg c16] at H
                      exact absurd H (by simp)
                  · rw [if_neg c14] at H
                    exact absurd H (by simp)
                · rw [if_neg c13] at H
                  exact absurd H (by simp)
              · rw [if_neg c12] at H
                have c12b0 : ((bt a0 x5_1) == 10) = false := beq_eq_false_iff_ne.mpr c12
                have c12b1 : ((bt a0 x5_1) != 10) = true := bne_iff_ne.mpr c12
                have H' := Aside0.mk H
                clear H
                have p11 : 0 ≤ (x5_1 : Int) := of_decide_eq_true (by first | (with_reducible assumption) | assumption)
                have q11 : x5_1 < (a0.size : Int) := of_decide_eq_true (by first | (with_reducible assumption) | assumption)
                have hx11 := bt_at a0 x5_1
                replace p11 := eq_true p11
                replace q11 := eq_true q11
                go_wp2
                go_roundg k1
                case measure => have := HK1.out; omega
                case rel => exact ⟨(x3_1), (x4_1), (wrap64 (x5_1 + 1)), (by first | rfl | (simp; done) | (simp [*]; done)), (by first | rfl | (simp; done) | (simp [*]; done)), H', ⟨by have := HK1.out; omega⟩, ⟨by (with_reducible repeat (first | apply Kd.R_alloc | apply Kd.R_drewN | apply Kd.R_drew)); exact HO_3.out⟩, ⟨by repeat (first | (with_reducible first | exact HB.out | apply below_alloc | apply pw_below_drewN | apply below_drew1) | exact HB.out)⟩⟩
            · rw [if_neg c10] at H
              exact absurd H (by simp)
          · rw [if_neg c9] at H
            exact absurd H (by simp)
      · rw [if_neg c2] at H
        have c2b0 : decide (x5_1 ≤ (a0.size : Int)) = false := decide_eq_false c2
        clear c2
        obtain rfl := Option.some.inj H
        go_wp2
        go_ret
        exact ⟨_, by first | rfl | (simp [errW_none, errW_some] <;> rfl) | (simp [*, errW_none, errW_some] <;> rfl), by (with_reducible repeat (first | apply Kd.R_alloc | apply Kd.R_drewN | apply Kd.R_drew)); exact HO_3.out, by repeat (first | (with_reducible first | exact HB.out | apply below_alloc | apply pw_below_drewN | apply below_drew1) | exact HB.out)⟩
def paymasterref09_Kind.f (a0 : ByteArray) : Option (Int) := if (a0.size : Int) = 0 then (some 0) else (if 0 < (a0.size : Int) then (if (bt a0 0) = 35 then (some 1) else (some 2)) else (none))
set_option maxHeartbeats 8000000 in
set_option maxRecDepth 100000 in
theorem paymasterref09_Kind.calls (a0 : ByteArray) (r : Int) (w : World) (h : paymasterref09_Kind.f a0 = some r) :
    Calls Tryd.prog 35 #[.string a0] w fun e w' => e = .returned (.int .u8 r) ∧ Drawn0 w w' := by
  have H : (if (a0.size : Int) = 0 then (some 0) else (if 0 < (a0.size : Int) then (if (bt a0 0) = 35 then (some 1) else (some 2)) else (none))) = some r := h
  clear h
  by_cases c2 : (a0.size : Int) = 0
  · rw [if_pos c2] at H
    have c2b0 : ((a0.size : Int) == 0) = true := beq_iff_eq.mpr c2
    have c2b1 : ((a0.size : Int) != 0) = false := bne_eq_false_iff_eq.mpr c2
    clear c2
    obtain rfl := Option.some.inj H
    go_enter Tryd.func35, Tryd.ntmps35
    go_wp2
    go_ret
    exact ⟨by first | rfl | (simp; done) | (simp [*]; done), by repeat (first | exact Drawn0.refl _ | apply Drawn0.step)⟩
  · rw [if_neg c2] at H
    have c2b0 : ((a0.size : Int) == 0) = false := beq_eq_false_iff_ne.mpr c2
    have c2b1 : ((a0.size : Int) != 0) = true := bne_iff_ne.mpr c2
    by_cases c3 : 0 < (a0.size : Int)
    · rw [if_pos c3] at H
      have c3b0 : decide (0 < (a0.size : Int)) = true := decide_eq_true c3
      have c3b1 : decide (0 < a0.size) = true := decide_eq_true (by omega)
      clear c3
      by_cases c5 : (bt a0 0) = 35
      · rw [if_pos c5] at H
        have c5b0 : ((bt a0 0) == 35) = true := beq_iff_eq.mpr c5
        have c5b1 : ((bt a0 0) != 35) = false := bne_eq_false_iff_eq.mpr c5
        clear c5
        obtain rfl := Option.some.inj H
        have p4 : 0 ≤ (0 : Int) := (by omega)
        have q4 : 0 < a0.size := (by have : (0 : Int) < (a0.size : Int) := of_decide_eq_true (by first | (with_reducible assumption) | assumption); omega)
        have hx4 : ∀ h : 0 < a0.size, ((a0[0]'h).toNat : Int) = bt a0 0 := bt_at a0 0
        clear p4
        have qi4 : (0 < (a0.size : Int)) = True := eq_true (of_decide_eq_true (by first | (with_reducible assumption) | assumption))
        replace q4 := eq_true q4
        go_enter Tryd.func35, Tryd.ntmps35
        go_wp2
        go_ret
        exact ⟨by first | rfl | (simp; done) | (simp [*]; done), by repeat (first | exact Drawn0.refl _ | apply Drawn0.step)⟩
      · rw [if_neg c5] at H
        have c5b0 : ((bt a0 0) == 35) = false := beq_eq_false_iff_ne.mpr c5
        have c5b1 : ((bt a0 0) != 35) = true := bne_iff_ne.mpr c5
        obtain rfl := Option.some.inj H
        have p4 : 0 ≤ (0 : Int) := (by omega)
        have q4 : 0 < a0.size := (by have : (0 : Int) < (a0.size : Int) := of_decide_eq_true (by first | (with_reducible assumption) | assumption); omega)
        have hx4 : ∀ h : 0 < a0.size, ((a0[0]'h).toNat : Int) = bt a0 0 := bt_at a0 0
        clear p4
        have qi4 : (0 < (a0.size : Int)) = True := eq_true (of_decide_eq_true (by first | (with_reducible assumption) | assumption))
        replace q4 := eq_true q4
        go_enter Tryd.func35, Tryd.ntmps35
        go_wp2
        go_ret
        exact ⟨by first | rfl | (simp; done) | (simp [*]; done), by repeat (first | exact Drawn0.refl _ | apply Drawn0.step)⟩
    · rw [if_neg c3] at H
      exact absurd H (by simp)
end Go.Proofs.YtpkjpiphjdpegaaDoor.P
namespace Go.Proofs.YtpkjpiphjdpegaaDoor.P
open Go.RowKit Go.Proofs.YtpkjpiphjdpegaaDoorW.PrintWords Go.Proofs.YtpkjpiphjdpegaaDoorW.PrintLast Go.Proofs.YtpkjpiphjdpegaaDoorW.PrintMore
set_option linter.unusedVariables false
set_option linter.unusedSimpArgs false
theorem valid_at (s : ByteArray) (p : Nat) (hp : p < s.size) : Lib.validD (s.data.toList.drop p) = if badAt s p then false else Lib.validD (s.data.toList.drop (p + (Utf8.decode s p).2)) := by
  have hl : s.data.toList.length = s.size := by simp
  rw [Lib.validD_step _ (by intro e; have := congrArg List.length e; rw [List.length_drop, hl] at this; simp at this; omega), Lib.decodeL_drop, List.drop_drop]
theorem valid_end (s : ByteArray) (p : Nat) (hp : ¬ p < s.size) : Lib.validD (s.data.toList.drop p) = true := by
  have hl : s.data.toList.length = s.size := by simp
  rw [List.drop_eq_nil_of_le (by rw [hl]; omega), Lib.validD_nil]
theorem wide_4 (s : ByteArray) (p : Nat) : (Utf8.decode s p).2 ≤ 4 := by
  rw [dec_is]
  repeat' split
  all_goals simp
theorem refRunes_loop (s : ByteArray) (hs : s.size ≤ 1000000000) : ∀ (n p : Nat) (x : List Int), s.size ≤ p + n → x.length ≤ p → p ≤ s.size + 4 →
    paymasterref09_Runes.l0 (n + 11) s x p = some (if Lib.validD (s.data.toList.drop p) = true then (x ++ runesAt s n p, 0) else ([], 90))
  | n, p, x, h, hx, hp4 => by
    by_cases hp : p < s.size
    · obtain ⟨m, rfl⟩ : ∃ m, n = m + 1 := ⟨n - 1, by omega⟩
      have w1 := wide_pos s p hp
      have w4 := wide_4 s p
      have r1 := Lib.rune_le s p
      rw [paymasterref09_Runes.l0, if_pos (by omega), show m + 11 = (m + 1) + 10 from rfl, rune_is (m + 1) s p hp hs, Option.bind_some, runeR_is, valid_at s p hp]
      by_cases b : badAt s p
      · have e : decR (Utf8.decode s p) = (0, 0) := by unfold decR; rw [if_pos b]
        rw [e, if_pos b, if_pos rfl, if_neg (by decide)]
      · have e : decR (Utf8.decode s p) = (((Utf8.decode s p).1 : Int), ((Utf8.decode s p).2 : Int)) := by unfold decR; rw [if_neg b]
        rw [e, if_neg b, if_neg (show ¬ (((Utf8.decode s p).2 : Nat) : Int) = 0 by omega), if_pos (by omega)]
        have wr : wrap32 (((Utf8.decode s p).1 : Nat) : Int) = (((Utf8.decode s p).1 : Nat) : Int) := by unfold wrap32; omega
        have wp : wrap64 ((p : Int) + (((Utf8.decode s p).2 : Nat) : Int)) = ((p + (Utf8.decode s p).2 : Nat) : Int) := by rw [wrap64_in _ (by omega)]; push_cast; rfl
        rw [wr, wp, show m + 1 + 10 = m + 11 by omega, refRunes_loop s hs m (p + (Utf8.decode s p).2) (x ++ [(((Utf8.decode s p).1 : Nat) : Int)]) (by omega) (by simp; omega) (by omega)]
        rw [runesAt, if_pos hp, List.append_assoc]
        rfl
    · rw [paymasterref09_Runes.l0, if_neg (by omega), valid_end s p hp, if_pos rfl, runesAt_end s n p hp, List.append_nil]
theorem refRunes_is (s : ByteArray) (hs : s.size ≤ 1000000000) : paymasterref09_Runes.f (s.size + 11) s = some (if Lib.validD s.data.toList = true then (runesAt s s.size 0, 0) else ([], 90)) := by
  have := refRunes_loop s hs s.size 0 [] (by omega) (Nat.le_refl _) (by omega)
  unfold paymasterref09_Runes.f
  rw [show (((0 : Nat) : Int)) = 0 from rfl] at this
  rw [this]
  rfl
def enc (c : Int) : List Int := nb (Utf8.encode c)
end Go.Proofs.YtpkjpiphjdpegaaDoor.P
namespace Go.Proofs.YtpkjpiphjdpegaaDoor.P
open Go.RowKit Go.Proofs.YtpkjpiphjdpegaaDoorW.PrintWords Go.Proofs.YtpkjpiphjdpegaaDoorW.PrintLast Go.Proofs.YtpkjpiphjdpegaaDoorW.PrintMore
set_option linter.unusedVariables false
set_option linter.unusedSimpArgs false
theorem up {β : Type} {F : Nat → Option β} (m : ∀ k, LeO (F k) (F (k + 1))) {a : Nat} {r : β} (h : F a = some r) : ∀ b, a ≤ b → F b = some r := by
  intro b hb
  induction b with
  | zero =>
    obtain rfl : a = 0 := by omega
    exact h
  | succ b ih =>
    by_cases e : a = b + 1
    · rw [← e]; exact h
    · exact m b r (ih (by omega))
theorem refRunes_up (s : ByteArray) (hs : s.size ≤ 1000000000) (k : Nat) (hk : s.size + 11 ≤ k) : paymasterref09_Runes.f k s = some (if Lib.validD s.data.toList = true then (runesAt s s.size 0, 0) else ([], 90)) :=
  up (F := fun k => paymasterref09_Runes.f k s) (paymasterref09_Runes.mono s) (refRunes_is s hs) k hk
end Go.Proofs.YtpkjpiphjdpegaaDoor.P
