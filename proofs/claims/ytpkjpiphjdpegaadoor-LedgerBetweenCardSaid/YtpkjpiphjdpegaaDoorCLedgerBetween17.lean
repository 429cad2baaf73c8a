/- A program of this session wrote this text out of the session's own texts. (part 17 of 46) -/
import Derived.Test.YtpkjpiphjdpegaaDoorCLedgerBetween4
import Derived.Test.YtpkjpiphjdpegaaDoorCLedgerBetween7
import Derived.Test.YtpkjpiphjdpegaaDoorCLedgerBetween16
import Derived.Lib.OthersKept
import Derived.Laws.Cover4
import Derived.Lib.ValidLaws
import Derived.Lib.TrimUEq
namespace Go.Proofs.YtpkjpiphjdpegaaDoor.P
open Go.RowKit Go.Proofs.YtpkjpiphjdpegaaDoorW.PrintWords Go.Proofs.YtpkjpiphjdpegaaDoorW.PrintLast Go.Proofs.YtpkjpiphjdpegaaDoorW.PrintMore
set_option linter.unusedVariables false
set_option linter.unusedSimpArgs false
def runesAt (s : ByteArray) : Nat → Nat → List Int
  | 0, _ => []
  | n + 1, p => if p < s.size then ((Utf8.decode s p).1 : Int) :: runesAt s n (p + (Utf8.decode s p).2) else []
theorem runesAt_end (s : ByteArray) (n p : Nat) (h : ¬ p < s.size) : runesAt s n p = [] := by
  cases n with
  | zero => rfl
  | succ n => rw [runesAt, if_neg h]
def lines_Runes.f (a0 : ByteArray) : Option (List Int × Int) :=
  if a0.size ≤ 1000000000 then some (if Lib.validD a0.data.toList = true then (runesAt a0 a0.size 0, 0) else ([], 90)) else none
theorem wide_pos (s : ByteArray) (pos : Nat) (h : pos < s.size) : 1 ≤ (Utf8.decode s pos).2 := by
  by_cases ha : (s[pos]'h).toNat < 128
  · rw [decode_ascii s pos h ha]
    exact Nat.le_refl _
  · exact (decode_high s pos h (by omega)).2
theorem iter_grown (w : World) (k : Nat) (s : ByteArray) (p : Nat) : w.grownBy (w.iterAt k s p) (some k) :=
  ⟨rfl, rfl, rfl, by rw [Lib.iterAt_size]; exact Nat.le_refl _, fun j hj hk => Lib.iterAt_other w k j s p (fun e => hk (by rw [e]))⟩
set_option maxHeartbeats 8000000 in
set_option maxRecDepth 100000 in
theorem lines_Runes.calls (a0 : ByteArray) (r1 : List Int) (r2 : Int) (w : World) (hG : GT w) (h : lines_Runes.f a0 = some (r1, r2)) :
    Calls Tryd.prog 20 #[.string a0] w fun e w' => ∃ v0_ : Value, e = .returned (.tuple #[v0_, .int .i64 r2]) ∧ Kd.R (Kd.int .i32) 21 w' w.heap.size (fun _ => True) v0_ r1 ∧ Below w.heap.size w w' := by
  have hs : a0.size ≤ 1000000000 := by
    unfold lines_Runes.f at h
    split at h
    · assumption
    · cases h
  unfold lines_Runes.f at h
  rw [if_pos hs] at h
  have V := valid_is a0 w (by omega) hG
  by_cases b : Lib.validD a0.data.toList = true
  · rw [if_pos b] at h
    cases h
    rw [b] at V
    go_enter Tryd.func20, Tryd.ntmps20
    go_wp2_with (first | (go_at_call 58; (with_reducible refine V.mono ?_); rintro e W1 ⟨rfl, hb1⟩))
    have hwib : w.heap.size ≤ W1.heap.size := hb1.size
    go_loopg [4] a0.size (fun gk v4 wr => ∃ (x4 : List Int) (p : Nat), Aside0 (x4 ++ runesAt a0 gk p = runesAt a0 a0.size 0 ∧ x4.length ≤ p ∧ a0.size ≤ p + gk) ∧ wr.heap[W1.heap.size]? = some (.stringIter a0 p) ∧ Aside0 (Kd.R (Kd.int .i32) 21 wr w.heap.size (fun _ => True) v4 x4) ∧ Aside0 (Below w.heap.size w wr))
    case atStart =>
      refine ⟨[], 0, ⟨rfl, Nat.le_refl _, by omega⟩, ?_, ⟨Kd.R_nil _ _ _ _ _⟩, ⟨?_⟩⟩
      · exact World.iter_heap W1 a0 0
      · exact below_alloc hb1 _
    case round =>
      obtain ⟨x4, p, HX, hit, HO, HB⟩ := hrel
      have hlt : W1.heap.size < wr.heap.size := (Array.getElem?_eq_some_iff.1 hit).1
      by_cases hp : p < a0.size
      · have hnx : ∀ ty, (Instr.next (.pointer (some ⟨W1.heap.size, 0, none⟩)) true ty).run Tryd.prog wr = _ := fun ty => Lib.run_next_any_at wr W1.heap.size a0 p ty hit hp
        have hwd := wide_pos a0 p hp
        obtain ⟨k1, rfl⟩ : ∃ k1, gk = k1 + 1 := ⟨gk - 1, by have := HX.out.2.2; omega⟩
        have hne : some W1.heap.size ≠ u4.ownBlock := fun e => by
          obtain ⟨cells, hc⟩ := Kd.R_typed HO.out W1.heap.size e.symm
          rw [hit] at hc
          cases hc
        obtain ⟨W2, hW2⟩ : ∃ W2, wr.iterAt W1.heap.size a0 (p + (Utf8.decode a0 p).2) = W2 := ⟨_, rfl⟩
        have HO2 : Aside0 (Kd.R (Kd.int .i32) 21 W2 w.heap.size (fun _ => True) u4 x4) := ⟨by rw [← hW2]; exact Kd.R_grown2 HO.out rfl (iter_grown wr W1.heap.size a0 _) (fun k e => by cases e; exact hne)⟩
        have HB2 : Aside0 (Below w.heap.size w W2) := ⟨by rw [← hW2]; exact Lib.below_iterAt HB.out hwib a0 _⟩
        have hit2 : W2.heap[W1.heap.size]? = some (.stringIter a0 (p + (Utf8.decode a0 p).2)) := by rw [← hW2]; exact Lib.iterAt_heap wr W1.heap.size a0 p _ hit
        rw [hW2] at hnx
        have hx : x4.length ≤ 1000000000 := by have := HX.out.2.1; omega
        go_wp2_with (first | ((with_reducible refine gate_builtin (b := .append) (xs := #[.tmp 15, .tmp 17]) rfl ?_); at_builtin; refine Kd.R_append (Kd.int .i32) (w0 := w) w.heap.size rfl (.tmp 15) (.tmp 17) 22 21 (.int .i32 0) 4 rfl Tryd.underlying22 info21 rfl (by decide) (by omega) u4 x4 ((Utf8.decode a0 p).1 : Int) [.int .i32 ((Utf8.decode a0 p).1 : Int)] (fun _ => True) (fun _ => False) rfl rfl ?aP (fun _ hk => hk.elim) ?aF ?aO ?aB ?aS ?aL ?_; (case aP => exact rfl); (case aB => exact HB2.out); (case aF => exact (fun _ _ => trivial)); (case aO => exact HO2.out); (case aS => exact (below_size HB2.out)); (case aL => omega); intro v111 w6 ho hb hg hat))
        go_roundg k1
        case measure => omega
        case rel =>
          refine ⟨x4 ++ [((Utf8.decode a0 p).1 : Int)], p + (Utf8.decode a0 p).2, ⟨?_, ?_, ?_⟩, ?_, ⟨ho⟩, ⟨hb⟩⟩
          · rw [← HX.out.1, runesAt, if_pos hp, List.append_assoc]; rfl
          · have := HX.out.2.1; simp; omega
          · have := HX.out.2.2; omega
          · rw [hg.block W1.heap.size (by have := (Array.getElem?_eq_some_iff.1 hit2).1; exact this) hne]; exact hit2
      · have hnx : ∀ ty, (Instr.next (.pointer (some ⟨W1.heap.size, 0, none⟩)) true ty).run Tryd.prog wr = _ := fun ty => Lib.run_next_end_at wr W1.heap.size a0 p ty hit hp
        have e : x4 = runesAt a0 a0.size 0 := by have := HX.out.1; rw [runesAt_end a0 gk p hp, List.append_nil] at this; exact this
        go_wp2
        go_ret2
        exact ⟨_, rfl, by rw [← e]; exact HO.out, HB.out⟩
  · have b : Lib.validD a0.data.toList = false := by simpa using b
    rw [if_neg (by rw [b]; decide)] at h
    cases h
    rw [b] at V
    go_enter Tryd.func20, Tryd.ntmps20
    go_wp2_with (first | (go_at_call 58; (with_reducible refine V.mono ?_); rintro e W1 ⟨rfl, hb1⟩))
    go_ret2
    exact ⟨_, rfl, Kd.R_nil _ _ _ _ _, hb1⟩
theorem cell_lt {w : World} {a : Addr} {v : Value} (h : w.cell? a = some v) : a.block < w.heap.size ∧ a.spot = none := by
  unfold World.cell? at h
  split at h
  · rename_i c _ _ e
    refine ⟨(Array.getElem?_eq_some_iff.1 e).1, ?_⟩
    by_cases q : a.spot.isSome = true
    · rw [if_pos q] at h; cases h
    · simpa using q
  · cases h
def oddR (c : Int) : Bool := !Lib.validRune c
end Go.Proofs.YtpkjpiphjdpegaaDoor.P
namespace Go.Proofs.YtpkjpiphjdpegaaDoor.P
open Go.RowKit Go.Proofs.YtpkjpiphjdpegaaDoorW.PrintWords Go.Proofs.YtpkjpiphjdpegaaDoorW.PrintLast Go.Proofs.YtpkjpiphjdpegaaDoorW.PrintMore
set_option linter.unusedVariables false
set_option linter.unusedSimpArgs false
theorem valid_at (s : ByteArray) (p : Nat) (hp : p < s.size) : Lib.validD (s.data.toList.drop p) = if badAt s p then false else Lib.validD (s.data.toList.drop (p + (Utf8.decode s p).2)) := by
  have hl : s.data.toList.length = s.size := by simp
  rw [Lib.validD_step _ (by intro e; have := congrArg List.length e; rw [List.length_drop, hl] at this; simp at this; omega), Lib.decodeL_drop, List.drop_drop]
theorem wide_4 (s : ByteArray) (p : Nat) : (Utf8.decode s p).2 ≤ 4 := by
  rw [dec_is]
  repeat' split
  all_goals simp
def enc (c : Int) : List Int := nb (Utf8.encode c)
theorem odd_is (c : Int) : oddR c = decide (c < 0 ∨ c > 1114111 ∨ (c ≥ 55296 ∧ c < 57344)) := by
  unfold oddR Lib.validRune
  by_cases h : (0 ≤ c ∧ c < 0xD800) ∨ (0xDFFF < c ∧ c ≤ 0x10FFFF)
  · rw [decide_eq_true h, decide_eq_false (by omega)]; rfl
  · rw [decide_eq_false h, decide_eq_true (by omega)]; rfl
theorem nb_mk (a : Array UInt8) : nb ⟨a⟩ = a.toList.map fun x => (x.toNat : Int) := rfl
theorem byte_of (n : Nat) (h : n < 256) : (((UInt8.ofNat n).toNat : Nat) : Int) = (n : Int) := by
  rw [UInt8.toNat_ofNat_of_lt' (by show n < 256; exact h)]
theorem enc_1 (c : Nat) (h : c < 128) : enc (c : Int) = [(c : Int)] := by
  unfold enc Utf8.encode
  have v : Utf8.valid (c : Int) = true := by unfold Utf8.valid; simp; omega
  simp only [v, if_true, Int.toNat_natCast]
  rw [if_pos h, nb_mk]
  simp only [List.map_cons, List.map_nil]
  rw [byte_of _ (by omega)]
theorem enc_2 (c : Nat) (h0 : 128 ≤ c) (h : c < 2048) : enc (c : Int) = [((192 + c / 64 : Nat) : Int), ((128 + c % 64 : Nat) : Int)] := by
  unfold enc Utf8.encode
  have v : Utf8.valid (c : Int) = true := by unfold Utf8.valid; simp; omega
  simp only [v, if_true, Int.toNat_natCast]
  rw [if_neg (by omega), if_pos h, nb_mk]
  simp only [List.map_cons, List.map_nil]
  rw [byte_of _ (by omega), byte_of _ (by omega)]
theorem enc_3 (c : Nat) (h0 : 2048 ≤ c) (h : c < 65536) (hv : ¬ (c ≥ 55296 ∧ c < 57344)) : enc (c : Int) = [((224 + c / 4096 : Nat) : Int), ((128 + c / 64 % 64 : Nat) : Int), ((128 + c % 64 : Nat) : Int)] := by
  unfold enc Utf8.encode
  have v : Utf8.valid (c : Int) = true := by unfold Utf8.valid; simp; omega
  simp only [v, if_true, Int.toNat_natCast]
  rw [if_neg (by omega), if_neg (by omega), if_pos h, nb_mk]
  simp only [List.map_cons, List.map_nil]
  rw [byte_of _ (by omega), byte_of _ (by omega), byte_of _ (by omega)]
theorem enc_4 (c : Nat) (h0 : 65536 ≤ c) (h : c ≤ 1114111) : enc (c : Int) = [((240 + c / 262144 : Nat) : Int), ((128 + c / 4096 % 64 : Nat) : Int), ((128 + c / 64 % 64 : Nat) : Int), ((128 + c % 64 : Nat) : Int)] := by
  unfold enc Utf8.encode
  have v : Utf8.valid (c : Int) = true := by unfold Utf8.valid; simp; omega
  simp only [v, if_true, Int.toNat_natCast]
  rw [if_neg (by omega), if_neg (by omega), if_neg (by omega), nb_mk]
  simp only [List.map_cons, List.map_nil]
  rw [byte_of _ (by omega), byte_of _ (by omega), byte_of _ (by omega), byte_of _ (by omega)]
theorem enc_len (c : Int) : (enc c).length ≤ 4 := by
  unfold enc
  rw [nb_length]
  exact encode_size_le c
end Go.Proofs.YtpkjpiphjdpegaaDoor.P
namespace Go.Proofs.YtpkjpiphjdpegaaDoor.P
open Go.RowKit Go.Proofs.YtpkjpiphjdpegaaDoorW.PrintWords Go.Proofs.YtpkjpiphjdpegaaDoorW.PrintLast Go.Proofs.YtpkjpiphjdpegaaDoorW.PrintMore
set_option linter.unusedVariables false
set_option linter.unusedSimpArgs false
theorem up {β : Type} {F : Nat → Option β} (m : ∀ k, LeO (F k) (F (k + 1))) {a : Nat} {r : β} (h : F a = some r) : ∀ b, a ≤ b → F b = some r := by
  intro b hb
  induction b with
  | zero =>
    obtain rfl : a = 0 := by omega
    exact h
  | succ b ih =>
    by_cases e : a = b + 1
    · rw [← e]; exact h
    · exact m b r (ih (by omega))
end Go.Proofs.YtpkjpiphjdpegaaDoor.P
namespace Go.Proofs.YtpkjpiphjdpegaaDoor.P
open Go.RowKit Go.Proofs.YtpkjpiphjdpegaaDoorW.PrintWords Go.Proofs.YtpkjpiphjdpegaaDoorW.PrintLast Go.Proofs.YtpkjpiphjdpegaaDoorW.PrintMore
set_option linter.unusedVariables false
set_option linter.unusedSimpArgs false
theorem nb_at (s : ByteArray) (p : Nat) (h : p < s.size) : (nb s).drop p = (nbAt s p : Int) :: (nb s).drop (p + 1) := by
  have hl : p < (nb s).length := by rw [nb_length]; exact h
  rw [List.drop_eq_getElem_cons hl]
  congr 1
  rw [← bt_nbAt s p h, bt_nb, List.getD_eq_getElem?_getD, List.getElem?_eq_getElem hl]
  rfl
theorem cont_is (s : ByteArray) (p : Nat) (h : contAt s p = true) : p < s.size ∧ nbAt s p / 64 = 2 := by
  unfold contAt at h
  simpa using h
theorem odd_false (c : Int) (h : ¬ (c < 0 ∨ c > 1114111 ∨ (c ≥ 55296 ∧ c < 57344))) : oddR c = false := by rw [odd_is, decide_eq_false h]
theorem valid_is' (c : Nat) (h : Utf8.valid (c : Int) = true) : c < 55296 ∨ (57344 ≤ c ∧ c ≤ 1114111) := by
  unfold Utf8.valid at h
  simp at h
  omega
def GoodStep (s : ByteArray) (p : Nat) (d : Nat × Nat) : Prop :=
  oddR (d.1 : Int) = false ∧ (nb s).drop p = enc (d.1 : Int) ++ (nb s).drop (p + d.2) ∧ (enc (d.1 : Int)).length = d.2
set_option maxRecDepth 10000 in
theorem dec_good (s : ByteArray) (p : Nat) (hp : p < s.size) (hb : ¬ badAt s p) : GoodStep s p (Utf8.decode s p) := by
  unfold badAt at hb
  have hlt := nbAt_lt s p
  have n1 := nbAt_lt s (p + 1); have n2 := nbAt_lt s (p + 2); have n3 := nbAt_lt s (p + 3)
  have d0 := nb_at s p hp
  rw [dec_is] at hb ⊢
  by_cases c1 : nbAt s p < 0x80
  · rw [if_pos c1]
    exact ⟨odd_false _ (by simp; omega), by rw [enc_1 _ c1, d0]; rfl, by rw [enc_1 _ c1]; rfl⟩
  · rw [if_neg c1] at hb ⊢
    by_cases c2 : (nbAt s p / 32 == 6 && contAt s (p + 1)) = true
    · rw [if_pos c2] at hb ⊢
      simp only [Bool.and_eq_true, beq_iff_eq] at c2
      obtain ⟨c2, q1⟩ := c2
      obtain ⟨l1, e1⟩ := cont_is s _ q1
      have d1 := nb_at s (p + 1) l1
      by_cases c3 : (nbAt s p % 32) * 64 + nbAt s (p + 1) % 64 ≥ 0x80
      · rw [if_pos c3]
        have e := enc_2 ((nbAt s p % 32) * 64 + nbAt s (p + 1) % 64) c3 (by omega)
        refine ⟨odd_false _ (by simp; omega), ?_, by rw [e]; rfl⟩
        rw [e, d0, d1]
        rw [show 192 + ((nbAt s p % 32) * 64 + nbAt s (p + 1) % 64) / 64 = nbAt s p by omega, show 128 + ((nbAt s p % 32) * 64 + nbAt s (p + 1) % 64) % 64 = nbAt s (p + 1) by omega]
        rfl
      · rw [if_neg c3] at hb
        exact absurd ⟨rfl, rfl⟩ hb
    · rw [if_neg c2] at hb ⊢
      by_cases c4 : (nbAt s p / 16 == 14 && contAt s (p + 1) && contAt s (p + 2)) = true
      · rw [if_pos c4] at hb ⊢
        simp only [Bool.and_eq_true, beq_iff_eq] at c4
        obtain ⟨⟨c4, q1⟩, q2⟩ := c4
        obtain ⟨l1, e1⟩ := cont_is s _ q1
        obtain ⟨l2, e2⟩ := cont_is s _ q2
        have d1 := nb_at s (p + 1) l1
        have d2 := nb_at s (p + 2) l2
        by_cases c5 : (decide ((nbAt s p % 16) * 4096 + (nbAt s (p + 1) % 64) * 64 + nbAt s (p + 2) % 64 ≥ 0x800) && Utf8.valid (((nbAt s p % 16) * 4096 + (nbAt s (p + 1) % 64) * 64 + nbAt s (p + 2) % 64 : Nat) : Int)) = true
        · rw [if_pos c5]
          simp only [Bool.and_eq_true, decide_eq_true_eq] at c5
          obtain ⟨c5, hv⟩ := c5
          have hv := valid_is' _ hv
          have e := enc_3 ((nbAt s p % 16) * 4096 + (nbAt s (p + 1) % 64) * 64 + nbAt s (p + 2) % 64) c5 (by omega) (by omega)
          refine ⟨odd_false _ (by simp; omega), ?_, by rw [e]; rfl⟩
          rw [e, d0, d1, d2]
          rw [show 224 + ((nbAt s p % 16) * 4096 + (nbAt s (p + 1) % 64) * 64 + nbAt s (p + 2) % 64) / 4096 = nbAt s p by omega, show 128 + ((nbAt s p % 16) * 4096 + (nbAt s (p + 1) % 64) * 64 + nbAt s (p + 2) % 64) / 64 % 64 = nbAt s (p + 1) by omega,
            show 128 + ((nbAt s p % 16) * 4096 + (nbAt s (p + 1) % 64) * 64 + nbAt s (p + 2) % 64) % 64 = nbAt s (p + 2) by omega]
          rfl
        · rw [if_neg c5] at hb
          exact absurd ⟨rfl, rfl⟩ hb
      · rw [if_neg c4] at hb ⊢
        by_cases c6 : (nbAt s p / 8 == 30 && contAt s (p + 1) && contAt s (p + 2) && contAt s (p + 3)) = true
        · rw [if_pos c6] at hb ⊢
          simp only [Bool.and_eq_true, beq_iff_eq] at c6
          obtain ⟨⟨⟨c6, q1⟩, q2⟩, q3⟩ := c6
          obtain ⟨l1, e1⟩ := cont_is s _ q1
          obtain ⟨l2, e2⟩ := cont_is s _ q2
          obtain ⟨l3, e3⟩ := cont_is s _ q3
          have d1 := nb_at s (p + 1) l1
          have d2 := nb_at s (p + 2) l2
          have d3 := nb_at s (p + 3) l3
          by_cases c7 : (decide ((nbAt s p % 8) * 262144 + (nbAt s (p + 1) % 64) * 4096 + (nbAt s (p + 2) % 64) * 64 + nbAt s (p + 3) % 64 ≥ 0x10000) && Utf8.valid (((nbAt s p % 8) * 262144 + (nbAt s (p + 1) % 64) * 4096 + (nbAt s (p + 2) % 64) * 64 + nbAt s (p + 3) % 64 : Nat) : Int)) = true
          · rw [if_pos c7]
            simp only [Bool.and_eq_true, decide_eq_true_eq] at c7
            obtain ⟨c7, hv⟩ := c7
            have hv := valid_is' _ hv
            have e := enc_4 ((nbAt s p % 8) * 262144 + (nbAt s (p + 1) % 64) * 4096 + (nbAt s (p + 2) % 64) * 64 + nbAt s (p + 3) % 64) c7 (by omega)
            refine ⟨odd_false _ (by simp; omega), ?_, by rw [e]; rfl⟩
            rw [e, d0, d1, d2, d3]
            rw [show 240 + ((nbAt s p % 8) * 262144 + (nbAt s (p + 1) % 64) * 4096 + (nbAt s (p + 2) % 64) * 64 + nbAt s (p + 3) % 64) / 262144 = nbAt s p by omega, show 128 + ((nbAt s p % 8) * 262144 + (nbAt s (p + 1) % 64) * 4096 + (nbAt s (p + 2) % 64) * 64 + nbAt s (p + 3) % 64) / 4096 % 64 = nbAt s (p + 1) by omega,
              show 128 + ((nbAt s p % 8) * 262144 + (nbAt s (p + 1) % 64) * 4096 + (nbAt s (p + 2) % 64) * 64 + nbAt s (p + 3) % 64) / 64 % 64 = nbAt s (p + 2) by omega, show 128 + ((nbAt s p % 8) * 262144 + (nbAt s (p + 1) % 64) * 4096 + (nbAt s (p + 2) % 64) * 64 + nbAt s (p + 3) % 64) % 64 = nbAt s (p + 3) by omega]
            rfl
          · rw [if_neg c7] at hb
            exact absurd ⟨rfl, rfl⟩ hb
        · rw [if_neg c6] at hb
          exact absurd ⟨rfl, rfl⟩ hb
theorem runes_enc (s : ByteArray) : ∀ (n p : Nat), s.size ≤ p + n → Lib.validD (s.data.toList.drop p) = true → (runesAt s n p).any oddR = false ∧ (runesAt s n p).flatMap enc = (nb s).drop p ∧ (runesAt s n p).length ≤ s.size - p ∧ s.size - p ≤ 4 * (runesAt s n p).length := by
  intro n
  induction n with
  | zero =>
    intro p h hv
    have : (nb s).drop p = [] := List.drop_eq_nil_of_le (by rw [nb_length]; omega)
    rw [this]
    exact ⟨rfl, rfl, by simp [runesAt], by simp [runesAt]; omega⟩
  | succ n ih =>
    intro p h hv
    by_cases hp : p < s.size
    · rw [valid_at s p hp] at hv
      by_cases hb : badAt s p
      · rw [if_pos hb] at hv; cases hv
      · rw [if_neg hb] at hv
        obtain ⟨g1, g2, g3⟩ := dec_good s p hp hb
        have w1 := wide_pos s p hp
        have w4 := wide_4 s p
        obtain ⟨i1, i2, i3, i4⟩ := ih (p + (Utf8.decode s p).2) (by omega) hv
        have hsz : p + (Utf8.decode s p).2 ≤ s.size := by
          have := congrArg List.length g2
          rw [List.length_drop, List.length_append, List.length_drop, nb_length, g3] at this
          omega
        rw [runesAt, if_pos hp]
        refine ⟨by rw [List.any_cons, g1, i1]; rfl, by rw [List.flatMap_cons, i2, ← g2], by simp; omega, by simp; omega⟩
    · have : (nb s).drop p = [] := List.drop_eq_nil_of_le (by rw [nb_length]; omega)
      rw [this, runesAt_end s _ p hp]
      exact ⟨rfl, rfl, by simp, by simp; omega⟩
theorem enc_ne (c : Nat) (ho : oddR (c : Int) = false) : (enc (c : Int)).length ≥ 1 ∧ ((enc (c : Int)).length = 1 → c < 128) := by
  have hv : ¬ ((c : Int) < 0 ∨ (c : Int) > 1114111 ∨ ((c : Int) ≥ 55296 ∧ (c : Int) < 57344)) := by
    rw [odd_is] at ho; simpa using ho
  by_cases c1 : c < 128
  · rw [enc_1 c c1]; exact ⟨by simp, fun _ => c1⟩
  · by_cases c2 : c < 2048
    · rw [enc_2 c (by omega) c2]; exact ⟨by simp, fun h => by simp at h⟩
    · by_cases c3 : c < 65536
      · rw [enc_3 c (by omega) c3 (by omega)]; exact ⟨by simp, fun h => by simp at h⟩
      · rw [enc_4 c (by omega) (by omega)]; exact ⟨by simp, fun h => by simp at h⟩
end Go.Proofs.YtpkjpiphjdpegaaDoor.P
