/- A program of this session wrote this text out of the session's own texts. (part 22 of 45) -/
import Derived.Test.YtpkjpiphjdpegaaDoorCLedgerImportsQ
import Derived.Test.YtpkjpiphjdpegaaDoorCLedgerImports4
import Derived.Test.YtpkjpiphjdpegaaDoorCLedgerImports20
import Derived.Test.YtpkjpiphjdpegaaDoorCLedgerImports21
import Derived.Lib.IndexLaws
namespace Go.Proofs.YtpkjpiphjdpegaaDoor.P
open Go.RowKit Go.Proofs.YtpkjpiphjdpegaaDoorW.PrintWords Go.Proofs.YtpkjpiphjdpegaaDoorW.PrintLast Go.Proofs.YtpkjpiphjdpegaaDoorW.PrintMore
attribute [local go_sem] max2_int min2_int max_two min_two max_three min_three max_four min_four
set_option linter.unusedVariables false
set_option linter.unusedSimpArgs false
def stringslite_Index.f (s sub : ByteArray) : Option Int := if sub.data.toList.length = 1 then some (Lib.indexByte s.data.toList (sub.data.toList.getD 0 0)) else none
theorem stringslite_Index.calls (a0 : ByteArray) (a1 : ByteArray) (r : Int) (w : World) (h : stringslite_Index.f a0 a1 = some r) :
  Calls Tryd.prog 125 #[.string a0, .string a1] w fun e w' => e = .returned (.int .i64 r) ∧ Below w.heap.size w w' := by
 unfold stringslite_Index.f at h
 split at h
 ·rename_i q
  obtain rfl := Option.some.inj h; obtain ⟨⟨l⟩⟩ := a1
  match l, q with
  | [c], _ => exact (sh_stringslite_Index_one a0 c w).mono fun e w' hh => ⟨hh.1, hh.2 ▸ Below.refl _ _⟩
 ·cases h
def lines_wrong.f (a0 : ByteArray) : Option (Int) := (lines_Runes.f a0).bind fun bt108 => (if bt108.2 = 0 then (if (bt108.1.length : Int) > 80 then (some 91) else (some bt108.2)) else (some bt108.2))
set_option maxHeartbeats 8000000 in
set_option maxRecDepth 100000 in
theorem lines_wrong.calls (a0 : ByteArray) (r : Int) (w : World) (hG : GT w) (h : lines_wrong.f a0 = some r) :
  Calls Tryd.prog 75 #[.string a0] w fun e w' => e = .returned (.int .i64 r) ∧ Below w.heap.size w w' := by
 have HB := Aside0.mk (Below.refl w.heap.size w); have H : ((lines_Runes.f a0).bind fun bt108 => (if bt108.2 = 0 then (if (bt108.1.length : Int) > 80 then (some 91) else (some bt108.2)) else (some bt108.2))) = some r := h; clear h; replace H := Option.bind_eq_some_iff.mp H; obtain ⟨⟨t108, t109⟩, A20, H⟩ := H; replace H : (if t109 = 0 then (if (t108.length : Int) > 80 then (some 91) else (some t109)) else (some t109)) = some r := H; have A2 := Aside0.mk A20; clear A20
 by_cases c3 : t109 = 0
 ·rw [if_pos c3] at H; have c3b0 : (t109 == 0) = true := beq_iff_eq.mpr c3; have c3b1 : (t109 != 0) = false := bne_eq_false_iff_eq.mpr c3; clear c3
  by_cases c4 : (t108.length : Int) > 80
  ·rw [if_pos c4] at H; have c4b0 : decide (80 < (t108.length : Int)) = true := decide_eq_true c4; have c4b1 : decide (80 < t108.length) = true := decide_eq_true zv1; clear c4; obtain rfl := Option.some.inj H; go_enter Tryd.func75, Tryd.ntmps75
   go_wp2_with (first | ((with_reducible refine zRl (f := 20) rfl ?_); refine goesL_ (some 7) rfl rfl Tryd.func20 (by kernel_rfl) rfl #[.string a0] rfl zv3 ?_; (with_reducible refine (lines_Runes.calls a0 t108 t109 _ ?side1 A2.out).mono ?_); (case side1 => exact gt_below hG zv0); rintro e w5 ⟨v110, rfl, ho0, hb⟩; refine ⟨_, rfl, ?_⟩; have n0_ := Aside0.mk (Kd.R_lower ho0 (zRg zv0)); have n1_ := Aside0.mk (zRd zv0 hb); clear HB; have HO111 := n0_; have HB := n1_; clear n0_ n1_; (try clear hb); (try clear hb2); (try clear hk); (try clear hi); (try clear ho0); obtain ⟨Ao6, co6, eo6⟩ := Kd.R_slice HO111.out; subst eo6))
   go_ret; exact ⟨zv8, zv0⟩
  ·rw [if_neg c4] at H; have c4b0 : decide (80 < (t108.length : Int)) = false := decide_eq_false c4; have c4b1 : decide (80 < t108.length) = false := decide_eq_false zv1; clear c4; obtain rfl := Option.some.inj H; go_enter Tryd.func75, Tryd.ntmps75
   go_wp2_with (first | ((with_reducible refine zRl (f := 20) rfl ?_); refine goesL_ (some 7) rfl rfl Tryd.func20 (by kernel_rfl) rfl #[.string a0] rfl zv3 ?_; (with_reducible refine (lines_Runes.calls a0 t108 t109 _ ?side1 A2.out).mono ?_); (case side1 => exact gt_below hG zv0); rintro e w7 ⟨v110, rfl, ho0, hb⟩; refine ⟨_, rfl, ?_⟩; have n0_ := Aside0.mk (Kd.R_lower ho0 (zRg zv0)); have n1_ := Aside0.mk (zRd zv0 hb); clear HB; have HO111 := n0_; have HB := n1_; clear n0_ n1_; (try clear hb); (try clear hb2); (try clear hk); (try clear hi); (try clear ho0); obtain ⟨Ao8, co8, eo8⟩ := Kd.R_slice HO111.out; subst eo8))
   go_ret; exact ⟨zv8, zv0⟩
 ·rw [if_neg c3] at H; have c3b0 : (t109 == 0) = false := beq_eq_false_iff_ne.mpr c3; have c3b1 : (t109 != 0) = true := bne_iff_ne.mpr c3; obtain rfl := Option.some.inj H; go_enter Tryd.func75, Tryd.ntmps75
  go_wp2_with (first | ((with_reducible refine zRl (f := 20) rfl ?_); refine goesL_ (some 7) rfl rfl Tryd.func20 (by kernel_rfl) rfl #[.string a0] rfl zv3 ?_; (with_reducible refine (lines_Runes.calls a0 t108 t109 _ ?side1 A2.out).mono ?_); (case side1 => exact gt_below hG zv0); rintro e w9 ⟨v110, rfl, ho0, hb⟩; refine ⟨_, rfl, ?_⟩; have n0_ := Aside0.mk (Kd.R_lower ho0 (zRg zv0)); have n1_ := Aside0.mk (zRd zv0 hb); clear HB; have HO111 := n0_; have HB := n1_; clear n0_ n1_; (try clear hb); (try clear hb2); (try clear hk); (try clear hi); (try clear ho0)))
  go_ret; exact ⟨zv8, zv0⟩
def stringslite_Cut.f (a0 : ByteArray) (a1 : ByteArray) : Option (ByteArray × ByteArray × Bool) := (stringslite_Index.f a0 a1).bind fun t114 => (if t114 ≥ 0 then (if 0 ≤ t114 then (if t114 ≤ (a0.size : Int) then (if 0 ≤ (wrap64 (t114 + (a1.size : Int))) then (if (wrap64 (t114 + (a1.size : Int))) ≤ (a0.size : Int) then (some (a0.extract 0 (t114 : Int).toNat, a0.extract ((wrap64 (t114 + (a1.size : Int))) : Int).toNat a0.size, true)) else (none)) else (none)) else (none)) else (none)) else (some (a0, (⟨#[]⟩ : ByteArray), false)))
set_option maxHeartbeats 8000000 in
set_option maxRecDepth 100000 in
theorem stringslite_Cut.calls (a0 : ByteArray) (a1 : ByteArray) (r1 : ByteArray) (r2 : ByteArray) (r3 : Bool) (w : World) (h : stringslite_Cut.f a0 a1 = some (r1, r2, r3)) :
  Calls Tryd.prog 103 #[.string a0, .string a1] w fun e w' => e = .returned (.tuple #[.string r1, .string r2, .bool r3]) ∧ Below w.heap.size w w' := by
 have HB := Aside0.mk (Below.refl w.heap.size w); have H : ((stringslite_Index.f a0 a1).bind fun t114 => (if t114 ≥ 0 then (if 0 ≤ t114 then (if t114 ≤ (a0.size : Int) then (if 0 ≤ (wrap64 (t114 + (a1.size : Int))) then (if (wrap64 (t114 + (a1.size : Int))) ≤ (a0.size : Int) then (some (a0.extract 0 (t114 : Int).toNat, a0.extract ((wrap64 (t114 + (a1.size : Int))) : Int).toNat a0.size, true)) else (none)) else (none)) else (none)) else (none)) else (some (a0, (⟨#[]⟩ : ByteArray), false)))) = some (r1, r2, r3) := h; clear h; replace H := Option.bind_eq_some_iff.mp H; obtain ⟨t114, A30, H⟩ := H; replace H : (if t114 ≥ 0 then (if 0 ≤ t114 then (if t114 ≤ (a0.size : Int) then (if 0 ≤ (wrap64 (t114 + (a1.size : Int))) then (if (wrap64 (t114 + (a1.size : Int))) ≤ (a0.size : Int) then (some (a0.extract 0 (t114 : Int).toNat, a0.extract ((wrap64 (t114 + (a1.size : Int))) : Int).toNat a0.size, true)) else (none)) else (none)) else (none)) else (none)) else (some (a0, (⟨#[]⟩ : ByteArray), false))) = some (r1, r2, r3) := H; have A3 := Aside0.mk A30; clear A30
 by_cases c4 : t114 ≥ 0
 ·rw [if_pos c4] at H; have c4b0 : decide (0 ≤ t114) = true := decide_eq_true c4; clear c4
  by_cases c5 : 0 ≤ t114
  ·rw [if_pos c5] at H; have c5b0 := eq_true c5; have c5b1 : decide (0 ≤ t114) = true := decide_eq_true c5; clear c5
   by_cases c6 : t114 ≤ (a0.size : Int)
   ·rw [if_pos c6] at H; have c6b0 := eq_true c6; have c6b1 : decide (t114 ≤ (a0.size : Int)) = true := decide_eq_true c6; clear c6; obtain ⟨ji7, hji7⟩ : ∃ j_ : Int, (wrap64 (t114 + (a1.size : Int))) = j_ := ⟨_, rfl⟩
    replace H : (if 0 ≤ (ji7) then (if (ji7) ≤ (a0.size : Int) then (some (a0.extract 0 (t114 : Int).toNat, a0.extract ((ji7) : Int).toNat a0.size, true)) else (none)) else (none)) = some (r1, r2, r3) := by first | (rw [hji7] at H; exact H) | (simp only [hji7] at H ⊢; exact H)
    (try rw [hji7] at A3)
    have hji7w : (IntKind.i64.wrap (t114 + (a1.size : Int))) = ji7 := (i64_w _).trans hji7
    by_cases c8 : 0 ≤ (ji7)
    ·rw [if_pos c8] at H; have c8b0 := eq_true c8; have c8b1 : decide (0 ≤ (ji7)) = true := decide_eq_true c8; clear c8
     by_cases c9 : (ji7) ≤ (a0.size : Int)
     ·rw [if_pos c9] at H; have c9b0 := eq_true c9; have c9b1 : decide ((ji7) ≤ (a0.size : Int)) = true := decide_eq_true c9; clear c9; simp only [Option.some.injEq, Prod.mk.injEq] at H; obtain ⟨rfl, rfl, rfl⟩ := H; go_enter Tryd.func103, Tryd.ntmps103
      go_wp2_with (first | (go_at_call 125; (with_reducible refine (stringslite_Index.calls a0 a1 t114 _ A3.out).mono ?_); rintro e w10 ⟨rfl, hb⟩; have n0_ := Aside0.mk (zRd zv0 hb); clear HB; have HB := n0_; clear n0_; (try clear hb); (try clear hb2); (try clear hk); (try clear hi)))
      repeat (go_quiet (first | (go_at_call 125; (with_reducible refine (stringslite_Index.calls a0 a1 t114 _ A3.out).mono ?_); rintro e w10 ⟨rfl, hb⟩; have n0_ := Aside0.mk (zRd zv0 hb); clear HB; have HB := n0_; clear n0_; (try clear hb); (try clear hb2); (try clear hk); (try clear hi))); try go_wp2_with (first | (go_at_call 125; (with_reducible refine (stringslite_Index.calls a0 a1 t114 _ A3.out).mono ?_); rintro e w10 ⟨rfl, hb⟩; have n0_ := Aside0.mk (zRd zv0 hb); clear HB; have HB := n0_; clear n0_; (try clear hb); (try clear hb2); (try clear hk); (try clear hi))))
      go_ret3
      exact ⟨(by first | rfl | (simp [errW_none, errW_some] <;> rfl) | (simp only [← hji7]; first | rfl | (simp [errW_none, errW_some] <;> rfl)) | (simp [*, errW_none, errW_some] <;> rfl)), zv0⟩
     ·rw [if_neg c9] at H; exact absurd H zv10
    ·rw [if_neg c8] at H; exact absurd H zv10
   ·rw [if_neg c6] at H; exact absurd H zv10
  ·rw [if_neg c5] at H; exact absurd H zv10
 ·rw [if_neg c4] at H; have c4b0 : decide (0 ≤ t114) = false := decide_eq_false c4; clear c4; simp only [Option.some.injEq, Prod.mk.injEq] at H; obtain ⟨rfl, rfl, rfl⟩ := H; go_enter Tryd.func103, Tryd.ntmps103
  go_wp2_with (first | (go_at_call 125; (with_reducible refine (stringslite_Index.calls a0 a1 t114 _ A3.out).mono ?_); rintro e w11 ⟨rfl, hb⟩; have n0_ := Aside0.mk (zRd zv0 hb); clear HB; have HB := n0_; clear n0_; (try clear hb); (try clear hb2); (try clear hk); (try clear hi)))
  repeat (go_quiet (first | (go_at_call 125; (with_reducible refine (stringslite_Index.calls a0 a1 t114 _ A3.out).mono ?_); rintro e w11 ⟨rfl, hb⟩; have n0_ := Aside0.mk (zRd zv0 hb); clear HB; have HB := n0_; clear n0_; (try clear hb); (try clear hb2); (try clear hk); (try clear hi))); try go_wp2_with (first | (go_at_call 125; (with_reducible refine (stringslite_Index.calls a0 a1 t114 _ A3.out).mono ?_); rintro e w11 ⟨rfl, hb⟩; have n0_ := Aside0.mk (zRd zv0 hb); clear HB; have HB := n0_; clear n0_; (try clear hb); (try clear hb2); (try clear hk); (try clear hi))))
  go_ret3
  exact ⟨zv8, zv0⟩
def strings_Cut.f (a0 : ByteArray) (a1 : ByteArray) : Option (ByteArray × ByteArray × Bool) := (stringslite_Cut.f a0 a1).bind fun bt115 => (some (bt115.1, bt115.2.1, bt115.2.2))
set_option maxHeartbeats 8000000 in
set_option maxRecDepth 100000 in
theorem strings_Cut.calls (a0 : ByteArray) (a1 : ByteArray) (r1 : ByteArray) (r2 : ByteArray) (r3 : Bool) (w : World) (h : strings_Cut.f a0 a1 = some (r1, r2, r3)) :
  Calls Tryd.prog 74 #[.string a0, .string a1] w fun e w' => e = .returned (.tuple #[.string r1, .string r2, .bool r3]) ∧ Below w.heap.size w w' := by
 have HB := Aside0.mk (Below.refl w.heap.size w); have H : ((stringslite_Cut.f a0 a1).bind fun bt115 => (some (bt115.1, bt115.2.1, bt115.2.2))) = some (r1, r2, r3) := h; clear h; replace H := Option.bind_eq_some_iff.mp H; obtain ⟨⟨t115, t116, t117⟩, A30, H⟩ := H; replace H : (some (t115, t116, t117)) = some (r1, r2, r3) := H; have A3 := Aside0.mk A30; clear A30; simp only [Option.some.injEq, Prod.mk.injEq] at H; obtain ⟨rfl, rfl, rfl⟩ := H; go_enter Tryd.func74, Tryd.ntmps74
 go_wp2_with (first | ((with_reducible refine zRl (f := 103) rfl ?_); refine goesL_ (some 9) rfl rfl Tryd.func103 (by kernel_rfl) rfl #[.string a0, .string a1] rfl zv3 ?_; (with_reducible refine (stringslite_Cut.calls a0 a1 t115 t116 t117 _ A3.out).mono ?_); rintro e w4 ⟨rfl, hb⟩; refine ⟨_, rfl, ?_⟩; have n0_ := Aside0.mk (zRd zv0 hb); clear HB; have HB := n0_; clear n0_; (try clear hb); (try clear hb2); (try clear hk); (try clear hi)))
 go_ret3
 exact ⟨zv8, zv0⟩
def stringslite_HasPrefix.f (a0 : ByteArray) (a1 : ByteArray) : Option (Bool) := if (a0.size : Int) ≥ (a1.size : Int) then (if 0 ≤ (a1.size : Int) then (if (a1.size : Int) ≤ (a0.size : Int) then (some ((a0.extract 0 ((a1.size : Int) : Int).toNat).toList == a1.toList)) else (none)) else (none)) else (some false)
set_option maxHeartbeats 8000000 in
set_option maxRecDepth 100000 in
theorem stringslite_HasPrefix.calls (a0 : ByteArray) (a1 : ByteArray) (r : Bool) (w : World) (h : stringslite_HasPrefix.f a0 a1 = some r) :
  Calls Tryd.prog 102 #[.string a0, .string a1] w fun e w' => e = .returned (.bool r) ∧ Drawn0 w w' := by
 have H : (if (a0.size : Int) ≥ (a1.size : Int) then (if 0 ≤ (a1.size : Int) then (if (a1.size : Int) ≤ (a0.size : Int) then (some ((a0.extract 0 ((a1.size : Int) : Int).toNat).toList == a1.toList)) else (none)) else (none)) else (some false)) = some r := h; clear h
 by_cases c3 : (a0.size : Int) ≥ (a1.size : Int)
 ·rw [if_pos c3] at H; have c3b0 : decide ((a1.size : Int) ≤ (a0.size : Int)) = true := decide_eq_true c3; have c3b1 : decide (a1.size ≤ a0.size) = true := decide_eq_true (Int.ofNat_le.mp c3); clear c3
  by_cases c4 : 0 ≤ (a1.size : Int)
  ·rw [if_pos c4] at H; have c4b0 := eq_true c4; have c4b1 : decide (0 ≤ (a1.size : Int)) = true := decide_eq_true c4; clear c4
   by_cases c5 : (a1.size : Int) ≤ (a0.size : Int)
   ·rw [if_pos c5] at H; have c5b0 := eq_true c5; have c5b1 : decide ((a1.size : Int) ≤ (a0.size : Int)) = true := decide_eq_true c5; clear c5; obtain rfl := Option.some.inj H; go_enter Tryd.func102, Tryd.ntmps102; go_wp2; go_ret; exact ⟨zv5, zv9⟩
   ·rw [if_neg c5] at H; exact absurd H zv10
  ·rw [if_neg c4] at H; exact absurd H zv10
 ·rw [if_neg c3] at H; have c3b0 : decide ((a1.size : Int) ≤ (a0.size : Int)) = false := decide_eq_false c3; have c3b1 : decide (a1.size ≤ a0.size) = false := decide_eq_false (fun h => c3 (Int.ofNat_le.mpr h)); clear c3; obtain rfl := Option.some.inj H; go_enter Tryd.func102, Tryd.ntmps102; go_wp2; go_ret; exact ⟨zv5, zv9⟩
def strings_HasPrefix.f (a0 : ByteArray) (a1 : ByteArray) : Option (Bool) := (stringslite_HasPrefix.f a0 a1).bind fun t118 => (some t118)
set_option maxHeartbeats 8000000 in
set_option maxRecDepth 100000 in
theorem strings_HasPrefix.calls0 (a0 : ByteArray) (a1 : ByteArray) (r : Bool) (w : World) (h : strings_HasPrefix.f a0 a1 = some r) :
  Calls Tryd.prog 72 #[.string a0, .string a1] w fun e w' => e = .returned (.bool r) ∧ Drawn0 w w' := by
 have H : ((stringslite_HasPrefix.f a0 a1).bind fun t118 => (some t118)) = some r := h; clear h; replace H := Option.bind_eq_some_iff.mp H; obtain ⟨t118, A30, H⟩ := H; replace H : (some t118) = some r := H; have A3 := Aside0.mk A30; clear A30; obtain rfl := Option.some.inj H; go_enter Tryd.func72, Tryd.ntmps72
 go_wp2_with (first | ((with_reducible refine zRl (f := 102) rfl ?_); refine goesL_ (some 7) rfl rfl Tryd.func102 (by kernel_rfl) rfl #[.string a0, .string a1] rfl zv3 ?_; (with_reducible refine (stringslite_HasPrefix.calls a0 a1 t118 _ A3.out).mono ?_); rintro e w' ⟨rfl, ⟨nd, rfl⟩⟩; refine ⟨_, rfl, ?_⟩))
 go_ret; exact ⟨zv5, zv9⟩
theorem strings_HasPrefix.calls (a0 : ByteArray) (a1 : ByteArray) (r : Bool) (w : World) (h : strings_HasPrefix.f a0 a1 = some r) :
  Calls Tryd.prog 72 #[.string a0, .string a1] w fun e w' => e = .returned (.bool r) ∧ Below w.heap.size w w' :=
 (strings_HasPrefix.calls0 a0 a1 r w h).mono fun e w' hh => ⟨hh.1, hh.2.below⟩
def lines_Kind.f (a0 : ByteArray) : Option (Int) := if a0.toList = ([] : List UInt8) then (some 0) else ((strings_HasPrefix.f a0 (⟨#[35]⟩ : ByteArray)).bind fun t186 => (if t186 = true then (some 1) else (some 2)))
set_option maxHeartbeats 8000000 in
set_option maxRecDepth 100000 in
theorem lines_Kind.calls (a0 : ByteArray) (r : Int) (w : World) (h : lines_Kind.f a0 = some r) :
  Calls Tryd.prog 37 #[.string a0] w fun e w' => e = .returned (.int .u8 r) ∧ Below w.heap.size w w' := by
 have HB := Aside0.mk (Below.refl w.heap.size w); have H : (if a0.toList = ([] : List UInt8) then (some 0) else ((strings_HasPrefix.f a0 (⟨#[35]⟩ : ByteArray)).bind fun t186 => (if t186 = true then (some 1) else (some 2)))) = some r := h; clear h
 by_cases c2 : a0.toList = ([] : List UInt8)
 ·rw [if_pos c2] at H; have c2b0 : (a0.toList == ([] : List UInt8)) = true := beq_iff_eq.mpr c2; have c2b1 : (a0.toList != ([] : List UInt8)) = false := bne_eq_false_iff_eq.mpr c2; clear c2; obtain rfl := Option.some.inj H; go_enter Tryd.func37, Tryd.ntmps37; go_wp2; go_ret; exact ⟨zv8, zv0⟩
 ·rw [if_neg c2] at H; have c2b0 : (a0.toList == ([] : List UInt8)) = false := beq_eq_false_iff_ne.mpr c2; have c2b1 : (a0.toList != ([] : List UInt8)) = true := bne_iff_ne.mpr c2; replace H := Option.bind_eq_some_iff.mp H; obtain ⟨t186, A30, H⟩ := H; replace H : (if t186 = true then (some 1) else (some 2)) = some r := H; have A3 := Aside0.mk A30; clear A30
  by_cases c4 : t186 = true
  ·subst c4; have H1 : (some 1) = some r := by rw [if_pos rfl] at H; exact H
   clear H; have H := H1; clear H1; obtain rfl := Option.some.inj H; go_enter Tryd.func37, Tryd.ntmps37
   go_wp2_with (first | ((with_reducible refine zRl (f := 72) rfl ?_); refine goesL_ (some 8) rfl rfl Tryd.func72 (by kernel_rfl) rfl #[.string a0, .string (⟨#[35]⟩ : ByteArray)] rfl zv3 ?_; (with_reducible refine (strings_HasPrefix.calls a0 (⟨#[35]⟩ : ByteArray) true _ A3.out).mono ?_); rintro e w5 ⟨rfl, hb⟩; refine ⟨_, rfl, ?_⟩; have n0_ := Aside0.mk (zRd zv0 hb); clear HB; have HB := n0_; clear n0_; (try clear hb); (try clear hb2); (try clear hk); (try clear hi)))
   go_ret; exact ⟨zv8, zv0⟩
  ·replace c4 := Bool.eq_false_iff.mpr c4; subst c4; have H1 : (some 2) = some r := by rw [if_neg (show ¬ (false = true) by decide)] at H; exact H
   clear H; have H := H1; clear H1; obtain rfl := Option.some.inj H; go_enter Tryd.func37, Tryd.ntmps37
   go_wp2_with (first | ((with_reducible refine zRl (f := 72) rfl ?_); refine goesL_ (some 8) rfl rfl Tryd.func72 (by kernel_rfl) rfl #[.string a0, .string (⟨#[35]⟩ : ByteArray)] rfl zv3 ?_; (with_reducible refine (strings_HasPrefix.calls a0 (⟨#[35]⟩ : ByteArray) false _ A3.out).mono ?_); rintro e w6 ⟨rfl, hb⟩; refine ⟨_, rfl, ?_⟩; have n0_ := Aside0.mk (zRd zv0 hb); clear HB; have HB := n0_; clear n0_; (try clear hb); (try clear hb2); (try clear hk); (try clear hi)))
   go_ret; exact ⟨zv8, zv0⟩
end Go.Proofs.YtpkjpiphjdpegaaDoor.P
namespace Go.Proofs.YtpkjpiphjdpegaaDoor.P
open Go.RowKit Go.Proofs.YtpkjpiphjdpegaaDoorW.PrintWords Go.Proofs.YtpkjpiphjdpegaaDoorW.PrintLast Go.Proofs.YtpkjpiphjdpegaaDoorW.PrintMore
set_option linter.unusedVariables false
set_option linter.unusedSimpArgs false
def mk (l : List UInt8) : ByteArray := ⟨l.toArray⟩
theorem mk_list (l : List UInt8) : (mk l).data.toList = l := rfl
theorem mk_size (l : List UInt8) : (mk l).size = l.length := by simp [mk, ByteArray.size]
theorem mk_of (s : ByteArray) : mk s.data.toList = s := by
 obtain ⟨⟨l⟩⟩ := s; rfl
theorem toList_eq (s : ByteArray) : s.toList = s.data.toList := Go.ByteArray.toList_eq s
def splitB : List UInt8 → List (List UInt8)
 | [] => [[]]
 | b :: l => if b = 10 then [] :: splitB l else match splitB l with
  | [] => [[b]]
  | h :: r => (b :: h) :: r
theorem splitB_ne (l : List UInt8) : splitB l ≠ [] := by
 cases l with
 | nil => simp [splitB]
 | cons b l =>
  rw [splitB]
  split
  ·simp
  ·split <;> simp
theorem splitB_none : ∀ {l : List UInt8}, Lib.indexByte l 10 = -1 → splitB l = [l]
 | [], _ => rfl
 | b :: l, h => by
  have hb : ¬ b = 10 := fun e => by
   have := Lib.indexByte_none h 0; rw [e] at this; simp at this
  have hl : Lib.indexByte l 10 = -1 := by
   have hge := Lib.indexByte_ge l 10; rw [Lib.indexByte, if_neg (by simp [hb])] at h
   split at h
   ·rename_i q; simpa using q
   ·omega
  rw [splitB, if_neg hb, splitB_none hl]
theorem splitB_some : ∀ {l : List UInt8} {i : Nat}, Lib.indexByte l 10 = (i : Int) → splitB l = l.take i :: splitB (l.drop (i + 1)) ∧ i < l.length
 | [], i, h => by simp [Lib.indexByte] at h
 | b :: l, i, h => by
  rw [Lib.indexByte] at h
  by_cases hb : b = 10
  ·rw [if_pos (by simp [hb])] at h; obtain rfl : i = 0 := by omega
   rw [splitB, if_pos hb]; simp
  ·rw [if_neg (by simp [hb])] at h
   split at h
   ·omega
   ·have hge := Lib.indexByte_ge l 10
    rename_i q
    have q' : Lib.indexByte l 10 ≠ -1 := by simpa using q
    obtain ⟨k, rfl⟩ : ∃ k, i = k + 1 := ⟨i - 1, zv1⟩
    obtain ⟨e, hk⟩ := splitB_some (l := l) (i := k) zv1; rw [splitB, if_neg hb, e]; simp; omega
def kindOf : List UInt8 → Int
 | [] => 0
 | b :: _ => if b = 35 then 1 else 2
def wrongOf (h : List UInt8) : Int := if Lib.validD h = true then (if (zRx (mk h) h.length 0).length > 80 then 91 else 0) else 90
def lineOf (n : Int) (h : List UInt8) : S56 := ⟨n, mk h, kindOf h, wrongOf h⟩
def linesL (n : Int) : List (List UInt8) → List S56
 | [] => []
 | h :: r => lineOf n h :: linesL (n + 1) r
def allL (s : ByteArray) : List S56 := linesL 1 (splitB s.data.toList)
theorem splitB_len (l : List UInt8) : (splitB l).length ≤ l.length + 1 := by
 induction l with
 | nil => simp [splitB]
 | cons b l ih =>
  rw [splitB]
  split
  ·simp; omega
  ·split
   ·simp
   ·rename_i q; rw [q] at ih; simp at ih ⊢; omega
theorem splitB_size : ∀ (l : List UInt8), ∀ h ∈ splitB l, h.length ≤ l.length
 | [], h, hh => by simp [splitB] at hh; subst hh; simp
 | b :: l, h, hh => by
  have ih := splitB_size l; rw [splitB] at hh
  split at hh
  ·rcases List.mem_cons.1 hh with rfl | hh
   ·simp
   ·have := ih h hh; simp; omega
  ·split at hh
   ·simp at hh; subst hh; simp
   ·rename_i q
    rw [q] at ih
    rcases List.mem_cons.1 hh with rfl | hh
    ·have := ih _ (List.mem_cons_self ..); simp; omega
    ·have := ih h (List.mem_cons_of_mem _ hh); simp; omega
theorem extract_mk (l : List UInt8) (i j : Nat) : (mk l).extract i j = mk ((l.take j).drop i) := by
 apply ByteArray.ext; rw [ByteArray.data_extract]; apply Array.ext'; rw [Array.toList_extract]; show l.extract i j = _; rw [List.extract_eq_take_drop, List.drop_take]; rfl
theorem cut_none {l : List UInt8} (h : Lib.indexByte l 10 = -1) : strings_Cut.f (mk l) (⟨#[10]⟩ : ByteArray) = some (mk l, (⟨#[]⟩ : ByteArray), false) := by
 have e : stringslite_Index.f (mk l) (⟨#[10]⟩ : ByteArray) = some (-1) := by
  unfold stringslite_Index.f; rw [if_pos (show (⟨#[10]⟩ : ByteArray).data.toList.length = 1 from rfl), mk_list]; exact congrArg some h
 unfold strings_Cut.f stringslite_Cut.f; rw [e, Option.bind_some, if_neg zv1, Option.bind_some]
theorem cut_some {l : List UInt8} {i : Nat} (hs : l.length ≤ 1000000000) (h : Lib.indexByte l 10 = (i : Int)) : strings_Cut.f (mk l) (⟨#[10]⟩ : ByteArray) = some (mk (l.take i), mk (l.drop (i + 1)), true) := by
 have e : stringslite_Index.f (mk l) (⟨#[10]⟩ : ByteArray) = some (i : Int) := by
  unfold stringslite_Index.f; rw [if_pos (show (⟨#[10]⟩ : ByteArray).data.toList.length = 1 from rfl), mk_list]; exact congrArg some h
 have hi := (splitB_some h).2; have h1 : ((⟨#[10]⟩ : ByteArray).size : Int) = 1 := rfl; have w1 : wrap64 ((i : Int) + 1) = ((i + 1 : Nat) : Int) := by unfold wrap64; push_cast; omega
 unfold strings_Cut.f stringslite_Cut.f; rw [e, Option.bind_some, if_pos zv1, if_pos zv1, mk_size, if_pos zv1, h1, w1, if_pos zv1, if_pos zv1, Option.bind_some]; rw [Int.toNat_natCast, Int.toNat_natCast, extract_mk, extract_mk, List.drop_zero, List.take_length]
theorem kind_is (h : List UInt8) (hs : h.length ≤ 1000000000) : lines_Kind.f (mk h) = some (kindOf h) := by
 unfold lines_Kind.f; cases h with
 | nil => rw [if_pos (by rw [toList_eq]; rfl)]; rfl
 | cons b l =>
  rw [if_neg (by rw [toList_eq]; simp [mk])]; have e1 : ((⟨#[35]⟩ : ByteArray).size : Int) = 1 := rfl; have e2 : ((mk (b :: l)).size : Int) = (l.length : Int) + 1 := by rw [mk_size]; simp
  have P : strings_HasPrefix.f (mk (b :: l)) (⟨#[35]⟩ : ByteArray) = some (b == 35) := by
   unfold strings_HasPrefix.f stringslite_HasPrefix.f; rw [e1, e2, if_pos zv1, if_pos zv1, if_pos zv1, Option.bind_some]; rw [toList_eq, toList_eq, show ((1 : Int)).toNat = 1 from rfl, extract_mk]
   congr 1
   show ([b] == [35]) = (b == 35); simp
  rw [P, Option.bind_some]; show _ = some (if b = 35 then 1 else 2)
  by_cases q : b = 35
  ·rw [if_pos (by simp [q]), if_pos q]
  ·rw [if_neg (by simp [q]), if_neg q]
theorem wrong_is (h : List UInt8) (hs : h.length ≤ 1000000000) : lines_wrong.f (mk h) = some (wrongOf h) := by
 unfold lines_wrong.f lines_Runes.f; rw [mk_size, if_pos hs, Option.bind_some, mk_list]; unfold wrongOf
 by_cases v : Lib.validD h = true
 ·rw [if_pos v, if_pos v, if_pos rfl]
  by_cases q : (zRx (mk h) h.length 0).length > 80
  ·rw [if_pos zv27, if_pos q]
  ·rw [if_neg zv27, if_neg q]
 ·rw [if_neg v, if_neg v, if_neg zvz]
end Go.Proofs.YtpkjpiphjdpegaaDoor.P
