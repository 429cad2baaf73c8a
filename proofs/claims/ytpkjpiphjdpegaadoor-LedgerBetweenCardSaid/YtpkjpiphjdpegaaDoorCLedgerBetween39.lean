/- A program of this session wrote this text out of the session's own texts. (part 39 of 46) -/
import Derived.Test.YtpkjpiphjdpegaaDoorCLedgerBetween4
import Derived.Test.YtpkjpiphjdpegaaDoorCLedgerBetween14
import Derived.Test.YtpkjpiphjdpegaaDoorCLedgerBetween17
import Derived.Test.YtpkjpiphjdpegaaDoorCLedgerBetween19
import Derived.Test.YtpkjpiphjdpegaaDoorCLedgerBetween22
import Derived.Test.YtpkjpiphjdpegaaDoorCLedgerBetween23
import Derived.Test.YtpkjpiphjdpegaaDoorCLedgerBetween25
import Derived.Test.YtpkjpiphjdpegaaDoorCLedgerBetween26
import Derived.Test.YtpkjpiphjdpegaaDoorCLedgerBetween29
import Derived.Test.YtpkjpiphjdpegaaDoorCLedgerBetween30
import Derived.Test.YtpkjpiphjdpegaaDoorCLedgerBetween38
import Derived.Laws.Bits64
namespace Go.Proofs.YtpkjpiphjdpegaaDoor.P
open Go.RowKit Go.Proofs.YtpkjpiphjdpegaaDoorW.PrintWords Go.Proofs.YtpkjpiphjdpegaaDoorW.PrintLast Go.Proofs.YtpkjpiphjdpegaaDoorW.PrintMore
attribute [local go_sem] max2_int min2_int max_two min_two max_three min_three max_four min_four
set_option linter.unusedVariables false
set_option linter.unusedSimpArgs false
def paymasterlaw11_refused.f (a0 : ByteArray) (a1 : Int) (a2 : Int) (a3 : Int) : Option (Bool) := (ledger_Import.f a0 a1).bind fun bt1208 => (if (bt1208.1.length : Int) = 0 then (if bt1208.2.1 = a2 then (some (bt1208.2.2 == a3)) else (none)) else (none))
set_option maxHeartbeats 8000000 in
set_option maxRecDepth 100000 in
theorem paymasterlaw11_refused.calls (a0 : ByteArray) (a1 : Int) (a2 : Int) (a3 : Int) (r : Bool) (w : World) (hG : GT w) (h : paymasterlaw11_refused.f a0 a1 a2 a3 = some r) :
    Calls Tryd.prog 68 #[.string a0, .int .i64 a1, .int .i64 a2, .int .i64 a3] w fun e w' => e = .returned (.bool r) ∧ Below w.heap.size w w' := by
  have HB := Aside0.mk (Below.refl w.heap.size w)
  have H : ((ledger_Import.f a0 a1).bind fun bt1208 => (if (bt1208.1.length : Int) = 0 then (if bt1208.2.1 = a2 then (some (bt1208.2.2 == a3)) else (none)) else (none))) = some r := h
  clear h
  replace H := Option.bind_eq_some_iff.mp H
  obtain ⟨⟨t1208, t1209, t1210⟩, A50, H⟩ := H
  replace H : (if (t1208.length : Int) = 0 then (if t1209 = a2 then (some (t1210 == a3)) else (none)) else (none)) = some r := H
  have A5 := Aside0.mk A50
  clear A50
  by_cases c6 : (t1208.length : Int) = 0
  · rw [if_pos c6] at H
    have c6b0 : ((t1208.length : Int) == 0) = true := beq_iff_eq.mpr c6
    have c6b1 : ((t1208.length : Int) != 0) = false := bne_eq_false_iff_eq.mpr c6
    clear c6
    by_cases c7 : t1209 = a2
    · rw [if_pos c7] at H
      have c7b0 : (t1209 == a2) = true := beq_iff_eq.mpr c7
      have c7b1 : (t1209 != a2) = false := bne_eq_false_iff_eq.mpr c7
      clear c7
      obtain rfl := Option.some.inj H
      go_enter Tryd.func68, Tryd.ntmps68
      go_wp2_with (first | ((with_reducible refine gate_callee (f := 32) rfl ?_); refine goesL_ (some 15) rfl rfl Tryd.func32 (by kernel_rfl) rfl #[.string a0, .int .i64 a1] rfl (by (try simp only [List.map_toArray, List.map_cons, List.map_nil]); first | done | rfl | (simp only [List.length_drop, List.length_take]; rfl)) ?_; (with_reducible refine (ledger_Import.calls a0 a1 t1208 t1209 t1210 _ ?side1 A5.out).mono ?_); (case side1 => exact gt_below hG (by repeat (first | (with_reducible first | exact HB.out | apply below_alloc | apply pw_below_drewN | apply below_drew1) | exact HB.out))); rintro e w8 ⟨v1211, rfl, ho0, hb⟩; refine ⟨_, rfl, ?_⟩; have n0_ := Aside0.mk (Kd.R_lower ho0 (below_size (by repeat (first | (with_reducible first | exact HB.out | apply below_alloc | apply pw_below_drewN | apply below_drew1) | exact HB.out)))); have n1_ := Aside0.mk (below_step (by repeat (first | (with_reducible first | exact HB.out | apply below_alloc | apply pw_below_drewN | apply below_drew1) | exact HB.out)) hb); clear HB; have HO1212 := n0_; have HB := n1_; clear n0_ n1_; (try clear hb); (try clear hb2); (try clear hk); (try clear hi); (try clear ho0); obtain ⟨Ao9, co9, eo9⟩ := Kd.R_slice HO1212.out; subst eo9))
      go_ret
      exact ⟨by first | rfl | (simp [errW_none, errW_some] <;> rfl) | (simp [*, errW_none, errW_some] <;> rfl), by repeat (first | (with_reducible first | exact HB.out | apply below_alloc | apply pw_below_drewN | apply below_drew1) | exact HB.out)⟩
    · rw [if_neg c7] at H
      exact absurd H (by simp)
  · rw [if_neg c6] at H
    exact absurd H (by simp)
def paymasterlaw11_awake.f (k : Nat)  : Option (Bool) := (ledger_Import.f (⟨#[98, 32, 50, 10, 97, 32, 49]⟩ : ByteArray) 1).bind fun bt1213 => (if bt1213.2.2 = 0 then (if bt1213.2.1 = 0 then ((u128_Of.f 1).bind fun bt1218 => ((u128_Of.f 2).bind fun bt1220 => ((paymasterref10_Same.f k bt1213.1 (([(⟨(⟨#[97]⟩ : ByteArray), (⟨bt1218.1, bt1218.2⟩ : S42)⟩ : S44), (⟨(⟨#[98]⟩ : ByteArray), (⟨bt1220.1, bt1220.2⟩ : S42)⟩ : S44)] : List (S44)))).bind fun t1225 => (if t1225 = true then ((paymasterlaw11_refused.f (⟨#[98, 32, 50, 10, 97, 32, 49]⟩ : ByteArray) 0 2 111).bind fun t1226 => (if t1226 = true then ((paymasterlaw11_refused.f (⟨#[98, 32, 50, 10, 97, 32, 49, 10, 97, 32, 51]⟩ : ByteArray) 9 3 110).bind fun t1227 => (if t1227 = true then ((paymasterlaw11_refused.f (⟨#[98, 32, 50, 10, 97, 32, 49, 10, 97, 32, 51]⟩ : ByteArray) 1 3 111).bind fun t1228 => (if t1228 = true then ((paymasterlaw11_refused.f (⟨#[97, 32, 51, 52, 48, 50, 56, 50, 51, 54, 54, 57, 50, 48, 57, 51, 56, 52, 54, 51, 52, 54, 51, 51, 55, 52, 54, 48, 55, 52, 51, 49, 55, 54, 56, 50, 49, 49, 52, 53, 53, 10, 98, 32, 49]⟩ : ByteArray) 5 2 112).bind fun t1229 => (if t1229 = true then ((paymasterlaw11_refused.f (⟨#[97]⟩ : ByteArray) 11 0 120).bind fun t1230 => (if t1230 = true then ((paymasterlaw11_refused.f (⟨#[35, 10, 97]⟩ : ByteArray) 5 2 100).bind fun t1231 => (some t1231)) else (none))) else (none))) else (none))) else (none))) else (none))) else (none))))) else (none)) else (none))
theorem paymasterlaw11_awake.mono : ∀ k, LeO (paymasterlaw11_awake.f k ) (paymasterlaw11_awake.f (k + 1) ) := by
  intro  k
  unfold paymasterlaw11_awake.f
  repeat' first
      | (with_reducible exact paymasterref10_Same.mono _ _ _)
      | (with_reducible exact LeO.refl _)
      | (with_reducible exact LeO.none _)
      | (with_reducible refine LeO.ite ?_ ?_)
      | (with_reducible refine LeO.bind ?_ (fun _ => ?_))
      | exact paymasterref10_Same.mono _ _ _
      | exact LeO.none _
      | refine LeO.ite ?_ ?_
      | refine LeO.bind ?_ (fun _ => ?_)
set_option maxHeartbeats 8000000 in
set_option maxRecDepth 100000 in
theorem paymasterlaw11_awake.calls (k : Nat)  (r : Bool) (w : World) (hG : GT w) (h : paymasterlaw11_awake.f k  = some r) :
    Calls Tryd.prog 29 #[] w fun e w' => e = .returned (.bool r) ∧ Below w.heap.size w w' := by
  have hu44 := Tryd.underlying44
  have HB := Aside0.mk (Below.refl w.heap.size w)
  have H : ((ledger_Import.f (⟨#[98, 32, 50, 10, 97, 32, 49]⟩ : ByteArray) 1).bind fun bt1213 => (if bt1213.2.2 = 0 then (if bt1213.2.1 = 0 then ((u128_Of.f 1).bind fun bt1218 => ((u128_Of.f 2).bind fun bt1220 => ((paymasterref10_Same.f k bt1213.1 (([(⟨(⟨#[97]⟩ : ByteArray), (⟨bt1218.1, bt1218.2⟩ : S42)⟩ : S44), (⟨(⟨#[98]⟩ : ByteArray), (⟨bt1220.1, bt1220.2⟩ : S42)⟩ : S44)] : List (S44)))).bind fun t1225 => (if t1225 = true then ((paymasterlaw11_refused.f (⟨#[98, 32, 50, 10, 97, 32, 49]⟩ : ByteArray) 0 2 111).bind fun t1226 => (if t1226 = true then ((paymasterlaw11_refused.f (⟨#[98, 32, 50, 10, 97, 32, 49, 10, 97, 32, 51]⟩ : ByteArray) 9 3 110).bind fun t1227 => (if t1227 = true then ((paymasterlaw11_refused.f (⟨#[98, 32, 50, 10, 97, 32, 49, 10, 97, 32, 51]⟩ : ByteArray) 1 3 111).bind fun t1228 => (if t1228 = true then ((paymasterlaw11_refused.f (⟨#[97, 32, 51, 52, 48, 50, 56, 50, 51, 54, 54, 57, 50, 48, 57, 51, 56, 52, 54, 51, 52, 54, 51, 51, 55, 52, 54, 48, 55, 52, 51, 49, 55, 54, 56, 50, 49, 49, 52, 53, 53, 10, 98, 32, 49]⟩ : ByteArray) 5 2 112).bind fun t1229 => (if t1229 = true then ((paymasterlaw11_refused.f (⟨#[97]⟩ : ByteArray) 11 0 120).bind fun t1230 => (if t1230 = true then ((paymasterlaw11_refused.f (⟨#[35, 10, 97]⟩ : ByteArray) 5 2 100).bind fun t1231 => (some t1231)) else (none))) else (none))) else (none))) else (none))) else (none))) else (none))))) else (none)) else (none))) = some r := h
  clear h
  replace H := Option.bind_eq_some_iff.mp H
  obtain ⟨⟨t1213, t1214, t1215⟩, A10, H⟩ := H
  replace H : (if t1215 = 0 then (if t1214 = 0 then ((u128_Of.f 1).bind fun bt1218 => ((u128_Of.f 2).bind fun bt1220 => ((paymasterref10_Same.f k t1213 (([(⟨(⟨#[97]⟩ : ByteArray), (⟨bt1218.1, bt1218.2⟩ : S42)⟩ : S44), (⟨(⟨#[98]⟩ : ByteArray), (⟨bt1220.1, bt1220.2⟩ : S42)⟩ : S44)] : List (S44)))).bind fun t1225 => (if t1225 = true then ((paymasterlaw11_refused.f (⟨#[98, 32, 50, 10, 97, 32, 49]⟩ : ByteArray) 0 2 111).bind fun t1226 => (if t1226 = true then ((paymasterlaw11_refused.f (⟨#[98, 32, 50, 10, 97, 32, 49, 10, 97, 32, 51]⟩ : ByteArray) 9 3 110).bind fun t1227 => (if t1227 = true then ((paymasterlaw11_refused.f (⟨#[98, 32, 50, 10, 97, 32, 49, 10, 97, 32, 51]⟩ : ByteArray) 1 3 111).bind fun t1228 => (if t1228 = true then ((paymasterlaw11_refused.f (⟨#[97, 32, 51, 52, 48, 50, 56, 50, 51, 54, 54, 57, 50, 48, 57, 51, 56, 52, 54, 51, 52, 54, 51, 51, 55, 52, 54, 48, 55, 52, 51, 49, 55, 54, 56, 50, 49, 49, 52, 53, 53, 10, 98, 32, 49]⟩ : ByteArray) 5 2 112).bind fun t1229 => (if t1229 = true then ((paymasterlaw11_refused.f (⟨#[97]⟩ : ByteArray) 11 0 120).bind fun t1230 => (if t1230 = true then ((paymasterlaw11_refused.f (⟨#[35, 10, 97]⟩ : ByteArray) 5 2 100).bind fun t1231 => (some t1231)) else (none))) else (none))) else (none))) else (none))) else (none))) else (none))))) else (none)) else (none)) = some r := H
  have A1 := Aside0.mk A10
  clear A10
  by_cases c2 : t1215 = 0
  · rw [if_pos c2] at H
    have c2b0 : (t1215 == 0) = true := beq_iff_eq.mpr c2
    have c2b1 : (t1215 != 0) = false := bne_eq_false_iff_eq.mpr c2
    clear c2
    by_cases c3 : t1214 = 0
    · rw [if_pos c3] at H
      have c3b0 : (t1214 == 0) = true := beq_iff_eq.mpr c3
      have c3b1 : (t1214 != 0) = false := bne_eq_false_iff_eq.mpr c3
      clear c3
      replace H := Option.bind_eq_some_iff.mp H
      obtain ⟨⟨t1218, t1219⟩, A40, H⟩ := H
      replace H : ((u128_Of.f 2).bind fun bt1220 => ((paymasterref10_Same.f k t1213 (([(⟨(⟨#[97]⟩ : ByteArray), (⟨t1218, t1219⟩ : S42)⟩ : S44), (⟨(⟨#[98]⟩ : ByteArray), (⟨bt1220.1, bt1220.2⟩ : S42)⟩ : S44)] : List (S44)))).bind fun t1225 => (if t1225 = true then ((paymasterlaw11_refused.f (⟨#[98, 32, 50, 10, 97, 32, 49]⟩ : ByteArray) 0 2 111).bind fun t1226 => (if t1226 = true then ((paymasterlaw11_refused.f (⟨#[98, 32, 50, 10, 97, 32, 49, 10, 97, 32, 51]⟩ : ByteArray) 9 3 110).bind fun t1227 => (if t1227 = true then ((paymasterlaw11_refused.f (⟨#[98, 32, 50, 10, 97, 32, 49, 10, 97, 32, 51]⟩ : ByteArray) 1 3 111).bind fun t1228 => (if t1228 = true then ((paymasterlaw11_refused.f (⟨#[97, 32, 51, 52, 48, 50, 56, 50, 51, 54, 54, 57, 50, 48, 57, 51, 56, 52, 54, 51, 52, 54, 51, 51, 55, 52, 54, 48, 55, 52, 51, 49, 55, 54, 56, 50, 49, 49, 52, 53, 53, 10, 98, 32, 49]⟩ : ByteArray) 5 2 112).bind fun t1229 => (if t1229 = true then ((paymasterlaw11_refused.f (⟨#[97]⟩ : ByteArray) 11 0 120).bind fun t1230 => (if t1230 = true then ((paymasterlaw11_refused.f (⟨#[35, 10, 97]⟩ : ByteArray) 5 2 100).bind fun t1231 => (some t1231)) else (none))) else (none))) else (none))) else (none))) else (none))) else (none)))) = some r := H
      have A4 := Aside0.mk A40
      clear A40
      replace H := Option.bind_eq_some_iff.mp H
      obtain ⟨⟨t1220, t1221⟩, A50, H⟩ := H
      replace H : ((paymasterref10_Same.f k t1213 (([(⟨(⟨#[97]⟩ : ByteArray), (⟨t1218, t1219⟩ : S42)⟩ : S44), (⟨(⟨#[98]⟩ : ByteArray), (⟨t1220, t1221⟩ : S42)⟩ : S44)] : List (S44)))).bind fun t1225 => (if t1225 = true then ((paymasterlaw11_refused.f (⟨#[98, 32, 50, 10, 97, 32, 49]⟩ : ByteArray) 0 2 111).bind fun t1226 => (if t1226 = true then ((paymasterlaw11_refused.f (⟨#[98, 32, 50, 10, 97, 32, 49, 10, 97, 32, 51]⟩ : ByteArray) 9 3 110).bind fun t1227 => (if t1227 = true then ((paymasterlaw11_refused.f (⟨#[98, 32, 50, 10, 97, 32, 49, 10, 97, 32, 51]⟩ : ByteArray) 1 3 111).bind fun t1228 => (if t1228 = true then ((paymasterlaw11_refused.f (⟨#[97, 32, 51, 52, 48, 50, 56, 50, 51, 54, 54, 57, 50, 48, 57, 51, 56, 52, 54, 51, 52, 54, 51, 51, 55, 52, 54, 48, 55, 52, 51, 49, 55, 54, 56, 50, 49, 49, 52, 53, 53, 10, 98, 32, 49]⟩ : ByteArray) 5 2 112).bind fun t1229 => (if t1229 = true then ((paymasterlaw11_refused.f (⟨#[97]⟩ : ByteArray) 11 0 120).bind fun t1230 => (if t1230 = true then ((paymasterlaw11_refused.f (⟨#[35, 10, 97]⟩ : ByteArray) 5 2 100).bind fun t1231 => (some t1231)) else (none))) else (none))) else (none))) else (none))) else (none))) else (none))) = some r := H
      have A5 := Aside0.mk A50
      clear A50
      obtain ⟨y1222, hy1222⟩ : ∃ y_ : List (S44), y_ = (([(⟨(⟨#[97]⟩ : ByteArray), (⟨t1218, t1219⟩ : S42)⟩ : S44), (⟨(⟨#[98]⟩ : ByteArray), (⟨t1220, t1221⟩ : S42)⟩ : S44)] : List (S44))) := ⟨_, rfl⟩
      replace H : ((paymasterref10_Same.f k t1213 y1222).bind fun t1225 => (if t1225 = true then ((paymasterlaw11_refused.f (⟨#[98, 32, 50, 10, 97, 32, 49]⟩ : ByteArray) 0 2 111).bind fun t1226 => (if t1226 = true then ((paymasterlaw11_refused.f (⟨#[98, 32, 50, 10, 97, 32, 49, 10, 97, 32, 51]⟩ : ByteArray) 9 3 110).bind fun t1227 => (if t1227 = true then ((paymasterlaw11_refused.f (⟨#[98, 32, 50, 10, 97, 32, 49, 10, 97, 32, 51]⟩ : ByteArray) 1 3 111).bind fun t1228 => (if t1228 = true then ((paymasterlaw11_refused.f (⟨#[97, 32, 51, 52, 48, 50, 56, 50, 51, 54, 54, 57, 50, 48, 57, 51, 56, 52, 54, 51, 52, 54, 51, 51, 55, 52, 54, 48, 55, 52, 51, 49, 55, 54, 56, 50, 49, 49, 52, 53, 53, 10, 98, 32, 49]⟩ : ByteArray) 5 2 112).bind fun t1229 => (if t1229 = true then ((paymasterlaw11_refused.f (⟨#[97]⟩ : ByteArray) 11 0 120).bind fun t1230 => (if t1230 = true then ((paymasterlaw11_refused.f (⟨#[35, 10, 97]⟩ : ByteArray) 5 2 100).bind fun t1231 => (some t1231)) else (none))) else (none))) else (none))) else (none))) else (none))) else (none))) = some r := by first | (rw [hy1222]; with_reducible exact H) | (have H2_ := (Option.bind_some _ _).symm.trans H; rw [hy1222]; with_reducible exact H2_) | (have H2_ := (Option.bind_some _ _).symm.trans H; with_reducible exact H2_) | with_reducible exact H | (rw [hy1222]; exact H) | exact H
      have Ny1222 := Aside0.mk hy1222
      clear hy1222
      replace H := Option.bind_eq_some_iff.mp H
      obtain ⟨t1225, A60, H⟩ := H
      replace H : (if t1225 = true then ((paymasterlaw11_refused.f (⟨#[98, 32, 50, 10, 97, 32, 49]⟩ : ByteArray) 0 2 111).bind fun t1226 => (if t1226 = true then ((paymasterlaw11_refused.f (⟨#[98, 32, 50, 10, 97, 32, 49, 10, 97, 32, 51]⟩ : ByteArray) 9 3 110).bind fun t1227 => (if t1227 = true then ((paymasterlaw11_refused.f (⟨#[98, 32, 50, 10, 97, 32, 49, 10, 97, 32, 51]⟩ : ByteArray) 1 3 111).bind fun t1228 => (if t1228 = true then ((paymasterlaw11_refused.f (⟨#[97, 32, 51, 52, 48, 50, 56, 50, 51, 54, 54, 57, 50, 48, 57, 51, 56, 52, 54, 51, 52, 54, 51, 51, 55, 52, 54, 48, 55, 52, 51, 49, 55, 54, 56, 50, 49, 49, 52, 53, 53, 10, 98, 32, 49]⟩ : ByteArray) 5 2 112).bind fun t1229 => (if t1229 = true then ((paymasterlaw11_refused.f (⟨#[97]⟩ : ByteArray) 11 0 120).bind fun t1230 => (if t1230 = true then ((paymasterlaw11_refused.f (⟨#[35, 10, 97]⟩ : ByteArray) 5 2 100).bind fun t1231 => (some t1231)) else (none))) else (none))) else (none))) else (none))) else (none))) else (none)) = some r := H
      have A6 := Aside0.mk A60
      clear A60
      by_cases c7 : t1225 = true
      · subst c7
        have H1 : ((paymasterlaw11_refused.f (⟨#[98, 32, 50, 10, 97, 32, 49]⟩ : ByteArray) 0 2 111).bind fun t1226 => (if t1226 = true then ((paymasterlaw11_refused.f (⟨#[98, 32, 50, 10, 97, 32, 49, 10, 97, 32, 51]⟩ : ByteArray) 9 3 110).bind fun t1227 => (if t1227 = true then ((paymasterlaw11_refused.f (⟨#[98, 32, 50, 10, 97, 32, 49, 10, 97, 32, 51]⟩ : ByteArray) 1 3 111).bind fun t1228 => (if t1228 = true then ((paymasterlaw11_refused.f (⟨#[97, 32, 51, 52, 48, 50, 56, 50, 51, 54, 54, 57, 50, 48, 57, 51, 56, 52, 54, 51, 52, 54, 51, 51, 55, 52, 54, 48, 55, 52, 51, 49, 55, 54, 56, 50, 49, 49, 52, 53, 53, 10, 98, 32, 49]⟩ : ByteArray) 5 2 112).bind fun t1229 => (if t1229 = true then ((paymasterlaw11_refused.f (⟨#[97]⟩ : ByteArray) 11 0 120).bind fun t1230 => (if t1230 = true then ((paymasterlaw11_refused.f (⟨#[35, 10, 97]⟩ : ByteArray) 5 2 100).bind fun t1231 => (some t1231)) else (none))) else (none))) else (none))) else (none))) else (none))) = some r := by rw [if_pos rfl] at H; exact H
        clear H
        have H := H1
        clear H1
        replace H := Option.bind_eq_some_iff.mp H
        obtain ⟨t1226, A80, H⟩ := H
        replace H : (if t1226 = true then ((paymasterlaw11_refused.f (⟨#[98, 32, 50, 10, 97, 32, 49, 10, 97, 32, 51]⟩ : ByteArray) 9 3 110).bind fun t1227 => (if t1227 = true then ((paymasterlaw11_refused.f (⟨#[98, 32, 50, 10, 97, 32, 49, 10, 97, 32, 51]⟩ : ByteArray) 1 3 111).bind fun t1228 => (if t1228 = true then ((paymasterlaw11_refused.f (⟨#[97, 32, 51, 52, 48, 50, 56, 50, 51, 54, 54, 57, 50, 48, 57, 51, 56, 52, 54, 51, 52, 54, 51, 51, 55, 52, 54, 48, 55, 52, 51, 49, 55, 54, 56, 50, 49, 49, 52, 53, 53, 10, 98, 32, 49]⟩ : ByteArray) 5 2 112).bind fun t1229 => (if t1229 = true then ((paymasterlaw11_refused.f (⟨#[97]⟩ : ByteArray) 11 0 120).bind fun t1230 => (if t1230 = true then ((paymasterlaw11_refused.f (⟨#[35, 10, 97]⟩ : ByteArray) 5 2 100).bind fun t1231 => (some t1231)) else (none))) else (none))) else (none))) else (none))) else (none)) = some r := H
        have A8 := Aside0.mk A80
        clear A80
        by_cases c9 : t1226 = true
        · subst c9
          have H1 : ((paymasterlaw11_refused.f (⟨#[98, 32, 50, 10, 97, 32, 49, 10, 97, 32, 51]⟩ : ByteArray) 9 3 110).bind fun t1227 => (if t1227 = true then ((paymasterlaw11_refused.f (⟨#[98, 32, 50, 10, 97, 32, 49, 10, 97, 32, 51]⟩ : ByteArray) 1 3 111).bind fun t1228 => (if t1228 = true then ((paymasterlaw11_refused.f (⟨#[97, 32, 51, 52, 48, 50, 56, 50, 51, 54, 54, 57, 50, 48, 57, 51, 56, 52, 54, 51, 52, 54, 51, 51, 55, 52, 54, 48, 55, 52, 51, 49, 55, 54, 56, 50, 49, 49, 52, 53, 53, 10, 98, 32, 49]⟩ : ByteArray) 5 2 112).bind fun t1229 => (if t1229 = true then ((paymasterlaw11_refused.f (⟨#[97]⟩ : ByteArray) 11 0 120).bind fun t1230 => (if t1230 = true then ((paymasterlaw11_refused.f (⟨#[35, 10, 97]⟩ : ByteArray) 5 2 100).bind fun t1231 => (some t1231)) else (none))) else (none))) else (none))) else (none))) = some r := by rw [if_pos rfl] at H; exact H
          clear H
          have H := H1
          clear H1
          replace H := Option.bind_eq_some_iff.mp H
          obtain ⟨t1227, A100, H⟩ := H
          replace H : (if t1227 = true then ((paymasterlaw11_refused.f (⟨#[98, 32, 50, 10, 97, 32, 49, 10, 97, 32, 51]⟩ : ByteArray) 1 3 111).bind fun t1228 => (if t1228 = true then ((paymasterlaw11_refused.f (⟨#[97, 32, 51, 52, 48, 50, 56, 50, 51, 54, 54, 57, 50, 48, 57, 51, 56, 52, 54, 51, 52, 54, 51, 51, 55, 52, 54, 48, 55, 52, 51, 49, 55, 54, 56, 50, 49, 49, 52, 53, 53, 10, 98, 32, 49]⟩ : ByteArray) 5 2 112).bind fun t1229 => (if t1229 = true then ((paymasterlaw11_refused.f (⟨#[97]⟩ : ByteArray) 11 0 120).bind fun t1230 => (if t1230 = true then ((paymasterlaw11_refused.f (⟨#[35, 10, 97]⟩ : ByteArray) 5 2 100).bind fun t1231 => (some t1231)) else (none))) else (none))) else (none))) else (none)) = some r := H
          have A10 := Aside0.mk A100
          clear A100
          by_cases c11 : t1227 = true
          · subst c11
            have H1 : ((paymasterlaw11_refused.f (⟨#[98, 32, 50, 10, 97, 32, 49, 10, 97, 32, 51]⟩ : ByteArray) 1 3 111).bind fun t1228 => (if t1228 = true then ((paymasterlaw11_refused.f (⟨#[97, 32, 51, 52, 48, 50, 56, 50, 51, 54, 54, 57, 50, 48, 57, 51, 56, 52, 54, 51, 52, 54, 51, 51, 55, 52, 54, 48, 55, 52, 51, 49, 55, 54, 56, 50, 49, 49, 52, 53, 53, 10, 98, 32, 49]⟩ : ByteArray) 5 2 112).bind fun t1229 => (if t1229 = true then ((paymasterlaw11_refused.f (⟨#[97]⟩ : ByteArray) 11 0 120).bind fun t1230 => (if t1230 = true then ((paymasterlaw11_refused.f (⟨#[35, 10, 97]⟩ : ByteArray) 5 2 100).bind fun t1231 => (some t1231)) else (none))) else (none))) else (none))) = some r := by rw [if_pos rfl] at H; exact H
            clear H
            have H := H1
            clear H1
            replace H := Option.bind_eq_some_iff.mp H
            obtain ⟨t1228, A120, H⟩ := H
            replace H : (if t1228 = true then ((paymasterlaw11_refused.f (⟨#[97, 32, 51, 52, 48, 50, 56, 50, 51, 54, 54, 57, 50, 48, 57, 51, 56, 52, 54, 51, 52, 54, 51, 51, 55, 52, 54, 48, 55, 52, 51, 49, 55, 54, 56, 50, 49, 49, 52, 53, 53, 10, 98, 32, 49]⟩ : ByteArray) 5 2 112).bind fun t1229 => (if t1229 = true then ((paymasterlaw11_refused.f (⟨#[97]⟩ : ByteArray) 11 0 120).bind fun t1230 => (if t1230 = true then ((paymasterlaw11_refused.f (⟨#[35, 10, 97]⟩ : ByteArray) 5 2 100).bind fun t1231 => (some t1231)) else (none))) else (none))) else (none)) = some r := H
            have A12 := Aside0.mk A120
            clear A120
            by_cases c13 : t1228 = true
            · subst c13
              have H1 : ((paymasterlaw11_refused.f (⟨#[97, 32, 51, 52, 48, 50, 56, 50, 51, 54, 54, 57, 50, 48, 57, 51, 56, 52, 54, 51, 52, 54, 51, 51, 55, 52, 54, 48, 55, 52, 51, 49, 55, 54, 56, 50, 49, 49, 52, 53, 53, 10, 98, 32, 49]⟩ : ByteArray) 5 2 112).bind fun t1229 => (if t1229 = true then ((paymasterlaw11_refused.f (⟨#[97]⟩ : ByteArray) 11 0 120).bind fun t1230 => (if t1230 = true then ((paymasterlaw11_refused.f (⟨#[35, 10, 97]⟩ : ByteArray) 5 2 100).bind fun t1231 => (some t1231)) else (none))) else (none))) = some r := by rw [if_pos rfl] at H; exact H
              clear H
              have H := H1
              clear H1
              replace H := Option.bind_eq_some_iff.mp H
              obtain ⟨t1229, A140, H⟩ := H
              replace H : (if t1229 = true then ((paymasterlaw11_refused.f (⟨#[97]⟩ : ByteArray) 11 0 120).bind fun t1230 => (if t1230 = true then ((paymasterlaw11_refused.f (⟨#[35, 10, 97]⟩ : ByteArray) 5 2 100).bind fun t1231 => (some t1231)) else (none))) else (none)) = some r := H
              have A14 := Aside0.mk A140
              clear A140
              by_cases c15 : t1229 = true
              · subst c15
                have H1 : ((paymasterlaw11_refused.f (⟨#[97]⟩ : ByteArray) 11 0 120).bind fun t1230 => (if t1230 = true then ((paymasterlaw11_refused.f (⟨#[35, 10, 97]⟩ : ByteArray) 5 2 100).bind fun t1231 => (some t1231)) else (none))) = some r := by rw [if_pos rfl] at H; exact H
                clear H
                have H := H1
                clear H1
                replace H := Option.bind_eq_some_iff.mp H
                obtain ⟨t1230, A160, H⟩ := H
                replace H : (if t1230 = true then ((paymasterlaw11_refused.f (⟨#[35, 10, 97]⟩ : ByteArray) 5 2 100).bind fun t1231 => (some t1231)) else (none)) = some r := H
                have A16 := Aside0.mk A160
                clear A160
                by_cases c17 : t1230 = true
                · subst c17
                  have H1 : ((paymasterlaw11_refused.f (⟨#[35, 10, 97]⟩ : ByteArray) 5 2 100).bind fun t1231 => (some t1231)) = some r := by rw [if_pos rfl] at H; exact H
                  clear H
                  have H := H1
                  clear H1
                  replace H := Option.bind_eq_some_iff.mp H
                  obtain ⟨t1231, A180, H⟩ := H
                  replace H : (some t1231) = some r := H
                  have A18 := Aside0.mk A180
                  clear A180
                  obtain rfl := Option.some.inj H
                  go_enter Tryd.func29, Tryd.ntmps29
                  go_wp2_with (first | ((with_reducible refine gate_callee (f := 32) rfl ?_); refine goesL_ (some 5) rfl rfl Tryd.func32 (by kernel_rfl) rfl #[.string (⟨#[98, 32, 50, 10, 97, 32, 49]⟩ : ByteArray), .int .i64 1] rfl (by (try simp only [List.map_toArray, List.map_cons, List.map_nil]); first | done | rfl | (simp only [List.length_drop, List.length_take]; rfl)) ?_; (with_reducible refine (ledger_Import.calls (⟨#[98, 32, 50, 10, 97, 32, 49]⟩ : ByteArray) 1 t1213 t1214 t1215 _ ?side1 A1.out).mono ?_); (case side1 => exact gt_below hG (by repeat (first | (with_reducible first | exact HB.out | apply below_alloc | apply pw_below_drewN | apply below_drew1) | exact HB.out))); rintro e w19 ⟨v1216, rfl, ho0, hb⟩; refine ⟨_, rfl, ?_⟩; have n0_ := Aside0.mk (Kd.R_lower ho0 (below_size (by repeat (first | (with_reducible first | exact HB.out | apply below_alloc | apply pw_below_drewN | apply below_drew1) | exact HB.out)))); have n1_ := Aside0.mk (below_step (by repeat (first | (with_reducible first | exact HB.out | apply below_alloc | apply pw_below_drewN | apply below_drew1) | exact HB.out)) hb); clear HB; have HO1217 := n0_; have HB := n1_; clear n0_ n1_; (try clear hb); (try clear hb2); (try clear hk); (try clear hi); (try clear ho0)) | (go_at_call 67; (with_reducible refine (u128_Of.calls 1 t1218 t1219 _ A4.out).mono ?_); rintro e w20 ⟨rfl, hb⟩; have n0_ := Aside0.mk (Kd.R_below (by (with_reducible repeat (first | apply Kd.R_alloc | apply Kd.R_drewN | apply Kd.R_drew)); exact HO1217.out) hb); have n1_ := Aside0.mk (below_step (by repeat (first | (with_reducible first | exact HB.out | apply below_alloc | apply pw_below_drewN | apply below_drew1) | exact HB.out)) hb); clear HO1217; clear HB; have HO1217 := n0_; have HB := n1_; clear n0_ n1_; (try clear hb); (try clear hb2); (try clear hk); (try clear hi)) | (go_at_call 67; (with_reducible refine (u128_Of.calls 2 t1220 t1221 _ A5.out).mono ?_); rintro e w21 ⟨rfl, hb⟩; have n0_ := Aside0.mk (Kd.R_below (by (with_reducible repeat (first | apply Kd.R_alloc | apply Kd.R_drewN | apply Kd.R_drew)); exact HO1217.out) hb); have n1_ := Aside0.mk (below_step (by repeat (first | (with_reducible first | exact HB.out | apply below_alloc | apply pw_below_drewN | apply below_drew1) | exact HB.out)) hb); clear HO1217; clear HB; have HO1217 := n0_; have HB := n1_; clear n0_ n1_; (try clear hb); (try clear hb2); (try clear hk); (try clear hi)) | ((with_reducible refine gate_dst (N := 21) rfl ?_); (try (refine gate_guard (by rfl) ?_; dsimp only)); refine Kd.R_lit k44 _ 44 ?hg (N := 21) ?hd (xs := ([(⟨(⟨#[97]⟩ : ByteArray), (⟨t1218, t1219⟩ : S42)⟩ : S44), (⟨(⟨#[98]⟩ : ByteArray), (⟨t1220, t1221⟩ : S42)⟩ : S44)] : List (S44))) (inner := [.string (⟨#[97]⟩ : ByteArray), .int .u64 t1218, .int .u64 t1219, .string (⟨#[98]⟩ : ByteArray), .int .u64 t1220, .int .u64 t1221]) (ok := fun _ => True) (okp := fun _ => True) ?hr ?hp (fun _ hk => hk) trivial (Below.refl _ _) (Nat.le_refl _) (by simp) ?_; (case hd => rfl); (case hg => rfl); (case hr => first | (go_simp; done) | (go_simp; rfl)); (case hp => exact (Reps.c3 (show Kd.M k44 _ _ _ (⟨(⟨#[97]⟩ : ByteArray), (⟨t1218, t1219⟩ : S42)⟩ : S44) [.string (⟨#[97]⟩ : ByteArray), .int .u64 t1218, .int .u64 t1219] from (k44_mkM _ _ _ (⟨(⟨#[97]⟩ : ByteArray), (⟨t1218, t1219⟩ : S42)⟩ : S44) )) (Reps.c3 (show Kd.M k44 _ _ _ (⟨(⟨#[98]⟩ : ByteArray), (⟨t1220, t1221⟩ : S42)⟩ : S44) [.string (⟨#[98]⟩ : ByteArray), .int .u64 t1220, .int .u64 t1221] from (k44_mkM _ _ _ (⟨(⟨#[98]⟩ : ByteArray), (⟨t1220, t1221⟩ : S42)⟩ : S44) )) (Reps.none _ _)))); intro v1223 w22 ho23 hb hg_ hnew_; clear hg_ hnew_; (first | rw [← Ny1222.out] at ho23 | (simp only [Int.reduceToNat] at ho23; rw [← Ny1222.out] at ho23)); have n0_ := Aside0.mk (Kd.R_elder' (by (with_reducible repeat (first | apply Kd.R_alloc | apply Kd.R_drewN | apply Kd.R_drew)); exact HO1217.out) (Kd.R_base ho23) hb); have n1_ := Aside0.mk (Kd.R_lower (Kd.R_new' ho23 (Kd.R_lt (by (with_reducible repeat (first | apply Kd.R_alloc | apply Kd.R_drewN | apply Kd.R_drew)); exact HO1217.out))) (below_size (by repeat (first | (with_reducible first | exact HB.out | apply below_alloc | apply pw_below_drewN | apply below_drew1) | exact HB.out)))); have n2_ := Aside0.mk (below_step (by repeat (first | (with_reducible first | exact HB.out | apply below_alloc | apply pw_below_drewN | apply below_drew1) | exact HB.out)) hb); clear HO1217; clear HB; have HO1217 := n0_; have HO1224 := n1_; have HB := n2_; clear n0_ n1_ n2_; clear hb ho23; obtain ⟨Ao24, co24, eo24⟩ := Kd.R_slice HO1217.out; subst eo24; obtain ⟨Ao25, co25, eo25⟩ := Kd.R_slice HO1224.out; subst eo25) | (go_at_call 28; (with_reducible refine (paymasterref10_Same.calls k _ _ t1213 _ _ y1222 true _ ?side1 ?side2 ?side3 ?side4 A6.out).mono ?_); (case side1 => repeat (first | exact (Kd.R_reads' HO1217.out).2.2 | (with_reducible refine Kd.C_alloc ?_ _) | (with_reducible refine Kd.C_drewN ?_ _) | (with_reducible refine Kd.C_drew ?_))); (case side2 => exact (Kd.R_reads' HO1217.out).2.1); (case side3 => repeat (first | exact (Kd.R_reads' HO1224.out).2.2 | (with_reducible refine Kd.C_alloc ?_ _) | (with_reducible refine Kd.C_drewN ?_ _) | (with_reducible refine Kd.C_drew ?_))); (case side4 => exact (Kd.R_reads' HO1224.out).2.1); rintro e w' ⟨rfl, ⟨nd, rfl⟩⟩) | (go_at_call 68; (with_reducible refine (paymasterlaw11_refused.calls (⟨#[98, 32, 50, 10, 97, 32, 49]⟩ : ByteArray) 0 2 111 true _ ?side1 A8.out).mono ?_); (case side1 => exact gt_below hG (by repeat (first | (with_reducible first | exact HB.out | apply below_alloc | apply pw_below_drewN | apply below_drew1) | exact HB.out))); rintro e w26 ⟨rfl, hb⟩; have n0_ := Aside0.mk (Kd.R_below (by (with_reducible repeat (first | apply Kd.R_alloc | apply Kd.R_drewN | apply Kd.R_drew)); exact HO1217.out) hb); have n1_ := Aside0.mk (Kd.R_below (by (with_reducible repeat (first | apply Kd.R_alloc | apply Kd.R_drewN | apply Kd.R_drew)); exact HO1224.out) hb); have n2_ := Aside0.mk (below_step (by repeat (first | (with_reducible first | exact HB.out | apply below_alloc | apply pw_below_drewN | apply below_drew1) | exact HB.out)) hb); clear HO1217; clear HO1224; clear HB; have HO1217 := n0_; have HO1224 := n1_; have HB := n2_; clear n0_ n1_ n2_; (try clear hb); (try clear hb2); (try clear hk); (try clear hi)) | (go_at_call 68; (with_reducible refine (paymasterlaw11_refused.calls (⟨#[98, 32, 50, 10, 97, 32, 49, 10, 97, 32, 51]⟩ : ByteArray) 9 3 110 true _ ?side1 A10.out).mono ?_); (case side1 => exact gt_below hG (by repeat (first | (with_reducible first | exact HB.out | apply below_alloc | apply pw_below_drewN | apply below_drew1) | exact HB.out))); rintro e w27 ⟨rfl, hb⟩; have n0_ := Aside0.mk (Kd.R_below (by (with_reducible repeat (first | apply Kd.R_alloc | apply Kd.R_drewN | apply Kd.R_drew)); exact HO1217.out) hb); have n1_ := Aside0.mk (Kd.R_below (by (with_reducible repeat (first | apply Kd.R_alloc | apply Kd.R_drewN | apply Kd.R_drew)); exact HO1224.out) hb); have n2_ := Aside0.mk (below_step (by repeat (first | (with_reducible first | exact HB.out | apply below_alloc | apply pw_below_drewN | apply below_drew1) | exact HB.out)) hb); clear HO1217; clear HO1224; clear HB; have HO1217 := n0_; have HO1224 := n1_; have HB := n2_; clear n0_ n1_ n2_; (try clear hb); (try clear hb2); (try clear hk); (try clear hi)) | (go_at_call 68; (with_reducible refine (paymasterlaw11_refused.calls (⟨#[98, 32, 50, 10, 97, 32, 49, 10, 97, 32, 51]⟩ : ByteArray) 1 3 111 true _ ?side1 A12.out).mono ?_); (case side1 => exact gt_below hG (by repeat (first | (with_reducible first | exact HB.out | apply below_alloc | apply pw_below_drewN | apply below_drew1) | exact HB.out))); rintro e w28 ⟨rfl, hb⟩; have n0_ := Aside0.mk (Kd.R_below (by (with_reducible repeat (first | apply Kd.R_alloc | apply Kd.R_drewN | apply Kd.R_drew)); exact HO1217.out) hb); have n1_ := Aside0.mk (Kd.R_below (by (with_reducible repeat (first | apply Kd.R_alloc | apply Kd.R_drewN | apply Kd.R_drew)); exact HO1224.out) hb); have n2_ := Aside0.mk (below_step (by repeat (first | (with_reducible first | exact HB.out | apply below_alloc | apply pw_below_drewN | apply below_drew1) | exact HB.out)) hb); clear HO1217; clear HO1224; clear HB; have HO1217 := n0_; have HO1224 := n1_; have HB := n2_; clear n0_ n1_ n2_; (try clear hb); (try clear hb2); (try clear hk); (try clear hi)) | (go_at_call 68; (with_reducible refine (paymasterlaw11_refused.calls (⟨#[97, 32, 51, 52, 48, 50, 56, 50, 51, 54, 54, 57, 50, 48, 57, 51, 56, 52, 54, 51, 52, 54, 51, 51, 55, 52, 54, 48, 55, 52, 51, 49, 55, 54, 56, 50, 49, 49, 52, 53, 53, 10, 98, 32, 49]⟩ : ByteArray) 5 2 112 true _ ?side1 A14.out).mono ?_); (case side1 => exact gt_below hG (by repeat (first | (with_reducible first | exact HB.out | apply below_alloc | apply pw_below_drewN | apply below_drew1) | exact HB.out))); rintro e w29 ⟨rfl, hb⟩; have n0_ := Aside0.mk (Kd.R_below (by (with_reducible repeat (first | apply Kd.R_alloc | apply Kd.R_drewN | apply Kd.R_drew)); exact HO1217.out) hb); have n1_ := Aside0.mk (Kd.R_below (by (with_reducible repeat (first | apply Kd.R_alloc | apply Kd.R_drewN | apply Kd.R_drew)); exact HO1224.out) hb); have n2_ := Aside0.mk (below_step (by repeat (first | (with_reducible first | exact HB.out | apply below_alloc | apply pw_below_drewN | apply below_drew1) | exact HB.out)) hb); clear HO1217; clear HO1224; clear HB; have HO1217 := n0_; have HO1224 := n1_; have HB := n2_; clear n0_ n1_ n2_; (try clear hb); (try clear hb2); (try clear hk); (try clear hi)) | (go_at_call 68; (with_reducible refine (paymasterlaw11_refused.calls (⟨#[97]⟩ : ByteArray) 11 0 120 true _ ?side1 A16.out).mono ?_); (case side1 => exact gt_below hG (by repeat (first | (with_reducible first | exact HB.out | apply below_alloc | apply pw_below_drewN | apply below_drew1) | exact HB.out))); rintro e w30 ⟨rfl, hb⟩; have n0_ := Aside0.mk (Kd.R_below (by (with_reducible repeat (first | apply Kd.R_alloc | apply Kd.R_drewN | apply Kd.R_drew)); exact HO1217.out) hb); have n1_ := Aside0.mk (Kd.R_below (by (with_reducible repeat (first | apply Kd.R_alloc | apply Kd.R_drewN | apply Kd.R_drew)); exact HO1224.out) hb); have n2_ := Aside0.mk (below_step (by repeat (first | (with_reducible first | exact HB.out | apply below_alloc | apply pw_below_drewN | apply below_drew1) | exact HB.out)) hb); clear HO1217; clear HO1224; clear HB; have HO1217 := n0_; have HO1224 := n1_; have HB := n2_; clear n0_ n1_ n2_; (try clear hb); (try clear hb2); (try clear hk); (try clear hi)) | (go_at_call 68; (with_reducible refine (paymasterlaw11_refused.calls (⟨#[35, 10, 97]⟩ : ByteArray) 5 2 100 t1231 _ ?side1 A18.out).mono ?_); (case side1 => exact gt_below hG (by repeat (first | (with_reducible first | exact HB.out | apply below_alloc | apply pw_below_drewN | apply below_drew1) | exact HB.out))); rintro e w31 ⟨rfl, hb⟩; have n0_ := Aside0.mk (Kd.R_below (by (with_reducible repeat (first | apply Kd.R_alloc | apply Kd.R_drewN | apply Kd.R_drew)); exact HO1217.out) hb); have n1_ := Aside0.mk (Kd.R_below (by (with_reducible repeat (first | apply Kd.R_alloc | apply Kd.R_drewN | apply Kd.R_drew)); exact HO1224.out) hb); have n2_ := Aside0.mk (below_step (by repeat (first | (with_reducible first | exact HB.out | apply below_alloc | apply pw_below_drewN | apply below_drew1) | exact HB.out)) hb); clear HO1217; clear HO1224; clear HB; have HO1217 := n0_; have HO1224 := n1_; have HB := n2_; clear n0_ n1_ n2_; (try clear hb); (try clear hb2); (try clear hk); (try clear hi)))
                  go_ret
                  exact ⟨by first | rfl | (simp [errW_none, errW_some] <;> rfl) | (simp [*, errW_none, errW_some] <;> rfl), by repeat (first | (with_reducible first | exact HB.out | apply below_alloc | apply pw_below_drewN | apply below_drew1) | exact HB.out)⟩
                · replace c17 := Bool.eq_false_iff.mpr c17
                  subst c17
                  have H1 : (none) = some r := by rw [if_neg (show ¬ (false = true) by decide)] at H; exact H
                  clear H
                  have H := H1
                  clear H1
                  exact absurd H (by simp)
              · replace c15 := Bool.eq_false_iff.mpr c15
                subst c15
                have H1 : (none) = some r := by rw [if_neg (show ¬ (false = true) by decide)] at H; exact H
                clear H
                have H := H1
                clear H1
                exact absurd H (by simp)
            · replace c13 := Bool.eq_false_iff.mpr c13
              subst c13
              have H1 : (none) = some r := by rw [if_neg (show ¬ (false = true) by decide)] at H; exact H
              clear H
              have H := H1
              clear H1
              exact absurd H (by simp)
          · replace c11 := Bool.eq_false_iff.mpr c11
            subst c11
            have H1 : (none) = some r := by rw [if_neg (show ¬ (false = true) by decide)] at H; exact H
            clear H
            have H := H1
            clear H1
            exact absurd H (by simp)
        · replace c9 := Bool.eq_false_iff.mpr c9
          subst c9
          have H1 : (none) = some r := by rw [if_neg (show ¬ (false = true) by decide)] at H; exact H
          clear H
          have H := H1
          clear H1
          exact absurd H (by simp)
      · replace c7 := Bool.eq_false_iff.mpr c7
        subst c7
        have H1 : (none) = some r := by rw [if_neg (show ¬ (false = true) by decide)] at H; exact H
        clear H
        have H := H1
        clear H1
        exact absurd H (by simp)
    · rw [if_neg c3] at H
      exact absurd H (by simp)
  · rw [if_neg c2] at H
    exact absurd H (by simp)
end Go.Proofs.YtpkjpiphjdpegaaDoor.P
