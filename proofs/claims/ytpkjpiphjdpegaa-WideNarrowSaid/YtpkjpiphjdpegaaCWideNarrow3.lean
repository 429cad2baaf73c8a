/- A program of this session wrote this text out of the session's own texts. (part 3 of 4) -/
import Derived.Test.YtpkjpiphjdpegaaCWideNarrow2
namespace Go.Proofs.Ytpkjpiphjdpegaa.P
open Go.RowKit Go.Proofs.YtpkjpiphjdpegaaW.PrintWords Go.Proofs.YtpkjpiphjdpegaaW.PrintLast Go.Proofs.YtpkjpiphjdpegaaW.PrintMore
attribute [local go_sem] max2_int min2_int max_two min_two max_three min_three max_four min_four
set_option linter.unusedVariables false
set_option linter.unusedSimpArgs false
attribute [local go_sem high] eqA25 eqA27
def paymasterlaw03_awake.f (k : Nat)  : Option (Bool) := (u128_Most.f).bind fun bt509 => ((wide_Of.f bt509.1 bt509.2).bind fun bt511 => ((u128_Of.f 1).bind fun bt514 => ((wide_Wide_Plus.f bt511.1 bt511.2.1 bt511.2.2 bt514.1 bt514.2).bind fun bt516 => ((wide_Wide_Narrow.f bt516.1 bt516.2.1 bt516.2.2).bind fun bt520 => ((u128_Of.f 3).bind fun bt524 => ((u128_Of.f 4).bind fun bt526 => ((wide_All.f k (([(⟨bt524.1, bt524.2⟩ : S25), (⟨bt526.1, bt526.2⟩ : S25)] : List (S25)))).bind fun bt531 => ((wide_Wide_Narrow.f bt531.1 bt531.2.1 bt531.2.2).bind fun bt534 => (if (bt516.1 == 1 && ((bt516.2.1 == 0 && (bt516.2.2 == 0)))) = true then (if bt520.2.2 = 10 then (if bt534.2.2 = 0 then ((u128_Of.f 7).bind fun bt538 => (if (bt534.1 == bt538.1 && (bt534.2.1 == bt538.2)) = true then ((u128_Of.f 3).bind fun bt540 => ((u128_Of.f 4).bind fun bt542 => ((u128_Of.f 5).bind fun bt547 => ((u128_Of.f 2).bind fun bt549 => ((wide_Balanced.f k (([(⟨bt540.1, bt540.2⟩ : S25), (⟨bt542.1, bt542.2⟩ : S25)] : List (S25))) (([(⟨bt547.1, bt547.2⟩ : S25), (⟨bt549.1, bt549.2⟩ : S25)] : List (S25)))).bind fun t554 => (if t554 = true then ((u128_Of.f 3).bind fun bt555 => ((wide_Balanced.f k (([(⟨bt555.1, bt555.2⟩ : S25)] : List (S25))) ([] : List (S25))).bind fun t560 => (if t560 = true then (none) else ((u128_Most.f).bind fun bt561 => ((wide_Of.f bt561.1 bt561.2).bind fun bt563 => ((wide_Less.f k bt563.1 bt563.2.1 bt563.2.2 bt516.1 bt516.2.1 bt516.2.2).bind fun t566 => (if t566 = true then ((wide_Less.f k bt516.1 bt516.2.1 bt516.2.2 bt516.1 bt516.2.1 bt516.2.2).bind fun t567 => (some (!t567))) else (none)))))))) else (none))))))) else (none))) else (none)) else (none)) else (none))))))))))
def paymasterlaw03_awake.T4 : Bool × List (List Nat × List Nat) := (true, [([], []), ([], []), ([0, 1], [0, 1]), ([2], [2]), ([3], [3]), ([4, 3], [3, 4]), ([3, 5], [3, 5]), ([6, 3], [6]), ([7], [7]), ([8, 7], [7, 8]), ([7, 9], [7, 9]), ([10, 7], [10]), ([11], [11]), ([11, 11], [11]), ([12, 13, 11], [11, 12, 13]), ([11, 14], [11, 14]), ([15, 13], [15]), ([16, 16], [16]), ([17, 16], [16]), ([17, 18, 16], [16, 17, 18]), ([18, 16], [16]), ([20, 16], [16]), ([20, 21, 16], [16, 20, 21]), ([19, 22, 21, 16], [16, 19, 22]), ([16, 23], [16, 23]), ([24, 23], [24]), ([25, 25], [25]), ([26, 25], [25, 26]), ([27, 26, 25], [25, 27]), ([28, 25], [25, 28]), ([25, 29], [25, 29]), ([30, 28], [30]), ([31, 31], [31]), ([32, 32, 31], [31, 32]), ([31], [31]), ([33, 34, 33, 31], [31, 33, 34]), ([31, 35], [31, 35]), ([36, 35], [36]), ([37], [37]), ([37], [37]), ([38, 39, 37, 37], [37, 38, 39]), ([40, 37], [37, 40]), ([37, 41], [37, 41]), ([42, 40, 0, 1, 2, 3, 4, 5, 6, 7, 8, 9, 10, 11, 12, 13, 14, 15, 16, 17, 18, 19, 20, 21, 22, 23, 24, 25, 26, 27, 28, 29, 30, 31, 32, 33, 34, 35, 36, 37, 38, 39, 40, 41, 42], [42])])
def paymasterlaw03_awake.B4 : List Nat := [0, 0, 3, 7, 15, 31, 63, 127, 255, 511, 1023, 2047, 4095, 4095, 16383, 32767, 65535, 131071, 262143, 524287, 524287, 1572863, 3670015, 8388607, 16777215, 33554431, 67108863, 134217727, 268435455, 536870911, 1073741823, 2147483647, 4294967295, 8589934591, 4294967295, 34359738367, 68719476735, 137438953471, 274877906943, 274877906943, 1099511627775, 2199023255551, 4398046511103, 8796093022207]
theorem paymasterlaw03_awake.tab4 : rtab .any (opsOf Try.f55 4) = paymasterlaw03_awake.T4 := by kernel_rfl
theorem paymasterlaw03_awake.bits4 : waitsOk paymasterlaw03_awake.T4.2 paymasterlaw03_awake.B4 = true := by kernel_rfl
set_option maxHeartbeats 8000000 in
set_option maxRecDepth 100000 in
theorem paymasterlaw03_awake.calls (k : Nat)  (r : Bool) (w : World) (h : paymasterlaw03_awake.f k  = some r) :
    Calls Try.prog 55 #[] w fun e w' => e = .returned (.bool r) ∧ Below w.heap.size w w' := by
  have hu27 := Try.underlying27
  have hu25 := Try.underlying25
  have HB := Aside0.mk (Below.refl w.heap.size w)
  have H : ((u128_Most.f).bind fun bt509 => ((wide_Of.f bt509.1 bt509.2).bind fun bt511 => ((u128_Of.f 1).bind fun bt514 => ((wide_Wide_Plus.f bt511.1 bt511.2.1 bt511.2.2 bt514.1 bt514.2).bind fun bt516 => ((wide_Wide_Narrow.f bt516.1 bt516.2.1 bt516.2.2).bind fun bt520 => ((u128_Of.f 3).bind fun bt524 => ((u128_Of.f 4).bind fun bt526 => ((wide_All.f k (([(⟨bt524.1, bt524.2⟩ : S25), (⟨bt526.1, bt526.2⟩ : S25)] : List (S25)))).bind fun bt531 => ((wide_Wide_Narrow.f bt531.1 bt531.2.1 bt531.2.2).bind fun bt534 => (if (bt516.1 == 1 && ((bt516.2.1 == 0 && (bt516.2.2 == 0)))) = true then (if bt520.2.2 = 10 then (if bt534.2.2 = 0 then ((u128_Of.f 7).bind fun bt538 => (if (bt534.1 == bt538.1 && (bt534.2.1 == bt538.2)) = true then ((u128_Of.f 3).bind fun bt540 => ((u128_Of.f 4).bind fun bt542 => ((u128_Of.f 5).bind fun bt547 => ((u128_Of.f 2).bind fun bt549 => ((wide_Balanced.f k (([(⟨bt540.1, bt540.2⟩ : S25), (⟨bt542.1, bt542.2⟩ : S25)] : List (S25))) (([(⟨bt547.1, bt547.2⟩ : S25), (⟨bt549.1, bt549.2⟩ : S25)] : List (S25)))).bind fun t554 => (if t554 = true then ((u128_Of.f 3).bind fun bt555 => ((wide_Balanced.f k (([(⟨bt555.1, bt555.2⟩ : S25)] : List (S25))) ([] : List (S25))).bind fun t560 => (if t560 = true then (none) else ((u128_Most.f).bind fun bt561 => ((wide_Of.f bt561.1 bt561.2).bind fun bt563 => ((wide_Less.f k bt563.1 bt563.2.1 bt563.2.2 bt516.1 bt516.2.1 bt516.2.2).bind fun t566 => (if t566 = true then ((wide_Less.f k bt516.1 bt516.2.1 bt516.2.2 bt516.1 bt516.2.1 bt516.2.2).bind fun t567 => (some (!t567))) else (none)))))))) else (none))))))) else (none))) else (none)) else (none)) else (none))))))))))) = some r := h
  clear h
  replace H := Option.bind_eq_some_iff.mp H
  obtain ⟨⟨t509, t510⟩, A10, H⟩ := H
  replace H : ((wide_Of.f t509 t510).bind fun bt511 => ((u128_Of.f 1).bind fun bt514 => ((wide_Wide_Plus.f bt511.1 bt511.2.1 bt511.2.2 bt514.1 bt514.2).bind fun bt516 => ((wide_Wide_Narrow.f bt516.1 bt516.2.1 bt516.2.2).bind fun bt520 => ((u128_Of.f 3).bind fun bt524 => ((u128_Of.f 4).bind fun bt526 => ((wide_All.f k (([(⟨bt524.1, bt524.2⟩ : S25), (⟨bt526.1, bt526.2⟩ : S25)] : List (S25)))).bind fun bt531 => ((wide_Wide_Narrow.f bt531.1 bt531.2.1 bt531.2.2).bind fun bt534 => (if (bt516.1 == 1 && ((bt516.2.1 == 0 && (bt516.2.2 == 0)))) = true then (if bt520.2.2 = 10 then (if bt534.2.2 = 0 then ((u128_Of.f 7).bind fun bt538 => (if (bt534.1 == bt538.1 && (bt534.2.1 == bt538.2)) = true then ((u128_Of.f 3).bind fun bt540 => ((u128_Of.f 4).bind fun bt542 => ((u128_Of.f 5).bind fun bt547 => ((u128_Of.f 2).bind fun bt549 => ((wide_Balanced.f k (([(⟨bt540.1, bt540.2⟩ : S25), (⟨bt542.1, bt542.2⟩ : S25)] : List (S25))) (([(⟨bt547.1, bt547.2⟩ : S25), (⟨bt549.1, bt549.2⟩ : S25)] : List (S25)))).bind fun t554 => (if t554 = true then ((u128_Of.f 3).bind fun bt555 => ((wide_Balanced.f k (([(⟨bt555.1, bt555.2⟩ : S25)] : List (S25))) ([] : List (S25))).bind fun t560 => (if t560 = true then (none) else ((u128_Most.f).bind fun bt561 => ((wide_Of.f bt561.1 bt561.2).bind fun bt563 => ((wide_Less.f k bt563.1 bt563.2.1 bt563.2.2 bt516.1 bt516.2.1 bt516.2.2).bind fun t566 => (if t566 = true then ((wide_Less.f k bt516.1 bt516.2.1 bt516.2.2 bt516.1 bt516.2.1 bt516.2.2).bind fun t567 => (some (!t567))) else (none)))))))) else (none))))))) else (none))) else (none)) else (none)) else (none)))))))))) = some r := H
  have A1 := Aside0.mk A10
  clear A10
  replace H := Option.bind_eq_some_iff.mp H
  obtain ⟨⟨t511, t512, t513⟩, A20, H⟩ := H
  replace H : ((u128_Of.f 1).bind fun bt514 => ((wide_Wide_Plus.f t511 t512 t513 bt514.1 bt514.2).bind fun bt516 => ((wide_Wide_Narrow.f bt516.1 bt516.2.1 bt516.2.2).bind fun bt520 => ((u128_Of.f 3).bind fun bt524 => ((u128_Of.f 4).bind fun bt526 => ((wide_All.f k (([(⟨bt524.1, bt524.2⟩ : S25), (⟨bt526.1, bt526.2⟩ : S25)] : List (S25)))).bind fun bt531 => ((wide_Wide_Narrow.f bt531.1 bt531.2.1 bt531.2.2).bind fun bt534 => (if (bt516.1 == 1 && ((bt516.2.1 == 0 && (bt516.2.2 == 0)))) = true then (if bt520.2.2 = 10 then (if bt534.2.2 = 0 then ((u128_Of.f 7).bind fun bt538 => (if (bt534.1 == bt538.1 && (bt534.2.1 == bt538.2)) = true then ((u128_Of.f 3).bind fun bt540 => ((u128_Of.f 4).bind fun bt542 => ((u128_Of.f 5).bind fun bt547 => ((u128_Of.f 2).bind fun bt549 => ((wide_Balanced.f k (([(⟨bt540.1, bt540.2⟩ : S25), (⟨bt542.1, bt542.2⟩ : S25)] : List (S25))) (([(⟨bt547.1, bt547.2⟩ : S25), (⟨bt549.1, bt549.2⟩ : S25)] : List (S25)))).bind fun t554 => (if t554 = true then ((u128_Of.f 3).bind fun bt555 => ((wide_Balanced.f k (([(⟨bt555.1, bt555.2⟩ : S25)] : List (S25))) ([] : List (S25))).bind fun t560 => (if t560 = true then (none) else ((u128_Most.f).bind fun bt561 => ((wide_Of.f bt561.1 bt561.2).bind fun bt563 => ((wide_Less.f k bt563.1 bt563.2.1 bt563.2.2 bt516.1 bt516.2.1 bt516.2.2).bind fun t566 => (if t566 = true then ((wide_Less.f k bt516.1 bt516.2.1 bt516.2.2 bt516.1 bt516.2.1 bt516.2.2).bind fun t567 => (some (!t567))) else (none)))))))) else (none))))))) else (none))) else (none)) else (none)) else (none))))))))) = some r := H
  have A2 := Aside0.mk A20
  clear A20
  replace H := Option.bind_eq_some_iff.mp H
  obtain ⟨⟨t514, t515⟩, A30, H⟩ := H
  replace H : ((wide_Wide_Plus.f t511 t512 t513 t514 t515).bind fun bt516 => ((wide_Wide_Narrow.f bt516.1 bt516.2.1 bt516.2.2).bind fun bt520 => ((u128_Of.f 3).bind fun bt524 => ((u128_Of.f 4).bind fun bt526 => ((wide_All.f k (([(⟨bt524.1, bt524.2⟩ : S25), (⟨bt526.1, bt526.2⟩ : S25)] : List (S25)))).bind fun bt531 => ((wide_Wide_Narrow.f bt531.1 bt531.2.1 bt531.2.2).bind fun bt534 => (if (bt516.1 == 1 && ((bt516.2.1 == 0 && (bt516.2.2 == 0)))) = true then (if bt520.2.2 = 10 then (if bt534.2.2 = 0 then ((u128_Of.f 7).bind fun bt538 => (if (bt534.1 == bt538.1 && (bt534.2.1 == bt538.2)) = true then ((u128_Of.f 3).bind fun bt540 => ((u128_Of.f 4).bind fun bt542 => ((u128_Of.f 5).bind fun bt547 => ((u128_Of.f 2).bind fun bt549 => ((wide_Balanced.f k (([(⟨bt540.1, bt540.2⟩ : S25), (⟨bt542.1, bt542.2⟩ : S25)] : List (S25))) (([(⟨bt547.1, bt547.2⟩ : S25), (⟨bt549.1, bt549.2⟩ : S25)] : List (S25)))).bind fun t554 => (if t554 = true then ((u128_Of.f 3).bind fun bt555 => ((wide_Balanced.f k (([(⟨bt555.1, bt555.2⟩ : S25)] : List (S25))) ([] : List (S25))).bind fun t560 => (if t560 = true then (none) else ((u128_Most.f).bind fun bt561 => ((wide_Of.f bt561.1 bt561.2).bind fun bt563 => ((wide_Less.f k bt563.1 bt563.2.1 bt563.2.2 bt516.1 bt516.2.1 bt516.2.2).bind fun t566 => (if t566 = true then ((wide_Less.f k bt516.1 bt516.2.1 bt516.2.2 bt516.1 bt516.2.1 bt516.2.2).bind fun t567 => (some (!t567))) else (none)))))))) else (none))))))) else (none))) else (none)) else (none)) else (none)))))))) = some r := H
  have A3 := Aside0.mk A30
  clear A30
  replace H := Option.bind_eq_some_iff.mp H
  obtain ⟨⟨t516, t517, t518⟩, A40, H⟩ := H
  replace H : ((wide_Wide_Narrow.f t516 t517 t518).bind fun bt520 => ((u128_Of.f 3).bind fun bt524 => ((u128_Of.f 4).bind fun bt526 => ((wide_All.f k (([(⟨bt524.1, bt524.2⟩ : S25), (⟨bt526.1, bt526.2⟩ : S25)] : List (S25)))).bind fun bt531 => ((wide_Wide_Narrow.f bt531.1 bt531.2.1 bt531.2.2).bind fun bt534 => (if (t516 == 1 && ((t517 == 0 && (t518 == 0)))) = true then (if bt520.2.2 = 10 then (if bt534.2.2 = 0 then ((u128_Of.f 7).bind fun bt538 => (if (bt534.1 == bt538.1 && (bt534.2.1 == bt538.2)) = true then ((u128_Of.f 3).bind fun bt540 => ((u128_Of.f 4).bind fun bt542 => ((u128_Of.f 5).bind fun bt547 => ((u128_Of.f 2).bind fun bt549 => ((wide_Balanced.f k (([(⟨bt540.1, bt540.2⟩ : S25), (⟨bt542.1, bt542.2⟩ : S25)] : List (S25))) (([(⟨bt547.1, bt547.2⟩ : S25), (⟨bt549.1, bt549.2⟩ : S25)] : List (S25)))).bind fun t554 => (if t554 = true then ((u128_Of.f 3).bind fun bt555 => ((wide_Balanced.f k (([(⟨bt555.1, bt555.2⟩ : S25)] : List (S25))) ([] : List (S25))).bind fun t560 => (if t560 = true then (none) else ((u128_Most.f).bind fun bt561 => ((wide_Of.f bt561.1 bt561.2).bind fun bt563 => ((wide_Less.f k bt563.1 bt563.2.1 bt563.2.2 t516 t517 t518).bind fun t566 => (if t566 = true then ((wide_Less.f k t516 t517 t518 t516 t517 t518).bind fun t567 => (some (!t567))) else (none)))))))) else (none))))))) else (none))) else (none)) else (none)) else (none))))))) = some r := H
  have A4 := Aside0.mk A40
  clear A40
  replace H := Option.bind_eq_some_iff.mp H
  obtain ⟨⟨t520, t521, t522⟩, A50, H⟩ := H
  replace H : ((u128_Of.f 3).bind fun bt524 => ((u128_Of.f 4).bind fun bt526 => ((wide_All.f k (([(⟨bt524.1, bt524.2⟩ : S25), (⟨bt526.1, bt526.2⟩ : S25)] : List (S25)))).bind fun bt531 => ((wide_Wide_Narrow.f bt531.1 bt531.2.1 bt531.2.2).bind fun bt534 => (if (t516 == 1 && ((t517 == 0 && (t518 == 0)))) = true then (if t522 = 10 then (if bt534.2.2 = 0 then ((u128_Of.f 7).bind fun bt538 => (if (bt534.1 == bt538.1 && (bt534.2.1 == bt538.2)) = true then ((u128_Of.f 3).bind fun bt540 => ((u128_Of.f 4).bind fun bt542 => ((u128_Of.f 5).bind fun bt547 => ((u128_Of.f 2).bind fun bt549 => ((wide_Balanced.f k (([(⟨bt540.1, bt540.2⟩ : S25), (⟨bt542.1, bt542.2⟩ : S25)] : List (S25))) (([(⟨bt547.1, bt547.2⟩ : S25), (⟨bt549.1, bt549.2⟩ : S25)] : List (S25)))).bind fun t554 => (if t554 = true then ((u128_Of.f 3).bind fun bt555 => ((wide_Balanced.f k (([(⟨bt555.1, bt555.2⟩ : S25)] : List (S25))) ([] : List (S25))).bind fun t560 => (if t560 = true then (none) else ((u128_Most.f).bind fun bt561 => ((wide_Of.f bt561.1 bt561.2).bind fun bt563 => ((wide_Less.f k bt563.1 bt563.2.1 bt563.2.2 t516 t517 t518).bind fun t566 => (if t566 = true then ((wide_Less.f k t516 t517 t518 t516 t517 t518).bind fun t567 => (some (!t567))) else (none)))))))) else (none))))))) else (none))) else (none)) else (none)) else (none)))))) = some r := H
  have A5 := Aside0.mk A50
  clear A50
  replace H := Option.bind_eq_some_iff.mp H
  obtain ⟨⟨t524, t525⟩, A60, H⟩ := H
  replace H : ((u128_Of.f 4).bind fun bt526 => ((wide_All.f k (([(⟨t524, t525⟩ : S25), (⟨bt526.1, bt526.2⟩ : S25)] : List (S25)))).bind fun bt531 => ((wide_Wide_Narrow.f bt531.1 bt531.2.1 bt531.2.2).bind fun bt534 => (if (t516 == 1 && ((t517 == 0 && (t518 == 0)))) = true then (if t522 = 10 then (if bt534.2.2 = 0 then ((u128_Of.f 7).bind fun bt538 => (if (bt534.1 == bt538.1 && (bt534.2.1 == bt538.2)) = true then ((u128_Of.f 3).bind fun bt540 => ((u128_Of.f 4).bind fun bt542 => ((u128_Of.f 5).bind fun bt547 => ((u128_Of.f 2).bind fun bt549 => ((wide_Balanced.f k (([(⟨bt540.1, bt540.2⟩ : S25), (⟨bt542.1, bt542.2⟩ : S25)] : List (S25))) (([(⟨bt547.1, bt547.2⟩ : S25), (⟨bt549.1, bt549.2⟩ : S25)] : List (S25)))).bind fun t554 => (if t554 = true then ((u128_Of.f 3).bind fun bt555 => ((wide_Balanced.f k (([(⟨bt555.1, bt555.2⟩ : S25)] : List (S25))) ([] : List (S25))).bind fun t560 => (if t560 = true then (none) else ((u128_Most.f).bind fun bt561 => ((wide_Of.f bt561.1 bt561.2).bind fun bt563 => ((wide_Less.f k bt563.1 bt563.2.1 bt563.2.2 t516 t517 t518).bind fun t566 => (if t566 = true then ((wide_Less.f k t516 t517 t518 t516 t517 t518).bind fun t567 => (some (!t567))) else (none)))))))) else (none))))))) else (none))) else (none)) else (none)) else (none))))) = some r := H
  have A6 := Aside0.mk A60
  clear A60
  replace H := Option.bind_eq_some_iff.mp H
  obtain ⟨⟨t526, t527⟩, A70, H⟩ := H
  replace H : ((wide_All.f k (([(⟨t524, t525⟩ : S25), (⟨t526, t527⟩ : S25)] : List (S25)))).bind fun bt531 => ((wide_Wide_Narrow.f bt531.1 bt531.2.1 bt531.2.2).bind fun bt534 => (if (t516 == 1 && ((t517 == 0 && (t518 == 0)))) = true then (if t522 = 10 then (if bt534.2.2 = 0 then ((u128_Of.f 7).bind fun bt538 => (if (bt534.1 == bt538.1 && (bt534.2.1 == bt538.2)) = true then ((u128_Of.f 3).bind fun bt540 => ((u128_Of.f 4).bind fun bt542 => ((u128_Of.f 5).bind fun bt547 => ((u128_Of.f 2).bind fun bt549 => ((wide_Balanced.f k (([(⟨bt540.1, bt540.2⟩ : S25), (⟨bt542.1, bt542.2⟩ : S25)] : List (S25))) (([(⟨bt547.1, bt547.2⟩ : S25), (⟨bt549.1, bt549.2⟩ : S25)] : List (S25)))).bind fun t554 => (if t554 = true then ((u128_Of.f 3).bind fun bt555 => ((wide_Balanced.f k (([(⟨bt555.1, bt555.2⟩ : S25)] : List (S25))) ([] : List (S25))).bind fun t560 => (if t560 = true then (none) else ((u128_Most.f).bind fun bt561 => ((wide_Of.f bt561.1 bt561.2).bind fun bt563 => ((wide_Less.f k bt563.1 bt563.2.1 bt563.2.2 t516 t517 t518).bind fun t566 => (if t566 = true then ((wide_Less.f k t516 t517 t518 t516 t517 t518).bind fun t567 => (some (!t567))) else (none)))))))) else (none))))))) else (none))) else (none)) else (none)) else (none)))) = some r := H
  have A7 := Aside0.mk A70
  clear A70
  obtain ⟨y528, hy528⟩ : ∃ y_ : List (S25), y_ = (([(⟨t524, t525⟩ : S25), (⟨t526, t527⟩ : S25)] : List (S25))) := ⟨_, rfl⟩
  replace H : ((wide_All.f k y528).bind fun bt531 => ((wide_Wide_Narrow.f bt531.1 bt531.2.1 bt531.2.2).bind fun bt534 => (if (t516 == 1 && ((t517 == 0 && (t518 == 0)))) = true then (if t522 = 10 then (if bt534.2.2 = 0 then ((u128_Of.f 7).bind fun bt538 => (if (bt534.1 == bt538.1 && (bt534.2.1 == bt538.2)) = true then ((u128_Of.f 3).bind fun bt540 => ((u128_Of.f 4).bind fun bt542 => ((u128_Of.f 5).bind fun bt547 => ((u128_Of.f 2).bind fun bt549 => ((wide_Balanced.f k (([(⟨bt540.1, bt540.2⟩ : S25), (⟨bt542.1, bt542.2⟩ : S25)] : List (S25))) (([(⟨bt547.1, bt547.2⟩ : S25), (⟨bt549.1, bt549.2⟩ : S25)] : List (S25)))).bind fun t554 => (if t554 = true then ((u128_Of.f 3).bind fun bt555 => ((wide_Balanced.f k (([(⟨bt555.1, bt555.2⟩ : S25)] : List (S25))) ([] : List (S25))).bind fun t560 => (if t560 = true then (none) else ((u128_Most.f).bind fun bt561 => ((wide_Of.f bt561.1 bt561.2).bind fun bt563 => ((wide_Less.f k bt563.1 bt563.2.1 bt563.2.2 t516 t517 t518).bind fun t566 => (if t566 = true then ((wide_Less.f k t516 t517 t518 t516 t517 t518).bind fun t567 => (some (!t567))) else (none)))))))) else (none))))))) else (none))) else (none)) else (none)) else (none)))) = some r := by first | (rw [hy528]; with_reducible exact H) | (have H2_ := (Option.bind_some _ _).symm.trans H; rw [hy528]; with_reducible exact H2_) | (have H2_ := (Option.bind_some _ _).symm.trans H; with_reducible exact H2_) | with_reducible exact H | (rw [hy528]; exact H) | exact H
  have Ny528 := Aside0.mk hy528
  clear hy528
  replace H := Option.bind_eq_some_iff.mp H
  obtain ⟨⟨t531, t532, t533⟩, A80, H⟩ := H
  replace H : ((wide_Wide_Narrow.f t531 t532 t533).bind fun bt534 => (if (t516 == 1 && ((t517 == 0 && (t518 == 0)))) = true then (if t522 = 10 then (if bt534.2.2 = 0 then ((u128_Of.f 7).bind fun bt538 => (if (bt534.1 == bt538.1 && (bt534.2.1 == bt538.2)) = true then ((u128_Of.f 3).bind fun bt540 => ((u128_Of.f 4).bind fun bt542 => ((u128_Of.f 5).bind fun bt547 => ((u128_Of.f 2).bind fun bt549 => ((wide_Balanced.f k (([(⟨bt540.1, bt540.2⟩ : S25), (⟨bt542.1, bt542.2⟩ : S25)] : List (S25))) (([(⟨bt547.1, bt547.2⟩ : S25), (⟨bt549.1, bt549.2⟩ : S25)] : List (S25)))).bind fun t554 => (if t554 = true then ((u128_Of.f 3).bind fun bt555 => ((wide_Balanced.f k (([(⟨bt555.1, bt555.2⟩ : S25)] : List (S25))) ([] : List (S25))).bind fun t560 => (if t560 = true then (none) else ((u128_Most.f).bind fun bt561 => ((wide_Of.f bt561.1 bt561.2).bind fun bt563 => ((wide_Less.f k bt563.1 bt563.2.1 bt563.2.2 t516 t517 t518).bind fun t566 => (if t566 = true then ((wide_Less.f k t516 t517 t518 t516 t517 t518).bind fun t567 => (some (!t567))) else (none)))))))) else (none))))))) else (none))) else (none)) else (none)) else (none))) = some r := H
  have A8 := Aside0.mk A80
  clear A80
  replace H := Option.bind_eq_some_iff.mp H
  obtain ⟨⟨t534, t535, t536⟩, A90, H⟩ := H
  replace H : (if (t516 == 1 && ((t517 == 0 && (t518 == 0)))) = true then (if t522 = 10 then (if t536 = 0 then ((u128_Of.f 7).bind fun bt538 => (if (t534 == bt538.1 && (t535 == bt538.2)) = true then ((u128_Of.f 3).bind fun bt540 => ((u128_Of.f 4).bind fun bt542 => ((u128_Of.f 5).bind fun bt547 => ((u128_Of.f 2).bind fun bt549 => ((wide_Balanced.f k (([(⟨bt540.1, bt540.2⟩ : S25), (⟨bt542.1, bt542.2⟩ : S25)] : List (S25))) (([(⟨bt547.1, bt547.2⟩ : S25), (⟨bt549.1, bt549.2⟩ : S25)] : List (S25)))).bind fun t554 => (if t554 = true then ((u128_Of.f 3).bind fun bt555 => ((wide_Balanced.f k (([(⟨bt555.1, bt555.2⟩ : S25)] : List (S25))) ([] : List (S25))).bind fun t560 => (if t560 = true then (none) else ((u128_Most.f).bind fun bt561 => ((wide_Of.f bt561.1 bt561.2).bind fun bt563 => ((wide_Less.f k bt563.1 bt563.2.1 bt563.2.2 t516 t517 t518).bind fun t566 => (if t566 = true then ((wide_Less.f k t516 t517 t518 t516 t517 t518).bind fun t567 => (some (!t567))) else (none)))))))) else (none))))))) else (none))) else (none)) else (none)) else (none)) = some r := H
  have A9 := Aside0.mk A90
  clear A90
  by_cases c10 : (t516 == 1 && ((t517 == 0 && (t518 == 0)))) = true
  · rw [if_pos c10] at H
    have c10b0 : (t516 == 1 && ((t517 == 0 && (t518 == 0)))) = true := c10
    (try (have c10b1 : decide (t516 = 1 && ((t517 == 0 && (t518 == 0)))) = true := by simpa using c10))
    (try (have c10b2 : (t516 == 1 && ((t517 == 0 && (t518 == 0)))) = true := by simpa using c10))
    clear c10
    by_cases c11 : t522 = 10
    · rw [if_pos c11] at H
      have c11b0 : (t522 == 10) = true := beq_iff_eq.mpr c11
      have c11b1 : (t522 != 10) = false := bne_eq_false_iff_eq.mpr c11
      clear c11
      by_cases c12 : t536 = 0
      · rw [if_pos c12] at H
        have c12b0 : (t536 == 0) = true := beq_iff_eq.mpr c12
        have c12b1 : (t536 != 0) = false := bne_eq_false_iff_eq.mpr c12
        clear c12
        replace H := Option.bind_eq_some_iff.mp H
        obtain ⟨⟨t538, t539⟩, A130, H⟩ := H
        replace H : (if (t534 == t538 && (t535 == t539)) = true then ((u128_Of.f 3).bind fun bt540 => ((u128_Of.f 4).bind fun bt542 => ((u128_Of.f 5).bind fun bt547 => ((u128_Of.f 2).bind fun bt549 => ((wide_Balanced.f k (([(⟨bt540.1, bt540.2⟩ : S25), (⟨bt542.1, bt542.2⟩ : S25)] : List (S25))) (([(⟨bt547.1, bt547.2⟩ : S25), (⟨bt549.1, bt549.2⟩ : S25)] : List (S25)))).bind fun t554 => (if t554 = true then ((u128_Of.f 3).bind fun bt555 => ((wide_Balanced.f k (([(⟨bt555.1, bt555.2⟩ : S25)] : List (S25))) ([] : List (S25))).bind fun t560 => (if t560 = true then (none) else ((u128_Most.f).bind fun bt561 => ((wide_Of.f bt561.1 bt561.2).bind fun bt563 => ((wide_Less.f k bt563.1 bt563.2.1 bt563.2.2 t516 t517 t518).bind fun t566 => (if t566 = true then ((wide_Less.f k t516 t517 t518 t516 t517 t518).bind fun t567 => (some (!t567))) else (none)))))))) else (none))))))) else (none)) = some r := H
        have A13 := Aside0.mk A130
        clear A130
        by_cases c14 : (t534 == t538 && (t535 == t539)) = true
        · rw [if_pos c14] at H
          have c14b0 : (t534 == t538 && (t535 == t539)) = true := c14
          (try (have c14b1 : decide (t534 = t538 && (t535 == t539)) = true := by simpa using c14))
          (try (have c14b2 : (t534 == t538 && (t535 == t539)) = true := by simpa using c14))
          clear c14
          replace H := Option.bind_eq_some_iff.mp H
          obtain ⟨⟨t540, t541⟩, A150, H⟩ := H
          replace H : ((u128_Of.f 4).bind fun bt542 => ((u128_Of.f 5).bind fun bt547 => ((u128_Of.f 2).bind fun bt549 => ((wide_Balanced.f k (([(⟨t540, t541⟩ : S25), (⟨bt542.1, bt542.2⟩ : S25)] : List (S25))) (([(⟨bt547.1, bt547.2⟩ : S25), (⟨bt549.1, bt549.2⟩ : S25)] : List (S25)))).bind fun t554 => (if t554 = true then ((u128_Of.f 3).bind fun bt555 => ((wide_Balanced.f k (([(⟨bt555.1, bt555.2⟩ : S25)] : List (S25))) ([] : List (S25))).bind fun t560 => (if t560 = true then (none) else ((u128_Most.f).bind fun bt561 => ((wide_Of.f bt561.1 bt561.2).bind fun bt563 => ((wide_Less.f k bt563.1 bt563.2.1 bt563.2.2 t516 t517 t518).bind fun t566 => (if t566 = true then ((wide_Less.f k t516 t517 t518 t516 t517 t518).bind fun t567 => (some (!t567))) else (none)))))))) else (none)))))) = some r := H
          have A15 := Aside0.mk A150
          clear A150
          replace H := Option.bind_eq_some_iff.mp H
          obtain ⟨⟨t542, t543⟩, A160, H⟩ := H
          replace H : ((u128_Of.f 5).bind fun bt547 => ((u128_Of.f 2).bind fun bt549 => ((wide_Balanced.f k (([(⟨t540, t541⟩ : S25), (⟨t542, t543⟩ : S25)] : List (S25))) (([(⟨bt547.1, bt547.2⟩ : S25), (⟨bt549.1, bt549.2⟩ : S25)] : List (S25)))).bind fun t554 => (if t554 = true then ((u128_Of.f 3).bind fun bt555 => ((wide_Balanced.f k (([(⟨bt555.1, bt555.2⟩ : S25)] : List (S25))) ([] : List (S25))).bind fun t560 => (if t560 = true then (none) else ((u128_Most.f).bind fun bt561 => ((wide_Of.f bt561.1 bt561.2).bind fun bt563 => ((wide_Less.f k bt563.1 bt563.2.1 bt563.2.2 t516 t517 t518).bind fun t566 => (if t566 = true then ((wide_Less.f k t516 t517 t518 t516 t517 t518).bind fun t567 => (some (!t567))) else (none)))))))) else (none))))) = some r := H
          have A16 := Aside0.mk A160
          clear A160
          obtain ⟨y544, hy544⟩ : ∃ y_ : List (S25), y_ = (([(⟨t540, t541⟩ : S25), (⟨t542, t543⟩ : S25)] : List (S25))) := ⟨_, rfl⟩
          replace H : ((u128_Of.f 5).bind fun bt547 => ((u128_Of.f 2).bind fun bt549 => ((wide_Balanced.f k y544 (([(⟨bt547.1, bt547.2⟩ : S25), (⟨bt549.1, bt549.2⟩ : S25)] : List (S25)))).bind fun t554 => (if t554 = true then ((u128_Of.f 3).bind fun bt555 => ((wide_Balanced.f k (([(⟨bt555.1, bt555.2⟩ : S25)] : List (S25))) ([] : List (S25))).bind fun t560 => (if t560 = true then (none) else ((u128_Most.f).bind fun bt561 => ((wide_Of.f bt561.1 bt561.2).bind fun bt563 => ((wide_Less.f k bt563.1 bt563.2.1 bt563.2.2 t516 t517 t518).bind fun t566 => (if t566 = true then ((wide_Less.f k t516 t517 t518 t516 t517 t518).bind fun t567 => (some (!t567))) else (none)))))))) else (none))))) = some r := by first | (rw [hy544]; with_reducible exact H) | (have H2_ := (Option.bind_some _ _).symm.trans H; rw [hy544]; with_reducible exact H2_) | (have H2_ := (Option.bind_some _ _).symm.trans H; with_reducible exact H2_) | with_reducible exact H | (rw [hy544]; exact H) | exact H
          have Ny544 := Aside0.mk hy544
          clear hy544
          replace H := Option.bind_eq_some_iff.mp H
          obtain ⟨⟨t547, t548⟩, A170, H⟩ := H
          replace H : ((u128_Of.f 2).bind fun bt549 => ((wide_Balanced.f k y544 (([(⟨t547, t548⟩ : S25), (⟨bt549.1, bt549.2⟩ : S25)] : List (S25)))).bind fun t554 => (if t554 = true then ((u128_Of.f 3).bind fun bt555 => ((wide_Balanced.f k (([(⟨bt555.1, bt555.2⟩ : S25)] : List (S25))) ([] : List (S25))).bind fun t560 => (if t560 = true then (none) else ((u128_Most.f).bind fun bt561 => ((wide_Of.f bt561.1 bt561.2).bind fun bt563 => ((wide_Less.f k bt563.1 bt563.2.1 bt563.2.2 t516 t517 t518).bind fun t566 => (if t566 = true then ((wide_Less.f k t516 t517 t518 t516 t517 t518).bind fun t567 => (some (!t567))) else (none)))))))) else (none)))) = some r := H
          have A17 := Aside0.mk A170
          clear A170
          replace H := Option.bind_eq_some_iff.mp H
          obtain ⟨⟨t549, t550⟩, A180, H⟩ := H
          replace H : ((wide_Balanced.f k y544 (([(⟨t547, t548⟩ : S25), (⟨t549, t550⟩ : S25)] : List (S25)))).bind fun t554 => (if t554 = true then ((u128_Of.f 3).bind fun bt555 => ((wide_Balanced.f k (([(⟨bt555.1, bt555.2⟩ : S25)] : List (S25))) ([] : List (S25))).bind fun t560 => (if t560 = true then (none) else ((u128_Most.f).bind fun bt561 => ((wide_Of.f bt561.1 bt561.2).bind fun bt563 => ((wide_Less.f k bt563.1 bt563.2.1 bt563.2.2 t516 t517 t518).bind fun t566 => (if t566 = true then ((wide_Less.f k t516 t517 t518 t516 t517 t518).bind fun t567 => (some (!t567))) else (none)))))))) else (none))) = some r := H
          have A18 := Aside0.mk A180
          clear A180
          obtain ⟨y551, hy551⟩ : ∃ y_ : List (S25), y_ = (([(⟨t547, t548⟩ : S25), (⟨t549, t550⟩ : S25)] : List (S25))) := ⟨_, rfl⟩
          replace H : ((wide_Balanced.f k y544 y551).bind fun t554 => (if t554 = true then ((u128_Of.f 3).bind fun bt555 => ((wide_Balanced.f k (([(⟨bt555.1, bt555.2⟩ : S25)] : List (S25))) ([] : List (S25))).bind fun t560 => (if t560 = true then (none) else ((u128_Most.f).bind fun bt561 => ((wide_Of.f bt561.1 bt561.2).bind fun bt563 => ((wide_Less.f k bt563.1 bt563.2.1 bt563.2.2 t516 t517 t518).bind fun t566 => (if t566 = true then ((wide_Less.f k t516 t517 t518 t516 t517 t518).bind fun t567 => (some (!t567))) else (none)))))))) else (none))) = some r := by first | (rw [hy551]; with_reducible exact H) | (have H2_ := (Option.bind_some _ _).symm.trans H; rw [hy551]; with_reducible exact H2_) | (have H2_ := (Option.bind_some _ _).symm.trans H; with_reducible exact H2_) | with_reducible exact H | (rw [hy551]; exact H) | exact H
          have Ny551 := Aside0.mk hy551
          clear hy551
          replace H := Option.bind_eq_some_iff.mp H
          obtain ⟨t554, A190, H⟩ := H
          replace H : (if t554 = true then ((u128_Of.f 3).bind fun bt555 => ((wide_Balanced.f k (([(⟨bt555.1, bt555.2⟩ : S25)] : List (S25))) ([] : List (S25))).bind fun t560 => (if t560 = true then (none) else ((u128_Most.f).bind fun bt561 => ((wide_Of.f bt561.1 bt561.2).bind fun bt563 => ((wide_Less.f k bt563.1 bt563.2.1 bt563.2.2 t516 t517 t518).bind fun t566 => (if t566 = true then ((wide_Less.f k t516 t517 t518 t516 t517 t518).bind fun t567 => (some (!t567))) else (none)))))))) else (none)) = some r := H
          have A19 := Aside0.mk A190
          clear A190
          by_cases c20 : t554 = true
          · subst c20
            have H1 : ((u128_Of.f 3).bind fun bt555 => ((wide_Balanced.f k (([(⟨bt555.1, bt555.2⟩ : S25)] : List (S25))) ([] : List (S25))).bind fun t560 => (if t560 = true then (none) else ((u128_Most.f).bind fun bt561 => ((wide_Of.f bt561.1 bt561.2).bind fun bt563 => ((wide_Less.f k bt563.1 bt563.2.1 bt563.2.2 t516 t517 t518).bind fun t566 => (if t566 = true then ((wide_Less.f k t516 t517 t518 t516 t517 t518).bind fun t567 => (some (!t567))) else (none)))))))) = some r := by rw [if_pos rfl] at H; exact H
            clear H
            have H := H1
            clear H1
            replace H := Option.bind_eq_some_iff.mp H
            obtain ⟨⟨t555, t556⟩, A210, H⟩ := H
            replace H : ((wide_Balanced.f k (([(⟨t555, t556⟩ : S25)] : List (S25))) ([] : List (S25))).bind fun t560 => (if t560 = true then (none) else ((u128_Most.f).bind fun bt561 => ((wide_Of.f bt561.1 bt561.2).bind fun bt563 => ((wide_Less.f k bt563.1 bt563.2.1 bt563.2.2 t516 t517 t518).bind fun t566 => (if t566 = true then ((wide_Less.f k t516 t517 t518 t516 t517 t518).bind fun t567 => (some (!t567))) else (none))))))) = some r := H
            have A21 := Aside0.mk A210
            clear A210
            obtain ⟨y557, hy557⟩ : ∃ y_ : List (S25), y_ = (([(⟨t555, t556⟩ : S25)] : List (S25))) := ⟨_, rfl⟩
            replace H : ((wide_Balanced.f k y557 ([] : List (S25))).bind fun t560 => (if t560 = true then (none) else ((u128_Most.f).bind fun bt561 => ((wide_Of.f bt561.1 bt561.2).bind fun bt563 => ((wide_Less.f k bt563.1 bt563.2.1 bt563.2.2 t516 t517 t518).bind fun t566 => (if t566 = true then ((wide_Less.f k t516 t517 t518 t516 t517 t518).bind fun t567 => (some (!t567))) else (none))))))) = some r := by first | (rw [hy557]; with_reducible exact H) | (have H2_ := (Option.bind_some _ _).symm.trans H; rw [hy557]; with_reducible exact H2_) | (have H2_ := (Option.bind_some _ _).symm.trans H; with_reducible exact H2_) | with_reducible exact H | (rw [hy557]; exact H) | exact H
            have Ny557 := Aside0.mk hy557
            clear hy557
            replace H := Option.bind_eq_some_iff.mp H
            obtain ⟨t560, A220, H⟩ := H
            replace H : (if t560 = true then (none) else ((u128_Most.f).bind fun bt561 => ((wide_Of.f bt561.1 bt561.2).bind fun bt563 => ((wide_Less.f k bt563.1 bt563.2.1 bt563.2.2 t516 t517 t518).bind fun t566 => (if t566 = true then ((wide_Less.f k t516 t517 t518 t516 t517 t518).bind fun t567 => (some (!t567))) else (none)))))) = some r := H
            have A22 := Aside0.mk A220
            clear A220
            by_cases c23 : t560 = true
            · subst c23
              have H1 : (none) = some r := by rw [if_pos rfl] at H; exact H
              clear H
              have H := H1
              clear H1
              exact absurd H (by simp)
            · replace c23 := Bool.eq_false_iff.mpr c23
              subst c23
              have H1 : ((u128_Most.f).bind fun bt561 => ((wide_Of.f bt561.1 bt561.2).bind fun bt563 => ((wide_Less.f k bt563.1 bt563.2.1 bt563.2.2 t516 t517 t518).bind fun t566 => (if t566 = true then ((wide_Less.f k t516 t517 t518 t516 t517 t518).bind fun t567 => (some (!t567))) else (none))))) = some r := by rw [if_neg (show ¬ (false = true) by decide)] at H; exact H
              clear H
              have H := H1
              clear H1
              replace H := Option.bind_eq_some_iff.mp H
              obtain ⟨⟨t561, t562⟩, A240, H⟩ := H
              replace H : ((wide_Of.f t561 t562).bind fun bt563 => ((wide_Less.f k bt563.1 bt563.2.1 bt563.2.2 t516 t517 t518).bind fun t566 => (if t566 = true then ((wide_Less.f k t516 t517 t518 t516 t517 t518).bind fun t567 => (some (!t567))) else (none)))) = some r := H
              have A24 := Aside0.mk A240
              clear A240
              replace H := Option.bind_eq_some_iff.mp H
              obtain ⟨⟨t563, t564, t565⟩, A250, H⟩ := H
              replace H : ((wide_Less.f k t563 t564 t565 t516 t517 t518).bind fun t566 => (if t566 = true then ((wide_Less.f k t516 t517 t518 t516 t517 t518).bind fun t567 => (some (!t567))) else (none))) = some r := H
              have A25 := Aside0.mk A250
              clear A250
              replace H := Option.bind_eq_some_iff.mp H
              obtain ⟨t566, A260, H⟩ := H
              replace H : (if t566 = true then ((wide_Less.f k t516 t517 t518 t516 t517 t518).bind fun t567 => (some (!t567))) else (none)) = some r := H
              have A26 := Aside0.mk A260
              clear A260
              by_cases c27 : t566 = true
              · subst c27
                have H1 : ((wide_Less.f k t516 t517 t518 t516 t517 t518).bind fun t567 => (some (!t567))) = some r := by rw [if_pos rfl] at H; exact H
                clear H
                have H := H1
                clear H1
                replace H := Option.bind_eq_some_iff.mp H
                obtain ⟨t567, A280, H⟩ := H
                replace H : (some (!t567)) = some r := H
                have A28 := Aside0.mk A280
                clear A280
                obtain rfl := Option.some.inj H
                go_enter Try.func55, Try.ntmps55
                try go_wp2_with (first | ((with_reducible refine gate_callee (f := 53) rfl ?_); refine goesL_ (some 6) rfl rfl Try.func53 (by kernel_rfl) rfl #[] rfl (by (try simp only [List.map_toArray, List.map_cons, List.map_nil]); first | done | rfl | (simp only [List.length_drop, List.length_take]; rfl)) ?_; (with_reducible refine (u128_Most.calls  t509 t510 _ A1.out).mono ?_); rintro e w29 ⟨rfl, hb⟩; refine ⟨_, rfl, ?_⟩; have n0_ := Aside0.mk (below_step (by repeat (first | (with_reducible first | exact HB.out | apply below_alloc | apply pw_below_drewN | apply below_drew1) | exact HB.out)) hb); clear HB; have HB := n0_; clear n0_; (try clear hb); (try clear hb2); (try clear hk); (try clear hi)) | ((with_reducible refine gate_callee (f := 35) rfl ?_); refine goesL_ (some 7) rfl rfl Try.func35 (by kernel_rfl) rfl #[.agg #[.int .u64 t509, .int .u64 t510]] rfl (by (try simp only [List.map_toArray, List.map_cons, List.map_nil]); first | done | rfl | (simp only [List.length_drop, List.length_take]; rfl)) ?_; (with_reducible refine (wide_Of.calls t509 t510 t511 t512 t513 _ A2.out).mono ?_); rintro e w30 ⟨rfl, hb⟩; refine ⟨_, rfl, ?_⟩; have n0_ := Aside0.mk (below_step (by repeat (first | (with_reducible first | exact HB.out | apply below_alloc | apply pw_below_drewN | apply below_drew1) | exact HB.out)) hb); clear HB; have HB := n0_; clear n0_; (try clear hb); (try clear hb2); (try clear hk); (try clear hi)) | ((with_reducible refine gate_callee (f := 51) rfl ?_); refine goesL_ (some 8) rfl rfl Try.func51 (by kernel_rfl) rfl #[.int .u64 1] rfl (by (try simp only [List.map_toArray, List.map_cons, List.map_nil]); first | done | rfl | (simp only [List.length_drop, List.length_take]; rfl)) ?_; (with_reducible refine (u128_Of.calls 1 t514 t515 _ A3.out).mono ?_); rintro e w31 ⟨rfl, hb⟩; refine ⟨_, rfl, ?_⟩; have n0_ := Aside0.mk (below_step (by repeat (first | (with_reducible first | exact HB.out | apply below_alloc | apply pw_below_drewN | apply below_drew1) | exact HB.out)) hb); clear HB; have HB := n0_; clear n0_; (try clear hb); (try clear hb2); (try clear hk); (try clear hi)) | ((with_reducible refine gate_callee (f := 37) rfl ?_); refine goesL_ (some 9) rfl rfl Try.func37 (by kernel_rfl) rfl #[.agg #[.int .u64 t511, .int .u64 t512, .int .u64 t513], .agg #[.int .u64 t514, .int .u64 t515]] rfl (by (try simp only [List.map_toArray, List.map_cons, List.map_nil]); first | done | rfl | (simp only [List.length_drop, List.length_take]; rfl)) ?_; (with_reducible refine (wide_Wide_Plus.calls t511 t512 t513 t514 t515 t516 t517 t518 _ A4.out).mono ?_); rintro e w32 ⟨rfl, hb⟩; refine ⟨_, rfl, ?_⟩; have n0_ := Aside0.mk (below_step (by repeat (first | (with_reducible first | exact HB.out | apply below_alloc | apply pw_below_drewN | apply below_drew1) | exact HB.out)) hb); clear HB; have HB := n0_; clear n0_; (try clear hb); (try clear hb2); (try clear hk); (try clear hi)) | ((with_reducible refine gate_dst (N := 1) rfl ?_); (try (refine gate_guard (by rfl) ?_; dsimp only)); refine box_event ?hg (N := 1) ?hd (cs := #[.int .u64 0, .int .u64 0, .int .u64 0]) (t := 27) ?hr ?_; (case hd => rfl); (case hg => rfl); (case hr => first | (go_simp; done) | (go_simp; rfl)); intro gb519 hg w33 hbox hb; have n0_ := Aside0.mk (below_step (by repeat (first | (with_reducible first | exact HB.out | apply below_alloc | apply pw_below_drewN | apply below_drew1) | exact HB.out)) hb); have n1_ := Aside0.mk (hbox); have n2_ := Aside0.mk ((by rw [hg]; exact (below_size (by repeat (first | (with_reducible first | exact HB.out | apply below_alloc | apply pw_below_drewN | apply below_drew1) | exact HB.out))) : w.heap.size ≤ gb519)); have n3_ := Aside0.mk ((by rw [hg]; exact (below_size (by repeat (first | (with_reducible first | exact HB.out | apply below_alloc | apply pw_below_drewN | apply below_drew1) | exact HB.out))) : w.heap.size ≤ gb519)); clear HB; have HB := n0_; have BK519 := n1_; have GW519 := n2_; have GE519 := n3_; clear n0_ n1_ n2_ n3_; clear hb hbox hg; have hcz34_0 : w33.cell? ⟨gb519, 0, none⟩ = some (.int .u64 0) := (blk_cell BK519.out 0).trans rfl; have hcz34_1 : w33.cell? ⟨gb519, 1, none⟩ = some (.int .u64 0) := (blk_cell BK519.out 1).trans rfl; have hcz34_2 : w33.cell? ⟨gb519, 2, none⟩ = some (.int .u64 0) := (blk_cell BK519.out 2).trans rfl; have hfz34_0 := blk_frozen BK519.out 0; have hfz34_1 := blk_frozen BK519.out 1; have hfz34_2 := blk_frozen BK519.out 2) | ((with_reducible refine gate_callee (f := 33) rfl ?_); refine goesL_ (some 12) rfl rfl Try.func33 (by kernel_rfl) rfl #[.agg #[.int .u64 t516, .int .u64 t517, .int .u64 t518]] rfl (by (try simp only [List.map_toArray, List.map_cons, List.map_nil]); first | done | rfl | (simp only [List.length_drop, List.length_take]; rfl)) ?_; (with_reducible refine (wide_Wide_Narrow.calls t516 t517 t518 t520 t521 t522 _ A5.out).mono ?_); rintro e w35 ⟨rfl, hb⟩; refine ⟨_, rfl, ?_⟩; have n0_ := Aside0.mk (blk_below (g := gb519) (o := .cells #[.int .u64 t516, .int .u64 t517, .int .u64 t518] 27 (0, 0)) (by (with_reducible repeat (first | refine blk_drewN ?_ _ | refine blk_drew ?_ | refine blk_alloc ?_ _)); refine blk_put (cs := #[.int .u64 t516, .int .u64 t517, .int .u64 0]) ?_ 2 _ rfl; (with_reducible repeat (first | refine blk_drewN ?_ _ | refine blk_drew ?_ | refine blk_alloc ?_ _)); refine blk_put (cs := #[.int .u64 t516, .int .u64 0, .int .u64 0]) ?_ 1 _ rfl; (with_reducible repeat (first | refine blk_drewN ?_ _ | refine blk_drew ?_ | refine blk_alloc ?_ _)); refine blk_put (cs := #[.int .u64 0, .int .u64 0, .int .u64 0]) ?_ 0 _ rfl; (with_reducible repeat (first | refine blk_drewN ?_ _ | refine blk_drew ?_ | refine blk_alloc ?_ _)); exact BK519.out) hb); have n1_ := Aside0.mk (below_step (by repeat (first | (with_reducible first | exact HB.out | apply below_alloc | apply pw_below_drewN | apply below_drew1 | refine below_set ?_ GE519.out) | exact HB.out)) hb); clear BK519; clear HB; have BK519 := n0_; have HB := n1_; clear n0_ n1_; (try clear hb); (try clear hb2); (try clear hk); (try clear hi)) | ((with_reducible refine gate_dst (N := 2) rfl ?_); (try (refine gate_guard (by rfl) ?_; dsimp only)); refine box_event ?hg (N := 2) ?hd (cs := #[.int .u64 0, .int .u64 0]) (t := 25) ?hr ?_; (case hd => rfl); (case hg => rfl); (case hr => first | (go_simp; done) | (go_simp; rfl)); intro gb523 hg w36 hbox hb; have n0_ := Aside0.mk (blk_below (g := gb519) (o := .cells #[.int .u64 t516, .int .u64 t517, .int .u64 t518] 27 (0, 0)) (by (with_reducible repeat (first | refine blk_drewN ?_ _ | refine blk_drew ?_ | refine blk_alloc ?_ _)); exact BK519.out) hb); have n1_ := Aside0.mk (below_step (by repeat (first | (with_reducible first | exact HB.out | apply below_alloc | apply pw_below_drewN | apply below_drew1 | refine below_set ?_ GE519.out) | exact HB.out)) hb); have n2_ := Aside0.mk (hbox); have n3_ := Aside0.mk ((by rw [hg]; exact (below_size (by repeat (first | (with_reducible first | exact HB.out | apply below_alloc | apply pw_below_drewN | apply below_drew1 | refine below_set ?_ GE519.out) | exact HB.out))) : w.heap.size ≤ gb523)); have n4_ := Aside0.mk ((by rw [hg]; exact (below_size (by repeat (first | (with_reducible first | exact HB.out | apply below_alloc | apply pw_below_drewN | apply below_drew1 | refine below_set ?_ GE519.out) | exact HB.out))) : w.heap.size ≤ gb523)); have n5_ := Aside0.mk ((by rw [hg]; exact Nat.ne_of_lt (blk_lt (g := gb519) (o := .cells #[.int .u64 t516, .int .u64 t517, .int .u64 t518] 27 (0, 0)) (by (with_reducible repeat (first | refine blk_drewN ?_ _ | refine blk_drew ?_ | refine blk_alloc ?_ _)); exact BK519.out)) : gb519 ≠ gb523)); have n6_ := Aside0.mk ((by rw [hg]; exact Nat.ne_of_gt (blk_lt (g := gb519) (o := .cells #[.int .u64 t516, .int .u64 t517, .int .u64 t518] 27 (0, 0)) (by (with_reducible repeat (first | refine blk_drewN ?_ _ | refine blk_drew ?_ | refine blk_alloc ?_ _)); exact BK519.out)) : gb523 ≠ gb519)); clear BK519; clear HB; have BK519 := n0_; have HB := n1_; have BK523 := n2_; have GW523 := n3_; have GE523 := n4_; have NB519_523 := n5_; have NB523_519 := n6_; clear n0_ n1_ n2_ n3_ n4_ n5_ n6_; clear hb hbox hg; have hnb37 := NB523_519.out; have hnc37 := NB519_523.out; have hcz38_0 : w36.cell? ⟨gb523, 0, none⟩ = some (.int .u64 0) := (blk_cell BK523.out 0).trans rfl; have hcz38_1 : w36.cell? ⟨gb523, 1, none⟩ = some (.int .u64 0) := (blk_cell BK523.out 1).trans rfl; have hfz38_0 := blk_frozen BK523.out 0; have hfz38_1 := blk_frozen BK523.out 1) | ((with_reducible refine gate_callee (f := 51) rfl ?_); refine goesL_ (some 16) rfl rfl Try.func51 (by kernel_rfl) rfl #[.int .u64 3] rfl (by (try simp only [List.map_toArray, List.map_cons, List.map_nil]); first | done | rfl | (simp only [List.length_drop, List.length_take]; rfl)) ?_; (with_reducible refine (u128_Of.calls 3 t524 t525 _ A6.out).mono ?_); rintro e w39 ⟨rfl, hb⟩; refine ⟨_, rfl, ?_⟩; have n0_ := Aside0.mk (blk_below (g := gb519) (o := .cells #[.int .u64 t516, .int .u64 t517, .int .u64 t518] 27 (0, 0)) (by (with_reducible repeat (first | refine blk_drewN ?_ _ | refine blk_drew ?_ | refine blk_alloc ?_ _)); refine blk_far ?_ NB519_523.out _; (with_reducible repeat (first | refine blk_drewN ?_ _ | refine blk_drew ?_ | refine blk_alloc ?_ _)); refine blk_far ?_ NB519_523.out _; (with_reducible repeat (first | refine blk_drewN ?_ _ | refine blk_drew ?_ | refine blk_alloc ?_ _)); exact BK519.out) hb); have n1_ := Aside0.mk (blk_below (g := gb523) (o := .cells #[.int .u64 t520, .int .u64 t521] 25 (0, 0)) (by (with_reducible repeat (first | refine blk_drewN ?_ _ | refine blk_drew ?_ | refine blk_alloc ?_ _)); refine blk_put (cs := #[.int .u64 t520, .int .u64 0]) ?_ 1 _ rfl; (with_reducible repeat (first | refine blk_drewN ?_ _ | refine blk_drew ?_ | refine blk_alloc ?_ _)); refine blk_put (cs := #[.int .u64 0, .int .u64 0]) ?_ 0 _ rfl; (with_reducible repeat (first | refine blk_drewN ?_ _ | refine blk_drew ?_ | refine blk_alloc ?_ _)); exact BK523.out) hb); have n2_ := Aside0.mk (below_step (by repeat (first | (with_reducible first | exact HB.out | apply below_alloc | apply pw_below_drewN | apply below_drew1 | refine below_set ?_ GE519.out | refine below_set ?_ GE523.out) | exact HB.out)) hb); clear BK519; clear BK523; clear HB; have BK519 := n0_; have BK523 := n1_; have HB := n2_; clear n0_ n1_ n2_; (try clear hb); (try clear hb2); (try clear hk); (try clear hi)) | ((with_reducible refine gate_callee (f := 51) rfl ?_); refine goesL_ (some 17) rfl rfl Try.func51 (by kernel_rfl) rfl #[.int .u64 4] rfl (by (try simp only [List.map_toArray, List.map_cons, List.map_nil]); first | done | rfl | (simp only [List.length_drop, List.length_take]; rfl)) ?_; (with_reducible refine (u128_Of.calls 4 t526 t527 _ A7.out).mono ?_); rintro e w40 ⟨rfl, hb⟩; refine ⟨_, rfl, ?_⟩; have n0_ := Aside0.mk (blk_below (g := gb519) (o := .cells #[.int .u64 t516, .int .u64 t517, .int .u64 t518] 27 (0, 0)) (by (with_reducible repeat (first | refine blk_drewN ?_ _ | refine blk_drew ?_ | refine blk_alloc ?_ _)); exact BK519.out) hb); have n1_ := Aside0.mk (blk_below (g := gb523) (o := .cells #[.int .u64 t520, .int .u64 t521] 25 (0, 0)) (by (with_reducible repeat (first | refine blk_drewN ?_ _ | refine blk_drew ?_ | refine blk_alloc ?_ _)); exact BK523.out) hb); have n2_ := Aside0.mk (below_step (by repeat (first | (with_reducible first | exact HB.out | apply below_alloc | apply pw_below_drewN | apply below_drew1 | refine below_set ?_ GE519.out | refine below_set ?_ GE523.out) | exact HB.out)) hb); clear BK519; clear BK523; clear HB; have BK519 := n0_; have BK523 := n1_; have HB := n2_; clear n0_ n1_ n2_; (try clear hb); (try clear hb2); (try clear hk); (try clear hi)) | ((with_reducible refine gate_dst (N := 18) rfl ?_); (try (refine gate_guard (by rfl) ?_; dsimp only)); refine Kd.R_lit k25 _ 25 ?hg (N := 18) ?hd (xs := ([(⟨t524, t525⟩ : S25), (⟨t526, t527⟩ : S25)] : List (S25))) (inner := [.int .u64 t524, .int .u64 t525, .int .u64 t526, .int .u64 t527]) (ok := fun _ => True) (okp := fun _ => True) ?hr ?hp (fun _ hk => hk) trivial (Below.refl _ _) (Nat.le_refl _) (by simp) ?_; (case hd => rfl); (case hg => rfl); (case hr => first | (go_simp; done) | (go_simp; rfl)); (case hp => exact (Reps.c2 (show Kd.M k25 _ _ _ (⟨t524, t525⟩ : S25) [.int .u64 t524, .int .u64 t525] from (k25_mkM _ _ _ (⟨t524, t525⟩ : S25) )) (Reps.c2 (show Kd.M k25 _ _ _ (⟨t526, t527⟩ : S25) [.int .u64 t526, .int .u64 t527] from (k25_mkM _ _ _ (⟨t526, t527⟩ : S25) )) (Reps.none _ _)))); intro v529 w41 ho42 hb hg_ hnew_; clear hg_ hnew_; (first | rw [← Ny528.out] at ho42 | (simp only [Int.reduceToNat] at ho42; rw [← Ny528.out] at ho42)); have n0_ := Aside0.mk (Kd.R_lower (Kd.R_newB ho42 (g := gb523) (o := .cells #[.int .u64 t520, .int .u64 t521] 25 (0, 0)) (by (with_reducible repeat (first | refine blk_drewN ?_ _ | refine blk_drew ?_ | refine blk_alloc ?_ _)); exact BK523.out)) (below_size (by repeat (first | (with_reducible first | exact HB.out | apply below_alloc | apply pw_below_drewN | apply below_drew1 | refine below_set ?_ GE519.out | refine below_set ?_ GE523.out) | exact HB.out)))); have n1_ := Aside0.mk (blk_below (g := gb519) (o := .cells #[.int .u64 t516, .int .u64 t517, .int .u64 t518] 27 (0, 0)) (by (with_reducible repeat (first | refine blk_drewN ?_ _ | refine blk_drew ?_ | refine blk_alloc ?_ _)); exact BK519.out) hb); have n2_ := Aside0.mk (blk_below (g := gb523) (o := .cells #[.int .u64 t520, .int .u64 t521] 25 (0, 0)) (by (with_reducible repeat (first | refine blk_drewN ?_ _ | refine blk_drew ?_ | refine blk_alloc ?_ _)); exact BK523.out) hb); have n3_ := Aside0.mk (below_step (by repeat (first | (with_reducible first | exact HB.out | apply below_alloc | apply pw_below_drewN | apply below_drew1 | refine below_set ?_ GE519.out | refine below_set ?_ GE523.out) | exact HB.out)) hb); clear BK519; clear BK523; clear HB; have HO530 := n0_; have BK519 := n1_; have BK523 := n2_; have HB := n3_; clear n0_ n1_ n2_ n3_; clear hb ho42; obtain ⟨Ao43, co43, eo43⟩ := Kd.R_slice HO530.out; subst eo43) | ((with_reducible refine gate_callee (f := 24) rfl ?_); refine goesL_ (some 19) rfl rfl Try.func24 (by kernel_rfl) rfl #[.slice Ao43 y528.length co43] rfl (by (try simp only [List.map_toArray, List.map_cons, List.map_nil]); first | done | rfl | (simp only [List.length_drop, List.length_take]; rfl)) ?_; (with_reducible refine (wide_All.calls k _ _ y528 t531 t532 t533 _ ?side1 ?side2 A8.out).mono ?_); (case side1 => repeat (first | exact (Kd.R_reads' HO530.out).2.2 | (with_reducible refine Kd.C_alloc ?_ _) | (with_reducible refine Kd.C_drewN ?_ _) | (with_reducible refine Kd.C_drew ?_))); (case side2 => exact (Kd.R_reads' HO530.out).2.1); rintro e w44 ⟨rfl, hb⟩; refine ⟨_, rfl, ?_⟩; have n0_ := Aside0.mk (Kd.R_below (by (with_reducible repeat (first | apply Kd.R_alloc | apply Kd.R_drewN | apply Kd.R_drew)); exact HO530.out) hb); have n1_ := Aside0.mk (blk_below (g := gb519) (o := .cells #[.int .u64 t516, .int .u64 t517, .int .u64 t518] 27 (0, 0)) (by (with_reducible repeat (first | refine blk_drewN ?_ _ | refine blk_drew ?_ | refine blk_alloc ?_ _)); exact BK519.out) hb); have n2_ := Aside0.mk (blk_below (g := gb523) (o := .cells #[.int .u64 t520, .int .u64 t521] 25 (0, 0)) (by (with_reducible repeat (first | refine blk_drewN ?_ _ | refine blk_drew ?_ | refine blk_alloc ?_ _)); exact BK523.out) hb); have n3_ := Aside0.mk (below_step (by repeat (first | (with_reducible first | exact HB.out | apply below_alloc | apply pw_below_drewN | apply below_drew1 | refine below_set ?_ GE519.out | refine below_set ?_ GE523.out) | exact HB.out)) hb); clear HO530; clear BK519; clear BK523; clear HB; have HO530 := n0_; have BK519 := n1_; have BK523 := n2_; have HB := n3_; clear n0_ n1_ n2_ n3_; (try clear hb); (try clear hb2); (try clear hk); (try clear hi)) | ((with_reducible refine gate_callee (f := 33) rfl ?_); refine goesL_ (some 20) rfl rfl Try.func33 (by kernel_rfl) rfl #[.agg #[.int .u64 t531, .int .u64 t532, .int .u64 t533]] rfl (by (try simp only [List.map_toArray, List.map_cons, List.map_nil]); first | done | rfl | (simp only [List.length_drop, List.length_take]; rfl)) ?_; (with_reducible refine (wide_Wide_Narrow.calls t531 t532 t533 t534 t535 t536 _ A9.out).mono ?_); rintro e w45 ⟨rfl, hb⟩; refine ⟨_, rfl, ?_⟩; have n0_ := Aside0.mk (Kd.R_below (by (with_reducible repeat (first | apply Kd.R_alloc | apply Kd.R_drewN | apply Kd.R_drew)); exact HO530.out) hb); have n1_ := Aside0.mk (blk_below (g := gb519) (o := .cells #[.int .u64 t516, .int .u64 t517, .int .u64 t518] 27 (0, 0)) (by (with_reducible repeat (first | refine blk_drewN ?_ _ | refine blk_drew ?_ | refine blk_alloc ?_ _)); exact BK519.out) hb); have n2_ := Aside0.mk (blk_below (g := gb523) (o := .cells #[.int .u64 t520, .int .u64 t521] 25 (0, 0)) (by (with_reducible repeat (first | refine blk_drewN ?_ _ | refine blk_drew ?_ | refine blk_alloc ?_ _)); exact BK523.out) hb); have n3_ := Aside0.mk (below_step (by repeat (first | (with_reducible first | exact HB.out | apply below_alloc | apply pw_below_drewN | apply below_drew1 | refine below_set ?_ GE519.out | refine below_set ?_ GE523.out) | exact HB.out)) hb); clear HO530; clear BK519; clear BK523; clear HB; have HO530 := n0_; have BK519 := n1_; have BK523 := n2_; have HB := n3_; clear n0_ n1_ n2_ n3_; (try clear hb); (try clear hb2); (try clear hk); (try clear hi)) | ((with_reducible refine gate_dst (N := 4) rfl ?_); (try (refine gate_guard (by rfl) ?_; dsimp only)); refine box_event ?hg (N := 4) ?hd (cs := #[.int .u64 0, .int .u64 0]) (t := 25) ?hr ?_; (case hd => rfl); (case hg => rfl); (case hr => first | (go_simp; done) | (go_simp; rfl)); intro gb537 hg w46 hbox hb; have n0_ := Aside0.mk (Kd.R_below (Kd.R_elderB (by (with_reducible repeat (first | apply Kd.R_alloc | apply Kd.R_drewN | apply Kd.R_drew)); exact HO530.out) gb537 (Nat.le_of_eq hg.symm)) hb); have n1_ := Aside0.mk (blk_below (g := gb519) (o := .cells #[.int .u64 t516, .int .u64 t517, .int .u64 t518] 27 (0, 0)) (by (with_reducible repeat (first | refine blk_drewN ?_ _ | refine blk_drew ?_ | refine blk_alloc ?_ _)); exact BK519.out) hb); have n2_ := Aside0.mk (blk_below (g := gb523) (o := .cells #[.int .u64 t520, .int .u64 t521] 25 (0, 0)) (by (with_reducible repeat (first | refine blk_drewN ?_ _ | refine blk_drew ?_ | refine blk_alloc ?_ _)); exact BK523.out) hb); have n3_ := Aside0.mk (below_step (by repeat (first | (with_reducible first | exact HB.out | apply below_alloc | apply pw_below_drewN | apply below_drew1 | refine below_set ?_ GE519.out | refine below_set ?_ GE523.out) | exact HB.out)) hb); have n4_ := Aside0.mk (hbox); have n5_ := Aside0.mk ((by rw [hg]; exact (below_size (by repeat (first | (with_reducible first | exact HB.out | apply below_alloc | apply pw_below_drewN | apply below_drew1 | refine below_set ?_ GE519.out | refine below_set ?_ GE523.out) | exact HB.out))) : w.heap.size ≤ gb537)); have n6_ := Aside0.mk ((by rw [hg]; exact (below_size (by repeat (first | (with_reducible first | exact HB.out | apply below_alloc | apply pw_below_drewN | apply below_drew1 | refine below_set ?_ GE519.out | refine below_set ?_ GE523.out) | exact HB.out))) : w.heap.size ≤ gb537)); have n7_ := Aside0.mk ((by rw [hg]; exact Nat.ne_of_lt (blk_lt (g := gb519) (o := .cells #[.int .u64 t516, .int .u64 t517, .int .u64 t518] 27 (0, 0)) (by (with_reducible repeat (first | refine blk_drewN ?_ _ | refine blk_drew ?_ | refine blk_alloc ?_ _)); exact BK519.out)) : gb519 ≠ gb537)); have n8_ := Aside0.mk ((by rw [hg]; exact Nat.ne_of_gt (blk_lt (g := gb519) (o := .cells #[.int .u64 t516, .int .u64 t517, .int .u64 t518] 27 (0, 0)) (by (with_reducible repeat (first | refine blk_drewN ?_ _ | refine blk_drew ?_ | refine blk_alloc ?_ _)); exact BK519.out)) : gb537 ≠ gb519)); have n9_ := Aside0.mk ((by rw [hg]; exact Nat.ne_of_lt (blk_lt (g := gb523) (o := .cells #[.int .u64 t520, .int .u64 t521] 25 (0, 0)) (by (with_reducible repeat (first | refine blk_drewN ?_ _ | refine blk_drew ?_ | refine blk_alloc ?_ _)); exact BK523.out)) : gb523 ≠ gb537)); have n10_ := Aside0.mk ((by rw [hg]; exact Nat.ne_of_gt (blk_lt (g := gb523) (o := .cells #[.int .u64 t520, .int .u64 t521] 25 (0, 0)) (by (with_reducible repeat (first | refine blk_drewN ?_ _ | refine blk_drew ?_ | refine blk_alloc ?_ _)); exact BK523.out)) : gb537 ≠ gb523)); clear HO530; clear BK519; clear BK523; clear HB; have HO530 := n0_; have BK519 := n1_; have BK523 := n2_; have HB := n3_; have BK537 := n4_; have GW537 := n5_; have GE537 := n6_; have NB519_537 := n7_; have NB537_519 := n8_; have NB523_537 := n9_; have NB537_523 := n10_; clear n0_ n1_ n2_ n3_ n4_ n5_ n6_ n7_ n8_ n9_ n10_; clear hb hbox hg; have hnb47 := NB537_519.out; have hnc47 := NB519_537.out; have hnb48 := NB537_523.out; have hnc48 := NB523_537.out; have hcz49_0 : w46.cell? ⟨gb537, 0, none⟩ = some (.int .u64 0) := (blk_cell BK537.out 0).trans rfl; have hcz49_1 : w46.cell? ⟨gb537, 1, none⟩ = some (.int .u64 0) := (blk_cell BK537.out 1).trans rfl; have hfz49_0 := blk_frozen BK537.out 0; have hfz49_1 := blk_frozen BK537.out 1))
                have n0_ : Aside0 (Kd.R k25 25 ((w46.setCell ⟨gb537, 0, none⟩ (.int .u64 t534)).setCell ⟨gb537, 1, none⟩ (.int .u64 t535)) w.heap.size (fun k_ => k_ ≠ gb523 ∧ k_ ≠ gb537) (.slice Ao43 y528.length co43) y528) := ⟨by (with_reducible repeat (first | apply Kd.R_alloc | apply Kd.R_drewN | apply Kd.R_drew)); exact Kd.R_mono (Kd.R_far (p := ⟨gb537, 1, none⟩) (Kd.R_far (p := ⟨gb537, 0, none⟩) (Kd.R_mono HO530.out (fun k_ hk => (⟨hk, hk.2⟩ : _ ∧ k_ ≠ gb537))) (fun _ hk => hk.2) (.int .u64 t534)) (fun _ hk => hk.2) (.int .u64 t535)) (fun _ hk => by first | exact ⟨hk.1.1.2, hk.1.2⟩ | (repeat' (refine And.intro ?_ ?_)) <;> first | exact hk | exact hk.1 | exact hk.2 | exact hk.1.1 | exact hk.1.2 | exact hk.2.1 | exact hk.2.2 | exact hk.1.1.1 | exact hk.1.1.2 | exact hk.1.2.1 | exact hk.1.2.2 | exact hk.2.1.1 | exact hk.2.1.2 | exact hk.2.2.1 | exact hk.2.2.2 | exact hk.1.1.1.1 | exact hk.1.1.1.2 | exact hk.1.1.2.1 | exact hk.1.1.2.2 | exact hk.1.1.1.1.1 | exact hk.1.1.1.1.2 | trivial)⟩
                have n1_ : Aside0 (((w46.setCell ⟨gb537, 0, none⟩ (.int .u64 t534)).setCell ⟨gb537, 1, none⟩ (.int .u64 t535)).heap[gb519]? = some (.cells #[.int .u64 t516, .int .u64 t517, .int .u64 t518] 27 (0, 0))) := ⟨by (with_reducible repeat (first | refine blk_drewN ?_ _ | refine blk_drew ?_ | refine blk_alloc ?_ _)); refine blk_far ?_ NB519_537.out _; (with_reducible repeat (first | refine blk_drewN ?_ _ | refine blk_drew ?_ | refine blk_alloc ?_ _)); refine blk_far ?_ NB519_537.out _; (with_reducible repeat (first | refine blk_drewN ?_ _ | refine blk_drew ?_ | refine blk_alloc ?_ _)); exact BK519.out⟩
                have n2_ : Aside0 (((w46.setCell ⟨gb537, 0, none⟩ (.int .u64 t534)).setCell ⟨gb537, 1, none⟩ (.int .u64 t535)).heap[gb523]? = some (.cells #[.int .u64 t520, .int .u64 t521] 25 (0, 0))) := ⟨by (with_reducible repeat (first | refine blk_drewN ?_ _ | refine blk_drew ?_ | refine blk_alloc ?_ _)); refine blk_far ?_ NB523_537.out _; (with_reducible repeat (first | refine blk_drewN ?_ _ | refine blk_drew ?_ | refine blk_alloc ?_ _)); refine blk_far ?_ NB523_537.out _; (with_reducible repeat (first | refine blk_drewN ?_ _ | refine blk_drew ?_ | refine blk_alloc ?_ _)); exact BK523.out⟩
                have n3_ : Aside0 (((w46.setCell ⟨gb537, 0, none⟩ (.int .u64 t534)).setCell ⟨gb537, 1, none⟩ (.int .u64 t535)).heap[gb537]? = some (.cells #[.int .u64 t534, .int .u64 t535] 25 (0, 0))) := ⟨by (with_reducible repeat (first | refine blk_drewN ?_ _ | refine blk_drew ?_ | refine blk_alloc ?_ _)); refine blk_put (cs := #[.int .u64 t534, .int .u64 0]) ?_ 1 _ rfl; (with_reducible repeat (first | refine blk_drewN ?_ _ | refine blk_drew ?_ | refine blk_alloc ?_ _)); refine blk_put (cs := #[.int .u64 0, .int .u64 0]) ?_ 0 _ rfl; (with_reducible repeat (first | refine blk_drewN ?_ _ | refine blk_drew ?_ | refine blk_alloc ?_ _)); exact BK537.out⟩
                have n4_ : Aside0 (Below w.heap.size w ((w46.setCell ⟨gb537, 0, none⟩ (.int .u64 t534)).setCell ⟨gb537, 1, none⟩ (.int .u64 t535))) := ⟨by repeat (first | (with_reducible first | exact HB.out | apply below_alloc | apply pw_below_drewN | apply below_drew1 | refine below_set ?_ GE519.out | refine below_set ?_ GE523.out | refine below_set ?_ GE537.out) | exact HB.out)⟩
                (try clear HO530)
                (try clear BK519)
                (try clear BK523)
                (try clear BK537)
                (try clear HB)
                generalize ((w46.setCell ⟨gb537, 0, none⟩ (.int .u64 t534)).setCell ⟨gb537, 1, none⟩ (.int .u64 t535)) = w50 at n0_ n1_ n2_ n3_ n4_ ⊢
                have HO530 := n0_
                have BK519 := n1_
                have BK523 := n2_
                have BK537 := n3_
                have HB := n4_
                clear n0_ n1_ n2_ n3_ n4_
                have n0_ := Aside0.mk (Kd.R_drew HO530.out)
                have n1_ := Aside0.mk (blk_drew BK519.out)
                have n2_ := Aside0.mk (blk_drew BK523.out)
                have n3_ := Aside0.mk (blk_drew BK537.out)
                have n4_ := Aside0.mk (below_drew1 HB.out)
                clear HO530
                clear BK519
                clear BK523
                clear BK537
                clear HB
                have HO530 := n0_
                have BK519 := n1_
                have BK523 := n2_
                have BK537 := n3_
                have HB := n4_
                clear n0_ n1_ n2_ n3_ n4_
                refine start_ (n := 44) (S := fun w' => True) (ds := []) #[false, false, false, false, false, false, false, false, false, false, false, false, false, false, false, false, false, false, false, false, false, false, false, false, false, false, false, false, false, false, false, false, false, false, false, false, false, false, false, false, false, false, false, false] (by kernel_rfl) rfl rfl trivial (fun hHeld => ?_); refine with_tabW paymasterlaw03_awake.tab4 paymasterlaw03_awake.bits4 (fun HT_ HW_ => ?_)
                generalize w50.drew = w51 at HO530 BK519 BK523 BK537 HB hHeld ⊢
                refine inv_at [0, 1, 2, 3, 4, 5, 6, 7, 8, 9, 10, 11, 12, 13, 14, 15, 16, 17, 18, 19, 20, 21, 22, 23, 24, 25, 26, 27, 28, 29, 30, 31, 32, 33, 34, 35, 36, 37, 38, 39, 40, 41, 42, 43] (fun a0_ b a w' => ∃ (v545 : Value) (v552 : Value) (v558 : Value), a = putSel a0_ b [(0, 23, .agg #[.int .u64 t516, .int .u64 t517, .int .u64 t518]), (1, 24, .agg #[.int .u64 1, .int .u64 0, .int .u64 0]), (2, 25, .bool (t516 == 1 && ((t517 == 0 && (t518 == 0))))), (3, 26, .bool (t516 == 1 && ((t517 == 0 && (t518 == 0))))), (4, 27, .int .i64 t522), (5, 28, .bool (t522 == 10)), (6, 29, .bool (t522 == 10)), (7, 30, .bool (t522 == 10)), (8, 31, .int .i64 t536), (9, 32, .bool (t536 == 0)), (10, 33, .bool (t536 == 0)), (11, 34, .bool (t536 == 0)), (12, 35, .agg #[.int .u64 t534, .int .u64 t535]), (13, 36, .agg #[.int .u64 t538, .int .u64 t539]), (14, 37, .bool (t534 == t538 && (t535 == t539))), (15, 38, .bool (t534 == t538 && (t535 == t539))), (16, 39, .bool (t534 == t538 && (t535 == t539))), (17, 40, .agg #[.int .u64 t540, .int .u64 t541]), (18, 41, .agg #[.int .u64 t542, .int .u64 t543]), (19, 42, v545), (20, 43, .agg #[.int .u64 t547, .int .u64 t548]), (21, 44, .agg #[.int .u64 t549, .int .u64 t550]), (22, 45, v552), (23, 46, .bool true), (24, 47, .bool true), (25, 48, .bool true), (26, 49, .agg #[.int .u64 t555, .int .u64 t556]), (27, 50, v558), (28, 51, .bool false), (29, 52, .bool (!false)), (30, 53, .bool (!false)), (31, 54, .bool (!false)), (32, 55, .agg #[.int .u64 t561, .int .u64 t562]), (33, 56, .agg #[.int .u64 t563, .int .u64 t564, .int .u64 t565]), (34, 57, .agg #[.int .u64 t516, .int .u64 t517, .int .u64 t518]), (35, 58, .bool true), (36, 59, .bool true), (37, 60, .bool true), (38, 61, .agg #[.int .u64 t516, .int .u64 t517, .int .u64 t518]), (39, 62, .agg #[.int .u64 t516, .int .u64 t517, .int .u64 t518]), (40, 63, .bool t567), (41, 64, .bool (!t567)), (42, 65, .bool (!t567)), (43, 0, .bool (!t567))] ∧ (Kd.R k25 25 w' w.heap.size (fun k_ => k_ ≠ gb523 ∧ k_ ≠ gb537) (.slice Ao43 y528.length co43) y528) ∧ (w'.heap[gb519]? = some (.cells #[.int .u64 t516, .int .u64 t517, .int .u64 t518] 27 (0, 0))) ∧ (w'.heap[gb523]? = some (.cells #[.int .u64 t520, .int .u64 t521] 25 (0, 0))) ∧ (w'.heap[gb537]? = some (.cells #[.int .u64 t534, .int .u64 t535] 25 (0, 0))) ∧ (Below w.heap.size w w') ∧ (b 19 = true → Kd.R k25 25 w' w.heap.size (fun k_ => some k_ ≠ (.slice Ao43 y528.length co43 : Value).ownBlock ∧ k_ ≠ gb523 ∧ k_ ≠ gb537) v545 y544) ∧ (b 22 = true → Kd.R k25 25 w' w.heap.size (fun k_ => some k_ ≠ (.slice Ao43 y528.length co43 : Value).ownBlock ∧ k_ ≠ gb523 ∧ k_ ≠ gb537) v552 y551) ∧ (b 27 = true → Kd.R k25 25 w' w.heap.size (fun k_ => some k_ ≠ (.slice Ao43 y528.length co43 : Value).ownBlock ∧ k_ ≠ gb523 ∧ k_ ≠ gb537) v558 y557)) HT_.out HW_.out (by kernel_rfl) (by kernel_rfl) ?_ ?_ ?_
                · exact ⟨.bool false, .bool false, .bool false, by simp only [putSel, Bool.false_eq_true, if_false], HO530.out, BK519.out, BK523.out, BK537.out, HB.out, fun h_ => absurd h_ (by decide), fun h_ => absurd h_ (by decide), fun h_ => absurd h_ (by decide)⟩
                · skip
                  clear BK519 BK523 BK537 HB HO530
                  refine steps_cons ?_ ?_
                  · rintro b a w' ⟨v545, v552, v558, ha, Q_HO530, Q_BK519, Q_BK523, Q_BK537, Q_HB, Q_HO546, Q_HO553, Q_HO559⟩ hb_ hon hoff
                    refine ⟨_, rfl, fun K hK => ?_⟩
                    have e1 : a.tmps[1]? = some (.pointer (some ⟨gb519, 0, none⟩)) := by rw [ha]; exact (putSel_off rfl).trans rfl
                    replace ha := Aside0.mk ha
                    have HO530 := Aside0.mk Q_HO530
                    have BK519 := Aside0.mk Q_BK519
                    have BK523 := Aside0.mk Q_BK523
                    have BK537 := Aside0.mk Q_BK537
                    have HB := Aside0.mk Q_HB
                    have hc0_ : w'.cell? ⟨gb519, 0, none⟩ = some (.int .u64 t516) := (blk_cell BK519.out 0).trans rfl
                    have hc1_ : w'.cell? ⟨gb519, 1, none⟩ = some (.int .u64 t517) := (blk_cell BK519.out 1).trans rfl
                    have hc2_ : w'.cell? ⟨gb519, 2, none⟩ = some (.int .u64 t518) := (blk_cell BK519.out 2).trans rfl
                    refine value_ (w1 := w') (v := .agg #[.int .u64 t516, .int .u64 t517, .int .u64 t518]) (by rfl) rfl ?_ ?_
                    · go_simp
                      (try simp only [i64_w])
                      try rfl
                    refine hK.out _ _ ⟨v545, v552, v558, (by rw [ha.out]; exact putSel_upk 0 hb_ rfl rfl rfl), Q_HO530, Q_BK519, Q_BK523, Q_BK537, Q_HB, fun h0_ => absurd ((hoff 19 (by kernel_rfl)).symm.trans h0_) (by decide), fun h0_ => absurd ((hoff 22 (by kernel_rfl)).symm.trans h0_) (by decide), fun h0_ => absurd ((hoff 27 (by kernel_rfl)).symm.trans h0_) (by decide)⟩
                  refine steps_cons ?_ ?_
                  · rintro b a w' ⟨v545, v552, v558, ha, Q_HO530, Q_BK519, Q_BK523, Q_BK537, Q_HB, Q_HO546, Q_HO553, Q_HO559⟩ hb_ hon hoff
                    refine ⟨_, rfl, fun K hK => ?_⟩
                    replace ha := Aside0.mk ha
                    have HO530 := Aside0.mk Q_HO530
                    have BK519 := Aside0.mk Q_BK519
                    have BK523 := Aside0.mk Q_BK523
                    have BK537 := Aside0.mk Q_BK537
                    have HB := Aside0.mk Q_HB
                    refine value_ (w1 := w') (v := .agg #[.int .u64 1, .int .u64 0, .int .u64 0]) (by rfl) rfl ?_ ?_
                    · go_simp
                      (try simp only [i64_w])
                      try rfl
                    refine hK.out _ _ ⟨v545, v552, v558, (by rw [ha.out]; exact putSel_upk 1 hb_ rfl rfl rfl), Q_HO530, Q_BK519, Q_BK523, Q_BK537, Q_HB, fun h0_ => absurd ((hoff 19 (by kernel_rfl)).symm.trans h0_) (by decide), fun h0_ => absurd ((hoff 22 (by kernel_rfl)).symm.trans h0_) (by decide), fun h0_ => absurd ((hoff 27 (by kernel_rfl)).symm.trans h0_) (by decide)⟩
                  refine steps_cons ?_ ?_
                  · rintro b a w' ⟨v545, v552, v558, ha, Q_HO530, Q_BK519, Q_BK523, Q_BK537, Q_HB, Q_HO546, Q_HO553, Q_HO559⟩ hb_ hon hoff
                    refine ⟨_, rfl, fun K hK => ?_⟩
                    have e23 : a.tmps[23]? = some (.agg #[.int .u64 t516, .int .u64 t517, .int .u64 t518]) := by rw [ha]; exact putSel_on (e := (0, 23, .agg #[.int .u64 t516, .int .u64 t517, .int .u64 t518])) 0 rfl rfl (hon 0 (by kernel_rfl)) rfl
                    have e24 : a.tmps[24]? = some (.agg #[.int .u64 1, .int .u64 0, .int .u64 0]) := by rw [ha]; exact putSel_on (e := (1, 24, .agg #[.int .u64 1, .int .u64 0, .int .u64 0])) 1 rfl rfl (hon 1 (by kernel_rfl)) rfl
                    replace ha := Aside0.mk ha
                    have HO530 := Aside0.mk Q_HO530
                    have BK519 := Aside0.mk Q_BK519
                    have BK523 := Aside0.mk Q_BK523
                    have BK537 := Aside0.mk Q_BK537
                    have HB := Aside0.mk Q_HB
                    refine value_ (w1 := w') (v := .bool (t516 == 1 && ((t517 == 0 && (t518 == 0))))) (by rfl) rfl ?_ ?_
                    · go_simp
                      (try simp only [i64_w])
                      try rfl
                    refine hK.out _ _ ⟨v545, v552, v558, (by rw [ha.out]; exact putSel_upk 2 hb_ rfl rfl rfl), Q_HO530, Q_BK519, Q_BK523, Q_BK537, Q_HB, fun h0_ => absurd ((hoff 19 (by kernel_rfl)).symm.trans h0_) (by decide), fun h0_ => absurd ((hoff 22 (by kernel_rfl)).symm.trans h0_) (by decide), fun h0_ => absurd ((hoff 27 (by kernel_rfl)).symm.trans h0_) (by decide)⟩
                  refine steps_cons ?_ ?_
                  · rintro b a w' ⟨v545, v552, v558, ha, Q_HO530, Q_BK519, Q_BK523, Q_BK537, Q_HB, Q_HO546, Q_HO553, Q_HO559⟩ hb_ hon hoff
                    refine ⟨_, rfl, fun K hK => ?_⟩
                    have e25 : a.tmps[25]? = some (.bool (t516 == 1 && ((t517 == 0 && (t518 == 0))))) := by rw [ha]; exact putSel_on (e := (2, 25, .bool (t516 == 1 && ((t517 == 0 && (t518 == 0)))))) 2 rfl rfl (hon 2 (by kernel_rfl)) rfl
                    replace ha := Aside0.mk ha
                    have HO530 := Aside0.mk Q_HO530
                    have BK519 := Aside0.mk Q_BK519
                    have BK523 := Aside0.mk Q_BK523
                    have BK537 := Aside0.mk Q_BK537
                    have HB := Aside0.mk Q_HB
                    refine value_ (w1 := w') (v := .bool (t516 == 1 && ((t517 == 0 && (t518 == 0))))) (by rfl) rfl ?_ ?_
                    · go_simp
                      (try simp only [i64_w])
                      try rfl
                    refine hK.out _ _ ⟨v545, v552, v558, (by rw [ha.out]; exact putSel_upk 3 hb_ rfl rfl rfl), Q_HO530, Q_BK519, Q_BK523, Q_BK537, Q_HB, fun h0_ => absurd ((hoff 19 (by kernel_rfl)).symm.trans h0_) (by decide), fun h0_ => absurd ((hoff 22 (by kernel_rfl)).symm.trans h0_) (by decide), fun h0_ => absurd ((hoff 27 (by kernel_rfl)).symm.trans h0_) (by decide)⟩
                  refine steps_cons ?_ ?_
                  · rintro b a w' ⟨v545, v552, v558, ha, Q_HO530, Q_BK519, Q_BK523, Q_BK537, Q_HB, Q_HO546, Q_HO553, Q_HO559⟩ hb_ hon hoff
                    refine ⟨_, rfl, fun K hK => ?_⟩
                    have e3 : a.tmps[3]? = some (.int .i64 t522) := by rw [ha]; exact (putSel_off rfl).trans rfl
                    have e26 : a.tmps[26]? = some (.bool (t516 == 1 && ((t517 == 0 && (t518 == 0))))) := by rw [ha]; exact putSel_on (e := (3, 26, .bool (t516 == 1 && ((t517 == 0 && (t518 == 0)))))) 3 rfl rfl (hon 3 (by kernel_rfl)) rfl
                    replace ha := Aside0.mk ha
                    have HO530 := Aside0.mk Q_HO530
                    have BK519 := Aside0.mk Q_BK519
                    have BK523 := Aside0.mk Q_BK523
                    have BK537 := Aside0.mk Q_BK537
                    have HB := Aside0.mk Q_HB
                    refine value_ (w1 := w') (v := .int .i64 t522) (wanted_on rfl rfl rfl (e26.trans (by first | rfl | (simp [*]; done)))) rfl ?_ ?_
                    · go_simp
                      (try simp only [i64_w])
                      try rfl
                    refine hK.out _ _ ⟨v545, v552, v558, (by rw [ha.out]; exact putSel_upk 4 hb_ rfl rfl rfl), Q_HO530, Q_BK519, Q_BK523, Q_BK537, Q_HB, fun h0_ => absurd ((hoff 19 (by kernel_rfl)).symm.trans h0_) (by decide), fun h0_ => absurd ((hoff 22 (by kernel_rfl)).symm.trans h0_) (by decide), fun h0_ => absurd ((hoff 27 (by kernel_rfl)).symm.trans h0_) (by decide)⟩
                  refine steps_cons ?_ ?_
                  · rintro b a w' ⟨v545, v552, v558, ha, Q_HO530, Q_BK519, Q_BK523, Q_BK537, Q_HB, Q_HO546, Q_HO553, Q_HO559⟩ hb_ hon hoff
                    refine ⟨_, rfl, fun K hK => ?_⟩
                    have e27 : a.tmps[27]? = some (.int .i64 t522) := by rw [ha]; exact putSel_on (e := (4, 27, .int .i64 t522)) 4 rfl rfl (hon 4 (by kernel_rfl)) rfl
                    have e26 : a.tmps[26]? = some (.bool (t516 == 1 && ((t517 == 0 && (t518 == 0))))) := by rw [ha]; exact putSel_on (e := (3, 26, .bool (t516 == 1 && ((t517 == 0 && (t518 == 0)))))) 3 rfl rfl (hon 3 (by kernel_rfl)) rfl
                    replace ha := Aside0.mk ha
                    have HO530 := Aside0.mk Q_HO530
                    have BK519 := Aside0.mk Q_BK519
                    have BK523 := Aside0.mk Q_BK523
                    have BK537 := Aside0.mk Q_BK537
                    have HB := Aside0.mk Q_HB
                    refine value_ (w1 := w') (v := .bool (t522 == 10)) (wanted_on rfl rfl rfl (e26.trans (by first | rfl | (simp [*]; done)))) rfl ?_ ?_
                    · go_simp
                      (try simp only [i64_w])
                      try rfl
                    refine hK.out _ _ ⟨v545, v552, v558, (by rw [ha.out]; exact putSel_upk 5 hb_ rfl rfl rfl), Q_HO530, Q_BK519, Q_BK523, Q_BK537, Q_HB, fun h0_ => absurd ((hoff 19 (by kernel_rfl)).symm.trans h0_) (by decide), fun h0_ => absurd ((hoff 22 (by kernel_rfl)).symm.trans h0_) (by decide), fun h0_ => absurd ((hoff 27 (by kernel_rfl)).symm.trans h0_) (by decide)⟩
                  refine steps_cons ?_ ?_
                  · rintro b a w' ⟨v545, v552, v558, ha, Q_HO530, Q_BK519, Q_BK523, Q_BK537, Q_HB, Q_HO546, Q_HO553, Q_HO559⟩ hb_ hon hoff
                    refine ⟨_, rfl, fun K hK => ?_⟩
                    have e26 : a.tmps[26]? = some (.bool (t516 == 1 && ((t517 == 0 && (t518 == 0))))) := by rw [ha]; exact putSel_on (e := (3, 26, .bool (t516 == 1 && ((t517 == 0 && (t518 == 0)))))) 3 rfl rfl (hon 3 (by kernel_rfl)) rfl
                    have e28 : a.tmps[28]? = some (.bool (t522 == 10)) := by rw [ha]; exact putSel_on (e := (5, 28, .bool (t522 == 10))) 5 rfl rfl (hon 5 (by kernel_rfl)) rfl
                    replace ha := Aside0.mk ha
                    have HO530 := Aside0.mk Q_HO530
                    have BK519 := Aside0.mk Q_BK519
                    have BK523 := Aside0.mk Q_BK523
                    have BK537 := Aside0.mk Q_BK537
                    have HB := Aside0.mk Q_HB
                    refine value_ (w1 := w') (v := .bool (t522 == 10)) (by rfl) rfl ?_ ?_
                    · go_simp
                      (try simp only [i64_w])
                      try rfl
                    refine hK.out _ _ ⟨v545, v552, v558, (by rw [ha.out]; exact putSel_upk 6 hb_ rfl rfl rfl), Q_HO530, Q_BK519, Q_BK523, Q_BK537, Q_HB, fun h0_ => absurd ((hoff 19 (by kernel_rfl)).symm.trans h0_) (by decide), fun h0_ => absurd ((hoff 22 (by kernel_rfl)).symm.trans h0_) (by decide), fun h0_ => absurd ((hoff 27 (by kernel_rfl)).symm.trans h0_) (by decide)⟩
                  refine steps_cons ?_ ?_
                  · rintro b a w' ⟨v545, v552, v558, ha, Q_HO530, Q_BK519, Q_BK523, Q_BK537, Q_HB, Q_HO546, Q_HO553, Q_HO559⟩ hb_ hon hoff
                    refine ⟨_, rfl, fun K hK => ?_⟩
                    have e29 : a.tmps[29]? = some (.bool (t522 == 10)) := by rw [ha]; exact putSel_on (e := (6, 29, .bool (t522 == 10))) 6 rfl rfl (hon 6 (by kernel_rfl)) rfl
                    replace ha := Aside0.mk ha
                    have HO530 := Aside0.mk Q_HO530
                    have BK519 := Aside0.mk Q_BK519
                    have BK523 := Aside0.mk Q_BK523
                    have BK537 := Aside0.mk Q_BK537
                    have HB := Aside0.mk Q_HB
                    refine value_ (w1 := w') (v := .bool (t522 == 10)) (by rfl) rfl ?_ ?_
                    · go_simp
                      (try simp only [i64_w])
                      try rfl
                    refine hK.out _ _ ⟨v545, v552, v558, (by rw [ha.out]; exact putSel_upk 7 hb_ rfl rfl rfl), Q_HO530, Q_BK519, Q_BK523, Q_BK537, Q_HB, fun h0_ => absurd ((hoff 19 (by kernel_rfl)).symm.trans h0_) (by decide), fun h0_ => absurd ((hoff 22 (by kernel_rfl)).symm.trans h0_) (by decide), fun h0_ => absurd ((hoff 27 (by kernel_rfl)).symm.trans h0_) (by decide)⟩
                  refine steps_cons ?_ ?_
                  · rintro b a w' ⟨v545, v552, v558, ha, Q_HO530, Q_BK519, Q_BK523, Q_BK537, Q_HB, Q_HO546, Q_HO553, Q_HO559⟩ hb_ hon hoff
                    refine ⟨_, rfl, fun K hK => ?_⟩
                    have e5 : a.tmps[5]? = some (.int .i64 t536) := by rw [ha]; exact (putSel_off rfl).trans rfl
                    have e30 : a.tmps[30]? = some (.bool (t522 == 10)) := by rw [ha]; exact putSel_on (e := (7, 30, .bool (t522 == 10))) 7 rfl rfl (hon 7 (by kernel_rfl)) rfl
                    replace ha := Aside0.mk ha
                    have HO530 := Aside0.mk Q_HO530
                    have BK519 := Aside0.mk Q_BK519
                    have BK523 := Aside0.mk Q_BK523
                    have BK537 := Aside0.mk Q_BK537
                    have HB := Aside0.mk Q_HB
                    refine value_ (w1 := w') (v := .int .i64 t536) (wanted_on rfl rfl rfl (e30.trans (by first | rfl | (simp [*]; done)))) rfl ?_ ?_
                    · go_simp
                      (try simp only [i64_w])
                      try rfl
                    refine hK.out _ _ ⟨v545, v552, v558, (by rw [ha.out]; exact putSel_upk 8 hb_ rfl rfl rfl), Q_HO530, Q_BK519, Q_BK523, Q_BK537, Q_HB, fun h0_ => absurd ((hoff 19 (by kernel_rfl)).symm.trans h0_) (by decide), fun h0_ => absurd ((hoff 22 (by kernel_rfl)).symm.trans h0_) (by decide), fun h0_ => absurd ((hoff 27 (by kernel_rfl)).symm.trans h0_) (by decide)⟩
                  refine steps_cons ?_ ?_
                  · rintro b a w' ⟨v545, v552, v558, ha, Q_HO530, Q_BK519, Q_BK523, Q_BK537, Q_HB, Q_HO546, Q_HO553, Q_HO559⟩ hb_ hon hoff
                    refine ⟨_, rfl, fun K hK => ?_⟩
                    have e31 : a.tmps[31]? = some (.int .i64 t536) := by rw [ha]; exact putSel_on (e := (8, 31, .int .i64 t536)) 8 rfl rfl (hon 8 (by kernel_rfl)) rfl
                    have e30 : a.tmps[30]? = some (.bool (t522 == 10)) := by rw [ha]; exact putSel_on (e := (7, 30, .bool (t522 == 10))) 7 rfl rfl (hon 7 (by kernel_rfl)) rfl
                    replace ha := Aside0.mk ha
                    have HO530 := Aside0.mk Q_HO530
                    have BK519 := Aside0.mk Q_BK519
                    have BK523 := Aside0.mk Q_BK523
                    have BK537 := Aside0.mk Q_BK537
                    have HB := Aside0.mk Q_HB
                    refine value_ (w1 := w') (v := .bool (t536 == 0)) (wanted_on rfl rfl rfl (e30.trans (by first | rfl | (simp [*]; done)))) rfl ?_ ?_
                    · go_simp
                      (try simp only [i64_w])
                      try rfl
                    refine hK.out _ _ ⟨v545, v552, v558, (by rw [ha.out]; exact putSel_upk 9 hb_ rfl rfl rfl), Q_HO530, Q_BK519, Q_BK523, Q_BK537, Q_HB, fun h0_ => absurd ((hoff 19 (by kernel_rfl)).symm.trans h0_) (by decide), fun h0_ => absurd ((hoff 22 (by kernel_rfl)).symm.trans h0_) (by decide), fun h0_ => absurd ((hoff 27 (by kernel_rfl)).symm.trans h0_) (by decide)⟩
                  refine steps_cons ?_ ?_
                  · rintro b a w' ⟨v545, v552, v558, ha, Q_HO530, Q_BK519, Q_BK523, Q_BK537, Q_HB, Q_HO546, Q_HO553, Q_HO559⟩ hb_ hon hoff
                    refine ⟨_, rfl, fun K hK => ?_⟩
                    have e30 : a.tmps[30]? = some (.bool (t522 == 10)) := by rw [ha]; exact putSel_on (e := (7, 30, .bool (t522 == 10))) 7 rfl rfl (hon 7 (by kernel_rfl)) rfl
                    have e32 : a.tmps[32]? = some (.bool (t536 == 0)) := by rw [ha]; exact putSel_on (e := (9, 32, .bool (t536 == 0))) 9 rfl rfl (hon 9 (by kernel_rfl)) rfl
                    replace ha := Aside0.mk ha
                    have HO530 := Aside0.mk Q_HO530
                    have BK519 := Aside0.mk Q_BK519
                    have BK523 := Aside0.mk Q_BK523
                    have BK537 := Aside0.mk Q_BK537
                    have HB := Aside0.mk Q_HB
                    refine value_ (w1 := w') (v := .bool (t536 == 0)) (by rfl) rfl ?_ ?_
                    · go_simp
                      (try simp only [i64_w])
                      try rfl
                    refine hK.out _ _ ⟨v545, v552, v558, (by rw [ha.out]; exact putSel_upk 10 hb_ rfl rfl rfl), Q_HO530, Q_BK519, Q_BK523, Q_BK537, Q_HB, fun h0_ => absurd ((hoff 19 (by kernel_rfl)).symm.trans h0_) (by decide), fun h0_ => absurd ((hoff 22 (by kernel_rfl)).symm.trans h0_) (by decide), fun h0_ => absurd ((hoff 27 (by kernel_rfl)).symm.trans h0_) (by decide)⟩
                  refine steps_cons ?_ ?_
                  · rintro b a w' ⟨v545, v552, v558, ha, Q_HO530, Q_BK519, Q_BK523, Q_BK537, Q_HB, Q_HO546, Q_HO553, Q_HO559⟩ hb_ hon hoff
                    refine ⟨_, rfl, fun K hK => ?_⟩
                    have e33 : a.tmps[33]? = some (.bool (t536 == 0)) := by rw [ha]; exact putSel_on (e := (10, 33, .bool (t536 == 0))) 10 rfl rfl (hon 10 (by kernel_rfl)) rfl
                    replace ha := Aside0.mk ha
                    have HO530 := Aside0.mk Q_HO530
                    have BK519 := Aside0.mk Q_BK519
                    have BK523 := Aside0.mk Q_BK523
                    have BK537 := Aside0.mk Q_BK537
                    have HB := Aside0.mk Q_HB
                    refine value_ (w1 := w') (v := .bool (t536 == 0)) (by rfl) rfl ?_ ?_
                    · go_simp
                      (try simp only [i64_w])
                      try rfl
                    refine hK.out _ _ ⟨v545, v552, v558, (by rw [ha.out]; exact putSel_upk 11 hb_ rfl rfl rfl), Q_HO530, Q_BK519, Q_BK523, Q_BK537, Q_HB, fun h0_ => absurd ((hoff 19 (by kernel_rfl)).symm.trans h0_) (by decide), fun h0_ => absurd ((hoff 22 (by kernel_rfl)).symm.trans h0_) (by decide), fun h0_ => absurd ((hoff 27 (by kernel_rfl)).symm.trans h0_) (by decide)⟩
                  refine steps_cons ?_ ?_
                  · rintro b a w' ⟨v545, v552, v558, ha, Q_HO530, Q_BK519, Q_BK523, Q_BK537, Q_HB, Q_HO546, Q_HO553, Q_HO559⟩ hb_ hon hoff
                    refine ⟨_, rfl, fun K hK => ?_⟩
                    have e4 : a.tmps[4]? = some (.pointer (some ⟨gb537, 0, none⟩)) := by rw [ha]; exact (putSel_off rfl).trans rfl
                    have e34 : a.tmps[34]? = some (.bool (t536 == 0)) := by rw [ha]; exact putSel_on (e := (11, 34, .bool (t536 == 0))) 11 rfl rfl (hon 11 (by kernel_rfl)) rfl
                    replace ha := Aside0.mk ha
                    have HO530 := Aside0.mk Q_HO530
                    have BK519 := Aside0.mk Q_BK519
                    have BK523 := Aside0.mk Q_BK523
                    have BK537 := Aside0.mk Q_BK537
                    have HB := Aside0.mk Q_HB
                    have hc0_ : w'.cell? ⟨gb537, 0, none⟩ = some (.int .u64 t534) := (blk_cell BK537.out 0).trans rfl
                    have hc1_ : w'.cell? ⟨gb537, 1, none⟩ = some (.int .u64 t535) := (blk_cell BK537.out 1).trans rfl
                    refine value_ (w1 := w') (v := .agg #[.int .u64 t534, .int .u64 t535]) (wanted_on rfl rfl rfl (e34.trans (by first | rfl | (simp [*]; done)))) rfl ?_ ?_
                    · go_simp
                      (try simp only [i64_w])
                      try rfl
                    refine hK.out _ _ ⟨v545, v552, v558, (by rw [ha.out]; exact putSel_upk 12 hb_ rfl rfl rfl), Q_HO530, Q_BK519, Q_BK523, Q_BK537, Q_HB, fun h0_ => absurd ((hoff 19 (by kernel_rfl)).symm.trans h0_) (by decide), fun h0_ => absurd ((hoff 22 (by kernel_rfl)).symm.trans h0_) (by decide), fun h0_ => absurd ((hoff 27 (by kernel_rfl)).symm.trans h0_) (by decide)⟩
                  refine steps_cons ?_ ?_
                  · rintro b a w' ⟨v545, v552, v558, ha, Q_HO530, Q_BK519, Q_BK523, Q_BK537, Q_HB, Q_HO546, Q_HO553, Q_HO559⟩ hb_ hon hoff
                    refine ⟨_, rfl, fun K hK => ?_⟩
                    have e34 : a.tmps[34]? = some (.bool (t536 == 0)) := by rw [ha]; exact putSel_on (e := (11, 34, .bool (t536 == 0))) 11 rfl rfl (hon 11 (by kernel_rfl)) rfl
                    replace ha := Aside0.mk ha
                    have HO530 := Aside0.mk Q_HO530
                    have BK519 := Aside0.mk Q_BK519
                    have BK523 := Aside0.mk Q_BK523
                    have BK537 := Aside0.mk Q_BK537
                    have HB := Aside0.mk Q_HB
                    refine goes_ Try.func51 (by kernel_rfl) rfl #[.int .u64 7] (by first | rfl | exact wanted_on rfl rfl rfl (e34.trans (by first | rfl | (simp [*]; done)))) rfl rfl (by first | (simp only [List.map_toArray, List.map_cons, List.map_nil, Act.eval, Array.getD_eq_getD_getElem?, Option.getD_some, e34]; done) | (simp only [List.map_toArray, List.map_cons, List.map_nil, Act.eval, Array.getD_eq_getD_getElem?, Option.getD_some, e34]; rfl)) ?_
                    with_reducible refine (u128_Of.calls 7 t538 t539 _ A13.out).mono ?_
                    rintro e w52 ⟨rfl, hb⟩
                    refine ⟨_, rfl, ?_⟩
                    have n0_ := Aside0.mk (Kd.R_below (by (with_reducible repeat (first | apply Kd.R_alloc | apply Kd.R_drewN | apply Kd.R_drew)); exact HO530.out) hb)
                    have n1_ := Aside0.mk (blk_below (g := gb519) (o := .cells #[.int .u64 t516, .int .u64 t517, .int .u64 t518] 27 (0, 0)) (by (with_reducible repeat (first | refine blk_drewN ?_ _ | refine blk_drew ?_ | refine blk_alloc ?_ _)); exact BK519.out) hb)
                    have n2_ := Aside0.mk (blk_below (g := gb523) (o := .cells #[.int .u64 t520, .int .u64 t521] 25 (0, 0)) (by (with_reducible repeat (first | refine blk_drewN ?_ _ | refine blk_drew ?_ | refine blk_alloc ?_ _)); exact BK523.out) hb)
                    have n3_ := Aside0.mk (blk_below (g := gb537) (o := .cells #[.int .u64 t534, .int .u64 t535] 25 (0, 0)) (by (with_reducible repeat (first | refine blk_drewN ?_ _ | refine blk_drew ?_ | refine blk_alloc ?_ _)); exact BK537.out) hb)
                    have n4_ := Aside0.mk (below_step (by repeat (first | (with_reducible first | exact HB.out | apply below_alloc | apply pw_below_drewN | apply below_drew1 | refine below_set ?_ GE519.out | refine below_set ?_ GE523.out | refine below_set ?_ GE537.out) | exact HB.out)) hb)
                    clear HO530
                    clear BK519
                    clear BK523
                    clear BK537
                    clear HB
                    have HO530 := n0_
                    have BK519 := n1_
                    have BK523 := n2_
                    have BK537 := n3_
                    have HB := n4_
                    clear n0_ n1_ n2_ n3_ n4_
                    (try clear hb)
                    (try clear hb2)
                    (try clear hk)
                    (try clear hi)
                    refine hK.out _ _ ⟨v545, v552, v558, (by rw [ha.out]; exact putSel_upk 13 hb_ rfl rfl rfl), (by (with_reducible repeat (first | apply Kd.R_alloc | apply Kd.R_drewN | apply Kd.R_drew)); exact HO530.out), (by (with_reducible repeat (first | refine blk_drewN ?_ _ | refine blk_drew ?_ | refine blk_alloc ?_ _)); exact BK519.out), (by (with_reducible repeat (first | refine blk_drewN ?_ _ | refine blk_drew ?_ | refine blk_alloc ?_ _)); exact BK523.out), (by (with_reducible repeat (first | refine blk_drewN ?_ _ | refine blk_drew ?_ | refine blk_alloc ?_ _)); exact BK537.out), (by repeat (first | (with_reducible first | exact HB.out | apply below_alloc | apply pw_below_drewN | apply below_drew1 | refine below_set ?_ GE519.out | refine below_set ?_ GE523.out | refine below_set ?_ GE537.out) | exact HB.out)), fun h0_ => absurd ((hoff 19 (by kernel_rfl)).symm.trans h0_) (by decide), fun h0_ => absurd ((hoff 22 (by kernel_rfl)).symm.trans h0_) (by decide), fun h0_ => absurd ((hoff 27 (by kernel_rfl)).symm.trans h0_) (by decide)⟩
                  refine steps_cons ?_ ?_
                  · rintro b a w' ⟨v545, v552, v558, ha, Q_HO530, Q_BK519, Q_BK523, Q_BK537, Q_HB, Q_HO546, Q_HO553, Q_HO559⟩ hb_ hon hoff
                    refine ⟨_, rfl, fun K hK => ?_⟩
                    have e35 : a.tmps[35]? = some (.agg #[.int .u64 t534, .int .u64 t535]) := by rw [ha]; exact putSel_on (e := (12, 35, .agg #[.int .u64 t534, .int .u64 t535])) 12 rfl rfl (hon 12 (by kernel_rfl)) rfl
                    have e36 : a.tmps[36]? = some (.agg #[.int .u64 t538, .int .u64 t539]) := by rw [ha]; exact putSel_on (e := (13, 36, .agg #[.int .u64 t538, .int .u64 t539])) 13 rfl rfl (hon 13 (by kernel_rfl)) rfl
                    have e34 : a.tmps[34]? = some (.bool (t536 == 0)) := by rw [ha]; exact putSel_on (e := (11, 34, .bool (t536 == 0))) 11 rfl rfl (hon 11 (by kernel_rfl)) rfl
                    replace ha := Aside0.mk ha
                    have HO530 := Aside0.mk Q_HO530
                    have BK519 := Aside0.mk Q_BK519
                    have BK523 := Aside0.mk Q_BK523
                    have BK537 := Aside0.mk Q_BK537
                    have HB := Aside0.mk Q_HB
                    refine value_ (w1 := w') (v := .bool (t534 == t538 && (t535 == t539))) (wanted_on rfl rfl rfl (e34.trans (by first | rfl | (simp [*]; done)))) rfl ?_ ?_
                    · go_simp
                      (try simp only [i64_w])
                      try rfl
                    refine hK.out _ _ ⟨v545, v552, v558, (by rw [ha.out]; exact putSel_upk 14 hb_ rfl rfl rfl), Q_HO530, Q_BK519, Q_BK523, Q_BK537, Q_HB, fun h0_ => absurd ((hoff 19 (by kernel_rfl)).symm.trans h0_) (by decide), fun h0_ => absurd ((hoff 22 (by kernel_rfl)).symm.trans h0_) (by decide), fun h0_ => absurd ((hoff 27 (by kernel_rfl)).symm.trans h0_) (by decide)⟩
                  refine steps_cons ?_ ?_
                  · rintro b a w' ⟨v545, v552, v558, ha, Q_HO530, Q_BK519, Q_BK523, Q_BK537, Q_HB, Q_HO546, Q_HO553, Q_HO559⟩ hb_ hon hoff
                    refine ⟨_, rfl, fun K hK => ?_⟩
                    have e34 : a.tmps[34]? = some (.bool (t536 == 0)) := by rw [ha]; exact putSel_on (e := (11, 34, .bool (t536 == 0))) 11 rfl rfl (hon 11 (by kernel_rfl)) rfl
                    have e37 : a.tmps[37]? = some (.bool (t534 == t538 && (t535 == t539))) := by rw [ha]; exact putSel_on (e := (14, 37, .bool (t534 == t538 && (t535 == t539)))) 14 rfl rfl (hon 14 (by kernel_rfl)) rfl
                    replace ha := Aside0.mk ha
                    have HO530 := Aside0.mk Q_HO530
                    have BK519 := Aside0.mk Q_BK519
                    have BK523 := Aside0.mk Q_BK523
                    have BK537 := Aside0.mk Q_BK537
                    have HB := Aside0.mk Q_HB
                    refine value_ (w1 := w') (v := .bool (t534 == t538 && (t535 == t539))) (by rfl) rfl ?_ ?_
                    · go_simp
                      (try simp only [i64_w])
                      try rfl
                    refine hK.out _ _ ⟨v545, v552, v558, (by rw [ha.out]; exact putSel_upk 15 hb_ rfl rfl rfl), Q_HO530, Q_BK519, Q_BK523, Q_BK537, Q_HB, fun h0_ => absurd ((hoff 19 (by kernel_rfl)).symm.trans h0_) (by decide), fun h0_ => absurd ((hoff 22 (by kernel_rfl)).symm.trans h0_) (by decide), fun h0_ => absurd ((hoff 27 (by kernel_rfl)).symm.trans h0_) (by decide)⟩
                  refine steps_cons ?_ ?_
                  · rintro b a w' ⟨v545, v552, v558, ha, Q_HO530, Q_BK519, Q_BK523, Q_BK537, Q_HB, Q_HO546, Q_HO553, Q_HO559⟩ hb_ hon hoff
                    refine ⟨_, rfl, fun K hK => ?_⟩
                    have e38 : a.tmps[38]? = some (.bool (t534 == t538 && (t535 == t539))) := by rw [ha]; exact putSel_on (e := (15, 38, .bool (t534 == t538 && (t535 == t539)))) 15 rfl rfl (hon 15 (by kernel_rfl)) rfl
                    replace ha := Aside0.mk ha
                    have HO530 := Aside0.mk Q_HO530
                    have BK519 := Aside0.mk Q_BK519
                    have BK523 := Aside0.mk Q_BK523
                    have BK537 := Aside0.mk Q_BK537
                    have HB := Aside0.mk Q_HB
                    refine value_ (w1 := w') (v := .bool (t534 == t538 && (t535 == t539))) (by rfl) rfl ?_ ?_
                    · go_simp
                      (try simp only [i64_w])
                      try rfl
                    refine hK.out _ _ ⟨v545, v552, v558, (by rw [ha.out]; exact putSel_upk 16 hb_ rfl rfl rfl), Q_HO530, Q_BK519, Q_BK523, Q_BK537, Q_HB, fun h0_ => absurd ((hoff 19 (by kernel_rfl)).symm.trans h0_) (by decide), fun h0_ => absurd ((hoff 22 (by kernel_rfl)).symm.trans h0_) (by decide), fun h0_ => absurd ((hoff 27 (by kernel_rfl)).symm.trans h0_) (by decide)⟩
                  refine steps_cons ?_ ?_
                  · rintro b a w' ⟨v545, v552, v558, ha, Q_HO530, Q_BK519, Q_BK523, Q_BK537, Q_HB, Q_HO546, Q_HO553, Q_HO559⟩ hb_ hon hoff
                    refine ⟨_, rfl, fun K hK => ?_⟩
                    have e39 : a.tmps[39]? = some (.bool (t534 == t538 && (t535 == t539))) := by rw [ha]; exact putSel_on (e := (16, 39, .bool (t534 == t538 && (t535 == t539)))) 16 rfl rfl (hon 16 (by kernel_rfl)) rfl
                    replace ha := Aside0.mk ha
                    have HO530 := Aside0.mk Q_HO530
                    have BK519 := Aside0.mk Q_BK519
                    have BK523 := Aside0.mk Q_BK523
                    have BK537 := Aside0.mk Q_BK537
                    have HB := Aside0.mk Q_HB
                    refine goes_ Try.func51 (by kernel_rfl) rfl #[.int .u64 3] (by first | rfl | exact wanted_on rfl rfl rfl (e39.trans (by first | rfl | (simp [*]; done)))) rfl rfl (by first | (simp only [List.map_toArray, List.map_cons, List.map_nil, Act.eval, Array.getD_eq_getD_getElem?, Option.getD_some, e39]; done) | (simp only [List.map_toArray, List.map_cons, List.map_nil, Act.eval, Array.getD_eq_getD_getElem?, Option.getD_some, e39]; rfl)) ?_
                    with_reducible refine (u128_Of.calls 3 t540 t541 _ A15.out).mono ?_
                    rintro e w54 ⟨rfl, hb⟩
                    refine ⟨_, rfl, ?_⟩
                    have n0_ := Aside0.mk (Kd.R_below (by (with_reducible repeat (first | apply Kd.R_alloc | apply Kd.R_drewN | apply Kd.R_drew)); exact HO530.out) hb)
                    have n1_ := Aside0.mk (blk_below (g := gb519) (o := .cells #[.int .u64 t516, .int .u64 t517, .int .u64 t518] 27 (0, 0)) (by (with_reducible repeat (first | refine blk_drewN ?_ _ | refine blk_drew ?_ | refine blk_alloc ?_ _)); exact BK519.out) hb)
                    have n2_ := Aside0.mk (blk_below (g := gb523) (o := .cells #[.int .u64 t520, .int .u64 t521] 25 (0, 0)) (by (with_reducible repeat (first | refine blk_drewN ?_ _ | refine blk_drew ?_ | refine blk_alloc ?_ _)); exact BK523.out) hb)
                    have n3_ := Aside0.mk (blk_below (g := gb537) (o := .cells #[.int .u64 t534, .int .u64 t535] 25 (0, 0)) (by (with_reducible repeat (first | refine blk_drewN ?_ _ | refine blk_drew ?_ | refine blk_alloc ?_ _)); exact BK537.out) hb)
                    have n4_ := Aside0.mk (below_step (by repeat (first | (with_reducible first | exact HB.out | apply below_alloc | apply pw_below_drewN | apply below_drew1 | refine below_set ?_ GE519.out | refine below_set ?_ GE523.out | refine below_set ?_ GE537.out) | exact HB.out)) hb)
                    clear HO530
                    clear BK519
                    clear BK523
                    clear BK537
                    clear HB
                    have HO530 := n0_
                    have BK519 := n1_
                    have BK523 := n2_
                    have BK537 := n3_
                    have HB := n4_
                    clear n0_ n1_ n2_ n3_ n4_
                    (try clear hb)
                    (try clear hb2)
                    (try clear hk)
                    (try clear hi)
                    refine hK.out _ _ ⟨v545, v552, v558, (by rw [ha.out]; exact putSel_upk 17 hb_ rfl rfl rfl), (by (with_reducible repeat (first | apply Kd.R_alloc | apply Kd.R_drewN | apply Kd.R_drew)); exact HO530.out), (by (with_reducible repeat (first | refine blk_drewN ?_ _ | refine blk_drew ?_ | refine blk_alloc ?_ _)); exact BK519.out), (by (with_reducible repeat (first | refine blk_drewN ?_ _ | refine blk_drew ?_ | refine blk_alloc ?_ _)); exact BK523.out), (by (with_reducible repeat (first | refine blk_drewN ?_ _ | refine blk_drew ?_ | refine blk_alloc ?_ _)); exact BK537.out), (by repeat (first | (with_reducible first | exact HB.out | apply below_alloc | apply pw_below_drewN | apply below_drew1 | refine below_set ?_ GE519.out | refine below_set ?_ GE523.out | refine below_set ?_ GE537.out) | exact HB.out)), fun h0_ => absurd ((hoff 19 (by kernel_rfl)).symm.trans h0_) (by decide), fun h0_ => absurd ((hoff 22 (by kernel_rfl)).symm.trans h0_) (by decide), fun h0_ => absurd ((hoff 27 (by kernel_rfl)).symm.trans h0_) (by decide)⟩
                  refine steps_cons ?_ ?_
                  · rintro b a w' ⟨v545, v552, v558, ha, Q_HO530, Q_BK519, Q_BK523, Q_BK537, Q_HB, Q_HO546, Q_HO553, Q_HO559⟩ hb_ hon hoff
                    refine ⟨_, rfl, fun K hK => ?_⟩
                    have e39 : a.tmps[39]? = some (.bool (t534 == t538 && (t535 == t539))) := by rw [ha]; exact putSel_on (e := (16, 39, .bool (t534 == t538 && (t535 == t539)))) 16 rfl rfl (hon 16 (by kernel_rfl)) rfl
                    replace ha := Aside0.mk ha
                    have HO530 := Aside0.mk Q_HO530
                    have BK519 := Aside0.mk Q_BK519
                    have BK523 := Aside0.mk Q_BK523
                    have BK537 := Aside0.mk Q_BK537
                    have HB := Aside0.mk Q_HB
                    refine goes_ Try.func51 (by kernel_rfl) rfl #[.int .u64 4] (by first | rfl | exact wanted_on rfl rfl rfl (e39.trans (by first | rfl | (simp [*]; done)))) rfl rfl (by first | (simp only [List.map_toArray, List.map_cons, List.map_nil, Act.eval, Array.getD_eq_getD_getElem?, Option.getD_some, e39]; done) | (simp only [List.map_toArray, List.map_cons, List.map_nil, Act.eval, Array.getD_eq_getD_getElem?, Option.getD_some, e39]; rfl)) ?_
                    with_reducible refine (u128_Of.calls 4 t542 t543 _ A16.out).mono ?_
                    rintro e w55 ⟨rfl, hb⟩
                    refine ⟨_, rfl, ?_⟩
                    have n0_ := Aside0.mk (Kd.R_below (by (with_reducible repeat (first | apply Kd.R_alloc | apply Kd.R_drewN | apply Kd.R_drew)); exact HO530.out) hb)
                    have n1_ := Aside0.mk (blk_below (g := gb519) (o := .cells #[.int .u64 t516, .int .u64 t517, .int .u64 t518] 27 (0, 0)) (by (with_reducible repeat (first | refine blk_drewN ?_ _ | refine blk_drew ?_ | refine blk_alloc ?_ _)); exact BK519.out) hb)
                    have n2_ := Aside0.mk (blk_below (g := gb523) (o := .cells #[.int .u64 t520, .int .u64 t521] 25 (0, 0)) (by (with_reducible repeat (first | refine blk_drewN ?_ _ | refine blk_drew ?_ | refine blk_alloc ?_ _)); exact BK523.out) hb)
                    have n3_ := Aside0.mk (blk_below (g := gb537) (o := .cells #[.int .u64 t534, .int .u64 t535] 25 (0, 0)) (by (with_reducible repeat (first | refine blk_drewN ?_ _ | refine blk_drew ?_ | refine blk_alloc ?_ _)); exact BK537.out) hb)
                    have n4_ := Aside0.mk (below_step (by repeat (first | (with_reducible first | exact HB.out | apply below_alloc | apply pw_below_drewN | apply below_drew1 | refine below_set ?_ GE519.out | refine below_set ?_ GE523.out | refine below_set ?_ GE537.out) | exact HB.out)) hb)
                    clear HO530
                    clear BK519
                    clear BK523
                    clear BK537
                    clear HB
                    have HO530 := n0_
                    have BK519 := n1_
                    have BK523 := n2_
                    have BK537 := n3_
                    have HB := n4_
                    clear n0_ n1_ n2_ n3_ n4_
                    (try clear hb)
                    (try clear hb2)
                    (try clear hk)
                    (try clear hi)
                    refine hK.out _ _ ⟨v545, v552, v558, (by rw [ha.out]; exact putSel_upk 18 hb_ rfl rfl rfl), (by (with_reducible repeat (first | apply Kd.R_alloc | apply Kd.R_drewN | apply Kd.R_drew)); exact HO530.out), (by (with_reducible repeat (first | refine blk_drewN ?_ _ | refine blk_drew ?_ | refine blk_alloc ?_ _)); exact BK519.out), (by (with_reducible repeat (first | refine blk_drewN ?_ _ | refine blk_drew ?_ | refine blk_alloc ?_ _)); exact BK523.out), (by (with_reducible repeat (first | refine blk_drewN ?_ _ | refine blk_drew ?_ | refine blk_alloc ?_ _)); exact BK537.out), (by repeat (first | (with_reducible first | exact HB.out | apply below_alloc | apply pw_below_drewN | apply below_drew1 | refine below_set ?_ GE519.out | refine below_set ?_ GE523.out | refine below_set ?_ GE537.out) | exact HB.out)), fun h0_ => absurd ((hoff 19 (by kernel_rfl)).symm.trans h0_) (by decide), fun h0_ => absurd ((hoff 22 (by kernel_rfl)).symm.trans h0_) (by decide), fun h0_ => absurd ((hoff 27 (by kernel_rfl)).symm.trans h0_) (by decide)⟩
                  refine steps_cons ?_ ?_
                  · rintro b a w' ⟨v545, v552, v558, ha, Q_HO530, Q_BK519, Q_BK523, Q_BK537, Q_HB, Q_HO546, Q_HO553, Q_HO559⟩ hb_ hon hoff
                    refine ⟨_, rfl, fun K hK => ?_⟩
                    have e40 : a.tmps[40]? = some (.agg #[.int .u64 t540, .int .u64 t541]) := by rw [ha]; exact putSel_on (e := (17, 40, .agg #[.int .u64 t540, .int .u64 t541])) 17 rfl rfl (hon 17 (by kernel_rfl)) rfl
                    have e41 : a.tmps[41]? = some (.agg #[.int .u64 t542, .int .u64 t543]) := by rw [ha]; exact putSel_on (e := (18, 41, .agg #[.int .u64 t542, .int .u64 t543])) 18 rfl rfl (hon 18 (by kernel_rfl)) rfl
                    have e39 : a.tmps[39]? = some (.bool (t534 == t538 && (t535 == t539))) := by rw [ha]; exact putSel_on (e := (16, 39, .bool (t534 == t538 && (t535 == t539)))) 16 rfl rfl (hon 16 (by kernel_rfl)) rfl
                    replace ha := Aside0.mk ha
                    have HO530 := Aside0.mk Q_HO530
                    have BK519 := Aside0.mk Q_BK519
                    have BK523 := Aside0.mk Q_BK523
                    have BK537 := Aside0.mk Q_BK537
                    have HB := Aside0.mk Q_HB
                    refine Kd.R_lit_step k25 _ 25 ?hg (N := 42) ?hd (xs := ([(⟨t540, t541⟩ : S25), (⟨t542, t543⟩ : S25)] : List (S25))) (inner := [.int .u64 t540, .int .u64 t541, .int .u64 t542, .int .u64 t543]) (ok := fun _ => True) (okp := fun _ => True) ?hr ?hp (fun _ hk => hk) trivial (Below.refl _ _) (Nat.le_refl _) (by simp) ?_; (case hd => rfl); (case hg => first | rfl | exact wanted_on rfl rfl rfl (e39.trans (by first | rfl | (simp [*]; done)))); (case hr => first | (go_simp; done) | (go_simp; rfl)); (case hp => exact (Reps.c2 (show Kd.M k25 _ _ _ (⟨t540, t541⟩ : S25) [.int .u64 t540, .int .u64 t541] from (k25_mkM _ _ _ (⟨t540, t541⟩ : S25) )) (Reps.c2 (show Kd.M k25 _ _ _ (⟨t542, t543⟩ : S25) [.int .u64 t542, .int .u64 t543] from (k25_mkM _ _ _ (⟨t542, t543⟩ : S25) )) (Reps.none _ _))))
                    intro v545 w56 ho57 hb hg_ hnew_
                    clear hg_ hnew_
                    (first | rw [← Ny544.out] at ho57 | (simp only [Int.reduceToNat] at ho57; rw [← Ny544.out] at ho57))
                    have n0_ := Aside0.mk (Kd.R_elder' (by (with_reducible repeat (first | apply Kd.R_alloc | apply Kd.R_drewN | apply Kd.R_drew)); exact HO530.out) (Kd.R_base ho57) hb)
                    have n1_ := Aside0.mk (Kd.R_lower (Kd.R_newB (Kd.R_newB (Kd.R_new' ho57 (Kd.R_lt (by (with_reducible repeat (first | apply Kd.R_alloc | apply Kd.R_drewN | apply Kd.R_drew)); exact HO530.out))) (g := gb523) (o := .cells #[.int .u64 t520, .int .u64 t521] 25 (0, 0)) (by (with_reducible repeat (first | refine blk_drewN ?_ _ | refine blk_drew ?_ | refine blk_alloc ?_ _)); exact BK523.out)) (g := gb537) (o := .cells #[.int .u64 t534, .int .u64 t535] 25 (0, 0)) (by (with_reducible repeat (first | refine blk_drewN ?_ _ | refine blk_drew ?_ | refine blk_alloc ?_ _)); exact BK537.out)) (below_size (by repeat (first | (with_reducible first | exact HB.out | apply below_alloc | apply pw_below_drewN | apply below_drew1 | refine below_set ?_ GE519.out | refine below_set ?_ GE523.out | refine below_set ?_ GE537.out) | exact HB.out))))
                    have n2_ := Aside0.mk (blk_below (g := gb519) (o := .cells #[.int .u64 t516, .int .u64 t517, .int .u64 t518] 27 (0, 0)) (by (with_reducible repeat (first | refine blk_drewN ?_ _ | refine blk_drew ?_ | refine blk_alloc ?_ _)); exact BK519.out) hb)
                    have n3_ := Aside0.mk (blk_below (g := gb523) (o := .cells #[.int .u64 t520, .int .u64 t521] 25 (0, 0)) (by (with_reducible repeat (first | refine blk_drewN ?_ _ | refine blk_drew ?_ | refine blk_alloc ?_ _)); exact BK523.out) hb)
                    have n4_ := Aside0.mk (blk_below (g := gb537) (o := .cells #[.int .u64 t534, .int .u64 t535] 25 (0, 0)) (by (with_reducible repeat (first | refine blk_drewN ?_ _ | refine blk_drew ?_ | refine blk_alloc ?_ _)); exact BK537.out) hb)
                    have n5_ := Aside0.mk (below_step (by repeat (first | (with_reducible first | exact HB.out | apply below_alloc | apply pw_below_drewN | apply below_drew1 | refine below_set ?_ GE519.out | refine below_set ?_ GE523.out | refine below_set ?_ GE537.out) | exact HB.out)) hb)
                    have z_HO553 := fun (h0_ : b 22 = true) => (show Kd.R k25 25 w56 w.heap.size (fun k_ => some k_ ≠ (.slice Ao43 y528.length co43 : Value).ownBlock ∧ k_ ≠ gb523 ∧ k_ ≠ gb537) v552 y551 from by first | exact (Kd.R_elder' (by (with_reducible repeat (first | apply Kd.R_alloc | apply Kd.R_drewN | apply Kd.R_drew)); exact (Q_HO553 h0_)) (Kd.R_base ho57) hb) | exact Kd.R_mono (Kd.R_elder' (by (with_reducible repeat (first | apply Kd.R_alloc | apply Kd.R_drewN | apply Kd.R_drew)); exact (Q_HO553 h0_)) (Kd.R_base ho57) hb) (fun _ h_ => by first | trivial | exact h_ | exact h_.1))
                    clear HO530
                    clear BK519
                    clear BK523
                    clear BK537
                    clear HB
                    have HO530 := n0_
                    have HO546 := n1_
                    have BK519 := n2_
                    have BK523 := n3_
                    have BK537 := n4_
                    have HB := n5_
                    clear n0_ n1_ n2_ n3_ n4_ n5_
                    clear hb ho57
                    refine hK.out _ _ ⟨v545, v552, v558, (by rw [ha.out]; exact putSel_upk 19 hb_ rfl rfl rfl), (by (with_reducible repeat (first | apply Kd.R_alloc | apply Kd.R_drewN | apply Kd.R_drew)); exact Kd.R_mono HO530.out (fun _ hk => by first | exact ⟨hk.2, ⟨hk.1.1, hk.1.2⟩⟩ | (repeat' (refine And.intro ?_ ?_)) <;> first | exact hk | exact hk.1 | exact hk.2 | exact hk.1.1 | exact hk.1.2 | exact hk.2.1 | exact hk.2.2 | exact hk.1.1.1 | exact hk.1.1.2 | exact hk.1.2.1 | exact hk.1.2.2 | exact hk.2.1.1 | exact hk.2.1.2 | exact hk.2.2.1 | exact hk.2.2.2 | exact hk.1.1.1.1 | exact hk.1.1.1.2 | exact hk.1.1.2.1 | exact hk.1.1.2.2 | exact hk.1.1.1.1.1 | exact hk.1.1.1.1.2 | trivial)), (by (with_reducible repeat (first | refine blk_drewN ?_ _ | refine blk_drew ?_ | refine blk_alloc ?_ _)); exact BK519.out), (by (with_reducible repeat (first | refine blk_drewN ?_ _ | refine blk_drew ?_ | refine blk_alloc ?_ _)); exact BK523.out), (by (with_reducible repeat (first | refine blk_drewN ?_ _ | refine blk_drew ?_ | refine blk_alloc ?_ _)); exact BK537.out), (by repeat (first | (with_reducible first | exact HB.out | apply below_alloc | apply pw_below_drewN | apply below_drew1 | refine below_set ?_ GE519.out | refine below_set ?_ GE523.out | refine below_set ?_ GE537.out) | exact HB.out)), fun _ => (by (with_reducible repeat (first | apply Kd.R_alloc | apply Kd.R_drewN | apply Kd.R_drew)); exact Kd.R_mono HO546.out (fun _ hk => by first | exact ⟨hk.1.1.2, ⟨hk.1.2, hk.2⟩⟩ | (repeat' (refine And.intro ?_ ?_)) <;> first | exact hk | exact hk.1 | exact hk.2 | exact hk.1.1 | exact hk.1.2 | exact hk.2.1 | exact hk.2.2 | exact hk.1.1.1 | exact hk.1.1.2 | exact hk.1.2.1 | exact hk.1.2.2 | exact hk.2.1.1 | exact hk.2.1.2 | exact hk.2.2.1 | exact hk.2.2.2 | exact hk.1.1.1.1 | exact hk.1.1.1.2 | exact hk.1.1.2.1 | exact hk.1.1.2.2 | exact hk.1.1.1.1.1 | exact hk.1.1.1.1.2 | trivial)), z_HO553, fun h0_ => absurd ((hoff 27 (by kernel_rfl)).symm.trans h0_) (by decide)⟩
                  refine steps_cons ?_ ?_
                  · rintro b a w' ⟨v545, v552, v558, ha, Q_HO530, Q_BK519, Q_BK523, Q_BK537, Q_HB, Q_HO546, Q_HO553, Q_HO559⟩ hb_ hon hoff
                    refine ⟨_, rfl, fun K hK => ?_⟩
                    have e39 : a.tmps[39]? = some (.bool (t534 == t538 && (t535 == t539))) := by rw [ha]; exact putSel_on (e := (16, 39, .bool (t534 == t538 && (t535 == t539)))) 16 rfl rfl (hon 16 (by kernel_rfl)) rfl
                    replace ha := Aside0.mk ha
                    have HO530 := Aside0.mk Q_HO530
                    have BK519 := Aside0.mk Q_BK519
                    have BK523 := Aside0.mk Q_BK523
                    have BK537 := Aside0.mk Q_BK537
                    have HB := Aside0.mk Q_HB
                    refine goes_ Try.func51 (by kernel_rfl) rfl #[.int .u64 5] (by first | rfl | exact wanted_on rfl rfl rfl (e39.trans (by first | rfl | (simp [*]; done)))) rfl rfl (by first | (simp only [List.map_toArray, List.map_cons, List.map_nil, Act.eval, Array.getD_eq_getD_getElem?, Option.getD_some, e39]; done) | (simp only [List.map_toArray, List.map_cons, List.map_nil, Act.eval, Array.getD_eq_getD_getElem?, Option.getD_some, e39]; rfl)) ?_
                    with_reducible refine (u128_Of.calls 5 t547 t548 _ A17.out).mono ?_
                    rintro e w56 ⟨rfl, hb⟩
                    refine ⟨_, rfl, ?_⟩
                    have n0_ := Aside0.mk (Kd.R_below (by (with_reducible repeat (first | apply Kd.R_alloc | apply Kd.R_drewN | apply Kd.R_drew)); exact HO530.out) hb)
                    have n1_ := Aside0.mk (blk_below (g := gb519) (o := .cells #[.int .u64 t516, .int .u64 t517, .int .u64 t518] 27 (0, 0)) (by (with_reducible repeat (first | refine blk_drewN ?_ _ | refine blk_drew ?_ | refine blk_alloc ?_ _)); exact BK519.out) hb)
                    have n2_ := Aside0.mk (blk_below (g := gb523) (o := .cells #[.int .u64 t520, .int .u64 t521] 25 (0, 0)) (by (with_reducible repeat (first | refine blk_drewN ?_ _ | refine blk_drew ?_ | refine blk_alloc ?_ _)); exact BK523.out) hb)
                    have n3_ := Aside0.mk (blk_below (g := gb537) (o := .cells #[.int .u64 t534, .int .u64 t535] 25 (0, 0)) (by (with_reducible repeat (first | refine blk_drewN ?_ _ | refine blk_drew ?_ | refine blk_alloc ?_ _)); exact BK537.out) hb)
                    have n4_ := Aside0.mk (below_step (by repeat (first | (with_reducible first | exact HB.out | apply below_alloc | apply pw_below_drewN | apply below_drew1 | refine below_set ?_ GE519.out | refine below_set ?_ GE523.out | refine below_set ?_ GE537.out) | exact HB.out)) hb)
                    have z_HO546 := fun (h0_ : b 19 = true) => (show Kd.R k25 25 w56 w.heap.size (fun k_ => some k_ ≠ (.slice Ao43 y528.length co43 : Value).ownBlock ∧ k_ ≠ gb523 ∧ k_ ≠ gb537) v545 y544 from by first | exact (Kd.R_below (by (with_reducible repeat (first | apply Kd.R_alloc | apply Kd.R_drewN | apply Kd.R_drew)); exact (Q_HO546 h0_)) hb) | exact Kd.R_mono (Kd.R_below (by (with_reducible repeat (first | apply Kd.R_alloc | apply Kd.R_drewN | apply Kd.R_drew)); exact (Q_HO546 h0_)) hb) (fun _ h_ => by first | trivial | exact h_ | exact h_.1))
                    clear HO530
                    clear BK519
                    clear BK523
                    clear BK537
                    clear HB
                    have HO530 := n0_
                    have BK519 := n1_
                    have BK523 := n2_
                    have BK537 := n3_
                    have HB := n4_
                    clear n0_ n1_ n2_ n3_ n4_
                    (try clear hb)
                    (try clear hb2)
                    (try clear hk)
                    (try clear hi)
                    refine hK.out _ _ ⟨v545, v552, v558, (by rw [ha.out]; exact putSel_upk 20 hb_ rfl rfl rfl), (by (with_reducible repeat (first | apply Kd.R_alloc | apply Kd.R_drewN | apply Kd.R_drew)); exact HO530.out), (by (with_reducible repeat (first | refine blk_drewN ?_ _ | refine blk_drew ?_ | refine blk_alloc ?_ _)); exact BK519.out), (by (with_reducible repeat (first | refine blk_drewN ?_ _ | refine blk_drew ?_ | refine blk_alloc ?_ _)); exact BK523.out), (by (with_reducible repeat (first | refine blk_drewN ?_ _ | refine blk_drew ?_ | refine blk_alloc ?_ _)); exact BK537.out), (by repeat (first | (with_reducible first | exact HB.out | apply below_alloc | apply pw_below_drewN | apply below_drew1 | refine below_set ?_ GE519.out | refine below_set ?_ GE523.out | refine below_set ?_ GE537.out) | exact HB.out)), z_HO546, fun h0_ => absurd ((hoff 22 (by kernel_rfl)).symm.trans h0_) (by decide), fun h0_ => absurd ((hoff 27 (by kernel_rfl)).symm.trans h0_) (by decide)⟩
                  refine steps_cons ?_ ?_
                  · rintro b a w' ⟨v545, v552, v558, ha, Q_HO530, Q_BK519, Q_BK523, Q_BK537, Q_HB, Q_HO546, Q_HO553, Q_HO559⟩ hb_ hon hoff
                    refine ⟨_, rfl, fun K hK => ?_⟩
                    have e39 : a.tmps[39]? = some (.bool (t534 == t538 && (t535 == t539))) := by rw [ha]; exact putSel_on (e := (16, 39, .bool (t534 == t538 && (t535 == t539)))) 16 rfl rfl (hon 16 (by kernel_rfl)) rfl
                    replace ha := Aside0.mk ha
                    have HO530 := Aside0.mk Q_HO530
                    have BK519 := Aside0.mk Q_BK519
                    have BK523 := Aside0.mk Q_BK523
                    have BK537 := Aside0.mk Q_BK537
                    have HB := Aside0.mk Q_HB
                    refine goes_ Try.func51 (by kernel_rfl) rfl #[.int .u64 2] (by first | rfl | exact wanted_on rfl rfl rfl (e39.trans (by first | rfl | (simp [*]; done)))) rfl rfl (by first | (simp only [List.map_toArray, List.map_cons, List.map_nil, Act.eval, Array.getD_eq_getD_getElem?, Option.getD_some, e39]; done) | (simp only [List.map_toArray, List.map_cons, List.map_nil, Act.eval, Array.getD_eq_getD_getElem?, Option.getD_some, e39]; rfl)) ?_
                    with_reducible refine (u128_Of.calls 2 t549 t550 _ A18.out).mono ?_
                    rintro e w57 ⟨rfl, hb⟩
                    refine ⟨_, rfl, ?_⟩
                    have n0_ := Aside0.mk (Kd.R_below (by (with_reducible repeat (first | apply Kd.R_alloc | apply Kd.R_drewN | apply Kd.R_drew)); exact HO530.out) hb)
                    have n1_ := Aside0.mk (blk_below (g := gb519) (o := .cells #[.int .u64 t516, .int .u64 t517, .int .u64 t518] 27 (0, 0)) (by (with_reducible repeat (first | refine blk_drewN ?_ _ | refine blk_drew ?_ | refine blk_alloc ?_ _)); exact BK519.out) hb)
                    have n2_ := Aside0.mk (blk_below (g := gb523) (o := .cells #[.int .u64 t520, .int .u64 t521] 25 (0, 0)) (by (with_reducible repeat (first | refine blk_drewN ?_ _ | refine blk_drew ?_ | refine blk_alloc ?_ _)); exact BK523.out) hb)
                    have n3_ := Aside0.mk (blk_below (g := gb537) (o := .cells #[.int .u64 t534, .int .u64 t535] 25 (0, 0)) (by (with_reducible repeat (first | refine blk_drewN ?_ _ | refine blk_drew ?_ | refine blk_alloc ?_ _)); exact BK537.out) hb)
                    have n4_ := Aside0.mk (below_step (by repeat (first | (with_reducible first | exact HB.out | apply below_alloc | apply pw_below_drewN | apply below_drew1 | refine below_set ?_ GE519.out | refine below_set ?_ GE523.out | refine below_set ?_ GE537.out) | exact HB.out)) hb)
                    have z_HO546 := fun (h0_ : b 19 = true) => (show Kd.R k25 25 w57 w.heap.size (fun k_ => some k_ ≠ (.slice Ao43 y528.length co43 : Value).ownBlock ∧ k_ ≠ gb523 ∧ k_ ≠ gb537) v545 y544 from by first | exact (Kd.R_below (by (with_reducible repeat (first | apply Kd.R_alloc | apply Kd.R_drewN | apply Kd.R_drew)); exact (Q_HO546 h0_)) hb) | exact Kd.R_mono (Kd.R_below (by (with_reducible repeat (first | apply Kd.R_alloc | apply Kd.R_drewN | apply Kd.R_drew)); exact (Q_HO546 h0_)) hb) (fun _ h_ => by first | trivial | exact h_ | exact h_.1))
                    clear HO530
                    clear BK519
                    clear BK523
                    clear BK537
                    clear HB
                    have HO530 := n0_
                    have BK519 := n1_
                    have BK523 := n2_
                    have BK537 := n3_
                    have HB := n4_
                    clear n0_ n1_ n2_ n3_ n4_
                    (try clear hb)
                    (try clear hb2)
                    (try clear hk)
                    (try clear hi)
                    refine hK.out _ _ ⟨v545, v552, v558, (by rw [ha.out]; exact putSel_upk 21 hb_ rfl rfl rfl), (by (with_reducible repeat (first | apply Kd.R_alloc | apply Kd.R_drewN | apply Kd.R_drew)); exact HO530.out), (by (with_reducible repeat (first | refine blk_drewN ?_ _ | refine blk_drew ?_ | refine blk_alloc ?_ _)); exact BK519.out), (by (with_reducible repeat (first | refine blk_drewN ?_ _ | refine blk_drew ?_ | refine blk_alloc ?_ _)); exact BK523.out), (by (with_reducible repeat (first | refine blk_drewN ?_ _ | refine blk_drew ?_ | refine blk_alloc ?_ _)); exact BK537.out), (by repeat (first | (with_reducible first | exact HB.out | apply below_alloc | apply pw_below_drewN | apply below_drew1 | refine below_set ?_ GE519.out | refine below_set ?_ GE523.out | refine below_set ?_ GE537.out) | exact HB.out)), z_HO546, fun h0_ => absurd ((hoff 22 (by kernel_rfl)).symm.trans h0_) (by decide), fun h0_ => absurd ((hoff 27 (by kernel_rfl)).symm.trans h0_) (by decide)⟩
                  refine steps_cons ?_ ?_
                  · rintro b a w' ⟨v545, v552, v558, ha, Q_HO530, Q_BK519, Q_BK523, Q_BK537, Q_HB, Q_HO546, Q_HO553, Q_HO559⟩ hb_ hon hoff
                    refine ⟨_, rfl, fun K hK => ?_⟩
                    have e43 : a.tmps[43]? = some (.agg #[.int .u64 t547, .int .u64 t548]) := by rw [ha]; exact putSel_on (e := (20, 43, .agg #[.int .u64 t547, .int .u64 t548])) 20 rfl rfl (hon 20 (by kernel_rfl)) rfl
                    have e44 : a.tmps[44]? = some (.agg #[.int .u64 t549, .int .u64 t550]) := by rw [ha]; exact putSel_on (e := (21, 44, .agg #[.int .u64 t549, .int .u64 t550])) 21 rfl rfl (hon 21 (by kernel_rfl)) rfl
                    have e39 : a.tmps[39]? = some (.bool (t534 == t538 && (t535 == t539))) := by rw [ha]; exact putSel_on (e := (16, 39, .bool (t534 == t538 && (t535 == t539)))) 16 rfl rfl (hon 16 (by kernel_rfl)) rfl
                    replace ha := Aside0.mk ha
                    have HO530 := Aside0.mk Q_HO530
                    have BK519 := Aside0.mk Q_BK519
                    have BK523 := Aside0.mk Q_BK523
                    have BK537 := Aside0.mk Q_BK537
                    have HB := Aside0.mk Q_HB
                    refine Kd.R_lit_step k25 _ 25 ?hg (N := 45) ?hd (xs := ([(⟨t547, t548⟩ : S25), (⟨t549, t550⟩ : S25)] : List (S25))) (inner := [.int .u64 t547, .int .u64 t548, .int .u64 t549, .int .u64 t550]) (ok := fun _ => True) (okp := fun _ => True) ?hr ?hp (fun _ hk => hk) trivial (Below.refl _ _) (Nat.le_refl _) (by simp) ?_; (case hd => rfl); (case hg => first | rfl | exact wanted_on rfl rfl rfl (e39.trans (by first | rfl | (simp [*]; done)))); (case hr => first | (go_simp; done) | (go_simp; rfl)); (case hp => exact (Reps.c2 (show Kd.M k25 _ _ _ (⟨t547, t548⟩ : S25) [.int .u64 t547, .int .u64 t548] from (k25_mkM _ _ _ (⟨t547, t548⟩ : S25) )) (Reps.c2 (show Kd.M k25 _ _ _ (⟨t549, t550⟩ : S25) [.int .u64 t549, .int .u64 t550] from (k25_mkM _ _ _ (⟨t549, t550⟩ : S25) )) (Reps.none _ _))))
                    intro v552 w58 ho59 hb hg_ hnew_
                    clear hg_ hnew_
                    (first | rw [← Ny551.out] at ho59 | (simp only [Int.reduceToNat] at ho59; rw [← Ny551.out] at ho59))
                    have n0_ := Aside0.mk (Kd.R_elder' (by (with_reducible repeat (first | apply Kd.R_alloc | apply Kd.R_drewN | apply Kd.R_drew)); exact HO530.out) (Kd.R_base ho59) hb)
                    have n1_ := Aside0.mk (Kd.R_lower (Kd.R_newB (Kd.R_newB (Kd.R_new' ho59 (Kd.R_lt (by (with_reducible repeat (first | apply Kd.R_alloc | apply Kd.R_drewN | apply Kd.R_drew)); exact HO530.out))) (g := gb523) (o := .cells #[.int .u64 t520, .int .u64 t521] 25 (0, 0)) (by (with_reducible repeat (first | refine blk_drewN ?_ _ | refine blk_drew ?_ | refine blk_alloc ?_ _)); exact BK523.out)) (g := gb537) (o := .cells #[.int .u64 t534, .int .u64 t535] 25 (0, 0)) (by (with_reducible repeat (first | refine blk_drewN ?_ _ | refine blk_drew ?_ | refine blk_alloc ?_ _)); exact BK537.out)) (below_size (by repeat (first | (with_reducible first | exact HB.out | apply below_alloc | apply pw_below_drewN | apply below_drew1 | refine below_set ?_ GE519.out | refine below_set ?_ GE523.out | refine below_set ?_ GE537.out) | exact HB.out))))
                    have n2_ := Aside0.mk (blk_below (g := gb519) (o := .cells #[.int .u64 t516, .int .u64 t517, .int .u64 t518] 27 (0, 0)) (by (with_reducible repeat (first | refine blk_drewN ?_ _ | refine blk_drew ?_ | refine blk_alloc ?_ _)); exact BK519.out) hb)
                    have n3_ := Aside0.mk (blk_below (g := gb523) (o := .cells #[.int .u64 t520, .int .u64 t521] 25 (0, 0)) (by (with_reducible repeat (first | refine blk_drewN ?_ _ | refine blk_drew ?_ | refine blk_alloc ?_ _)); exact BK523.out) hb)
                    have n4_ := Aside0.mk (blk_below (g := gb537) (o := .cells #[.int .u64 t534, .int .u64 t535] 25 (0, 0)) (by (with_reducible repeat (first | refine blk_drewN ?_ _ | refine blk_drew ?_ | refine blk_alloc ?_ _)); exact BK537.out) hb)
                    have n5_ := Aside0.mk (below_step (by repeat (first | (with_reducible first | exact HB.out | apply below_alloc | apply pw_below_drewN | apply below_drew1 | refine below_set ?_ GE519.out | refine below_set ?_ GE523.out | refine below_set ?_ GE537.out) | exact HB.out)) hb)
                    have z_HO546 := fun (h0_ : b 19 = true) => (show Kd.R k25 25 w58 w.heap.size (fun k_ => some k_ ≠ (.slice Ao43 y528.length co43 : Value).ownBlock ∧ k_ ≠ gb523 ∧ k_ ≠ gb537) v545 y544 from by first | exact (Kd.R_elder' (by (with_reducible repeat (first | apply Kd.R_alloc | apply Kd.R_drewN | apply Kd.R_drew)); exact (Q_HO546 h0_)) (Kd.R_base ho59) hb) | exact Kd.R_mono (Kd.R_elder' (by (with_reducible repeat (first | apply Kd.R_alloc | apply Kd.R_drewN | apply Kd.R_drew)); exact (Q_HO546 h0_)) (Kd.R_base ho59) hb) (fun _ h_ => by first | trivial | exact h_ | exact h_.1))
                    clear HO530
                    clear BK519
                    clear BK523
                    clear BK537
                    clear HB
                    have HO530 := n0_
                    have HO553 := n1_
                    have BK519 := n2_
                    have BK523 := n3_
                    have BK537 := n4_
                    have HB := n5_
                    clear n0_ n1_ n2_ n3_ n4_ n5_
                    clear hb ho59
                    refine hK.out _ _ ⟨v545, v552, v558, (by rw [ha.out]; exact putSel_upk 22 hb_ rfl rfl rfl), (by (with_reducible repeat (first | apply Kd.R_alloc | apply Kd.R_drewN | apply Kd.R_drew)); exact Kd.R_mono HO530.out (fun _ hk => by first | exact ⟨hk.2, ⟨hk.1.1, hk.1.2⟩⟩ | (repeat' (refine And.intro ?_ ?_)) <;> first | exact hk | exact hk.1 | exact hk.2 | exact hk.1.1 | exact hk.1.2 | exact hk.2.1 | exact hk.2.2 | exact hk.1.1.1 | exact hk.1.1.2 | exact hk.1.2.1 | exact hk.1.2.2 | exact hk.2.1.1 | exact hk.2.1.2 | exact hk.2.2.1 | exact hk.2.2.2 | exact hk.1.1.1.1 | exact hk.1.1.1.2 | exact hk.1.1.2.1 | exact hk.1.1.2.2 | exact hk.1.1.1.1.1 | exact hk.1.1.1.1.2 | trivial)), (by (with_reducible repeat (first | refine blk_drewN ?_ _ | refine blk_drew ?_ | refine blk_alloc ?_ _)); exact BK519.out), (by (with_reducible repeat (first | refine blk_drewN ?_ _ | refine blk_drew ?_ | refine blk_alloc ?_ _)); exact BK523.out), (by (with_reducible repeat (first | refine blk_drewN ?_ _ | refine blk_drew ?_ | refine blk_alloc ?_ _)); exact BK537.out), (by repeat (first | (with_reducible first | exact HB.out | apply below_alloc | apply pw_below_drewN | apply below_drew1 | refine below_set ?_ GE519.out | refine below_set ?_ GE523.out | refine below_set ?_ GE537.out) | exact HB.out)), z_HO546, fun _ => (by (with_reducible repeat (first | apply Kd.R_alloc | apply Kd.R_drewN | apply Kd.R_drew)); exact Kd.R_mono HO553.out (fun _ hk => by first | exact ⟨hk.1.1.2, ⟨hk.1.2, hk.2⟩⟩ | (repeat' (refine And.intro ?_ ?_)) <;> first | exact hk | exact hk.1 | exact hk.2 | exact hk.1.1 | exact hk.1.2 | exact hk.2.1 | exact hk.2.2 | exact hk.1.1.1 | exact hk.1.1.2 | exact hk.1.2.1 | exact hk.1.2.2 | exact hk.2.1.1 | exact hk.2.1.2 | exact hk.2.2.1 | exact hk.2.2.2 | exact hk.1.1.1.1 | exact hk.1.1.1.2 | exact hk.1.1.2.1 | exact hk.1.1.2.2 | exact hk.1.1.1.1.1 | exact hk.1.1.1.1.2 | trivial)), fun h0_ => absurd ((hoff 27 (by kernel_rfl)).symm.trans h0_) (by decide)⟩
                  refine steps_cons ?_ ?_
                  · rintro b a w' ⟨v545, v552, v558, ha, Q_HO530, Q_BK519, Q_BK523, Q_BK537, Q_HB, Q_HO546, Q_HO553, Q_HO559⟩ hb_ hon hoff
                    refine ⟨_, rfl, fun K hK => ?_⟩
                    have e42 : a.tmps[42]? = some (v545) := by rw [ha]; exact putSel_on (e := (19, 42, v545)) 19 rfl rfl (hon 19 (by kernel_rfl)) rfl
                    have e45 : a.tmps[45]? = some (v552) := by rw [ha]; exact putSel_on (e := (22, 45, v552)) 22 rfl rfl (hon 22 (by kernel_rfl)) rfl
                    have e39 : a.tmps[39]? = some (.bool (t534 == t538 && (t535 == t539))) := by rw [ha]; exact putSel_on (e := (16, 39, .bool (t534 == t538 && (t535 == t539)))) 16 rfl rfl (hon 16 (by kernel_rfl)) rfl
                    replace ha := Aside0.mk ha
                    have HO530 := Aside0.mk Q_HO530
                    have BK519 := Aside0.mk Q_BK519
                    have BK523 := Aside0.mk Q_BK523
                    have BK537 := Aside0.mk Q_BK537
                    have HB := Aside0.mk Q_HB
                    have HO546 := Aside0.mk (Q_HO546 (hon 19 (by kernel_rfl)))
                    have HO553 := Aside0.mk (Q_HO553 (hon 22 (by kernel_rfl)))
                    obtain ⟨Ao62, co62, eo62⟩ := Kd.R_slice HO546.out
                    (first | subst eo62 | (injection eo62 with f1_ f2_ f3_; have f4_ := f1_.symm; have f5_ := f3_.symm; clear f1_ f2_ f3_; subst f4_; subst f5_))
                    obtain ⟨Ao63, co63, eo63⟩ := Kd.R_slice HO553.out
                    (first | subst eo63 | (injection eo63 with f1_ f2_ f3_; have f4_ := f1_.symm; have f5_ := f3_.symm; clear f1_ f2_ f3_; subst f4_; subst f5_))
                    refine goes_ Try.func26 (by kernel_rfl) rfl #[.slice Ao62 y544.length co62, .slice Ao63 y551.length co63] (by first | rfl | exact wanted_on rfl rfl rfl (e39.trans (by first | rfl | (simp [*]; done)))) rfl rfl (by first | (simp only [List.map_toArray, List.map_cons, List.map_nil, Act.eval, Array.getD_eq_getD_getElem?, Option.getD_some, e42, e45, e39]; done) | (simp only [List.map_toArray, List.map_cons, List.map_nil, Act.eval, Array.getD_eq_getD_getElem?, Option.getD_some, e42, e45, e39]; rfl)) ?_
                    with_reducible refine (wide_Balanced.calls k _ _ y544 _ _ y551 true _ ?side1 ?side2 ?side3 ?side4 A19.out).mono ?_
                    (case side1 => repeat (first | exact (Kd.R_reads' HO546.out).2.2 | (with_reducible refine Kd.C_alloc ?_ _) | (with_reducible refine Kd.C_drewN ?_ _) | (with_reducible refine Kd.C_drew ?_)))
                    (case side2 => exact (Kd.R_reads' HO546.out).2.1)
                    (case side3 => repeat (first | exact (Kd.R_reads' HO553.out).2.2 | (with_reducible refine Kd.C_alloc ?_ _) | (with_reducible refine Kd.C_drewN ?_ _) | (with_reducible refine Kd.C_drew ?_)))
                    (case side4 => exact (Kd.R_reads' HO553.out).2.1)
                    rintro e w64 ⟨rfl, hb⟩
                    refine ⟨_, rfl, ?_⟩
                    have n0_ := Aside0.mk (Kd.R_below (by (with_reducible repeat (first | apply Kd.R_alloc | apply Kd.R_drewN | apply Kd.R_drew)); exact HO530.out) hb)
                    have n1_ := Aside0.mk (Kd.R_below (by (with_reducible repeat (first | apply Kd.R_alloc | apply Kd.R_drewN | apply Kd.R_drew)); exact HO546.out) hb)
                    have n2_ := Aside0.mk (Kd.R_below (by (with_reducible repeat (first | apply Kd.R_alloc | apply Kd.R_drewN | apply Kd.R_drew)); exact HO553.out) hb)
                    have n3_ := Aside0.mk (blk_below (g := gb519) (o := .cells #[.int .u64 t516, .int .u64 t517, .int .u64 t518] 27 (0, 0)) (by (with_reducible repeat (first | refine blk_drewN ?_ _ | refine blk_drew ?_ | refine blk_alloc ?_ _)); exact BK519.out) hb)
                    have n4_ := Aside0.mk (blk_below (g := gb523) (o := .cells #[.int .u64 t520, .int .u64 t521] 25 (0, 0)) (by (with_reducible repeat (first | refine blk_drewN ?_ _ | refine blk_drew ?_ | refine blk_alloc ?_ _)); exact BK523.out) hb)
                    have n5_ := Aside0.mk (blk_below (g := gb537) (o := .cells #[.int .u64 t534, .int .u64 t535] 25 (0, 0)) (by (with_reducible repeat (first | refine blk_drewN ?_ _ | refine blk_drew ?_ | refine blk_alloc ?_ _)); exact BK537.out) hb)
                    have n6_ := Aside0.mk (below_step (by repeat (first | (with_reducible first | exact HB.out | apply below_alloc | apply pw_below_drewN | apply below_drew1 | refine below_set ?_ GE519.out | refine below_set ?_ GE523.out | refine below_set ?_ GE537.out) | exact HB.out)) hb)
                    clear HO530
                    clear HO546
                    clear HO553
                    clear BK519
                    clear BK523
                    clear BK537
                    clear HB
                    have HO530 := n0_
                    have HO546 := n1_
                    have HO553 := n2_
                    have BK519 := n3_
                    have BK523 := n4_
                    have BK537 := n5_
                    have HB := n6_
                    clear n0_ n1_ n2_ n3_ n4_ n5_ n6_
                    (try clear hb)
                    (try clear hb2)
                    (try clear hk)
                    (try clear hi)
                    refine hK.out _ _ ⟨.slice Ao62 y544.length co62, .slice Ao63 y551.length co63, v558, (by rw [ha.out]; exact putSel_upk 23 hb_ rfl rfl rfl), (by (with_reducible repeat (first | apply Kd.R_alloc | apply Kd.R_drewN | apply Kd.R_drew)); exact HO530.out), (by (with_reducible repeat (first | refine blk_drewN ?_ _ | refine blk_drew ?_ | refine blk_alloc ?_ _)); exact BK519.out), (by (with_reducible repeat (first | refine blk_drewN ?_ _ | refine blk_drew ?_ | refine blk_alloc ?_ _)); exact BK523.out), (by (with_reducible repeat (first | refine blk_drewN ?_ _ | refine blk_drew ?_ | refine blk_alloc ?_ _)); exact BK537.out), (by repeat (first | (with_reducible first | exact HB.out | apply below_alloc | apply pw_below_drewN | apply below_drew1 | refine below_set ?_ GE519.out | refine below_set ?_ GE523.out | refine below_set ?_ GE537.out) | exact HB.out)), fun _ => (by (with_reducible repeat (first | apply Kd.R_alloc | apply Kd.R_drewN | apply Kd.R_drew)); exact HO546.out), fun _ => (by (with_reducible repeat (first | apply Kd.R_alloc | apply Kd.R_drewN | apply Kd.R_drew)); exact HO553.out), fun h0_ => absurd ((hoff 27 (by kernel_rfl)).symm.trans h0_) (by decide)⟩
                  refine steps_cons ?_ ?_
                  · rintro b a w' ⟨v545, v552, v558, ha, Q_HO530, Q_BK519, Q_BK523, Q_BK537, Q_HB, Q_HO546, Q_HO553, Q_HO559⟩ hb_ hon hoff
                    refine ⟨_, rfl, fun K hK => ?_⟩
                    have e39 : a.tmps[39]? = some (.bool (t534 == t538 && (t535 == t539))) := by rw [ha]; exact putSel_on (e := (16, 39, .bool (t534 == t538 && (t535 == t539)))) 16 rfl rfl (hon 16 (by kernel_rfl)) rfl
                    have e46 : a.tmps[46]? = some (.bool true) := by rw [ha]; exact putSel_on (e := (23, 46, .bool true)) 23 rfl rfl (hon 23 (by kernel_rfl)) rfl
                    replace ha := Aside0.mk ha
                    have HO530 := Aside0.mk Q_HO530
                    have BK519 := Aside0.mk Q_BK519
                    have BK523 := Aside0.mk Q_BK523
                    have BK537 := Aside0.mk Q_BK537
                    have HB := Aside0.mk Q_HB
                    have HO546 := Aside0.mk (Q_HO546 (hon 19 (by kernel_rfl)))
                    have HO553 := Aside0.mk (Q_HO553 (hon 22 (by kernel_rfl)))
                    refine value_ (w1 := w') (v := .bool true) (by rfl) rfl ?_ ?_
                    · go_simp
                      (try simp only [i64_w])
                      try rfl
                    refine hK.out _ _ ⟨v545, v552, v558, (by rw [ha.out]; exact putSel_upk 24 hb_ rfl rfl rfl), Q_HO530, Q_BK519, Q_BK523, Q_BK537, Q_HB, Q_HO546, Q_HO553, fun h0_ => absurd ((hoff 27 (by kernel_rfl)).symm.trans h0_) (by decide)⟩
                  refine steps_cons ?_ ?_
                  · rintro b a w' ⟨v545, v552, v558, ha, Q_HO530, Q_BK519, Q_BK523, Q_BK537, Q_HB, Q_HO546, Q_HO553, Q_HO559⟩ hb_ hon hoff
                    refine ⟨_, rfl, fun K hK => ?_⟩
                    have e47 : a.tmps[47]? = some (.bool true) := by rw [ha]; exact putSel_on (e := (24, 47, .bool true)) 24 rfl rfl (hon 24 (by kernel_rfl)) rfl
                    replace ha := Aside0.mk ha
                    have HO530 := Aside0.mk Q_HO530
                    have BK519 := Aside0.mk Q_BK519
                    have BK523 := Aside0.mk Q_BK523
                    have BK537 := Aside0.mk Q_BK537
                    have HB := Aside0.mk Q_HB
                    have HO546 := Aside0.mk (Q_HO546 (hon 19 (by kernel_rfl)))
                    have HO553 := Aside0.mk (Q_HO553 (hon 22 (by kernel_rfl)))
                    refine value_ (w1 := w') (v := .bool true) (by rfl) rfl ?_ ?_
                    · go_simp
                      (try simp only [i64_w])
                      try rfl
                    refine hK.out _ _ ⟨v545, v552, v558, (by rw [ha.out]; exact putSel_upk 25 hb_ rfl rfl rfl), Q_HO530, Q_BK519, Q_BK523, Q_BK537, Q_HB, Q_HO546, Q_HO553, fun h0_ => absurd ((hoff 27 (by kernel_rfl)).symm.trans h0_) (by decide)⟩
                  refine steps_cons ?_ ?_
                  · rintro b a w' ⟨v545, v552, v558, ha, Q_HO530, Q_BK519, Q_BK523, Q_BK537, Q_HB, Q_HO546, Q_HO553, Q_HO559⟩ hb_ hon hoff
                    refine ⟨_, rfl, fun K hK => ?_⟩
                    have e48 : a.tmps[48]? = some (.bool true) := by rw [ha]; exact putSel_on (e := (25, 48, .bool true)) 25 rfl rfl (hon 25 (by kernel_rfl)) rfl
                    replace ha := Aside0.mk ha
                    have HO530 := Aside0.mk Q_HO530
                    have BK519 := Aside0.mk Q_BK519
                    have BK523 := Aside0.mk Q_BK523
                    have BK537 := Aside0.mk Q_BK537
                    have HB := Aside0.mk Q_HB
                    have HO546 := Aside0.mk (Q_HO546 (hon 19 (by kernel_rfl)))
                    have HO553 := Aside0.mk (Q_HO553 (hon 22 (by kernel_rfl)))
                    refine goes_ Try.func51 (by kernel_rfl) rfl #[.int .u64 3] (by first | rfl | exact wanted_on rfl rfl rfl (e48.trans (by first | rfl | (simp [*]; done)))) rfl rfl (by first | (simp only [List.map_toArray, List.map_cons, List.map_nil, Act.eval, Array.getD_eq_getD_getElem?, Option.getD_some, e48]; done) | (simp only [List.map_toArray, List.map_cons, List.map_nil, Act.eval, Array.getD_eq_getD_getElem?, Option.getD_some, e48]; rfl)) ?_
                    with_reducible refine (u128_Of.calls 3 t555 t556 _ A21.out).mono ?_
                    rintro e w65 ⟨rfl, hb⟩
                    refine ⟨_, rfl, ?_⟩
                    have n0_ := Aside0.mk (Kd.R_below (by (with_reducible repeat (first | apply Kd.R_alloc | apply Kd.R_drewN | apply Kd.R_drew)); exact HO530.out) hb)
                    have n1_ := Aside0.mk (Kd.R_below (by (with_reducible repeat (first | apply Kd.R_alloc | apply Kd.R_drewN | apply Kd.R_drew)); exact HO546.out) hb)
                    have n2_ := Aside0.mk (Kd.R_below (by (with_reducible repeat (first | apply Kd.R_alloc | apply Kd.R_drewN | apply Kd.R_drew)); exact HO553.out) hb)
                    have n3_ := Aside0.mk (blk_below (g := gb519) (o := .cells #[.int .u64 t516, .int .u64 t517, .int .u64 t518] 27 (0, 0)) (by (with_reducible repeat (first | refine blk_drewN ?_ _ | refine blk_drew ?_ | refine blk_alloc ?_ _)); exact BK519.out) hb)
                    have n4_ := Aside0.mk (blk_below (g := gb523) (o := .cells #[.int .u64 t520, .int .u64 t521] 25 (0, 0)) (by (with_reducible repeat (first | refine blk_drewN ?_ _ | refine blk_drew ?_ | refine blk_alloc ?_ _)); exact BK523.out) hb)
                    have n5_ := Aside0.mk (blk_below (g := gb537) (o := .cells #[.int .u64 t534, .int .u64 t535] 25 (0, 0)) (by (with_reducible repeat (first | refine blk_drewN ?_ _ | refine blk_drew ?_ | refine blk_alloc ?_ _)); exact BK537.out) hb)
                    have n6_ := Aside0.mk (below_step (by repeat (first | (with_reducible first | exact HB.out | apply below_alloc | apply pw_below_drewN | apply below_drew1 | refine below_set ?_ GE519.out | refine below_set ?_ GE523.out | refine below_set ?_ GE537.out) | exact HB.out)) hb)
                    clear HO530
                    clear HO546
                    clear HO553
                    clear BK519
                    clear BK523
                    clear BK537
                    clear HB
                    have HO530 := n0_
                    have HO546 := n1_
                    have HO553 := n2_
                    have BK519 := n3_
                    have BK523 := n4_
                    have BK537 := n5_
                    have HB := n6_
                    clear n0_ n1_ n2_ n3_ n4_ n5_ n6_
                    (try clear hb)
                    (try clear hb2)
                    (try clear hk)
                    (try clear hi)
                    refine hK.out _ _ ⟨v545, v552, v558, (by rw [ha.out]; exact putSel_upk 26 hb_ rfl rfl rfl), (by (with_reducible repeat (first | apply Kd.R_alloc | apply Kd.R_drewN | apply Kd.R_drew)); exact HO530.out), (by (with_reducible repeat (first | refine blk_drewN ?_ _ | refine blk_drew ?_ | refine blk_alloc ?_ _)); exact BK519.out), (by (with_reducible repeat (first | refine blk_drewN ?_ _ | refine blk_drew ?_ | refine blk_alloc ?_ _)); exact BK523.out), (by (with_reducible repeat (first | refine blk_drewN ?_ _ | refine blk_drew ?_ | refine blk_alloc ?_ _)); exact BK537.out), (by repeat (first | (with_reducible first | exact HB.out | apply below_alloc | apply pw_below_drewN | apply below_drew1 | refine below_set ?_ GE519.out | refine below_set ?_ GE523.out | refine below_set ?_ GE537.out) | exact HB.out)), fun _ => (by (with_reducible repeat (first | apply Kd.R_alloc | apply Kd.R_drewN | apply Kd.R_drew)); exact HO546.out), fun _ => (by (with_reducible repeat (first | apply Kd.R_alloc | apply Kd.R_drewN | apply Kd.R_drew)); exact HO553.out), fun h0_ => absurd ((hoff 27 (by kernel_rfl)).symm.trans h0_) (by decide)⟩
                  refine steps_cons ?_ ?_
                  · rintro b a w' ⟨v545, v552, v558, ha, Q_HO530, Q_BK519, Q_BK523, Q_BK537, Q_HB, Q_HO546, Q_HO553, Q_HO559⟩ hb_ hon hoff
                    refine ⟨_, rfl, fun K hK => ?_⟩
                    have e49 : a.tmps[49]? = some (.agg #[.int .u64 t555, .int .u64 t556]) := by rw [ha]; exact putSel_on (e := (26, 49, .agg #[.int .u64 t555, .int .u64 t556])) 26 rfl rfl (hon 26 (by kernel_rfl)) rfl
                    have e48 : a.tmps[48]? = some (.bool true) := by rw [ha]; exact putSel_on (e := (25, 48, .bool true)) 25 rfl rfl (hon 25 (by kernel_rfl)) rfl
                    replace ha := Aside0.mk ha
                    have HO530 := Aside0.mk Q_HO530
                    have BK519 := Aside0.mk Q_BK519
                    have BK523 := Aside0.mk Q_BK523
                    have BK537 := Aside0.mk Q_BK537
                    have HB := Aside0.mk Q_HB
                    have HO546 := Aside0.mk (Q_HO546 (hon 19 (by kernel_rfl)))
                    have HO553 := Aside0.mk (Q_HO553 (hon 22 (by kernel_rfl)))
                    refine Kd.R_lit_step k25 _ 25 ?hg (N := 50) ?hd (xs := ([(⟨t555, t556⟩ : S25)] : List (S25))) (inner := [.int .u64 t555, .int .u64 t556]) (ok := fun _ => True) (okp := fun _ => True) ?hr ?hp (fun _ hk => hk) trivial (Below.refl _ _) (Nat.le_refl _) (by simp) ?_; (case hd => rfl); (case hg => first | rfl | exact wanted_on rfl rfl rfl (e48.trans (by first | rfl | (simp [*]; done)))); (case hr => first | (go_simp; done) | (go_simp; rfl)); (case hp => exact (Reps.c2 (show Kd.M k25 _ _ _ (⟨t555, t556⟩ : S25) [.int .u64 t555, .int .u64 t556] from (k25_mkM _ _ _ (⟨t555, t556⟩ : S25) )) (Reps.none _ _)))
                    intro v558 w66 ho67 hb hg_ hnew_
                    clear hg_ hnew_
                    (first | rw [← Ny557.out] at ho67 | (simp only [Int.reduceToNat] at ho67; rw [← Ny557.out] at ho67))
                    have n0_ := Aside0.mk (Kd.R_elder' (by (with_reducible repeat (first | apply Kd.R_alloc | apply Kd.R_drewN | apply Kd.R_drew)); exact HO530.out) (Kd.R_base ho67) hb)
                    have n1_ := Aside0.mk (Kd.R_elder' (by (with_reducible repeat (first | apply Kd.R_alloc | apply Kd.R_drewN | apply Kd.R_drew)); exact HO546.out) (Kd.R_base ho67) hb)
                    have n2_ := Aside0.mk (Kd.R_elder' (by (with_reducible repeat (first | apply Kd.R_alloc | apply Kd.R_drewN | apply Kd.R_drew)); exact HO553.out) (Kd.R_base ho67) hb)
                    have n3_ := Aside0.mk (Kd.R_lower (Kd.R_newB (Kd.R_newB (Kd.R_new' (Kd.R_new' (Kd.R_new' ho67 (Kd.R_lt (by (with_reducible repeat (first | apply Kd.R_alloc | apply Kd.R_drewN | apply Kd.R_drew)); exact HO530.out))) (Kd.R_lt (by (with_reducible repeat (first | apply Kd.R_alloc | apply Kd.R_drewN | apply Kd.R_drew)); exact HO546.out))) (Kd.R_lt (by (with_reducible repeat (first | apply Kd.R_alloc | apply Kd.R_drewN | apply Kd.R_drew)); exact HO553.out))) (g := gb523) (o := .cells #[.int .u64 t520, .int .u64 t521] 25 (0, 0)) (by (with_reducible repeat (first | refine blk_drewN ?_ _ | refine blk_drew ?_ | refine blk_alloc ?_ _)); exact BK523.out)) (g := gb537) (o := .cells #[.int .u64 t534, .int .u64 t535] 25 (0, 0)) (by (with_reducible repeat (first | refine blk_drewN ?_ _ | refine blk_drew ?_ | refine blk_alloc ?_ _)); exact BK537.out)) (below_size (by repeat (first | (with_reducible first | exact HB.out | apply below_alloc | apply pw_below_drewN | apply below_drew1 | refine below_set ?_ GE519.out | refine below_set ?_ GE523.out | refine below_set ?_ GE537.out) | exact HB.out))))
                    have n4_ := Aside0.mk (blk_below (g := gb519) (o := .cells #[.int .u64 t516, .int .u64 t517, .int .u64 t518] 27 (0, 0)) (by (with_reducible repeat (first | refine blk_drewN ?_ _ | refine blk_drew ?_ | refine blk_alloc ?_ _)); exact BK519.out) hb)
                    have n5_ := Aside0.mk (blk_below (g := gb523) (o := .cells #[.int .u64 t520, .int .u64 t521] 25 (0, 0)) (by (with_reducible repeat (first | refine blk_drewN ?_ _ | refine blk_drew ?_ | refine blk_alloc ?_ _)); exact BK523.out) hb)
                    have n6_ := Aside0.mk (blk_below (g := gb537) (o := .cells #[.int .u64 t534, .int .u64 t535] 25 (0, 0)) (by (with_reducible repeat (first | refine blk_drewN ?_ _ | refine blk_drew ?_ | refine blk_alloc ?_ _)); exact BK537.out) hb)
                    have n7_ := Aside0.mk (below_step (by repeat (first | (with_reducible first | exact HB.out | apply below_alloc | apply pw_below_drewN | apply below_drew1 | refine below_set ?_ GE519.out | refine below_set ?_ GE523.out | refine below_set ?_ GE537.out) | exact HB.out)) hb)
                    clear HO530
                    clear HO546
                    clear HO553
                    clear BK519
                    clear BK523
                    clear BK537
                    clear HB
                    have HO530 := n0_
                    have HO546 := n1_
                    have HO553 := n2_
                    have HO559 := n3_
                    have BK519 := n4_
                    have BK523 := n5_
                    have BK537 := n6_
                    have HB := n7_
                    clear n0_ n1_ n2_ n3_ n4_ n5_ n6_ n7_
                    clear hb ho67
                    refine hK.out _ _ ⟨v545, v552, v558, (by rw [ha.out]; exact putSel_upk 27 hb_ rfl rfl rfl), (by (with_reducible repeat (first | apply Kd.R_alloc | apply Kd.R_drewN | apply Kd.R_drew)); exact Kd.R_mono HO530.out (fun _ hk => by first | exact ⟨hk.1.1, ⟨hk.1.2.1, ⟨hk.2, ⟨hk.1.2.2.1, hk.1.2.2.2⟩⟩⟩⟩ | (repeat' (refine And.intro ?_ ?_)) <;> first | exact hk | exact hk.1 | exact hk.2 | exact hk.1.1 | exact hk.1.2 | exact hk.2.1 | exact hk.2.2 | exact hk.1.1.1 | exact hk.1.1.2 | exact hk.1.2.1 | exact hk.1.2.2 | exact hk.2.1.1 | exact hk.2.1.2 | exact hk.2.2.1 | exact hk.2.2.2 | exact hk.1.1.1.1 | exact hk.1.1.1.2 | exact hk.1.1.2.1 | exact hk.1.1.2.2 | exact hk.1.1.1.1.1 | exact hk.1.1.1.1.2 | trivial)), (by (with_reducible repeat (first | refine blk_drewN ?_ _ | refine blk_drew ?_ | refine blk_alloc ?_ _)); exact BK519.out), (by (with_reducible repeat (first | refine blk_drewN ?_ _ | refine blk_drew ?_ | refine blk_alloc ?_ _)); exact BK523.out), (by (with_reducible repeat (first | refine blk_drewN ?_ _ | refine blk_drew ?_ | refine blk_alloc ?_ _)); exact BK537.out), (by repeat (first | (with_reducible first | exact HB.out | apply below_alloc | apply pw_below_drewN | apply below_drew1 | refine below_set ?_ GE519.out | refine below_set ?_ GE523.out | refine below_set ?_ GE537.out) | exact HB.out)), fun _ => (by (with_reducible repeat (first | apply Kd.R_alloc | apply Kd.R_drewN | apply Kd.R_drew)); exact Kd.R_mono HO546.out (fun _ hk => by first | exact ⟨hk.1.1, ⟨hk.1.2.1, ⟨hk.2, ⟨hk.1.2.2.1, hk.1.2.2.2⟩⟩⟩⟩ | (repeat' (refine And.intro ?_ ?_)) <;> first | exact hk | exact hk.1 | exact hk.2 | exact hk.1.1 | exact hk.1.2 | exact hk.2.1 | exact hk.2.2 | exact hk.1.1.1 | exact hk.1.1.2 | exact hk.1.2.1 | exact hk.1.2.2 | exact hk.2.1.1 | exact hk.2.1.2 | exact hk.2.2.1 | exact hk.2.2.2 | exact hk.1.1.1.1 | exact hk.1.1.1.2 | exact hk.1.1.2.1 | exact hk.1.1.2.2 | exact hk.1.1.1.1.1 | exact hk.1.1.1.1.2 | trivial)), fun _ => (by (with_reducible repeat (first | apply Kd.R_alloc | apply Kd.R_drewN | apply Kd.R_drew)); exact Kd.R_mono HO553.out (fun _ hk => by first | exact ⟨hk.1.1, ⟨hk.1.2.1, ⟨hk.2, ⟨hk.1.2.2.1, hk.1.2.2.2⟩⟩⟩⟩ | (repeat' (refine And.intro ?_ ?_)) <;> first | exact hk | exact hk.1 | exact hk.2 | exact hk.1.1 | exact hk.1.2 | exact hk.2.1 | exact hk.2.2 | exact hk.1.1.1 | exact hk.1.1.2 | exact hk.1.2.1 | exact hk.1.2.2 | exact hk.2.1.1 | exact hk.2.1.2 | exact hk.2.2.1 | exact hk.2.2.2 | exact hk.1.1.1.1 | exact hk.1.1.1.2 | exact hk.1.1.2.1 | exact hk.1.1.2.2 | exact hk.1.1.1.1.1 | exact hk.1.1.1.1.2 | trivial)), fun _ => (by (with_reducible repeat (first | apply Kd.R_alloc | apply Kd.R_drewN | apply Kd.R_drew)); exact Kd.R_mono HO559.out (fun _ hk => by first | exact ⟨hk.1.1.1.1.2, ⟨hk.1.1.1.2, ⟨hk.1.1.2, ⟨hk.1.2, hk.2⟩⟩⟩⟩ | (repeat' (refine And.intro ?_ ?_)) <;> first | exact hk | exact hk.1 | exact hk.2 | exact hk.1.1 | exact hk.1.2 | exact hk.2.1 | exact hk.2.2 | exact hk.1.1.1 | exact hk.1.1.2 | exact hk.1.2.1 | exact hk.1.2.2 | exact hk.2.1.1 | exact hk.2.1.2 | exact hk.2.2.1 | exact hk.2.2.2 | exact hk.1.1.1.1 | exact hk.1.1.1.2 | exact hk.1.1.2.1 | exact hk.1.1.2.2 | exact hk.1.1.1.1.1 | exact hk.1.1.1.1.2 | trivial))⟩
                  refine steps_cons ?_ ?_
                  · rintro b a w' ⟨v545, v552, v558, ha, Q_HO530, Q_BK519, Q_BK523, Q_BK537, Q_HB, Q_HO546, Q_HO553, Q_HO559⟩ hb_ hon hoff
                    refine ⟨_, rfl, fun K hK => ?_⟩
                    have e50 : a.tmps[50]? = some (v558) := by rw [ha]; exact putSel_on (e := (27, 50, v558)) 27 rfl rfl (hon 27 (by kernel_rfl)) rfl
                    have e48 : a.tmps[48]? = some (.bool true) := by rw [ha]; exact putSel_on (e := (25, 48, .bool true)) 25 rfl rfl (hon 25 (by kernel_rfl)) rfl
                    replace ha := Aside0.mk ha
                    have HO530 := Aside0.mk Q_HO530
                    have BK519 := Aside0.mk Q_BK519
                    have BK523 := Aside0.mk Q_BK523
                    have BK537 := Aside0.mk Q_BK537
                    have HB := Aside0.mk Q_HB
                    have HO546 := Aside0.mk (Q_HO546 (hon 19 (by kernel_rfl)))
                    have HO553 := Aside0.mk (Q_HO553 (hon 22 (by kernel_rfl)))
                    have HO559 := Aside0.mk (Q_HO559 (hon 27 (by kernel_rfl)))
                    obtain ⟨Ao68, co68, eo68⟩ := Kd.R_slice HO559.out
                    (first | subst eo68 | (injection eo68 with f1_ f2_ f3_; have f4_ := f1_.symm; have f5_ := f3_.symm; clear f1_ f2_ f3_; subst f4_; subst f5_))
                    refine goes_ Try.func26 (by kernel_rfl) rfl #[.slice Ao68 y557.length co68, .slice none 0 0] (by first | rfl | exact wanted_on rfl rfl rfl (e48.trans (by first | rfl | (simp [*]; done)))) rfl rfl (by first | (simp only [List.map_toArray, List.map_cons, List.map_nil, Act.eval, Array.getD_eq_getD_getElem?, Option.getD_some, e50, e48]; done) | (simp only [List.map_toArray, List.map_cons, List.map_nil, Act.eval, Array.getD_eq_getD_getElem?, Option.getD_some, e50, e48]; rfl)) ?_
                    refine (wide_Balanced.calls k _ _ y557 _ _ ([] : List (S25)) false _ ?side1 ?side2 ?side3 ?side4 A22.out).mono ?_
                    (case side1 => repeat (first | exact (Kd.R_reads' HO559.out).2.2 | (with_reducible refine Kd.C_alloc ?_ _) | (with_reducible refine Kd.C_drewN ?_ _) | (with_reducible refine Kd.C_drew ?_)))
                    (case side2 => exact (Kd.R_reads' HO559.out).2.1)
                    (case side3 => exact Kd.C_nil _ _)
                    (case side4 => exact Nat.le_refl _)
                    rintro e w69 ⟨rfl, hb⟩
                    refine ⟨_, rfl, ?_⟩
                    have n0_ := Aside0.mk (Kd.R_below (by (with_reducible repeat (first | apply Kd.R_alloc | apply Kd.R_drewN | apply Kd.R_drew)); exact HO530.out) hb)
                    have n1_ := Aside0.mk (Kd.R_below (by (with_reducible repeat (first | apply Kd.R_alloc | apply Kd.R_drewN | apply Kd.R_drew)); exact HO546.out) hb)
                    have n2_ := Aside0.mk (Kd.R_below (by (with_reducible repeat (first | apply Kd.R_alloc | apply Kd.R_drewN | apply Kd.R_drew)); exact HO553.out) hb)
                    have n3_ := Aside0.mk (Kd.R_below (by (with_reducible repeat (first | apply Kd.R_alloc | apply Kd.R_drewN | apply Kd.R_drew)); exact HO559.out) hb)
                    have n4_ := Aside0.mk (blk_below (g := gb519) (o := .cells #[.int .u64 t516, .int .u64 t517, .int .u64 t518] 27 (0, 0)) (by (with_reducible repeat (first | refine blk_drewN ?_ _ | refine blk_drew ?_ | refine blk_alloc ?_ _)); exact BK519.out) hb)
                    have n5_ := Aside0.mk (blk_below (g := gb523) (o := .cells #[.int .u64 t520, .int .u64 t521] 25 (0, 0)) (by (with_reducible repeat (first | refine blk_drewN ?_ _ | refine blk_drew ?_ | refine blk_alloc ?_ _)); exact BK523.out) hb)
                    have n6_ := Aside0.mk (blk_below (g := gb537) (o := .cells #[.int .u64 t534, .int .u64 t535] 25 (0, 0)) (by (with_reducible repeat (first | refine blk_drewN ?_ _ | refine blk_drew ?_ | refine blk_alloc ?_ _)); exact BK537.out) hb)
                    have n7_ := Aside0.mk (below_step (by repeat (first | (with_reducible first | exact HB.out | apply below_alloc | apply pw_below_drewN | apply below_drew1 | refine below_set ?_ GE519.out | refine below_set ?_ GE523.out | refine below_set ?_ GE537.out) | exact HB.out)) hb)
                    clear HO530
                    clear HO546
                    clear HO553
                    clear HO559
                    clear BK519
                    clear BK523
                    clear BK537
                    clear HB
                    have HO530 := n0_
                    have HO546 := n1_
                    have HO553 := n2_
                    have HO559 := n3_
                    have BK519 := n4_
                    have BK523 := n5_
                    have BK537 := n6_
                    have HB := n7_
                    clear n0_ n1_ n2_ n3_ n4_ n5_ n6_ n7_
                    (try clear hb)
                    (try clear hb2)
                    (try clear hk)
                    (try clear hi)
                    refine hK.out _ _ ⟨v545, v552, .slice Ao68 y557.length co68, (by rw [ha.out]; exact putSel_upk 28 hb_ rfl rfl rfl), (by (with_reducible repeat (first | apply Kd.R_alloc | apply Kd.R_drewN | apply Kd.R_drew)); exact HO530.out), (by (with_reducible repeat (first | refine blk_drewN ?_ _ | refine blk_drew ?_ | refine blk_alloc ?_ _)); exact BK519.out), (by (with_reducible repeat (first | refine blk_drewN ?_ _ | refine blk_drew ?_ | refine blk_alloc ?_ _)); exact BK523.out), (by (with_reducible repeat (first | refine blk_drewN ?_ _ | refine blk_drew ?_ | refine blk_alloc ?_ _)); exact BK537.out), (by repeat (first | (with_reducible first | exact HB.out | apply below_alloc | apply pw_below_drewN | apply below_drew1 | refine below_set ?_ GE519.out | refine below_set ?_ GE523.out | refine below_set ?_ GE537.out) | exact HB.out)), fun _ => (by (with_reducible repeat (first | apply Kd.R_alloc | apply Kd.R_drewN | apply Kd.R_drew)); exact HO546.out), fun _ => (by (with_reducible repeat (first | apply Kd.R_alloc | apply Kd.R_drewN | apply Kd.R_drew)); exact HO553.out), fun _ => (by (with_reducible repeat (first | apply Kd.R_alloc | apply Kd.R_drewN | apply Kd.R_drew)); exact HO559.out)⟩
                  refine steps_cons ?_ ?_
                  · rintro b a w' ⟨v545, v552, v558, ha, Q_HO530, Q_BK519, Q_BK523, Q_BK537, Q_HB, Q_HO546, Q_HO553, Q_HO559⟩ hb_ hon hoff
                    refine ⟨_, rfl, fun K hK => ?_⟩
                    have e51 : a.tmps[51]? = some (.bool false) := by rw [ha]; exact putSel_on (e := (28, 51, .bool false)) 28 rfl rfl (hon 28 (by kernel_rfl)) rfl
                    have e48 : a.tmps[48]? = some (.bool true) := by rw [ha]; exact putSel_on (e := (25, 48, .bool true)) 25 rfl rfl (hon 25 (by kernel_rfl)) rfl
                    replace ha := Aside0.mk ha
                    have HO530 := Aside0.mk Q_HO530
                    have BK519 := Aside0.mk Q_BK519
                    have BK523 := Aside0.mk Q_BK523
                    have BK537 := Aside0.mk Q_BK537
                    have HB := Aside0.mk Q_HB
                    have HO546 := Aside0.mk (Q_HO546 (hon 19 (by kernel_rfl)))
                    have HO553 := Aside0.mk (Q_HO553 (hon 22 (by kernel_rfl)))
                    have HO559 := Aside0.mk (Q_HO559 (hon 27 (by kernel_rfl)))
                    refine value_ (w1 := w') (v := .bool (!false)) (wanted_on rfl rfl rfl (e48.trans (by first | rfl | (simp [*]; done)))) rfl ?_ ?_
                    · go_simp
                      (try simp only [i64_w])
                      try rfl
                    refine hK.out _ _ ⟨v545, v552, v558, (by rw [ha.out]; exact putSel_upk 29 hb_ rfl rfl rfl), Q_HO530, Q_BK519, Q_BK523, Q_BK537, Q_HB, Q_HO546, Q_HO553, Q_HO559⟩
                  refine steps_cons ?_ ?_
                  · rintro b a w' ⟨v545, v552, v558, ha, Q_HO530, Q_BK519, Q_BK523, Q_BK537, Q_HB, Q_HO546, Q_HO553, Q_HO559⟩ hb_ hon hoff
                    refine ⟨_, rfl, fun K hK => ?_⟩
                    have e48 : a.tmps[48]? = some (.bool true) := by rw [ha]; exact putSel_on (e := (25, 48, .bool true)) 25 rfl rfl (hon 25 (by kernel_rfl)) rfl
                    have e52 : a.tmps[52]? = some (.bool (!false)) := by rw [ha]; exact putSel_on (e := (29, 52, .bool (!false))) 29 rfl rfl (hon 29 (by kernel_rfl)) rfl
                    replace ha := Aside0.mk ha
                    have HO530 := Aside0.mk Q_HO530
                    have BK519 := Aside0.mk Q_BK519
                    have BK523 := Aside0.mk Q_BK523
                    have BK537 := Aside0.mk Q_BK537
                    have HB := Aside0.mk Q_HB
                    have HO546 := Aside0.mk (Q_HO546 (hon 19 (by kernel_rfl)))
                    have HO553 := Aside0.mk (Q_HO553 (hon 22 (by kernel_rfl)))
                    have HO559 := Aside0.mk (Q_HO559 (hon 27 (by kernel_rfl)))
                    refine value_ (w1 := w') (v := .bool (!false)) (by rfl) rfl ?_ ?_
                    · go_simp
                      (try simp only [i64_w])
                      try rfl
                    refine hK.out _ _ ⟨v545, v552, v558, (by rw [ha.out]; exact putSel_upk 30 hb_ rfl rfl rfl), Q_HO530, Q_BK519, Q_BK523, Q_BK537, Q_HB, Q_HO546, Q_HO553, Q_HO559⟩
                  refine steps_cons ?_ ?_
                  · rintro b a w' ⟨v545, v552, v558, ha, Q_HO530, Q_BK519, Q_BK523, Q_BK537, Q_HB, Q_HO546, Q_HO553, Q_HO559⟩ hb_ hon hoff
                    refine ⟨_, rfl, fun K hK => ?_⟩
                    have e53 : a.tmps[53]? = some (.bool (!false)) := by rw [ha]; exact putSel_on (e := (30, 53, .bool (!false))) 30 rfl rfl (hon 30 (by kernel_rfl)) rfl
                    replace ha := Aside0.mk ha
                    have HO530 := Aside0.mk Q_HO530
                    have BK519 := Aside0.mk Q_BK519
                    have BK523 := Aside0.mk Q_BK523
                    have BK537 := Aside0.mk Q_BK537
                    have HB := Aside0.mk Q_HB
                    have HO546 := Aside0.mk (Q_HO546 (hon 19 (by kernel_rfl)))
                    have HO553 := Aside0.mk (Q_HO553 (hon 22 (by kernel_rfl)))
                    have HO559 := Aside0.mk (Q_HO559 (hon 27 (by kernel_rfl)))
                    refine value_ (w1 := w') (v := .bool (!false)) (by rfl) rfl ?_ ?_
                    · go_simp
                      (try simp only [i64_w])
                      try rfl
                    refine hK.out _ _ ⟨v545, v552, v558, (by rw [ha.out]; exact putSel_upk 31 hb_ rfl rfl rfl), Q_HO530, Q_BK519, Q_BK523, Q_BK537, Q_HB, Q_HO546, Q_HO553, Q_HO559⟩
                  refine steps_cons ?_ ?_
                  · rintro b a w' ⟨v545, v552, v558, ha, Q_HO530, Q_BK519, Q_BK523, Q_BK537, Q_HB, Q_HO546, Q_HO553, Q_HO559⟩ hb_ hon hoff
                    refine ⟨_, rfl, fun K hK => ?_⟩
                    have e54 : a.tmps[54]? = some (.bool (!false)) := by rw [ha]; exact putSel_on (e := (31, 54, .bool (!false))) 31 rfl rfl (hon 31 (by kernel_rfl)) rfl
                    replace ha := Aside0.mk ha
                    have HO530 := Aside0.mk Q_HO530
                    have BK519 := Aside0.mk Q_BK519
                    have BK523 := Aside0.mk Q_BK523
                    have BK537 := Aside0.mk Q_BK537
                    have HB := Aside0.mk Q_HB
                    have HO546 := Aside0.mk (Q_HO546 (hon 19 (by kernel_rfl)))
                    have HO553 := Aside0.mk (Q_HO553 (hon 22 (by kernel_rfl)))
                    have HO559 := Aside0.mk (Q_HO559 (hon 27 (by kernel_rfl)))
                    refine goes_ Try.func53 (by kernel_rfl) rfl #[] (by first | rfl | exact wanted_on rfl rfl rfl (e54.trans (by first | rfl | (simp [*]; done)))) rfl rfl (by first | (simp only [List.map_toArray, List.map_cons, List.map_nil, Act.eval, Array.getD_eq_getD_getElem?, Option.getD_some, e54]; done) | (simp only [List.map_toArray, List.map_cons, List.map_nil, Act.eval, Array.getD_eq_getD_getElem?, Option.getD_some, e54]; rfl)) ?_
                    with_reducible refine (u128_Most.calls  t561 t562 _ A24.out).mono ?_
                    rintro e w70 ⟨rfl, hb⟩
                    refine ⟨_, rfl, ?_⟩
                    have n0_ := Aside0.mk (Kd.R_below (by (with_reducible repeat (first | apply Kd.R_alloc | apply Kd.R_drewN | apply Kd.R_drew)); exact HO530.out) hb)
                    have n1_ := Aside0.mk (Kd.R_below (by (with_reducible repeat (first | apply Kd.R_alloc | apply Kd.R_drewN | apply Kd.R_drew)); exact HO546.out) hb)
                    have n2_ := Aside0.mk (Kd.R_below (by (with_reducible repeat (first | apply Kd.R_alloc | apply Kd.R_drewN | apply Kd.R_drew)); exact HO553.out) hb)
                    have n3_ := Aside0.mk (Kd.R_below (by (with_reducible repeat (first | apply Kd.R_alloc | apply Kd.R_drewN | apply Kd.R_drew)); exact HO559.out) hb)
                    have n4_ := Aside0.mk (blk_below (g := gb519) (o := .cells #[.int .u64 t516, .int .u64 t517, .int .u64 t518] 27 (0, 0)) (by (with_reducible repeat (first | refine blk_drewN ?_ _ | refine blk_drew ?_ | refine blk_alloc ?_ _)); exact BK519.out) hb)
                    have n5_ := Aside0.mk (blk_below (g := gb523) (o := .cells #[.int .u64 t520, .int .u64 t521] 25 (0, 0)) (by (with_reducible repeat (first | refine blk_drewN ?_ _ | refine blk_drew ?_ | refine blk_alloc ?_ _)); exact BK523.out) hb)
                    have n6_ := Aside0.mk (blk_below (g := gb537) (o := .cells #[.int .u64 t534, .int .u64 t535] 25 (0, 0)) (by (with_reducible repeat (first | refine blk_drewN ?_ _ | refine blk_drew ?_ | refine blk_alloc ?_ _)); exact BK537.out) hb)
                    have n7_ := Aside0.mk (below_step (by repeat (first | (with_reducible first | exact HB.out | apply below_alloc | apply pw_below_drewN | apply below_drew1 | refine below_set ?_ GE519.out | refine below_set ?_ GE523.out | refine below_set ?_ GE537.out) | exact HB.out)) hb)
                    clear HO530
                    clear HO546
                    clear HO553
                    clear HO559
                    clear BK519
                    clear BK523
                    clear BK537
                    clear HB
                    have HO530 := n0_
                    have HO546 := n1_
                    have HO553 := n2_
                    have HO559 := n3_
                    have BK519 := n4_
                    have BK523 := n5_
                    have BK537 := n6_
                    have HB := n7_
                    clear n0_ n1_ n2_ n3_ n4_ n5_ n6_ n7_
                    (try clear hb)
                    (try clear hb2)
                    (try clear hk)
                    (try clear hi)
                    refine hK.out _ _ ⟨v545, v552, v558, (by rw [ha.out]; exact putSel_upk 32 hb_ rfl rfl rfl), (by (with_reducible repeat (first | apply Kd.R_alloc | apply Kd.R_drewN | apply Kd.R_drew)); exact HO530.out), (by (with_reducible repeat (first | refine blk_drewN ?_ _ | refine blk_drew ?_ | refine blk_alloc ?_ _)); exact BK519.out), (by (with_reducible repeat (first | refine blk_drewN ?_ _ | refine blk_drew ?_ | refine blk_alloc ?_ _)); exact BK523.out), (by (with_reducible repeat (first | refine blk_drewN ?_ _ | refine blk_drew ?_ | refine blk_alloc ?_ _)); exact BK537.out), (by repeat (first | (with_reducible first | exact HB.out | apply below_alloc | apply pw_below_drewN | apply below_drew1 | refine below_set ?_ GE519.out | refine below_set ?_ GE523.out | refine below_set ?_ GE537.out) | exact HB.out)), fun _ => (by (with_reducible repeat (first | apply Kd.R_alloc | apply Kd.R_drewN | apply Kd.R_drew)); exact HO546.out), fun _ => (by (with_reducible repeat (first | apply Kd.R_alloc | apply Kd.R_drewN | apply Kd.R_drew)); exact HO553.out), fun _ => (by (with_reducible repeat (first | apply Kd.R_alloc | apply Kd.R_drewN | apply Kd.R_drew)); exact HO559.out)⟩
                  refine steps_cons ?_ ?_
                  · rintro b a w' ⟨v545, v552, v558, ha, Q_HO530, Q_BK519, Q_BK523, Q_BK537, Q_HB, Q_HO546, Q_HO553, Q_HO559⟩ hb_ hon hoff
                    refine ⟨_, rfl, fun K hK => ?_⟩
                    have e55 : a.tmps[55]? = some (.agg #[.int .u64 t561, .int .u64 t562]) := by rw [ha]; exact putSel_on (e := (32, 55, .agg #[.int .u64 t561, .int .u64 t562])) 32 rfl rfl (hon 32 (by kernel_rfl)) rfl
                    have e54 : a.tmps[54]? = some (.bool (!false)) := by rw [ha]; exact putSel_on (e := (31, 54, .bool (!false))) 31 rfl rfl (hon 31 (by kernel_rfl)) rfl
                    replace ha := Aside0.mk ha
                    have HO530 := Aside0.mk Q_HO530
                    have BK519 := Aside0.mk Q_BK519
                    have BK523 := Aside0.mk Q_BK523
                    have BK537 := Aside0.mk Q_BK537
                    have HB := Aside0.mk Q_HB
                    have HO546 := Aside0.mk (Q_HO546 (hon 19 (by kernel_rfl)))
                    have HO553 := Aside0.mk (Q_HO553 (hon 22 (by kernel_rfl)))
                    have HO559 := Aside0.mk (Q_HO559 (hon 27 (by kernel_rfl)))
                    refine goes_ Try.func35 (by kernel_rfl) rfl #[.agg #[.int .u64 t561, .int .u64 t562]] (by first | rfl | exact wanted_on rfl rfl rfl (e54.trans (by first | rfl | (simp [*]; done)))) rfl rfl (by first | (simp only [List.map_toArray, List.map_cons, List.map_nil, Act.eval, Array.getD_eq_getD_getElem?, Option.getD_some, e55, e54]; done) | (simp only [List.map_toArray, List.map_cons, List.map_nil, Act.eval, Array.getD_eq_getD_getElem?, Option.getD_some, e55, e54]; rfl)) ?_
                    with_reducible refine (wide_Of.calls t561 t562 t563 t564 t565 _ A25.out).mono ?_
                    rintro e w71 ⟨rfl, hb⟩
                    refine ⟨_, rfl, ?_⟩
                    have n0_ := Aside0.mk (Kd.R_below (by (with_reducible repeat (first | apply Kd.R_alloc | apply Kd.R_drewN | apply Kd.R_drew)); exact HO530.out) hb)
                    have n1_ := Aside0.mk (Kd.R_below (by (with_reducible repeat (first | apply Kd.R_alloc | apply Kd.R_drewN | apply Kd.R_drew)); exact HO546.out) hb)
                    have n2_ := Aside0.mk (Kd.R_below (by (with_reducible repeat (first | apply Kd.R_alloc | apply Kd.R_drewN | apply Kd.R_drew)); exact HO553.out) hb)
                    have n3_ := Aside0.mk (Kd.R_below (by (with_reducible repeat (first | apply Kd.R_alloc | apply Kd.R_drewN | apply Kd.R_drew)); exact HO559.out) hb)
                    have n4_ := Aside0.mk (blk_below (g := gb519) (o := .cells #[.int .u64 t516, .int .u64 t517, .int .u64 t518] 27 (0, 0)) (by (with_reducible repeat (first | refine blk_drewN ?_ _ | refine blk_drew ?_ | refine blk_alloc ?_ _)); exact BK519.out) hb)
                    have n5_ := Aside0.mk (blk_below (g := gb523) (o := .cells #[.int .u64 t520, .int .u64 t521] 25 (0, 0)) (by (with_reducible repeat (first | refine blk_drewN ?_ _ | refine blk_drew ?_ | refine blk_alloc ?_ _)); exact BK523.out) hb)
                    have n6_ := Aside0.mk (blk_below (g := gb537) (o := .cells #[.int .u64 t534, .int .u64 t535] 25 (0, 0)) (by (with_reducible repeat (first | refine blk_drewN ?_ _ | refine blk_drew ?_ | refine blk_alloc ?_ _)); exact BK537.out) hb)
                    have n7_ := Aside0.mk (below_step (by repeat (first | (with_reducible first | exact HB.out | apply below_alloc | apply pw_below_drewN | apply below_drew1 | refine below_set ?_ GE519.out | refine below_set ?_ GE523.out | refine below_set ?_ GE537.out) | exact HB.out)) hb)
                    clear HO530
                    clear HO546
                    clear HO553
                    clear HO559
                    clear BK519
                    clear BK523
                    clear BK537
                    clear HB
                    have HO530 := n0_
                    have HO546 := n1_
                    have HO553 := n2_
                    have HO559 := n3_
                    have BK519 := n4_
                    have BK523 := n5_
                    have BK537 := n6_
                    have HB := n7_
                    clear n0_ n1_ n2_ n3_ n4_ n5_ n6_ n7_
                    (try clear hb)
                    (try clear hb2)
                    (try clear hk)
                    (try clear hi)
                    refine hK.out _ _ ⟨v545, v552, v558, (by rw [ha.out]; exact putSel_upk 33 hb_ rfl rfl rfl), (by (with_reducible repeat (first | apply Kd.R_alloc | apply Kd.R_drewN | apply Kd.R_drew)); exact HO530.out), (by (with_reducible repeat (first | refine blk_drewN ?_ _ | refine blk_drew ?_ | refine blk_alloc ?_ _)); exact BK519.out), (by (with_reducible repeat (first | refine blk_drewN ?_ _ | refine blk_drew ?_ | refine blk_alloc ?_ _)); exact BK523.out), (by (with_reducible repeat (first | refine blk_drewN ?_ _ | refine blk_drew ?_ | refine blk_alloc ?_ _)); exact BK537.out), (by repeat (first | (with_reducible first | exact HB.out | apply below_alloc | apply pw_below_drewN | apply below_drew1 | refine below_set ?_ GE519.out | refine below_set ?_ GE523.out | refine below_set ?_ GE537.out) | exact HB.out)), fun _ => (by (with_reducible repeat (first | apply Kd.R_alloc | apply Kd.R_drewN | apply Kd.R_drew)); exact HO546.out), fun _ => (by (with_reducible repeat (first | apply Kd.R_alloc | apply Kd.R_drewN | apply Kd.R_drew)); exact HO553.out), fun _ => (by (with_reducible repeat (first | apply Kd.R_alloc | apply Kd.R_drewN | apply Kd.R_drew)); exact HO559.out)⟩
                  refine steps_cons ?_ ?_
                  · rintro b a w' ⟨v545, v552, v558, ha, Q_HO530, Q_BK519, Q_BK523, Q_BK537, Q_HB, Q_HO546, Q_HO553, Q_HO559⟩ hb_ hon hoff
                    refine ⟨_, rfl, fun K hK => ?_⟩
                    have e1 : a.tmps[1]? = some (.pointer (some ⟨gb519, 0, none⟩)) := by rw [ha]; exact (putSel_off rfl).trans rfl
                    have e54 : a.tmps[54]? = some (.bool (!false)) := by rw [ha]; exact putSel_on (e := (31, 54, .bool (!false))) 31 rfl rfl (hon 31 (by kernel_rfl)) rfl
                    replace ha := Aside0.mk ha
                    have HO530 := Aside0.mk Q_HO530
                    have BK519 := Aside0.mk Q_BK519
                    have BK523 := Aside0.mk Q_BK523
                    have BK537 := Aside0.mk Q_BK537
                    have HB := Aside0.mk Q_HB
                    have HO546 := Aside0.mk (Q_HO546 (hon 19 (by kernel_rfl)))
                    have HO553 := Aside0.mk (Q_HO553 (hon 22 (by kernel_rfl)))
                    have HO559 := Aside0.mk (Q_HO559 (hon 27 (by kernel_rfl)))
                    have hc0_ : w'.cell? ⟨gb519, 0, none⟩ = some (.int .u64 t516) := (blk_cell BK519.out 0).trans rfl
                    have hc1_ : w'.cell? ⟨gb519, 1, none⟩ = some (.int .u64 t517) := (blk_cell BK519.out 1).trans rfl
                    have hc2_ : w'.cell? ⟨gb519, 2, none⟩ = some (.int .u64 t518) := (blk_cell BK519.out 2).trans rfl
                    refine value_ (w1 := w') (v := .agg #[.int .u64 t516, .int .u64 t517, .int .u64 t518]) (wanted_on rfl rfl rfl (e54.trans (by first | rfl | (simp [*]; done)))) rfl ?_ ?_
                    · go_simp
                      (try simp only [i64_w])
                      try rfl
                    refine hK.out _ _ ⟨v545, v552, v558, (by rw [ha.out]; exact putSel_upk 34 hb_ rfl rfl rfl), Q_HO530, Q_BK519, Q_BK523, Q_BK537, Q_HB, Q_HO546, Q_HO553, Q_HO559⟩
                  refine steps_cons ?_ ?_
                  · rintro b a w' ⟨v545, v552, v558, ha, Q_HO530, Q_BK519, Q_BK523, Q_BK537, Q_HB, Q_HO546, Q_HO553, Q_HO559⟩ hb_ hon hoff
                    refine ⟨_, rfl, fun K hK => ?_⟩
                    have e56 : a.tmps[56]? = some (.agg #[.int .u64 t563, .int .u64 t564, .int .u64 t565]) := by rw [ha]; exact putSel_on (e := (33, 56, .agg #[.int .u64 t563, .int .u64 t564, .int .u64 t565])) 33 rfl rfl (hon 33 (by kernel_rfl)) rfl
                    have e57 : a.tmps[57]? = some (.agg #[.int .u64 t516, .int .u64 t517, .int .u64 t518]) := by rw [ha]; exact putSel_on (e := (34, 57, .agg #[.int .u64 t516, .int .u64 t517, .int .u64 t518])) 34 rfl rfl (hon 34 (by kernel_rfl)) rfl
                    have e54 : a.tmps[54]? = some (.bool (!false)) := by rw [ha]; exact putSel_on (e := (31, 54, .bool (!false))) 31 rfl rfl (hon 31 (by kernel_rfl)) rfl
                    replace ha := Aside0.mk ha
                    have HO530 := Aside0.mk Q_HO530
                    have BK519 := Aside0.mk Q_BK519
                    have BK523 := Aside0.mk Q_BK523
                    have BK537 := Aside0.mk Q_BK537
                    have HB := Aside0.mk Q_HB
                    have HO546 := Aside0.mk (Q_HO546 (hon 19 (by kernel_rfl)))
                    have HO553 := Aside0.mk (Q_HO553 (hon 22 (by kernel_rfl)))
                    have HO559 := Aside0.mk (Q_HO559 (hon 27 (by kernel_rfl)))
                    refine goes_ Try.func43 (by kernel_rfl) rfl #[.agg #[.int .u64 t563, .int .u64 t564, .int .u64 t565], .agg #[.int .u64 t516, .int .u64 t517, .int .u64 t518]] (by first | rfl | exact wanted_on rfl rfl rfl (e54.trans (by first | rfl | (simp [*]; done)))) rfl rfl (by first | (simp only [List.map_toArray, List.map_cons, List.map_nil, Act.eval, Array.getD_eq_getD_getElem?, Option.getD_some, e56, e57, e54]; done) | (simp only [List.map_toArray, List.map_cons, List.map_nil, Act.eval, Array.getD_eq_getD_getElem?, Option.getD_some, e56, e57, e54]; rfl)) ?_
                    with_reducible refine (wide_Less.calls k t563 t564 t565 t516 t517 t518 true _ A26.out).mono ?_
                    rintro e w72 ⟨rfl, hb⟩
                    refine ⟨_, rfl, ?_⟩
                    have n0_ := Aside0.mk (Kd.R_below (by (with_reducible repeat (first | apply Kd.R_alloc | apply Kd.R_drewN | apply Kd.R_drew)); exact HO530.out) hb)
                    have n1_ := Aside0.mk (Kd.R_below (by (with_reducible repeat (first | apply Kd.R_alloc | apply Kd.R_drewN | apply Kd.R_drew)); exact HO546.out) hb)
                    have n2_ := Aside0.mk (Kd.R_below (by (with_reducible repeat (first | apply Kd.R_alloc | apply Kd.R_drewN | apply Kd.R_drew)); exact HO553.out) hb)
                    have n3_ := Aside0.mk (Kd.R_below (by (with_reducible repeat (first | apply Kd.R_alloc | apply Kd.R_drewN | apply Kd.R_drew)); exact HO559.out) hb)
                    have n4_ := Aside0.mk (blk_below (g := gb519) (o := .cells #[.int .u64 t516, .int .u64 t517, .int .u64 t518] 27 (0, 0)) (by (with_reducible repeat (first | refine blk_drewN ?_ _ | refine blk_drew ?_ | refine blk_alloc ?_ _)); exact BK519.out) hb)
                    have n5_ := Aside0.mk (blk_below (g := gb523) (o := .cells #[.int .u64 t520, .int .u64 t521] 25 (0, 0)) (by (with_reducible repeat (first | refine blk_drewN ?_ _ | refine blk_drew ?_ | refine blk_alloc ?_ _)); exact BK523.out) hb)
                    have n6_ := Aside0.mk (blk_below (g := gb537) (o := .cells #[.int .u64 t534, .int .u64 t535] 25 (0, 0)) (by (with_reducible repeat (first | refine blk_drewN ?_ _ | refine blk_drew ?_ | refine blk_alloc ?_ _)); exact BK537.out) hb)
                    have n7_ := Aside0.mk (below_step (by repeat (first | (with_reducible first | exact HB.out | apply below_alloc | apply pw_below_drewN | apply below_drew1 | refine below_set ?_ GE519.out | refine below_set ?_ GE523.out | refine below_set ?_ GE537.out) | exact HB.out)) hb)
                    clear HO530
                    clear HO546
                    clear HO553
                    clear HO559
                    clear BK519
                    clear BK523
                    clear BK537
                    clear HB
                    have HO530 := n0_
                    have HO546 := n1_
                    have HO553 := n2_
                    have HO559 := n3_
                    have BK519 := n4_
                    have BK523 := n5_
                    have BK537 := n6_
                    have HB := n7_
                    clear n0_ n1_ n2_ n3_ n4_ n5_ n6_ n7_
                    (try clear hb)
                    (try clear hb2)
                    (try clear hk)
                    (try clear hi)
                    refine hK.out _ _ ⟨v545, v552, v558, (by rw [ha.out]; exact putSel_upk 35 hb_ rfl rfl rfl), (by (with_reducible repeat (first | apply Kd.R_alloc | apply Kd.R_drewN | apply Kd.R_drew)); exact HO530.out), (by (with_reducible repeat (first | refine blk_drewN ?_ _ | refine blk_drew ?_ | refine blk_alloc ?_ _)); exact BK519.out), (by (with_reducible repeat (first | refine blk_drewN ?_ _ | refine blk_drew ?_ | refine blk_alloc ?_ _)); exact BK523.out), (by (with_reducible repeat (first | refine blk_drewN ?_ _ | refine blk_drew ?_ | refine blk_alloc ?_ _)); exact BK537.out), (by repeat (first | (with_reducible first | exact HB.out | apply below_alloc | apply pw_below_drewN | apply below_drew1 | refine below_set ?_ GE519.out | refine below_set ?_ GE523.out | refine below_set ?_ GE537.out) | exact HB.out)), fun _ => (by (with_reducible repeat (first | apply Kd.R_alloc | apply Kd.R_drewN | apply Kd.R_drew)); exact HO546.out), fun _ => (by (with_reducible repeat (first | apply Kd.R_alloc | apply Kd.R_drewN | apply Kd.R_drew)); exact HO553.out), fun _ => (by (with_reducible repeat (first | apply Kd.R_alloc | apply Kd.R_drewN | apply Kd.R_drew)); exact HO559.out)⟩
                  refine steps_cons ?_ ?_
                  · rintro b a w' ⟨v545, v552, v558, ha, Q_HO530, Q_BK519, Q_BK523, Q_BK537, Q_HB, Q_HO546, Q_HO553, Q_HO559⟩ hb_ hon hoff
                    refine ⟨_, rfl, fun K hK => ?_⟩
                    have e54 : a.tmps[54]? = some (.bool (!false)) := by rw [ha]; exact putSel_on (e := (31, 54, .bool (!false))) 31 rfl rfl (hon 31 (by kernel_rfl)) rfl
                    have e58 : a.tmps[58]? = some (.bool true) := by rw [ha]; exact putSel_on (e := (35, 58, .bool true)) 35 rfl rfl (hon 35 (by kernel_rfl)) rfl
                    replace ha := Aside0.mk ha
                    have HO530 := Aside0.mk Q_HO530
                    have BK519 := Aside0.mk Q_BK519
                    have BK523 := Aside0.mk Q_BK523
                    have BK537 := Aside0.mk Q_BK537
                    have HB := Aside0.mk Q_HB
                    have HO546 := Aside0.mk (Q_HO546 (hon 19 (by kernel_rfl)))
                    have HO553 := Aside0.mk (Q_HO553 (hon 22 (by kernel_rfl)))
                    have HO559 := Aside0.mk (Q_HO559 (hon 27 (by kernel_rfl)))
                    refine value_ (w1 := w') (v := .bool true) (by rfl) rfl ?_ ?_
                    · go_simp
                      (try simp only [i64_w])
                      try rfl
                    refine hK.out _ _ ⟨v545, v552, v558, (by rw [ha.out]; exact putSel_upk 36 hb_ rfl rfl rfl), Q_HO530, Q_BK519, Q_BK523, Q_BK537, Q_HB, Q_HO546, Q_HO553, Q_HO559⟩
                  refine steps_cons ?_ ?_
                  · rintro b a w' ⟨v545, v552, v558, ha, Q_HO530, Q_BK519, Q_BK523, Q_BK537, Q_HB, Q_HO546, Q_HO553, Q_HO559⟩ hb_ hon hoff
                    refine ⟨_, rfl, fun K hK => ?_⟩
                    have e59 : a.tmps[59]? = some (.bool true) := by rw [ha]; exact putSel_on (e := (36, 59, .bool true)) 36 rfl rfl (hon 36 (by kernel_rfl)) rfl
                    replace ha := Aside0.mk ha
                    have HO530 := Aside0.mk Q_HO530
                    have BK519 := Aside0.mk Q_BK519
                    have BK523 := Aside0.mk Q_BK523
                    have BK537 := Aside0.mk Q_BK537
                    have HB := Aside0.mk Q_HB
                    have HO546 := Aside0.mk (Q_HO546 (hon 19 (by kernel_rfl)))
                    have HO553 := Aside0.mk (Q_HO553 (hon 22 (by kernel_rfl)))
                    have HO559 := Aside0.mk (Q_HO559 (hon 27 (by kernel_rfl)))
                    refine value_ (w1 := w') (v := .bool true) (by rfl) rfl ?_ ?_
                    · go_simp
                      (try simp only [i64_w])
                      try rfl
                    refine hK.out _ _ ⟨v545, v552, v558, (by rw [ha.out]; exact putSel_upk 37 hb_ rfl rfl rfl), Q_HO530, Q_BK519, Q_BK523, Q_BK537, Q_HB, Q_HO546, Q_HO553, Q_HO559⟩
                  refine steps_cons ?_ ?_
                  · rintro b a w' ⟨v545, v552, v558, ha, Q_HO530, Q_BK519, Q_BK523, Q_BK537, Q_HB, Q_HO546, Q_HO553, Q_HO559⟩ hb_ hon hoff
                    refine ⟨_, rfl, fun K hK => ?_⟩
                    have e1 : a.tmps[1]? = some (.pointer (some ⟨gb519, 0, none⟩)) := by rw [ha]; exact (putSel_off rfl).trans rfl
                    have e60 : a.tmps[60]? = some (.bool true) := by rw [ha]; exact putSel_on (e := (37, 60, .bool true)) 37 rfl rfl (hon 37 (by kernel_rfl)) rfl
                    replace ha := Aside0.mk ha
                    have HO530 := Aside0.mk Q_HO530
                    have BK519 := Aside0.mk Q_BK519
                    have BK523 := Aside0.mk Q_BK523
                    have BK537 := Aside0.mk Q_BK537
                    have HB := Aside0.mk Q_HB
                    have HO546 := Aside0.mk (Q_HO546 (hon 19 (by kernel_rfl)))
                    have HO553 := Aside0.mk (Q_HO553 (hon 22 (by kernel_rfl)))
                    have HO559 := Aside0.mk (Q_HO559 (hon 27 (by kernel_rfl)))
                    have hc0_ : w'.cell? ⟨gb519, 0, none⟩ = some (.int .u64 t516) := (blk_cell BK519.out 0).trans rfl
                    have hc1_ : w'.cell? ⟨gb519, 1, none⟩ = some (.int .u64 t517) := (blk_cell BK519.out 1).trans rfl
                    have hc2_ : w'.cell? ⟨gb519, 2, none⟩ = some (.int .u64 t518) := (blk_cell BK519.out 2).trans rfl
                    refine value_ (w1 := w') (v := .agg #[.int .u64 t516, .int .u64 t517, .int .u64 t518]) (wanted_on rfl rfl rfl (e60.trans (by first | rfl | (simp [*]; done)))) rfl ?_ ?_
                    · go_simp
                      (try simp only [i64_w])
                      try rfl
                    refine hK.out _ _ ⟨v545, v552, v558, (by rw [ha.out]; exact putSel_upk 38 hb_ rfl rfl rfl), Q_HO530, Q_BK519, Q_BK523, Q_BK537, Q_HB, Q_HO546, Q_HO553, Q_HO559⟩
                  refine steps_cons ?_ ?_
                  · rintro b a w' ⟨v545, v552, v558, ha, Q_HO530, Q_BK519, Q_BK523, Q_BK537, Q_HB, Q_HO546, Q_HO553, Q_HO559⟩ hb_ hon hoff
                    refine ⟨_, rfl, fun K hK => ?_⟩
                    have e1 : a.tmps[1]? = some (.pointer (some ⟨gb519, 0, none⟩)) := by rw [ha]; exact (putSel_off rfl).trans rfl
                    have e60 : a.tmps[60]? = some (.bool true) := by rw [ha]; exact putSel_on (e := (37, 60, .bool true)) 37 rfl rfl (hon 37 (by kernel_rfl)) rfl
                    replace ha := Aside0.mk ha
                    have HO530 := Aside0.mk Q_HO530
                    have BK519 := Aside0.mk Q_BK519
                    have BK523 := Aside0.mk Q_BK523
                    have BK537 := Aside0.mk Q_BK537
                    have HB := Aside0.mk Q_HB
                    have HO546 := Aside0.mk (Q_HO546 (hon 19 (by kernel_rfl)))
                    have HO553 := Aside0.mk (Q_HO553 (hon 22 (by kernel_rfl)))
                    have HO559 := Aside0.mk (Q_HO559 (hon 27 (by kernel_rfl)))
                    have hc0_ : w'.cell? ⟨gb519, 0, none⟩ = some (.int .u64 t516) := (blk_cell BK519.out 0).trans rfl
                    have hc1_ : w'.cell? ⟨gb519, 1, none⟩ = some (.int .u64 t517) := (blk_cell BK519.out 1).trans rfl
                    have hc2_ : w'.cell? ⟨gb519, 2, none⟩ = some (.int .u64 t518) := (blk_cell BK519.out 2).trans rfl
                    refine value_ (w1 := w') (v := .agg #[.int .u64 t516, .int .u64 t517, .int .u64 t518]) (wanted_on rfl rfl rfl (e60.trans (by first | rfl | (simp [*]; done)))) rfl ?_ ?_
                    · go_simp
                      (try simp only [i64_w])
                      try rfl
                    refine hK.out _ _ ⟨v545, v552, v558, (by rw [ha.out]; exact putSel_upk 39 hb_ rfl rfl rfl), Q_HO530, Q_BK519, Q_BK523, Q_BK537, Q_HB, Q_HO546, Q_HO553, Q_HO559⟩
                  refine steps_cons ?_ ?_
                  · rintro b a w' ⟨v545, v552, v558, ha, Q_HO530, Q_BK519, Q_BK523, Q_BK537, Q_HB, Q_HO546, Q_HO553, Q_HO559⟩ hb_ hon hoff
                    refine ⟨_, rfl, fun K hK => ?_⟩
                    have e61 : a.tmps[61]? = some (.agg #[.int .u64 t516, .int .u64 t517, .int .u64 t518]) := by rw [ha]; exact putSel_on (e := (38, 61, .agg #[.int .u64 t516, .int .u64 t517, .int .u64 t518])) 38 rfl rfl (hon 38 (by kernel_rfl)) rfl
                    have e62 : a.tmps[62]? = some (.agg #[.int .u64 t516, .int .u64 t517, .int .u64 t518]) := by rw [ha]; exact putSel_on (e := (39, 62, .agg #[.int .u64 t516, .int .u64 t517, .int .u64 t518])) 39 rfl rfl (hon 39 (by kernel_rfl)) rfl
                    have e60 : a.tmps[60]? = some (.bool true) := by rw [ha]; exact putSel_on (e := (37, 60, .bool true)) 37 rfl rfl (hon 37 (by kernel_rfl)) rfl
                    replace ha := Aside0.mk ha
                    have HO530 := Aside0.mk Q_HO530
                    have BK519 := Aside0.mk Q_BK519
                    have BK523 := Aside0.mk Q_BK523
                    have BK537 := Aside0.mk Q_BK537
                    have HB := Aside0.mk Q_HB
                    have HO546 := Aside0.mk (Q_HO546 (hon 19 (by kernel_rfl)))
                    have HO553 := Aside0.mk (Q_HO553 (hon 22 (by kernel_rfl)))
                    have HO559 := Aside0.mk (Q_HO559 (hon 27 (by kernel_rfl)))
                    refine goes_ Try.func43 (by kernel_rfl) rfl #[.agg #[.int .u64 t516, .int .u64 t517, .int .u64 t518], .agg #[.int .u64 t516, .int .u64 t517, .int .u64 t518]] (by first | rfl | exact wanted_on rfl rfl rfl (e60.trans (by first | rfl | (simp [*]; done)))) rfl rfl (by first | (simp only [List.map_toArray, List.map_cons, List.map_nil, Act.eval, Array.getD_eq_getD_getElem?, Option.getD_some, e61, e62, e60]; done) | (simp only [List.map_toArray, List.map_cons, List.map_nil, Act.eval, Array.getD_eq_getD_getElem?, Option.getD_some, e61, e62, e60]; rfl)) ?_
                    with_reducible refine (wide_Less.calls k t516 t517 t518 t516 t517 t518 t567 _ A28.out).mono ?_
                    rintro e w73 ⟨rfl, hb⟩
                    refine ⟨_, rfl, ?_⟩
                    have n0_ := Aside0.mk (Kd.R_below (by (with_reducible repeat (first | apply Kd.R_alloc | apply Kd.R_drewN | apply Kd.R_drew)); exact HO530.out) hb)
                    have n1_ := Aside0.mk (Kd.R_below (by (with_reducible repeat (first | apply Kd.R_alloc | apply Kd.R_drewN | apply Kd.R_drew)); exact HO546.out) hb)
                    have n2_ := Aside0.mk (Kd.R_below (by (with_reducible repeat (first | apply Kd.R_alloc | apply Kd.R_drewN | apply Kd.R_drew)); exact HO553.out) hb)
                    have n3_ := Aside0.mk (Kd.R_below (by (with_reducible repeat (first | apply Kd.R_alloc | apply Kd.R_drewN | apply Kd.R_drew)); exact HO559.out) hb)
                    have n4_ := Aside0.mk (blk_below (g := gb519) (o := .cells #[.int .u64 t516, .int .u64 t517, .int .u64 t518] 27 (0, 0)) (by (with_reducible repeat (first | refine blk_drewN ?_ _ | refine blk_drew ?_ | refine blk_alloc ?_ _)); exact BK519.out) hb)
                    have n5_ := Aside0.mk (blk_below (g := gb523) (o := .cells #[.int .u64 t520, .int .u64 t521] 25 (0, 0)) (by (with_reducible repeat (first | refine blk_drewN ?_ _ | refine blk_drew ?_ | refine blk_alloc ?_ _)); exact BK523.out) hb)
                    have n6_ := Aside0.mk (blk_below (g := gb537) (o := .cells #[.int .u64 t534, .int .u64 t535] 25 (0, 0)) (by (with_reducible repeat (first | refine blk_drewN ?_ _ | refine blk_drew ?_ | refine blk_alloc ?_ _)); exact BK537.out) hb)
                    have n7_ := Aside0.mk (below_step (by repeat (first | (with_reducible first | exact HB.out | apply below_alloc | apply pw_below_drewN | apply below_drew1 | refine below_set ?_ GE519.out | refine below_set ?_ GE523.out | refine below_set ?_ GE537.out) | exact HB.out)) hb)
                    clear HO530
                    clear HO546
                    clear HO553
                    clear HO559
                    clear BK519
                    clear BK523
                    clear BK537
                    clear HB
                    have HO530 := n0_
                    have HO546 := n1_
                    have HO553 := n2_
                    have HO559 := n3_
                    have BK519 := n4_
                    have BK523 := n5_
                    have BK537 := n6_
                    have HB := n7_
                    clear n0_ n1_ n2_ n3_ n4_ n5_ n6_ n7_
                    (try clear hb)
                    (try clear hb2)
                    (try clear hk)
                    (try clear hi)
                    refine hK.out _ _ ⟨v545, v552, v558, (by rw [ha.out]; exact putSel_upk 40 hb_ rfl rfl rfl), (by (with_reducible repeat (first | apply Kd.R_alloc | apply Kd.R_drewN | apply Kd.R_drew)); exact HO530.out), (by (with_reducible repeat (first | refine blk_drewN ?_ _ | refine blk_drew ?_ | refine blk_alloc ?_ _)); exact BK519.out), (by (with_reducible repeat (first | refine blk_drewN ?_ _ | refine blk_drew ?_ | refine blk_alloc ?_ _)); exact BK523.out), (by (with_reducible repeat (first | refine blk_drewN ?_ _ | refine blk_drew ?_ | refine blk_alloc ?_ _)); exact BK537.out), (by repeat (first | (with_reducible first | exact HB.out | apply below_alloc | apply pw_below_drewN | apply below_drew1 | refine below_set ?_ GE519.out | refine below_set ?_ GE523.out | refine below_set ?_ GE537.out) | exact HB.out)), fun _ => (by (with_reducible repeat (first | apply Kd.R_alloc | apply Kd.R_drewN | apply Kd.R_drew)); exact HO546.out), fun _ => (by (with_reducible repeat (first | apply Kd.R_alloc | apply Kd.R_drewN | apply Kd.R_drew)); exact HO553.out), fun _ => (by (with_reducible repeat (first | apply Kd.R_alloc | apply Kd.R_drewN | apply Kd.R_drew)); exact HO559.out)⟩
                  refine steps_cons ?_ ?_
                  · rintro b a w' ⟨v545, v552, v558, ha, Q_HO530, Q_BK519, Q_BK523, Q_BK537, Q_HB, Q_HO546, Q_HO553, Q_HO559⟩ hb_ hon hoff
                    refine ⟨_, rfl, fun K hK => ?_⟩
                    have e63 : a.tmps[63]? = some (.bool t567) := by rw [ha]; exact putSel_on (e := (40, 63, .bool t567)) 40 rfl rfl (hon 40 (by kernel_rfl)) rfl
                    have e60 : a.tmps[60]? = some (.bool true) := by rw [ha]; exact putSel_on (e := (37, 60, .bool true)) 37 rfl rfl (hon 37 (by kernel_rfl)) rfl
                    replace ha := Aside0.mk ha
                    have HO530 := Aside0.mk Q_HO530
                    have BK519 := Aside0.mk Q_BK519
                    have BK523 := Aside0.mk Q_BK523
                    have BK537 := Aside0.mk Q_BK537
                    have HB := Aside0.mk Q_HB
                    have HO546 := Aside0.mk (Q_HO546 (hon 19 (by kernel_rfl)))
                    have HO553 := Aside0.mk (Q_HO553 (hon 22 (by kernel_rfl)))
                    have HO559 := Aside0.mk (Q_HO559 (hon 27 (by kernel_rfl)))
                    refine value_ (w1 := w') (v := .bool (!t567)) (wanted_on rfl rfl rfl (e60.trans (by first | rfl | (simp [*]; done)))) rfl ?_ ?_
                    · go_simp
                      (try simp only [i64_w])
                      try rfl
                    refine hK.out _ _ ⟨v545, v552, v558, (by rw [ha.out]; exact putSel_upk 41 hb_ rfl rfl rfl), Q_HO530, Q_BK519, Q_BK523, Q_BK537, Q_HB, Q_HO546, Q_HO553, Q_HO559⟩
                  refine steps_cons ?_ ?_
                  · rintro b a w' ⟨v545, v552, v558, ha, Q_HO530, Q_BK519, Q_BK523, Q_BK537, Q_HB, Q_HO546, Q_HO553, Q_HO559⟩ hb_ hon hoff
                    refine ⟨_, rfl, fun K hK => ?_⟩
                    have e60 : a.tmps[60]? = some (.bool true) := by rw [ha]; exact putSel_on (e := (37, 60, .bool true)) 37 rfl rfl (hon 37 (by kernel_rfl)) rfl
                    have e64 : a.tmps[64]? = some (.bool (!t567)) := by rw [ha]; exact putSel_on (e := (41, 64, .bool (!t567))) 41 rfl rfl (hon 41 (by kernel_rfl)) rfl
                    replace ha := Aside0.mk ha
                    have HO530 := Aside0.mk Q_HO530
                    have BK519 := Aside0.mk Q_BK519
                    have BK523 := Aside0.mk Q_BK523
                    have BK537 := Aside0.mk Q_BK537
                    have HB := Aside0.mk Q_HB
                    have HO546 := Aside0.mk (Q_HO546 (hon 19 (by kernel_rfl)))
                    have HO553 := Aside0.mk (Q_HO553 (hon 22 (by kernel_rfl)))
                    have HO559 := Aside0.mk (Q_HO559 (hon 27 (by kernel_rfl)))
                    refine value_ (w1 := w') (v := .bool (!t567)) (by rfl) rfl ?_ ?_
                    · go_simp
                      (try simp only [i64_w])
                      try rfl
                    refine hK.out _ _ ⟨v545, v552, v558, (by rw [ha.out]; exact putSel_upk 42 hb_ rfl rfl rfl), Q_HO530, Q_BK519, Q_BK523, Q_BK537, Q_HB, Q_HO546, Q_HO553, Q_HO559⟩
                  refine steps_cons ?_ ?_
                  · rintro b a w' ⟨v545, v552, v558, ha, Q_HO530, Q_BK519, Q_BK523, Q_BK537, Q_HB, Q_HO546, Q_HO553, Q_HO559⟩ hb_ hon hoff
                    refine ⟨_, rfl, fun K hK => ?_⟩
                    have e65 : a.tmps[65]? = some (.bool (!t567)) := by rw [ha]; exact putSel_on (e := (42, 65, .bool (!t567))) 42 rfl rfl (hon 42 (by kernel_rfl)) rfl
                    replace ha := Aside0.mk ha
                    have HO530 := Aside0.mk Q_HO530
                    have BK519 := Aside0.mk Q_BK519
                    have BK523 := Aside0.mk Q_BK523
                    have BK537 := Aside0.mk Q_BK537
                    have HB := Aside0.mk Q_HB
                    have HO546 := Aside0.mk (Q_HO546 (hon 19 (by kernel_rfl)))
                    have HO553 := Aside0.mk (Q_HO553 (hon 22 (by kernel_rfl)))
                    have HO559 := Aside0.mk (Q_HO559 (hon 27 (by kernel_rfl)))
                    refine value_ (w1 := w') (v := .bool (!t567)) (by rfl) rfl ?_ ?_
                    · go_simp
                      (try simp only [i64_w])
                      try rfl
                    refine hK.out _ _ ⟨v545, v552, v558, (by rw [ha.out]; exact putSel_upk 43 hb_ rfl rfl rfl), Q_HO530, Q_BK519, Q_BK523, Q_BK537, Q_HB, Q_HO546, Q_HO553, Q_HO559⟩
                  exact steps_nil
                rintro b a w73 hall ⟨v545, v552, v558, ha, Q_HO530, Q_BK519, Q_BK523, Q_BK537, Q_HB, Q_HO546, Q_HO553, Q_HO559⟩
                clear BK519 BK523 BK537 HB HO530
                have hb0_ := hall 0 (by kernel_rfl)
                have hb1_ := hall 1 (by kernel_rfl)
                have hb2_ := hall 2 (by kernel_rfl)
                have hb3_ := hall 3 (by kernel_rfl)
                have hb4_ := hall 4 (by kernel_rfl)
                have hb5_ := hall 5 (by kernel_rfl)
                have hb6_ := hall 6 (by kernel_rfl)
                have hb7_ := hall 7 (by kernel_rfl)
                have hb8_ := hall 8 (by kernel_rfl)
                have hb9_ := hall 9 (by kernel_rfl)
                have hb10_ := hall 10 (by kernel_rfl)
                have hb11_ := hall 11 (by kernel_rfl)
                have hb12_ := hall 12 (by kernel_rfl)
                have hb13_ := hall 13 (by kernel_rfl)
                have hb14_ := hall 14 (by kernel_rfl)
                have hb15_ := hall 15 (by kernel_rfl)
                have hb16_ := hall 16 (by kernel_rfl)
                have hb17_ := hall 17 (by kernel_rfl)
                have hb18_ := hall 18 (by kernel_rfl)
                have hb19_ := hall 19 (by kernel_rfl)
                have hb20_ := hall 20 (by kernel_rfl)
                have hb21_ := hall 21 (by kernel_rfl)
                have hb22_ := hall 22 (by kernel_rfl)
                have hb23_ := hall 23 (by kernel_rfl)
                have hb24_ := hall 24 (by kernel_rfl)
                have hb25_ := hall 25 (by kernel_rfl)
                have hb26_ := hall 26 (by kernel_rfl)
                have hb27_ := hall 27 (by kernel_rfl)
                have hb28_ := hall 28 (by kernel_rfl)
                have hb29_ := hall 29 (by kernel_rfl)
                have hb30_ := hall 30 (by kernel_rfl)
                have hb31_ := hall 31 (by kernel_rfl)
                have hb32_ := hall 32 (by kernel_rfl)
                have hb33_ := hall 33 (by kernel_rfl)
                have hb34_ := hall 34 (by kernel_rfl)
                have hb35_ := hall 35 (by kernel_rfl)
                have hb36_ := hall 36 (by kernel_rfl)
                have hb37_ := hall 37 (by kernel_rfl)
                have hb38_ := hall 38 (by kernel_rfl)
                have hb39_ := hall 39 (by kernel_rfl)
                have hb40_ := hall 40 (by kernel_rfl)
                have hb41_ := hall 41 (by kernel_rfl)
                have hb42_ := hall 42 (by kernel_rfl)
                have hb43_ := hall 43 (by kernel_rfl)
                subst ha
                simp only [putSel, hb0_, hb1_, hb2_, hb3_, hb4_, hb5_, hb6_, hb7_, hb8_, hb9_, hb10_, hb11_, hb12_, hb13_, hb14_, hb15_, hb16_, hb17_, hb18_, hb19_, hb20_, hb21_, hb22_, hb23_, hb24_, hb25_, hb26_, hb27_, hb28_, hb29_, hb30_, hb31_, hb32_, hb33_, hb34_, hb35_, hb36_, hb37_, hb38_, hb39_, hb40_, hb41_, hb42_, hb43_, if_true, Act.put, List.setIfInBounds_toArray, List.set_cons_zero, List.set_cons_succ]
                have HO530 := Aside0.mk Q_HO530
                clear Q_HO530
                have BK519 := Aside0.mk Q_BK519
                clear Q_BK519
                have BK523 := Aside0.mk Q_BK523
                clear Q_BK523
                have BK537 := Aside0.mk Q_BK537
                clear Q_BK537
                have HB := Aside0.mk Q_HB
                clear Q_HB
                have HO546 := Aside0.mk (Q_HO546 hb19_)
                clear Q_HO546
                have HO553 := Aside0.mk (Q_HO553 hb22_)
                clear Q_HO553
                have HO559 := Aside0.mk (Q_HO559 hb27_)
                clear Q_HO559
                clear hall hb0_ hb1_ hb2_ hb3_ hb4_ hb5_ hb6_ hb7_ hb8_ hb9_ hb10_ hb11_ hb12_ hb13_ hb14_ hb15_ hb16_ hb17_ hb18_ hb19_ hb20_ hb21_ hb22_ hb23_ hb24_ hb25_ hb26_ hb27_ hb28_ hb29_ hb30_ hb31_ hb32_ hb33_ hb34_ hb35_ hb36_ hb37_ hb38_ hb39_ hb40_ hb41_ hb42_ hb43_
                try go_wp2
                go_ret
                exact ⟨by first | rfl | (simp [errW_none, errW_some] <;> rfl) | (simp [*, errW_none, errW_some] <;> rfl), by repeat (first | (with_reducible first | exact HB.out | apply below_alloc | apply pw_below_drewN | apply below_drew1 | refine below_set ?_ GE519.out | refine below_set ?_ GE523.out | refine below_set ?_ GE537.out) | exact HB.out)⟩
              · replace c27 := Bool.eq_false_iff.mpr c27
                subst c27
                have H1 : (none) = some r := by rw [if_neg (show ¬ (false = true) by decide)] at H; exact H
                clear H
                have H := H1
                clear H1
                exact absurd H (by simp)
          · replace c20 := Bool.eq_false_iff.mpr c20
            subst c20
            have H1 : (none) = some r := by rw [if_neg (show ¬ (false = true) by decide)] at H; exact H
            clear H
            have H := H1
            clear H1
            exact absurd H (by simp)
        · rw [if_neg c14] at H
          have c14b0 : (t534 == t538 && (t535 == t539)) = false := by simpa using c14
          (try (have c14b1 : decide (t534 = t538 && (t535 == t539)) = false := by simpa using c14))
          (try (have c14b2 : (t534 == t538 && (t535 == t539)) = false := by simpa using c14))
          (try (have c14b3 : ¬ (t534 = t538 && (t535 == t539)) := by simpa using c14))
          clear c14
          exact absurd H (by simp)
      · rw [if_neg c12] at H
        have c12b0 : (t536 == 0) = false := beq_eq_false_iff_ne.mpr c12
        have c12b1 : (t536 != 0) = true := bne_iff_ne.mpr c12
        exact absurd H (by simp)
    · rw [if_neg c11] at H
      have c11b0 : (t522 == 10) = false := beq_eq_false_iff_ne.mpr c11
      have c11b1 : (t522 != 10) = true := bne_iff_ne.mpr c11
      exact absurd H (by simp)
  · rw [if_neg c10] at H
    have c10b0 : (t516 == 1 && ((t517 == 0 && (t518 == 0)))) = false := by simpa using c10
    (try (have c10b1 : decide (t516 = 1 && ((t517 == 0 && (t518 == 0)))) = false := by simpa using c10))
    (try (have c10b2 : (t516 == 1 && ((t517 == 0 && (t518 == 0)))) = false := by simpa using c10))
    (try (have c10b3 : ¬ (t516 = 1 && ((t517 == 0 && (t518 == 0)))) := by simpa using c10))
    clear c10
    exact absurd H (by simp)
end Go.Proofs.Ytpkjpiphjdpegaa.P
namespace Go.Proofs.Ytpkjpiphjdpegaa.P
open Go.RowKit Go.Proofs.YtpkjpiphjdpegaaW.PrintWords Go.Proofs.YtpkjpiphjdpegaaW.PrintLast Go.Proofs.YtpkjpiphjdpegaaW.PrintMore
set_option linter.unusedVariables false
set_option linter.unusedSimpArgs false
def m192 : Int := 6277101735386680763835789423207666416102355444464034512896
def encW (W : Int) : Int × Int × Int := (W / m128, hiOf (W % m128), loOf (W % m128))
theorem encW_ok (W : Int) (h0 : 0 ≤ W) (h1 : W < m192) : U64 (encW W).1 ∧ U64 (encW W).2.1 ∧ U64 (encW W).2.2 ∧ wv (encW W).1 (encW W).2.1 (encW W).2.2 = W := by
  have hm : (0 : Int) < m128 := by unfold m128; omega
  obtain ⟨u1, u2⟩ := u_hiOf (W % m128) (Int.emod_nonneg _ (by omega)) (Int.emod_lt_of_pos _ hm)
  refine ⟨?_, u1, u2, ?_⟩
  · unfold encW m128 m192 at *
    constructor <;> (simp only []; omega)
  · unfold wv encW
    simp only []
    rw [val_halves]
    have := Int.mul_ediv_add_emod W m128
    rw [Int.mul_comm]
    exact this
theorem encW_wv (h a b : Int) (ha : U64 a) (hb : U64 b) : encW (wv h a b) = (h, a, b) := by
  have v := val_range a b ha hb
  have hm : (0 : Int) < m128 := by unfold m128; omega
  have q : wv h a b / m128 = h := by
    unfold wv
    rw [Int.add_comm, Int.add_mul_ediv_right _ _ (by omega), Int.ediv_eq_zero_of_lt v.1 v.2]
    omega
  have r : wv h a b % m128 = val a b := by
    unfold wv
    rw [Int.add_comm, Int.add_mul_emod_self_right]
    exact Int.emod_eq_of_lt v.1 v.2
  unfold encW
  rw [q, r]
  have e1 : hiOf (val a b) = a := by
    obtain ⟨b0, b1⟩ := hb
    unfold hiOf val; omega
  have e2 : loOf (val a b) = b := by
    obtain ⟨b0, b1⟩ := hb
    unfold loOf val; omega
  rw [e1, e2]
theorem and_enc (h a b g c d : Int) (hh : U64 h) (ha : U64 a) (hb : U64 b) (hg : U64 g) (hc : U64 c) (hd : U64 d) (hW : wv h a b + wv g c d < m192) :
    wide_Wide_And.f h a b g c d = some (encW (wv h a b + wv g c d)) := by
  have v1 := val_range a b ha hb
  have v2 := val_range c d hc hd
  have hm : (0 : Int) < m128 := by unfold m128; omega
  have e : wv h a b + wv g c d = (val a b + val c d) + (h + g) * m128 := by unfold wv m128; omega
  have q : (wv h a b + wv g c d) / m128 = (val a b + val c d) / m128 + (h + g) := by rw [e, Int.add_mul_ediv_right _ _ (by omega)]
  have r : (wv h a b + wv g c d) % m128 = (val a b + val c d) % m128 := by rw [e, Int.add_mul_emod_self_right]
  have lt : h + g + (val a b + val c d) / m128 < 18446744073709551616 := by
    have : (wv h a b + wv g c d) / m128 < 18446744073709551616 := by
      apply Int.ediv_lt_of_lt_mul hm
      unfold m128 m192 at *
      omega
    omega
  unfold wide_Wide_And.f encW
  rw [if_pos (show U64 h ∧ U64 a ∧ U64 b ∧ U64 g ∧ U64 c ∧ U64 d from ⟨hh, ha, hb, hg, hc, hd⟩), if_pos lt, q, r, Int.add_comm ((val a b + val c d) / m128)]
def tot (l : List S25) : Int := (l.map fun x => val x.f0 x.f1).sum
theorem tot_nil : tot [] = 0 := rfl
theorem tot_cons (x : S25) (l : List S25) : tot (x :: l) = val x.f0 x.f1 + tot l := by simp [tot]
theorem tot_append (l l' : List S25) : tot (l ++ l') = tot l + tot l' := by simp [tot]
theorem tot_range (l : List S25) (hg : ∀ y ∈ l, U64 y.f0 ∧ U64 y.f1) : 0 ≤ tot l ∧ tot l ≤ l.length * (m128 - 1) := by
  induction l with
  | nil => simp [tot]
  | cons x l ih =>
    have h1 := ih fun y hy => hg y (by simp [hy])
    have h2 := val_range x.f0 x.f1 (hg x (by simp)).1 (hg x (by simp)).2
    rw [tot_cons]
    have e : (((x :: l).length : Nat) : Int) * (m128 - 1) = (l.length : Int) * (m128 - 1) + (m128 - 1) := by
      rw [List.length_cons, Int.natCast_add, Int.add_mul]
      simp
    rw [e]
    omega
theorem tot_small (l : List S25) (hg : ∀ y ∈ l, U64 y.f0 ∧ U64 y.f1) (hl : l.length ≤ 1000000) : 0 ≤ tot l ∧ tot l < m192 := by
  have h := tot_range l hg
  refine ⟨h.1, ?_⟩
  have : (l.length : Int) * (m128 - 1) ≤ 1000000 * (m128 - 1) := Int.mul_le_mul_of_nonneg_right (by omega) (by unfold m128; omega)
  unfold m128 m192 at *
  omega
theorem wv_plain (a b : Int) : wv 0 a b = val a b := by unfold wv; omega
theorem wfold_enc : ∀ (l : List S25), (∀ y ∈ l, U64 y.f0 ∧ U64 y.f1) → ∀ h a b : Int, U64 h → U64 a → U64 b → wv h a b + tot l < m192 → wfold l h a b = some (encW (wv h a b + tot l))
  | [], _, h, a, b, hh, ha, hb, hW => by
    rw [tot_nil, Int.add_zero, encW_wv h a b ha hb]
    rfl
  | x :: xs, hg, h, a, b, hh, ha, hb, hW => by
    have hx := hg x (by simp)
    have hz : U64 0 := ⟨by omega, by omega⟩
    have t := tot_range xs fun y hy => hg y (by simp [hy])
    have v := val_range x.f0 x.f1 hx.1 hx.2
    have v0 := val_range a b ha hb
    have h0 : 0 ≤ wv h a b := by
      have := hh.1
      unfold wv m128; omega
    rw [tot_cons] at hW
    have e := and_enc h a b 0 x.f0 x.f1 hh ha hb hz hx.1 hx.2 (by rw [wv_plain]; omega)
    simp only [wfold]
    rw [e, wv_plain]
    simp only [Option.bind_some]
    obtain ⟨u1, u2, u3, u4⟩ := encW_ok (wv h a b + val x.f0 x.f1) (by omega) (by omega)
    rw [wfold_enc xs (fun y hy => hg y (by simp [hy])) _ _ _ u1 u2 u3 (by rw [u4]; omega), u4, tot_cons]
    congr 2
    omega
theorem wfold_is (l : List S25) (hg : ∀ y ∈ l, U64 y.f0 ∧ U64 y.f1) (hl : l.length ≤ 1000000) : wfold l 0 0 0 = some (encW (tot l)) := by
  have hz : U64 0 := ⟨by omega, by omega⟩
  have t := tot_small l hg hl
  have w0 : wv 0 0 0 = 0 := rfl
  have := wfold_enc l hg 0 0 0 hz hz hz (by rw [w0]; omega)
  rw [w0, Int.zero_add] at this
  exact this
theorem all_is (l : List S25) (hg : ∀ y ∈ l, U64 y.f0 ∧ U64 y.f1) (hl : l.length ≤ 1000000) (k : Nat) (hk : l.length < k) : wide_All.f k l = some (encW (tot l)) := by
  unfold wide_All.f
  rw [wide_sum_is l (by omega) k hk, wfold_is l hg hl]
  rfl
theorem balanced_is (l r : List S25) (hg : ∀ y ∈ l, U64 y.f0 ∧ U64 y.f1) (hl : l.length ≤ 1000000) (hg' : ∀ y ∈ r, U64 y.f0 ∧ U64 y.f1) (hl' : r.length ≤ 1000000) (k : Nat) (hk : l.length < k) (hk' : r.length < k) :
    wide_Balanced.f k l r = some (decide (tot l = tot r)) := by
  unfold wide_Balanced.f
  rw [wide_sum_is l (by omega) k hk, wfold_is l hg hl, wide_sum_is r (by omega) k hk', wfold_is r hg' hl']
  simp only [Option.bind_some]
  have t := tot_small l hg hl
  have t' := tot_small r hg' hl'
  obtain ⟨_, a2, a3, a4⟩ := encW_ok (tot l) t.1 t.2
  obtain ⟨_, b2, b3, b4⟩ := encW_ok (tot r) t'.1 t'.2
  congr 1
  by_cases h : tot l = tot r
  · rw [h]; simp
  · rw [decide_eq_false h]
    rw [Bool.eq_false_iff]
    intro e
    simp only [Bool.and_eq_true, beq_iff_eq] at e
    apply h
    rw [← a4, ← b4, e.1, e.2.1, e.2.2]
theorem cmpI_wv (h a b g c d : Int) (ha : U64 a) (hb : U64 b) (hc : U64 c) (hd : U64 d) : (if cmpI h g = 0 then cmpI (val a b) (val c d) else cmpI h g) = cmpI (wv h a b) (wv g c d) := by
  have v1 := val_range a b ha hb
  have v2 := val_range c d hc hd
  unfold m128 at v1 v2
  by_cases h1 : h < g
  · have e : cmpI h g = -1 := by unfold cmpI; rw [if_pos h1]
    rw [e, if_neg (by omega)]
    unfold cmpI wv m128
    rw [if_pos (by omega)]
  · by_cases h2 : h = g
    · have e : cmpI h g = 0 := by unfold cmpI; rw [if_neg h1, if_pos h2]
      rw [e, if_pos rfl, h2]
      unfold cmpI wv
      have p1 : (g * m128 + val a b < g * m128 + val c d) = (val a b < val c d) := propext ⟨by omega, by omega⟩
      have p2 : (g * m128 + val a b = g * m128 + val c d) = (val a b = val c d) := propext ⟨by omega, by omega⟩
      simp only [p1, p2]
    · have e : cmpI h g = 1 := by unfold cmpI; rw [if_neg h1, if_neg h2]
      rw [e, if_neg (by omega)]
      unfold cmpI wv m128
      rw [if_neg (by omega), if_neg (by omega)]
theorem wcmp_is (k : Nat) (h a b g c d : Int) (hh : U64 h) (ha : U64 a) (hb : U64 b) (hg : U64 g) (hc : U64 c) (hd : U64 d) : wide_Wide_Cmp.f (k + 3) h a b g c d = some (cmpI (wv h a b) (wv g c d)) := by
  rw [wide_Cmp_is k h a b g c d hh ha hb hg hc hd, cmpI_wv h a b g c d ha hb hc hd]
theorem cmpI_neg (x y : Int) : decide (cmpI x y < 0) = decide (x < y) := by
  unfold cmpI
  by_cases h : x < y
  · rw [if_pos h]; simp [h]
  · rw [if_neg h]
    by_cases h' : x = y
    · rw [if_pos h']; simp [h']
    · rw [if_neg h']; simp [h]
theorem less_is (k : Nat) (h a b g c d : Int) (hh : U64 h) (ha : U64 a) (hb : U64 b) (hg : U64 g) (hc : U64 c) (hd : U64 d) : wide_Less.f (k + 3) h a b g c d = some (decide (wv h a b < wv g c d)) := by
  unfold wide_Less.f
  rw [wcmp_is k h a b g c d hh ha hb hg hc hd]
  simp only [Option.bind_some]
  rw [cmpI_neg]
theorem awake3 (k : Nat) : paymasterlaw03_awake.f (k + 10) = some true := by
  have hz : U64 0 := ⟨by omega, by omega⟩
  have h1 : U64 1 := ⟨by omega, by omega⟩
  have h2 : U64 2 := ⟨by omega, by omega⟩
  have h3 : U64 3 := ⟨by omega, by omega⟩
  have h4 : U64 4 := ⟨by omega, by omega⟩
  have h5 : U64 5 := ⟨by omega, by omega⟩
  have hm : U64 18446744073709551615 := ⟨by omega, by omega⟩
  have g34 : ∀ y ∈ [(⟨0, 3⟩ : S25), (⟨0, 4⟩ : S25)], U64 y.f0 ∧ U64 y.f1 := by
    intro y hy
    simp only [List.mem_cons, List.not_mem_nil, or_false] at hy
    rcases hy with rfl | rfl
    · exact ⟨hz, h3⟩
    · exact ⟨hz, h4⟩
  have g52 : ∀ y ∈ [(⟨0, 5⟩ : S25), (⟨0, 2⟩ : S25)], U64 y.f0 ∧ U64 y.f1 := by
    intro y hy
    simp only [List.mem_cons, List.not_mem_nil, or_false] at hy
    rcases hy with rfl | rfl
    · exact ⟨hz, h5⟩
    · exact ⟨hz, h2⟩
  have g3 : ∀ y ∈ [(⟨0, 3⟩ : S25)], U64 y.f0 ∧ U64 y.f1 := by
    intro y hy
    simp only [List.mem_cons, List.not_mem_nil, or_false] at hy
    rcases hy with rfl
    exact ⟨hz, h3⟩
  have aP : wide_Wide_And.f 0 18446744073709551615 18446744073709551615 0 0 1 = some (1, 0, 0) := by decide +kernel
  have aA : wide_All.f (k + 10) [(⟨0, 3⟩ : S25), (⟨0, 4⟩ : S25)] = some (0, 0, 7) := (all_is _ g34 (by simp) (k + 10) (by simp <;> omega)).trans (by decide +kernel)
  have aB : wide_Balanced.f (k + 10) [(⟨0, 3⟩ : S25), (⟨0, 4⟩ : S25)] [(⟨0, 5⟩ : S25), (⟨0, 2⟩ : S25)] = some true := (balanced_is _ _ g34 (by simp) g52 (by simp) (k + 10) (by simp <;> omega) (by simp <;> omega)).trans (by decide +kernel)
  have aC : wide_Balanced.f (k + 10) [(⟨0, 3⟩ : S25)] [] = some false := (balanced_is _ _ g3 (by simp) (by simp) (by simp) (k + 10) (by simp) (by simp)).trans (by decide +kernel)
  have aD : wide_Less.f (k + 10) 0 18446744073709551615 18446744073709551615 1 0 0 = some true := (less_is (k + 7) _ _ _ _ _ _ hz hm hm h1 hz hz).trans (by decide +kernel)
  have aE : wide_Less.f (k + 10) 1 0 0 1 0 0 = some false := (less_is (k + 7) _ _ _ _ _ _ h1 hz hz h1 hz hz).trans (by decide +kernel)
  unfold paymasterlaw03_awake.f
  simp only [u128_Most.f, u128_Of.f, wide_Of.f, wide_Wide_Plus.f, wide_Wide_Narrow.f, Option.bind_some, aP, aA, aB, aC, aD, aE]
  simp
end Go.Proofs.Ytpkjpiphjdpegaa.P
namespace Go.Proofs.Ytpkjpiphjdpegaa.P
open Go.RowKit Go.Proofs.YtpkjpiphjdpegaaW.PrintWords Go.Proofs.YtpkjpiphjdpegaaW.PrintLast Go.Proofs.YtpkjpiphjdpegaaW.PrintMore
set_option linter.unusedVariables false
set_option linter.unusedSimpArgs false
theorem good_take {l : List S25} (hg : ∀ y ∈ l, U64 y.f0 ∧ U64 y.f1) (n : Nat) : ∀ y ∈ l.take n, U64 y.f0 ∧ U64 y.f1 := fun y h => hg y (List.mem_of_mem_take h)
theorem good_drop {l : List S25} (hg : ∀ y ∈ l, U64 y.f0 ∧ U64 y.f1) (n : Nat) : ∀ y ∈ l.drop n, U64 y.f0 ∧ U64 y.f1 := fun y h => hg y (List.mem_of_mem_drop h)
theorem tot_parts (l : List S25) (n : Nat) : tot (l.take n) + tot (l.drop n) = tot l := by rw [← tot_append, List.take_append_drop]
theorem tot_succ (l : List S25) (i : Nat) (h : i < l.length) : tot (l.take (i + 1)) = tot (l.take i) + val l[i].f0 l[i].f1 := by
  rw [← List.take_append_getElem h, tot_append, tot_cons, tot_nil]
  omega
theorem tot_le {l : List S25} (hg : ∀ y ∈ l, U64 y.f0 ∧ U64 y.f1) (n : Nat) : 0 ≤ tot (l.take n) ∧ tot (l.take n) ≤ tot l := by
  have h1 := tot_range _ (good_take hg n)
  have h2 := tot_range _ (good_drop hg n)
  have := tot_parts l n
  omega
end Go.Proofs.Ytpkjpiphjdpegaa.P
namespace Go.Proofs.Ytpkjpiphjdpegaa.P
open Go.RowKit Go.Proofs.YtpkjpiphjdpegaaW.PrintWords Go.Proofs.YtpkjpiphjdpegaaW.PrintLast Go.Proofs.YtpkjpiphjdpegaaW.PrintMore
set_option linter.unusedVariables false
set_option linter.unusedSimpArgs false
theorem add_num (a b c d : Int) (ha : U64 a) (hb : U64 b) (hc : U64 c) (hd : U64 d) :
    u128_Add.f a b c d = if val a b + val c d < m128 then some (hiOf (val a b + val c d), loOf (val a b + val c d), 0) else some (0, 0, 10) := by
  unfold u128_Add.f
  rw [if_pos ⟨ha, hb, hc, hd⟩]
theorem sub_num (a b c d : Int) (ha : U64 a) (hb : U64 b) (hc : U64 c) (hd : U64 d) :
    u128_Sub.f a b c d = if 0 ≤ val a b - val c d then some (hiOf (val a b - val c d), loOf (val a b - val c d), 0) else some (0, 0, 10) := by
  unfold u128_Sub.f
  rw [if_pos ⟨ha, hb, hc, hd⟩]
theorem hiOf_val (a b : Int) (hb : U64 b) : hiOf (val a b) = a := by
  obtain ⟨h1, h2⟩ := hb
  unfold hiOf val
  omega
theorem loOf_val (a b : Int) (hb : U64 b) : loOf (val a b) = b := by
  obtain ⟨h1, h2⟩ := hb
  unfold loOf val
  omega
theorem sfold_is : ∀ (l : List S25), (∀ y ∈ l, U64 y.f0 ∧ U64 y.f1) → ∀ a b : Int, U64 a → U64 b →
    sfold l a b = if val a b + tot l < m128 then some (hiOf (val a b + tot l), loOf (val a b + tot l), 0) else some (0, 0, 10)
  | [], _, a, b, ha, hb => by
    have v := val_range a b ha hb
    rw [tot_nil, Int.add_zero, if_pos v.2, hiOf_val a b hb, loOf_val a b hb]
    rfl
  | x :: xs, hg, a, b, ha, hb => by
    have hx := hg x (by simp)
    have hxs : ∀ y ∈ xs, U64 y.f0 ∧ U64 y.f1 := fun y hy => hg y (by simp [hy])
    have t := tot_range xs hxs
    have v := val_range a b ha hb
    have v' := val_range x.f0 x.f1 hx.1 hx.2
    simp only [sfold]
    rw [add_num a b _ _ ha hb hx.1 hx.2, tot_cons]
    by_cases h : val a b + val x.f0 x.f1 < m128
    · rw [if_pos h]
      simp only [Option.bind_some]
      obtain ⟨u1, u2⟩ := u_hiOf (val a b + val x.f0 x.f1) (by omega) h
      rw [if_pos trivial, sfold_is xs hxs _ _ u1 u2, val_halves, show val a b + (val x.f0 x.f1 + tot xs) = val a b + val x.f0 x.f1 + tot xs by omega]
    · rw [if_neg h, if_neg (by omega)]
      simp
end Go.Proofs.Ytpkjpiphjdpegaa.P
