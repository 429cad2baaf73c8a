/- A program of this session wrote this text out of the session's own texts. (part 3 of 3) -/
import Derived.Test.YtpkjpiphjdpegaaCU128Order2
namespace Go.Proofs.Ytpkjpiphjdpegaa.P
open Go.RowKit Go.Proofs.YtpkjpiphjdpegaaW.PrintWords Go.Proofs.YtpkjpiphjdpegaaW.PrintLast Go.Proofs.YtpkjpiphjdpegaaW.PrintMore
attribute [local go_sem] max2_int min2_int max_two min_two max_three min_three max_four min_four
set_option linter.unusedVariables false
set_option linter.unusedSimpArgs false
attribute [local go_sem high] eqA25
def paymasterlaw01_awake.f  : Option (Bool) := (u128_Of.f 1).bind fun bt1048 => ((u128_Add.f 0 18446744073709551615 bt1048.1 bt1048.2).bind fun bt1050 => ((u128_Most.f).bind fun bt1054 => ((u128_Of.f 1).bind fun bt1056 => ((u128_Add.f bt1054.1 bt1054.2 bt1056.1 bt1056.2).bind fun bt1058 => ((u128_Of.f 1).bind fun bt1062 => ((u128_Of.f 2).bind fun bt1064 => ((u128_Sub.f bt1062.1 bt1062.2 bt1064.1 bt1064.2).bind fun bt1066 => ((u128_Over.f 1 3 10).bind fun bt1070 => ((u128_Of.f 1).bind fun bt1075 => ((u128_Over.f bt1075.1 bt1075.2 0).bind fun bt1077 => (if (bt1050.1 == 1 && (bt1050.2.1 == 0)) = true then (if bt1050.2.2 = 0 then (if bt1058.2.2 = 10 then (if bt1066.2.2 = 10 then ((u128_Of.f 1844674407370955161).bind fun bt1082 => (if (bt1070.1 == bt1082.1 && (bt1070.2.1 == bt1082.2)) = true then (if bt1070.2.2.1 = 9 then (if bt1070.2.2.2 = 0 then (if bt1077.2.2.2 = 2 then ((u128_Bytes.f 1 258).bind fun t1084 => (some (t1084.toList == ([0, 0, 0, 0, 0, 0, 0, 1, 0, 0, 0, 0, 0, 0, 1, 2] : List UInt8)))) else (none)) else (none)) else (none)) else (none))) else (none)) else (none)) else (none)) else (none))))))))))))
def paymasterlaw01_awake.T6 : Bool × List (List Nat × List Nat) := (true, [([], []), ([], []), ([0, 1], [0, 1]), ([2], [2]), ([3], [3]), ([4, 3], [3, 4]), ([3, 5], [3, 5]), ([6, 3], [6]), ([7], [7]), ([8, 7], [7, 8]), ([7, 9], [7, 9]), ([10, 7], [10]), ([11], [11]), ([12, 11], [11, 12]), ([11, 13], [11, 13]), ([14, 11], [14]), ([15], [15]), ([15, 15], [15]), ([16, 17, 15], [15, 16, 17]), ([15, 18], [15, 18]), ([19, 17], [19]), ([20], [20]), ([21, 20], [20, 21]), ([20, 22], [20, 22]), ([23, 20], [23]), ([24], [24]), ([25, 24], [24, 25]), ([24, 26], [24, 26]), ([27, 24], [27]), ([28], [28]), ([29, 28], [28, 29]), ([28, 30], [28, 30]), ([31, 28], [31]), ([32], [32]), ([33, 32, 32], [32, 33]), ([34, 32], [32, 34]), ([32, 35], [32, 35]), ([36, 34, 0, 1, 2, 3, 4, 5, 6, 7, 8, 9, 10, 11, 12, 13, 14, 15, 16, 17, 18, 19, 20, 21, 22, 23, 24, 25, 26, 27, 28, 29, 30, 31, 32, 33, 34, 35, 36], [36])])
def paymasterlaw01_awake.B6 : List Nat := [0, 0, 3, 7, 15, 31, 63, 127, 255, 511, 1023, 2047, 4095, 8191, 16383, 32767, 65535, 65535, 262143, 524287, 1048575, 2097151, 4194303, 8388607, 16777215, 33554431, 67108863, 134217727, 268435455, 536870911, 1073741823, 2147483647, 4294967295, 8589934591, 17179869183, 34359738367, 68719476735, 137438953471]
theorem paymasterlaw01_awake.tab6 : rtab .any (opsOf Try.f66 6) = paymasterlaw01_awake.T6 := by kernel_rfl
theorem paymasterlaw01_awake.bits6 : waitsOk paymasterlaw01_awake.T6.2 paymasterlaw01_awake.B6 = true := by kernel_rfl
set_option maxHeartbeats 8000000 in
set_option maxRecDepth 100000 in
theorem paymasterlaw01_awake.calls  (r : Bool) (w : World) (h : paymasterlaw01_awake.f  = some r) :
    Calls Try.prog 66 #[] w fun e w' => e = .returned (.bool r) ∧ Below w.heap.size w w' := by
  have hu25 := Try.underlying25
  have HB := Aside0.mk (Below.refl w.heap.size w)
  have H : ((u128_Of.f 1).bind fun bt1048 => ((u128_Add.f 0 18446744073709551615 bt1048.1 bt1048.2).bind fun bt1050 => ((u128_Most.f).bind fun bt1054 => ((u128_Of.f 1).bind fun bt1056 => ((u128_Add.f bt1054.1 bt1054.2 bt1056.1 bt1056.2).bind fun bt1058 => ((u128_Of.f 1).bind fun bt1062 => ((u128_Of.f 2).bind fun bt1064 => ((u128_Sub.f bt1062.1 bt1062.2 bt1064.1 bt1064.2).bind fun bt1066 => ((u128_Over.f 1 3 10).bind fun bt1070 => ((u128_Of.f 1).bind fun bt1075 => ((u128_Over.f bt1075.1 bt1075.2 0).bind fun bt1077 => (if (bt1050.1 == 1 && (bt1050.2.1 == 0)) = true then (if bt1050.2.2 = 0 then (if bt1058.2.2 = 10 then (if bt1066.2.2 = 10 then ((u128_Of.f 1844674407370955161).bind fun bt1082 => (if (bt1070.1 == bt1082.1 && (bt1070.2.1 == bt1082.2)) = true then (if bt1070.2.2.1 = 9 then (if bt1070.2.2.2 = 0 then (if bt1077.2.2.2 = 2 then ((u128_Bytes.f 1 258).bind fun t1084 => (some (t1084.toList == ([0, 0, 0, 0, 0, 0, 0, 1, 0, 0, 0, 0, 0, 0, 1, 2] : List UInt8)))) else (none)) else (none)) else (none)) else (none))) else (none)) else (none)) else (none)) else (none))))))))))))) = some r := h
  clear h
  replace H := Option.bind_eq_some_iff.mp H
  obtain ⟨⟨t1048, t1049⟩, A10, H⟩ := H
  replace H : ((u128_Add.f 0 18446744073709551615 t1048 t1049).bind fun bt1050 => ((u128_Most.f).bind fun bt1054 => ((u128_Of.f 1).bind fun bt1056 => ((u128_Add.f bt1054.1 bt1054.2 bt1056.1 bt1056.2).bind fun bt1058 => ((u128_Of.f 1).bind fun bt1062 => ((u128_Of.f 2).bind fun bt1064 => ((u128_Sub.f bt1062.1 bt1062.2 bt1064.1 bt1064.2).bind fun bt1066 => ((u128_Over.f 1 3 10).bind fun bt1070 => ((u128_Of.f 1).bind fun bt1075 => ((u128_Over.f bt1075.1 bt1075.2 0).bind fun bt1077 => (if (bt1050.1 == 1 && (bt1050.2.1 == 0)) = true then (if bt1050.2.2 = 0 then (if bt1058.2.2 = 10 then (if bt1066.2.2 = 10 then ((u128_Of.f 1844674407370955161).bind fun bt1082 => (if (bt1070.1 == bt1082.1 && (bt1070.2.1 == bt1082.2)) = true then (if bt1070.2.2.1 = 9 then (if bt1070.2.2.2 = 0 then (if bt1077.2.2.2 = 2 then ((u128_Bytes.f 1 258).bind fun t1084 => (some (t1084.toList == ([0, 0, 0, 0, 0, 0, 0, 1, 0, 0, 0, 0, 0, 0, 1, 2] : List UInt8)))) else (none)) else (none)) else (none)) else (none))) else (none)) else (none)) else (none)) else (none)))))))))))) = some r := H
  have A1 := Aside0.mk A10
  clear A10
  replace H := Option.bind_eq_some_iff.mp H
  obtain ⟨⟨t1050, t1051, t1052⟩, A20, H⟩ := H
  replace H : ((u128_Most.f).bind fun bt1054 => ((u128_Of.f 1).bind fun bt1056 => ((u128_Add.f bt1054.1 bt1054.2 bt1056.1 bt1056.2).bind fun bt1058 => ((u128_Of.f 1).bind fun bt1062 => ((u128_Of.f 2).bind fun bt1064 => ((u128_Sub.f bt1062.1 bt1062.2 bt1064.1 bt1064.2).bind fun bt1066 => ((u128_Over.f 1 3 10).bind fun bt1070 => ((u128_Of.f 1).bind fun bt1075 => ((u128_Over.f bt1075.1 bt1075.2 0).bind fun bt1077 => (if (t1050 == 1 && (t1051 == 0)) = true then (if t1052 = 0 then (if bt1058.2.2 = 10 then (if bt1066.2.2 = 10 then ((u128_Of.f 1844674407370955161).bind fun bt1082 => (if (bt1070.1 == bt1082.1 && (bt1070.2.1 == bt1082.2)) = true then (if bt1070.2.2.1 = 9 then (if bt1070.2.2.2 = 0 then (if bt1077.2.2.2 = 2 then ((u128_Bytes.f 1 258).bind fun t1084 => (some (t1084.toList == ([0, 0, 0, 0, 0, 0, 0, 1, 0, 0, 0, 0, 0, 0, 1, 2] : List UInt8)))) else (none)) else (none)) else (none)) else (none))) else (none)) else (none)) else (none)) else (none))))))))))) = some r := H
  have A2 := Aside0.mk A20
  clear A20
  replace H := Option.bind_eq_some_iff.mp H
  obtain ⟨⟨t1054, t1055⟩, A30, H⟩ := H
  replace H : ((u128_Of.f 1).bind fun bt1056 => ((u128_Add.f t1054 t1055 bt1056.1 bt1056.2).bind fun bt1058 => ((u128_Of.f 1).bind fun bt1062 => ((u128_Of.f 2).bind fun bt1064 => ((u128_Sub.f bt1062.1 bt1062.2 bt1064.1 bt1064.2).bind fun bt1066 => ((u128_Over.f 1 3 10).bind fun bt1070 => ((u128_Of.f 1).bind fun bt1075 => ((u128_Over.f bt1075.1 bt1075.2 0).bind fun bt1077 => (if (t1050 == 1 && (t1051 == 0)) = true then (if t1052 = 0 then (if bt1058.2.2 = 10 then (if bt1066.2.2 = 10 then ((u128_Of.f 1844674407370955161).bind fun bt1082 => (if (bt1070.1 == bt1082.1 && (bt1070.2.1 == bt1082.2)) = true then (if bt1070.2.2.1 = 9 then (if bt1070.2.2.2 = 0 then (if bt1077.2.2.2 = 2 then ((u128_Bytes.f 1 258).bind fun t1084 => (some (t1084.toList == ([0, 0, 0, 0, 0, 0, 0, 1, 0, 0, 0, 0, 0, 0, 1, 2] : List UInt8)))) else (none)) else (none)) else (none)) else (none))) else (none)) else (none)) else (none)) else (none)))))))))) = some r := H
  have A3 := Aside0.mk A30
  clear A30
  replace H := Option.bind_eq_some_iff.mp H
  obtain ⟨⟨t1056, t1057⟩, A40, H⟩ := H
  replace H : ((u128_Add.f t1054 t1055 t1056 t1057).bind fun bt1058 => ((u128_Of.f 1).bind fun bt1062 => ((u128_Of.f 2).bind fun bt1064 => ((u128_Sub.f bt1062.1 bt1062.2 bt1064.1 bt1064.2).bind fun bt1066 => ((u128_Over.f 1 3 10).bind fun bt1070 => ((u128_Of.f 1).bind fun bt1075 => ((u128_Over.f bt1075.1 bt1075.2 0).bind fun bt1077 => (if (t1050 == 1 && (t1051 == 0)) = true then (if t1052 = 0 then (if bt1058.2.2 = 10 then (if bt1066.2.2 = 10 then ((u128_Of.f 1844674407370955161).bind fun bt1082 => (if (bt1070.1 == bt1082.1 && (bt1070.2.1 == bt1082.2)) = true then (if bt1070.2.2.1 = 9 then (if bt1070.2.2.2 = 0 then (if bt1077.2.2.2 = 2 then ((u128_Bytes.f 1 258).bind fun t1084 => (some (t1084.toList == ([0, 0, 0, 0, 0, 0, 0, 1, 0, 0, 0, 0, 0, 0, 1, 2] : List UInt8)))) else (none)) else (none)) else (none)) else (none))) else (none)) else (none)) else (none)) else (none))))))))) = some r := H
  have A4 := Aside0.mk A40
  clear A40
  replace H := Option.bind_eq_some_iff.mp H
  obtain ⟨⟨t1058, t1059, t1060⟩, A50, H⟩ := H
  replace H : ((u128_Of.f 1).bind fun bt1062 => ((u128_Of.f 2).bind fun bt1064 => ((u128_Sub.f bt1062.1 bt1062.2 bt1064.1 bt1064.2).bind fun bt1066 => ((u128_Over.f 1 3 10).bind fun bt1070 => ((u128_Of.f 1).bind fun bt1075 => ((u128_Over.f bt1075.1 bt1075.2 0).bind fun bt1077 => (if (t1050 == 1 && (t1051 == 0)) = true then (if t1052 = 0 then (if t1060 = 10 then (if bt1066.2.2 = 10 then ((u128_Of.f 1844674407370955161).bind fun bt1082 => (if (bt1070.1 == bt1082.1 && (bt1070.2.1 == bt1082.2)) = true then (if bt1070.2.2.1 = 9 then (if bt1070.2.2.2 = 0 then (if bt1077.2.2.2 = 2 then ((u128_Bytes.f 1 258).bind fun t1084 => (some (t1084.toList == ([0, 0, 0, 0, 0, 0, 0, 1, 0, 0, 0, 0, 0, 0, 1, 2] : List UInt8)))) else (none)) else (none)) else (none)) else (none))) else (none)) else (none)) else (none)) else (none)))))))) = some r := H
  have A5 := Aside0.mk A50
  clear A50
  replace H := Option.bind_eq_some_iff.mp H
  obtain ⟨⟨t1062, t1063⟩, A60, H⟩ := H
  replace H : ((u128_Of.f 2).bind fun bt1064 => ((u128_Sub.f t1062 t1063 bt1064.1 bt1064.2).bind fun bt1066 => ((u128_Over.f 1 3 10).bind fun bt1070 => ((u128_Of.f 1).bind fun bt1075 => ((u128_Over.f bt1075.1 bt1075.2 0).bind fun bt1077 => (if (t1050 == 1 && (t1051 == 0)) = true then (if t1052 = 0 then (if t1060 = 10 then (if bt1066.2.2 = 10 then ((u128_Of.f 1844674407370955161).bind fun bt1082 => (if (bt1070.1 == bt1082.1 && (bt1070.2.1 == bt1082.2)) = true then (if bt1070.2.2.1 = 9 then (if bt1070.2.2.2 = 0 then (if bt1077.2.2.2 = 2 then ((u128_Bytes.f 1 258).bind fun t1084 => (some (t1084.toList == ([0, 0, 0, 0, 0, 0, 0, 1, 0, 0, 0, 0, 0, 0, 1, 2] : List UInt8)))) else (none)) else (none)) else (none)) else (none))) else (none)) else (none)) else (none)) else (none))))))) = some r := H
  have A6 := Aside0.mk A60
  clear A60
  replace H := Option.bind_eq_some_iff.mp H
  obtain ⟨⟨t1064, t1065⟩, A70, H⟩ := H
  replace H : ((u128_Sub.f t1062 t1063 t1064 t1065).bind fun bt1066 => ((u128_Over.f 1 3 10).bind fun bt1070 => ((u128_Of.f 1).bind fun bt1075 => ((u128_Over.f bt1075.1 bt1075.2 0).bind fun bt1077 => (if (t1050 == 1 && (t1051 == 0)) = true then (if t1052 = 0 then (if t1060 = 10 then (if bt1066.2.2 = 10 then ((u128_Of.f 1844674407370955161).bind fun bt1082 => (if (bt1070.1 == bt1082.1 && (bt1070.2.1 == bt1082.2)) = true then (if bt1070.2.2.1 = 9 then (if bt1070.2.2.2 = 0 then (if bt1077.2.2.2 = 2 then ((u128_Bytes.f 1 258).bind fun t1084 => (some (t1084.toList == ([0, 0, 0, 0, 0, 0, 0, 1, 0, 0, 0, 0, 0, 0, 1, 2] : List UInt8)))) else (none)) else (none)) else (none)) else (none))) else (none)) else (none)) else (none)) else (none)))))) = some r := H
  have A7 := Aside0.mk A70
  clear A70
  replace H := Option.bind_eq_some_iff.mp H
  obtain ⟨⟨t1066, t1067, t1068⟩, A80, H⟩ := H
  replace H : ((u128_Over.f 1 3 10).bind fun bt1070 => ((u128_Of.f 1).bind fun bt1075 => ((u128_Over.f bt1075.1 bt1075.2 0).bind fun bt1077 => (if (t1050 == 1 && (t1051 == 0)) = true then (if t1052 = 0 then (if t1060 = 10 then (if t1068 = 10 then ((u128_Of.f 1844674407370955161).bind fun bt1082 => (if (bt1070.1 == bt1082.1 && (bt1070.2.1 == bt1082.2)) = true then (if bt1070.2.2.1 = 9 then (if bt1070.2.2.2 = 0 then (if bt1077.2.2.2 = 2 then ((u128_Bytes.f 1 258).bind fun t1084 => (some (t1084.toList == ([0, 0, 0, 0, 0, 0, 0, 1, 0, 0, 0, 0, 0, 0, 1, 2] : List UInt8)))) else (none)) else (none)) else (none)) else (none))) else (none)) else (none)) else (none)) else (none))))) = some r := H
  have A8 := Aside0.mk A80
  clear A80
  replace H := Option.bind_eq_some_iff.mp H
  obtain ⟨⟨t1070, t1071, t1072, t1073⟩, A90, H⟩ := H
  replace H : ((u128_Of.f 1).bind fun bt1075 => ((u128_Over.f bt1075.1 bt1075.2 0).bind fun bt1077 => (if (t1050 == 1 && (t1051 == 0)) = true then (if t1052 = 0 then (if t1060 = 10 then (if t1068 = 10 then ((u128_Of.f 1844674407370955161).bind fun bt1082 => (if (t1070 == bt1082.1 && (t1071 == bt1082.2)) = true then (if t1072 = 9 then (if t1073 = 0 then (if bt1077.2.2.2 = 2 then ((u128_Bytes.f 1 258).bind fun t1084 => (some (t1084.toList == ([0, 0, 0, 0, 0, 0, 0, 1, 0, 0, 0, 0, 0, 0, 1, 2] : List UInt8)))) else (none)) else (none)) else (none)) else (none))) else (none)) else (none)) else (none)) else (none)))) = some r := H
  have A9 := Aside0.mk A90
  clear A90
  replace H := Option.bind_eq_some_iff.mp H
  obtain ⟨⟨t1075, t1076⟩, A100, H⟩ := H
  replace H : ((u128_Over.f t1075 t1076 0).bind fun bt1077 => (if (t1050 == 1 && (t1051 == 0)) = true then (if t1052 = 0 then (if t1060 = 10 then (if t1068 = 10 then ((u128_Of.f 1844674407370955161).bind fun bt1082 => (if (t1070 == bt1082.1 && (t1071 == bt1082.2)) = true then (if t1072 = 9 then (if t1073 = 0 then (if bt1077.2.2.2 = 2 then ((u128_Bytes.f 1 258).bind fun t1084 => (some (t1084.toList == ([0, 0, 0, 0, 0, 0, 0, 1, 0, 0, 0, 0, 0, 0, 1, 2] : List UInt8)))) else (none)) else (none)) else (none)) else (none))) else (none)) else (none)) else (none)) else (none))) = some r := H
  have A10 := Aside0.mk A100
  clear A100
  replace H := Option.bind_eq_some_iff.mp H
  obtain ⟨⟨t1077, t1078, t1079, t1080⟩, A110, H⟩ := H
  replace H : (if (t1050 == 1 && (t1051 == 0)) = true then (if t1052 = 0 then (if t1060 = 10 then (if t1068 = 10 then ((u128_Of.f 1844674407370955161).bind fun bt1082 => (if (t1070 == bt1082.1 && (t1071 == bt1082.2)) = true then (if t1072 = 9 then (if t1073 = 0 then (if t1080 = 2 then ((u128_Bytes.f 1 258).bind fun t1084 => (some (t1084.toList == ([0, 0, 0, 0, 0, 0, 0, 1, 0, 0, 0, 0, 0, 0, 1, 2] : List UInt8)))) else (none)) else (none)) else (none)) else (none))) else (none)) else (none)) else (none)) else (none)) = some r := H
  have A11 := Aside0.mk A110
  clear A110
  by_cases c12 : (t1050 == 1 && (t1051 == 0)) = true
  · rw [if_pos c12] at H
    have c12b0 : (t1050 == 1 && (t1051 == 0)) = true := c12
    (try (have c12b1 : decide (t1050 = 1 && (t1051 == 0)) = true := by simpa using c12))
    (try (have c12b2 : (t1050 == 1 && (t1051 == 0)) = true := by simpa using c12))
    clear c12
    by_cases c13 : t1052 = 0
    · rw [if_pos c13] at H
      have c13b0 : (t1052 == 0) = true := beq_iff_eq.mpr c13
      have c13b1 : (t1052 != 0) = false := bne_eq_false_iff_eq.mpr c13
      clear c13
      by_cases c14 : t1060 = 10
      · rw [if_pos c14] at H
        have c14b0 : (t1060 == 10) = true := beq_iff_eq.mpr c14
        have c14b1 : (t1060 != 10) = false := bne_eq_false_iff_eq.mpr c14
        clear c14
        by_cases c15 : t1068 = 10
        · rw [if_pos c15] at H
          have c15b0 : (t1068 == 10) = true := beq_iff_eq.mpr c15
          have c15b1 : (t1068 != 10) = false := bne_eq_false_iff_eq.mpr c15
          clear c15
          replace H := Option.bind_eq_some_iff.mp H
          obtain ⟨⟨t1082, t1083⟩, A160, H⟩ := H
          replace H : (if (t1070 == t1082 && (t1071 == t1083)) = true then (if t1072 = 9 then (if t1073 = 0 then (if t1080 = 2 then ((u128_Bytes.f 1 258).bind fun t1084 => (some (t1084.toList == ([0, 0, 0, 0, 0, 0, 0, 1, 0, 0, 0, 0, 0, 0, 1, 2] : List UInt8)))) else (none)) else (none)) else (none)) else (none)) = some r := H
          have A16 := Aside0.mk A160
          clear A160
          by_cases c17 : (t1070 == t1082 && (t1071 == t1083)) = true
          · rw [if_pos c17] at H
            have c17b0 : (t1070 == t1082 && (t1071 == t1083)) = true := c17
            (try (have c17b1 : decide (t1070 = t1082 && (t1071 == t1083)) = true := by simpa using c17))
            (try (have c17b2 : (t1070 == t1082 && (t1071 == t1083)) = true := by simpa using c17))
            clear c17
            by_cases c18 : t1072 = 9
            · rw [if_pos c18] at H
              have c18b0 : (t1072 == 9) = true := beq_iff_eq.mpr c18
              have c18b1 : (t1072 != 9) = false := bne_eq_false_iff_eq.mpr c18
              clear c18
              by_cases c19 : t1073 = 0
              · rw [if_pos c19] at H
                have c19b0 : (t1073 == 0) = true := beq_iff_eq.mpr c19
                have c19b1 : (t1073 != 0) = false := bne_eq_false_iff_eq.mpr c19
                clear c19
                by_cases c20 : t1080 = 2
                · rw [if_pos c20] at H
                  have c20b0 : (t1080 == 2) = true := beq_iff_eq.mpr c20
                  have c20b1 : (t1080 != 2) = false := bne_eq_false_iff_eq.mpr c20
                  clear c20
                  replace H := Option.bind_eq_some_iff.mp H
                  obtain ⟨t1084, A210, H⟩ := H
                  replace H : (some (t1084.toList == ([0, 0, 0, 0, 0, 0, 0, 1, 0, 0, 0, 0, 0, 0, 1, 2] : List UInt8))) = some r := H
                  have A21 := Aside0.mk A210
                  clear A210
                  obtain rfl := Option.some.inj H
                  go_enter Try.func66, Try.ntmps66
                  try go_wp2_with (first | ((with_reducible refine gate_callee (f := 51) rfl ?_); refine goesL_ (some 15) rfl rfl Try.func51 (by kernel_rfl) rfl #[.int .u64 1] rfl (by (try simp only [List.map_toArray, List.map_cons, List.map_nil]); first | done | rfl | (simp only [List.length_drop, List.length_take]; rfl)) ?_; (with_reducible refine (u128_Of.calls 1 t1048 t1049 _ A1.out).mono ?_); rintro e w22 ⟨rfl, hb⟩; refine ⟨_, rfl, ?_⟩; have n0_ := Aside0.mk (below_step (by repeat (first | (with_reducible first | exact HB.out | apply below_alloc | apply pw_below_drewN | apply below_drew1) | exact HB.out)) hb); clear HB; have HB := n0_; clear n0_; (try clear hb); (try clear hb2); (try clear hk); (try clear hi)) | ((with_reducible refine gate_callee (f := 45) rfl ?_); refine goesL_ (some 16) rfl rfl Try.func45 (by kernel_rfl) rfl #[.agg #[.int .u64 0, .int .u64 18446744073709551615], .agg #[.int .u64 t1048, .int .u64 t1049]] rfl (by (try simp only [List.map_toArray, List.map_cons, List.map_nil]); first | done | rfl | (simp only [List.length_drop, List.length_take]; rfl)) ?_; (with_reducible refine (u128_Add.calls 0 18446744073709551615 t1048 t1049 t1050 t1051 t1052 _ A2.out).mono ?_); rintro e w23 ⟨rfl, hb⟩; refine ⟨_, rfl, ?_⟩; have n0_ := Aside0.mk (below_step (by repeat (first | (with_reducible first | exact HB.out | apply below_alloc | apply pw_below_drewN | apply below_drew1) | exact HB.out)) hb); clear HB; have HB := n0_; clear n0_; (try clear hb); (try clear hb2); (try clear hk); (try clear hi)) | ((with_reducible refine gate_dst (N := 1) rfl ?_); refine box_event ?hg (N := 1) ?hd (cs := #[.int .u64 0, .int .u64 0]) (t := 25) ?hr ?_; (case hd => rfl); (case hg => rfl); (case hr => first | (go_simp; done) | (go_simp; rfl)); intro gb1053 hg w24 hbox hb; have n0_ := Aside0.mk (below_step (by repeat (first | (with_reducible first | exact HB.out | apply below_alloc | apply pw_below_drewN | apply below_drew1) | exact HB.out)) hb); have n1_ := Aside0.mk (hbox); have n2_ := Aside0.mk ((by rw [hg]; exact (below_size (by repeat (first | (with_reducible first | exact HB.out | apply below_alloc | apply pw_below_drewN | apply below_drew1) | exact HB.out))) : w.heap.size ≤ gb1053)); have n3_ := Aside0.mk ((by rw [hg]; exact (below_size (by repeat (first | (with_reducible first | exact HB.out | apply below_alloc | apply pw_below_drewN | apply below_drew1) | exact HB.out))) : w.heap.size ≤ gb1053)); clear HB; have HB := n0_; have BK1053 := n1_; have GW1053 := n2_; have GE1053 := n3_; clear n0_ n1_ n2_ n3_; clear hb hbox hg; have hcz25_0 : w24.cell? ⟨gb1053, 0, none⟩ = some (.int .u64 0) := (blk_cell BK1053.out 0).trans rfl; have hcz25_1 : w24.cell? ⟨gb1053, 1, none⟩ = some (.int .u64 0) := (blk_cell BK1053.out 1).trans rfl; have hfz25_0 := blk_frozen BK1053.out 0; have hfz25_1 := blk_frozen BK1053.out 1) | ((with_reducible refine gate_callee (f := 53) rfl ?_); refine goesL_ (some 20) rfl rfl Try.func53 (by kernel_rfl) rfl #[] rfl (by (try simp only [List.map_toArray, List.map_cons, List.map_nil]); first | done | rfl | (simp only [List.length_drop, List.length_take]; rfl)) ?_; (with_reducible refine (u128_Most.calls  t1054 t1055 _ A3.out).mono ?_); rintro e w26 ⟨rfl, hb⟩; refine ⟨_, rfl, ?_⟩; have n0_ := Aside0.mk (blk_below (g := gb1053) (o := .cells #[.int .u64 t1050, .int .u64 t1051] 25 (0, 0)) (by (with_reducible repeat (first | refine blk_drewN ?_ _ | refine blk_drew ?_ | refine blk_alloc ?_ _)); refine blk_put (cs := #[.int .u64 t1050, .int .u64 0]) ?_ 1 _ rfl; (with_reducible repeat (first | refine blk_drewN ?_ _ | refine blk_drew ?_ | refine blk_alloc ?_ _)); refine blk_put (cs := #[.int .u64 0, .int .u64 0]) ?_ 0 _ rfl; (with_reducible repeat (first | refine blk_drewN ?_ _ | refine blk_drew ?_ | refine blk_alloc ?_ _)); exact BK1053.out) hb); have n1_ := Aside0.mk (below_step (by repeat (first | (with_reducible first | exact HB.out | apply below_alloc | apply pw_below_drewN | apply below_drew1 | refine below_set ?_ GE1053.out) | exact HB.out)) hb); clear BK1053; clear HB; have BK1053 := n0_; have HB := n1_; clear n0_ n1_; (try clear hb); (try clear hb2); (try clear hk); (try clear hi)) | ((with_reducible refine gate_callee (f := 51) rfl ?_); refine goesL_ (some 21) rfl rfl Try.func51 (by kernel_rfl) rfl #[.int .u64 1] rfl (by (try simp only [List.map_toArray, List.map_cons, List.map_nil]); first | done | rfl | (simp only [List.length_drop, List.length_take]; rfl)) ?_; (with_reducible refine (u128_Of.calls 1 t1056 t1057 _ A4.out).mono ?_); rintro e w27 ⟨rfl, hb⟩; refine ⟨_, rfl, ?_⟩; have n0_ := Aside0.mk (blk_below (g := gb1053) (o := .cells #[.int .u64 t1050, .int .u64 t1051] 25 (0, 0)) (by (with_reducible repeat (first | refine blk_drewN ?_ _ | refine blk_drew ?_ | refine blk_alloc ?_ _)); exact BK1053.out) hb); have n1_ := Aside0.mk (below_step (by repeat (first | (with_reducible first | exact HB.out | apply below_alloc | apply pw_below_drewN | apply below_drew1 | refine below_set ?_ GE1053.out) | exact HB.out)) hb); clear BK1053; clear HB; have BK1053 := n0_; have HB := n1_; clear n0_ n1_; (try clear hb); (try clear hb2); (try clear hk); (try clear hi)) | ((with_reducible refine gate_callee (f := 45) rfl ?_); refine goesL_ (some 22) rfl rfl Try.func45 (by kernel_rfl) rfl #[.agg #[.int .u64 t1054, .int .u64 t1055], .agg #[.int .u64 t1056, .int .u64 t1057]] rfl (by (try simp only [List.map_toArray, List.map_cons, List.map_nil]); first | done | rfl | (simp only [List.length_drop, List.length_take]; rfl)) ?_; (with_reducible refine (u128_Add.calls t1054 t1055 t1056 t1057 t1058 t1059 t1060 _ A5.out).mono ?_); rintro e w28 ⟨rfl, hb⟩; refine ⟨_, rfl, ?_⟩; have n0_ := Aside0.mk (blk_below (g := gb1053) (o := .cells #[.int .u64 t1050, .int .u64 t1051] 25 (0, 0)) (by (with_reducible repeat (first | refine blk_drewN ?_ _ | refine blk_drew ?_ | refine blk_alloc ?_ _)); exact BK1053.out) hb); have n1_ := Aside0.mk (below_step (by repeat (first | (with_reducible first | exact HB.out | apply below_alloc | apply pw_below_drewN | apply below_drew1 | refine below_set ?_ GE1053.out) | exact HB.out)) hb); clear BK1053; clear HB; have BK1053 := n0_; have HB := n1_; clear n0_ n1_; (try clear hb); (try clear hb2); (try clear hk); (try clear hi)) | ((with_reducible refine gate_dst (N := 3) rfl ?_); refine box_event ?hg (N := 3) ?hd (cs := #[.int .u64 0, .int .u64 0]) (t := 25) ?hr ?_; (case hd => rfl); (case hg => rfl); (case hr => first | (go_simp; done) | (go_simp; rfl)); intro gb1061 hg w29 hbox hb; have n0_ := Aside0.mk (blk_below (g := gb1053) (o := .cells #[.int .u64 t1050, .int .u64 t1051] 25 (0, 0)) (by (with_reducible repeat (first | refine blk_drewN ?_ _ | refine blk_drew ?_ | refine blk_alloc ?_ _)); exact BK1053.out) hb); have n1_ := Aside0.mk (below_step (by repeat (first | (with_reducible first | exact HB.out | apply below_alloc | apply pw_below_drewN | apply below_drew1 | refine below_set ?_ GE1053.out) | exact HB.out)) hb); have n2_ := Aside0.mk (hbox); have n3_ := Aside0.mk ((by rw [hg]; exact (below_size (by repeat (first | (with_reducible first | exact HB.out | apply below_alloc | apply pw_below_drewN | apply below_drew1 | refine below_set ?_ GE1053.out) | exact HB.out))) : w.heap.size ≤ gb1061)); have n4_ := Aside0.mk ((by rw [hg]; exact (below_size (by repeat (first | (with_reducible first | exact HB.out | apply below_alloc | apply pw_below_drewN | apply below_drew1 | refine below_set ?_ GE1053.out) | exact HB.out))) : w.heap.size ≤ gb1061)); have n5_ := Aside0.mk ((by rw [hg]; exact Nat.ne_of_lt (blk_lt (g := gb1053) (o := .cells #[.int .u64 t1050, .int .u64 t1051] 25 (0, 0)) (by (with_reducible repeat (first | refine blk_drewN ?_ _ | refine blk_drew ?_ | refine blk_alloc ?_ _)); exact BK1053.out)) : gb1053 ≠ gb1061)); have n6_ := Aside0.mk ((by rw [hg]; exact Nat.ne_of_gt (blk_lt (g := gb1053) (o := .cells #[.int .u64 t1050, .int .u64 t1051] 25 (0, 0)) (by (with_reducible repeat (first | refine blk_drewN ?_ _ | refine blk_drew ?_ | refine blk_alloc ?_ _)); exact BK1053.out)) : gb1061 ≠ gb1053)); clear BK1053; clear HB; have BK1053 := n0_; have HB := n1_; have BK1061 := n2_; have GW1061 := n3_; have GE1061 := n4_; have NB1053_1061 := n5_; have NB1061_1053 := n6_; clear n0_ n1_ n2_ n3_ n4_ n5_ n6_; clear hb hbox hg; have hnb30 := NB1061_1053.out; have hnc30 := NB1053_1061.out; have hcz31_0 : w29.cell? ⟨gb1061, 0, none⟩ = some (.int .u64 0) := (blk_cell BK1061.out 0).trans rfl; have hcz31_1 : w29.cell? ⟨gb1061, 1, none⟩ = some (.int .u64 0) := (blk_cell BK1061.out 1).trans rfl; have hfz31_0 := blk_frozen BK1061.out 0; have hfz31_1 := blk_frozen BK1061.out 1) | ((with_reducible refine gate_callee (f := 51) rfl ?_); refine goesL_ (some 26) rfl rfl Try.func51 (by kernel_rfl) rfl #[.int .u64 1] rfl (by (try simp only [List.map_toArray, List.map_cons, List.map_nil]); first | done | rfl | (simp only [List.length_drop, List.length_take]; rfl)) ?_; (with_reducible refine (u128_Of.calls 1 t1062 t1063 _ A6.out).mono ?_); rintro e w32 ⟨rfl, hb⟩; refine ⟨_, rfl, ?_⟩; have n0_ := Aside0.mk (blk_below (g := gb1053) (o := .cells #[.int .u64 t1050, .int .u64 t1051] 25 (0, 0)) (by (with_reducible repeat (first | refine blk_drewN ?_ _ | refine blk_drew ?_ | refine blk_alloc ?_ _)); refine blk_far ?_ NB1053_1061.out _; (with_reducible repeat (first | refine blk_drewN ?_ _ | refine blk_drew ?_ | refine blk_alloc ?_ _)); refine blk_far ?_ NB1053_1061.out _; (with_reducible repeat (first | refine blk_drewN ?_ _ | refine blk_drew ?_ | refine blk_alloc ?_ _)); exact BK1053.out) hb); have n1_ := Aside0.mk (blk_below (g := gb1061) (o := .cells #[.int .u64 t1058, .int .u64 t1059] 25 (0, 0)) (by (with_reducible repeat (first | refine blk_drewN ?_ _ | refine blk_drew ?_ | refine blk_alloc ?_ _)); refine blk_put (cs := #[.int .u64 t1058, .int .u64 0]) ?_ 1 _ rfl; (with_reducible repeat (first | refine blk_drewN ?_ _ | refine blk_drew ?_ | refine blk_alloc ?_ _)); refine blk_put (cs := #[.int .u64 0, .int .u64 0]) ?_ 0 _ rfl; (with_reducible repeat (first | refine blk_drewN ?_ _ | refine blk_drew ?_ | refine blk_alloc ?_ _)); exact BK1061.out) hb); have n2_ := Aside0.mk (below_step (by repeat (first | (with_reducible first | exact HB.out | apply below_alloc | apply pw_below_drewN | apply below_drew1 | refine below_set ?_ GE1053.out | refine below_set ?_ GE1061.out) | exact HB.out)) hb); clear BK1053; clear BK1061; clear HB; have BK1053 := n0_; have BK1061 := n1_; have HB := n2_; clear n0_ n1_ n2_; (try clear hb); (try clear hb2); (try clear hk); (try clear hi)) | ((with_reducible refine gate_callee (f := 51) rfl ?_); refine goesL_ (some 27) rfl rfl Try.func51 (by kernel_rfl) rfl #[.int .u64 2] rfl (by (try simp only [List.map_toArray, List.map_cons, List.map_nil]); first | done | rfl | (simp only [List.length_drop, List.length_take]; rfl)) ?_; (with_reducible refine (u128_Of.calls 2 t1064 t1065 _ A7.out).mono ?_); rintro e w33 ⟨rfl, hb⟩; refine ⟨_, rfl, ?_⟩; have n0_ := Aside0.mk (blk_below (g := gb1053) (o := .cells #[.int .u64 t1050, .int .u64 t1051] 25 (0, 0)) (by (with_reducible repeat (first | refine blk_drewN ?_ _ | refine blk_drew ?_ | refine blk_alloc ?_ _)); exact BK1053.out) hb); have n1_ := Aside0.mk (blk_below (g := gb1061) (o := .cells #[.int .u64 t1058, .int .u64 t1059] 25 (0, 0)) (by (with_reducible repeat (first | refine blk_drewN ?_ _ | refine blk_drew ?_ | refine blk_alloc ?_ _)); exact BK1061.out) hb); have n2_ := Aside0.mk (below_step (by repeat (first | (with_reducible first | exact HB.out | apply below_alloc | apply pw_below_drewN | apply below_drew1 | refine below_set ?_ GE1053.out | refine below_set ?_ GE1061.out) | exact HB.out)) hb); clear BK1053; clear BK1061; clear HB; have BK1053 := n0_; have BK1061 := n1_; have HB := n2_; clear n0_ n1_ n2_; (try clear hb); (try clear hb2); (try clear hk); (try clear hi)) | ((with_reducible refine gate_callee (f := 47) rfl ?_); refine goesL_ (some 28) rfl rfl Try.func47 (by kernel_rfl) rfl #[.agg #[.int .u64 t1062, .int .u64 t1063], .agg #[.int .u64 t1064, .int .u64 t1065]] rfl (by (try simp only [List.map_toArray, List.map_cons, List.map_nil]); first | done | rfl | (simp only [List.length_drop, List.length_take]; rfl)) ?_; (with_reducible refine (u128_Sub.calls t1062 t1063 t1064 t1065 t1066 t1067 t1068 _ A8.out).mono ?_); rintro e w34 ⟨rfl, hb⟩; refine ⟨_, rfl, ?_⟩; have n0_ := Aside0.mk (blk_below (g := gb1053) (o := .cells #[.int .u64 t1050, .int .u64 t1051] 25 (0, 0)) (by (with_reducible repeat (first | refine blk_drewN ?_ _ | refine blk_drew ?_ | refine blk_alloc ?_ _)); exact BK1053.out) hb); have n1_ := Aside0.mk (blk_below (g := gb1061) (o := .cells #[.int .u64 t1058, .int .u64 t1059] 25 (0, 0)) (by (with_reducible repeat (first | refine blk_drewN ?_ _ | refine blk_drew ?_ | refine blk_alloc ?_ _)); exact BK1061.out) hb); have n2_ := Aside0.mk (below_step (by repeat (first | (with_reducible first | exact HB.out | apply below_alloc | apply pw_below_drewN | apply below_drew1 | refine below_set ?_ GE1053.out | refine below_set ?_ GE1061.out) | exact HB.out)) hb); clear BK1053; clear BK1061; clear HB; have BK1053 := n0_; have BK1061 := n1_; have HB := n2_; clear n0_ n1_ n2_; (try clear hb); (try clear hb2); (try clear hk); (try clear hi)) | ((with_reducible refine gate_dst (N := 5) rfl ?_); refine box_event ?hg (N := 5) ?hd (cs := #[.int .u64 0, .int .u64 0]) (t := 25) ?hr ?_; (case hd => rfl); (case hg => rfl); (case hr => first | (go_simp; done) | (go_simp; rfl)); intro gb1069 hg w35 hbox hb; have n0_ := Aside0.mk (blk_below (g := gb1053) (o := .cells #[.int .u64 t1050, .int .u64 t1051] 25 (0, 0)) (by (with_reducible repeat (first | refine blk_drewN ?_ _ | refine blk_drew ?_ | refine blk_alloc ?_ _)); exact BK1053.out) hb); have n1_ := Aside0.mk (blk_below (g := gb1061) (o := .cells #[.int .u64 t1058, .int .u64 t1059] 25 (0, 0)) (by (with_reducible repeat (first | refine blk_drewN ?_ _ | refine blk_drew ?_ | refine blk_alloc ?_ _)); exact BK1061.out) hb); have n2_ := Aside0.mk (below_step (by repeat (first | (with_reducible first | exact HB.out | apply below_alloc | apply pw_below_drewN | apply below_drew1 | refine below_set ?_ GE1053.out | refine below_set ?_ GE1061.out) | exact HB.out)) hb); have n3_ := Aside0.mk (hbox); have n4_ := Aside0.mk ((by rw [hg]; exact (below_size (by repeat (first | (with_reducible first | exact HB.out | apply below_alloc | apply pw_below_drewN | apply below_drew1 | refine below_set ?_ GE1053.out | refine below_set ?_ GE1061.out) | exact HB.out))) : w.heap.size ≤ gb1069)); have n5_ := Aside0.mk ((by rw [hg]; exact (below_size (by repeat (first | (with_reducible first | exact HB.out | apply below_alloc | apply pw_below_drewN | apply below_drew1 | refine below_set ?_ GE1053.out | refine below_set ?_ GE1061.out) | exact HB.out))) : w.heap.size ≤ gb1069)); have n6_ := Aside0.mk ((by rw [hg]; exact Nat.ne_of_lt (blk_lt (g := gb1053) (o := .cells #[.int .u64 t1050, .int .u64 t1051] 25 (0, 0)) (by (with_reducible repeat (first | refine blk_drewN ?_ _ | refine blk_drew ?_ | refine blk_alloc ?_ _)); exact BK1053.out)) : gb1053 ≠ gb1069)); have n7_ := Aside0.mk ((by rw [hg]; exact Nat.ne_of_gt (blk_lt (g := gb1053) (o := .cells #[.int .u64 t1050, .int .u64 t1051] 25 (0, 0)) (by (with_reducible repeat (first | refine blk_drewN ?_ _ | refine blk_drew ?_ | refine blk_alloc ?_ _)); exact BK1053.out)) : gb1069 ≠ gb1053)); have n8_ := Aside0.mk ((by rw [hg]; exact Nat.ne_of_lt (blk_lt (g := gb1061) (o := .cells #[.int .u64 t1058, .int .u64 t1059] 25 (0, 0)) (by (with_reducible repeat (first | refine blk_drewN ?_ _ | refine blk_drew ?_ | refine blk_alloc ?_ _)); exact BK1061.out)) : gb1061 ≠ gb1069)); have n9_ := Aside0.mk ((by rw [hg]; exact Nat.ne_of_gt (blk_lt (g := gb1061) (o := .cells #[.int .u64 t1058, .int .u64 t1059] 25 (0, 0)) (by (with_reducible repeat (first | refine blk_drewN ?_ _ | refine blk_drew ?_ | refine blk_alloc ?_ _)); exact BK1061.out)) : gb1069 ≠ gb1061)); clear BK1053; clear BK1061; clear HB; have BK1053 := n0_; have BK1061 := n1_; have HB := n2_; have BK1069 := n3_; have GW1069 := n4_; have GE1069 := n5_; have NB1053_1069 := n6_; have NB1069_1053 := n7_; have NB1061_1069 := n8_; have NB1069_1061 := n9_; clear n0_ n1_ n2_ n3_ n4_ n5_ n6_ n7_ n8_ n9_; clear hb hbox hg; have hnb36 := NB1069_1053.out; have hnc36 := NB1053_1069.out; have hnb37 := NB1069_1061.out; have hnc37 := NB1061_1069.out; have hcz38_0 : w35.cell? ⟨gb1069, 0, none⟩ = some (.int .u64 0) := (blk_cell BK1069.out 0).trans rfl; have hcz38_1 : w35.cell? ⟨gb1069, 1, none⟩ = some (.int .u64 0) := (blk_cell BK1069.out 1).trans rfl; have hfz38_0 := blk_frozen BK1069.out 0; have hfz38_1 := blk_frozen BK1069.out 1) | ((with_reducible refine gate_callee (f := 58) rfl ?_); refine goesL_ (some 33) rfl rfl Try.func58 (by kernel_rfl) rfl #[.agg #[.int .u64 1, .int .u64 3], .int .u64 10] rfl (by (try simp only [List.map_toArray, List.map_cons, List.map_nil]); first | done | rfl | (simp only [List.length_drop, List.length_take]; rfl)) ?_; (with_reducible refine (u128_Over.calls 1 3 10 t1070 t1071 t1072 t1073 _ A9.out).mono ?_); rintro e w39 ⟨rfl, hb⟩; refine ⟨_, rfl, ?_⟩; have n0_ := Aside0.mk (blk_below (g := gb1053) (o := .cells #[.int .u64 t1050, .int .u64 t1051] 25 (0, 0)) (by (with_reducible repeat (first | refine blk_drewN ?_ _ | refine blk_drew ?_ | refine blk_alloc ?_ _)); refine blk_far ?_ NB1053_1069.out _; (with_reducible repeat (first | refine blk_drewN ?_ _ | refine blk_drew ?_ | refine blk_alloc ?_ _)); refine blk_far ?_ NB1053_1069.out _; (with_reducible repeat (first | refine blk_drewN ?_ _ | refine blk_drew ?_ | refine blk_alloc ?_ _)); exact BK1053.out) hb); have n1_ := Aside0.mk (blk_below (g := gb1061) (o := .cells #[.int .u64 t1058, .int .u64 t1059] 25 (0, 0)) (by (with_reducible repeat (first | refine blk_drewN ?_ _ | refine blk_drew ?_ | refine blk_alloc ?_ _)); refine blk_far ?_ NB1061_1069.out _; (with_reducible repeat (first | refine blk_drewN ?_ _ | refine blk_drew ?_ | refine blk_alloc ?_ _)); refine blk_far ?_ NB1061_1069.out _; (with_reducible repeat (first | refine blk_drewN ?_ _ | refine blk_drew ?_ | refine blk_alloc ?_ _)); exact BK1061.out) hb); have n2_ := Aside0.mk (blk_below (g := gb1069) (o := .cells #[.int .u64 t1066, .int .u64 t1067] 25 (0, 0)) (by (with_reducible repeat (first | refine blk_drewN ?_ _ | refine blk_drew ?_ | refine blk_alloc ?_ _)); refine blk_put (cs := #[.int .u64 t1066, .int .u64 0]) ?_ 1 _ rfl; (with_reducible repeat (first | refine blk_drewN ?_ _ | refine blk_drew ?_ | refine blk_alloc ?_ _)); refine blk_put (cs := #[.int .u64 0, .int .u64 0]) ?_ 0 _ rfl; (with_reducible repeat (first | refine blk_drewN ?_ _ | refine blk_drew ?_ | refine blk_alloc ?_ _)); exact BK1069.out) hb); have n3_ := Aside0.mk (below_step (by repeat (first | (with_reducible first | exact HB.out | apply below_alloc | apply pw_below_drewN | apply below_drew1 | refine below_set ?_ GE1053.out | refine below_set ?_ GE1061.out | refine below_set ?_ GE1069.out) | exact HB.out)) hb); clear BK1053; clear BK1061; clear BK1069; clear HB; have BK1053 := n0_; have BK1061 := n1_; have BK1069 := n2_; have HB := n3_; clear n0_ n1_ n2_ n3_; (try clear hb); (try clear hb2); (try clear hk); (try clear hi)) | ((with_reducible refine gate_dst (N := 7) rfl ?_); refine box_event ?hg (N := 7) ?hd (cs := #[.int .u64 0, .int .u64 0]) (t := 25) ?hr ?_; (case hd => rfl); (case hg => rfl); (case hr => first | (go_simp; done) | (go_simp; rfl)); intro gb1074 hg w40 hbox hb; have n0_ := Aside0.mk (blk_below (g := gb1053) (o := .cells #[.int .u64 t1050, .int .u64 t1051] 25 (0, 0)) (by (with_reducible repeat (first | refine blk_drewN ?_ _ | refine blk_drew ?_ | refine blk_alloc ?_ _)); exact BK1053.out) hb); have n1_ := Aside0.mk (blk_below (g := gb1061) (o := .cells #[.int .u64 t1058, .int .u64 t1059] 25 (0, 0)) (by (with_reducible repeat (first | refine blk_drewN ?_ _ | refine blk_drew ?_ | refine blk_alloc ?_ _)); exact BK1061.out) hb); have n2_ := Aside0.mk (blk_below (g := gb1069) (o := .cells #[.int .u64 t1066, .int .u64 t1067] 25 (0, 0)) (by (with_reducible repeat (first | refine blk_drewN ?_ _ | refine blk_drew ?_ | refine blk_alloc ?_ _)); exact BK1069.out) hb); have n3_ := Aside0.mk (below_step (by repeat (first | (with_reducible first | exact HB.out | apply below_alloc | apply pw_below_drewN | apply below_drew1 | refine below_set ?_ GE1053.out | refine below_set ?_ GE1061.out | refine below_set ?_ GE1069.out) | exact HB.out)) hb); have n4_ := Aside0.mk (hbox); have n5_ := Aside0.mk ((by rw [hg]; exact (below_size (by repeat (first | (with_reducible first | exact HB.out | apply below_alloc | apply pw_below_drewN | apply below_drew1 | refine below_set ?_ GE1053.out | refine below_set ?_ GE1061.out | refine below_set ?_ GE1069.out) | exact HB.out))) : w.heap.size ≤ gb1074)); have n6_ := Aside0.mk ((by rw [hg]; exact (below_size (by repeat (first | (with_reducible first | exact HB.out | apply below_alloc | apply pw_below_drewN | apply below_drew1 | refine below_set ?_ GE1053.out | refine below_set ?_ GE1061.out | refine below_set ?_ GE1069.out) | exact HB.out))) : w.heap.size ≤ gb1074)); have n7_ := Aside0.mk ((by rw [hg]; exact Nat.ne_of_lt (blk_lt (g := gb1053) (o := .cells #[.int .u64 t1050, .int .u64 t1051] 25 (0, 0)) (by (with_reducible repeat (first | refine blk_drewN ?_ _ | refine blk_drew ?_ | refine blk_alloc ?_ _)); exact BK1053.out)) : gb1053 ≠ gb1074)); have n8_ := Aside0.mk ((by rw [hg]; exact Nat.ne_of_gt (blk_lt (g := gb1053) (o := .cells #[.int .u64 t1050, .int .u64 t1051] 25 (0, 0)) (by (with_reducible repeat (first | refine blk_drewN ?_ _ | refine blk_drew ?_ | refine blk_alloc ?_ _)); exact BK1053.out)) : gb1074 ≠ gb1053)); have n9_ := Aside0.mk ((by rw [hg]; exact Nat.ne_of_lt (blk_lt (g := gb1061) (o := .cells #[.int .u64 t1058, .int .u64 t1059] 25 (0, 0)) (by (with_reducible repeat (first | refine blk_drewN ?_ _ | refine blk_drew ?_ | refine blk_alloc ?_ _)); exact BK1061.out)) : gb1061 ≠ gb1074)); have n10_ := Aside0.mk ((by rw [hg]; exact Nat.ne_of_gt (blk_lt (g := gb1061) (o := .cells #[.int .u64 t1058, .int .u64 t1059] 25 (0, 0)) (by (with_reducible repeat (first | refine blk_drewN ?_ _ | refine blk_drew ?_ | refine blk_alloc ?_ _)); exact BK1061.out)) : gb1074 ≠ gb1061)); have n11_ := Aside0.mk ((by rw [hg]; exact Nat.ne_of_lt (blk_lt (g := gb1069) (o := .cells #[.int .u64 t1066, .int .u64 t1067] 25 (0, 0)) (by (with_reducible repeat (first | refine blk_drewN ?_ _ | refine blk_drew ?_ | refine blk_alloc ?_ _)); exact BK1069.out)) : gb1069 ≠ gb1074)); have n12_ := Aside0.mk ((by rw [hg]; exact Nat.ne_of_gt (blk_lt (g := gb1069) (o := .cells #[.int .u64 t1066, .int .u64 t1067] 25 (0, 0)) (by (with_reducible repeat (first | refine blk_drewN ?_ _ | refine blk_drew ?_ | refine blk_alloc ?_ _)); exact BK1069.out)) : gb1074 ≠ gb1069)); clear BK1053; clear BK1061; clear BK1069; clear HB; have BK1053 := n0_; have BK1061 := n1_; have BK1069 := n2_; have HB := n3_; have BK1074 := n4_; have GW1074 := n5_; have GE1074 := n6_; have NB1053_1074 := n7_; have NB1074_1053 := n8_; have NB1061_1074 := n9_; have NB1074_1061 := n10_; have NB1069_1074 := n11_; have NB1074_1069 := n12_; clear n0_ n1_ n2_ n3_ n4_ n5_ n6_ n7_ n8_ n9_ n10_ n11_ n12_; clear hb hbox hg; have hnb41 := NB1074_1053.out; have hnc41 := NB1053_1074.out; have hnb42 := NB1074_1061.out; have hnc42 := NB1061_1074.out; have hnb43 := NB1074_1069.out; have hnc43 := NB1069_1074.out; have hcz44_0 : w40.cell? ⟨gb1074, 0, none⟩ = some (.int .u64 0) := (blk_cell BK1074.out 0).trans rfl; have hcz44_1 : w40.cell? ⟨gb1074, 1, none⟩ = some (.int .u64 0) := (blk_cell BK1074.out 1).trans rfl; have hfz44_0 := blk_frozen BK1074.out 0; have hfz44_1 := blk_frozen BK1074.out 1) | ((with_reducible refine gate_callee (f := 51) rfl ?_); refine goesL_ (some 38) rfl rfl Try.func51 (by kernel_rfl) rfl #[.int .u64 1] rfl (by (try simp only [List.map_toArray, List.map_cons, List.map_nil]); first | done | rfl | (simp only [List.length_drop, List.length_take]; rfl)) ?_; (with_reducible refine (u128_Of.calls 1 t1075 t1076 _ A10.out).mono ?_); rintro e w45 ⟨rfl, hb⟩; refine ⟨_, rfl, ?_⟩; have n0_ := Aside0.mk (blk_below (g := gb1053) (o := .cells #[.int .u64 t1050, .int .u64 t1051] 25 (0, 0)) (by (with_reducible repeat (first | refine blk_drewN ?_ _ | refine blk_drew ?_ | refine blk_alloc ?_ _)); refine blk_far ?_ NB1053_1074.out _; (with_reducible repeat (first | refine blk_drewN ?_ _ | refine blk_drew ?_ | refine blk_alloc ?_ _)); refine blk_far ?_ NB1053_1074.out _; (with_reducible repeat (first | refine blk_drewN ?_ _ | refine blk_drew ?_ | refine blk_alloc ?_ _)); exact BK1053.out) hb); have n1_ := Aside0.mk (blk_below (g := gb1061) (o := .cells #[.int .u64 t1058, .int .u64 t1059] 25 (0, 0)) (by (with_reducible repeat (first | refine blk_drewN ?_ _ | refine blk_drew ?_ | refine blk_alloc ?_ _)); refine blk_far ?_ NB1061_1074.out _; (with_reducible repeat (first | refine blk_drewN ?_ _ | refine blk_drew ?_ | refine blk_alloc ?_ _)); refine blk_far ?_ NB1061_1074.out _; (with_reducible repeat (first | refine blk_drewN ?_ _ | refine blk_drew ?_ | refine blk_alloc ?_ _)); exact BK1061.out) hb); have n2_ := Aside0.mk (blk_below (g := gb1069) (o := .cells #[.int .u64 t1066, .int .u64 t1067] 25 (0, 0)) (by (with_reducible repeat (first | refine blk_drewN ?_ _ | refine blk_drew ?_ | refine blk_alloc ?_ _)); refine blk_far ?_ NB1069_1074.out _; (with_reducible repeat (first | refine blk_drewN ?_ _ | refine blk_drew ?_ | refine blk_alloc ?_ _)); refine blk_far ?_ NB1069_1074.out _; (with_reducible repeat (first | refine blk_drewN ?_ _ | refine blk_drew ?_ | refine blk_alloc ?_ _)); exact BK1069.out) hb); have n3_ := Aside0.mk (blk_below (g := gb1074) (o := .cells #[.int .u64 t1070, .int .u64 t1071] 25 (0, 0)) (by (with_reducible repeat (first | refine blk_drewN ?_ _ | refine blk_drew ?_ | refine blk_alloc ?_ _)); refine blk_put (cs := #[.int .u64 t1070, .int .u64 0]) ?_ 1 _ rfl; (with_reducible repeat (first | refine blk_drewN ?_ _ | refine blk_drew ?_ | refine blk_alloc ?_ _)); refine blk_put (cs := #[.int .u64 0, .int .u64 0]) ?_ 0 _ rfl; (with_reducible repeat (first | refine blk_drewN ?_ _ | refine blk_drew ?_ | refine blk_alloc ?_ _)); exact BK1074.out) hb); have n4_ := Aside0.mk (below_step (by repeat (first | (with_reducible first | exact HB.out | apply below_alloc | apply pw_below_drewN | apply below_drew1 | refine below_set ?_ GE1053.out | refine below_set ?_ GE1061.out | refine below_set ?_ GE1069.out | refine below_set ?_ GE1074.out) | exact HB.out)) hb); clear BK1053; clear BK1061; clear BK1069; clear BK1074; clear HB; have BK1053 := n0_; have BK1061 := n1_; have BK1069 := n2_; have BK1074 := n3_; have HB := n4_; clear n0_ n1_ n2_ n3_ n4_; (try clear hb); (try clear hb2); (try clear hk); (try clear hi)) | ((with_reducible refine gate_callee (f := 58) rfl ?_); refine goesL_ (some 39) rfl rfl Try.func58 (by kernel_rfl) rfl #[.agg #[.int .u64 t1075, .int .u64 t1076], .int .u64 0] rfl (by (try simp only [List.map_toArray, List.map_cons, List.map_nil]); first | done | rfl | (simp only [List.length_drop, List.length_take]; rfl)) ?_; (with_reducible refine (u128_Over.calls t1075 t1076 0 t1077 t1078 t1079 t1080 _ A11.out).mono ?_); rintro e w46 ⟨rfl, hb⟩; refine ⟨_, rfl, ?_⟩; have n0_ := Aside0.mk (blk_below (g := gb1053) (o := .cells #[.int .u64 t1050, .int .u64 t1051] 25 (0, 0)) (by (with_reducible repeat (first | refine blk_drewN ?_ _ | refine blk_drew ?_ | refine blk_alloc ?_ _)); exact BK1053.out) hb); have n1_ := Aside0.mk (blk_below (g := gb1061) (o := .cells #[.int .u64 t1058, .int .u64 t1059] 25 (0, 0)) (by (with_reducible repeat (first | refine blk_drewN ?_ _ | refine blk_drew ?_ | refine blk_alloc ?_ _)); exact BK1061.out) hb); have n2_ := Aside0.mk (blk_below (g := gb1069) (o := .cells #[.int .u64 t1066, .int .u64 t1067] 25 (0, 0)) (by (with_reducible repeat (first | refine blk_drewN ?_ _ | refine blk_drew ?_ | refine blk_alloc ?_ _)); exact BK1069.out) hb); have n3_ := Aside0.mk (blk_below (g := gb1074) (o := .cells #[.int .u64 t1070, .int .u64 t1071] 25 (0, 0)) (by (with_reducible repeat (first | refine blk_drewN ?_ _ | refine blk_drew ?_ | refine blk_alloc ?_ _)); exact BK1074.out) hb); have n4_ := Aside0.mk (below_step (by repeat (first | (with_reducible first | exact HB.out | apply below_alloc | apply pw_below_drewN | apply below_drew1 | refine below_set ?_ GE1053.out | refine below_set ?_ GE1061.out | refine below_set ?_ GE1069.out | refine below_set ?_ GE1074.out) | exact HB.out)) hb); clear BK1053; clear BK1061; clear BK1069; clear BK1074; clear HB; have BK1053 := n0_; have BK1061 := n1_; have BK1069 := n2_; have BK1074 := n3_; have HB := n4_; clear n0_ n1_ n2_ n3_ n4_; (try clear hb); (try clear hb2); (try clear hk); (try clear hi)) | ((with_reducible refine gate_dst (N := 10) rfl ?_); refine box_event ?hg (N := 10) ?hd (cs := #[.int .u64 0, .int .u64 0]) (t := 25) ?hr ?_; (case hd => rfl); (case hg => rfl); (case hr => first | (go_simp; done) | (go_simp; rfl)); intro gb1081 hg w47 hbox hb; have n0_ := Aside0.mk (blk_below (g := gb1053) (o := .cells #[.int .u64 t1050, .int .u64 t1051] 25 (0, 0)) (by (with_reducible repeat (first | refine blk_drewN ?_ _ | refine blk_drew ?_ | refine blk_alloc ?_ _)); exact BK1053.out) hb); have n1_ := Aside0.mk (blk_below (g := gb1061) (o := .cells #[.int .u64 t1058, .int .u64 t1059] 25 (0, 0)) (by (with_reducible repeat (first | refine blk_drewN ?_ _ | refine blk_drew ?_ | refine blk_alloc ?_ _)); exact BK1061.out) hb); have n2_ := Aside0.mk (blk_below (g := gb1069) (o := .cells #[.int .u64 t1066, .int .u64 t1067] 25 (0, 0)) (by (with_reducible repeat (first | refine blk_drewN ?_ _ | refine blk_drew ?_ | refine blk_alloc ?_ _)); exact BK1069.out) hb); have n3_ := Aside0.mk (blk_below (g := gb1074) (o := .cells #[.int .u64 t1070, .int .u64 t1071] 25 (0, 0)) (by (with_reducible repeat (first | refine blk_drewN ?_ _ | refine blk_drew ?_ | refine blk_alloc ?_ _)); exact BK1074.out) hb); have n4_ := Aside0.mk (below_step (by repeat (first | (with_reducible first | exact HB.out | apply below_alloc | apply pw_below_drewN | apply below_drew1 | refine below_set ?_ GE1053.out | refine below_set ?_ GE1061.out | refine below_set ?_ GE1069.out | refine below_set ?_ GE1074.out) | exact HB.out)) hb); have n5_ := Aside0.mk (hbox); have n6_ := Aside0.mk ((by rw [hg]; exact (below_size (by repeat (first | (with_reducible first | exact HB.out | apply below_alloc | apply pw_below_drewN | apply below_drew1 | refine below_set ?_ GE1053.out | refine below_set ?_ GE1061.out | refine below_set ?_ GE1069.out | refine below_set ?_ GE1074.out) | exact HB.out))) : w.heap.size ≤ gb1081)); have n7_ := Aside0.mk ((by rw [hg]; exact (below_size (by repeat (first | (with_reducible first | exact HB.out | apply below_alloc | apply pw_below_drewN | apply below_drew1 | refine below_set ?_ GE1053.out | refine below_set ?_ GE1061.out | refine below_set ?_ GE1069.out | refine below_set ?_ GE1074.out) | exact HB.out))) : w.heap.size ≤ gb1081)); have n8_ := Aside0.mk ((by rw [hg]; exact Nat.ne_of_lt (blk_lt (g := gb1053) (o := .cells #[.int .u64 t1050, .int .u64 t1051] 25 (0, 0)) (by (with_reducible repeat (first | refine blk_drewN ?_ _ | refine blk_drew ?_ | refine blk_alloc ?_ _)); exact BK1053.out)) : gb1053 ≠ gb1081)); have n9_ := Aside0.mk ((by rw [hg]; exact Nat.ne_of_gt (blk_lt (g := gb1053) (o := .cells #[.int .u64 t1050, .int .u64 t1051] 25 (0, 0)) (by (with_reducible repeat (first | refine blk_drewN ?_ _ | refine blk_drew ?_ | refine blk_alloc ?_ _)); exact BK1053.out)) : gb1081 ≠ gb1053)); have n10_ := Aside0.mk ((by rw [hg]; exact Nat.ne_of_lt (blk_lt (g := gb1061) (o := .cells #[.int .u64 t1058, .int .u64 t1059] 25 (0, 0)) (by (with_reducible repeat (first | refine blk_drewN ?_ _ | refine blk_drew ?_ | refine blk_alloc ?_ _)); exact BK1061.out)) : gb1061 ≠ gb1081)); have n11_ := Aside0.mk ((by rw [hg]; exact Nat.ne_of_gt (blk_lt (g := gb1061) (o := .cells #[.int .u64 t1058, .int .u64 t1059] 25 (0, 0)) (by (with_reducible repeat (first | refine blk_drewN ?_ _ | refine blk_drew ?_ | refine blk_alloc ?_ _)); exact BK1061.out)) : gb1081 ≠ gb1061)); have n12_ := Aside0.mk ((by rw [hg]; exact Nat.ne_of_lt (blk_lt (g := gb1069) (o := .cells #[.int .u64 t1066, .int .u64 t1067] 25 (0, 0)) (by (with_reducible repeat (first | refine blk_drewN ?_ _ | refine blk_drew ?_ | refine blk_alloc ?_ _)); exact BK1069.out)) : gb1069 ≠ gb1081)); have n13_ := Aside0.mk ((by rw [hg]; exact Nat.ne_of_gt (blk_lt (g := gb1069) (o := .cells #[.int .u64 t1066, .int .u64 t1067] 25 (0, 0)) (by (with_reducible repeat (first | refine blk_drewN ?_ _ | refine blk_drew ?_ | refine blk_alloc ?_ _)); exact BK1069.out)) : gb1081 ≠ gb1069)); have n14_ := Aside0.mk ((by rw [hg]; exact Nat.ne_of_lt (blk_lt (g := gb1074) (o := .cells #[.int .u64 t1070, .int .u64 t1071] 25 (0, 0)) (by (with_reducible repeat (first | refine blk_drewN ?_ _ | refine blk_drew ?_ | refine blk_alloc ?_ _)); exact BK1074.out)) : gb1074 ≠ gb1081)); have n15_ := Aside0.mk ((by rw [hg]; exact Nat.ne_of_gt (blk_lt (g := gb1074) (o := .cells #[.int .u64 t1070, .int .u64 t1071] 25 (0, 0)) (by (with_reducible repeat (first | refine blk_drewN ?_ _ | refine blk_drew ?_ | refine blk_alloc ?_ _)); exact BK1074.out)) : gb1081 ≠ gb1074)); clear BK1053; clear BK1061; clear BK1069; clear BK1074; clear HB; have BK1053 := n0_; have BK1061 := n1_; have BK1069 := n2_; have BK1074 := n3_; have HB := n4_; have BK1081 := n5_; have GW1081 := n6_; have GE1081 := n7_; have NB1053_1081 := n8_; have NB1081_1053 := n9_; have NB1061_1081 := n10_; have NB1081_1061 := n11_; have NB1069_1081 := n12_; have NB1081_1069 := n13_; have NB1074_1081 := n14_; have NB1081_1074 := n15_; clear n0_ n1_ n2_ n3_ n4_ n5_ n6_ n7_ n8_ n9_ n10_ n11_ n12_ n13_ n14_ n15_; clear hb hbox hg; have hnb48 := NB1081_1053.out; have hnc48 := NB1053_1081.out; have hnb49 := NB1081_1061.out; have hnc49 := NB1061_1081.out; have hnb50 := NB1081_1069.out; have hnc50 := NB1069_1081.out; have hnb51 := NB1081_1074.out; have hnc51 := NB1074_1081.out; have hcz52_0 : w47.cell? ⟨gb1081, 0, none⟩ = some (.int .u64 0) := (blk_cell BK1081.out 0).trans rfl; have hcz52_1 : w47.cell? ⟨gb1081, 1, none⟩ = some (.int .u64 0) := (blk_cell BK1081.out 1).trans rfl; have hfz52_0 := blk_frozen BK1081.out 0; have hfz52_1 := blk_frozen BK1081.out 1))
                  have n0_ : Aside0 (((w47.setCell ⟨gb1081, 0, none⟩ (.int .u64 t1077)).setCell ⟨gb1081, 1, none⟩ (.int .u64 t1078)).heap[gb1053]? = some (.cells #[.int .u64 t1050, .int .u64 t1051] 25 (0, 0))) := ⟨by (with_reducible repeat (first | refine blk_drewN ?_ _ | refine blk_drew ?_ | refine blk_alloc ?_ _)); refine blk_far ?_ NB1053_1081.out _; (with_reducible repeat (first | refine blk_drewN ?_ _ | refine blk_drew ?_ | refine blk_alloc ?_ _)); refine blk_far ?_ NB1053_1081.out _; (with_reducible repeat (first | refine blk_drewN ?_ _ | refine blk_drew ?_ | refine blk_alloc ?_ _)); exact BK1053.out⟩
                  have n1_ : Aside0 (((w47.setCell ⟨gb1081, 0, none⟩ (.int .u64 t1077)).setCell ⟨gb1081, 1, none⟩ (.int .u64 t1078)).heap[gb1061]? = some (.cells #[.int .u64 t1058, .int .u64 t1059] 25 (0, 0))) := ⟨by (with_reducible repeat (first | refine blk_drewN ?_ _ | refine blk_drew ?_ | refine blk_alloc ?_ _)); refine blk_far ?_ NB1061_1081.out _; (with_reducible repeat (first | refine blk_drewN ?_ _ | refine blk_drew ?_ | refine blk_alloc ?_ _)); refine blk_far ?_ NB1061_1081.out _; (with_reducible repeat (first | refine blk_drewN ?_ _ | refine blk_drew ?_ | refine blk_alloc ?_ _)); exact BK1061.out⟩
                  have n2_ : Aside0 (((w47.setCell ⟨gb1081, 0, none⟩ (.int .u64 t1077)).setCell ⟨gb1081, 1, none⟩ (.int .u64 t1078)).heap[gb1069]? = some (.cells #[.int .u64 t1066, .int .u64 t1067] 25 (0, 0))) := ⟨by (with_reducible repeat (first | refine blk_drewN ?_ _ | refine blk_drew ?_ | refine blk_alloc ?_ _)); refine blk_far ?_ NB1069_1081.out _; (with_reducible repeat (first | refine blk_drewN ?_ _ | refine blk_drew ?_ | refine blk_alloc ?_ _)); refine blk_far ?_ NB1069_1081.out _; (with_reducible repeat (first | refine blk_drewN ?_ _ | refine blk_drew ?_ | refine blk_alloc ?_ _)); exact BK1069.out⟩
                  have n3_ : Aside0 (((w47.setCell ⟨gb1081, 0, none⟩ (.int .u64 t1077)).setCell ⟨gb1081, 1, none⟩ (.int .u64 t1078)).heap[gb1074]? = some (.cells #[.int .u64 t1070, .int .u64 t1071] 25 (0, 0))) := ⟨by (with_reducible repeat (first | refine blk_drewN ?_ _ | refine blk_drew ?_ | refine blk_alloc ?_ _)); refine blk_far ?_ NB1074_1081.out _; (with_reducible repeat (first | refine blk_drewN ?_ _ | refine blk_drew ?_ | refine blk_alloc ?_ _)); refine blk_far ?_ NB1074_1081.out _; (with_reducible repeat (first | refine blk_drewN ?_ _ | refine blk_drew ?_ | refine blk_alloc ?_ _)); exact BK1074.out⟩
                  have n4_ : Aside0 (((w47.setCell ⟨gb1081, 0, none⟩ (.int .u64 t1077)).setCell ⟨gb1081, 1, none⟩ (.int .u64 t1078)).heap[gb1081]? = some (.cells #[.int .u64 t1077, .int .u64 t1078] 25 (0, 0))) := ⟨by (with_reducible repeat (first | refine blk_drewN ?_ _ | refine blk_drew ?_ | refine blk_alloc ?_ _)); refine blk_put (cs := #[.int .u64 t1077, .int .u64 0]) ?_ 1 _ rfl; (with_reducible repeat (first | refine blk_drewN ?_ _ | refine blk_drew ?_ | refine blk_alloc ?_ _)); refine blk_put (cs := #[.int .u64 0, .int .u64 0]) ?_ 0 _ rfl; (with_reducible repeat (first | refine blk_drewN ?_ _ | refine blk_drew ?_ | refine blk_alloc ?_ _)); exact BK1081.out⟩
                  have n5_ : Aside0 (Below w.heap.size w ((w47.setCell ⟨gb1081, 0, none⟩ (.int .u64 t1077)).setCell ⟨gb1081, 1, none⟩ (.int .u64 t1078))) := ⟨by repeat (first | (with_reducible first | exact HB.out | apply below_alloc | apply pw_below_drewN | apply below_drew1 | refine below_set ?_ GE1053.out | refine below_set ?_ GE1061.out | refine below_set ?_ GE1069.out | refine below_set ?_ GE1074.out | refine below_set ?_ GE1081.out) | exact HB.out)⟩
                  (try clear BK1053)
                  (try clear BK1061)
                  (try clear BK1069)
                  (try clear BK1074)
                  (try clear BK1081)
                  (try clear HB)
                  generalize ((w47.setCell ⟨gb1081, 0, none⟩ (.int .u64 t1077)).setCell ⟨gb1081, 1, none⟩ (.int .u64 t1078)) = w53 at n0_ n1_ n2_ n3_ n4_ n5_ ⊢
                  have BK1053 := n0_
                  have BK1061 := n1_
                  have BK1069 := n2_
                  have BK1074 := n3_
                  have BK1081 := n4_
                  have HB := n5_
                  clear n0_ n1_ n2_ n3_ n4_ n5_
                  have n0_ := Aside0.mk (blk_drew BK1053.out)
                  have n1_ := Aside0.mk (blk_drew BK1061.out)
                  have n2_ := Aside0.mk (blk_drew BK1069.out)
                  have n3_ := Aside0.mk (blk_drew BK1074.out)
                  have n4_ := Aside0.mk (blk_drew BK1081.out)
                  have n5_ := Aside0.mk (below_drew1 HB.out)
                  clear BK1053
                  clear BK1061
                  clear BK1069
                  clear BK1074
                  clear BK1081
                  clear HB
                  have BK1053 := n0_
                  have BK1061 := n1_
                  have BK1069 := n2_
                  have BK1074 := n3_
                  have BK1081 := n4_
                  have HB := n5_
                  clear n0_ n1_ n2_ n3_ n4_ n5_
                  refine start_ (n := 38) (S := fun w' => w'.cell? ⟨gb1053, 0, none⟩ = some (.int .u64 t1050) ∧ w'.cell? ⟨gb1053, 1, none⟩ = some (.int .u64 t1051) ∧ w'.cell? ⟨gb1074, 0, none⟩ = some (.int .u64 t1070) ∧ w'.cell? ⟨gb1074, 1, none⟩ = some (.int .u64 t1071)) (ds := []) #[false, false, false, false, false, false, false, false, false, false, false, false, false, false, false, false, false, false, false, false, false, false, false, false, false, false, false, false, false, false, false, false, false, false, false, false, false, false] (by kernel_rfl) rfl rfl ⟨(blk_cell BK1053.out 0).trans rfl, (blk_cell BK1053.out 1).trans rfl, (blk_cell BK1074.out 0).trans rfl, (blk_cell BK1074.out 1).trans rfl⟩ (fun hHeld => ?_); refine with_tabW paymasterlaw01_awake.tab6 paymasterlaw01_awake.bits6 (fun HT_ HW_ => ?_)
                  generalize w53.drew = w54 at BK1053 BK1061 BK1069 BK1074 BK1081 HB hHeld ⊢
                  refine pure_ (i := 1) (N := some 44) (v := ?_) (a' := ?_) #[false, true, false, false, false, false, false, false, false, false, false, false, false, false, false, false, false, false, false, false, false, false, false, false, false, false, false, false, false, false, false, false, false, false, false, false, false, false] rfl rfl (any_of HT_.out (by kernel_rfl)) (fun _ _ _ h => h) (Or.inl ⟨by rfl, ?_⟩) ?_ ?_
                  rotate_left
                  · intro w'
                    go_simp
                    with_reducible rfl
                  rotate_left
                  · simp only [Act.put, List.setIfInBounds_toArray, List.set_cons_zero, List.set_cons_succ, i64_w, i32_w]
                    rfl
                  refine take_ (i := 0) (N := some 43) (v := ?_) (a' := ?_) #[true, true, false, false, false, false, false, false, false, false, false, false, false, false, false, false, false, false, false, false, false, false, false, false, false, false, false, false, false, false, false, false, false, false, false, false, false, false] rfl rfl (take_ofW HT_.out HW_.out (by kernel_rfl)) (fun _ _ _ h => h) (Or.inl ⟨by rfl, ?_⟩) hHeld ?_ ?_
                  rotate_left
                  · rintro w' ⟨s0, s1, s2, s3⟩
                    go_simp
                    with_reducible rfl
                  rotate_left
                  · simp only [Act.put, List.setIfInBounds_toArray, List.set_cons_zero, List.set_cons_succ, i64_w, i32_w]
                    rfl
                  refine pure_ (i := 2) (N := some 45) (v := ?_) (a' := ?_) #[true, true, true, false, false, false, false, false, false, false, false, false, false, false, false, false, false, false, false, false, false, false, false, false, false, false, false, false, false, false, false, false, false, false, false, false, false, false] rfl rfl (any_of HT_.out (by kernel_rfl)) (fun _ _ _ h => h) (Or.inl ⟨by rfl, ?_⟩) ?_ ?_
                  rotate_left
                  · intro w'
                    go_simp
                    with_reducible rfl
                  rotate_left
                  · simp only [Act.put, List.setIfInBounds_toArray, List.set_cons_zero, List.set_cons_succ, i64_w, i32_w]
                    rfl
                  refine pure_ (i := 3) (N := some 46) (v := ?_) (a' := ?_) #[true, true, true, true, false, false, false, false, false, false, false, false, false, false, false, false, false, false, false, false, false, false, false, false, false, false, false, false, false, false, false, false, false, false, false, false, false, false] rfl rfl (any_of HT_.out (by kernel_rfl)) (fun _ _ _ h => h) (Or.inl ⟨by rfl, ?_⟩) ?_ ?_
                  rotate_left
                  · intro w'
                    go_simp
                    with_reducible rfl
                  rotate_left
                  · simp only [Act.put, List.setIfInBounds_toArray, List.set_cons_zero, List.set_cons_succ, i64_w, i32_w]
                    rfl
                  refine pure_ (i := 4) (N := some 47) (v := ?_) (a' := ?_) #[true, true, true, true, true, false, false, false, false, false, false, false, false, false, false, false, false, false, false, false, false, false, false, false, false, false, false, false, false, false, false, false, false, false, false, false, false, false] rfl rfl (any_of HT_.out (by kernel_rfl)) (fun _ _ _ h => h) (Or.inl ⟨by rfl, ?_⟩) ?_ ?_
                  rotate_left
                  · intro w'
                    go_simp
                    with_reducible rfl
                  rotate_left
                  · simp only [Act.put, List.setIfInBounds_toArray, List.set_cons_zero, List.set_cons_succ, i64_w, i32_w]
                    rfl
                  refine pure_ (i := 5) (N := some 48) (v := ?_) (a' := ?_) #[true, true, true, true, true, true, false, false, false, false, false, false, false, false, false, false, false, false, false, false, false, false, false, false, false, false, false, false, false, false, false, false, false, false, false, false, false, false] rfl rfl (any_of HT_.out (by kernel_rfl)) (fun _ _ _ h => h) (Or.inl ⟨by rfl, ?_⟩) ?_ ?_
                  rotate_left
                  · intro w'
                    go_simp
                    with_reducible rfl
                  rotate_left
                  · simp only [Act.put, List.setIfInBounds_toArray, List.set_cons_zero, List.set_cons_succ, i64_w, i32_w]
                    rfl
                  refine pure_ (i := 6) (N := some 49) (v := ?_) (a' := ?_) #[true, true, true, true, true, true, true, false, false, false, false, false, false, false, false, false, false, false, false, false, false, false, false, false, false, false, false, false, false, false, false, false, false, false, false, false, false, false] rfl rfl (any_of HT_.out (by kernel_rfl)) (fun _ _ _ h => h) (Or.inl ⟨by rfl, ?_⟩) ?_ ?_
                  rotate_left
                  · intro w'
                    go_simp
                    with_reducible rfl
                  rotate_left
                  · simp only [Act.put, List.setIfInBounds_toArray, List.set_cons_zero, List.set_cons_succ, i64_w, i32_w]
                    rfl
                  refine pure_ (i := 7) (N := some 50) (v := ?_) (a' := ?_) #[true, true, true, true, true, true, true, true, false, false, false, false, false, false, false, false, false, false, false, false, false, false, false, false, false, false, false, false, false, false, false, false, false, false, false, false, false, false] rfl rfl (any_of HT_.out (by kernel_rfl)) (fun _ _ _ h => h) (Or.inl ⟨by rfl, ?_⟩) ?_ ?_
                  rotate_left
                  · intro w'
                    go_simp
                    with_reducible rfl
                  rotate_left
                  · simp only [Act.put, List.setIfInBounds_toArray, List.set_cons_zero, List.set_cons_succ, i64_w, i32_w]
                    rfl
                  refine pure_ (i := 8) (N := some 51) (v := ?_) (a' := ?_) #[true, true, true, true, true, true, true, true, true, false, false, false, false, false, false, false, false, false, false, false, false, false, false, false, false, false, false, false, false, false, false, false, false, false, false, false, false, false] rfl rfl (any_of HT_.out (by kernel_rfl)) (fun _ _ _ h => h) (Or.inl ⟨by rfl, ?_⟩) ?_ ?_
                  rotate_left
                  · intro w'
                    go_simp
                    with_reducible rfl
                  rotate_left
                  · simp only [Act.put, List.setIfInBounds_toArray, List.set_cons_zero, List.set_cons_succ, i64_w, i32_w]
                    rfl
                  refine pure_ (i := 9) (N := some 52) (v := ?_) (a' := ?_) #[true, true, true, true, true, true, true, true, true, true, false, false, false, false, false, false, false, false, false, false, false, false, false, false, false, false, false, false, false, false, false, false, false, false, false, false, false, false] rfl rfl (any_of HT_.out (by kernel_rfl)) (fun _ _ _ h => h) (Or.inl ⟨by rfl, ?_⟩) ?_ ?_
                  rotate_left
                  · intro w'
                    go_simp
                    with_reducible rfl
                  rotate_left
                  · simp only [Act.put, List.setIfInBounds_toArray, List.set_cons_zero, List.set_cons_succ, i64_w, i32_w]
                    rfl
                  refine pure_ (i := 10) (N := some 53) (v := ?_) (a' := ?_) #[true, true, true, true, true, true, true, true, true, true, true, false, false, false, false, false, false, false, false, false, false, false, false, false, false, false, false, false, false, false, false, false, false, false, false, false, false, false] rfl rfl (any_of HT_.out (by kernel_rfl)) (fun _ _ _ h => h) (Or.inl ⟨by rfl, ?_⟩) ?_ ?_
                  rotate_left
                  · intro w'
                    go_simp
                    with_reducible rfl
                  rotate_left
                  · simp only [Act.put, List.setIfInBounds_toArray, List.set_cons_zero, List.set_cons_succ, i64_w, i32_w]
                    rfl
                  refine pure_ (i := 11) (N := some 54) (v := ?_) (a' := ?_) #[true, true, true, true, true, true, true, true, true, true, true, true, false, false, false, false, false, false, false, false, false, false, false, false, false, false, false, false, false, false, false, false, false, false, false, false, false, false] rfl rfl (any_of HT_.out (by kernel_rfl)) (fun _ _ _ h => h) (Or.inl ⟨by rfl, ?_⟩) ?_ ?_
                  rotate_left
                  · intro w'
                    go_simp
                    with_reducible rfl
                  rotate_left
                  · simp only [Act.put, List.setIfInBounds_toArray, List.set_cons_zero, List.set_cons_succ, i64_w, i32_w]
                    rfl
                  refine pure_ (i := 12) (N := some 55) (v := ?_) (a' := ?_) #[true, true, true, true, true, true, true, true, true, true, true, true, true, false, false, false, false, false, false, false, false, false, false, false, false, false, false, false, false, false, false, false, false, false, false, false, false, false] rfl rfl (any_of HT_.out (by kernel_rfl)) (fun _ _ _ h => h) (Or.inl ⟨by rfl, ?_⟩) ?_ ?_
                  rotate_left
                  · intro w'
                    go_simp
                    with_reducible rfl
                  rotate_left
                  · simp only [Act.put, List.setIfInBounds_toArray, List.set_cons_zero, List.set_cons_succ, i64_w, i32_w]
                    rfl
                  refine pure_ (i := 13) (N := some 56) (v := ?_) (a' := ?_) #[true, true, true, true, true, true, true, true, true, true, true, true, true, true, false, false, false, false, false, false, false, false, false, false, false, false, false, false, false, false, false, false, false, false, false, false, false, false] rfl rfl (any_of HT_.out (by kernel_rfl)) (fun _ _ _ h => h) (Or.inl ⟨by rfl, ?_⟩) ?_ ?_
                  rotate_left
                  · intro w'
                    go_simp
                    with_reducible rfl
                  rotate_left
                  · simp only [Act.put, List.setIfInBounds_toArray, List.set_cons_zero, List.set_cons_succ, i64_w, i32_w]
                    rfl
                  refine pure_ (i := 14) (N := some 57) (v := ?_) (a' := ?_) #[true, true, true, true, true, true, true, true, true, true, true, true, true, true, true, false, false, false, false, false, false, false, false, false, false, false, false, false, false, false, false, false, false, false, false, false, false, false] rfl rfl (any_of HT_.out (by kernel_rfl)) (fun _ _ _ h => h) (Or.inl ⟨by rfl, ?_⟩) ?_ ?_
                  rotate_left
                  · intro w'
                    go_simp
                    with_reducible rfl
                  rotate_left
                  · simp only [Act.put, List.setIfInBounds_toArray, List.set_cons_zero, List.set_cons_succ, i64_w, i32_w]
                    rfl
                  refine pure_ (i := 15) (N := some 58) (v := ?_) (a' := ?_) #[true, true, true, true, true, true, true, true, true, true, true, true, true, true, true, true, false, false, false, false, false, false, false, false, false, false, false, false, false, false, false, false, false, false, false, false, false, false] rfl rfl (any_of HT_.out (by kernel_rfl)) (fun _ _ _ h => h) (Or.inl ⟨by rfl, ?_⟩) ?_ ?_
                  rotate_left
                  · intro w'
                    go_simp
                    with_reducible rfl
                  rotate_left
                  · simp only [Act.put, List.setIfInBounds_toArray, List.set_cons_zero, List.set_cons_succ, i64_w, i32_w]
                    rfl
                  refine take_ (i := 16) (N := some 59) (v := ?_) (a' := ?_) #[true, true, true, true, true, true, true, true, true, true, true, true, true, true, true, true, true, false, false, false, false, false, false, false, false, false, false, false, false, false, false, false, false, false, false, false, false, false] rfl rfl (take_ofW HT_.out HW_.out (by kernel_rfl)) (fun _ _ _ h => h) (Or.inl ⟨by rfl, ?_⟩) hHeld ?_ ?_
                  rotate_left
                  · rintro w' ⟨s0, s1, s2, s3⟩
                    go_simp
                    with_reducible rfl
                  rotate_left
                  · simp only [Act.put, List.setIfInBounds_toArray, List.set_cons_zero, List.set_cons_succ, i64_w, i32_w]
                    rfl
                  refine one_ (i := 17) (N := some 60) #[true, true, true, true, true, true, true, true, true, true, true, true, true, true, true, true, true, true, false, false, false, false, false, false, false, false, false, false, false, false, false, false, false, false, false, false, false, false] rfl rfl (one_of HT_.out (by kernel_rfl)) (by decide) (fun K hK => ?_)
                  refine goes_ Try.func51 (by kernel_rfl) rfl #[.int .u64 1844674407370955161] (by rfl) rfl rfl (by (try simp only [List.map_toArray, List.map_cons, List.map_nil]); first | done | rfl | (simp only [List.length_drop, List.length_take]; rfl)) ?_
                  with_reducible refine (u128_Of.calls 1844674407370955161 t1082 t1083 _ A16.out).mono ?_
                  rintro e w55 ⟨rfl, hb⟩
                  refine ⟨_, rfl, ?_⟩
                  have n0_ := Aside0.mk (blk_below (g := gb1053) (o := .cells #[.int .u64 t1050, .int .u64 t1051] 25 (0, 0)) (by (with_reducible repeat (first | refine blk_drewN ?_ _ | refine blk_drew ?_ | refine blk_alloc ?_ _)); exact BK1053.out) hb)
                  have n1_ := Aside0.mk (blk_below (g := gb1061) (o := .cells #[.int .u64 t1058, .int .u64 t1059] 25 (0, 0)) (by (with_reducible repeat (first | refine blk_drewN ?_ _ | refine blk_drew ?_ | refine blk_alloc ?_ _)); exact BK1061.out) hb)
                  have n2_ := Aside0.mk (blk_below (g := gb1069) (o := .cells #[.int .u64 t1066, .int .u64 t1067] 25 (0, 0)) (by (with_reducible repeat (first | refine blk_drewN ?_ _ | refine blk_drew ?_ | refine blk_alloc ?_ _)); exact BK1069.out) hb)
                  have n3_ := Aside0.mk (blk_below (g := gb1074) (o := .cells #[.int .u64 t1070, .int .u64 t1071] 25 (0, 0)) (by (with_reducible repeat (first | refine blk_drewN ?_ _ | refine blk_drew ?_ | refine blk_alloc ?_ _)); exact BK1074.out) hb)
                  have n4_ := Aside0.mk (blk_below (g := gb1081) (o := .cells #[.int .u64 t1077, .int .u64 t1078] 25 (0, 0)) (by (with_reducible repeat (first | refine blk_drewN ?_ _ | refine blk_drew ?_ | refine blk_alloc ?_ _)); exact BK1081.out) hb)
                  have n5_ := Aside0.mk (below_step (by repeat (first | (with_reducible first | exact HB.out | apply below_alloc | apply pw_below_drewN | apply below_drew1 | refine below_set ?_ GE1053.out | refine below_set ?_ GE1061.out | refine below_set ?_ GE1069.out | refine below_set ?_ GE1074.out | refine below_set ?_ GE1081.out) | exact HB.out)) hb)
                  clear BK1053
                  clear BK1061
                  clear BK1069
                  clear BK1074
                  clear BK1081
                  clear HB
                  have BK1053 := n0_
                  have BK1061 := n1_
                  have BK1069 := n2_
                  have BK1074 := n3_
                  have BK1081 := n4_
                  have HB := n5_
                  clear n0_ n1_ n2_ n3_ n4_ n5_
                  (try clear hb)
                  (try clear hb2)
                  (try clear hk)
                  (try clear hi)
                  refine hK.out _ _ ⟨(blk_cell BK1053.out 0).trans rfl, (blk_cell BK1053.out 1).trans rfl, (blk_cell BK1074.out 0).trans rfl, (blk_cell BK1074.out 1).trans rfl⟩ (fun hHeld => ?_)
                  clear hK K
                  refine norm_ (a' := ?_) ?_ ?_
                  rotate_left
                  · show Act.put _ (some 60) _ = _
                    simp only [Act.put, List.setIfInBounds_toArray, List.set_cons_zero, List.set_cons_succ, i64_w, i32_w]
                    rfl
                  refine pure_ (i := 18) (N := some 61) (v := ?_) (a' := ?_) #[true, true, true, true, true, true, true, true, true, true, true, true, true, true, true, true, true, true, true, false, false, false, false, false, false, false, false, false, false, false, false, false, false, false, false, false, false, false] rfl rfl (any_of HT_.out (by kernel_rfl)) (fun _ _ _ h => h) (Or.inl ⟨by rfl, ?_⟩) ?_ ?_
                  rotate_left
                  · intro w'
                    go_simp
                    with_reducible rfl
                  rotate_left
                  · simp only [Act.put, List.setIfInBounds_toArray, List.set_cons_zero, List.set_cons_succ, i64_w, i32_w]
                    rfl
                  refine pure_ (i := 19) (N := some 62) (v := ?_) (a' := ?_) #[true, true, true, true, true, true, true, true, true, true, true, true, true, true, true, true, true, true, true, true, false, false, false, false, false, false, false, false, false, false, false, false, false, false, false, false, false, false] rfl rfl (any_of HT_.out (by kernel_rfl)) (fun _ _ _ h => h) (Or.inl ⟨by rfl, ?_⟩) ?_ ?_
                  rotate_left
                  · intro w'
                    go_simp
                    with_reducible rfl
                  rotate_left
                  · simp only [Act.put, List.setIfInBounds_toArray, List.set_cons_zero, List.set_cons_succ, i64_w, i32_w]
                    rfl
                  refine pure_ (i := 20) (N := some 63) (v := ?_) (a' := ?_) #[true, true, true, true, true, true, true, true, true, true, true, true, true, true, true, true, true, true, true, true, true, false, false, false, false, false, false, false, false, false, false, false, false, false, false, false, false, false] rfl rfl (any_of HT_.out (by kernel_rfl)) (fun _ _ _ h => h) (Or.inl ⟨by rfl, ?_⟩) ?_ ?_
                  rotate_left
                  · intro w'
                    go_simp
                    with_reducible rfl
                  rotate_left
                  · simp only [Act.put, List.setIfInBounds_toArray, List.set_cons_zero, List.set_cons_succ, i64_w, i32_w]
                    rfl
                  refine pure_ (i := 21) (N := some 64) (v := ?_) (a' := ?_) #[true, true, true, true, true, true, true, true, true, true, true, true, true, true, true, true, true, true, true, true, true, true, false, false, false, false, false, false, false, false, false, false, false, false, false, false, false, false] rfl rfl (any_of HT_.out (by kernel_rfl)) (fun _ _ _ h => h) (Or.inl ⟨by rfl, ?_⟩) ?_ ?_
                  rotate_left
                  · intro w'
                    go_simp
                    with_reducible rfl
                  rotate_left
                  · simp only [Act.put, List.setIfInBounds_toArray, List.set_cons_zero, List.set_cons_succ, i64_w, i32_w]
                    rfl
                  refine pure_ (i := 22) (N := some 65) (v := ?_) (a' := ?_) #[true, true, true, true, true, true, true, true, true, true, true, true, true, true, true, true, true, true, true, true, true, true, true, false, false, false, false, false, false, false, false, false, false, false, false, false, false, false] rfl rfl (any_of HT_.out (by kernel_rfl)) (fun _ _ _ h => h) (Or.inl ⟨by rfl, ?_⟩) ?_ ?_
                  rotate_left
                  · intro w'
                    go_simp
                    with_reducible rfl
                  rotate_left
                  · simp only [Act.put, List.setIfInBounds_toArray, List.set_cons_zero, List.set_cons_succ, i64_w, i32_w]
                    rfl
                  refine pure_ (i := 23) (N := some 66) (v := ?_) (a' := ?_) #[true, true, true, true, true, true, true, true, true, true, true, true, true, true, true, true, true, true, true, true, true, true, true, true, false, false, false, false, false, false, false, false, false, false, false, false, false, false] rfl rfl (any_of HT_.out (by kernel_rfl)) (fun _ _ _ h => h) (Or.inl ⟨by rfl, ?_⟩) ?_ ?_
                  rotate_left
                  · intro w'
                    go_simp
                    with_reducible rfl
                  rotate_left
                  · simp only [Act.put, List.setIfInBounds_toArray, List.set_cons_zero, List.set_cons_succ, i64_w, i32_w]
                    rfl
                  refine pure_ (i := 24) (N := some 67) (v := ?_) (a' := ?_) #[true, true, true, true, true, true, true, true, true, true, true, true, true, true, true, true, true, true, true, true, true, true, true, true, true, false, false, false, false, false, false, false, false, false, false, false, false, false] rfl rfl (any_of HT_.out (by kernel_rfl)) (fun _ _ _ h => h) (Or.inl ⟨by rfl, ?_⟩) ?_ ?_
                  rotate_left
                  · intro w'
                    go_simp
                    with_reducible rfl
                  rotate_left
                  · simp only [Act.put, List.setIfInBounds_toArray, List.set_cons_zero, List.set_cons_succ, i64_w, i32_w]
                    rfl
                  refine pure_ (i := 25) (N := some 68) (v := ?_) (a' := ?_) #[true, true, true, true, true, true, true, true, true, true, true, true, true, true, true, true, true, true, true, true, true, true, true, true, true, true, false, false, false, false, false, false, false, false, false, false, false, false] rfl rfl (any_of HT_.out (by kernel_rfl)) (fun _ _ _ h => h) (Or.inl ⟨by rfl, ?_⟩) ?_ ?_
                  rotate_left
                  · intro w'
                    go_simp
                    with_reducible rfl
                  rotate_left
                  · simp only [Act.put, List.setIfInBounds_toArray, List.set_cons_zero, List.set_cons_succ, i64_w, i32_w]
                    rfl
                  refine pure_ (i := 26) (N := some 69) (v := ?_) (a' := ?_) #[true, true, true, true, true, true, true, true, true, true, true, true, true, true, true, true, true, true, true, true, true, true, true, true, true, true, true, false, false, false, false, false, false, false, false, false, false, false] rfl rfl (any_of HT_.out (by kernel_rfl)) (fun _ _ _ h => h) (Or.inl ⟨by rfl, ?_⟩) ?_ ?_
                  rotate_left
                  · intro w'
                    go_simp
                    with_reducible rfl
                  rotate_left
                  · simp only [Act.put, List.setIfInBounds_toArray, List.set_cons_zero, List.set_cons_succ, i64_w, i32_w]
                    rfl
                  refine pure_ (i := 27) (N := some 70) (v := ?_) (a' := ?_) #[true, true, true, true, true, true, true, true, true, true, true, true, true, true, true, true, true, true, true, true, true, true, true, true, true, true, true, true, false, false, false, false, false, false, false, false, false, false] rfl rfl (any_of HT_.out (by kernel_rfl)) (fun _ _ _ h => h) (Or.inl ⟨by rfl, ?_⟩) ?_ ?_
                  rotate_left
                  · intro w'
                    go_simp
                    with_reducible rfl
                  rotate_left
                  · simp only [Act.put, List.setIfInBounds_toArray, List.set_cons_zero, List.set_cons_succ, i64_w, i32_w]
                    rfl
                  refine pure_ (i := 28) (N := some 71) (v := ?_) (a' := ?_) #[true, true, true, true, true, true, true, true, true, true, true, true, true, true, true, true, true, true, true, true, true, true, true, true, true, true, true, true, true, false, false, false, false, false, false, false, false, false] rfl rfl (any_of HT_.out (by kernel_rfl)) (fun _ _ _ h => h) (Or.inl ⟨by rfl, ?_⟩) ?_ ?_
                  rotate_left
                  · intro w'
                    go_simp
                    with_reducible rfl
                  rotate_left
                  · simp only [Act.put, List.setIfInBounds_toArray, List.set_cons_zero, List.set_cons_succ, i64_w, i32_w]
                    rfl
                  refine pure_ (i := 29) (N := some 72) (v := ?_) (a' := ?_) #[true, true, true, true, true, true, true, true, true, true, true, true, true, true, true, true, true, true, true, true, true, true, true, true, true, true, true, true, true, true, false, false, false, false, false, false, false, false] rfl rfl (any_of HT_.out (by kernel_rfl)) (fun _ _ _ h => h) (Or.inl ⟨by rfl, ?_⟩) ?_ ?_
                  rotate_left
                  · intro w'
                    go_simp
                    with_reducible rfl
                  rotate_left
                  · simp only [Act.put, List.setIfInBounds_toArray, List.set_cons_zero, List.set_cons_succ, i64_w, i32_w]
                    rfl
                  refine pure_ (i := 30) (N := some 73) (v := ?_) (a' := ?_) #[true, true, true, true, true, true, true, true, true, true, true, true, true, true, true, true, true, true, true, true, true, true, true, true, true, true, true, true, true, true, true, false, false, false, false, false, false, false] rfl rfl (any_of HT_.out (by kernel_rfl)) (fun _ _ _ h => h) (Or.inl ⟨by rfl, ?_⟩) ?_ ?_
                  rotate_left
                  · intro w'
                    go_simp
                    with_reducible rfl
                  rotate_left
                  · simp only [Act.put, List.setIfInBounds_toArray, List.set_cons_zero, List.set_cons_succ, i64_w, i32_w]
                    rfl
                  refine pure_ (i := 31) (N := some 74) (v := ?_) (a' := ?_) #[true, true, true, true, true, true, true, true, true, true, true, true, true, true, true, true, true, true, true, true, true, true, true, true, true, true, true, true, true, true, true, true, false, false, false, false, false, false] rfl rfl (any_of HT_.out (by kernel_rfl)) (fun _ _ _ h => h) (Or.inl ⟨by rfl, ?_⟩) ?_ ?_
                  rotate_left
                  · intro w'
                    go_simp
                    with_reducible rfl
                  rotate_left
                  · simp only [Act.put, List.setIfInBounds_toArray, List.set_cons_zero, List.set_cons_succ, i64_w, i32_w]
                    rfl
                  refine pure_ (i := 32) (N := some 75) (v := ?_) (a' := ?_) #[true, true, true, true, true, true, true, true, true, true, true, true, true, true, true, true, true, true, true, true, true, true, true, true, true, true, true, true, true, true, true, true, true, false, false, false, false, false] rfl rfl (any_of HT_.out (by kernel_rfl)) (fun _ _ _ h => h) (Or.inl ⟨by rfl, ?_⟩) ?_ ?_
                  rotate_left
                  · intro w'
                    go_simp
                    with_reducible rfl
                  rotate_left
                  · simp only [Act.put, List.setIfInBounds_toArray, List.set_cons_zero, List.set_cons_succ, i64_w, i32_w]
                    rfl
                  refine pure_ (i := 33) (N := some 76) (v := ?_) (a' := ?_) #[true, true, true, true, true, true, true, true, true, true, true, true, true, true, true, true, true, true, true, true, true, true, true, true, true, true, true, true, true, true, true, true, true, true, false, false, false, false] rfl rfl (any_of HT_.out (by kernel_rfl)) (fun _ _ _ h => h) (Or.inl ⟨by rfl, ?_⟩) ?_ ?_
                  rotate_left
                  · intro w'
                    go_simp
                    with_reducible rfl
                  rotate_left
                  · simp only [Act.put, List.setIfInBounds_toArray, List.set_cons_zero, List.set_cons_succ, i64_w, i32_w]
                    rfl
                  refine one_ (i := 34) (N := some 77) #[true, true, true, true, true, true, true, true, true, true, true, true, true, true, true, true, true, true, true, true, true, true, true, true, true, true, true, true, true, true, true, true, true, true, true, false, false, false] rfl rfl (one_of HT_.out (by kernel_rfl)) (by decide) (fun K hK => ?_)
                  refine goes_ Try.func31 (by kernel_rfl) rfl #[.agg #[.int .u64 1, .int .u64 258]] (by rfl) rfl rfl (by (try simp only [List.map_toArray, List.map_cons, List.map_nil]); first | done | rfl | (simp only [List.length_drop, List.length_take]; rfl)) ?_
                  with_reducible refine (u128_Bytes.calls 1 258 t1084 _ A21.out).mono ?_
                  rintro e w56 ⟨rfl, hb⟩
                  refine ⟨_, rfl, ?_⟩
                  have n0_ := Aside0.mk (blk_below (g := gb1053) (o := .cells #[.int .u64 t1050, .int .u64 t1051] 25 (0, 0)) (by (with_reducible repeat (first | refine blk_drewN ?_ _ | refine blk_drew ?_ | refine blk_alloc ?_ _)); exact BK1053.out) hb)
                  have n1_ := Aside0.mk (blk_below (g := gb1061) (o := .cells #[.int .u64 t1058, .int .u64 t1059] 25 (0, 0)) (by (with_reducible repeat (first | refine blk_drewN ?_ _ | refine blk_drew ?_ | refine blk_alloc ?_ _)); exact BK1061.out) hb)
                  have n2_ := Aside0.mk (blk_below (g := gb1069) (o := .cells #[.int .u64 t1066, .int .u64 t1067] 25 (0, 0)) (by (with_reducible repeat (first | refine blk_drewN ?_ _ | refine blk_drew ?_ | refine blk_alloc ?_ _)); exact BK1069.out) hb)
                  have n3_ := Aside0.mk (blk_below (g := gb1074) (o := .cells #[.int .u64 t1070, .int .u64 t1071] 25 (0, 0)) (by (with_reducible repeat (first | refine blk_drewN ?_ _ | refine blk_drew ?_ | refine blk_alloc ?_ _)); exact BK1074.out) hb)
                  have n4_ := Aside0.mk (blk_below (g := gb1081) (o := .cells #[.int .u64 t1077, .int .u64 t1078] 25 (0, 0)) (by (with_reducible repeat (first | refine blk_drewN ?_ _ | refine blk_drew ?_ | refine blk_alloc ?_ _)); exact BK1081.out) hb)
                  have n5_ := Aside0.mk (below_step (by repeat (first | (with_reducible first | exact HB.out | apply below_alloc | apply pw_below_drewN | apply below_drew1 | refine below_set ?_ GE1053.out | refine below_set ?_ GE1061.out | refine below_set ?_ GE1069.out | refine below_set ?_ GE1074.out | refine below_set ?_ GE1081.out) | exact HB.out)) hb)
                  clear BK1053
                  clear BK1061
                  clear BK1069
                  clear BK1074
                  clear BK1081
                  clear HB
                  have BK1053 := n0_
                  have BK1061 := n1_
                  have BK1069 := n2_
                  have BK1074 := n3_
                  have BK1081 := n4_
                  have HB := n5_
                  clear n0_ n1_ n2_ n3_ n4_ n5_
                  (try clear hb)
                  (try clear hb2)
                  (try clear hk)
                  (try clear hi)
                  refine hK.out _ _ ⟨(blk_cell BK1053.out 0).trans rfl, (blk_cell BK1053.out 1).trans rfl, (blk_cell BK1074.out 0).trans rfl, (blk_cell BK1074.out 1).trans rfl⟩ (fun hHeld => ?_)
                  clear hK K
                  refine norm_ (a' := ?_) ?_ ?_
                  rotate_left
                  · show Act.put _ (some 77) _ = _
                    simp only [Act.put, List.setIfInBounds_toArray, List.set_cons_zero, List.set_cons_succ, i64_w, i32_w]
                    rfl
                  refine pure_ (i := 35) (N := some 78) (v := ?_) (a' := ?_) #[true, true, true, true, true, true, true, true, true, true, true, true, true, true, true, true, true, true, true, true, true, true, true, true, true, true, true, true, true, true, true, true, true, true, true, true, false, false] rfl rfl (any_of HT_.out (by kernel_rfl)) (fun _ _ _ h => h) (Or.inl ⟨by rfl, ?_⟩) ?_ ?_
                  rotate_left
                  · intro w'
                    go_simp
                    with_reducible rfl
                  rotate_left
                  · simp only [Act.put, List.setIfInBounds_toArray, List.set_cons_zero, List.set_cons_succ, i64_w, i32_w]
                    rfl
                  refine pure_ (i := 36) (N := some 79) (v := ?_) (a' := ?_) #[true, true, true, true, true, true, true, true, true, true, true, true, true, true, true, true, true, true, true, true, true, true, true, true, true, true, true, true, true, true, true, true, true, true, true, true, true, false] rfl rfl (any_of HT_.out (by kernel_rfl)) (fun _ _ _ h => h) (Or.inl ⟨by rfl, ?_⟩) ?_ ?_
                  rotate_left
                  · intro w'
                    go_simp
                    with_reducible rfl
                  rotate_left
                  · simp only [Act.put, List.setIfInBounds_toArray, List.set_cons_zero, List.set_cons_succ, i64_w, i32_w]
                    rfl
                  refine pure_ (i := 37) (N := some 0) (v := ?_) (a' := ?_) #[true, true, true, true, true, true, true, true, true, true, true, true, true, true, true, true, true, true, true, true, true, true, true, true, true, true, true, true, true, true, true, true, true, true, true, true, true, true] rfl rfl (any_of HT_.out (by kernel_rfl)) (fun _ _ _ h => h) (Or.inl ⟨by rfl, ?_⟩) ?_ ?_
                  rotate_left
                  · intro w'
                    go_simp
                    with_reducible rfl
                  rotate_left
                  · simp only [Act.put, List.setIfInBounds_toArray, List.set_cons_zero, List.set_cons_succ, i64_w, i32_w]
                    rfl
                  refine done_ (done_of HT_.out (by kernel_rfl)) ?_
                  try go_wp2
                  go_ret
                  exact ⟨by first | rfl | (simp [errW_none, errW_some] <;> rfl) | (simp [*, errW_none, errW_some] <;> rfl), by repeat (first | (with_reducible first | exact HB.out | apply below_alloc | apply pw_below_drewN | apply below_drew1 | refine below_set ?_ GE1053.out | refine below_set ?_ GE1061.out | refine below_set ?_ GE1069.out | refine below_set ?_ GE1074.out | refine below_set ?_ GE1081.out) | exact HB.out)⟩
                · rw [if_neg c20] at H
                  have c20b0 : (t1080 == 2) = false := beq_eq_false_iff_ne.mpr c20
                  have c20b1 : (t1080 != 2) = true := bne_iff_ne.mpr c20
                  exact absurd H (by simp)
              · rw [if_neg c19] at H
                have c19b0 : (t1073 == 0) = false := beq_eq_false_iff_ne.mpr c19
                have c19b1 : (t1073 != 0) = true := bne_iff_ne.mpr c19
                exact absurd H (by simp)
            · rw [if_neg c18] at H
              have c18b0 : (t1072 == 9) = false := beq_eq_false_iff_ne.mpr c18
              have c18b1 : (t1072 != 9) = true := bne_iff_ne.mpr c18
              exact absurd H (by simp)
          · rw [if_neg c17] at H
            have c17b0 : (t1070 == t1082 && (t1071 == t1083)) = false := by simpa using c17
            (try (have c17b1 : decide (t1070 = t1082 && (t1071 == t1083)) = false := by simpa using c17))
            (try (have c17b2 : (t1070 == t1082 && (t1071 == t1083)) = false := by simpa using c17))
            (try (have c17b3 : ¬ (t1070 = t1082 && (t1071 == t1083)) := by simpa using c17))
            clear c17
            exact absurd H (by simp)
        · rw [if_neg c15] at H
          have c15b0 : (t1068 == 10) = false := beq_eq_false_iff_ne.mpr c15
          have c15b1 : (t1068 != 10) = true := bne_iff_ne.mpr c15
          exact absurd H (by simp)
      · rw [if_neg c14] at H
        have c14b0 : (t1060 == 10) = false := beq_eq_false_iff_ne.mpr c14
        have c14b1 : (t1060 != 10) = true := bne_iff_ne.mpr c14
        exact absurd H (by simp)
    · rw [if_neg c13] at H
      have c13b0 : (t1052 == 0) = false := beq_eq_false_iff_ne.mpr c13
      have c13b1 : (t1052 != 0) = true := bne_iff_ne.mpr c13
      exact absurd H (by simp)
  · rw [if_neg c12] at H
    have c12b0 : (t1050 == 1 && (t1051 == 0)) = false := by simpa using c12
    (try (have c12b1 : decide (t1050 = 1 && (t1051 == 0)) = false := by simpa using c12))
    (try (have c12b2 : (t1050 == 1 && (t1051 == 0)) = false := by simpa using c12))
    (try (have c12b3 : ¬ (t1050 = 1 && (t1051 == 0)) := by simpa using c12))
    clear c12
    exact absurd H (by simp)
end Go.Proofs.Ytpkjpiphjdpegaa.P
namespace Go.Proofs.Ytpkjpiphjdpegaa.P
open Go.RowKit Go.Proofs.YtpkjpiphjdpegaaW.PrintWords Go.Proofs.YtpkjpiphjdpegaaW.PrintLast Go.Proofs.YtpkjpiphjdpegaaW.PrintMore
attribute [local go_sem] max2_int min2_int max_two min_two max_three min_three max_four min_four
set_option linter.unusedVariables false
set_option linter.unusedSimpArgs false
attribute [local go_sem high] eqA25
def paymasterlaw01_U128Order.j0 : Nat → Int → Bool → Int → Int → Int → Int → Int → Int → Option (Bool)
  | 0, _, _, _, _, _, _, _, _ => none
  | k + 1, x7, x62, x1185000, x1185001, x1186000, x1186001, x1187000, x1187001 => if x62 = true then (none) else ((u128_Bytes.f x1185000 x1185001).bind fun t1252 => ((u128_Bytes.f x1186000 x1186001).bind fun t1253 => (if (t1252.size : Int) = 16 then (if ((Op.bytesLess t1252.toList t1253.toList) != (decide (x7 < 0))) = true then (none) else (if ((t1252.toList == t1253.toList) != (x7 == 0)) = true then (none) else ((u128_From.f k t1252).bind fun bt1280 => ((u128_Add.f x1185000 x1185001 x1187000 x1187001).bind fun bt1284 => ((u128_Add.f x1186000 x1186001 x1187000 x1187001).bind fun bt1288 => (if bt1280.2.2 = 0 then (if (bt1280.1 == x1185000 && (bt1280.2.1 == x1185001)) = true then (if bt1284.2.2 = 0 then (if bt1288.2.2 = 0 then ((u128_Cmp.f k bt1284.1 bt1284.2.1 bt1288.1 bt1288.2.1).bind fun t1292 => (some (t1292 == x7))) else (some true)) else (some true)) else (none)) else (none))))))) else (none))))
def paymasterlaw01_U128Order.f (k : Nat) (a0_0 : Int) (a0_1 : Int) (a1_0 : Int) (a1_1 : Int) (a2_0 : Int) (a2_1 : Int) : Option (Bool) := (paymasterlaw01_awake.f).bind fun t1187 => (if t1187 = true then ((u128_Cmp.f k a0_0 a0_1 a1_0 a1_1).bind fun t1192 => ((u128_Cmp.f k a1_0 a1_1 a2_0 a2_1).bind fun t1193 => ((u128_Cmp.f k a0_0 a0_1 a2_0 a2_1).bind fun t1194 => (if ((t1192 == 0) != (a0_0 == a1_0 && (a0_1 == a1_1))) = true then (none) else ((u128_Cmp.f k a1_0 a1_1 a0_0 a0_1).bind fun t1195 => (if t1192 = (wrap64 (-t1195)) then (if t1192 < (-1) then (none) else (if t1192 > 1 then (none) else (if t1192 ≤ 0 then (if t1193 ≤ 0 then (paymasterlaw01_U128Order.j0 k t1192 (decide (t1194 > 0)) a0_0 a0_1 a1_0 a1_1 a2_0 a2_1) else (paymasterlaw01_U128Order.j0 k t1192 false a0_0 a0_1 a1_0 a1_1 a2_0 a2_1)) else (paymasterlaw01_U128Order.j0 k t1192 false a0_0 a0_1 a1_0 a1_1 a2_0 a2_1)))) else (none))))))) else (none))
def paymasterlaw01_U128Order.T3 : Bool × List (List Nat × List Nat) := (true, [([], []), ([], []), ([0, 1], [0, 1]), ([], []), ([], []), ([3, 4, 2], [3, 4]), ([], []), ([], []), ([6, 7, 5], [6, 7]), ([2, 8, 0, 1, 2], [2]), ([5, 9, 0, 1, 2, 3, 4, 5, 9], [5]), ([8, 10, 0, 1, 2, 3, 4, 5, 6, 7, 8, 9, 10], [8])])
def paymasterlaw01_U128Order.B3 : List Nat := [0, 0, 3, 0, 0, 31, 0, 0, 255, 511, 1023, 2047]
theorem paymasterlaw01_U128Order.tab3 : rtab .any (opsOf Try.f14 3) = paymasterlaw01_U128Order.T3 := by kernel_rfl
theorem paymasterlaw01_U128Order.bits3 : waitsOk paymasterlaw01_U128Order.T3.2 paymasterlaw01_U128Order.B3 = true := by kernel_rfl
set_option maxHeartbeats 8000000 in
set_option maxRecDepth 100000 in
theorem paymasterlaw01_U128Order.calls (k : Nat) (a0_0 : Int) (a0_1 : Int) (a1_0 : Int) (a1_1 : Int) (a2_0 : Int) (a2_1 : Int) (r : Bool) (w : World) (h : paymasterlaw01_U128Order.f k a0_0 a0_1 a1_0 a1_1 a2_0 a2_1 = some r) :
    Calls Try.prog 14 #[.agg #[.int .u64 a0_0, .int .u64 a0_1], .agg #[.int .u64 a1_0, .int .u64 a1_1], .agg #[.int .u64 a2_0, .int .u64 a2_1]] w fun e w' => e = .returned (.bool r) ∧ Below w.heap.size w w' := by
  have hu25 := Try.underlying25
  have HB := Aside0.mk (Below.refl w.heap.size w)
  have H : ((paymasterlaw01_awake.f).bind fun t1187 => (if t1187 = true then ((u128_Cmp.f k a0_0 a0_1 a1_0 a1_1).bind fun t1192 => ((u128_Cmp.f k a1_0 a1_1 a2_0 a2_1).bind fun t1193 => ((u128_Cmp.f k a0_0 a0_1 a2_0 a2_1).bind fun t1194 => (if ((t1192 == 0) != (a0_0 == a1_0 && (a0_1 == a1_1))) = true then (none) else ((u128_Cmp.f k a1_0 a1_1 a0_0 a0_1).bind fun t1195 => (if t1192 = (wrap64 (-t1195)) then (if t1192 < (-1) then (none) else (if t1192 > 1 then (none) else (if t1192 ≤ 0 then (if t1193 ≤ 0 then (paymasterlaw01_U128Order.j0 k t1192 (decide (t1194 > 0)) a0_0 a0_1 a1_0 a1_1 a2_0 a2_1) else (paymasterlaw01_U128Order.j0 k t1192 false a0_0 a0_1 a1_0 a1_1 a2_0 a2_1)) else (paymasterlaw01_U128Order.j0 k t1192 false a0_0 a0_1 a1_0 a1_1 a2_0 a2_1)))) else (none))))))) else (none))) = some r := h
  clear h
  replace H := Option.bind_eq_some_iff.mp H
  obtain ⟨t1187, A40, H⟩ := H
  replace H : (if t1187 = true then ((u128_Cmp.f k a0_0 a0_1 a1_0 a1_1).bind fun t1192 => ((u128_Cmp.f k a1_0 a1_1 a2_0 a2_1).bind fun t1193 => ((u128_Cmp.f k a0_0 a0_1 a2_0 a2_1).bind fun t1194 => (if ((t1192 == 0) != (a0_0 == a1_0 && (a0_1 == a1_1))) = true then (none) else ((u128_Cmp.f k a1_0 a1_1 a0_0 a0_1).bind fun t1195 => (if t1192 = (wrap64 (-t1195)) then (if t1192 < (-1) then (none) else (if t1192 > 1 then (none) else (if t1192 ≤ 0 then (if t1193 ≤ 0 then (paymasterlaw01_U128Order.j0 k t1192 (decide (t1194 > 0)) a0_0 a0_1 a1_0 a1_1 a2_0 a2_1) else (paymasterlaw01_U128Order.j0 k t1192 false a0_0 a0_1 a1_0 a1_1 a2_0 a2_1)) else (paymasterlaw01_U128Order.j0 k t1192 false a0_0 a0_1 a1_0 a1_1 a2_0 a2_1)))) else (none))))))) else (none)) = some r := H
  have A4 := Aside0.mk A40
  clear A40
  by_cases c5 : t1187 = true
  · subst c5
    have H1 : ((u128_Cmp.f k a0_0 a0_1 a1_0 a1_1).bind fun t1192 => ((u128_Cmp.f k a1_0 a1_1 a2_0 a2_1).bind fun t1193 => ((u128_Cmp.f k a0_0 a0_1 a2_0 a2_1).bind fun t1194 => (if ((t1192 == 0) != (a0_0 == a1_0 && (a0_1 == a1_1))) = true then (none) else ((u128_Cmp.f k a1_0 a1_1 a0_0 a0_1).bind fun t1195 => (if t1192 = (wrap64 (-t1195)) then (if t1192 < (-1) then (none) else (if t1192 > 1 then (none) else (if t1192 ≤ 0 then (if t1193 ≤ 0 then (paymasterlaw01_U128Order.j0 k t1192 (decide (t1194 > 0)) a0_0 a0_1 a1_0 a1_1 a2_0 a2_1) else (paymasterlaw01_U128Order.j0 k t1192 false a0_0 a0_1 a1_0 a1_1 a2_0 a2_1)) else (paymasterlaw01_U128Order.j0 k t1192 false a0_0 a0_1 a1_0 a1_1 a2_0 a2_1)))) else (none))))))) = some r := by rw [if_pos rfl] at H; exact H
    clear H
    have H := H1
    clear H1
    replace H := Option.bind_eq_some_iff.mp H
    obtain ⟨t1192, A60, H⟩ := H
    replace H : ((u128_Cmp.f k a1_0 a1_1 a2_0 a2_1).bind fun t1193 => ((u128_Cmp.f k a0_0 a0_1 a2_0 a2_1).bind fun t1194 => (if ((t1192 == 0) != (a0_0 == a1_0 && (a0_1 == a1_1))) = true then (none) else ((u128_Cmp.f k a1_0 a1_1 a0_0 a0_1).bind fun t1195 => (if t1192 = (wrap64 (-t1195)) then (if t1192 < (-1) then (none) else (if t1192 > 1 then (none) else (if t1192 ≤ 0 then (if t1193 ≤ 0 then (paymasterlaw01_U128Order.j0 k t1192 (decide (t1194 > 0)) a0_0 a0_1 a1_0 a1_1 a2_0 a2_1) else (paymasterlaw01_U128Order.j0 k t1192 false a0_0 a0_1 a1_0 a1_1 a2_0 a2_1)) else (paymasterlaw01_U128Order.j0 k t1192 false a0_0 a0_1 a1_0 a1_1 a2_0 a2_1)))) else (none)))))) = some r := H
    have A6 := Aside0.mk A60
    clear A60
    replace H := Option.bind_eq_some_iff.mp H
    obtain ⟨t1193, A70, H⟩ := H
    replace H : ((u128_Cmp.f k a0_0 a0_1 a2_0 a2_1).bind fun t1194 => (if ((t1192 == 0) != (a0_0 == a1_0 && (a0_1 == a1_1))) = true then (none) else ((u128_Cmp.f k a1_0 a1_1 a0_0 a0_1).bind fun t1195 => (if t1192 = (wrap64 (-t1195)) then (if t1192 < (-1) then (none) else (if t1192 > 1 then (none) else (if t1192 ≤ 0 then (if t1193 ≤ 0 then (paymasterlaw01_U128Order.j0 k t1192 (decide (t1194 > 0)) a0_0 a0_1 a1_0 a1_1 a2_0 a2_1) else (paymasterlaw01_U128Order.j0 k t1192 false a0_0 a0_1 a1_0 a1_1 a2_0 a2_1)) else (paymasterlaw01_U128Order.j0 k t1192 false a0_0 a0_1 a1_0 a1_1 a2_0 a2_1)))) else (none))))) = some r := H
    have A7 := Aside0.mk A70
    clear A70
    replace H := Option.bind_eq_some_iff.mp H
    obtain ⟨t1194, A80, H⟩ := H
    replace H : (if ((t1192 == 0) != (a0_0 == a1_0 && (a0_1 == a1_1))) = true then (none) else ((u128_Cmp.f k a1_0 a1_1 a0_0 a0_1).bind fun t1195 => (if t1192 = (wrap64 (-t1195)) then (if t1192 < (-1) then (none) else (if t1192 > 1 then (none) else (if t1192 ≤ 0 then (if t1193 ≤ 0 then (paymasterlaw01_U128Order.j0 k t1192 (decide (t1194 > 0)) a0_0 a0_1 a1_0 a1_1 a2_0 a2_1) else (paymasterlaw01_U128Order.j0 k t1192 false a0_0 a0_1 a1_0 a1_1 a2_0 a2_1)) else (paymasterlaw01_U128Order.j0 k t1192 false a0_0 a0_1 a1_0 a1_1 a2_0 a2_1)))) else (none)))) = some r := H
    have A8 := Aside0.mk A80
    clear A80
    have HC9 := Aside0.mk H
    clear H
    go_enter Try.func14, Try.ntmps14
    try go_wp2_with (first | ((with_reducible refine gate_dst (N := 3) rfl ?_); refine box_event ?hg (N := 3) ?hd (cs := #[.int .u64 a0_0, .int .u64 a0_1]) (t := 25) ?hr ?_; (case hd => rfl); (case hg => rfl); (case hr => first | (go_simp; done) | (go_simp; rfl)); intro gb1184 hg w10 hbox hb; have n0_ := Aside0.mk (below_step (by repeat (first | (with_reducible first | exact HB.out | apply below_alloc | apply pw_below_drewN | apply below_drew1) | exact HB.out)) hb); have n1_ := Aside0.mk (hbox); have n2_ := Aside0.mk ((by rw [hg]; exact (below_size (by repeat (first | (with_reducible first | exact HB.out | apply below_alloc | apply pw_below_drewN | apply below_drew1) | exact HB.out))) : w.heap.size ≤ gb1184)); have n3_ := Aside0.mk ((by rw [hg]; exact (below_size (by repeat (first | (with_reducible first | exact HB.out | apply below_alloc | apply pw_below_drewN | apply below_drew1) | exact HB.out))) : w.heap.size ≤ gb1184)); clear HB; have HB := n0_; have BK1184 := n1_; have GW1184 := n2_; have GE1184 := n3_; clear n0_ n1_ n2_ n3_; clear hb hbox hg) | ((with_reducible refine gate_dst (N := 4) rfl ?_); refine box_event ?hg (N := 4) ?hd (cs := #[.int .u64 a1_0, .int .u64 a1_1]) (t := 25) ?hr ?_; (case hd => rfl); (case hg => rfl); (case hr => first | (go_simp; done) | (go_simp; rfl)); intro gb1185 hg w11 hbox hb; have n0_ := Aside0.mk (blk_below (g := gb1184) (o := .cells #[.int .u64 a0_0, .int .u64 a0_1] 25 (0, 0)) (by (with_reducible repeat (first | refine blk_drewN ?_ _ | refine blk_drew ?_ | refine blk_alloc ?_ _)); exact BK1184.out) hb); have n1_ := Aside0.mk (below_step (by repeat (first | (with_reducible first | exact HB.out | apply below_alloc | apply pw_below_drewN | apply below_drew1 | refine below_set ?_ GE1184.out) | exact HB.out)) hb); have n2_ := Aside0.mk (hbox); have n3_ := Aside0.mk ((by rw [hg]; exact (below_size (by repeat (first | (with_reducible first | exact HB.out | apply below_alloc | apply pw_below_drewN | apply below_drew1 | refine below_set ?_ GE1184.out) | exact HB.out))) : w.heap.size ≤ gb1185)); have n4_ := Aside0.mk ((by rw [hg]; exact (below_size (by repeat (first | (with_reducible first | exact HB.out | apply below_alloc | apply pw_below_drewN | apply below_drew1 | refine below_set ?_ GE1184.out) | exact HB.out))) : w.heap.size ≤ gb1185)); have n5_ := Aside0.mk ((by rw [hg]; exact Nat.ne_of_lt (blk_lt (g := gb1184) (o := .cells #[.int .u64 a0_0, .int .u64 a0_1] 25 (0, 0)) (by (with_reducible repeat (first | refine blk_drewN ?_ _ | refine blk_drew ?_ | refine blk_alloc ?_ _)); exact BK1184.out)) : gb1184 ≠ gb1185)); have n6_ := Aside0.mk ((by rw [hg]; exact Nat.ne_of_gt (blk_lt (g := gb1184) (o := .cells #[.int .u64 a0_0, .int .u64 a0_1] 25 (0, 0)) (by (with_reducible repeat (first | refine blk_drewN ?_ _ | refine blk_drew ?_ | refine blk_alloc ?_ _)); exact BK1184.out)) : gb1185 ≠ gb1184)); clear BK1184; clear HB; have BK1184 := n0_; have HB := n1_; have BK1185 := n2_; have GW1185 := n3_; have GE1185 := n4_; have NB1184_1185 := n5_; have NB1185_1184 := n6_; clear n0_ n1_ n2_ n3_ n4_ n5_ n6_; clear hb hbox hg) | ((with_reducible refine gate_dst (N := 5) rfl ?_); refine box_event ?hg (N := 5) ?hd (cs := #[.int .u64 a2_0, .int .u64 a2_1]) (t := 25) ?hr ?_; (case hd => rfl); (case hg => rfl); (case hr => first | (go_simp; done) | (go_simp; rfl)); intro gb1186 hg w12 hbox hb; have n0_ := Aside0.mk (blk_below (g := gb1184) (o := .cells #[.int .u64 a0_0, .int .u64 a0_1] 25 (0, 0)) (by (with_reducible repeat (first | refine blk_drewN ?_ _ | refine blk_drew ?_ | refine blk_alloc ?_ _)); exact BK1184.out) hb); have n1_ := Aside0.mk (blk_below (g := gb1185) (o := .cells #[.int .u64 a1_0, .int .u64 a1_1] 25 (0, 0)) (by (with_reducible repeat (first | refine blk_drewN ?_ _ | refine blk_drew ?_ | refine blk_alloc ?_ _)); exact BK1185.out) hb); have n2_ := Aside0.mk (below_step (by repeat (first | (with_reducible first | exact HB.out | apply below_alloc | apply pw_below_drewN | apply below_drew1 | refine below_set ?_ GE1184.out | refine below_set ?_ GE1185.out) | exact HB.out)) hb); have n3_ := Aside0.mk (hbox); have n4_ := Aside0.mk ((by rw [hg]; exact (below_size (by repeat (first | (with_reducible first | exact HB.out | apply below_alloc | apply pw_below_drewN | apply below_drew1 | refine below_set ?_ GE1184.out | refine below_set ?_ GE1185.out) | exact HB.out))) : w.heap.size ≤ gb1186)); have n5_ := Aside0.mk ((by rw [hg]; exact (below_size (by repeat (first | (with_reducible first | exact HB.out | apply below_alloc | apply pw_below_drewN | apply below_drew1 | refine below_set ?_ GE1184.out | refine below_set ?_ GE1185.out) | exact HB.out))) : w.heap.size ≤ gb1186)); have n6_ := Aside0.mk ((by rw [hg]; exact Nat.ne_of_lt (blk_lt (g := gb1184) (o := .cells #[.int .u64 a0_0, .int .u64 a0_1] 25 (0, 0)) (by (with_reducible repeat (first | refine blk_drewN ?_ _ | refine blk_drew ?_ | refine blk_alloc ?_ _)); exact BK1184.out)) : gb1184 ≠ gb1186)); have n7_ := Aside0.mk ((by rw [hg]; exact Nat.ne_of_gt (blk_lt (g := gb1184) (o := .cells #[.int .u64 a0_0, .int .u64 a0_1] 25 (0, 0)) (by (with_reducible repeat (first | refine blk_drewN ?_ _ | refine blk_drew ?_ | refine blk_alloc ?_ _)); exact BK1184.out)) : gb1186 ≠ gb1184)); have n8_ := Aside0.mk ((by rw [hg]; exact Nat.ne_of_lt (blk_lt (g := gb1185) (o := .cells #[.int .u64 a1_0, .int .u64 a1_1] 25 (0, 0)) (by (with_reducible repeat (first | refine blk_drewN ?_ _ | refine blk_drew ?_ | refine blk_alloc ?_ _)); exact BK1185.out)) : gb1185 ≠ gb1186)); have n9_ := Aside0.mk ((by rw [hg]; exact Nat.ne_of_gt (blk_lt (g := gb1185) (o := .cells #[.int .u64 a1_0, .int .u64 a1_1] 25 (0, 0)) (by (with_reducible repeat (first | refine blk_drewN ?_ _ | refine blk_drew ?_ | refine blk_alloc ?_ _)); exact BK1185.out)) : gb1186 ≠ gb1185)); clear BK1184; clear BK1185; clear HB; have BK1184 := n0_; have BK1185 := n1_; have HB := n2_; have BK1186 := n3_; have GW1186 := n4_; have GE1186 := n5_; have NB1184_1186 := n6_; have NB1186_1184 := n7_; have NB1185_1186 := n8_; have NB1186_1185 := n9_; clear n0_ n1_ n2_ n3_ n4_ n5_ n6_ n7_ n8_ n9_; clear hb hbox hg) | ((with_reducible refine gate_callee (f := 66) rfl ?_); refine goesL_ (some 18) rfl rfl Try.func66 (by kernel_rfl) rfl #[] rfl (by (try simp only [List.map_toArray, List.map_cons, List.map_nil]); first | done | rfl | (simp only [List.length_drop, List.length_take]; rfl)) ?_; (with_reducible refine (paymasterlaw01_awake.calls  true _ A4.out).mono ?_); rintro e w13 ⟨rfl, hb⟩; refine ⟨_, rfl, ?_⟩; have n0_ := Aside0.mk (blk_below (g := gb1184) (o := .cells #[.int .u64 a0_0, .int .u64 a0_1] 25 (0, 0)) (by (with_reducible repeat (first | refine blk_drewN ?_ _ | refine blk_drew ?_ | refine blk_alloc ?_ _)); exact BK1184.out) hb); have n1_ := Aside0.mk (blk_below (g := gb1185) (o := .cells #[.int .u64 a1_0, .int .u64 a1_1] 25 (0, 0)) (by (with_reducible repeat (first | refine blk_drewN ?_ _ | refine blk_drew ?_ | refine blk_alloc ?_ _)); exact BK1185.out) hb); have n2_ := Aside0.mk (blk_below (g := gb1186) (o := .cells #[.int .u64 a2_0, .int .u64 a2_1] 25 (0, 0)) (by (with_reducible repeat (first | refine blk_drewN ?_ _ | refine blk_drew ?_ | refine blk_alloc ?_ _)); exact BK1186.out) hb); have n3_ := Aside0.mk (below_step (by repeat (first | (with_reducible first | exact HB.out | apply below_alloc | apply pw_below_drewN | apply below_drew1 | refine below_set ?_ GE1184.out | refine below_set ?_ GE1185.out | refine below_set ?_ GE1186.out) | exact HB.out)) hb); clear BK1184; clear BK1185; clear BK1186; clear HB; have BK1184 := n0_; have BK1185 := n1_; have BK1186 := n2_; have HB := n3_; clear n0_ n1_ n2_ n3_; (try clear hb); (try clear hb2); (try clear hk); (try clear hi)))
    have n0_ := Aside0.mk (blk_drew BK1184.out)
    have n1_ := Aside0.mk (blk_drew BK1185.out)
    have n2_ := Aside0.mk (blk_drew BK1186.out)
    have n3_ := Aside0.mk (below_drew1 HB.out)
    clear BK1184
    clear BK1185
    clear BK1186
    clear HB
    have BK1184 := n0_
    have BK1185 := n1_
    have BK1186 := n2_
    have HB := n3_
    clear n0_ n1_ n2_ n3_
    refine start_ (n := 12) (S := fun w' => w'.cell? ⟨gb1184, 0, none⟩ = some (.int .u64 a0_0) ∧ w'.cell? ⟨gb1184, 1, none⟩ = some (.int .u64 a0_1) ∧ w'.cell? ⟨gb1185, 0, none⟩ = some (.int .u64 a1_0) ∧ w'.cell? ⟨gb1185, 1, none⟩ = some (.int .u64 a1_1) ∧ w'.cell? ⟨gb1186, 0, none⟩ = some (.int .u64 a2_0) ∧ w'.cell? ⟨gb1186, 1, none⟩ = some (.int .u64 a2_1)) (ds := []) #[false, false, false, false, false, false, false, false, false, false, false, false] (by kernel_rfl) rfl rfl ⟨(blk_cell BK1184.out 0).trans rfl, (blk_cell BK1184.out 1).trans rfl, (blk_cell BK1185.out 0).trans rfl, (blk_cell BK1185.out 1).trans rfl, (blk_cell BK1186.out 0).trans rfl, (blk_cell BK1186.out 1).trans rfl⟩ (fun hHeld => ?_); refine with_tabW paymasterlaw01_U128Order.tab3 paymasterlaw01_U128Order.bits3 (fun HT_ HW_ => ?_)
    generalize w13.drew = w14 at BK1184 BK1185 BK1186 HB hHeld ⊢
    refine take_ (i := 0) (N := some 20) (v := ?_) (a' := ?_) #[true, false, false, false, false, false, false, false, false, false, false, false] rfl rfl (take_ofW HT_.out HW_.out (by kernel_rfl)) (fun _ _ _ h => h) (Or.inl ⟨by rfl, ?_⟩) hHeld ?_ ?_
    rotate_left
    · rintro w' ⟨s0, s1, s2, s3, s4, s5⟩
      go_simp
      with_reducible rfl
    rotate_left
    · simp only [Act.put, List.setIfInBounds_toArray, List.set_cons_zero, List.set_cons_succ, i64_w, i32_w]
      rfl
    refine take_ (i := 1) (N := some 21) (v := ?_) (a' := ?_) #[true, true, false, false, false, false, false, false, false, false, false, false] rfl rfl (take_ofW HT_.out HW_.out (by kernel_rfl)) (fun _ _ _ h => h) (Or.inl ⟨by rfl, ?_⟩) hHeld ?_ ?_
    rotate_left
    · rintro w' ⟨s0, s1, s2, s3, s4, s5⟩
      go_simp
      with_reducible rfl
    rotate_left
    · simp only [Act.put, List.setIfInBounds_toArray, List.set_cons_zero, List.set_cons_succ, i64_w, i32_w]
      rfl
    refine take_ (i := 3) (N := some 23) (v := ?_) (a' := ?_) #[true, true, false, true, false, false, false, false, false, false, false, false] rfl rfl (take_ofW HT_.out HW_.out (by kernel_rfl)) (fun _ _ _ h => h) (Or.inl ⟨by rfl, ?_⟩) hHeld ?_ ?_
    rotate_left
    · rintro w' ⟨s0, s1, s2, s3, s4, s5⟩
      go_simp
      with_reducible rfl
    rotate_left
    · simp only [Act.put, List.setIfInBounds_toArray, List.set_cons_zero, List.set_cons_succ, i64_w, i32_w]
      rfl
    refine take_ (i := 4) (N := some 24) (v := ?_) (a' := ?_) #[true, true, false, true, true, false, false, false, false, false, false, false] rfl rfl (take_ofW HT_.out HW_.out (by kernel_rfl)) (fun _ _ _ h => h) (Or.inl ⟨by rfl, ?_⟩) hHeld ?_ ?_
    rotate_left
    · rintro w' ⟨s0, s1, s2, s3, s4, s5⟩
      go_simp
      with_reducible rfl
    rotate_left
    · simp only [Act.put, List.setIfInBounds_toArray, List.set_cons_zero, List.set_cons_succ, i64_w, i32_w]
      rfl
    refine take_ (i := 6) (N := some 26) (v := ?_) (a' := ?_) #[true, true, false, true, true, false, true, false, false, false, false, false] rfl rfl (take_ofW HT_.out HW_.out (by kernel_rfl)) (fun _ _ _ h => h) (Or.inl ⟨by rfl, ?_⟩) hHeld ?_ ?_
    rotate_left
    · rintro w' ⟨s0, s1, s2, s3, s4, s5⟩
      go_simp
      with_reducible rfl
    rotate_left
    · simp only [Act.put, List.setIfInBounds_toArray, List.set_cons_zero, List.set_cons_succ, i64_w, i32_w]
      rfl
    refine take_ (i := 7) (N := some 27) (v := ?_) (a' := ?_) #[true, true, false, true, true, false, true, true, false, false, false, false] rfl rfl (take_ofW HT_.out HW_.out (by kernel_rfl)) (fun _ _ _ h => h) (Or.inl ⟨by rfl, ?_⟩) hHeld ?_ ?_
    rotate_left
    · rintro w' ⟨s0, s1, s2, s3, s4, s5⟩
      go_simp
      with_reducible rfl
    rotate_left
    · simp only [Act.put, List.setIfInBounds_toArray, List.set_cons_zero, List.set_cons_succ, i64_w, i32_w]
      rfl
    refine one_ (i := 2) (N := some 22) #[true, true, true, true, true, false, true, true, false, false, false, false] rfl rfl (one_of HT_.out (by kernel_rfl)) (by decide) (fun K hK => ?_)
    refine goes_ Try.func49 (by kernel_rfl) rfl #[.agg #[.int .u64 a0_0, .int .u64 a0_1], .agg #[.int .u64 a1_0, .int .u64 a1_1]] (by rfl) rfl rfl (by (try simp only [List.map_toArray, List.map_cons, List.map_nil]); first | done | rfl | (simp only [List.length_drop, List.length_take]; rfl)) ?_
    with_reducible refine (u128_Cmp.calls k a0_0 a0_1 a1_0 a1_1 t1192 _ A6.out).mono ?_
    rintro e w15 ⟨rfl, hb⟩
    refine ⟨_, rfl, ?_⟩
    have n0_ := Aside0.mk (blk_below (g := gb1184) (o := .cells #[.int .u64 a0_0, .int .u64 a0_1] 25 (0, 0)) (by (with_reducible repeat (first | refine blk_drewN ?_ _ | refine blk_drew ?_ | refine blk_alloc ?_ _)); exact BK1184.out) hb)
    have n1_ := Aside0.mk (blk_below (g := gb1185) (o := .cells #[.int .u64 a1_0, .int .u64 a1_1] 25 (0, 0)) (by (with_reducible repeat (first | refine blk_drewN ?_ _ | refine blk_drew ?_ | refine blk_alloc ?_ _)); exact BK1185.out) hb)
    have n2_ := Aside0.mk (blk_below (g := gb1186) (o := .cells #[.int .u64 a2_0, .int .u64 a2_1] 25 (0, 0)) (by (with_reducible repeat (first | refine blk_drewN ?_ _ | refine blk_drew ?_ | refine blk_alloc ?_ _)); exact BK1186.out) hb)
    have n3_ := Aside0.mk (below_step (by repeat (first | (with_reducible first | exact HB.out | apply below_alloc | apply pw_below_drewN | apply below_drew1 | refine below_set ?_ GE1184.out | refine below_set ?_ GE1185.out | refine below_set ?_ GE1186.out) | exact HB.out)) hb)
    clear BK1184
    clear BK1185
    clear BK1186
    clear HB
    have BK1184 := n0_
    have BK1185 := n1_
    have BK1186 := n2_
    have HB := n3_
    clear n0_ n1_ n2_ n3_
    (try clear hb)
    (try clear hb2)
    (try clear hk)
    (try clear hi)
    refine hK.out _ _ ⟨(blk_cell BK1184.out 0).trans rfl, (blk_cell BK1184.out 1).trans rfl, (blk_cell BK1185.out 0).trans rfl, (blk_cell BK1185.out 1).trans rfl, (blk_cell BK1186.out 0).trans rfl, (blk_cell BK1186.out 1).trans rfl⟩ (fun hHeld => ?_)
    clear hK K
    refine norm_ (a' := ?_) ?_ ?_
    rotate_left
    · show Act.put _ (some 22) _ = _
      simp only [Act.put, List.setIfInBounds_toArray, List.set_cons_zero, List.set_cons_succ, i64_w, i32_w]
      rfl
    refine one_ (i := 5) (N := some 25) #[true, true, true, true, true, true, true, true, false, false, false, false] rfl rfl (one_of HT_.out (by kernel_rfl)) (by decide) (fun K hK => ?_)
    refine goes_ Try.func49 (by kernel_rfl) rfl #[.agg #[.int .u64 a1_0, .int .u64 a1_1], .agg #[.int .u64 a2_0, .int .u64 a2_1]] (by rfl) rfl rfl (by (try simp only [List.map_toArray, List.map_cons, List.map_nil]); first | done | rfl | (simp only [List.length_drop, List.length_take]; rfl)) ?_
    with_reducible refine (u128_Cmp.calls k a1_0 a1_1 a2_0 a2_1 t1193 _ A7.out).mono ?_
    rintro e w16 ⟨rfl, hb⟩
    refine ⟨_, rfl, ?_⟩
    have n0_ := Aside0.mk (blk_below (g := gb1184) (o := .cells #[.int .u64 a0_0, .int .u64 a0_1] 25 (0, 0)) (by (with_reducible repeat (first | refine blk_drewN ?_ _ | refine blk_drew ?_ | refine blk_alloc ?_ _)); exact BK1184.out) hb)
    have n1_ := Aside0.mk (blk_below (g := gb1185) (o := .cells #[.int .u64 a1_0, .int .u64 a1_1] 25 (0, 0)) (by (with_reducible repeat (first | refine blk_drewN ?_ _ | refine blk_drew ?_ | refine blk_alloc ?_ _)); exact BK1185.out) hb)
    have n2_ := Aside0.mk (blk_below (g := gb1186) (o := .cells #[.int .u64 a2_0, .int .u64 a2_1] 25 (0, 0)) (by (with_reducible repeat (first | refine blk_drewN ?_ _ | refine blk_drew ?_ | refine blk_alloc ?_ _)); exact BK1186.out) hb)
    have n3_ := Aside0.mk (below_step (by repeat (first | (with_reducible first | exact HB.out | apply below_alloc | apply pw_below_drewN | apply below_drew1 | refine below_set ?_ GE1184.out | refine below_set ?_ GE1185.out | refine below_set ?_ GE1186.out) | exact HB.out)) hb)
    clear BK1184
    clear BK1185
    clear BK1186
    clear HB
    have BK1184 := n0_
    have BK1185 := n1_
    have BK1186 := n2_
    have HB := n3_
    clear n0_ n1_ n2_ n3_
    (try clear hb)
    (try clear hb2)
    (try clear hk)
    (try clear hi)
    refine hK.out _ _ ⟨(blk_cell BK1184.out 0).trans rfl, (blk_cell BK1184.out 1).trans rfl, (blk_cell BK1185.out 0).trans rfl, (blk_cell BK1185.out 1).trans rfl, (blk_cell BK1186.out 0).trans rfl, (blk_cell BK1186.out 1).trans rfl⟩ (fun hHeld => ?_)
    clear hK K
    refine norm_ (a' := ?_) ?_ ?_
    rotate_left
    · show Act.put _ (some 25) _ = _
      simp only [Act.put, List.setIfInBounds_toArray, List.set_cons_zero, List.set_cons_succ, i64_w, i32_w]
      rfl
    refine one_ (i := 8) (N := some 28) #[true, true, true, true, true, true, true, true, true, false, false, false] rfl rfl (one_of HT_.out (by kernel_rfl)) (by decide) (fun K hK => ?_)
    refine goes_ Try.func49 (by kernel_rfl) rfl #[.agg #[.int .u64 a0_0, .int .u64 a0_1], .agg #[.int .u64 a2_0, .int .u64 a2_1]] (by rfl) rfl rfl (by (try simp only [List.map_toArray, List.map_cons, List.map_nil]); first | done | rfl | (simp only [List.length_drop, List.length_take]; rfl)) ?_
    with_reducible refine (u128_Cmp.calls k a0_0 a0_1 a2_0 a2_1 t1194 _ A8.out).mono ?_
    rintro e w17 ⟨rfl, hb⟩
    refine ⟨_, rfl, ?_⟩
    have n0_ := Aside0.mk (blk_below (g := gb1184) (o := .cells #[.int .u64 a0_0, .int .u64 a0_1] 25 (0, 0)) (by (with_reducible repeat (first | refine blk_drewN ?_ _ | refine blk_drew ?_ | refine blk_alloc ?_ _)); exact BK1184.out) hb)
    have n1_ := Aside0.mk (blk_below (g := gb1185) (o := .cells #[.int .u64 a1_0, .int .u64 a1_1] 25 (0, 0)) (by (with_reducible repeat (first | refine blk_drewN ?_ _ | refine blk_drew ?_ | refine blk_alloc ?_ _)); exact BK1185.out) hb)
    have n2_ := Aside0.mk (blk_below (g := gb1186) (o := .cells #[.int .u64 a2_0, .int .u64 a2_1] 25 (0, 0)) (by (with_reducible repeat (first | refine blk_drewN ?_ _ | refine blk_drew ?_ | refine blk_alloc ?_ _)); exact BK1186.out) hb)
    have n3_ := Aside0.mk (below_step (by repeat (first | (with_reducible first | exact HB.out | apply below_alloc | apply pw_below_drewN | apply below_drew1 | refine below_set ?_ GE1184.out | refine below_set ?_ GE1185.out | refine below_set ?_ GE1186.out) | exact HB.out)) hb)
    clear BK1184
    clear BK1185
    clear BK1186
    clear HB
    have BK1184 := n0_
    have BK1185 := n1_
    have BK1186 := n2_
    have HB := n3_
    clear n0_ n1_ n2_ n3_
    (try clear hb)
    (try clear hb2)
    (try clear hk)
    (try clear hi)
    refine hK.out _ _ ⟨(blk_cell BK1184.out 0).trans rfl, (blk_cell BK1184.out 1).trans rfl, (blk_cell BK1185.out 0).trans rfl, (blk_cell BK1185.out 1).trans rfl, (blk_cell BK1186.out 0).trans rfl, (blk_cell BK1186.out 1).trans rfl⟩ (fun hHeld => ?_)
    clear hK K
    refine norm_ (a' := ?_) ?_ ?_
    rotate_left
    · show Act.put _ (some 28) _ = _
      simp only [Act.put, List.setIfInBounds_toArray, List.set_cons_zero, List.set_cons_succ, i64_w, i32_w]
      rfl
    refine pure_ (i := 9) (N := some 7) (v := ?_) (a' := ?_) #[true, true, true, true, true, true, true, true, true, true, false, false] rfl rfl (any_of HT_.out (by kernel_rfl)) (fun _ _ _ h => h) (Or.inl ⟨by rfl, ?_⟩) ?_ ?_
    rotate_left
    · intro w'
      go_simp
      with_reducible rfl
    rotate_left
    · simp only [Act.put, List.setIfInBounds_toArray, List.set_cons_zero, List.set_cons_succ, i64_w, i32_w]
      rfl
    refine pure_ (i := 10) (N := some 8) (v := ?_) (a' := ?_) #[true, true, true, true, true, true, true, true, true, true, true, false] rfl rfl (any_of HT_.out (by kernel_rfl)) (fun _ _ _ h => h) (Or.inl ⟨by rfl, ?_⟩) ?_ ?_
    rotate_left
    · intro w'
      go_simp
      with_reducible rfl
    rotate_left
    · simp only [Act.put, List.setIfInBounds_toArray, List.set_cons_zero, List.set_cons_succ, i64_w, i32_w]
      rfl
    refine pure_ (i := 11) (N := some 9) (v := ?_) (a' := ?_) #[true, true, true, true, true, true, true, true, true, true, true, true] rfl rfl (any_of HT_.out (by kernel_rfl)) (fun _ _ _ h => h) (Or.inl ⟨by rfl, ?_⟩) ?_ ?_
    rotate_left
    · intro w'
      go_simp
      with_reducible rfl
    rotate_left
    · simp only [Act.put, List.setIfInBounds_toArray, List.set_cons_zero, List.set_cons_succ, i64_w, i32_w]
      rfl
    refine done_ (done_of HT_.out (by kernel_rfl)) ?_
    go_upto_region 4 with (fail)
    go_cut [62] (fun v62 wc => ∃ (kq : Nat) (x62_8 : Bool), v62 = .bool x62_8 ∧ Aside0 (paymasterlaw01_U128Order.j0 kq t1192 x62_8 a0_0 a0_1 a1_0 a1_1 a2_0 a2_1 = some r) ∧ Aside0 (kq ≤ k) ∧ Aside0 (wc.heap[gb1184]? = some (.cells #[.int .u64 a0_0, .int .u64 a0_1] 25 (0, 0))) ∧ Aside0 (wc.heap[gb1185]? = some (.cells #[.int .u64 a1_0, .int .u64 a1_1] 25 (0, 0))) ∧ Aside0 (wc.heap[gb1186]? = some (.cells #[.int .u64 a2_0, .int .u64 a2_1] 25 (0, 0))) ∧ Aside0 (Below w.heap.size w wc))
    case first =>
      have H := HC9.out
      clear HC9
      by_cases c18 : ((t1192 == 0) != (a0_0 == a1_0 && (a0_1 == a1_1))) = true
      · rw [if_pos c18] at H
        exact absurd H (by simp)
      · rw [if_neg c18] at H
        have c18b0 : ((t1192 == 0) != (a0_0 == a1_0 && (a0_1 == a1_1))) = false := by simpa using c18
        (try (have c18b1 : decide ((t1192 == 0) = (a0_0 == a1_0 && (a0_1 == a1_1))) = true := by simpa using c18))
        (try (have c18b2 : ((t1192 == 0) == (a0_0 == a1_0 && (a0_1 == a1_1))) = true := by simpa using c18))
        clear c18
        (first | rw [c18b0] | (simp only [i64_w, i32_w]; rw [c18b0]) | skip)
        replace H := Option.bind_eq_some_iff.mp H
        obtain ⟨t1195, A190, H⟩ := H
        replace H : (if t1192 = (wrap64 (-t1195)) then (if t1192 < (-1) then (none) else (if t1192 > 1 then (none) else (if t1192 ≤ 0 then (if t1193 ≤ 0 then (paymasterlaw01_U128Order.j0 k t1192 (decide (t1194 > 0)) a0_0 a0_1 a1_0 a1_1 a2_0 a2_1) else (paymasterlaw01_U128Order.j0 k t1192 false a0_0 a0_1 a1_0 a1_1 a2_0 a2_1)) else (paymasterlaw01_U128Order.j0 k t1192 false a0_0 a0_1 a1_0 a1_1 a2_0 a2_1)))) else (none)) = some r := H
        have A19 := Aside0.mk A190
        clear A190
        by_cases c20 : t1192 = (wrap64 (-t1195))
        · rw [if_pos c20] at H
          have c20b0 : (t1192 == (wrap64 (-t1195))) = true := beq_iff_eq.mpr c20
          have c20b1 : (t1192 != (wrap64 (-t1195))) = false := bne_eq_false_iff_eq.mpr c20
          clear c20
          by_cases c21 : t1192 < (-1)
          · rw [if_pos c21] at H
            exact absurd H (by simp)
          · rw [if_neg c21] at H
            have c21b0 : decide (t1192 < (-1)) = false := decide_eq_false c21
            clear c21
            by_cases c22 : t1192 > 1
            · rw [if_pos c22] at H
              exact absurd H (by simp)
            · rw [if_neg c22] at H
              have c22b0 : decide (1 < t1192) = false := decide_eq_false c22
              clear c22
              by_cases c23 : t1192 ≤ 0
              · rw [if_pos c23] at H
                have c23b0 : decide (t1192 ≤ 0) = true := decide_eq_true c23
                clear c23
                by_cases c24 : t1193 ≤ 0
                · rw [if_pos c24] at H
                  have c24b0 : decide (t1193 ≤ 0) = true := decide_eq_true c24
                  clear c24
                  have H' := Aside0.mk H
                  clear H
                  have hnb25 := NB1184_1185.out
                  have hnc25 := NB1185_1184.out
                  have hnb26 := NB1184_1186.out
                  have hnc26 := NB1186_1184.out
                  have hcz27_0 : w17.cell? ⟨gb1184, 0, none⟩ = some (.int .u64 a0_0) := (blk_cell BK1184.out 0).trans rfl
                  have hcz27_1 : w17.cell? ⟨gb1184, 1, none⟩ = some (.int .u64 a0_1) := (blk_cell BK1184.out 1).trans rfl
                  have hfz27_0 := blk_frozen BK1184.out 0
                  have hfz27_1 := blk_frozen BK1184.out 1
                  have hnb28 := NB1185_1186.out
                  have hnc28 := NB1186_1185.out
                  have hcz29_0 : w17.cell? ⟨gb1185, 0, none⟩ = some (.int .u64 a1_0) := (blk_cell BK1185.out 0).trans rfl
                  have hcz29_1 : w17.cell? ⟨gb1185, 1, none⟩ = some (.int .u64 a1_1) := (blk_cell BK1185.out 1).trans rfl
                  have hfz29_0 := blk_frozen BK1185.out 0
                  have hfz29_1 := blk_frozen BK1185.out 1
                  go_wp2_with (first | (go_at_call 49; (with_reducible refine (u128_Cmp.calls k a1_0 a1_1 a0_0 a0_1 t1195 _ A19.out).mono ?_); rintro e w30 ⟨rfl, hb⟩; have n0_ := Aside0.mk (blk_below (g := gb1184) (o := .cells #[.int .u64 a0_0, .int .u64 a0_1] 25 (0, 0)) (by (with_reducible repeat (first | refine blk_drewN ?_ _ | refine blk_drew ?_ | refine blk_alloc ?_ _)); exact BK1184.out) hb); have n1_ := Aside0.mk (blk_below (g := gb1185) (o := .cells #[.int .u64 a1_0, .int .u64 a1_1] 25 (0, 0)) (by (with_reducible repeat (first | refine blk_drewN ?_ _ | refine blk_drew ?_ | refine blk_alloc ?_ _)); exact BK1185.out) hb); have n2_ := Aside0.mk (blk_below (g := gb1186) (o := .cells #[.int .u64 a2_0, .int .u64 a2_1] 25 (0, 0)) (by (with_reducible repeat (first | refine blk_drewN ?_ _ | refine blk_drew ?_ | refine blk_alloc ?_ _)); exact BK1186.out) hb); have n3_ := Aside0.mk (below_step (by repeat (first | (with_reducible first | exact HB.out | apply below_alloc | apply pw_below_drewN | apply below_drew1 | refine below_set ?_ GE1184.out | refine below_set ?_ GE1185.out | refine below_set ?_ GE1186.out) | exact HB.out)) hb); clear BK1184; clear BK1185; clear BK1186; clear HB; have BK1184 := n0_; have BK1185 := n1_; have BK1186 := n2_; have HB := n3_; clear n0_ n1_ n2_ n3_; (try clear hb); (try clear hb2); (try clear hk); (try clear hi)))
                  go_meet
                  case rel => exact ⟨_, (decide (t1194 > 0)), (by first | rfl | (simp; done) | (simp [*]; done)), H', ⟨by first | omega | exact Nat.le_refl _⟩, ⟨by (with_reducible repeat (first | refine blk_drewN ?_ _ | refine blk_drew ?_ | refine blk_alloc ?_ _)); exact BK1184.out⟩, ⟨by (with_reducible repeat (first | refine blk_drewN ?_ _ | refine blk_drew ?_ | refine blk_alloc ?_ _)); exact BK1185.out⟩, ⟨by (with_reducible repeat (first | refine blk_drewN ?_ _ | refine blk_drew ?_ | refine blk_alloc ?_ _)); exact BK1186.out⟩, ⟨by repeat (first | (with_reducible first | exact HB.out | apply below_alloc | apply pw_below_drewN | apply below_drew1 | refine below_set ?_ GE1184.out | refine below_set ?_ GE1185.out | refine below_set ?_ GE1186.out) | exact HB.out)⟩⟩
                · rw [if_neg c24] at H
                  have c24b0 : decide (t1193 ≤ 0) = false := decide_eq_false c24
                  clear c24
                  have H' := Aside0.mk H
                  clear H
                  have hnb31 := NB1184_1185.out
                  have hnc31 := NB1185_1184.out
                  have hnb32 := NB1184_1186.out
                  have hnc32 := NB1186_1184.out
                  have hcz33_0 : w17.cell? ⟨gb1184, 0, none⟩ = some (.int .u64 a0_0) := (blk_cell BK1184.out 0).trans rfl
                  have hcz33_1 : w17.cell? ⟨gb1184, 1, none⟩ = some (.int .u64 a0_1) := (blk_cell BK1184.out 1).trans rfl
                  have hfz33_0 := blk_frozen BK1184.out 0
                  have hfz33_1 := blk_frozen BK1184.out 1
                  have hnb34 := NB1185_1186.out
                  have hnc34 := NB1186_1185.out
                  have hcz35_0 : w17.cell? ⟨gb1185, 0, none⟩ = some (.int .u64 a1_0) := (blk_cell BK1185.out 0).trans rfl
                  have hcz35_1 : w17.cell? ⟨gb1185, 1, none⟩ = some (.int .u64 a1_1) := (blk_cell BK1185.out 1).trans rfl
                  have hfz35_0 := blk_frozen BK1185.out 0
                  have hfz35_1 := blk_frozen BK1185.out 1
                  go_wp2_with (first | (go_at_call 49; (with_reducible refine (u128_Cmp.calls k a1_0 a1_1 a0_0 a0_1 t1195 _ A19.out).mono ?_); rintro e w36 ⟨rfl, hb⟩; have n0_ := Aside0.mk (blk_below (g := gb1184) (o := .cells #[.int .u64 a0_0, .int .u64 a0_1] 25 (0, 0)) (by (with_reducible repeat (first | refine blk_drewN ?_ _ | refine blk_drew ?_ | refine blk_alloc ?_ _)); exact BK1184.out) hb); have n1_ := Aside0.mk (blk_below (g := gb1185) (o := .cells #[.int .u64 a1_0, .int .u64 a1_1] 25 (0, 0)) (by (with_reducible repeat (first | refine blk_drewN ?_ _ | refine blk_drew ?_ | refine blk_alloc ?_ _)); exact BK1185.out) hb); have n2_ := Aside0.mk (blk_below (g := gb1186) (o := .cells #[.int .u64 a2_0, .int .u64 a2_1] 25 (0, 0)) (by (with_reducible repeat (first | refine blk_drewN ?_ _ | refine blk_drew ?_ | refine blk_alloc ?_ _)); exact BK1186.out) hb); have n3_ := Aside0.mk (below_step (by repeat (first | (with_reducible first | exact HB.out | apply below_alloc | apply pw_below_drewN | apply below_drew1 | refine below_set ?_ GE1184.out | refine below_set ?_ GE1185.out | refine below_set ?_ GE1186.out) | exact HB.out)) hb); clear BK1184; clear BK1185; clear BK1186; clear HB; have BK1184 := n0_; have BK1185 := n1_; have BK1186 := n2_; have HB := n3_; clear n0_ n1_ n2_ n3_; (try clear hb); (try clear hb2); (try clear hk); (try clear hi)))
                  go_meet
                  case rel => exact ⟨_, (false), (by first | rfl | (simp; done) | (simp [*]; done)), H', ⟨by first | omega | exact Nat.le_refl _⟩, ⟨by (with_reducible repeat (first | refine blk_drewN ?_ _ | refine blk_drew ?_ | refine blk_alloc ?_ _)); exact BK1184.out⟩, ⟨by (with_reducible repeat (first | refine blk_drewN ?_ _ | refine blk_drew ?_ | refine blk_alloc ?_ _)); exact BK1185.out⟩, ⟨by (with_reducible repeat (first | refine blk_drewN ?_ _ | refine blk_drew ?_ | refine blk_alloc ?_ _)); exact BK1186.out⟩, ⟨by repeat (first | (with_reducible first | exact HB.out | apply below_alloc | apply pw_below_drewN | apply below_drew1 | refine below_set ?_ GE1184.out | refine below_set ?_ GE1185.out | refine below_set ?_ GE1186.out) | exact HB.out)⟩⟩
              · rw [if_neg c23] at H
                have c23b0 : decide (t1192 ≤ 0) = false := decide_eq_false c23
                clear c23
                have H' := Aside0.mk H
                clear H
                have hnb37 := NB1184_1185.out
                have hnc37 := NB1185_1184.out
                have hnb38 := NB1184_1186.out
                have hnc38 := NB1186_1184.out
                have hcz39_0 : w17.cell? ⟨gb1184, 0, none⟩ = some (.int .u64 a0_0) := (blk_cell BK1184.out 0).trans rfl
                have hcz39_1 : w17.cell? ⟨gb1184, 1, none⟩ = some (.int .u64 a0_1) := (blk_cell BK1184.out 1).trans rfl
                have hfz39_0 := blk_frozen BK1184.out 0
                have hfz39_1 := blk_frozen BK1184.out 1
                have hnb40 := NB1185_1186.out
                have hnc40 := NB1186_1185.out
                have hcz41_0 : w17.cell? ⟨gb1185, 0, none⟩ = some (.int .u64 a1_0) := (blk_cell BK1185.out 0).trans rfl
                have hcz41_1 : w17.cell? ⟨gb1185, 1, none⟩ = some (.int .u64 a1_1) := (blk_cell BK1185.out 1).trans rfl
                have hfz41_0 := blk_frozen BK1185.out 0
                have hfz41_1 := blk_frozen BK1185.out 1
                go_wp2_with (first | (go_at_call 49; (with_reducible refine (u128_Cmp.calls k a1_0 a1_1 a0_0 a0_1 t1195 _ A19.out).mono ?_); rintro e w42 ⟨rfl, hb⟩; have n0_ := Aside0.mk (blk_below (g := gb1184) (o := .cells #[.int .u64 a0_0, .int .u64 a0_1] 25 (0, 0)) (by (with_reducible repeat (first | refine blk_drewN ?_ _ | refine blk_drew ?_ | refine blk_alloc ?_ _)); exact BK1184.out) hb); have n1_ := Aside0.mk (blk_below (g := gb1185) (o := .cells #[.int .u64 a1_0, .int .u64 a1_1] 25 (0, 0)) (by (with_reducible repeat (first | refine blk_drewN ?_ _ | refine blk_drew ?_ | refine blk_alloc ?_ _)); exact BK1185.out) hb); have n2_ := Aside0.mk (blk_below (g := gb1186) (o := .cells #[.int .u64 a2_0, .int .u64 a2_1] 25 (0, 0)) (by (with_reducible repeat (first | refine blk_drewN ?_ _ | refine blk_drew ?_ | refine blk_alloc ?_ _)); exact BK1186.out) hb); have n3_ := Aside0.mk (below_step (by repeat (first | (with_reducible first | exact HB.out | apply below_alloc | apply pw_below_drewN | apply below_drew1 | refine below_set ?_ GE1184.out | refine below_set ?_ GE1185.out | refine below_set ?_ GE1186.out) | exact HB.out)) hb); clear BK1184; clear BK1185; clear BK1186; clear HB; have BK1184 := n0_; have BK1185 := n1_; have BK1186 := n2_; have HB := n3_; clear n0_ n1_ n2_ n3_; (try clear hb); (try clear hb2); (try clear hk); (try clear hi)))
                go_meet
                case rel => exact ⟨_, (false), (by first | rfl | (simp; done) | (simp [*]; done)), H', ⟨by first | omega | exact Nat.le_refl _⟩, ⟨by (with_reducible repeat (first | refine blk_drewN ?_ _ | refine blk_drew ?_ | refine blk_alloc ?_ _)); exact BK1184.out⟩, ⟨by (with_reducible repeat (first | refine blk_drewN ?_ _ | refine blk_drew ?_ | refine blk_alloc ?_ _)); exact BK1185.out⟩, ⟨by (with_reducible repeat (first | refine blk_drewN ?_ _ | refine blk_drew ?_ | refine blk_alloc ?_ _)); exact BK1186.out⟩, ⟨by repeat (first | (with_reducible first | exact HB.out | apply below_alloc | apply pw_below_drewN | apply below_drew1 | refine below_set ?_ GE1184.out | refine below_set ?_ GE1185.out | refine below_set ?_ GE1186.out) | exact HB.out)⟩⟩
        · rw [if_neg c20] at H
          exact absurd H (by simp)
    case rest =>
      clear HC9
      try clear c1
      try clear c2
      try clear p2
      try clear c3
      try clear c4
      try clear c5
      try clear c6
      try clear p6
      try clear c14
      try clear c18
      try clear c18b0
      try clear c18b1
      try clear c18b2
      try clear c20
      try clear c20b0
      try clear c20b1
      try clear c21
      try clear c21b0
      try clear c22
      try clear c22b0
      try clear c23
      try clear c23b0
      try clear c24
      try clear c24b0
      try clear c25
      try clear c26
      try clear c28
      try clear c31
      try clear c32
      try clear c34
      try clear c37
      try clear c38
      try clear c40
      try clear hcz27_0
      try clear hcz27_1
      try clear hcz29_0
      try clear hcz29_1
      try clear hcz33_0
      try clear hcz33_1
      try clear hcz35_0
      try clear hcz35_1
      try clear hcz39_0
      try clear hcz39_1
      try clear hcz41_0
      try clear hcz41_1
      try clear hfz27_0
      try clear hfz27_1
      try clear hfz29_0
      try clear hfz29_1
      try clear hfz33_0
      try clear hfz33_1
      try clear hfz35_0
      try clear hfz35_1
      try clear hfz39_0
      try clear hfz39_1
      try clear hfz41_0
      try clear hfz41_1
      obtain ⟨kq, x62_8, rfl, HA, HJ8, BK1184, BK1185, BK1186, HB⟩ := hcut
      cases kq with
      | zero => exact absurd HA.out (by simp [paymasterlaw01_U128Order.j0])
      | succ kj8 =>
        have H := HA.out
        clear HA
        simp only [paymasterlaw01_U128Order.j0] at H
        by_cases c43 : x62_8 = true
        · subst c43
          have H1 : (none) = some r := by rw [if_pos rfl] at H; exact H
          clear H
          have H := H1
          clear H1
          exact absurd H (by simp)
        · replace c43 := Bool.eq_false_iff.mpr c43
          subst c43
          have H1 : ((u128_Bytes.f a0_0 a0_1).bind fun t1252 => ((u128_Bytes.f a1_0 a1_1).bind fun t1253 => (if (t1252.size : Int) = 16 then (if ((Op.bytesLess t1252.toList t1253.toList) != (decide (t1192 < 0))) = true then (none) else (if ((t1252.toList == t1253.toList) != (t1192 == 0)) = true then (none) else ((u128_From.f kj8 t1252).bind fun bt1280 => ((u128_Add.f a0_0 a0_1 a2_0 a2_1).bind fun bt1284 => ((u128_Add.f a1_0 a1_1 a2_0 a2_1).bind fun bt1288 => (if bt1280.2.2 = 0 then (if (bt1280.1 == a0_0 && (bt1280.2.1 == a0_1)) = true then (if bt1284.2.2 = 0 then (if bt1288.2.2 = 0 then ((u128_Cmp.f kj8 bt1284.1 bt1284.2.1 bt1288.1 bt1288.2.1).bind fun t1292 => (some (t1292 == t1192))) else (some true)) else (some true)) else (none)) else (none))))))) else (none)))) = some r := by rw [if_neg (show ¬ (false = true) by decide)] at H; exact H
          clear H
          have H := H1
          clear H1
          replace H := Option.bind_eq_some_iff.mp H
          obtain ⟨t1252, A440, H⟩ := H
          replace H : ((u128_Bytes.f a1_0 a1_1).bind fun t1253 => (if (t1252.size : Int) = 16 then (if ((Op.bytesLess t1252.toList t1253.toList) != (decide (t1192 < 0))) = true then (none) else (if ((t1252.toList == t1253.toList) != (t1192 == 0)) = true then (none) else ((u128_From.f kj8 t1252).bind fun bt1280 => ((u128_Add.f a0_0 a0_1 a2_0 a2_1).bind fun bt1284 => ((u128_Add.f a1_0 a1_1 a2_0 a2_1).bind fun bt1288 => (if bt1280.2.2 = 0 then (if (bt1280.1 == a0_0 && (bt1280.2.1 == a0_1)) = true then (if bt1284.2.2 = 0 then (if bt1288.2.2 = 0 then ((u128_Cmp.f kj8 bt1284.1 bt1284.2.1 bt1288.1 bt1288.2.1).bind fun t1292 => (some (t1292 == t1192))) else (some true)) else (some true)) else (none)) else (none))))))) else (none))) = some r := H
          have A44 := Aside0.mk A440
          clear A440
          replace H := Option.bind_eq_some_iff.mp H
          obtain ⟨t1253, A450, H⟩ := H
          replace H : (if (t1252.size : Int) = 16 then (if ((Op.bytesLess t1252.toList t1253.toList) != (decide (t1192 < 0))) = true then (none) else (if ((t1252.toList == t1253.toList) != (t1192 == 0)) = true then (none) else ((u128_From.f kj8 t1252).bind fun bt1280 => ((u128_Add.f a0_0 a0_1 a2_0 a2_1).bind fun bt1284 => ((u128_Add.f a1_0 a1_1 a2_0 a2_1).bind fun bt1288 => (if bt1280.2.2 = 0 then (if (bt1280.1 == a0_0 && (bt1280.2.1 == a0_1)) = true then (if bt1284.2.2 = 0 then (if bt1288.2.2 = 0 then ((u128_Cmp.f kj8 bt1284.1 bt1284.2.1 bt1288.1 bt1288.2.1).bind fun t1292 => (some (t1292 == t1192))) else (some true)) else (some true)) else (none)) else (none))))))) else (none)) = some r := H
          have A45 := Aside0.mk A450
          clear A450
          by_cases c46 : (t1252.size : Int) = 16
          · rw [if_pos c46] at H
            have c46b0 : ((t1252.size : Int) == 16) = true := beq_iff_eq.mpr c46
            have c46b1 : ((t1252.size : Int) != 16) = false := bne_eq_false_iff_eq.mpr c46
            clear c46
            by_cases c47 : ((Op.bytesLess t1252.toList t1253.toList) != (decide (t1192 < 0))) = true
            · rw [if_pos c47] at H
              exact absurd H (by simp)
            · rw [if_neg c47] at H
              have c47b0 : ((Op.bytesLess t1252.toList t1253.toList) != (decide (t1192 < 0))) = false := by simpa using c47
              (try (have c47b1 : decide ((Op.bytesLess t1252.toList t1253.toList) = (decide (t1192 < 0))) = true := by simpa using c47))
              (try (have c47b2 : ((Op.bytesLess t1252.toList t1253.toList) == (decide (t1192 < 0))) = true := by simpa using c47))
              clear c47
              by_cases c48 : ((t1252.toList == t1253.toList) != (t1192 == 0)) = true
              · rw [if_pos c48] at H
                exact absurd H (by simp)
              · rw [if_neg c48] at H
                have c48b0 : ((t1252.toList == t1253.toList) != (t1192 == 0)) = false := by simpa using c48
                (try (have c48b1 : decide ((t1252.toList == t1253.toList) = (t1192 == 0)) = true := by simpa using c48))
                (try (have c48b2 : ((t1252.toList == t1253.toList) == (t1192 == 0)) = true := by simpa using c48))
                clear c48
                replace H := Option.bind_eq_some_iff.mp H
                obtain ⟨⟨t1280, t1281, t1282⟩, A490, H⟩ := H
                replace H : ((u128_Add.f a0_0 a0_1 a2_0 a2_1).bind fun bt1284 => ((u128_Add.f a1_0 a1_1 a2_0 a2_1).bind fun bt1288 => (if t1282 = 0 then (if (t1280 == a0_0 && (t1281 == a0_1)) = true then (if bt1284.2.2 = 0 then (if bt1288.2.2 = 0 then ((u128_Cmp.f kj8 bt1284.1 bt1284.2.1 bt1288.1 bt1288.2.1).bind fun t1292 => (some (t1292 == t1192))) else (some true)) else (some true)) else (none)) else (none)))) = some r := H
                have A49 := Aside0.mk A490
                clear A490
                replace H := Option.bind_eq_some_iff.mp H
                obtain ⟨⟨t1284, t1285, t1286⟩, A500, H⟩ := H
                replace H : ((u128_Add.f a1_0 a1_1 a2_0 a2_1).bind fun bt1288 => (if t1282 = 0 then (if (t1280 == a0_0 && (t1281 == a0_1)) = true then (if t1286 = 0 then (if bt1288.2.2 = 0 then ((u128_Cmp.f kj8 t1284 t1285 bt1288.1 bt1288.2.1).bind fun t1292 => (some (t1292 == t1192))) else (some true)) else (some true)) else (none)) else (none))) = some r := H
                have A50 := Aside0.mk A500
                clear A500
                replace H := Option.bind_eq_some_iff.mp H
                obtain ⟨⟨t1288, t1289, t1290⟩, A510, H⟩ := H
                replace H : (if t1282 = 0 then (if (t1280 == a0_0 && (t1281 == a0_1)) = true then (if t1286 = 0 then (if t1290 = 0 then ((u128_Cmp.f kj8 t1284 t1285 t1288 t1289).bind fun t1292 => (some (t1292 == t1192))) else (some true)) else (some true)) else (none)) else (none)) = some r := H
                have A51 := Aside0.mk A510
                clear A510
                by_cases c52 : t1282 = 0
                · rw [if_pos c52] at H
                  have c52b0 : (t1282 == 0) = true := beq_iff_eq.mpr c52
                  have c52b1 : (t1282 != 0) = false := bne_eq_false_iff_eq.mpr c52
                  clear c52
                  by_cases c53 : (t1280 == a0_0 && (t1281 == a0_1)) = true
                  · rw [if_pos c53] at H
                    have c53b0 : (t1280 == a0_0 && (t1281 == a0_1)) = true := c53
                    (try (have c53b1 : decide (t1280 = a0_0 && (t1281 == a0_1)) = true := by simpa using c53))
                    (try (have c53b2 : (t1280 == a0_0 && (t1281 == a0_1)) = true := by simpa using c53))
                    clear c53
                    by_cases c54 : t1286 = 0
                    · rw [if_pos c54] at H
                      have c54b0 : (t1286 == 0) = true := beq_iff_eq.mpr c54
                      have c54b1 : (t1286 != 0) = false := bne_eq_false_iff_eq.mpr c54
                      clear c54
                      by_cases c55 : t1290 = 0
                      · rw [if_pos c55] at H
                        have c55b0 : (t1290 == 0) = true := beq_iff_eq.mpr c55
                        have c55b1 : (t1290 != 0) = false := bne_eq_false_iff_eq.mpr c55
                        clear c55
                        replace H := Option.bind_eq_some_iff.mp H
                        obtain ⟨t1292, A560, H⟩ := H
                        replace H : (some (t1292 == t1192)) = some r := H
                        have A56 := Aside0.mk A560
                        clear A560
                        obtain rfl := Option.some.inj H
                        try go_wp2
                        have n0_ := Aside0.mk (blk_drew BK1184.out)
                        have n1_ := Aside0.mk (blk_drew BK1185.out)
                        have n2_ := Aside0.mk (blk_drew BK1186.out)
                        have n3_ := Aside0.mk (below_drew1 HB.out)
                        clear BK1184
                        clear BK1185
                        clear BK1186
                        clear HB
                        have BK1184 := n0_
                        have BK1185 := n1_
                        have BK1186 := n2_
                        have HB := n3_
                        clear n0_ n1_ n2_ n3_
                        refine start_ (n := 6) (S := fun w' => w'.cell? ⟨gb1184, 0, none⟩ = some (.int .u64 a0_0) ∧ w'.cell? ⟨gb1184, 1, none⟩ = some (.int .u64 a0_1) ∧ w'.cell? ⟨gb1185, 0, none⟩ = some (.int .u64 a1_0) ∧ w'.cell? ⟨gb1185, 1, none⟩ = some (.int .u64 a1_1)) (ds := []) #[false, false, false, false, false, false] (by kernel_rfl) rfl rfl ⟨(blk_cell BK1184.out 0).trans rfl, (blk_cell BK1184.out 1).trans rfl, (blk_cell BK1185.out 0).trans rfl, (blk_cell BK1185.out 1).trans rfl⟩ (fun hHeld => ?_)
                        generalize wc.drew = w57 at BK1184 BK1185 BK1186 HB hHeld ⊢
                        refine take_ (i := 0) (N := some 63) (v := ?_) (a' := ?_) #[true, false, false, false, false, false] rfl rfl (by kernel_rfl) (fun _ _ _ h => h) (Or.inl ⟨by rfl, ?_⟩) hHeld ?_ ?_
                        rotate_left
                        · rintro w' ⟨s0, s1, s2, s3⟩
                          go_simp
                          with_reducible rfl
                        rotate_left
                        · simp only [Act.put, List.setIfInBounds_toArray, List.set_cons_zero, List.set_cons_succ, i64_w, i32_w]
                          rfl
                        refine take_ (i := 2) (N := some 65) (v := ?_) (a' := ?_) #[true, false, true, false, false, false] rfl rfl (by kernel_rfl) (fun _ _ _ h => h) (Or.inl ⟨by rfl, ?_⟩) hHeld ?_ ?_
                        rotate_left
                        · rintro w' ⟨s0, s1, s2, s3⟩
                          go_simp
                          with_reducible rfl
                        rotate_left
                        · simp only [Act.put, List.setIfInBounds_toArray, List.set_cons_zero, List.set_cons_succ, i64_w, i32_w]
                          rfl
                        refine one_ (i := 1) (N := some 64) #[true, true, true, false, false, false] rfl rfl (by kernel_rfl) (by decide) (fun K hK => ?_)
                        refine goes_ Try.func31 (by kernel_rfl) rfl #[.agg #[.int .u64 a0_0, .int .u64 a0_1]] (by rfl) rfl rfl (by (try simp only [List.map_toArray, List.map_cons, List.map_nil]); first | done | rfl | (simp only [List.length_drop, List.length_take]; rfl)) ?_
                        with_reducible refine (u128_Bytes.calls a0_0 a0_1 t1252 _ A44.out).mono ?_
                        rintro e w58 ⟨rfl, hb⟩
                        refine ⟨_, rfl, ?_⟩
                        have n0_ := Aside0.mk (blk_below (g := gb1184) (o := .cells #[.int .u64 a0_0, .int .u64 a0_1] 25 (0, 0)) (by (with_reducible repeat (first | refine blk_drewN ?_ _ | refine blk_drew ?_ | refine blk_alloc ?_ _)); exact BK1184.out) hb)
                        have n1_ := Aside0.mk (blk_below (g := gb1185) (o := .cells #[.int .u64 a1_0, .int .u64 a1_1] 25 (0, 0)) (by (with_reducible repeat (first | refine blk_drewN ?_ _ | refine blk_drew ?_ | refine blk_alloc ?_ _)); exact BK1185.out) hb)
                        have n2_ := Aside0.mk (blk_below (g := gb1186) (o := .cells #[.int .u64 a2_0, .int .u64 a2_1] 25 (0, 0)) (by (with_reducible repeat (first | refine blk_drewN ?_ _ | refine blk_drew ?_ | refine blk_alloc ?_ _)); exact BK1186.out) hb)
                        have n3_ := Aside0.mk (below_step (by repeat (first | (with_reducible first | exact HB.out | apply below_alloc | apply pw_below_drewN | apply below_drew1 | refine below_set ?_ GE1184.out | refine below_set ?_ GE1185.out | refine below_set ?_ GE1186.out) | exact HB.out)) hb)
                        clear BK1184
                        clear BK1185
                        clear BK1186
                        clear HB
                        have BK1184 := n0_
                        have BK1185 := n1_
                        have BK1186 := n2_
                        have HB := n3_
                        clear n0_ n1_ n2_ n3_
                        (try clear hb)
                        (try clear hb2)
                        (try clear hk)
                        (try clear hi)
                        refine hK.out _ _ ⟨(blk_cell BK1184.out 0).trans rfl, (blk_cell BK1184.out 1).trans rfl, (blk_cell BK1185.out 0).trans rfl, (blk_cell BK1185.out 1).trans rfl⟩ (fun hHeld => ?_)
                        clear hK K
                        refine norm_ (a' := ?_) ?_ ?_
                        rotate_left
                        · show Act.put _ (some 64) _ = _
                          simp only [Act.put, List.setIfInBounds_toArray, List.set_cons_zero, List.set_cons_succ, i64_w, i32_w]
                          rfl
                        refine one_ (i := 3) (N := some 66) #[true, true, true, true, false, false] rfl rfl (by kernel_rfl) (by decide) (fun K hK => ?_)
                        refine goes_ Try.func31 (by kernel_rfl) rfl #[.agg #[.int .u64 a1_0, .int .u64 a1_1]] (by rfl) rfl rfl (by (try simp only [List.map_toArray, List.map_cons, List.map_nil]); first | done | rfl | (simp only [List.length_drop, List.length_take]; rfl)) ?_
                        with_reducible refine (u128_Bytes.calls a1_0 a1_1 t1253 _ A45.out).mono ?_
                        rintro e w59 ⟨rfl, hb⟩
                        refine ⟨_, rfl, ?_⟩
                        have n0_ := Aside0.mk (blk_below (g := gb1184) (o := .cells #[.int .u64 a0_0, .int .u64 a0_1] 25 (0, 0)) (by (with_reducible repeat (first | refine blk_drewN ?_ _ | refine blk_drew ?_ | refine blk_alloc ?_ _)); exact BK1184.out) hb)
                        have n1_ := Aside0.mk (blk_below (g := gb1185) (o := .cells #[.int .u64 a1_0, .int .u64 a1_1] 25 (0, 0)) (by (with_reducible repeat (first | refine blk_drewN ?_ _ | refine blk_drew ?_ | refine blk_alloc ?_ _)); exact BK1185.out) hb)
                        have n2_ := Aside0.mk (blk_below (g := gb1186) (o := .cells #[.int .u64 a2_0, .int .u64 a2_1] 25 (0, 0)) (by (with_reducible repeat (first | refine blk_drewN ?_ _ | refine blk_drew ?_ | refine blk_alloc ?_ _)); exact BK1186.out) hb)
                        have n3_ := Aside0.mk (below_step (by repeat (first | (with_reducible first | exact HB.out | apply below_alloc | apply pw_below_drewN | apply below_drew1 | refine below_set ?_ GE1184.out | refine below_set ?_ GE1185.out | refine below_set ?_ GE1186.out) | exact HB.out)) hb)
                        clear BK1184
                        clear BK1185
                        clear BK1186
                        clear HB
                        have BK1184 := n0_
                        have BK1185 := n1_
                        have BK1186 := n2_
                        have HB := n3_
                        clear n0_ n1_ n2_ n3_
                        (try clear hb)
                        (try clear hb2)
                        (try clear hk)
                        (try clear hi)
                        refine hK.out _ _ ⟨(blk_cell BK1184.out 0).trans rfl, (blk_cell BK1184.out 1).trans rfl, (blk_cell BK1185.out 0).trans rfl, (blk_cell BK1185.out 1).trans rfl⟩ (fun hHeld => ?_)
                        clear hK K
                        refine norm_ (a' := ?_) ?_ ?_
                        rotate_left
                        · show Act.put _ (some 66) _ = _
                          simp only [Act.put, List.setIfInBounds_toArray, List.set_cons_zero, List.set_cons_succ, i64_w, i32_w]
                          rfl
                        refine pure_ (i := 4) (N := some 10) (v := ?_) (a' := ?_) #[true, true, true, true, true, false] rfl rfl (by kernel_rfl) (fun _ _ _ h => h) (Or.inl ⟨by rfl, ?_⟩) ?_ ?_
                        rotate_left
                        · intro w'
                          go_simp
                          with_reducible rfl
                        rotate_left
                        · simp only [Act.put, List.setIfInBounds_toArray, List.set_cons_zero, List.set_cons_succ, i64_w, i32_w]
                          rfl
                        refine pure_ (i := 5) (N := some 11) (v := ?_) (a' := ?_) #[true, true, true, true, true, true] rfl rfl (by kernel_rfl) (fun _ _ _ h => h) (Or.inl ⟨by rfl, ?_⟩) ?_ ?_
                        rotate_left
                        · intro w'
                          go_simp
                          with_reducible rfl
                        rotate_left
                        · simp only [Act.put, List.setIfInBounds_toArray, List.set_cons_zero, List.set_cons_succ, i64_w, i32_w]
                          rfl
                        refine done_ (by kernel_rfl) ?_
                        try go_wp2_with (first | ((with_reducible refine gate_callee (f := 29) rfl ?_); refine goesL_ (some 88) rfl rfl Try.func29 (by kernel_rfl) rfl #[.string t1252] rfl (by (try simp only [List.map_toArray, List.map_cons, List.map_nil]); first | done | rfl | (simp only [List.length_drop, List.length_take]; rfl)) ?_; (with_reducible refine (u128_From.calls kj8 t1252 t1280 t1281 t1282 _ A49.out).mono ?_); rintro e w60 ⟨rfl, hb⟩; refine ⟨_, rfl, ?_⟩; have n0_ := Aside0.mk (blk_below (g := gb1184) (o := .cells #[.int .u64 a0_0, .int .u64 a0_1] 25 (0, 0)) (by (with_reducible repeat (first | refine blk_drewN ?_ _ | refine blk_drew ?_ | refine blk_alloc ?_ _)); exact BK1184.out) hb); have n1_ := Aside0.mk (blk_below (g := gb1185) (o := .cells #[.int .u64 a1_0, .int .u64 a1_1] 25 (0, 0)) (by (with_reducible repeat (first | refine blk_drewN ?_ _ | refine blk_drew ?_ | refine blk_alloc ?_ _)); exact BK1185.out) hb); have n2_ := Aside0.mk (blk_below (g := gb1186) (o := .cells #[.int .u64 a2_0, .int .u64 a2_1] 25 (0, 0)) (by (with_reducible repeat (first | refine blk_drewN ?_ _ | refine blk_drew ?_ | refine blk_alloc ?_ _)); exact BK1186.out) hb); have n3_ := Aside0.mk (below_step (by repeat (first | (with_reducible first | exact HB.out | apply below_alloc | apply pw_below_drewN | apply below_drew1 | refine below_set ?_ GE1184.out | refine below_set ?_ GE1185.out | refine below_set ?_ GE1186.out) | exact HB.out)) hb); clear BK1184; clear BK1185; clear BK1186; clear HB; have BK1184 := n0_; have BK1185 := n1_; have BK1186 := n2_; have HB := n3_; clear n0_ n1_ n2_ n3_; (try clear hb); (try clear hb2); (try clear hk); (try clear hi)) | ((with_reducible refine gate_dst (N := 12) rfl ?_); refine box_event ?hg (N := 12) ?hd (cs := #[.int .u64 0, .int .u64 0]) (t := 25) ?hr ?_; (case hd => rfl); (case hg => rfl); (case hr => first | (go_simp; done) | (go_simp; rfl)); intro gb1283 hg w61 hbox hb; have n0_ := Aside0.mk (blk_below (g := gb1184) (o := .cells #[.int .u64 a0_0, .int .u64 a0_1] 25 (0, 0)) (by (with_reducible repeat (first | refine blk_drewN ?_ _ | refine blk_drew ?_ | refine blk_alloc ?_ _)); exact BK1184.out) hb); have n1_ := Aside0.mk (blk_below (g := gb1185) (o := .cells #[.int .u64 a1_0, .int .u64 a1_1] 25 (0, 0)) (by (with_reducible repeat (first | refine blk_drewN ?_ _ | refine blk_drew ?_ | refine blk_alloc ?_ _)); exact BK1185.out) hb); have n2_ := Aside0.mk (blk_below (g := gb1186) (o := .cells #[.int .u64 a2_0, .int .u64 a2_1] 25 (0, 0)) (by (with_reducible repeat (first | refine blk_drewN ?_ _ | refine blk_drew ?_ | refine blk_alloc ?_ _)); exact BK1186.out) hb); have n3_ := Aside0.mk (below_step (by repeat (first | (with_reducible first | exact HB.out | apply below_alloc | apply pw_below_drewN | apply below_drew1 | refine below_set ?_ GE1184.out | refine below_set ?_ GE1185.out | refine below_set ?_ GE1186.out) | exact HB.out)) hb); have n4_ := Aside0.mk (hbox); have n5_ := Aside0.mk ((by rw [hg]; exact (below_size (by repeat (first | (with_reducible first | exact HB.out | apply below_alloc | apply pw_below_drewN | apply below_drew1 | refine below_set ?_ GE1184.out | refine below_set ?_ GE1185.out | refine below_set ?_ GE1186.out) | exact HB.out))) : w.heap.size ≤ gb1283)); have n6_ := Aside0.mk ((by rw [hg]; exact (below_size (by repeat (first | (with_reducible first | exact HB.out | apply below_alloc | apply pw_below_drewN | apply below_drew1 | refine below_set ?_ GE1184.out | refine below_set ?_ GE1185.out | refine below_set ?_ GE1186.out) | exact HB.out))) : w.heap.size ≤ gb1283)); have n7_ := Aside0.mk ((by rw [hg]; exact Nat.ne_of_lt (blk_lt (g := gb1184) (o := .cells #[.int .u64 a0_0, .int .u64 a0_1] 25 (0, 0)) (by (with_reducible repeat (first | refine blk_drewN ?_ _ | refine blk_drew ?_ | refine blk_alloc ?_ _)); exact BK1184.out)) : gb1184 ≠ gb1283)); have n8_ := Aside0.mk ((by rw [hg]; exact Nat.ne_of_gt (blk_lt (g := gb1184) (o := .cells #[.int .u64 a0_0, .int .u64 a0_1] 25 (0, 0)) (by (with_reducible repeat (first | refine blk_drewN ?_ _ | refine blk_drew ?_ | refine blk_alloc ?_ _)); exact BK1184.out)) : gb1283 ≠ gb1184)); have n9_ := Aside0.mk ((by rw [hg]; exact Nat.ne_of_lt (blk_lt (g := gb1185) (o := .cells #[.int .u64 a1_0, .int .u64 a1_1] 25 (0, 0)) (by (with_reducible repeat (first | refine blk_drewN ?_ _ | refine blk_drew ?_ | refine blk_alloc ?_ _)); exact BK1185.out)) : gb1185 ≠ gb1283)); have n10_ := Aside0.mk ((by rw [hg]; exact Nat.ne_of_gt (blk_lt (g := gb1185) (o := .cells #[.int .u64 a1_0, .int .u64 a1_1] 25 (0, 0)) (by (with_reducible repeat (first | refine blk_drewN ?_ _ | refine blk_drew ?_ | refine blk_alloc ?_ _)); exact BK1185.out)) : gb1283 ≠ gb1185)); have n11_ := Aside0.mk ((by rw [hg]; exact Nat.ne_of_lt (blk_lt (g := gb1186) (o := .cells #[.int .u64 a2_0, .int .u64 a2_1] 25 (0, 0)) (by (with_reducible repeat (first | refine blk_drewN ?_ _ | refine blk_drew ?_ | refine blk_alloc ?_ _)); exact BK1186.out)) : gb1186 ≠ gb1283)); have n12_ := Aside0.mk ((by rw [hg]; exact Nat.ne_of_gt (blk_lt (g := gb1186) (o := .cells #[.int .u64 a2_0, .int .u64 a2_1] 25 (0, 0)) (by (with_reducible repeat (first | refine blk_drewN ?_ _ | refine blk_drew ?_ | refine blk_alloc ?_ _)); exact BK1186.out)) : gb1283 ≠ gb1186)); clear BK1184; clear BK1185; clear BK1186; clear HB; have BK1184 := n0_; have BK1185 := n1_; have BK1186 := n2_; have HB := n3_; have BK1283 := n4_; have GW1283 := n5_; have GE1283 := n6_; have NB1184_1283 := n7_; have NB1283_1184 := n8_; have NB1185_1283 := n9_; have NB1283_1185 := n10_; have NB1186_1283 := n11_; have NB1283_1186 := n12_; clear n0_ n1_ n2_ n3_ n4_ n5_ n6_ n7_ n8_ n9_ n10_ n11_ n12_; clear hb hbox hg; have hnb62 := NB1283_1184.out; have hnc62 := NB1184_1283.out; have hnb63 := NB1283_1185.out; have hnc63 := NB1185_1283.out; have hnb64 := NB1283_1186.out; have hnc64 := NB1186_1283.out; have hcz65_0 : w61.cell? ⟨gb1283, 0, none⟩ = some (.int .u64 0) := (blk_cell BK1283.out 0).trans rfl; have hcz65_1 : w61.cell? ⟨gb1283, 1, none⟩ = some (.int .u64 0) := (blk_cell BK1283.out 1).trans rfl; have hfz65_0 := blk_frozen BK1283.out 0; have hfz65_1 := blk_frozen BK1283.out 1; have hnb66 := NB1184_1185.out; have hnc66 := NB1185_1184.out; have hnb67 := NB1184_1186.out; have hnc67 := NB1186_1184.out; have hcz68_0 : w61.cell? ⟨gb1184, 0, none⟩ = some (.int .u64 a0_0) := (blk_cell BK1184.out 0).trans rfl; have hcz68_1 : w61.cell? ⟨gb1184, 1, none⟩ = some (.int .u64 a0_1) := (blk_cell BK1184.out 1).trans rfl; have hfz68_0 := blk_frozen BK1184.out 0; have hfz68_1 := blk_frozen BK1184.out 1; have hnb69 := NB1186_1185.out; have hnc69 := NB1185_1186.out; have hcz70_0 : w61.cell? ⟨gb1186, 0, none⟩ = some (.int .u64 a2_0) := (blk_cell BK1186.out 0).trans rfl; have hcz70_1 : w61.cell? ⟨gb1186, 1, none⟩ = some (.int .u64 a2_1) := (blk_cell BK1186.out 1).trans rfl; have hfz70_0 := blk_frozen BK1186.out 0; have hfz70_1 := blk_frozen BK1186.out 1) | ((with_reducible refine gate_callee (f := 45) rfl ?_); refine goesL_ (some 94) rfl rfl Try.func45 (by kernel_rfl) rfl #[.agg #[.int .u64 a0_0, .int .u64 a0_1], .agg #[.int .u64 a2_0, .int .u64 a2_1]] rfl (by (try simp only [List.map_toArray, List.map_cons, List.map_nil]); first | done | rfl | (simp only [List.length_drop, List.length_take]; rfl)) ?_; (with_reducible refine (u128_Add.calls a0_0 a0_1 a2_0 a2_1 t1284 t1285 t1286 _ A50.out).mono ?_); rintro e w71 ⟨rfl, hb⟩; refine ⟨_, rfl, ?_⟩; have n0_ := Aside0.mk (blk_below (g := gb1184) (o := .cells #[.int .u64 a0_0, .int .u64 a0_1] 25 (0, 0)) (by (with_reducible repeat (first | refine blk_drewN ?_ _ | refine blk_drew ?_ | refine blk_alloc ?_ _)); refine blk_far ?_ NB1184_1283.out _; (with_reducible repeat (first | refine blk_drewN ?_ _ | refine blk_drew ?_ | refine blk_alloc ?_ _)); refine blk_far ?_ NB1184_1283.out _; (with_reducible repeat (first | refine blk_drewN ?_ _ | refine blk_drew ?_ | refine blk_alloc ?_ _)); exact BK1184.out) hb); have n1_ := Aside0.mk (blk_below (g := gb1185) (o := .cells #[.int .u64 a1_0, .int .u64 a1_1] 25 (0, 0)) (by (with_reducible repeat (first | refine blk_drewN ?_ _ | refine blk_drew ?_ | refine blk_alloc ?_ _)); refine blk_far ?_ NB1185_1283.out _; (with_reducible repeat (first | refine blk_drewN ?_ _ | refine blk_drew ?_ | refine blk_alloc ?_ _)); refine blk_far ?_ NB1185_1283.out _; (with_reducible repeat (first | refine blk_drewN ?_ _ | refine blk_drew ?_ | refine blk_alloc ?_ _)); exact BK1185.out) hb); have n2_ := Aside0.mk (blk_below (g := gb1186) (o := .cells #[.int .u64 a2_0, .int .u64 a2_1] 25 (0, 0)) (by (with_reducible repeat (first | refine blk_drewN ?_ _ | refine blk_drew ?_ | refine blk_alloc ?_ _)); refine blk_far ?_ NB1186_1283.out _; (with_reducible repeat (first | refine blk_drewN ?_ _ | refine blk_drew ?_ | refine blk_alloc ?_ _)); refine blk_far ?_ NB1186_1283.out _; (with_reducible repeat (first | refine blk_drewN ?_ _ | refine blk_drew ?_ | refine blk_alloc ?_ _)); exact BK1186.out) hb); have n3_ := Aside0.mk (blk_below (g := gb1283) (o := .cells #[.int .u64 t1280, .int .u64 t1281] 25 (0, 0)) (by (with_reducible repeat (first | refine blk_drewN ?_ _ | refine blk_drew ?_ | refine blk_alloc ?_ _)); refine blk_put (cs := #[.int .u64 t1280, .int .u64 0]) ?_ 1 _ rfl; (with_reducible repeat (first | refine blk_drewN ?_ _ | refine blk_drew ?_ | refine blk_alloc ?_ _)); refine blk_put (cs := #[.int .u64 0, .int .u64 0]) ?_ 0 _ rfl; (with_reducible repeat (first | refine blk_drewN ?_ _ | refine blk_drew ?_ | refine blk_alloc ?_ _)); exact BK1283.out) hb); have n4_ := Aside0.mk (below_step (by repeat (first | (with_reducible first | exact HB.out | apply below_alloc | apply pw_below_drewN | apply below_drew1 | refine below_set ?_ GE1184.out | refine below_set ?_ GE1185.out | refine below_set ?_ GE1186.out | refine below_set ?_ GE1283.out) | exact HB.out)) hb); clear BK1184; clear BK1185; clear BK1186; clear BK1283; clear HB; have BK1184 := n0_; have BK1185 := n1_; have BK1186 := n2_; have BK1283 := n3_; have HB := n4_; clear n0_ n1_ n2_ n3_ n4_; (try clear hb); (try clear hb2); (try clear hk); (try clear hi)) | ((with_reducible refine gate_dst (N := 14) rfl ?_); refine box_event ?hg (N := 14) ?hd (cs := #[.int .u64 0, .int .u64 0]) (t := 25) ?hr ?_; (case hd => rfl); (case hg => rfl); (case hr => first | (go_simp; done) | (go_simp; rfl)); intro gb1287 hg w72 hbox hb; have n0_ := Aside0.mk (blk_below (g := gb1184) (o := .cells #[.int .u64 a0_0, .int .u64 a0_1] 25 (0, 0)) (by (with_reducible repeat (first | refine blk_drewN ?_ _ | refine blk_drew ?_ | refine blk_alloc ?_ _)); exact BK1184.out) hb); have n1_ := Aside0.mk (blk_below (g := gb1185) (o := .cells #[.int .u64 a1_0, .int .u64 a1_1] 25 (0, 0)) (by (with_reducible repeat (first | refine blk_drewN ?_ _ | refine blk_drew ?_ | refine blk_alloc ?_ _)); exact BK1185.out) hb); have n2_ := Aside0.mk (blk_below (g := gb1186) (o := .cells #[.int .u64 a2_0, .int .u64 a2_1] 25 (0, 0)) (by (with_reducible repeat (first | refine blk_drewN ?_ _ | refine blk_drew ?_ | refine blk_alloc ?_ _)); exact BK1186.out) hb); have n3_ := Aside0.mk (blk_below (g := gb1283) (o := .cells #[.int .u64 t1280, .int .u64 t1281] 25 (0, 0)) (by (with_reducible repeat (first | refine blk_drewN ?_ _ | refine blk_drew ?_ | refine blk_alloc ?_ _)); exact BK1283.out) hb); have n4_ := Aside0.mk (below_step (by repeat (first | (with_reducible first | exact HB.out | apply below_alloc | apply pw_below_drewN | apply below_drew1 | refine below_set ?_ GE1184.out | refine below_set ?_ GE1185.out | refine below_set ?_ GE1186.out | refine below_set ?_ GE1283.out) | exact HB.out)) hb); have n5_ := Aside0.mk (hbox); have n6_ := Aside0.mk ((by rw [hg]; exact (below_size (by repeat (first | (with_reducible first | exact HB.out | apply below_alloc | apply pw_below_drewN | apply below_drew1 | refine below_set ?_ GE1184.out | refine below_set ?_ GE1185.out | refine below_set ?_ GE1186.out | refine below_set ?_ GE1283.out) | exact HB.out))) : w.heap.size ≤ gb1287)); have n7_ := Aside0.mk ((by rw [hg]; exact (below_size (by repeat (first | (with_reducible first | exact HB.out | apply below_alloc | apply pw_below_drewN | apply below_drew1 | refine below_set ?_ GE1184.out | refine below_set ?_ GE1185.out | refine below_set ?_ GE1186.out | refine below_set ?_ GE1283.out) | exact HB.out))) : w.heap.size ≤ gb1287)); have n8_ := Aside0.mk ((by rw [hg]; exact Nat.ne_of_lt (blk_lt (g := gb1184) (o := .cells #[.int .u64 a0_0, .int .u64 a0_1] 25 (0, 0)) (by (with_reducible repeat (first | refine blk_drewN ?_ _ | refine blk_drew ?_ | refine blk_alloc ?_ _)); exact BK1184.out)) : gb1184 ≠ gb1287)); have n9_ := Aside0.mk ((by rw [hg]; exact Nat.ne_of_gt (blk_lt (g := gb1184) (o := .cells #[.int .u64 a0_0, .int .u64 a0_1] 25 (0, 0)) (by (with_reducible repeat (first | refine blk_drewN ?_ _ | refine blk_drew ?_ | refine blk_alloc ?_ _)); exact BK1184.out)) : gb1287 ≠ gb1184)); have n10_ := Aside0.mk ((by rw [hg]; exact Nat.ne_of_lt (blk_lt (g := gb1185) (o := .cells #[.int .u64 a1_0, .int .u64 a1_1] 25 (0, 0)) (by (with_reducible repeat (first | refine blk_drewN ?_ _ | refine blk_drew ?_ | refine blk_alloc ?_ _)); exact BK1185.out)) : gb1185 ≠ gb1287)); have n11_ := Aside0.mk ((by rw [hg]; exact Nat.ne_of_gt (blk_lt (g := gb1185) (o := .cells #[.int .u64 a1_0, .int .u64 a1_1] 25 (0, 0)) (by (with_reducible repeat (first | refine blk_drewN ?_ _ | refine blk_drew ?_ | refine blk_alloc ?_ _)); exact BK1185.out)) : gb1287 ≠ gb1185)); have n12_ := Aside0.mk ((by rw [hg]; exact Nat.ne_of_lt (blk_lt (g := gb1186) (o := .cells #[.int .u64 a2_0, .int .u64 a2_1] 25 (0, 0)) (by (with_reducible repeat (first | refine blk_drewN ?_ _ | refine blk_drew ?_ | refine blk_alloc ?_ _)); exact BK1186.out)) : gb1186 ≠ gb1287)); have n13_ := Aside0.mk ((by rw [hg]; exact Nat.ne_of_gt (blk_lt (g := gb1186) (o := .cells #[.int .u64 a2_0, .int .u64 a2_1] 25 (0, 0)) (by (with_reducible repeat (first | refine blk_drewN ?_ _ | refine blk_drew ?_ | refine blk_alloc ?_ _)); exact BK1186.out)) : gb1287 ≠ gb1186)); have n14_ := Aside0.mk ((by rw [hg]; exact Nat.ne_of_lt (blk_lt (g := gb1283) (o := .cells #[.int .u64 t1280, .int .u64 t1281] 25 (0, 0)) (by (with_reducible repeat (first | refine blk_drewN ?_ _ | refine blk_drew ?_ | refine blk_alloc ?_ _)); exact BK1283.out)) : gb1283 ≠ gb1287)); have n15_ := Aside0.mk ((by rw [hg]; exact Nat.ne_of_gt (blk_lt (g := gb1283) (o := .cells #[.int .u64 t1280, .int .u64 t1281] 25 (0, 0)) (by (with_reducible repeat (first | refine blk_drewN ?_ _ | refine blk_drew ?_ | refine blk_alloc ?_ _)); exact BK1283.out)) : gb1287 ≠ gb1283)); clear BK1184; clear BK1185; clear BK1186; clear BK1283; clear HB; have BK1184 := n0_; have BK1185 := n1_; have BK1186 := n2_; have BK1283 := n3_; have HB := n4_; have BK1287 := n5_; have GW1287 := n6_; have GE1287 := n7_; have NB1184_1287 := n8_; have NB1287_1184 := n9_; have NB1185_1287 := n10_; have NB1287_1185 := n11_; have NB1186_1287 := n12_; have NB1287_1186 := n13_; have NB1283_1287 := n14_; have NB1287_1283 := n15_; clear n0_ n1_ n2_ n3_ n4_ n5_ n6_ n7_ n8_ n9_ n10_ n11_ n12_ n13_ n14_ n15_; clear hb hbox hg; have hnb73 := NB1287_1184.out; have hnc73 := NB1184_1287.out; have hnb74 := NB1287_1185.out; have hnc74 := NB1185_1287.out; have hnb75 := NB1287_1186.out; have hnc75 := NB1186_1287.out; have hnb76 := NB1287_1283.out; have hnc76 := NB1283_1287.out; have hcz77_0 : w72.cell? ⟨gb1287, 0, none⟩ = some (.int .u64 0) := (blk_cell BK1287.out 0).trans rfl; have hcz77_1 : w72.cell? ⟨gb1287, 1, none⟩ = some (.int .u64 0) := (blk_cell BK1287.out 1).trans rfl; have hfz77_0 := blk_frozen BK1287.out 0; have hfz77_1 := blk_frozen BK1287.out 1; have hcz78_0 : w72.cell? ⟨gb1185, 0, none⟩ = some (.int .u64 a1_0) := (blk_cell BK1185.out 0).trans rfl; have hcz78_1 : w72.cell? ⟨gb1185, 1, none⟩ = some (.int .u64 a1_1) := (blk_cell BK1185.out 1).trans rfl; have hfz78_0 := blk_frozen BK1185.out 0; have hfz78_1 := blk_frozen BK1185.out 1; have hcz79_0 : w72.cell? ⟨gb1186, 0, none⟩ = some (.int .u64 a2_0) := (blk_cell BK1186.out 0).trans rfl; have hcz79_1 : w72.cell? ⟨gb1186, 1, none⟩ = some (.int .u64 a2_1) := (blk_cell BK1186.out 1).trans rfl; have hfz79_0 := blk_frozen BK1186.out 0; have hfz79_1 := blk_frozen BK1186.out 1) | ((with_reducible refine gate_callee (f := 45) rfl ?_); refine goesL_ (some 100) rfl rfl Try.func45 (by kernel_rfl) rfl #[.agg #[.int .u64 a1_0, .int .u64 a1_1], .agg #[.int .u64 a2_0, .int .u64 a2_1]] rfl (by (try simp only [List.map_toArray, List.map_cons, List.map_nil]); first | done | rfl | (simp only [List.length_drop, List.length_take]; rfl)) ?_; (with_reducible refine (u128_Add.calls a1_0 a1_1 a2_0 a2_1 t1288 t1289 t1290 _ A51.out).mono ?_); rintro e w80 ⟨rfl, hb⟩; refine ⟨_, rfl, ?_⟩; have n0_ := Aside0.mk (blk_below (g := gb1184) (o := .cells #[.int .u64 a0_0, .int .u64 a0_1] 25 (0, 0)) (by (with_reducible repeat (first | refine blk_drewN ?_ _ | refine blk_drew ?_ | refine blk_alloc ?_ _)); refine blk_far ?_ NB1184_1287.out _; (with_reducible repeat (first | refine blk_drewN ?_ _ | refine blk_drew ?_ | refine blk_alloc ?_ _)); refine blk_far ?_ NB1184_1287.out _; (with_reducible repeat (first | refine blk_drewN ?_ _ | refine blk_drew ?_ | refine blk_alloc ?_ _)); exact BK1184.out) hb); have n1_ := Aside0.mk (blk_below (g := gb1185) (o := .cells #[.int .u64 a1_0, .int .u64 a1_1] 25 (0, 0)) (by (with_reducible repeat (first | refine blk_drewN ?_ _ | refine blk_drew ?_ | refine blk_alloc ?_ _)); refine blk_far ?_ NB1185_1287.out _; (with_reducible repeat (first | refine blk_drewN ?_ _ | refine blk_drew ?_ | refine blk_alloc ?_ _)); refine blk_far ?_ NB1185_1287.out _; (with_reducible repeat (first | refine blk_drewN ?_ _ | refine blk_drew ?_ | refine blk_alloc ?_ _)); exact BK1185.out) hb); have n2_ := Aside0.mk (blk_below (g := gb1186) (o := .cells #[.int .u64 a2_0, .int .u64 a2_1] 25 (0, 0)) (by (with_reducible repeat (first | refine blk_drewN ?_ _ | refine blk_drew ?_ | refine blk_alloc ?_ _)); refine blk_far ?_ NB1186_1287.out _; (with_reducible repeat (first | refine blk_drewN ?_ _ | refine blk_drew ?_ | refine blk_alloc ?_ _)); refine blk_far ?_ NB1186_1287.out _; (with_reducible repeat (first | refine blk_drewN ?_ _ | refine blk_drew ?_ | refine blk_alloc ?_ _)); exact BK1186.out) hb); have n3_ := Aside0.mk (blk_below (g := gb1283) (o := .cells #[.int .u64 t1280, .int .u64 t1281] 25 (0, 0)) (by (with_reducible repeat (first | refine blk_drewN ?_ _ | refine blk_drew ?_ | refine blk_alloc ?_ _)); refine blk_far ?_ NB1283_1287.out _; (with_reducible repeat (first | refine blk_drewN ?_ _ | refine blk_drew ?_ | refine blk_alloc ?_ _)); refine blk_far ?_ NB1283_1287.out _; (with_reducible repeat (first | refine blk_drewN ?_ _ | refine blk_drew ?_ | refine blk_alloc ?_ _)); exact BK1283.out) hb); have n4_ := Aside0.mk (blk_below (g := gb1287) (o := .cells #[.int .u64 t1284, .int .u64 t1285] 25 (0, 0)) (by (with_reducible repeat (first | refine blk_drewN ?_ _ | refine blk_drew ?_ | refine blk_alloc ?_ _)); refine blk_put (cs := #[.int .u64 t1284, .int .u64 0]) ?_ 1 _ rfl; (with_reducible repeat (first | refine blk_drewN ?_ _ | refine blk_drew ?_ | refine blk_alloc ?_ _)); refine blk_put (cs := #[.int .u64 0, .int .u64 0]) ?_ 0 _ rfl; (with_reducible repeat (first | refine blk_drewN ?_ _ | refine blk_drew ?_ | refine blk_alloc ?_ _)); exact BK1287.out) hb); have n5_ := Aside0.mk (below_step (by repeat (first | (with_reducible first | exact HB.out | apply below_alloc | apply pw_below_drewN | apply below_drew1 | refine below_set ?_ GE1184.out | refine below_set ?_ GE1185.out | refine below_set ?_ GE1186.out | refine below_set ?_ GE1283.out | refine below_set ?_ GE1287.out) | exact HB.out)) hb); clear BK1184; clear BK1185; clear BK1186; clear BK1283; clear BK1287; clear HB; have BK1184 := n0_; have BK1185 := n1_; have BK1186 := n2_; have BK1283 := n3_; have BK1287 := n4_; have HB := n5_; clear n0_ n1_ n2_ n3_ n4_ n5_; (try clear hb); (try clear hb2); (try clear hk); (try clear hi)) | ((with_reducible refine gate_dst (N := 16) rfl ?_); refine box_event ?hg (N := 16) ?hd (cs := #[.int .u64 0, .int .u64 0]) (t := 25) ?hr ?_; (case hd => rfl); (case hg => rfl); (case hr => first | (go_simp; done) | (go_simp; rfl)); intro gb1291 hg w81 hbox hb; have n0_ := Aside0.mk (blk_below (g := gb1184) (o := .cells #[.int .u64 a0_0, .int .u64 a0_1] 25 (0, 0)) (by (with_reducible repeat (first | refine blk_drewN ?_ _ | refine blk_drew ?_ | refine blk_alloc ?_ _)); exact BK1184.out) hb); have n1_ := Aside0.mk (blk_below (g := gb1185) (o := .cells #[.int .u64 a1_0, .int .u64 a1_1] 25 (0, 0)) (by (with_reducible repeat (first | refine blk_drewN ?_ _ | refine blk_drew ?_ | refine blk_alloc ?_ _)); exact BK1185.out) hb); have n2_ := Aside0.mk (blk_below (g := gb1186) (o := .cells #[.int .u64 a2_0, .int .u64 a2_1] 25 (0, 0)) (by (with_reducible repeat (first | refine blk_drewN ?_ _ | refine blk_drew ?_ | refine blk_alloc ?_ _)); exact BK1186.out) hb); have n3_ := Aside0.mk (blk_below (g := gb1283) (o := .cells #[.int .u64 t1280, .int .u64 t1281] 25 (0, 0)) (by (with_reducible repeat (first | refine blk_drewN ?_ _ | refine blk_drew ?_ | refine blk_alloc ?_ _)); exact BK1283.out) hb); have n4_ := Aside0.mk (blk_below (g := gb1287) (o := .cells #[.int .u64 t1284, .int .u64 t1285] 25 (0, 0)) (by (with_reducible repeat (first | refine blk_drewN ?_ _ | refine blk_drew ?_ | refine blk_alloc ?_ _)); exact BK1287.out) hb); have n5_ := Aside0.mk (below_step (by repeat (first | (with_reducible first | exact HB.out | apply below_alloc | apply pw_below_drewN | apply below_drew1 | refine below_set ?_ GE1184.out | refine below_set ?_ GE1185.out | refine below_set ?_ GE1186.out | refine below_set ?_ GE1283.out | refine below_set ?_ GE1287.out) | exact HB.out)) hb); have n6_ := Aside0.mk (hbox); have n7_ := Aside0.mk ((by rw [hg]; exact (below_size (by repeat (first | (with_reducible first | exact HB.out | apply below_alloc | apply pw_below_drewN | apply below_drew1 | refine below_set ?_ GE1184.out | refine below_set ?_ GE1185.out | refine below_set ?_ GE1186.out | refine below_set ?_ GE1283.out | refine below_set ?_ GE1287.out) | exact HB.out))) : w.heap.size ≤ gb1291)); have n8_ := Aside0.mk ((by rw [hg]; exact (below_size (by repeat (first | (with_reducible first | exact HB.out | apply below_alloc | apply pw_below_drewN | apply below_drew1 | refine below_set ?_ GE1184.out | refine below_set ?_ GE1185.out | refine below_set ?_ GE1186.out | refine below_set ?_ GE1283.out | refine below_set ?_ GE1287.out) | exact HB.out))) : w.heap.size ≤ gb1291)); have n9_ := Aside0.mk ((by rw [hg]; exact Nat.ne_of_lt (blk_lt (g := gb1184) (o := .cells #[.int .u64 a0_0, .int .u64 a0_1] 25 (0, 0)) (by (with_reducible repeat (first | refine blk_drewN ?_ _ | refine blk_drew ?_ | refine blk_alloc ?_ _)); exact BK1184.out)) : gb1184 ≠ gb1291)); have n10_ := Aside0.mk ((by rw [hg]; exact Nat.ne_of_gt (blk_lt (g := gb1184) (o := .cells #[.int .u64 a0_0, .int .u64 a0_1] 25 (0, 0)) (by (with_reducible repeat (first | refine blk_drewN ?_ _ | refine blk_drew ?_ | refine blk_alloc ?_ _)); exact BK1184.out)) : gb1291 ≠ gb1184)); have n11_ := Aside0.mk ((by rw [hg]; exact Nat.ne_of_lt (blk_lt (g := gb1185) (o := .cells #[.int .u64 a1_0, .int .u64 a1_1] 25 (0, 0)) (by (with_reducible repeat (first | refine blk_drewN ?_ _ | refine blk_drew ?_ | refine blk_alloc ?_ _)); exact BK1185.out)) : gb1185 ≠ gb1291)); have n12_ := Aside0.mk ((by rw [hg]; exact Nat.ne_of_gt (blk_lt (g := gb1185) (o := .cells #[.int .u64 a1_0, .int .u64 a1_1] 25 (0, 0)) (by (with_reducible repeat (first | refine blk_drewN ?_ _ | refine blk_drew ?_ | refine blk_alloc ?_ _)); exact BK1185.out)) : gb1291 ≠ gb1185)); have n13_ := Aside0.mk ((by rw [hg]; exact Nat.ne_of_lt (blk_lt (g := gb1186) (o := .cells #[.int .u64 a2_0, .int .u64 a2_1] 25 (0, 0)) (by (with_reducible repeat (first | refine blk_drewN ?_ _ | refine blk_drew ?_ | refine blk_alloc ?_ _)); exact BK1186.out)) : gb1186 ≠ gb1291)); have n14_ := Aside0.mk ((by rw [hg]; exact Nat.ne_of_gt (blk_lt (g := gb1186) (o := .cells #[.int .u64 a2_0, .int .u64 a2_1] 25 (0, 0)) (by (with_reducible repeat (first | refine blk_drewN ?_ _ | refine blk_drew ?_ | refine blk_alloc ?_ _)); exact BK1186.out)) : gb1291 ≠ gb1186)); have n15_ := Aside0.mk ((by rw [hg]; exact Nat.ne_of_lt (blk_lt (g := gb1283) (o := .cells #[.int .u64 t1280, .int .u64 t1281] 25 (0, 0)) (by (with_reducible repeat (first | refine blk_drewN ?_ _ | refine blk_drew ?_ | refine blk_alloc ?_ _)); exact BK1283.out)) : gb1283 ≠ gb1291)); have n16_ := Aside0.mk ((by rw [hg]; exact Nat.ne_of_gt (blk_lt (g := gb1283) (o := .cells #[.int .u64 t1280, .int .u64 t1281] 25 (0, 0)) (by (with_reducible repeat (first | refine blk_drewN ?_ _ | refine blk_drew ?_ | refine blk_alloc ?_ _)); exact BK1283.out)) : gb1291 ≠ gb1283)); have n17_ := Aside0.mk ((by rw [hg]; exact Nat.ne_of_lt (blk_lt (g := gb1287) (o := .cells #[.int .u64 t1284, .int .u64 t1285] 25 (0, 0)) (by (with_reducible repeat (first | refine blk_drewN ?_ _ | refine blk_drew ?_ | refine blk_alloc ?_ _)); exact BK1287.out)) : gb1287 ≠ gb1291)); have n18_ := Aside0.mk ((by rw [hg]; exact Nat.ne_of_gt (blk_lt (g := gb1287) (o := .cells #[.int .u64 t1284, .int .u64 t1285] 25 (0, 0)) (by (with_reducible repeat (first | refine blk_drewN ?_ _ | refine blk_drew ?_ | refine blk_alloc ?_ _)); exact BK1287.out)) : gb1291 ≠ gb1287)); clear BK1184; clear BK1185; clear BK1186; clear BK1283; clear BK1287; clear HB; have BK1184 := n0_; have BK1185 := n1_; have BK1186 := n2_; have BK1283 := n3_; have BK1287 := n4_; have HB := n5_; have BK1291 := n6_; have GW1291 := n7_; have GE1291 := n8_; have NB1184_1291 := n9_; have NB1291_1184 := n10_; have NB1185_1291 := n11_; have NB1291_1185 := n12_; have NB1186_1291 := n13_; have NB1291_1186 := n14_; have NB1283_1291 := n15_; have NB1291_1283 := n16_; have NB1287_1291 := n17_; have NB1291_1287 := n18_; clear n0_ n1_ n2_ n3_ n4_ n5_ n6_ n7_ n8_ n9_ n10_ n11_ n12_ n13_ n14_ n15_ n16_ n17_ n18_; clear hb hbox hg; have hnb82 := NB1291_1184.out; have hnc82 := NB1184_1291.out; have hnb83 := NB1291_1185.out; have hnc83 := NB1185_1291.out; have hnb84 := NB1291_1186.out; have hnc84 := NB1186_1291.out; have hnb85 := NB1291_1283.out; have hnc85 := NB1283_1291.out; have hnb86 := NB1291_1287.out; have hnc86 := NB1287_1291.out; have hcz87_0 : w81.cell? ⟨gb1291, 0, none⟩ = some (.int .u64 0) := (blk_cell BK1291.out 0).trans rfl; have hcz87_1 : w81.cell? ⟨gb1291, 1, none⟩ = some (.int .u64 0) := (blk_cell BK1291.out 1).trans rfl; have hfz87_0 := blk_frozen BK1291.out 0; have hfz87_1 := blk_frozen BK1291.out 1; have hcz88_0 : w81.cell? ⟨gb1283, 0, none⟩ = some (.int .u64 t1280) := (blk_cell BK1283.out 0).trans rfl; have hcz88_1 : w81.cell? ⟨gb1283, 1, none⟩ = some (.int .u64 t1281) := (blk_cell BK1283.out 1).trans rfl; have hfz88_0 := blk_frozen BK1283.out 0; have hfz88_1 := blk_frozen BK1283.out 1; have hcz89_0 : w81.cell? ⟨gb1184, 0, none⟩ = some (.int .u64 a0_0) := (blk_cell BK1184.out 0).trans rfl; have hcz89_1 : w81.cell? ⟨gb1184, 1, none⟩ = some (.int .u64 a0_1) := (blk_cell BK1184.out 1).trans rfl; have hfz89_0 := blk_frozen BK1184.out 0; have hfz89_1 := blk_frozen BK1184.out 1; have hcz90_0 : w81.cell? ⟨gb1287, 0, none⟩ = some (.int .u64 t1284) := (blk_cell BK1287.out 0).trans rfl; have hcz90_1 : w81.cell? ⟨gb1287, 1, none⟩ = some (.int .u64 t1285) := (blk_cell BK1287.out 1).trans rfl; have hfz90_0 := blk_frozen BK1287.out 0; have hfz90_1 := blk_frozen BK1287.out 1) | (go_at_call 49; (with_reducible refine (u128_Cmp.calls kj8 t1284 t1285 t1288 t1289 t1292 _ A56.out).mono ?_); rintro e w91 ⟨rfl, hb⟩; have n0_ := Aside0.mk (blk_below (g := gb1184) (o := .cells #[.int .u64 a0_0, .int .u64 a0_1] 25 (0, 0)) (by (with_reducible repeat (first | refine blk_drewN ?_ _ | refine blk_drew ?_ | refine blk_alloc ?_ _)); refine blk_far ?_ NB1184_1291.out _; (with_reducible repeat (first | refine blk_drewN ?_ _ | refine blk_drew ?_ | refine blk_alloc ?_ _)); refine blk_far ?_ NB1184_1291.out _; (with_reducible repeat (first | refine blk_drewN ?_ _ | refine blk_drew ?_ | refine blk_alloc ?_ _)); exact BK1184.out) hb); have n1_ := Aside0.mk (blk_below (g := gb1185) (o := .cells #[.int .u64 a1_0, .int .u64 a1_1] 25 (0, 0)) (by (with_reducible repeat (first | refine blk_drewN ?_ _ | refine blk_drew ?_ | refine blk_alloc ?_ _)); refine blk_far ?_ NB1185_1291.out _; (with_reducible repeat (first | refine blk_drewN ?_ _ | refine blk_drew ?_ | refine blk_alloc ?_ _)); refine blk_far ?_ NB1185_1291.out _; (with_reducible repeat (first | refine blk_drewN ?_ _ | refine blk_drew ?_ | refine blk_alloc ?_ _)); exact BK1185.out) hb); have n2_ := Aside0.mk (blk_below (g := gb1186) (o := .cells #[.int .u64 a2_0, .int .u64 a2_1] 25 (0, 0)) (by (with_reducible repeat (first | refine blk_drewN ?_ _ | refine blk_drew ?_ | refine blk_alloc ?_ _)); refine blk_far ?_ NB1186_1291.out _; (with_reducible repeat (first | refine blk_drewN ?_ _ | refine blk_drew ?_ | refine blk_alloc ?_ _)); refine blk_far ?_ NB1186_1291.out _; (with_reducible repeat (first | refine blk_drewN ?_ _ | refine blk_drew ?_ | refine blk_alloc ?_ _)); exact BK1186.out) hb); have n3_ := Aside0.mk (blk_below (g := gb1283) (o := .cells #[.int .u64 t1280, .int .u64 t1281] 25 (0, 0)) (by (with_reducible repeat (first | refine blk_drewN ?_ _ | refine blk_drew ?_ | refine blk_alloc ?_ _)); refine blk_far ?_ NB1283_1291.out _; (with_reducible repeat (first | refine blk_drewN ?_ _ | refine blk_drew ?_ | refine blk_alloc ?_ _)); refine blk_far ?_ NB1283_1291.out _; (with_reducible repeat (first | refine blk_drewN ?_ _ | refine blk_drew ?_ | refine blk_alloc ?_ _)); exact BK1283.out) hb); have n4_ := Aside0.mk (blk_below (g := gb1287) (o := .cells #[.int .u64 t1284, .int .u64 t1285] 25 (0, 0)) (by (with_reducible repeat (first | refine blk_drewN ?_ _ | refine blk_drew ?_ | refine blk_alloc ?_ _)); refine blk_far ?_ NB1287_1291.out _; (with_reducible repeat (first | refine blk_drewN ?_ _ | refine blk_drew ?_ | refine blk_alloc ?_ _)); refine blk_far ?_ NB1287_1291.out _; (with_reducible repeat (first | refine blk_drewN ?_ _ | refine blk_drew ?_ | refine blk_alloc ?_ _)); exact BK1287.out) hb); have n5_ := Aside0.mk (blk_below (g := gb1291) (o := .cells #[.int .u64 t1288, .int .u64 t1289] 25 (0, 0)) (by (with_reducible repeat (first | refine blk_drewN ?_ _ | refine blk_drew ?_ | refine blk_alloc ?_ _)); refine blk_put (cs := #[.int .u64 t1288, .int .u64 0]) ?_ 1 _ rfl; (with_reducible repeat (first | refine blk_drewN ?_ _ | refine blk_drew ?_ | refine blk_alloc ?_ _)); refine blk_put (cs := #[.int .u64 0, .int .u64 0]) ?_ 0 _ rfl; (with_reducible repeat (first | refine blk_drewN ?_ _ | refine blk_drew ?_ | refine blk_alloc ?_ _)); exact BK1291.out) hb); have n6_ := Aside0.mk (below_step (by repeat (first | (with_reducible first | exact HB.out | apply below_alloc | apply pw_below_drewN | apply below_drew1 | refine below_set ?_ GE1184.out | refine below_set ?_ GE1185.out | refine below_set ?_ GE1186.out | refine below_set ?_ GE1283.out | refine below_set ?_ GE1287.out | refine below_set ?_ GE1291.out) | exact HB.out)) hb); clear BK1184; clear BK1185; clear BK1186; clear BK1283; clear BK1287; clear BK1291; clear HB; have BK1184 := n0_; have BK1185 := n1_; have BK1186 := n2_; have BK1283 := n3_; have BK1287 := n4_; have BK1291 := n5_; have HB := n6_; clear n0_ n1_ n2_ n3_ n4_ n5_ n6_; (try clear hb); (try clear hb2); (try clear hk); (try clear hi)))
                        go_ret
                        exact ⟨by first | rfl | (simp [errW_none, errW_some] <;> rfl) | (simp [*, errW_none, errW_some] <;> rfl), by repeat (first | (with_reducible first | exact HB.out | apply below_alloc | apply pw_below_drewN | apply below_drew1 | refine below_set ?_ GE1184.out | refine below_set ?_ GE1185.out | refine below_set ?_ GE1186.out | refine below_set ?_ GE1283.out | refine below_set ?_ GE1287.out | refine below_set ?_ GE1291.out) | exact HB.out)⟩
                      · rw [if_neg c55] at H
                        have c55b0 : (t1290 == 0) = false := beq_eq_false_iff_ne.mpr c55
                        have c55b1 : (t1290 != 0) = true := bne_iff_ne.mpr c55
                        obtain rfl := Option.some.inj H
                        try go_wp2
                        have n0_ := Aside0.mk (blk_drew BK1184.out)
                        have n1_ := Aside0.mk (blk_drew BK1185.out)
                        have n2_ := Aside0.mk (blk_drew BK1186.out)
                        have n3_ := Aside0.mk (below_drew1 HB.out)
                        clear BK1184
                        clear BK1185
                        clear BK1186
                        clear HB
                        have BK1184 := n0_
                        have BK1185 := n1_
                        have BK1186 := n2_
                        have HB := n3_
                        clear n0_ n1_ n2_ n3_
                        refine start_ (n := 6) (S := fun w' => w'.cell? ⟨gb1184, 0, none⟩ = some (.int .u64 a0_0) ∧ w'.cell? ⟨gb1184, 1, none⟩ = some (.int .u64 a0_1) ∧ w'.cell? ⟨gb1185, 0, none⟩ = some (.int .u64 a1_0) ∧ w'.cell? ⟨gb1185, 1, none⟩ = some (.int .u64 a1_1)) (ds := []) #[false, false, false, false, false, false] (by kernel_rfl) rfl rfl ⟨(blk_cell BK1184.out 0).trans rfl, (blk_cell BK1184.out 1).trans rfl, (blk_cell BK1185.out 0).trans rfl, (blk_cell BK1185.out 1).trans rfl⟩ (fun hHeld => ?_)
                        generalize wc.drew = w92 at BK1184 BK1185 BK1186 HB hHeld ⊢
                        refine take_ (i := 0) (N := some 63) (v := ?_) (a' := ?_) #[true, false, false, false, false, false] rfl rfl (by kernel_rfl) (fun _ _ _ h => h) (Or.inl ⟨by rfl, ?_⟩) hHeld ?_ ?_
                        rotate_left
                        · rintro w' ⟨s0, s1, s2, s3⟩
                          go_simp
                          with_reducible rfl
                        rotate_left
                        · simp only [Act.put, List.setIfInBounds_toArray, List.set_cons_zero, List.set_cons_succ, i64_w, i32_w]
                          rfl
                        refine take_ (i := 2) (N := some 65) (v := ?_) (a' := ?_) #[true, false, true, false, false, false] rfl rfl (by kernel_rfl) (fun _ _ _ h => h) (Or.inl ⟨by rfl, ?_⟩) hHeld ?_ ?_
                        rotate_left
                        · rintro w' ⟨s0, s1, s2, s3⟩
                          go_simp
                          with_reducible rfl
                        rotate_left
                        · simp only [Act.put, List.setIfInBounds_toArray, List.set_cons_zero, List.set_cons_succ, i64_w, i32_w]
                          rfl
                        refine one_ (i := 1) (N := some 64) #[true, true, true, false, false, false] rfl rfl (by kernel_rfl) (by decide) (fun K hK => ?_)
                        refine goes_ Try.func31 (by kernel_rfl) rfl #[.agg #[.int .u64 a0_0, .int .u64 a0_1]] (by rfl) rfl rfl (by (try simp only [List.map_toArray, List.map_cons, List.map_nil]); first | done | rfl | (simp only [List.length_drop, List.length_take]; rfl)) ?_
                        with_reducible refine (u128_Bytes.calls a0_0 a0_1 t1252 _ A44.out).mono ?_
                        rintro e w93 ⟨rfl, hb⟩
                        refine ⟨_, rfl, ?_⟩
                        have n0_ := Aside0.mk (blk_below (g := gb1184) (o := .cells #[.int .u64 a0_0, .int .u64 a0_1] 25 (0, 0)) (by (with_reducible repeat (first | refine blk_drewN ?_ _ | refine blk_drew ?_ | refine blk_alloc ?_ _)); exact BK1184.out) hb)
                        have n1_ := Aside0.mk (blk_below (g := gb1185) (o := .cells #[.int .u64 a1_0, .int .u64 a1_1] 25 (0, 0)) (by (with_reducible repeat (first | refine blk_drewN ?_ _ | refine blk_drew ?_ | refine blk_alloc ?_ _)); exact BK1185.out) hb)
                        have n2_ := Aside0.mk (blk_below (g := gb1186) (o := .cells #[.int .u64 a2_0, .int .u64 a2_1] 25 (0, 0)) (by (with_reducible repeat (first | refine blk_drewN ?_ _ | refine blk_drew ?_ | refine blk_alloc ?_ _)); exact BK1186.out) hb)
                        have n3_ := Aside0.mk (below_step (by repeat (first | (with_reducible first | exact HB.out | apply below_alloc | apply pw_below_drewN | apply below_drew1 | refine below_set ?_ GE1184.out | refine below_set ?_ GE1185.out | refine below_set ?_ GE1186.out) | exact HB.out)) hb)
                        clear BK1184
                        clear BK1185
                        clear BK1186
                        clear HB
                        have BK1184 := n0_
                        have BK1185 := n1_
                        have BK1186 := n2_
                        have HB := n3_
                        clear n0_ n1_ n2_ n3_
                        (try clear hb)
                        (try clear hb2)
                        (try clear hk)
                        (try clear hi)
                        refine hK.out _ _ ⟨(blk_cell BK1184.out 0).trans rfl, (blk_cell BK1184.out 1).trans rfl, (blk_cell BK1185.out 0).trans rfl, (blk_cell BK1185.out 1).trans rfl⟩ (fun hHeld => ?_)
                        clear hK K
                        refine norm_ (a' := ?_) ?_ ?_
                        rotate_left
                        · show Act.put _ (some 64) _ = _
                          simp only [Act.put, List.setIfInBounds_toArray, List.set_cons_zero, List.set_cons_succ, i64_w, i32_w]
                          rfl
                        refine one_ (i := 3) (N := some 66) #[true, true, true, true, false, false] rfl rfl (by kernel_rfl) (by decide) (fun K hK => ?_)
                        refine goes_ Try.func31 (by kernel_rfl) rfl #[.agg #[.int .u64 a1_0, .int .u64 a1_1]] (by rfl) rfl rfl (by (try simp only [List.map_toArray, List.map_cons, List.map_nil]); first | done | rfl | (simp only [List.length_drop, List.length_take]; rfl)) ?_
                        with_reducible refine (u128_Bytes.calls a1_0 a1_1 t1253 _ A45.out).mono ?_
                        rintro e w94 ⟨rfl, hb⟩
                        refine ⟨_, rfl, ?_⟩
                        have n0_ := Aside0.mk (blk_below (g := gb1184) (o := .cells #[.int .u64 a0_0, .int .u64 a0_1] 25 (0, 0)) (by (with_reducible repeat (first | refine blk_drewN ?_ _ | refine blk_drew ?_ | refine blk_alloc ?_ _)); exact BK1184.out) hb)
                        have n1_ := Aside0.mk (blk_below (g := gb1185) (o := .cells #[.int .u64 a1_0, .int .u64 a1_1] 25 (0, 0)) (by (with_reducible repeat (first | refine blk_drewN ?_ _ | refine blk_drew ?_ | refine blk_alloc ?_ _)); exact BK1185.out) hb)
                        have n2_ := Aside0.mk (blk_below (g := gb1186) (o := .cells #[.int .u64 a2_0, .int .u64 a2_1] 25 (0, 0)) (by (with_reducible repeat (first | refine blk_drewN ?_ _ | refine blk_drew ?_ | refine blk_alloc ?_ _)); exact BK1186.out) hb)
                        have n3_ := Aside0.mk (below_step (by repeat (first | (with_reducible first | exact HB.out | apply below_alloc | apply pw_below_drewN | apply below_drew1 | refine below_set ?_ GE1184.out | refine below_set ?_ GE1185.out | refine below_set ?_ GE1186.out) | exact HB.out)) hb)
                        clear BK1184
                        clear BK1185
                        clear BK1186
                        clear HB
                        have BK1184 := n0_
                        have BK1185 := n1_
                        have BK1186 := n2_
                        have HB := n3_
                        clear n0_ n1_ n2_ n3_
                        (try clear hb)
                        (try clear hb2)
                        (try clear hk)
                        (try clear hi)
                        refine hK.out _ _ ⟨(blk_cell BK1184.out 0).trans rfl, (blk_cell BK1184.out 1).trans rfl, (blk_cell BK1185.out 0).trans rfl, (blk_cell BK1185.out 1).trans rfl⟩ (fun hHeld => ?_)
                        clear hK K
                        refine norm_ (a' := ?_) ?_ ?_
                        rotate_left
                        · show Act.put _ (some 66) _ = _
                          simp only [Act.put, List.setIfInBounds_toArray, List.set_cons_zero, List.set_cons_succ, i64_w, i32_w]
                          rfl
                        refine pure_ (i := 4) (N := some 10) (v := ?_) (a' := ?_) #[true, true, true, true, true, false] rfl rfl (by kernel_rfl) (fun _ _ _ h => h) (Or.inl ⟨by rfl, ?_⟩) ?_ ?_
                        rotate_left
                        · intro w'
                          go_simp
                          with_reducible rfl
                        rotate_left
                        · simp only [Act.put, List.setIfInBounds_toArray, List.set_cons_zero, List.set_cons_succ, i64_w, i32_w]
                          rfl
                        refine pure_ (i := 5) (N := some 11) (v := ?_) (a' := ?_) #[true, true, true, true, true, true] rfl rfl (by kernel_rfl) (fun _ _ _ h => h) (Or.inl ⟨by rfl, ?_⟩) ?_ ?_
                        rotate_left
                        · intro w'
                          go_simp
                          with_reducible rfl
                        rotate_left
                        · simp only [Act.put, List.setIfInBounds_toArray, List.set_cons_zero, List.set_cons_succ, i64_w, i32_w]
                          rfl
                        refine done_ (by kernel_rfl) ?_
                        try go_wp2_with (first | ((with_reducible refine gate_callee (f := 29) rfl ?_); refine goesL_ (some 88) rfl rfl Try.func29 (by kernel_rfl) rfl #[.string t1252] rfl (by (try simp only [List.map_toArray, List.map_cons, List.map_nil]); first | done | rfl | (simp only [List.length_drop, List.length_take]; rfl)) ?_; (with_reducible refine (u128_From.calls kj8 t1252 t1280 t1281 t1282 _ A49.out).mono ?_); rintro e w95 ⟨rfl, hb⟩; refine ⟨_, rfl, ?_⟩; have n0_ := Aside0.mk (blk_below (g := gb1184) (o := .cells #[.int .u64 a0_0, .int .u64 a0_1] 25 (0, 0)) (by (with_reducible repeat (first | refine blk_drewN ?_ _ | refine blk_drew ?_ | refine blk_alloc ?_ _)); exact BK1184.out) hb); have n1_ := Aside0.mk (blk_below (g := gb1185) (o := .cells #[.int .u64 a1_0, .int .u64 a1_1] 25 (0, 0)) (by (with_reducible repeat (first | refine blk_drewN ?_ _ | refine blk_drew ?_ | refine blk_alloc ?_ _)); exact BK1185.out) hb); have n2_ := Aside0.mk (blk_below (g := gb1186) (o := .cells #[.int .u64 a2_0, .int .u64 a2_1] 25 (0, 0)) (by (with_reducible repeat (first | refine blk_drewN ?_ _ | refine blk_drew ?_ | refine blk_alloc ?_ _)); exact BK1186.out) hb); have n3_ := Aside0.mk (below_step (by repeat (first | (with_reducible first | exact HB.out | apply below_alloc | apply pw_below_drewN | apply below_drew1 | refine below_set ?_ GE1184.out | refine below_set ?_ GE1185.out | refine below_set ?_ GE1186.out) | exact HB.out)) hb); clear BK1184; clear BK1185; clear BK1186; clear HB; have BK1184 := n0_; have BK1185 := n1_; have BK1186 := n2_; have HB := n3_; clear n0_ n1_ n2_ n3_; (try clear hb); (try clear hb2); (try clear hk); (try clear hi)) | ((with_reducible refine gate_dst (N := 12) rfl ?_); refine box_event ?hg (N := 12) ?hd (cs := #[.int .u64 0, .int .u64 0]) (t := 25) ?hr ?_; (case hd => rfl); (case hg => rfl); (case hr => first | (go_simp; done) | (go_simp; rfl)); intro gb1283 hg w96 hbox hb; have n0_ := Aside0.mk (blk_below (g := gb1184) (o := .cells #[.int .u64 a0_0, .int .u64 a0_1] 25 (0, 0)) (by (with_reducible repeat (first | refine blk_drewN ?_ _ | refine blk_drew ?_ | refine blk_alloc ?_ _)); exact BK1184.out) hb); have n1_ := Aside0.mk (blk_below (g := gb1185) (o := .cells #[.int .u64 a1_0, .int .u64 a1_1] 25 (0, 0)) (by (with_reducible repeat (first | refine blk_drewN ?_ _ | refine blk_drew ?_ | refine blk_alloc ?_ _)); exact BK1185.out) hb); have n2_ := Aside0.mk (blk_below (g := gb1186) (o := .cells #[.int .u64 a2_0, .int .u64 a2_1] 25 (0, 0)) (by (with_reducible repeat (first | refine blk_drewN ?_ _ | refine blk_drew ?_ | refine blk_alloc ?_ _)); exact BK1186.out) hb); have n3_ := Aside0.mk (below_step (by repeat (first | (with_reducible first | exact HB.out | apply below_alloc | apply pw_below_drewN | apply below_drew1 | refine below_set ?_ GE1184.out | refine below_set ?_ GE1185.out | refine below_set ?_ GE1186.out) | exact HB.out)) hb); have n4_ := Aside0.mk (hbox); have n5_ := Aside0.mk ((by rw [hg]; exact (below_size (by repeat (first | (with_reducible first | exact HB.out | apply below_alloc | apply pw_below_drewN | apply below_drew1 | refine below_set ?_ GE1184.out | refine below_set ?_ GE1185.out | refine below_set ?_ GE1186.out) | exact HB.out))) : w.heap.size ≤ gb1283)); have n6_ := Aside0.mk ((by rw [hg]; exact (below_size (by repeat (first | (with_reducible first | exact HB.out | apply below_alloc | apply pw_below_drewN | apply below_drew1 | refine below_set ?_ GE1184.out | refine below_set ?_ GE1185.out | refine below_set ?_ GE1186.out) | exact HB.out))) : w.heap.size ≤ gb1283)); have n7_ := Aside0.mk ((by rw [hg]; exact Nat.ne_of_lt (blk_lt (g := gb1184) (o := .cells #[.int .u64 a0_0, .int .u64 a0_1] 25 (0, 0)) (by (with_reducible repeat (first | refine blk_drewN ?_ _ | refine blk_drew ?_ | refine blk_alloc ?_ _)); exact BK1184.out)) : gb1184 ≠ gb1283)); have n8_ := Aside0.mk ((by rw [hg]; exact Nat.ne_of_gt (blk_lt (g := gb1184) (o := .cells #[.int .u64 a0_0, .int .u64 a0_1] 25 (0, 0)) (by (with_reducible repeat (first | refine blk_drewN ?_ _ | refine blk_drew ?_ | refine blk_alloc ?_ _)); exact BK1184.out)) : gb1283 ≠ gb1184)); have n9_ := Aside0.mk ((by rw [hg]; exact Nat.ne_of_lt (blk_lt (g := gb1185) (o := .cells #[.int .u64 a1_0, .int .u64 a1_1] 25 (0, 0)) (by (with_reducible repeat (first | refine blk_drewN ?_ _ | refine blk_drew ?_ | refine blk_alloc ?_ _)); exact BK1185.out)) : gb1185 ≠ gb1283)); have n10_ := Aside0.mk ((by rw [hg]; exact Nat.ne_of_gt (blk_lt (g := gb1185) (o := .cells #[.int .u64 a1_0, .int .u64 a1_1] 25 (0, 0)) (by (with_reducible repeat (first | refine blk_drewN ?_ _ | refine blk_drew ?_ | refine blk_alloc ?_ _)); exact BK1185.out)) : gb1283 ≠ gb1185)); have n11_ := Aside0.mk ((by rw [hg]; exact Nat.ne_of_lt (blk_lt (g := gb1186) (o := .cells #[.int .u64 a2_0, .int .u64 a2_1] 25 (0, 0)) (by (with_reducible repeat (first | refine blk_drewN ?_ _ | refine blk_drew ?_ | refine blk_alloc ?_ _)); exact BK1186.out)) : gb1186 ≠ gb1283)); have n12_ := Aside0.mk ((by rw [hg]; exact Nat.ne_of_gt (blk_lt (g := gb1186) (o := .cells #[.int .u64 a2_0, .int .u64 a2_1] 25 (0, 0)) (by (with_reducible repeat (first | refine blk_drewN ?_ _ | refine blk_drew ?_ | refine blk_alloc ?_ _)); exact BK1186.out)) : gb1283 ≠ gb1186)); clear BK1184; clear BK1185; clear BK1186; clear HB; have BK1184 := n0_; have BK1185 := n1_; have BK1186 := n2_; have HB := n3_; have BK1283 := n4_; have GW1283 := n5_; have GE1283 := n6_; have NB1184_1283 := n7_; have NB1283_1184 := n8_; have NB1185_1283 := n9_; have NB1283_1185 := n10_; have NB1186_1283 := n11_; have NB1283_1186 := n12_; clear n0_ n1_ n2_ n3_ n4_ n5_ n6_ n7_ n8_ n9_ n10_ n11_ n12_; clear hb hbox hg; have hnb97 := NB1283_1184.out; have hnc97 := NB1184_1283.out; have hnb98 := NB1283_1185.out; have hnc98 := NB1185_1283.out; have hnb99 := NB1283_1186.out; have hnc99 := NB1186_1283.out; have hcz100_0 : w96.cell? ⟨gb1283, 0, none⟩ = some (.int .u64 0) := (blk_cell BK1283.out 0).trans rfl; have hcz100_1 : w96.cell? ⟨gb1283, 1, none⟩ = some (.int .u64 0) := (blk_cell BK1283.out 1).trans rfl; have hfz100_0 := blk_frozen BK1283.out 0; have hfz100_1 := blk_frozen BK1283.out 1; have hnb101 := NB1184_1185.out; have hnc101 := NB1185_1184.out; have hnb102 := NB1184_1186.out; have hnc102 := NB1186_1184.out; have hcz103_0 : w96.cell? ⟨gb1184, 0, none⟩ = some (.int .u64 a0_0) := (blk_cell BK1184.out 0).trans rfl; have hcz103_1 : w96.cell? ⟨gb1184, 1, none⟩ = some (.int .u64 a0_1) := (blk_cell BK1184.out 1).trans rfl; have hfz103_0 := blk_frozen BK1184.out 0; have hfz103_1 := blk_frozen BK1184.out 1; have hnb104 := NB1186_1185.out; have hnc104 := NB1185_1186.out; have hcz105_0 : w96.cell? ⟨gb1186, 0, none⟩ = some (.int .u64 a2_0) := (blk_cell BK1186.out 0).trans rfl; have hcz105_1 : w96.cell? ⟨gb1186, 1, none⟩ = some (.int .u64 a2_1) := (blk_cell BK1186.out 1).trans rfl; have hfz105_0 := blk_frozen BK1186.out 0; have hfz105_1 := blk_frozen BK1186.out 1) | ((with_reducible refine gate_callee (f := 45) rfl ?_); refine goesL_ (some 94) rfl rfl Try.func45 (by kernel_rfl) rfl #[.agg #[.int .u64 a0_0, .int .u64 a0_1], .agg #[.int .u64 a2_0, .int .u64 a2_1]] rfl (by (try simp only [List.map_toArray, List.map_cons, List.map_nil]); first | done | rfl | (simp only [List.length_drop, List.length_take]; rfl)) ?_; (with_reducible refine (u128_Add.calls a0_0 a0_1 a2_0 a2_1 t1284 t1285 t1286 _ A50.out).mono ?_); rintro e w106 ⟨rfl, hb⟩; refine ⟨_, rfl, ?_⟩; have n0_ := Aside0.mk (blk_below (g := gb1184) (o := .cells #[.int .u64 a0_0, .int .u64 a0_1] 25 (0, 0)) (by (with_reducible repeat (first | refine blk_drewN ?_ _ | refine blk_drew ?_ | refine blk_alloc ?_ _)); refine blk_far ?_ NB1184_1283.out _; (with_reducible repeat (first | refine blk_drewN ?_ _ | refine blk_drew ?_ | refine blk_alloc ?_ _)); refine blk_far ?_ NB1184_1283.out _; (with_reducible repeat (first | refine blk_drewN ?_ _ | refine blk_drew ?_ | refine blk_alloc ?_ _)); exact BK1184.out) hb); have n1_ := Aside0.mk (blk_below (g := gb1185) (o := .cells #[.int .u64 a1_0, .int .u64 a1_1] 25 (0, 0)) (by (with_reducible repeat (first | refine blk_drewN ?_ _ | refine blk_drew ?_ | refine blk_alloc ?_ _)); refine blk_far ?_ NB1185_1283.out _; (with_reducible repeat (first | refine blk_drewN ?_ _ | refine blk_drew ?_ | refine blk_alloc ?_ _)); refine blk_far ?_ NB1185_1283.out _; (with_reducible repeat (first | refine blk_drewN ?_ _ | refine blk_drew ?_ | refine blk_alloc ?_ _)); exact BK1185.out) hb); have n2_ := Aside0.mk (blk_below (g := gb1186) (o := .cells #[.int .u64 a2_0, .int .u64 a2_1] 25 (0, 0)) (by (with_reducible repeat (first | refine blk_drewN ?_ _ | refine blk_drew ?_ | refine blk_alloc ?_ _)); refine blk_far ?_ NB1186_1283.out _; (with_reducible repeat (first | refine blk_drewN ?_ _ | refine blk_drew ?_ | refine blk_alloc ?_ _)); refine blk_far ?_ NB1186_1283.out _; (with_reducible repeat (first | refine blk_drewN ?_ _ | refine blk_drew ?_ | refine blk_alloc ?_ _)); exact BK1186.out) hb); have n3_ := Aside0.mk (blk_below (g := gb1283) (o := .cells #[.int .u64 t1280, .int .u64 t1281] 25 (0, 0)) (by (with_reducible repeat (first | refine blk_drewN ?_ _ | refine blk_drew ?_ | refine blk_alloc ?_ _)); refine blk_put (cs := #[.int .u64 t1280, .int .u64 0]) ?_ 1 _ rfl; (with_reducible repeat (first | refine blk_drewN ?_ _ | refine blk_drew ?_ | refine blk_alloc ?_ _)); refine blk_put (cs := #[.int .u64 0, .int .u64 0]) ?_ 0 _ rfl; (with_reducible repeat (first | refine blk_drewN ?_ _ | refine blk_drew ?_ | refine blk_alloc ?_ _)); exact BK1283.out) hb); have n4_ := Aside0.mk (below_step (by repeat (first | (with_reducible first | exact HB.out | apply below_alloc | apply pw_below_drewN | apply below_drew1 | refine below_set ?_ GE1184.out | refine below_set ?_ GE1185.out | refine below_set ?_ GE1186.out | refine below_set ?_ GE1283.out) | exact HB.out)) hb); clear BK1184; clear BK1185; clear BK1186; clear BK1283; clear HB; have BK1184 := n0_; have BK1185 := n1_; have BK1186 := n2_; have BK1283 := n3_; have HB := n4_; clear n0_ n1_ n2_ n3_ n4_; (try clear hb); (try clear hb2); (try clear hk); (try clear hi)) | ((with_reducible refine gate_dst (N := 14) rfl ?_); refine box_event ?hg (N := 14) ?hd (cs := #[.int .u64 0, .int .u64 0]) (t := 25) ?hr ?_; (case hd => rfl); (case hg => rfl); (case hr => first | (go_simp; done) | (go_simp; rfl)); intro gb1287 hg w107 hbox hb; have n0_ := Aside0.mk (blk_below (g := gb1184) (o := .cells #[.int .u64 a0_0, .int .u64 a0_1] 25 (0, 0)) (by (with_reducible repeat (first | refine blk_drewN ?_ _ | refine blk_drew ?_ | refine blk_alloc ?_ _)); exact BK1184.out) hb); have n1_ := Aside0.mk (blk_below (g := gb1185) (o := .cells #[.int .u64 a1_0, .int .u64 a1_1] 25 (0, 0)) (by (with_reducible repeat (first | refine blk_drewN ?_ _ | refine blk_drew ?_ | refine blk_alloc ?_ _)); exact BK1185.out) hb); have n2_ := Aside0.mk (blk_below (g := gb1186) (o := .cells #[.int .u64 a2_0, .int .u64 a2_1] 25 (0, 0)) (by (with_reducible repeat (first | refine blk_drewN ?_ _ | refine blk_drew ?_ | refine blk_alloc ?_ _)); exact BK1186.out) hb); have n3_ := Aside0.mk (blk_below (g := gb1283) (o := .cells #[.int .u64 t1280, .int .u64 t1281] 25 (0, 0)) (by (with_reducible repeat (first | refine blk_drewN ?_ _ | refine blk_drew ?_ | refine blk_alloc ?_ _)); exact BK1283.out) hb); have n4_ := Aside0.mk (below_step (by repeat (first | (with_reducible first | exact HB.out | apply below_alloc | apply pw_below_drewN | apply below_drew1 | refine below_set ?_ GE1184.out | refine below_set ?_ GE1185.out | refine below_set ?_ GE1186.out | refine below_set ?_ GE1283.out) | exact HB.out)) hb); have n5_ := Aside0.mk (hbox); have n6_ := Aside0.mk ((by rw [hg]; exact (below_size (by repeat (first | (with_reducible first | exact HB.out | apply below_alloc | apply pw_below_drewN | apply below_drew1 | refine below_set ?_ GE1184.out | refine below_set ?_ GE1185.out | refine below_set ?_ GE1186.out | refine below_set ?_ GE1283.out) | exact HB.out))) : w.heap.size ≤ gb1287)); have n7_ := Aside0.mk ((by rw [hg]; exact (below_size (by repeat (first | (with_reducible first | exact HB.out | apply below_alloc | apply pw_below_drewN | apply below_drew1 | refine below_set ?_ GE1184.out | refine below_set ?_ GE1185.out | refine below_set ?_ GE1186.out | refine below_set ?_ GE1283.out) | exact HB.out))) : w.heap.size ≤ gb1287)); have n8_ := Aside0.mk ((by rw [hg]; exact Nat.ne_of_lt (blk_lt (g := gb1184) (o := .cells #[.int .u64 a0_0, .int .u64 a0_1] 25 (0, 0)) (by (with_reducible repeat (first | refine blk_drewN ?_ _ | refine blk_drew ?_ | refine blk_alloc ?_ _)); exact BK1184.out)) : gb1184 ≠ gb1287)); have n9_ := Aside0.mk ((by rw [hg]; exact Nat.ne_of_gt (blk_lt (g := gb1184) (o := .cells #[.int .u64 a0_0, .int .u64 a0_1] 25 (0, 0)) (by (with_reducible repeat (first | refine blk_drewN ?_ _ | refine blk_drew ?_ | refine blk_alloc ?_ _)); exact BK1184.out)) : gb1287 ≠ gb1184)); have n10_ := Aside0.mk ((by rw [hg]; exact Nat.ne_of_lt (blk_lt (g := gb1185) (o := .cells #[.int .u64 a1_0, .int .u64 a1_1] 25 (0, 0)) (by (with_reducible repeat (first | refine blk_drewN ?_ _ | refine blk_drew ?_ | refine blk_alloc ?_ _)); exact BK1185.out)) : gb1185 ≠ gb1287)); have n11_ := Aside0.mk ((by rw [hg]; exact Nat.ne_of_gt (blk_lt (g := gb1185) (o := .cells #[.int .u64 a1_0, .int .u64 a1_1] 25 (0, 0)) (by (with_reducible repeat (first | refine blk_drewN ?_ _ | refine blk_drew ?_ | refine blk_alloc ?_ _)); exact BK1185.out)) : gb1287 ≠ gb1185)); have n12_ := Aside0.mk ((by rw [hg]; exact Nat.ne_of_lt (blk_lt (g := gb1186) (o := .cells #[.int .u64 a2_0, .int .u64 a2_1] 25 (0, 0)) (by (with_reducible repeat (first | refine blk_drewN ?_ _ | refine blk_drew ?_ | refine blk_alloc ?_ _)); exact BK1186.out)) : gb1186 ≠ gb1287)); have n13_ := Aside0.mk ((by rw [hg]; exact Nat.ne_of_gt (blk_lt (g := gb1186) (o := .cells #[.int .u64 a2_0, .int .u64 a2_1] 25 (0, 0)) (by (with_reducible repeat (first | refine blk_drewN ?_ _ | refine blk_drew ?_ | refine blk_alloc ?_ _)); exact BK1186.out)) : gb1287 ≠ gb1186)); have n14_ := Aside0.mk ((by rw [hg]; exact Nat.ne_of_lt (blk_lt (g := gb1283) (o := .cells #[.int .u64 t1280, .int .u64 t1281] 25 (0, 0)) (by (with_reducible repeat (first | refine blk_drewN ?_ _ | refine blk_drew ?_ | refine blk_alloc ?_ _)); exact BK1283.out)) : gb1283 ≠ gb1287)); have n15_ := Aside0.mk ((by rw [hg]; exact Nat.ne_of_gt (blk_lt (g := gb1283) (o := .cells #[.int .u64 t1280, .int .u64 t1281] 25 (0, 0)) (by (with_reducible repeat (first | refine blk_drewN ?_ _ | refine blk_drew ?_ | refine blk_alloc ?_ _)); exact BK1283.out)) : gb1287 ≠ gb1283)); clear BK1184; clear BK1185; clear BK1186; clear BK1283; clear HB; have BK1184 := n0_; have BK1185 := n1_; have BK1186 := n2_; have BK1283 := n3_; have HB := n4_; have BK1287 := n5_; have GW1287 := n6_; have GE1287 := n7_; have NB1184_1287 := n8_; have NB1287_1184 := n9_; have NB1185_1287 := n10_; have NB1287_1185 := n11_; have NB1186_1287 := n12_; have NB1287_1186 := n13_; have NB1283_1287 := n14_; have NB1287_1283 := n15_; clear n0_ n1_ n2_ n3_ n4_ n5_ n6_ n7_ n8_ n9_ n10_ n11_ n12_ n13_ n14_ n15_; clear hb hbox hg; have hnb108 := NB1287_1184.out; have hnc108 := NB1184_1287.out; have hnb109 := NB1287_1185.out; have hnc109 := NB1185_1287.out; have hnb110 := NB1287_1186.out; have hnc110 := NB1186_1287.out; have hnb111 := NB1287_1283.out; have hnc111 := NB1283_1287.out; have hcz112_0 : w107.cell? ⟨gb1287, 0, none⟩ = some (.int .u64 0) := (blk_cell BK1287.out 0).trans rfl; have hcz112_1 : w107.cell? ⟨gb1287, 1, none⟩ = some (.int .u64 0) := (blk_cell BK1287.out 1).trans rfl; have hfz112_0 := blk_frozen BK1287.out 0; have hfz112_1 := blk_frozen BK1287.out 1; have hcz113_0 : w107.cell? ⟨gb1185, 0, none⟩ = some (.int .u64 a1_0) := (blk_cell BK1185.out 0).trans rfl; have hcz113_1 : w107.cell? ⟨gb1185, 1, none⟩ = some (.int .u64 a1_1) := (blk_cell BK1185.out 1).trans rfl; have hfz113_0 := blk_frozen BK1185.out 0; have hfz113_1 := blk_frozen BK1185.out 1; have hcz114_0 : w107.cell? ⟨gb1186, 0, none⟩ = some (.int .u64 a2_0) := (blk_cell BK1186.out 0).trans rfl; have hcz114_1 : w107.cell? ⟨gb1186, 1, none⟩ = some (.int .u64 a2_1) := (blk_cell BK1186.out 1).trans rfl; have hfz114_0 := blk_frozen BK1186.out 0; have hfz114_1 := blk_frozen BK1186.out 1) | ((with_reducible refine gate_callee (f := 45) rfl ?_); refine goesL_ (some 100) rfl rfl Try.func45 (by kernel_rfl) rfl #[.agg #[.int .u64 a1_0, .int .u64 a1_1], .agg #[.int .u64 a2_0, .int .u64 a2_1]] rfl (by (try simp only [List.map_toArray, List.map_cons, List.map_nil]); first | done | rfl | (simp only [List.length_drop, List.length_take]; rfl)) ?_; (with_reducible refine (u128_Add.calls a1_0 a1_1 a2_0 a2_1 t1288 t1289 t1290 _ A51.out).mono ?_); rintro e w115 ⟨rfl, hb⟩; refine ⟨_, rfl, ?_⟩; have n0_ := Aside0.mk (blk_below (g := gb1184) (o := .cells #[.int .u64 a0_0, .int .u64 a0_1] 25 (0, 0)) (by (with_reducible repeat (first | refine blk_drewN ?_ _ | refine blk_drew ?_ | refine blk_alloc ?_ _)); refine blk_far ?_ NB1184_1287.out _; (with_reducible repeat (first | refine blk_drewN ?_ _ | refine blk_drew ?_ | refine blk_alloc ?_ _)); refine blk_far ?_ NB1184_1287.out _; (with_reducible repeat (first | refine blk_drewN ?_ _ | refine blk_drew ?_ | refine blk_alloc ?_ _)); exact BK1184.out) hb); have n1_ := Aside0.mk (blk_below (g := gb1185) (o := .cells #[.int .u64 a1_0, .int .u64 a1_1] 25 (0, 0)) (by (with_reducible repeat (first | refine blk_drewN ?_ _ | refine blk_drew ?_ | refine blk_alloc ?_ _)); refine blk_far ?_ NB1185_1287.out _; (with_reducible repeat (first | refine blk_drewN ?_ _ | refine blk_drew ?_ | refine blk_alloc ?_ _)); refine blk_far ?_ NB1185_1287.out _; (with_reducible repeat (first | refine blk_drewN ?_ _ | refine blk_drew ?_ | refine blk_alloc ?_ _)); exact BK1185.out) hb); have n2_ := Aside0.mk (blk_below (g := gb1186) (o := .cells #[.int .u64 a2_0, .int .u64 a2_1] 25 (0, 0)) (by (with_reducible repeat (first | refine blk_drewN ?_ _ | refine blk_drew ?_ | refine blk_alloc ?_ _)); refine blk_far ?_ NB1186_1287.out _; (with_reducible repeat (first | refine blk_drewN ?_ _ | refine blk_drew ?_ | refine blk_alloc ?_ _)); refine blk_far ?_ NB1186_1287.out _; (with_reducible repeat (first | refine blk_drewN ?_ _ | refine blk_drew ?_ | refine blk_alloc ?_ _)); exact BK1186.out) hb); have n3_ := Aside0.mk (blk_below (g := gb1283) (o := .cells #[.int .u64 t1280, .int .u64 t1281] 25 (0, 0)) (by (with_reducible repeat (first | refine blk_drewN ?_ _ | refine blk_drew ?_ | refine blk_alloc ?_ _)); refine blk_far ?_ NB1283_1287.out _; (with_reducible repeat (first | refine blk_drewN ?_ _ | refine blk_drew ?_ | refine blk_alloc ?_ _)); refine blk_far ?_ NB1283_1287.out _; (with_reducible repeat (first | refine blk_drewN ?_ _ | refine blk_drew ?_ | refine blk_alloc ?_ _)); exact BK1283.out) hb); have n4_ := Aside0.mk (blk_below (g := gb1287) (o := .cells #[.int .u64 t1284, .int .u64 t1285] 25 (0, 0)) (by (with_reducible repeat (first | refine blk_drewN ?_ _ | refine blk_drew ?_ | refine blk_alloc ?_ _)); refine blk_put (cs := #[.int .u64 t1284, .int .u64 0]) ?_ 1 _ rfl; (with_reducible repeat (first | refine blk_drewN ?_ _ | refine blk_drew ?_ | refine blk_alloc ?_ _)); refine blk_put (cs := #[.int .u64 0, .int .u64 0]) ?_ 0 _ rfl; (with_reducible repeat (first | refine blk_drewN ?_ _ | refine blk_drew ?_ | refine blk_alloc ?_ _)); exact BK1287.out) hb); have n5_ := Aside0.mk (below_step (by repeat (first | (with_reducible first | exact HB.out | apply below_alloc | apply pw_below_drewN | apply below_drew1 | refine below_set ?_ GE1184.out | refine below_set ?_ GE1185.out | refine below_set ?_ GE1186.out | refine below_set ?_ GE1283.out | refine below_set ?_ GE1287.out) | exact HB.out)) hb); clear BK1184; clear BK1185; clear BK1186; clear BK1283; clear BK1287; clear HB; have BK1184 := n0_; have BK1185 := n1_; have BK1186 := n2_; have BK1283 := n3_; have BK1287 := n4_; have HB := n5_; clear n0_ n1_ n2_ n3_ n4_ n5_; (try clear hb); (try clear hb2); (try clear hk); (try clear hi)) | ((with_reducible refine gate_dst (N := 16) rfl ?_); refine box_event ?hg (N := 16) ?hd (cs := #[.int .u64 0, .int .u64 0]) (t := 25) ?hr ?_; (case hd => rfl); (case hg => rfl); (case hr => first | (go_simp; done) | (go_simp; rfl)); intro gb1291 hg w116 hbox hb; have n0_ := Aside0.mk (blk_below (g := gb1184) (o := .cells #[.int .u64 a0_0, .int .u64 a0_1] 25 (0, 0)) (by (with_reducible repeat (first | refine blk_drewN ?_ _ | refine blk_drew ?_ | refine blk_alloc ?_ _)); exact BK1184.out) hb); have n1_ := Aside0.mk (blk_below (g := gb1185) (o := .cells #[.int .u64 a1_0, .int .u64 a1_1] 25 (0, 0)) (by (with_reducible repeat (first | refine blk_drewN ?_ _ | refine blk_drew ?_ | refine blk_alloc ?_ _)); exact BK1185.out) hb); have n2_ := Aside0.mk (blk_below (g := gb1186) (o := .cells #[.int .u64 a2_0, .int .u64 a2_1] 25 (0, 0)) (by (with_reducible repeat (first | refine blk_drewN ?_ _ | refine blk_drew ?_ | refine blk_alloc ?_ _)); exact BK1186.out) hb); have n3_ := Aside0.mk (blk_below (g := gb1283) (o := .cells #[.int .u64 t1280, .int .u64 t1281] 25 (0, 0)) (by (with_reducible repeat (first | refine blk_drewN ?_ _ | refine blk_drew ?_ | refine blk_alloc ?_ _)); exact BK1283.out) hb); have n4_ := Aside0.mk (blk_below (g := gb1287) (o := .cells #[.int .u64 t1284, .int .u64 t1285] 25 (0, 0)) (by (with_reducible repeat (first | refine blk_drewN ?_ _ | refine blk_drew ?_ | refine blk_alloc ?_ _)); exact BK1287.out) hb); have n5_ := Aside0.mk (below_step (by repeat (first | (with_reducible first | exact HB.out | apply below_alloc | apply pw_below_drewN | apply below_drew1 | refine below_set ?_ GE1184.out | refine below_set ?_ GE1185.out | refine below_set ?_ GE1186.out | refine below_set ?_ GE1283.out | refine below_set ?_ GE1287.out) | exact HB.out)) hb); have n6_ := Aside0.mk (hbox); have n7_ := Aside0.mk ((by rw [hg]; exact (below_size (by repeat (first | (with_reducible first | exact HB.out | apply below_alloc | apply pw_below_drewN | apply below_drew1 | refine below_set ?_ GE1184.out | refine below_set ?_ GE1185.out | refine below_set ?_ GE1186.out | refine below_set ?_ GE1283.out | refine below_set ?_ GE1287.out) | exact HB.out))) : w.heap.size ≤ gb1291)); have n8_ := Aside0.mk ((by rw [hg]; exact (below_size (by repeat (first | (with_reducible first | exact HB.out | apply below_alloc | apply pw_below_drewN | apply below_drew1 | refine below_set ?_ GE1184.out | refine below_set ?_ GE1185.out | refine below_set ?_ GE1186.out | refine below_set ?_ GE1283.out | refine below_set ?_ GE1287.out) | exact HB.out))) : w.heap.size ≤ gb1291)); have n9_ := Aside0.mk ((by rw [hg]; exact Nat.ne_of_lt (blk_lt (g := gb1184) (o := .cells #[.int .u64 a0_0, .int .u64 a0_1] 25 (0, 0)) (by (with_reducible repeat (first | refine blk_drewN ?_ _ | refine blk_drew ?_ | refine blk_alloc ?_ _)); exact BK1184.out)) : gb1184 ≠ gb1291)); have n10_ := Aside0.mk ((by rw [hg]; exact Nat.ne_of_gt (blk_lt (g := gb1184) (o := .cells #[.int .u64 a0_0, .int .u64 a0_1] 25 (0, 0)) (by (with_reducible repeat (first | refine blk_drewN ?_ _ | refine blk_drew ?_ | refine blk_alloc ?_ _)); exact BK1184.out)) : gb1291 ≠ gb1184)); have n11_ := Aside0.mk ((by rw [hg]; exact Nat.ne_of_lt (blk_lt (g := gb1185) (o := .cells #[.int .u64 a1_0, .int .u64 a1_1] 25 (0, 0)) (by (with_reducible repeat (first | refine blk_drewN ?_ _ | refine blk_drew ?_ | refine blk_alloc ?_ _)); exact BK1185.out)) : gb1185 ≠ gb1291)); have n12_ := Aside0.mk ((by rw [hg]; exact Nat.ne_of_gt (blk_lt (g := gb1185) (o := .cells #[.int .u64 a1_0, .int .u64 a1_1] 25 (0, 0)) (by (with_reducible repeat (first | refine blk_drewN ?_ _ | refine blk_drew ?_ | refine blk_alloc ?_ _)); exact BK1185.out)) : gb1291 ≠ gb1185)); have n13_ := Aside0.mk ((by rw [hg]; exact Nat.ne_of_lt (blk_lt (g := gb1186) (o := .cells #[.int .u64 a2_0, .int .u64 a2_1] 25 (0, 0)) (by (with_reducible repeat (first | refine blk_drewN ?_ _ | refine blk_drew ?_ | refine blk_alloc ?_ _)); exact BK1186.out)) : gb1186 ≠ gb1291)); have n14_ := Aside0.mk ((by rw [hg]; exact Nat.ne_of_gt (blk_lt (g := gb1186) (o := .cells #[.int .u64 a2_0, .int .u64 a2_1] 25 (0, 0)) (by (with_reducible repeat (first | refine blk_drewN ?_ _ | refine blk_drew ?_ | refine blk_alloc ?_ _)); exact BK1186.out)) : gb1291 ≠ gb1186)); have n15_ := Aside0.mk ((by rw [hg]; exact Nat.ne_of_lt (blk_lt (g := gb1283) (o := .cells #[.int .u64 t1280, .int .u64 t1281] 25 (0, 0)) (by (with_reducible repeat (first | refine blk_drewN ?_ _ | refine blk_drew ?_ | refine blk_alloc ?_ _)); exact BK1283.out)) : gb1283 ≠ gb1291)); have n16_ := Aside0.mk ((by rw [hg]; exact Nat.ne_of_gt (blk_lt (g := gb1283) (o := .cells #[.int .u64 t1280, .int .u64 t1281] 25 (0, 0)) (by (with_reducible repeat (first | refine blk_drewN ?_ _ | refine blk_drew ?_ | refine blk_alloc ?_ _)); exact BK1283.out)) : gb1291 ≠ gb1283)); have n17_ := Aside0.mk ((by rw [hg]; exact Nat.ne_of_lt (blk_lt (g := gb1287) (o := .cells #[.int .u64 t1284, .int .u64 t1285] 25 (0, 0)) (by (with_reducible repeat (first | refine blk_drewN ?_ _ | refine blk_drew ?_ | refine blk_alloc ?_ _)); exact BK1287.out)) : gb1287 ≠ gb1291)); have n18_ := Aside0.mk ((by rw [hg]; exact Nat.ne_of_gt (blk_lt (g := gb1287) (o := .cells #[.int .u64 t1284, .int .u64 t1285] 25 (0, 0)) (by (with_reducible repeat (first | refine blk_drewN ?_ _ | refine blk_drew ?_ | refine blk_alloc ?_ _)); exact BK1287.out)) : gb1291 ≠ gb1287)); clear BK1184; clear BK1185; clear BK1186; clear BK1283; clear BK1287; clear HB; have BK1184 := n0_; have BK1185 := n1_; have BK1186 := n2_; have BK1283 := n3_; have BK1287 := n4_; have HB := n5_; have BK1291 := n6_; have GW1291 := n7_; have GE1291 := n8_; have NB1184_1291 := n9_; have NB1291_1184 := n10_; have NB1185_1291 := n11_; have NB1291_1185 := n12_; have NB1186_1291 := n13_; have NB1291_1186 := n14_; have NB1283_1291 := n15_; have NB1291_1283 := n16_; have NB1287_1291 := n17_; have NB1291_1287 := n18_; clear n0_ n1_ n2_ n3_ n4_ n5_ n6_ n7_ n8_ n9_ n10_ n11_ n12_ n13_ n14_ n15_ n16_ n17_ n18_; clear hb hbox hg; have hnb117 := NB1291_1184.out; have hnc117 := NB1184_1291.out; have hnb118 := NB1291_1185.out; have hnc118 := NB1185_1291.out; have hnb119 := NB1291_1186.out; have hnc119 := NB1186_1291.out; have hnb120 := NB1291_1283.out; have hnc120 := NB1283_1291.out; have hnb121 := NB1291_1287.out; have hnc121 := NB1287_1291.out; have hcz122_0 : w116.cell? ⟨gb1291, 0, none⟩ = some (.int .u64 0) := (blk_cell BK1291.out 0).trans rfl; have hcz122_1 : w116.cell? ⟨gb1291, 1, none⟩ = some (.int .u64 0) := (blk_cell BK1291.out 1).trans rfl; have hfz122_0 := blk_frozen BK1291.out 0; have hfz122_1 := blk_frozen BK1291.out 1; have hcz123_0 : w116.cell? ⟨gb1283, 0, none⟩ = some (.int .u64 t1280) := (blk_cell BK1283.out 0).trans rfl; have hcz123_1 : w116.cell? ⟨gb1283, 1, none⟩ = some (.int .u64 t1281) := (blk_cell BK1283.out 1).trans rfl; have hfz123_0 := blk_frozen BK1283.out 0; have hfz123_1 := blk_frozen BK1283.out 1; have hcz124_0 : w116.cell? ⟨gb1184, 0, none⟩ = some (.int .u64 a0_0) := (blk_cell BK1184.out 0).trans rfl; have hcz124_1 : w116.cell? ⟨gb1184, 1, none⟩ = some (.int .u64 a0_1) := (blk_cell BK1184.out 1).trans rfl; have hfz124_0 := blk_frozen BK1184.out 0; have hfz124_1 := blk_frozen BK1184.out 1))
                        go_ret
                        exact ⟨by first | rfl | (simp [errW_none, errW_some] <;> rfl) | (simp [*, errW_none, errW_some] <;> rfl), by repeat (first | (with_reducible first | exact HB.out | apply below_alloc | apply pw_below_drewN | apply below_drew1 | refine below_set ?_ GE1184.out | refine below_set ?_ GE1185.out | refine below_set ?_ GE1186.out | refine below_set ?_ GE1283.out | refine below_set ?_ GE1287.out | refine below_set ?_ GE1291.out) | exact HB.out)⟩
                    · rw [if_neg c54] at H
                      have c54b0 : (t1286 == 0) = false := beq_eq_false_iff_ne.mpr c54
                      have c54b1 : (t1286 != 0) = true := bne_iff_ne.mpr c54
                      obtain rfl := Option.some.inj H
                      try go_wp2
                      have n0_ := Aside0.mk (blk_drew BK1184.out)
                      have n1_ := Aside0.mk (blk_drew BK1185.out)
                      have n2_ := Aside0.mk (blk_drew BK1186.out)
                      have n3_ := Aside0.mk (below_drew1 HB.out)
                      clear BK1184
                      clear BK1185
                      clear BK1186
                      clear HB
                      have BK1184 := n0_
                      have BK1185 := n1_
                      have BK1186 := n2_
                      have HB := n3_
                      clear n0_ n1_ n2_ n3_
                      refine start_ (n := 6) (S := fun w' => w'.cell? ⟨gb1184, 0, none⟩ = some (.int .u64 a0_0) ∧ w'.cell? ⟨gb1184, 1, none⟩ = some (.int .u64 a0_1) ∧ w'.cell? ⟨gb1185, 0, none⟩ = some (.int .u64 a1_0) ∧ w'.cell? ⟨gb1185, 1, none⟩ = some (.int .u64 a1_1)) (ds := []) #[false, false, false, false, false, false] (by kernel_rfl) rfl rfl ⟨(blk_cell BK1184.out 0).trans rfl, (blk_cell BK1184.out 1).trans rfl, (blk_cell BK1185.out 0).trans rfl, (blk_cell BK1185.out 1).trans rfl⟩ (fun hHeld => ?_)
                      generalize wc.drew = w125 at BK1184 BK1185 BK1186 HB hHeld ⊢
                      refine take_ (i := 0) (N := some 63) (v := ?_) (a' := ?_) #[true, false, false, false, false, false] rfl rfl (by kernel_rfl) (fun _ _ _ h => h) (Or.inl ⟨by rfl, ?_⟩) hHeld ?_ ?_
                      rotate_left
                      · rintro w' ⟨s0, s1, s2, s3⟩
                        go_simp
                        with_reducible rfl
                      rotate_left
                      · simp only [Act.put, List.setIfInBounds_toArray, List.set_cons_zero, List.set_cons_succ, i64_w, i32_w]
                        rfl
                      refine take_ (i := 2) (N := some 65) (v := ?_) (a' := ?_) #[true, false, true, false, false, false] rfl rfl (by kernel_rfl) (fun _ _ _ h => h) (Or.inl ⟨by rfl, ?_⟩) hHeld ?_ ?_
                      rotate_left
                      · rintro w' ⟨s0, s1, s2, s3⟩
                        go_simp
                        with_reducible rfl
                      rotate_left
                      · simp only [Act.put, List.setIfInBounds_toArray, List.set_cons_zero, List.set_cons_succ, i64_w, i32_w]
                        rfl
                      refine one_ (i := 1) (N := some 64) #[true, true, true, false, false, false] rfl rfl (by kernel_rfl) (by decide) (fun K hK => ?_)
                      refine goes_ Try.func31 (by kernel_rfl) rfl #[.agg #[.int .u64 a0_0, .int .u64 a0_1]] (by rfl) rfl rfl (by (try simp only [List.map_toArray, List.map_cons, List.map_nil]); first | done | rfl | (simp only [List.length_drop, List.length_take]; rfl)) ?_
                      with_reducible refine (u128_Bytes.calls a0_0 a0_1 t1252 _ A44.out).mono ?_
                      rintro e w126 ⟨rfl, hb⟩
                      refine ⟨_, rfl, ?_⟩
                      have n0_ := Aside0.mk (blk_below (g := gb1184) (o := .cells #[.int .u64 a0_0, .int .u64 a0_1] 25 (0, 0)) (by (with_reducible repeat (first | refine blk_drewN ?_ _ | refine blk_drew ?_ | refine blk_alloc ?_ _)); exact BK1184.out) hb)
                      have n1_ := Aside0.mk (blk_below (g := gb1185) (o := .cells #[.int .u64 a1_0, .int .u64 a1_1] 25 (0, 0)) (by (with_reducible repeat (first | refine blk_drewN ?_ _ | refine blk_drew ?_ | refine blk_alloc ?_ _)); exact BK1185.out) hb)
                      have n2_ := Aside0.mk (blk_below (g := gb1186) (o := .cells #[.int .u64 a2_0, .int .u64 a2_1] 25 (0, 0)) (by (with_reducible repeat (first | refine blk_drewN ?_ _ | refine blk_drew ?_ | refine blk_alloc ?_ _)); exact BK1186.out) hb)
                      have n3_ := Aside0.mk (below_step (by repeat (first | (with_reducible first | exact HB.out | apply below_alloc | apply pw_below_drewN | apply below_drew1 | refine below_set ?_ GE1184.out | refine below_set ?_ GE1185.out | refine below_set ?_ GE1186.out) | exact HB.out)) hb)
                      clear BK1184
                      clear BK1185
                      clear BK1186
                      clear HB
                      have BK1184 := n0_
                      have BK1185 := n1_
                      have BK1186 := n2_
                      have HB := n3_
                      clear n0_ n1_ n2_ n3_
                      (try clear hb)
                      (try clear hb2)
                      (try clear hk)
                      (try clear hi)
                      refine hK.out _ _ ⟨(blk_cell BK1184.out 0).trans rfl, (blk_cell BK1184.out 1).trans rfl, (blk_cell BK1185.out 0).trans rfl, (blk_cell BK1185.out 1).trans rfl⟩ (fun hHeld => ?_)
                      clear hK K
                      refine norm_ (a' := ?_) ?_ ?_
                      rotate_left
                      · show Act.put _ (some 64) _ = _
                        simp only [Act.put, List.setIfInBounds_toArray, List.set_cons_zero, List.set_cons_succ, i64_w, i32_w]
                        rfl
                      refine one_ (i := 3) (N := some 66) #[true, true, true, true, false, false] rfl rfl (by kernel_rfl) (by decide) (fun K hK => ?_)
                      refine goes_ Try.func31 (by kernel_rfl) rfl #[.agg #[.int .u64 a1_0, .int .u64 a1_1]] (by rfl) rfl rfl (by (try simp only [List.map_toArray, List.map_cons, List.map_nil]); first | done | rfl | (simp only [List.length_drop, List.length_take]; rfl)) ?_
                      with_reducible refine (u128_Bytes.calls a1_0 a1_1 t1253 _ A45.out).mono ?_
                      rintro e w127 ⟨rfl, hb⟩
                      refine ⟨_, rfl, ?_⟩
                      have n0_ := Aside0.mk (blk_below (g := gb1184) (o := .cells #[.int .u64 a0_0, .int .u64 a0_1] 25 (0, 0)) (by (with_reducible repeat (first | refine blk_drewN ?_ _ | refine blk_drew ?_ | refine blk_alloc ?_ _)); exact BK1184.out) hb)
                      have n1_ := Aside0.mk (blk_below (g := gb1185) (o := .cells #[.int .u64 a1_0, .int .u64 a1_1] 25 (0, 0)) (by (with_reducible repeat (first | refine blk_drewN ?_ _ | refine blk_drew ?_ | refine blk_alloc ?_ _)); exact BK1185.out) hb)
                      have n2_ := Aside0.mk (blk_below (g := gb1186) (o := .cells #[.int .u64 a2_0, .int .u64 a2_1] 25 (0, 0)) (by (with_reducible repeat (first | refine blk_drewN ?_ _ | refine blk_drew ?_ | refine blk_alloc ?_ _)); exact BK1186.out) hb)
                      have n3_ := Aside0.mk (below_step (by repeat (first | (with_reducible first | exact HB.out | apply below_alloc | apply pw_below_drewN | apply below_drew1 | refine below_set ?_ GE1184.out | refine below_set ?_ GE1185.out | refine below_set ?_ GE1186.out) | exact HB.out)) hb)
                      clear BK1184
                      clear BK1185
                      clear BK1186
                      clear HB
                      have BK1184 := n0_
                      have BK1185 := n1_
                      have BK1186 := n2_
                      have HB := n3_
                      clear n0_ n1_ n2_ n3_
                      (try clear hb)
                      (try clear hb2)
                      (try clear hk)
                      (try clear hi)
                      refine hK.out _ _ ⟨(blk_cell BK1184.out 0).trans rfl, (blk_cell BK1184.out 1).trans rfl, (blk_cell BK1185.out 0).trans rfl, (blk_cell BK1185.out 1).trans rfl⟩ (fun hHeld => ?_)
                      clear hK K
                      refine norm_ (a' := ?_) ?_ ?_
                      rotate_left
                      · show Act.put _ (some 66) _ = _
                        simp only [Act.put, List.setIfInBounds_toArray, List.set_cons_zero, List.set_cons_succ, i64_w, i32_w]
                        rfl
                      refine pure_ (i := 4) (N := some 10) (v := ?_) (a' := ?_) #[true, true, true, true, true, false] rfl rfl (by kernel_rfl) (fun _ _ _ h => h) (Or.inl ⟨by rfl, ?_⟩) ?_ ?_
                      rotate_left
                      · intro w'
                        go_simp
                        with_reducible rfl
                      rotate_left
                      · simp only [Act.put, List.setIfInBounds_toArray, List.set_cons_zero, List.set_cons_succ, i64_w, i32_w]
                        rfl
                      refine pure_ (i := 5) (N := some 11) (v := ?_) (a' := ?_) #[true, true, true, true, true, true] rfl rfl (by kernel_rfl) (fun _ _ _ h => h) (Or.inl ⟨by rfl, ?_⟩) ?_ ?_
                      rotate_left
                      · intro w'
                        go_simp
                        with_reducible rfl
                      rotate_left
                      · simp only [Act.put, List.setIfInBounds_toArray, List.set_cons_zero, List.set_cons_succ, i64_w, i32_w]
                        rfl
                      refine done_ (by kernel_rfl) ?_
                      try go_wp2_with (first | ((with_reducible refine gate_callee (f := 29) rfl ?_); refine goesL_ (some 88) rfl rfl Try.func29 (by kernel_rfl) rfl #[.string t1252] rfl (by (try simp only [List.map_toArray, List.map_cons, List.map_nil]); first | done | rfl | (simp only [List.length_drop, List.length_take]; rfl)) ?_; (with_reducible refine (u128_From.calls kj8 t1252 t1280 t1281 t1282 _ A49.out).mono ?_); rintro e w128 ⟨rfl, hb⟩; refine ⟨_, rfl, ?_⟩; have n0_ := Aside0.mk (blk_below (g := gb1184) (o := .cells #[.int .u64 a0_0, .int .u64 a0_1] 25 (0, 0)) (by (with_reducible repeat (first | refine blk_drewN ?_ _ | refine blk_drew ?_ | refine blk_alloc ?_ _)); exact BK1184.out) hb); have n1_ := Aside0.mk (blk_below (g := gb1185) (o := .cells #[.int .u64 a1_0, .int .u64 a1_1] 25 (0, 0)) (by (with_reducible repeat (first | refine blk_drewN ?_ _ | refine blk_drew ?_ | refine blk_alloc ?_ _)); exact BK1185.out) hb); have n2_ := Aside0.mk (blk_below (g := gb1186) (o := .cells #[.int .u64 a2_0, .int .u64 a2_1] 25 (0, 0)) (by (with_reducible repeat (first | refine blk_drewN ?_ _ | refine blk_drew ?_ | refine blk_alloc ?_ _)); exact BK1186.out) hb); have n3_ := Aside0.mk (below_step (by repeat (first | (with_reducible first | exact HB.out | apply below_alloc | apply pw_below_drewN | apply below_drew1 | refine below_set ?_ GE1184.out | refine below_set ?_ GE1185.out | refine below_set ?_ GE1186.out) | exact HB.out)) hb); clear BK1184; clear BK1185; clear BK1186; clear HB; have BK1184 := n0_; have BK1185 := n1_; have BK1186 := n2_; have HB := n3_; clear n0_ n1_ n2_ n3_; (try clear hb); (try clear hb2); (try clear hk); (try clear hi)) | ((with_reducible refine gate_dst (N := 12) rfl ?_); refine box_event ?hg (N := 12) ?hd (cs := #[.int .u64 0, .int .u64 0]) (t := 25) ?hr ?_; (case hd => rfl); (case hg => rfl); (case hr => first | (go_simp; done) | (go_simp; rfl)); intro gb1283 hg w129 hbox hb; have n0_ := Aside0.mk (blk_below (g := gb1184) (o := .cells #[.int .u64 a0_0, .int .u64 a0_1] 25 (0, 0)) (by (with_reducible repeat (first | refine blk_drewN ?_ _ | refine blk_drew ?_ | refine blk_alloc ?_ _)); exact BK1184.out) hb); have n1_ := Aside0.mk (blk_below (g := gb1185) (o := .cells #[.int .u64 a1_0, .int .u64 a1_1] 25 (0, 0)) (by (with_reducible repeat (first | refine blk_drewN ?_ _ | refine blk_drew ?_ | refine blk_alloc ?_ _)); exact BK1185.out) hb); have n2_ := Aside0.mk (blk_below (g := gb1186) (o := .cells #[.int .u64 a2_0, .int .u64 a2_1] 25 (0, 0)) (by (with_reducible repeat (first | refine blk_drewN ?_ _ | refine blk_drew ?_ | refine blk_alloc ?_ _)); exact BK1186.out) hb); have n3_ := Aside0.mk (below_step (by repeat (first | (with_reducible first | exact HB.out | apply below_alloc | apply pw_below_drewN | apply below_drew1 | refine below_set ?_ GE1184.out | refine below_set ?_ GE1185.out | refine below_set ?_ GE1186.out) | exact HB.out)) hb); have n4_ := Aside0.mk (hbox); have n5_ := Aside0.mk ((by rw [hg]; exact (below_size (by repeat (first | (with_reducible first | exact HB.out | apply below_alloc | apply pw_below_drewN | apply below_drew1 | refine below_set ?_ GE1184.out | refine below_set ?_ GE1185.out | refine below_set ?_ GE1186.out) | exact HB.out))) : w.heap.size ≤ gb1283)); have n6_ := Aside0.mk ((by rw [hg]; exact (below_size (by repeat (first | (with_reducible first | exact HB.out | apply below_alloc | apply pw_below_drewN | apply below_drew1 | refine below_set ?_ GE1184.out | refine below_set ?_ GE1185.out | refine below_set ?_ GE1186.out) | exact HB.out))) : w.heap.size ≤ gb1283)); have n7_ := Aside0.mk ((by rw [hg]; exact Nat.ne_of_lt (blk_lt (g := gb1184) (o := .cells #[.int .u64 a0_0, .int .u64 a0_1] 25 (0, 0)) (by (with_reducible repeat (first | refine blk_drewN ?_ _ | refine blk_drew ?_ | refine blk_alloc ?_ _)); exact BK1184.out)) : gb1184 ≠ gb1283)); have n8_ := Aside0.mk ((by rw [hg]; exact Nat.ne_of_gt (blk_lt (g := gb1184) (o := .cells #[.int .u64 a0_0, .int .u64 a0_1] 25 (0, 0)) (by (with_reducible repeat (first | refine blk_drewN ?_ _ | refine blk_drew ?_ | refine blk_alloc ?_ _)); exact BK1184.out)) : gb1283 ≠ gb1184)); have n9_ := Aside0.mk ((by rw [hg]; exact Nat.ne_of_lt (blk_lt (g := gb1185) (o := .cells #[.int .u64 a1_0, .int .u64 a1_1] 25 (0, 0)) (by (with_reducible repeat (first | refine blk_drewN ?_ _ | refine blk_drew ?_ | refine blk_alloc ?_ _)); exact BK1185.out)) : gb1185 ≠ gb1283)); have n10_ := Aside0.mk ((by rw [hg]; exact Nat.ne_of_gt (blk_lt (g := gb1185) (o := .cells #[.int .u64 a1_0, .int .u64 a1_1] 25 (0, 0)) (by (with_reducible repeat (first | refine blk_drewN ?_ _ | refine blk_drew ?_ | refine blk_alloc ?_ _)); exact BK1185.out)) : gb1283 ≠ gb1185)); have n11_ := Aside0.mk ((by rw [hg]; exact Nat.ne_of_lt (blk_lt (g := gb1186) (o := .cells #[.int .u64 a2_0, .int .u64 a2_1] 25 (0, 0)) (by (with_reducible repeat (first | refine blk_drewN ?_ _ | refine blk_drew ?_ | refine blk_alloc ?_ _)); exact BK1186.out)) : gb1186 ≠ gb1283)); have n12_ := Aside0.mk ((by rw [hg]; exact Nat.ne_of_gt (blk_lt (g := gb1186) (o := .cells #[.int .u64 a2_0, .int .u64 a2_1] 25 (0, 0)) (by (with_reducible repeat (first | refine blk_drewN ?_ _ | refine blk_drew ?_ | refine blk_alloc ?_ _)); exact BK1186.out)) : gb1283 ≠ gb1186)); clear BK1184; clear BK1185; clear BK1186; clear HB; have BK1184 := n0_; have BK1185 := n1_; have BK1186 := n2_; have HB := n3_; have BK1283 := n4_; have GW1283 := n5_; have GE1283 := n6_; have NB1184_1283 := n7_; have NB1283_1184 := n8_; have NB1185_1283 := n9_; have NB1283_1185 := n10_; have NB1186_1283 := n11_; have NB1283_1186 := n12_; clear n0_ n1_ n2_ n3_ n4_ n5_ n6_ n7_ n8_ n9_ n10_ n11_ n12_; clear hb hbox hg; have hnb130 := NB1283_1184.out; have hnc130 := NB1184_1283.out; have hnb131 := NB1283_1185.out; have hnc131 := NB1185_1283.out; have hnb132 := NB1283_1186.out; have hnc132 := NB1186_1283.out; have hcz133_0 : w129.cell? ⟨gb1283, 0, none⟩ = some (.int .u64 0) := (blk_cell BK1283.out 0).trans rfl; have hcz133_1 : w129.cell? ⟨gb1283, 1, none⟩ = some (.int .u64 0) := (blk_cell BK1283.out 1).trans rfl; have hfz133_0 := blk_frozen BK1283.out 0; have hfz133_1 := blk_frozen BK1283.out 1; have hnb134 := NB1184_1185.out; have hnc134 := NB1185_1184.out; have hnb135 := NB1184_1186.out; have hnc135 := NB1186_1184.out; have hcz136_0 : w129.cell? ⟨gb1184, 0, none⟩ = some (.int .u64 a0_0) := (blk_cell BK1184.out 0).trans rfl; have hcz136_1 : w129.cell? ⟨gb1184, 1, none⟩ = some (.int .u64 a0_1) := (blk_cell BK1184.out 1).trans rfl; have hfz136_0 := blk_frozen BK1184.out 0; have hfz136_1 := blk_frozen BK1184.out 1; have hnb137 := NB1186_1185.out; have hnc137 := NB1185_1186.out; have hcz138_0 : w129.cell? ⟨gb1186, 0, none⟩ = some (.int .u64 a2_0) := (blk_cell BK1186.out 0).trans rfl; have hcz138_1 : w129.cell? ⟨gb1186, 1, none⟩ = some (.int .u64 a2_1) := (blk_cell BK1186.out 1).trans rfl; have hfz138_0 := blk_frozen BK1186.out 0; have hfz138_1 := blk_frozen BK1186.out 1) | ((with_reducible refine gate_callee (f := 45) rfl ?_); refine goesL_ (some 94) rfl rfl Try.func45 (by kernel_rfl) rfl #[.agg #[.int .u64 a0_0, .int .u64 a0_1], .agg #[.int .u64 a2_0, .int .u64 a2_1]] rfl (by (try simp only [List.map_toArray, List.map_cons, List.map_nil]); first | done | rfl | (simp only [List.length_drop, List.length_take]; rfl)) ?_; (with_reducible refine (u128_Add.calls a0_0 a0_1 a2_0 a2_1 t1284 t1285 t1286 _ A50.out).mono ?_); rintro e w139 ⟨rfl, hb⟩; refine ⟨_, rfl, ?_⟩; have n0_ := Aside0.mk (blk_below (g := gb1184) (o := .cells #[.int .u64 a0_0, .int .u64 a0_1] 25 (0, 0)) (by (with_reducible repeat (first | refine blk_drewN ?_ _ | refine blk_drew ?_ | refine blk_alloc ?_ _)); refine blk_far ?_ NB1184_1283.out _; (with_reducible repeat (first | refine blk_drewN ?_ _ | refine blk_drew ?_ | refine blk_alloc ?_ _)); refine blk_far ?_ NB1184_1283.out _; (with_reducible repeat (first | refine blk_drewN ?_ _ | refine blk_drew ?_ | refine blk_alloc ?_ _)); exact BK1184.out) hb); have n1_ := Aside0.mk (blk_below (g := gb1185) (o := .cells #[.int .u64 a1_0, .int .u64 a1_1] 25 (0, 0)) (by (with_reducible repeat (first | refine blk_drewN ?_ _ | refine blk_drew ?_ | refine blk_alloc ?_ _)); refine blk_far ?_ NB1185_1283.out _; (with_reducible repeat (first | refine blk_drewN ?_ _ | refine blk_drew ?_ | refine blk_alloc ?_ _)); refine blk_far ?_ NB1185_1283.out _; (with_reducible repeat (first | refine blk_drewN ?_ _ | refine blk_drew ?_ | refine blk_alloc ?_ _)); exact BK1185.out) hb); have n2_ := Aside0.mk (blk_below (g := gb1186) (o := .cells #[.int .u64 a2_0, .int .u64 a2_1] 25 (0, 0)) (by (with_reducible repeat (first | refine blk_drewN ?_ _ | refine blk_drew ?_ | refine blk_alloc ?_ _)); refine blk_far ?_ NB1186_1283.out _; (with_reducible repeat (first | refine blk_drewN ?_ _ | refine blk_drew ?_ | refine blk_alloc ?_ _)); refine blk_far ?_ NB1186_1283.out _; (with_reducible repeat (first | refine blk_drewN ?_ _ | refine blk_drew ?_ | refine blk_alloc ?_ _)); exact BK1186.out) hb); have n3_ := Aside0.mk (blk_below (g := gb1283) (o := .cells #[.int .u64 t1280, .int .u64 t1281] 25 (0, 0)) (by (with_reducible repeat (first | refine blk_drewN ?_ _ | refine blk_drew ?_ | refine blk_alloc ?_ _)); refine blk_put (cs := #[.int .u64 t1280, .int .u64 0]) ?_ 1 _ rfl; (with_reducible repeat (first | refine blk_drewN ?_ _ | refine blk_drew ?_ | refine blk_alloc ?_ _)); refine blk_put (cs := #[.int .u64 0, .int .u64 0]) ?_ 0 _ rfl; (with_reducible repeat (first | refine blk_drewN ?_ _ | refine blk_drew ?_ | refine blk_alloc ?_ _)); exact BK1283.out) hb); have n4_ := Aside0.mk (below_step (by repeat (first | (with_reducible first | exact HB.out | apply below_alloc | apply pw_below_drewN | apply below_drew1 | refine below_set ?_ GE1184.out | refine below_set ?_ GE1185.out | refine below_set ?_ GE1186.out | refine below_set ?_ GE1283.out) | exact HB.out)) hb); clear BK1184; clear BK1185; clear BK1186; clear BK1283; clear HB; have BK1184 := n0_; have BK1185 := n1_; have BK1186 := n2_; have BK1283 := n3_; have HB := n4_; clear n0_ n1_ n2_ n3_ n4_; (try clear hb); (try clear hb2); (try clear hk); (try clear hi)) | ((with_reducible refine gate_dst (N := 14) rfl ?_); refine box_event ?hg (N := 14) ?hd (cs := #[.int .u64 0, .int .u64 0]) (t := 25) ?hr ?_; (case hd => rfl); (case hg => rfl); (case hr => first | (go_simp; done) | (go_simp; rfl)); intro gb1287 hg w140 hbox hb; have n0_ := Aside0.mk (blk_below (g := gb1184) (o := .cells #[.int .u64 a0_0, .int .u64 a0_1] 25 (0, 0)) (by (with_reducible repeat (first | refine blk_drewN ?_ _ | refine blk_drew ?_ | refine blk_alloc ?_ _)); exact BK1184.out) hb); have n1_ := Aside0.mk (blk_below (g := gb1185) (o := .cells #[.int .u64 a1_0, .int .u64 a1_1] 25 (0, 0)) (by (with_reducible repeat (first | refine blk_drewN ?_ _ | refine blk_drew ?_ | refine blk_alloc ?_ _)); exact BK1185.out) hb); have n2_ := Aside0.mk (blk_below (g := gb1186) (o := .cells #[.int .u64 a2_0, .int .u64 a2_1] 25 (0, 0)) (by (with_reducible repeat (first | refine blk_drewN ?_ _ | refine blk_drew ?_ | refine blk_alloc ?_ _)); exact BK1186.out) hb); have n3_ := Aside0.mk (blk_below (g := gb1283) (o := .cells #[.int .u64 t1280, .int .u64 t1281] 25 (0, 0)) (by (with_reducible repeat (first | refine blk_drewN ?_ _ | refine blk_drew ?_ | refine blk_alloc ?_ _)); exact BK1283.out) hb); have n4_ := Aside0.mk (below_step (by repeat (first | (with_reducible first | exact HB.out | apply below_alloc | apply pw_below_drewN | apply below_drew1 | refine below_set ?_ GE1184.out | refine below_set ?_ GE1185.out | refine below_set ?_ GE1186.out | refine below_set ?_ GE1283.out) | exact HB.out)) hb); have n5_ := Aside0.mk (hbox); have n6_ := Aside0.mk ((by rw [hg]; exact (below_size (by repeat (first | (with_reducible first | exact HB.out | apply below_alloc | apply pw_below_drewN | apply below_drew1 | refine below_set ?_ GE1184.out | refine below_set ?_ GE1185.out | refine below_set ?_ GE1186.out | refine below_set ?_ GE1283.out) | exact HB.out))) : w.heap.size ≤ gb1287)); have n7_ := Aside0.mk ((by rw [hg]; exact (below_size (by repeat (first | (with_reducible first | exact HB.out | apply below_alloc | apply pw_below_drewN | apply below_drew1 | refine below_set ?_ GE1184.out | refine below_set ?_ GE1185.out | refine below_set ?_ GE1186.out | refine below_set ?_ GE1283.out) | exact HB.out))) : w.heap.size ≤ gb1287)); have n8_ := Aside0.mk ((by rw [hg]; exact Nat.ne_of_lt (blk_lt (g := gb1184) (o := .cells #[.int .u64 a0_0, .int .u64 a0_1] 25 (0, 0)) (by (with_reducible repeat (first | refine blk_drewN ?_ _ | refine blk_drew ?_ | refine blk_alloc ?_ _)); exact BK1184.out)) : gb1184 ≠ gb1287)); have n9_ := Aside0.mk ((by rw [hg]; exact Nat.ne_of_gt (blk_lt (g := gb1184) (o := .cells #[.int .u64 a0_0, .int .u64 a0_1] 25 (0, 0)) (by (with_reducible repeat (first | refine blk_drewN ?_ _ | refine blk_drew ?_ | refine blk_alloc ?_ _)); exact BK1184.out)) : gb1287 ≠ gb1184)); have n10_ := Aside0.mk ((by rw [hg]; exact Nat.ne_of_lt (blk_lt (g := gb1185) (o := .cells #[.int .u64 a1_0, .int .u64 a1_1] 25 (0, 0)) (by (with_reducible repeat (first | refine blk_drewN ?_ _ | refine blk_drew ?_ | refine blk_alloc ?_ _)); exact BK1185.out)) : gb1185 ≠ gb1287)); have n11_ := Aside0.mk ((by rw [hg]; exact Nat.ne_of_gt (blk_lt (g := gb1185) (o := .cells #[.int .u64 a1_0, .int .u64 a1_1] 25 (0, 0)) (by (with_reducible repeat (first | refine blk_drewN ?_ _ | refine blk_drew ?_ | refine blk_alloc ?_ _)); exact BK1185.out)) : gb1287 ≠ gb1185)); have n12_ := Aside0.mk ((by rw [hg]; exact Nat.ne_of_lt (blk_lt (g := gb1186) (o := .cells #[.int .u64 a2_0, .int .u64 a2_1] 25 (0, 0)) (by (with_reducible repeat (first | refine blk_drewN ?_ _ | refine blk_drew ?_ | refine blk_alloc ?_ _)); exact BK1186.out)) : gb1186 ≠ gb1287)); have n13_ := Aside0.mk ((by rw [hg]; exact Nat.ne_of_gt (blk_lt (g := gb1186) (o := .cells #[.int .u64 a2_0, .int .u64 a2_1] 25 (0, 0)) (by (with_reducible repeat (first | refine blk_drewN ?_ _ | refine blk_drew ?_ | refine blk_alloc ?_ _)); exact BK1186.out)) : gb1287 ≠ gb1186)); have n14_ := Aside0.mk ((by rw [hg]; exact Nat.ne_of_lt (blk_lt (g := gb1283) (o := .cells #[.int .u64 t1280, .int .u64 t1281] 25 (0, 0)) (by (with_reducible repeat (first | refine blk_drewN ?_ _ | refine blk_drew ?_ | refine blk_alloc ?_ _)); exact BK1283.out)) : gb1283 ≠ gb1287)); have n15_ := Aside0.mk ((by rw [hg]; exact Nat.ne_of_gt (blk_lt (g := gb1283) (o := .cells #[.int .u64 t1280, .int .u64 t1281] 25 (0, 0)) (by (with_reducible repeat (first | refine blk_drewN ?_ _ | refine blk_drew ?_ | refine blk_alloc ?_ _)); exact BK1283.out)) : gb1287 ≠ gb1283)); clear BK1184; clear BK1185; clear BK1186; clear BK1283; clear HB; have BK1184 := n0_; have BK1185 := n1_; have BK1186 := n2_; have BK1283 := n3_; have HB := n4_; have BK1287 := n5_; have GW1287 := n6_; have GE1287 := n7_; have NB1184_1287 := n8_; have NB1287_1184 := n9_; have NB1185_1287 := n10_; have NB1287_1185 := n11_; have NB1186_1287 := n12_; have NB1287_1186 := n13_; have NB1283_1287 := n14_; have NB1287_1283 := n15_; clear n0_ n1_ n2_ n3_ n4_ n5_ n6_ n7_ n8_ n9_ n10_ n11_ n12_ n13_ n14_ n15_; clear hb hbox hg; have hnb141 := NB1287_1184.out; have hnc141 := NB1184_1287.out; have hnb142 := NB1287_1185.out; have hnc142 := NB1185_1287.out; have hnb143 := NB1287_1186.out; have hnc143 := NB1186_1287.out; have hnb144 := NB1287_1283.out; have hnc144 := NB1283_1287.out; have hcz145_0 : w140.cell? ⟨gb1287, 0, none⟩ = some (.int .u64 0) := (blk_cell BK1287.out 0).trans rfl; have hcz145_1 : w140.cell? ⟨gb1287, 1, none⟩ = some (.int .u64 0) := (blk_cell BK1287.out 1).trans rfl; have hfz145_0 := blk_frozen BK1287.out 0; have hfz145_1 := blk_frozen BK1287.out 1; have hcz146_0 : w140.cell? ⟨gb1185, 0, none⟩ = some (.int .u64 a1_0) := (blk_cell BK1185.out 0).trans rfl; have hcz146_1 : w140.cell? ⟨gb1185, 1, none⟩ = some (.int .u64 a1_1) := (blk_cell BK1185.out 1).trans rfl; have hfz146_0 := blk_frozen BK1185.out 0; have hfz146_1 := blk_frozen BK1185.out 1; have hcz147_0 : w140.cell? ⟨gb1186, 0, none⟩ = some (.int .u64 a2_0) := (blk_cell BK1186.out 0).trans rfl; have hcz147_1 : w140.cell? ⟨gb1186, 1, none⟩ = some (.int .u64 a2_1) := (blk_cell BK1186.out 1).trans rfl; have hfz147_0 := blk_frozen BK1186.out 0; have hfz147_1 := blk_frozen BK1186.out 1) | ((with_reducible refine gate_callee (f := 45) rfl ?_); refine goesL_ (some 100) rfl rfl Try.func45 (by kernel_rfl) rfl #[.agg #[.int .u64 a1_0, .int .u64 a1_1], .agg #[.int .u64 a2_0, .int .u64 a2_1]] rfl (by (try simp only [List.map_toArray, List.map_cons, List.map_nil]); first | done | rfl | (simp only [List.length_drop, List.length_take]; rfl)) ?_; (with_reducible refine (u128_Add.calls a1_0 a1_1 a2_0 a2_1 t1288 t1289 t1290 _ A51.out).mono ?_); rintro e w148 ⟨rfl, hb⟩; refine ⟨_, rfl, ?_⟩; have n0_ := Aside0.mk (blk_below (g := gb1184) (o := .cells #[.int .u64 a0_0, .int .u64 a0_1] 25 (0, 0)) (by (with_reducible repeat (first | refine blk_drewN ?_ _ | refine blk_drew ?_ | refine blk_alloc ?_ _)); refine blk_far ?_ NB1184_1287.out _; (with_reducible repeat (first | refine blk_drewN ?_ _ | refine blk_drew ?_ | refine blk_alloc ?_ _)); refine blk_far ?_ NB1184_1287.out _; (with_reducible repeat (first | refine blk_drewN ?_ _ | refine blk_drew ?_ | refine blk_alloc ?_ _)); exact BK1184.out) hb); have n1_ := Aside0.mk (blk_below (g := gb1185) (o := .cells #[.int .u64 a1_0, .int .u64 a1_1] 25 (0, 0)) (by (with_reducible repeat (first | refine blk_drewN ?_ _ | refine blk_drew ?_ | refine blk_alloc ?_ _)); refine blk_far ?_ NB1185_1287.out _; (with_reducible repeat (first | refine blk_drewN ?_ _ | refine blk_drew ?_ | refine blk_alloc ?_ _)); refine blk_far ?_ NB1185_1287.out _; (with_reducible repeat (first | refine blk_drewN ?_ _ | refine blk_drew ?_ | refine blk_alloc ?_ _)); exact BK1185.out) hb); have n2_ := Aside0.mk (blk_below (g := gb1186) (o := .cells #[.int .u64 a2_0, .int .u64 a2_1] 25 (0, 0)) (by (with_reducible repeat (first | refine blk_drewN ?_ _ | refine blk_drew ?_ | refine blk_alloc ?_ _)); refine blk_far ?_ NB1186_1287.out _; (with_reducible repeat (first | refine blk_drewN ?_ _ | refine blk_drew ?_ | refine blk_alloc ?_ _)); refine blk_far ?_ NB1186_1287.out _; (with_reducible repeat (first | refine blk_drewN ?_ _ | refine blk_drew ?_ | refine blk_alloc ?_ _)); exact BK1186.out) hb); have n3_ := Aside0.mk (blk_below (g := gb1283) (o := .cells #[.int .u64 t1280, .int .u64 t1281] 25 (0, 0)) (by (with_reducible repeat (first | refine blk_drewN ?_ _ | refine blk_drew ?_ | refine blk_alloc ?_ _)); refine blk_far ?_ NB1283_1287.out _; (with_reducible repeat (first | refine blk_drewN ?_ _ | refine blk_drew ?_ | refine blk_alloc ?_ _)); refine blk_far ?_ NB1283_1287.out _; (with_reducible repeat (first | refine blk_drewN ?_ _ | refine blk_drew ?_ | refine blk_alloc ?_ _)); exact BK1283.out) hb); have n4_ := Aside0.mk (blk_below (g := gb1287) (o := .cells #[.int .u64 t1284, .int .u64 t1285] 25 (0, 0)) (by (with_reducible repeat (first | refine blk_drewN ?_ _ | refine blk_drew ?_ | refine blk_alloc ?_ _)); refine blk_put (cs := #[.int .u64 t1284, .int .u64 0]) ?_ 1 _ rfl; (with_reducible repeat (first | refine blk_drewN ?_ _ | refine blk_drew ?_ | refine blk_alloc ?_ _)); refine blk_put (cs := #[.int .u64 0, .int .u64 0]) ?_ 0 _ rfl; (with_reducible repeat (first | refine blk_drewN ?_ _ | refine blk_drew ?_ | refine blk_alloc ?_ _)); exact BK1287.out) hb); have n5_ := Aside0.mk (below_step (by repeat (first | (with_reducible first | exact HB.out | apply below_alloc | apply pw_below_drewN | apply below_drew1 | refine below_set ?_ GE1184.out | refine below_set ?_ GE1185.out | refine below_set ?_ GE1186.out | refine below_set ?_ GE1283.out | refine below_set ?_ GE1287.out) | exact HB.out)) hb); clear BK1184; clear BK1185; clear BK1186; clear BK1283; clear BK1287; clear HB; have BK1184 := n0_; have BK1185 := n1_; have BK1186 := n2_; have BK1283 := n3_; have BK1287 := n4_; have HB := n5_; clear n0_ n1_ n2_ n3_ n4_ n5_; (try clear hb); (try clear hb2); (try clear hk); (try clear hi)) | ((with_reducible refine gate_dst (N := 16) rfl ?_); refine box_event ?hg (N := 16) ?hd (cs := #[.int .u64 0, .int .u64 0]) (t := 25) ?hr ?_; (case hd => rfl); (case hg => rfl); (case hr => first | (go_simp; done) | (go_simp; rfl)); intro gb1291 hg w149 hbox hb; have n0_ := Aside0.mk (blk_below (g := gb1184) (o := .cells #[.int .u64 a0_0, .int .u64 a0_1] 25 (0, 0)) (by (with_reducible repeat (first | refine blk_drewN ?_ _ | refine blk_drew ?_ | refine blk_alloc ?_ _)); exact BK1184.out) hb); have n1_ := Aside0.mk (blk_below (g := gb1185) (o := .cells #[.int .u64 a1_0, .int .u64 a1_1] 25 (0, 0)) (by (with_reducible repeat (first | refine blk_drewN ?_ _ | refine blk_drew ?_ | refine blk_alloc ?_ _)); exact BK1185.out) hb); have n2_ := Aside0.mk (blk_below (g := gb1186) (o := .cells #[.int .u64 a2_0, .int .u64 a2_1] 25 (0, 0)) (by (with_reducible repeat (first | refine blk_drewN ?_ _ | refine blk_drew ?_ | refine blk_alloc ?_ _)); exact BK1186.out) hb); have n3_ := Aside0.mk (blk_below (g := gb1283) (o := .cells #[.int .u64 t1280, .int .u64 t1281] 25 (0, 0)) (by (with_reducible repeat (first | refine blk_drewN ?_ _ | refine blk_drew ?_ | refine blk_alloc ?_ _)); exact BK1283.out) hb); have n4_ := Aside0.mk (blk_below (g := gb1287) (o := .cells #[.int .u64 t1284, .int .u64 t1285] 25 (0, 0)) (by (with_reducible repeat (first | refine blk_drewN ?_ _ | refine blk_drew ?_ | refine blk_alloc ?_ _)); exact BK1287.out) hb); have n5_ := Aside0.mk (below_step (by repeat (first | (with_reducible first | exact HB.out | apply below_alloc | apply pw_below_drewN | apply below_drew1 | refine below_set ?_ GE1184.out | refine below_set ?_ GE1185.out | refine below_set ?_ GE1186.out | refine below_set ?_ GE1283.out | refine below_set ?_ GE1287.out) | exact HB.out)) hb); have n6_ := Aside0.mk (hbox); have n7_ := Aside0.mk ((by rw [hg]; exact (below_size (by repeat (first | (with_reducible first | exact HB.out | apply below_alloc | apply pw_below_drewN | apply below_drew1 | refine below_set ?_ GE1184.out | refine below_set ?_ GE1185.out | refine below_set ?_ GE1186.out | refine below_set ?_ GE1283.out | refine below_set ?_ GE1287.out) | exact HB.out))) : w.heap.size ≤ gb1291)); have n8_ := Aside0.mk ((by rw [hg]; exact (below_size (by repeat (first | (with_reducible first | exact HB.out | apply below_alloc | apply pw_below_drewN | apply below_drew1 | refine below_set ?_ GE1184.out | refine below_set ?_ GE1185.out | refine below_set ?_ GE1186.out | refine below_set ?_ GE1283.out | refine below_set ?_ GE1287.out) | exact HB.out))) : w.heap.size ≤ gb1291)); have n9_ := Aside0.mk ((by rw [hg]; exact Nat.ne_of_lt (blk_lt (g := gb1184) (o := .cells #[.int .u64 a0_0, .int .u64 a0_1] 25 (0, 0)) (by (with_reducible repeat (first | refine blk_drewN ?_ _ | refine blk_drew ?_ | refine blk_alloc ?_ _)); exact BK1184.out)) : gb1184 ≠ gb1291)); have n10_ := Aside0.mk ((by rw [hg]; exact Nat.ne_of_gt (blk_lt (g := gb1184) (o := .cells #[.int .u64 a0_0, .int .u64 a0_1] 25 (0, 0)) (by (with_reducible repeat (first | refine blk_drewN ?_ _ | refine blk_drew ?_ | refine blk_alloc ?_ _)); exact BK1184.out)) : gb1291 ≠ gb1184)); have n11_ := Aside0.mk ((by rw [hg]; exact Nat.ne_of_lt (blk_lt (g := gb1185) (o := .cells #[.int .u64 a1_0, .int .u64 a1_1] 25 (0, 0)) (by (with_reducible repeat (first | refine blk_drewN ?_ _ | refine blk_drew ?_ | refine blk_alloc ?_ _)); exact BK1185.out)) : gb1185 ≠ gb1291)); have n12_ := Aside0.mk ((by rw [hg]; exact Nat.ne_of_gt (blk_lt (g := gb1185) (o := .cells #[.int .u64 a1_0, .int .u64 a1_1] 25 (0, 0)) (by (with_reducible repeat (first | refine blk_drewN ?_ _ | refine blk_drew ?_ | refine blk_alloc ?_ _)); exact BK1185.out)) : gb1291 ≠ gb1185)); have n13_ := Aside0.mk ((by rw [hg]; exact Nat.ne_of_lt (blk_lt (g := gb1186) (o := .cells #[.int .u64 a2_0, .int .u64 a2_1] 25 (0, 0)) (by (with_reducible repeat (first | refine blk_drewN ?_ _ | refine blk_drew ?_ | refine blk_alloc ?_ _)); exact BK1186.out)) : gb1186 ≠ gb1291)); have n14_ := Aside0.mk ((by rw [hg]; exact Nat.ne_of_gt (blk_lt (g := gb1186) (o := .cells #[.int .u64 a2_0, .int .u64 a2_1] 25 (0, 0)) (by (with_reducible repeat (first | refine blk_drewN ?_ _ | refine blk_drew ?_ | refine blk_alloc ?_ _)); exact BK1186.out)) : gb1291 ≠ gb1186)); have n15_ := Aside0.mk ((by rw [hg]; exact Nat.ne_of_lt (blk_lt (g := gb1283) (o := .cells #[.int .u64 t1280, .int .u64 t1281] 25 (0, 0)) (by (with_reducible repeat (first | refine blk_drewN ?_ _ | refine blk_drew ?_ | refine blk_alloc ?_ _)); exact BK1283.out)) : gb1283 ≠ gb1291)); have n16_ := Aside0.mk ((by rw [hg]; exact Nat.ne_of_gt (blk_lt (g := gb1283) (o := .cells #[.int .u64 t1280, .int .u64 t1281] 25 (0, 0)) (by (with_reducible repeat (first | refine blk_drewN ?_ _ | refine blk_drew ?_ | refine blk_alloc ?_ _)); exact BK1283.out)) : gb1291 ≠ gb1283)); have n17_ := Aside0.mk ((by rw [hg]; exact Nat.ne_of_lt (blk_lt (g := gb1287) (o := .cells #[.int .u64 t1284, .int .u64 t1285] 25 (0, 0)) (by (with_reducible repeat (first | refine blk_drewN ?_ _ | refine blk_drew ?_ | refine blk_alloc ?_ _)); exact BK1287.out)) : gb1287 ≠ gb1291)); have n18_ := Aside0.mk ((by rw [hg]; exact Nat.ne_of_gt (blk_lt (g := gb1287) (o := .cells #[.int .u64 t1284, .int .u64 t1285] 25 (0, 0)) (by (with_reducible repeat (first | refine blk_drewN ?_ _ | refine blk_drew ?_ | refine blk_alloc ?_ _)); exact BK1287.out)) : gb1291 ≠ gb1287)); clear BK1184; clear BK1185; clear BK1186; clear BK1283; clear BK1287; clear HB; have BK1184 := n0_; have BK1185 := n1_; have BK1186 := n2_; have BK1283 := n3_; have BK1287 := n4_; have HB := n5_; have BK1291 := n6_; have GW1291 := n7_; have GE1291 := n8_; have NB1184_1291 := n9_; have NB1291_1184 := n10_; have NB1185_1291 := n11_; have NB1291_1185 := n12_; have NB1186_1291 := n13_; have NB1291_1186 := n14_; have NB1283_1291 := n15_; have NB1291_1283 := n16_; have NB1287_1291 := n17_; have NB1291_1287 := n18_; clear n0_ n1_ n2_ n3_ n4_ n5_ n6_ n7_ n8_ n9_ n10_ n11_ n12_ n13_ n14_ n15_ n16_ n17_ n18_; clear hb hbox hg; have hnb150 := NB1291_1184.out; have hnc150 := NB1184_1291.out; have hnb151 := NB1291_1185.out; have hnc151 := NB1185_1291.out; have hnb152 := NB1291_1186.out; have hnc152 := NB1186_1291.out; have hnb153 := NB1291_1283.out; have hnc153 := NB1283_1291.out; have hnb154 := NB1291_1287.out; have hnc154 := NB1287_1291.out; have hcz155_0 : w149.cell? ⟨gb1291, 0, none⟩ = some (.int .u64 0) := (blk_cell BK1291.out 0).trans rfl; have hcz155_1 : w149.cell? ⟨gb1291, 1, none⟩ = some (.int .u64 0) := (blk_cell BK1291.out 1).trans rfl; have hfz155_0 := blk_frozen BK1291.out 0; have hfz155_1 := blk_frozen BK1291.out 1; have hcz156_0 : w149.cell? ⟨gb1283, 0, none⟩ = some (.int .u64 t1280) := (blk_cell BK1283.out 0).trans rfl; have hcz156_1 : w149.cell? ⟨gb1283, 1, none⟩ = some (.int .u64 t1281) := (blk_cell BK1283.out 1).trans rfl; have hfz156_0 := blk_frozen BK1283.out 0; have hfz156_1 := blk_frozen BK1283.out 1; have hcz157_0 : w149.cell? ⟨gb1184, 0, none⟩ = some (.int .u64 a0_0) := (blk_cell BK1184.out 0).trans rfl; have hcz157_1 : w149.cell? ⟨gb1184, 1, none⟩ = some (.int .u64 a0_1) := (blk_cell BK1184.out 1).trans rfl; have hfz157_0 := blk_frozen BK1184.out 0; have hfz157_1 := blk_frozen BK1184.out 1))
                      go_ret
                      exact ⟨by first | rfl | (simp [errW_none, errW_some] <;> rfl) | (simp [*, errW_none, errW_some] <;> rfl), by repeat (first | (with_reducible first | exact HB.out | apply below_alloc | apply pw_below_drewN | apply below_drew1 | refine below_set ?_ GE1184.out | refine below_set ?_ GE1185.out | refine below_set ?_ GE1186.out | refine below_set ?_ GE1283.out | refine below_set ?_ GE1287.out | refine below_set ?_ GE1291.out) | exact HB.out)⟩
                  · rw [if_neg c53] at H
                    exact absurd H (by simp)
                · rw [if_neg c52] at H
                  exact absurd H (by simp)
          · rw [if_neg c46] at H
            exact absurd H (by simp)
  · replace c5 := Bool.eq_false_iff.mpr c5
    subst c5
    have H1 : (none) = some r := by rw [if_neg (show ¬ (false = true) by decide)] at H; exact H
    clear H
    have H := H1
    clear H1
    exact absurd H (by simp)
end Go.Proofs.Ytpkjpiphjdpegaa.P
namespace Go.Proofs.Ytpkjpiphjdpegaa.P
open Go.RowKit Go.Proofs.YtpkjpiphjdpegaaW.PrintWords Go.Proofs.YtpkjpiphjdpegaaW.PrintLast Go.Proofs.YtpkjpiphjdpegaaW.PrintMore
set_option linter.unusedVariables false
set_option linter.unusedSimpArgs false
theorem awake1o : paymasterlaw01_awake.f = some true := by decide +kernel
theorem cmpI_turn1 (x y : Int) : cmpI x y = -cmpI y x := by
  unfold cmpI
  by_cases h : x < y
  · rw [if_pos h, if_neg (by omega), if_neg (by omega)]
  · by_cases h' : x = y
    · rw [if_neg h, if_pos h', if_neg (by omega), if_pos h'.symm]; rfl
    · rw [if_neg h, if_neg h', if_pos (by omega)]; rfl
theorem cmpI_add1 (x y z : Int) : cmpI (x + z) (y + z) = cmpI x y := by
  unfold cmpI
  by_cases h : x < y
  · rw [if_pos h, if_pos (by omega)]
  · by_cases h' : x = y
    · rw [if_neg h, if_pos h', if_neg (by omega), if_pos (by omega)]
    · rw [if_neg h, if_neg h', if_neg (by omega), if_neg (by omega)]
theorem cmpI_neg1 (x y : Int) : decide (cmpI x y < 0) = decide (x < y) := by
  refine decide_eq_decide.2 ?_
  unfold cmpI
  by_cases h : x < y
  · rw [if_pos h]; omega
  · by_cases h' : x = y
    · rw [if_neg h, if_pos h']; omega
    · rw [if_neg h, if_neg h']; omega
theorem u128Order_end (k : Nat) (a b c d x y : Int) (ha : U64 a) (hb : U64 b) (hc : U64 c) (hd : U64 d) (hx : U64 x) (hy : U64 y) :
    paymasterlaw01_U128Order.j0 (k + 20) (cmpI (val a b) (val c d)) false a b c d x y = some true := by
  have va := val_range a b ha hb
  have vc := val_range c d hc hd
  have vx := val_range x y hx hy
  have b1 : u128_Bytes.f a b = some (strOfNums (bytes16 a b)) := by unfold u128_Bytes.f; rw [if_pos ⟨ha, hb⟩]
  have b2 : u128_Bytes.f c d = some (strOfNums (bytes16 c d)) := by unfold u128_Bytes.f; rw [if_pos ⟨hc, hd⟩]
  have b3 : u128_From.f (k + 19) (strOfNums (bytes16 a b)) = some (a, b, 0) := from_bytes (k + 10) a b ha hb
  rw [show k + 20 = (k + 19) + 1 from rfl, paymasterlaw01_U128Order.j0, if_neg (by simp), b1, b2]
  simp only [Option.bind_some]
  rw [if_pos (by rw [strOfNums_size]; rfl), bytes_less a b c d ha hb hc hd, cmpI_neg1, if_neg (by simp), bytes_same a b c d ha hb hc hd]
  rw [if_neg, b3, add_num a b x y ha hb hx hy, add_num c d x y hc hd hx hy]
  · simp only [Option.bind_some]
    by_cases h1 : val a b + val x y < m128
    · rw [if_pos h1]
      simp only [Option.bind_some]
      by_cases h2 : val c d + val x y < m128
      · rw [if_pos h2]
        simp only [Option.bind_some]
        obtain ⟨u1, u2⟩ := u_hiOf (val a b + val x y) (by omega) h1
        obtain ⟨w1, w2⟩ := u_hiOf (val c d + val x y) (by omega) h2
        have cm := u128_Cmp_is (k + 16) _ _ _ _ u1 u2 w1 w2
        rw [val_halves, val_halves, cmpI_add1] at cm
        rw [if_pos trivial, if_pos (by simp), if_pos trivial, if_pos trivial, cm]
        simp
      · rw [if_neg h2]
        simp only [Option.bind_some]
        rw [if_pos trivial, if_pos (by simp), if_pos trivial, if_neg (by omega)]
    · rw [if_neg h1]
      simp only [Option.bind_some]
      by_cases h2 : val c d + val x y < m128
      · rw [if_pos h2]
        simp only [Option.bind_some]
        rw [if_pos trivial, if_pos (by simp), if_neg (by omega)]
      · rw [if_neg h2]
        simp only [Option.bind_some]
        rw [if_pos trivial, if_pos (by simp), if_neg (by omega)]
  · have : decide (val a b = val c d) = (cmpI (val a b) (val c d) == 0) := by
      rw [Bool.eq_iff_iff, decide_eq_true_eq, beq_iff_eq, cmpI_eq0]
    rw [this]
    simp
theorem u128Order_pure (a b c d x y : Int) (ha : U64 a) (hb : U64 b) (hc : U64 c) (hd : U64 d) (hx : U64 x) (hy : U64 y) : paymasterlaw01_U128Order.f 40 a b c d x y = some true := by
  have fin := u128Order_end 20 a b c d x y ha hb hc hd hx hy
  have c1 : u128_Cmp.f 40 a b c d = some (cmpI (val a b) (val c d)) := u128_Cmp_is 37 a b c d ha hb hc hd
  have c2 : u128_Cmp.f 40 c d x y = some (cmpI (val c d) (val x y)) := u128_Cmp_is 37 c d x y hc hd hx hy
  have c3 : u128_Cmp.f 40 a b x y = some (cmpI (val a b) (val x y)) := u128_Cmp_is 37 a b x y ha hb hx hy
  have c4 : u128_Cmp.f 40 c d a b = some (cmpI (val c d) (val a b)) := u128_Cmp_is 37 c d a b hc hd ha hb
  unfold paymasterlaw01_U128Order.f
  rw [awake1o]
  simp only [Option.bind_some]
  rw [if_pos trivial, c1, c2, c3, c4]
  simp only [Option.bind_some]
  have t1 : ¬ ((cmpI (val a b) (val c d) == 0) != (a == c && b == d)) = true := by
    have : (cmpI (val a b) (val c d) == 0) = (a == c && b == d) := by
      rw [Bool.eq_iff_iff]
      simp only [beq_iff_eq, Bool.and_eq_true]
      rw [cmpI_eq0]
      constructor
      · intro e
        exact val_inj hb hd e
      · rintro ⟨rfl, rfl⟩
        rfl
    rw [this]
    simp
  have rg := cmpI_range (val c d) (val a b)
  have rg' := cmpI_range (val a b) (val c d)
  have t2 : cmpI (val a b) (val c d) = wrap64 (-cmpI (val c d) (val a b)) := by
    rw [wi _ (by omega) (by omega)]
    exact cmpI_turn1 _ _
  rw [if_neg t1, if_pos t2, if_neg (by omega), if_neg (by omega)]
  by_cases h1 : cmpI (val a b) (val c d) ≤ 0
  · rw [if_pos h1]
    by_cases h2 : cmpI (val c d) (val x y) ≤ 0
    · have h3 : ¬ cmpI (val a b) (val x y) > 0 := by
        have k1 := (cmpI_le0 _ _).1 h1
        have k2 := (cmpI_le0 _ _).1 h2
        have k3 := (cmpI_le0 (val a b) (val x y)).2 (by omega)
        omega
      rw [if_pos h2, decide_eq_false h3]
      exact fin
    · rw [if_neg h2]
      exact fin
  · rw [if_neg h1]
    exact fin
theorem u128Order_walk {w : World} (a b : Int) (ha : U64 a) (hb : U64 b) (c d : Int) (hc : U64 c) (hd : U64 d) (x y : Int) (hx : U64 x) (hy : U64 y) :
    Calls Try.prog 14 #[.agg #[.int .u64 a, .int .u64 b], .agg #[.int .u64 c, .int .u64 d], .agg #[.int .u64 x, .int .u64 y]] w fun e w' => e = .returned (.bool true) ∧ Below w.heap.size w w' :=
  paymasterlaw01_U128Order.calls 40 a b c d x y true w (u128Order_pure a b c d x y ha hb hc hd hx hy)
end Go.Proofs.Ytpkjpiphjdpegaa.P
namespace Go.Proofs.Ytpkjpiphjdpegaa.u128Order
open Go.ChangeShapes Go.WideShapes Go.ChangeAt Go.RowKit Go.Proofs.Ytpkjpiphjdpegaa.P
open Go.ChangeMaps (open_string shut_string)
set_option linter.unusedVariables false
theorem own : ownKnob Try.prog.godebug = none := by kernel_rfl
theorem laidOut : laidOutB Try.prog = true := by kernel_rfl
set_option maxRecDepth 100000 in
theorem lifted (os : Os) (started : os.Started) (H : Type) (enc : TypeId × Value → H) :
    ReturnsInHanded {} Try.checked os 14 .any (Rows.u128OrderSpec.pre6 enc Try.prog Try.f14 Rows.u128OrderRow.domain false) (Rows.u128OrderSpec.post enc Try.prog Try.f14 false true false false) := by
  refine returnsInHanded_of_change_sized (C := Try.checked) own started (by kernel_rfl) Try.func14
    (ChangeSpec.witness6 (enc := enc) (C := Try.checked) false ⟨#[], #[.agg #[.int .u64 0, .int .u64 0], .agg #[.int .u64 0, .int .u64 0], .agg #[.int .u64 0, .int .u64 0]], []⟩ 8 (by kernel_rfl) (by kernel_rfl) (by kernel_rfl) (by kernel_rfl)) ?_
  intro W base args ds gs before hval0 hW hcnd hsz0 _
  have hval : ∀ (j : Nat) t v, Try.f14.params[j]? = some t → args[j]? = some v → Value.okWide Try.prog W .any base t v := hval0
  have hW' := hW
  obtain ⟨p, q, hA0, hV, rfl, hfz, hnd⟩ := hW
  have hA : DataW.TrodAll enc Try.prog W 0 (fun _ => true) true Try.f14.params.toList args.toList ds p := hA0
  rw [Try.params14] at hA hval
  have hAll := hA
  obtain ⟨v0, vs0, d0, ds0, p0, q0, hargs, rfl, rfl, h0, r0⟩ := trodAll_cons hA
  obtain ⟨v1, vs1, d1, ds1, p1, q1, rfl, rfl, rfl, h1, r1⟩ := trodAll_cons r0
  obtain ⟨v2, vs2, d2, ds2, p2, q2, rfl, rfl, rfl, h2, r2⟩ := trodAll_cons r1
  obtain ⟨rfl, rfl, rfl⟩ := trodAll_nil r2
  obtain rfl : args = #[v0, v1, v2] := by cases args; simp_all
  obtain ⟨rfl, rfl⟩ := trodVars_none hV
  obtain ⟨a0_0, a0_1, rfl, g0_0, g0_1⟩ := arg_25 (hval 0 25 v0 rfl rfl) h0
  obtain ⟨a1_0, a1_1, rfl, g1_0, g1_1⟩ := arg_25 (hval 1 25 v1 rfl rfl) h1
  obtain ⟨a2_0, a2_1, rfl, g2_0, g2_1⟩ := arg_25 (hval 2 25 v2 rfl rfl) h2
  clear hA0 hval0 hsz0
  refine (u128Order_walk (w := W) a0_0 a0_1 g0_0 g0_1 a1_0 a1_1 g1_0 g1_1 a2_0 a2_1 g2_0 g2_1).mono fun e W' ⟨he, bel⟩ => ?_
  subst he
  exact ⟨_, rfl, _, _, _, [], _, [], hW', trodAll_mk1 (shut_bool Try.underlying4 _), args_back laidOut bel (by kernel_rfl) hAll, rfl, bel.frame _, fun h => by cases h⟩
theorem both {a b : Bool} (h : a = true) (k : b = true) : (a && b) = true := by rw [h, k]; rfl
theorem c0 : (Rows.u128OrderRow.wf (OpenSpec.ofChange Rows.u128OrderSpec)) = true := by kernel_rfl
theorem c1 : (laidOutB Try.prog) = true := by kernel_rfl
theorem c2 : (mapsRowed Try.prog) = true := by kernel_rfl
theorem c3 : (Try.f14.params.all (Try.prog.readableRec ·)) = true := by kernel_rfl
theorem c4 : (namedTie Try.prog Rows.u128OrderRow.named Rows.u128OrderSpec.vars) = true := by kernel_rfl
theorem c5 : ((Rows.u128OrderRow.stops == [])) = true := by kernel_rfl
theorem c6 : ((Try.prog.stops == [])) = true := by kernel_rfl
theorem c7 : ((Rows.u128OrderRow.knobs == [])) = true := by kernel_rfl
theorem c8 : ((Try.prog.stopKnobs == [])) = true := by kernel_rfl
theorem c9 : ((Rows.u128OrderRow.inPlace == Try.prog.inPlace 14)) = true := by kernel_rfl
theorem c10 : ((Rows.u128OrderRow.unfollowed == Try.prog.unfollowed 14)) = true := by kernel_rfl
theorem c11 : ((Rows.u128OrderRow.recurses == Try.prog.recurses 14)) = true := by kernel_rfl
theorem c12 : ((Rows.u128OrderRow.named == Try.prog.varsNamed 14)) = true := by kernel_rfl
theorem c13 : ((Rows.u128OrderRow.maps == (Try.f14.params.toList ++ Rows.u128OrderSpec.plain.varTypes Try.prog).any (Try.prog.mapsRec ·))) = true := by kernel_rfl
theorem c14 : ((Rows.u128OrderRow.ifaces == (Try.f14.params.toList ++ Rows.u128OrderSpec.plain.varTypes Try.prog).any (Try.prog.ifacesRec ·))) = true := by kernel_rfl
theorem c15 : ((Rows.u128OrderRow.mapsOut == Try.prog.mapsAmong Try.f14.resultTypes.toList)) = true := by kernel_rfl
theorem c16 : ((Rows.u128OrderRow.loops == (Try.f14.params.toList ++ Rows.u128OrderSpec.plain.varTypes Try.prog).any (Try.prog.loopsFrom ·))) = true := by kernel_rfl
theorem c17 : ((Rows.u128OrderRow.wideKeys == (Try.f14.params.toList ++ Rows.u128OrderSpec.plain.varTypes Try.prog ++ Try.f14.resultTypes.toList).any (Try.prog.wideKeysFrom ·))) = true := by kernel_rfl
theorem c18 : (Rows.u128OrderSpec.vars.all (Try.prog.varReadable ·)) = true := by kernel_rfl
theorem c19 : (Try.f14.resultTypes.all (fun t => Try.prog.readableRec t && decide (t < Try.prog.types.size))) = true := by kernel_rfl
theorem c20 : ((Rows.u128OrderRow.ifacesOut == Try.f14.resultTypes.toList.any (Try.prog.ifacesRec ·))) = true := by kernel_rfl
theorem c21 : ((Rows.u128OrderRow.loopsOut == Try.f14.resultTypes.toList.any (Try.prog.loopsFrom ·))) = true := by kernel_rfl
theorem c22 : ((Rows.u128OrderRow.plainKeys == Try.prog.plainKeys)) = true := by kernel_rfl
theorem c23 : (Rows.u128OrderRow.shortTexts.isNone) = true := by kernel_rfl
theorem c24 : (Try.prog.stopsHeard) = true := by kernel_rfl
theorem c25 : (Try.prog.mayEnter) = true := Facts.mayEnter
theorem c26 : ((Rows.u128OrderRow.lifted == Try.prog.liftsFinal)) = true := by rw [Facts.liftsFinal]; kernel_rfl
theorem c27 : ((Try.prog.make == some Rows.u128OrderRow.make)) = true := by rw [Facts.make]; kernel_rfl
theorem c28 : ((Rows.u128OrderRow.kinds == (if Rows.u128OrderRow.domain.isEmpty then [] else Try.f14.params.toList.map fun t => match Try.prog.underlying t with | some (.int k) => some k | _ => none))) = true := by kernel_rfl
theorem c29 : ((Rows.u128OrderRow.pinned == Rows.u128OrderRow.pinnedBy)) = true := by kernel_rfl
theorem c30 : ((Rows.u128OrderRow.veiled == (Try.f14.params.toList ++ Rows.u128OrderSpec.plain.varTypes Try.prog ++ Try.f14.resultTypes.toList).any (Try.prog.veiledRec ·))) = true := by kernel_rfl
theorem c31 : (Rows.u128OrderRow.veiledFits Try.prog Try.f14.params.toList (Try.f14.params.toList ++ Rows.u128OrderSpec.plain.varTypes Try.prog ++ Try.f14.resultTypes.toList)) = true := by kernel_rfl
set_option maxRecDepth 100000 in
theorem closed : joinedFacts Try.prog 14 Try.f14 Rows.u128OrderSpec Rows.u128OrderRow = true := by
  unfold joinedFacts
  exact both (both (both (both (both (both (both (both (both (both (both (both (both (both (both (both (both (both (both (both (both (both (both (both (both (both (both (both (both (both (both (c0) c1) c2) c3) c4) c5) c6) c7) c8) c9) c10) c11) c12) c13) c14) c15) c16) c17) c18) c19) c20) c21) c22) c23) c24) c25) c26) c27) c28) c29) c30) c31
theorem over : Rows.u128OrderRow.holds Try.pinned (OpenSpec.ofChange Rows.u128OrderSpec) :=
  OpenClaim.holds_of_wide 14 Try.f14 rfl rfl rfl rfl rfl rfl rfl ⟨rfl, rfl, rfl, rfl, rfl⟩ rfl rfl rfl rfl rfl (by kernel_rfl) Try.func14 closed
    (of_decide_eq_true (by kernel_rfl)) (by unfold Func.isWrapper; first | (rw [if_pos (by decide +kernel)]; kernel_rfl) | (rw [if_neg (by decide +kernel)]; exact ⟨rfl, rfl⟩))
    (fun os started H enc _ => lifted os started H enc)
end Go.Proofs.Ytpkjpiphjdpegaa.u128Order
namespace Go.Proofs.Ytpkjpiphjdpegaa
theorem u128Order_holds : Rows.U128OrderSaid := u128Order.over
end Go.Proofs.Ytpkjpiphjdpegaa
