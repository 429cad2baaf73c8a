/- A program of this session wrote this text out of the session's own texts. (part 3 of 3) -/
import Derived.Test.YtpkjpiphjdpegaaCU128Divides2
namespace Go.Proofs.Ytpkjpiphjdpegaa.P
open Go.RowKit Go.Proofs.YtpkjpiphjdpegaaW.PrintWords Go.Proofs.YtpkjpiphjdpegaaW.PrintLast Go.Proofs.YtpkjpiphjdpegaaW.PrintMore
attribute [local go_sem] max2_int min2_int max_two min_two max_three min_three max_four min_four
set_option linter.unusedVariables false
set_option linter.unusedSimpArgs false
attribute [local go_sem high] eqA25
def paymasterlaw01_awake.f  : Option (Bool) := (u128_Of.f 1).bind fun bt1048 => ((u128_Add.f 0 18446744073709551615 bt1048.1 bt1048.2).bind fun bt1050 => ((u128_Most.f).bind fun bt1054 => ((u128_Of.f 1).bind fun bt1056 => ((u128_Add.f bt1054.1 bt1054.2 bt1056.1 bt1056.2).bind fun bt1058 => ((u128_Of.f 1).bind fun bt1062 => ((u128_Of.f 2).bind fun bt1064 => ((u128_Sub.f bt1062.1 bt1062.2 bt1064.1 bt1064.2).bind fun bt1066 => ((u128_Over.f 1 3 10).bind fun bt1070 => ((u128_Of.f 1).bind fun bt1075 => ((u128_Over.f bt1075.1 bt1075.2 0).bind fun bt1077 => (if (bt1050.1 == 1 && (bt1050.2.1 == 0)) = true then (if bt1050.2.2 = 0 then (if bt1058.2.2 = 10 then (if bt1066.2.2 = 10 then ((u128_Of.f 1844674407370955161).bind fun bt1082 => (if (bt1070.1 == bt1082.1 && (bt1070.2.1 == bt1082.2)) = true then (if bt1070.2.2.1 = 9 then (if bt1070.2.2.2 = 0 then (if bt1077.2.2.2 = 2 then ((u128_Bytes.f 1 258).bind fun t1084 => (some (t1084.toList == ([0, 0, 0, 0, 0, 0, 0, 1, 0, 0, 0, 0, 0, 0, 1, 2] : List UInt8)))) else (none)) else (none)) else (none)) else (none))) else (none)) else (none)) else (none)) else (none))))))))))))
def paymasterlaw01_awake.T6 : Bool × List (List Nat × List Nat) := (true, [([], []), ([], []), ([0, 1], [0, 1]), ([2], [2]), ([3], [3]), ([4, 3], [3, 4]), ([3, 5], [3, 5]), ([6, 3], [6]), ([7], [7]), ([8, 7], [7, 8]), ([7, 9], [7, 9]), ([10, 7], [10]), ([11], [11]), ([12, 11], [11, 12]), ([11, 13], [11, 13]), ([14, 11], [14]), ([15], [15]), ([15, 15], [15]), ([16, 17, 15], [15, 16, 17]), ([15, 18], [15, 18]), ([19, 17], [19]), ([20], [20]), ([21, 20], [20, 21]), ([20, 22], [20, 22]), ([23, 20], [23]), ([24], [24]), ([25, 24], [24, 25]), ([24, 26], [24, 26]), ([27, 24], [27]), ([28], [28]), ([29, 28], [28, 29]), ([28, 30], [28, 30]), ([31, 28], [31]), ([32], [32]), ([33, 32, 32], [32, 33]), ([34, 32], [32, 34]), ([32, 35], [32, 35]), ([36, 34, 0, 1, 2, 3, 4, 5, 6, 7, 8, 9, 10, 11, 12, 13, 14, 15, 16, 17, 18, 19, 20, 21, 22, 23, 24, 25, 26, 27, 28, 29, 30, 31, 32, 33, 34, 35, 36], [36])])
def paymasterlaw01_awake.B6 : List Nat := [0, 0, 3, 7, 15, 31, 63, 127, 255, 511, 1023, 2047, 4095, 8191, 16383, 32767, 65535, 65535, 262143, 524287, 1048575, 2097151, 4194303, 8388607, 16777215, 33554431, 67108863, 134217727, 268435455, 536870911, 1073741823, 2147483647, 4294967295, 8589934591, 17179869183, 34359738367, 68719476735, 137438953471]
theorem paymasterlaw01_awake.tab6 : rtab .any (opsOf Try.f66 6) = paymasterlaw01_awake.T6 := by kernel_rfl
theorem paymasterlaw01_awake.bits6 : waitsOk paymasterlaw01_awake.T6.2 paymasterlaw01_awake.B6 = true := by kernel_rfl
set_option maxHeartbeats 8000000 in
set_option maxRecDepth 100000 in
theorem paymasterlaw01_awake.calls  (r : Bool) (w : World) (h : paymasterlaw01_awake.f  = some r) :
    Calls Try.prog 66 #[] w fun e w' => e = .returned (.bool r) ∧ Below w.heap.size w w' := by
  have hu25 := Try.underlying25
  have HB := Aside0.mk (Below.refl w.heap.size w)
  have H : ((u128_Of.f 1).bind fun bt1048 => ((u128_Add.f 0 18446744073709551615 bt1048.1 bt1048.2).bind fun bt1050 => ((u128_Most.f).bind fun bt1054 => ((u128_Of.f 1).bind fun bt1056 => ((u128_Add.f bt1054.1 bt1054.2 bt1056.1 bt1056.2).bind fun bt1058 => ((u128_Of.f 1).bind fun bt1062 => ((u128_Of.f 2).bind fun bt1064 => ((u128_Sub.f bt1062.1 bt1062.2 bt1064.1 bt1064.2).bind fun bt1066 => ((u128_Over.f 1 3 10).bind fun bt1070 => ((u128_Of.f 1).bind fun bt1075 => ((u128_Over.f bt1075.1 bt1075.2 0).bind fun bt1077 => (if (bt1050.1 == 1 && (bt1050.2.1 == 0)) = true then (if bt1050.2.2 = 0 then (if bt1058.2.2 = 10 then (if bt1066.2.2 = 10 then ((u128_Of.f 1844674407370955161).bind fun bt1082 => (if (bt1070.1 == bt1082.1 && (bt1070.2.1 == bt1082.2)) = true then (if bt1070.2.2.1 = 9 then (if bt1070.2.2.2 = 0 then (if bt1077.2.2.2 = 2 then ((u128_Bytes.f 1 258).bind fun t1084 => (some (t1084.toList == ([0, 0, 0, 0, 0, 0, 0, 1, 0, 0, 0, 0, 0, 0, 1, 2] : List UInt8)))) else (none)) else (none)) else (none)) else (none))) else (none)) else (none)) else (none)) else (none))))))))))))) = some r := h
  clear h
  replace H := Option.bind_eq_some_iff.mp H
  obtain ⟨⟨t1048, t1049⟩, A10, H⟩ := H
  replace H : ((u128_Add.f 0 18446744073709551615 t1048 t1049).bind fun bt1050 => ((u128_Most.f).bind fun bt1054 => ((u128_Of.f 1).bind fun bt1056 => ((u128_Add.f bt1054.1 bt1054.2 bt1056.1 bt1056.2).bind fun bt1058 => ((u128_Of.f 1).bind fun bt1062 => ((u128_Of.f 2).bind fun bt1064 => ((u128_Sub.f bt1062.1 bt1062.2 bt1064.1 bt1064.2).bind fun bt1066 => ((u128_Over.f 1 3 10).bind fun bt1070 => ((u128_Of.f 1).bind fun bt1075 => ((u128_Over.f bt1075.1 bt1075.2 0).bind fun bt1077 => (if (bt1050.1 == 1 && (bt1050.2.1 == 0)) = true then (if bt1050.2.2 = 0 then (if bt1058.2.2 = 10 then (if bt1066.2.2 = 10 then ((u128_Of.f 1844674407370955161).bind fun bt1082 => (if (bt1070.1 == bt1082.1 && (bt1070.2.1 == bt1082.2)) = true then (if bt1070.2.2.1 = 9 then (if bt1070.2.2.2 = 0 then (if bt1077.2.2.2 = 2 then ((u128_Bytes.f 1 258).bind fun t1084 => (some (t1084.toList == ([0, 0, 0, 0, 0, 0, 0, 1, 0, 0, 0, 0, 0, 0, 1, 2] : List UInt8)))) else (none)) else (none)) else (none)) else (none))) else (none)) else (none)) else (none)) else (none)))))))))))) = some r := H
  have A1 := Aside0.mk A10
  clear A10
  replace H := Option.bind_eq_some_iff.mp H
  obtain ⟨⟨t1050, t1051, t1052⟩, A20, H⟩ := H
  replace H : ((u128_Most.f).bind fun bt1054 => ((u128_Of.f 1).bind fun bt1056 => ((u128_Add.f bt1054.1 bt1054.2 bt1056.1 bt1056.2).bind fun bt1058 => ((u128_Of.f 1).bind fun bt1062 => ((u128_Of.f 2).bind fun bt1064 => ((u128_Sub.f bt1062.1 bt1062.2 bt1064.1 bt1064.2).bind fun bt1066 => ((u128_Over.f 1 3 10).bind fun bt1070 => ((u128_Of.f 1).bind fun bt1075 => ((u128_Over.f bt1075.1 bt1075.2 0).bind fun bt1077 => (if (t1050 == 1 && (t1051 == 0)) = true then (if t1052 = 0 then (if bt1058.2.2 = 10 then (if bt1066.2.2 = 10 then ((u128_Of.f 1844674407370955161).bind fun bt1082 => (if (bt1070.1 == bt1082.1 && (bt1070.2.1 == bt1082.2)) = true then (if bt1070.2.2.1 = 9 then (if bt1070.2.2.2 = 0 then (if bt1077.2.2.2 = 2 then ((u128_Bytes.f 1 258).bind fun t1084 => (some (t1084.toList == ([0, 0, 0, 0, 0, 0, 0, 1, 0, 0, 0, 0, 0, 0, 1, 2] : List UInt8)))) else (none)) else (none)) else (none)) else (none))) else (none)) else (none)) else (none)) else (none))))))))))) = some r := H
  have A2 := Aside0.mk A20
  clear A20
  replace H := Option.bind_eq_some_iff.mp H
  obtain ⟨⟨t1054, t1055⟩, A30, H⟩ := H
  replace H : ((u128_Of.f 1).bind fun bt1056 => ((u128_Add.f t1054 t1055 bt1056.1 bt1056.2).bind fun bt1058 => ((u128_Of.f 1).bind fun bt1062 => ((u128_Of.f 2).bind fun bt1064 => ((u128_Sub.f bt1062.1 bt1062.2 bt1064.1 bt1064.2).bind fun bt1066 => ((u128_Over.f 1 3 10).bind fun bt1070 => ((u128_Of.f 1).bind fun bt1075 => ((u128_Over.f bt1075.1 bt1075.2 0).bind fun bt1077 => (if (t1050 == 1 && (t1051 == 0)) = true then (if t1052 = 0 then (if bt1058.2.2 = 10 then (if bt1066.2.2 = 10 then ((u128_Of.f 1844674407370955161).bind fun bt1082 => (if (bt1070.1 == bt1082.1 && (bt1070.2.1 == bt1082.2)) = true then (if bt1070.2.2.1 = 9 then (if bt1070.2.2.2 = 0 then (if bt1077.2.2.2 = 2 then ((u128_Bytes.f 1 258).bind fun t1084 => (some (t1084.toList == ([0, 0, 0, 0, 0, 0, 0, 1, 0, 0, 0, 0, 0, 0, 1, 2] : List UInt8)))) else (none)) else (none)) else (none)) else (none))) else (none)) else (none)) else (none)) else (none)))))))))) = some r := H
  have A3 := Aside0.mk A30
  clear A30
  replace H := Option.bind_eq_some_iff.mp H
  obtain ⟨⟨t1056, t1057⟩, A40, H⟩ := H
  replace H : ((u128_Add.f t1054 t1055 t1056 t1057).bind fun bt1058 => ((u128_Of.f 1).bind fun bt1062 => ((u128_Of.f 2).bind fun bt1064 => ((u128_Sub.f bt1062.1 bt1062.2 bt1064.1 bt1064.2).bind fun bt1066 => ((u128_Over.f 1 3 10).bind fun bt1070 => ((u128_Of.f 1).bind fun bt1075 => ((u128_Over.f bt1075.1 bt1075.2 0).bind fun bt1077 => (if (t1050 == 1 && (t1051 == 0)) = true then (if t1052 = 0 then (if bt1058.2.2 = 10 then (if bt1066.2.2 = 10 then ((u128_Of.f 1844674407370955161).bind fun bt1082 => (if (bt1070.1 == bt1082.1 && (bt1070.2.1 == bt1082.2)) = true then (if bt1070.2.2.1 = 9 then (if bt1070.2.2.2 = 0 then (if bt1077.2.2.2 = 2 then ((u128_Bytes.f 1 258).bind fun t1084 => (some (t1084.toList == ([0, 0, 0, 0, 0, 0, 0, 1, 0, 0, 0, 0, 0, 0, 1, 2] : List UInt8)))) else (none)) else (none)) else (none)) else (none))) else (none)) else (none)) else (none)) else (none))))))))) = some r := H
  have A4 := Aside0.mk A40
  clear A40
  replace H := Option.bind_eq_some_iff.mp H
  obtain ⟨⟨t1058, t1059, t1060⟩, A50, H⟩ := H
  replace H : ((u128_Of.f 1).bind fun bt1062 => ((u128_Of.f 2).bind fun bt1064 => ((u128_Sub.f bt1062.1 bt1062.2 bt1064.1 bt1064.2).bind fun bt1066 => ((u128_Over.f 1 3 10).bind fun bt1070 => ((u128_Of.f 1).bind fun bt1075 => ((u128_Over.f bt1075.1 bt1075.2 0).bind fun bt1077 => (if (t1050 == 1 && (t1051 == 0)) = true then (if t1052 = 0 then (if t1060 = 10 then (if bt1066.2.2 = 10 then ((u128_Of.f 1844674407370955161).bind fun bt1082 => (if (bt1070.1 == bt1082.1 && (bt1070.2.1 == bt1082.2)) = true then (if bt1070.2.2.1 = 9 then (if bt1070.2.2.2 = 0 then (if bt1077.2.2.2 = 2 then ((u128_Bytes.f 1 258).bind fun t1084 => (some (t1084.toList == ([0, 0, 0, 0, 0, 0, 0, 1, 0, 0, 0, 0, 0, 0, 1, 2] : List UInt8)))) else (none)) else (none)) else (none)) else (none))) else (none)) else (none)) else (none)) else (none)))))))) = some r := H
  have A5 := Aside0.mk A50
  clear A50
  replace H := Option.bind_eq_some_iff.mp H
  obtain ⟨⟨t1062, t1063⟩, A60, H⟩ := H
  replace H : ((u128_Of.f 2).bind fun bt1064 => ((u128_Sub.f t1062 t1063 bt1064.1 bt1064.2).bind fun bt1066 => ((u128_Over.f 1 3 10).bind fun bt1070 => ((u128_Of.f 1).bind fun bt1075 => ((u128_Over.f bt1075.1 bt1075.2 0).bind fun bt1077 => (if (t1050 == 1 && (t1051 == 0)) = true then (if t1052 = 0 then (if t1060 = 10 then (if bt1066.2.2 = 10 then ((u128_Of.f 1844674407370955161).bind fun bt1082 => (if (bt1070.1 == bt1082.1 && (bt1070.2.1 == bt1082.2)) = true then (if bt1070.2.2.1 = 9 then (if bt1070.2.2.2 = 0 then (if bt1077.2.2.2 = 2 then ((u128_Bytes.f 1 258).bind fun t1084 => (some (t1084.toList == ([0, 0, 0, 0, 0, 0, 0, 1, 0, 0, 0, 0, 0, 0, 1, 2] : List UInt8)))) else (none)) else (none)) else (none)) else (none))) else (none)) else (none)) else (none)) else (none))))))) = some r := H
  have A6 := Aside0.mk A60
  clear A60
  replace H := Option.bind_eq_some_iff.mp H
  obtain ⟨⟨t1064, t1065⟩, A70, H⟩ := H
  replace H : ((u128_Sub.f t1062 t1063 t1064 t1065).bind fun bt1066 => ((u128_Over.f 1 3 10).bind fun bt1070 => ((u128_Of.f 1).bind fun bt1075 => ((u128_Over.f bt1075.1 bt1075.2 0).bind fun bt1077 => (if (t1050 == 1 && (t1051 == 0)) = true then (if t1052 = 0 then (if t1060 = 10 then (if bt1066.2.2 = 10 then ((u128_Of.f 1844674407370955161).bind fun bt1082 => (if (bt1070.1 == bt1082.1 && (bt1070.2.1 == bt1082.2)) = true then (if bt1070.2.2.1 = 9 then (if bt1070.2.2.2 = 0 then (if bt1077.2.2.2 = 2 then ((u128_Bytes.f 1 258).bind fun t1084 => (some (t1084.toList == ([0, 0, 0, 0, 0, 0, 0, 1, 0, 0, 0, 0, 0, 0, 1, 2] : List UInt8)))) else (none)) else (none)) else (none)) else (none))) else (none)) else (none)) else (none)) else (none)))))) = some r := H
  have A7 := Aside0.mk A70
  clear A70
  replace H := Option.bind_eq_some_iff.mp H
  obtain ⟨⟨t1066, t1067, t1068⟩, A80, H⟩ := H
  replace H : ((u128_Over.f 1 3 10).bind fun bt1070 => ((u128_Of.f 1).bind fun bt1075 => ((u128_Over.f bt1075.1 bt1075.2 0).bind fun bt1077 => (if (t1050 == 1 && (t1051 == 0)) = true then (if t1052 = 0 then (if t1060 = 10 then (if t1068 = 10 then ((u128_Of.f 1844674407370955161).bind fun bt1082 => (if (bt1070.1 == bt1082.1 && (bt1070.2.1 == bt1082.2)) = true then (if bt1070.2.2.1 = 9 then (if bt1070.2.2.2 = 0 then (if bt1077.2.2.2 = 2 then ((u128_Bytes.f 1 258).bind fun t1084 => (some (t1084.toList == ([0, 0, 0, 0, 0, 0, 0, 1, 0, 0, 0, 0, 0, 0, 1, 2] : List UInt8)))) else (none)) else (none)) else (none)) else (none))) else (none)) else (none)) else (none)) else (none))))) = some r := H
  have A8 := Aside0.mk A80
  clear A80
  replace H := Option.bind_eq_some_iff.mp H
  obtain ⟨⟨t1070, t1071, t1072, t1073⟩, A90, H⟩ := H
  replace H : ((u128_Of.f 1).bind fun bt1075 => ((u128_Over.f bt1075.1 bt1075.2 0).bind fun bt1077 => (if (t1050 == 1 && (t1051 == 0)) = true then (if t1052 = 0 then (if t1060 = 10 then (if t1068 = 10 then ((u128_Of.f 1844674407370955161).bind fun bt1082 => (if (t1070 == bt1082.1 && (t1071 == bt1082.2)) = true then (if t1072 = 9 then (if t1073 = 0 then (if bt1077.2.2.2 = 2 then ((u128_Bytes.f 1 258).bind fun t1084 => (some (t1084.toList == ([0, 0, 0, 0, 0, 0, 0, 1, 0, 0, 0, 0, 0, 0, 1, 2] : List UInt8)))) else (none)) else (none)) else (none)) else (none))) else (none)) else (none)) else (none)) else (none)))) = some r := H
  have A9 := Aside0.mk A90
  clear A90
  replace H := Option.bind_eq_some_iff.mp H
  obtain ⟨⟨t1075, t1076⟩, A100, H⟩ := H
  replace H : ((u128_Over.f t1075 t1076 0).bind fun bt1077 => (if (t1050 == 1 && (t1051 == 0)) = true then (if t1052 = 0 then (if t1060 = 10 then (if t1068 = 10 then ((u128_Of.f 1844674407370955161).bind fun bt1082 => (if (t1070 == bt1082.1 && (t1071 == bt1082.2)) = true then (if t1072 = 9 then (if t1073 = 0 then (if bt1077.2.2.2 = 2 then ((u128_Bytes.f 1 258).bind fun t1084 => (some (t1084.toList == ([0, 0, 0, 0, 0, 0, 0, 1, 0, 0, 0, 0, 0, 0, 1, 2] : List UInt8)))) else (none)) else (none)) else (none)) else (none))) else (none)) else (none)) else (none)) else (none))) = some r := H
  have A10 := Aside0.mk A100
  clear A100
  replace H := Option.bind_eq_some_iff.mp H
  obtain ⟨⟨t1077, t1078, t1079, t1080⟩, A110, H⟩ := H
  replace H : (if (t1050 == 1 && (t1051 == 0)) = true then (if t1052 = 0 then (if t1060 = 10 then (if t1068 = 10 then ((u128_Of.f 1844674407370955161).bind fun bt1082 => (if (t1070 == bt1082.1 && (t1071 == bt1082.2)) = true then (if t1072 = 9 then (if t1073 = 0 then (if t1080 = 2 then ((u128_Bytes.f 1 258).bind fun t1084 => (some (t1084.toList == ([0, 0, 0, 0, 0, 0, 0, 1, 0, 0, 0, 0, 0, 0, 1, 2] : List UInt8)))) else (none)) else (none)) else (none)) else (none))) else (none)) else (none)) else (none)) else (none)) = some r := H
  have A11 := Aside0.mk A110
  clear A110
  by_cases c12 : (t1050 == 1 && (t1051 == 0)) = true
  · rw [if_pos c12] at H
    have c12b0 : (t1050 == 1 && (t1051 == 0)) = true := c12
    (try (have c12b1 : decide (t1050 = 1 && (t1051 == 0)) = true := by simpa using c12))
    (try (have c12b2 : (t1050 == 1 && (t1051 == 0)) = true := by simpa using c12))
    clear c12
    by_cases c13 : t1052 = 0
    · rw [if_pos c13] at H
      have c13b0 : (t1052 == 0) = true := beq_iff_eq.mpr c13
      have c13b1 : (t1052 != 0) = false := bne_eq_false_iff_eq.mpr c13
      clear c13
      by_cases c14 : t1060 = 10
      · rw [if_pos c14] at H
        have c14b0 : (t1060 == 10) = true := beq_iff_eq.mpr c14
        have c14b1 : (t1060 != 10) = false := bne_eq_false_iff_eq.mpr c14
        clear c14
        by_cases c15 : t1068 = 10
        · rw [if_pos c15] at H
          have c15b0 : (t1068 == 10) = true := beq_iff_eq.mpr c15
          have c15b1 : (t1068 != 10) = false := bne_eq_false_iff_eq.mpr c15
          clear c15
          replace H := Option.bind_eq_some_iff.mp H
          obtain ⟨⟨t1082, t1083⟩, A160, H⟩ := H
          replace H : (if (t1070 == t1082 && (t1071 == t1083)) = true then (if t1072 = 9 then (if t1073 = 0 then (if t1080 = 2 then ((u128_Bytes.f 1 258).bind fun t1084 => (some (t1084.toList == ([0, 0, 0, 0, 0, 0, 0, 1, 0, 0, 0, 0, 0, 0, 1, 2] : List UInt8)))) else (none)) else (none)) else (none)) else (none)) = some r := H
          have A16 := Aside0.mk A160
          clear A160
          by_cases c17 : (t1070 == t1082 && (t1071 == t1083)) = true
          · rw [if_pos c17] at H
            have c17b0 : (t1070 == t1082 && (t1071 == t1083)) = true := c17
            (try (have c17b1 : decide (t1070 = t1082 && (t1071 == t1083)) = true := by simpa using c17))
            (try (have c17b2 : (t1070 == t1082 && (t1071 == t1083)) = true := by simpa using c17))
            clear c17
            by_cases c18 : t1072 = 9
            · rw [if_pos c18] at H
              have c18b0 : (t1072 == 9) = true := beq_iff_eq.mpr c18
              have c18b1 : (t1072 != 9) = false := bne_eq_false_iff_eq.mpr c18
              clear c18
              by_cases c19 : t1073 = 0
              · rw [if_pos c19] at H
                have c19b0 : (t1073 == 0) = true := beq_iff_eq.mpr c19
                have c19b1 : (t1073 != 0) = false := bne_eq_false_iff_eq.mpr c19
                clear c19
                by_cases c20 : t1080 = 2
                · rw [if_pos c20] at H
                  have c20b0 : (t1080 == 2) = true := beq_iff_eq.mpr c20
                  have c20b1 : (t1080 != 2) = false := bne_eq_false_iff_eq.mpr c20
                  clear c20
                  replace H := Option.bind_eq_some_iff.mp H
                  obtain ⟨t1084, A210, H⟩ := H
                  replace H : (some (t1084.toList == ([0, 0, 0, 0, 0, 0, 0, 1, 0, 0, 0, 0, 0, 0, 1, 2] : List UInt8))) = some r := H
                  have A21 := Aside0.mk A210
                  clear A210
                  obtain rfl := Option.some.inj H
                  go_enter Try.func66, Try.ntmps66
                  try go_wp2_with (first | ((with_reducible refine gate_callee (f := 51) rfl ?_); refine goesL_ (some 15) rfl rfl Try.func51 (by kernel_rfl) rfl #[.int .u64 1] rfl (by (try simp only [List.map_toArray, List.map_cons, List.map_nil]); first | done | rfl | (simp only [List.length_drop, List.length_take]; rfl)) ?_; (with_reducible refine (u128_Of.calls 1 t1048 t1049 _ A1.out).mono ?_); rintro e w22 ⟨rfl, hb⟩; refine ⟨_, rfl, ?_⟩; have n0_ := Aside0.mk (below_step (by repeat (first | (with_reducible first | exact HB.out | apply below_alloc | apply pw_below_drewN | apply below_drew1) | exact HB.out)) hb); clear HB; have HB := n0_; clear n0_; (try clear hb); (try clear hb2); (try clear hk); (try clear hi)) | ((with_reducible refine gate_callee (f := 45) rfl ?_); refine goesL_ (some 16) rfl rfl Try.func45 (by kernel_rfl) rfl #[.agg #[.int .u64 0, .int .u64 18446744073709551615], .agg #[.int .u64 t1048, .int .u64 t1049]] rfl (by (try simp only [List.map_toArray, List.map_cons, List.map_nil]); first | done | rfl | (simp only [List.length_drop, List.length_take]; rfl)) ?_; (with_reducible refine (u128_Add.calls 0 18446744073709551615 t1048 t1049 t1050 t1051 t1052 _ A2.out).mono ?_); rintro e w23 ⟨rfl, hb⟩; refine ⟨_, rfl, ?_⟩; have n0_ := Aside0.mk (below_step (by repeat (first | (with_reducible first | exact HB.out | apply below_alloc | apply pw_below_drewN | apply below_drew1) | exact HB.out)) hb); clear HB; have HB := n0_; clear n0_; (try clear hb); (try clear hb2); (try clear hk); (try clear hi)) | ((with_reducible refine gate_dst (N := 1) rfl ?_); refine box_event ?hg (N := 1) ?hd (cs := #[.int .u64 0, .int .u64 0]) (t := 25) ?hr ?_; (case hd => rfl); (case hg => rfl); (case hr => first | (go_simp; done) | (go_simp; rfl)); intro gb1053 hg w24 hbox hb; have n0_ := Aside0.mk (below_step (by repeat (first | (with_reducible first | exact HB.out | apply below_alloc | apply pw_below_drewN | apply below_drew1) | exact HB.out)) hb); have n1_ := Aside0.mk (hbox); have n2_ := Aside0.mk ((by rw [hg]; exact (below_size (by repeat (first | (with_reducible first | exact HB.out | apply below_alloc | apply pw_below_drewN | apply below_drew1) | exact HB.out))) : w.heap.size ≤ gb1053)); have n3_ := Aside0.mk ((by rw [hg]; exact (below_size (by repeat (first | (with_reducible first | exact HB.out | apply below_alloc | apply pw_below_drewN | apply below_drew1) | exact HB.out))) : w.heap.size ≤ gb1053)); clear HB; have HB := n0_; have BK1053 := n1_; have GW1053 := n2_; have GE1053 := n3_; clear n0_ n1_ n2_ n3_; clear hb hbox hg; have hcz25_0 : w24.cell? ⟨gb1053, 0, none⟩ = some (.int .u64 0) := (blk_cell BK1053.out 0).trans rfl; have hcz25_1 : w24.cell? ⟨gb1053, 1, none⟩ = some (.int .u64 0) := (blk_cell BK1053.out 1).trans rfl; have hfz25_0 := blk_frozen BK1053.out 0; have hfz25_1 := blk_frozen BK1053.out 1) | ((with_reducible refine gate_callee (f := 53) rfl ?_); refine goesL_ (some 20) rfl rfl Try.func53 (by kernel_rfl) rfl #[] rfl (by (try simp only [List.map_toArray, List.map_cons, List.map_nil]); first | done | rfl | (simp only [List.length_drop, List.length_take]; rfl)) ?_; (with_reducible refine (u128_Most.calls  t1054 t1055 _ A3.out).mono ?_); rintro e w26 ⟨rfl, hb⟩; refine ⟨_, rfl, ?_⟩; have n0_ := Aside0.mk (blk_below (g := gb1053) (o := .cells #[.int .u64 t1050, .int .u64 t1051] 25 (0, 0)) (by (with_reducible repeat (first | refine blk_drewN ?_ _ | refine blk_drew ?_ | refine blk_alloc ?_ _)); refine blk_put (cs := #[.int .u64 t1050, .int .u64 0]) ?_ 1 _ rfl; (with_reducible repeat (first | refine blk_drewN ?_ _ | refine blk_drew ?_ | refine blk_alloc ?_ _)); refine blk_put (cs := #[.int .u64 0, .int .u64 0]) ?_ 0 _ rfl; (with_reducible repeat (first | refine blk_drewN ?_ _ | refine blk_drew ?_ | refine blk_alloc ?_ _)); exact BK1053.out) hb); have n1_ := Aside0.mk (below_step (by repeat (first | (with_reducible first | exact HB.out | apply below_alloc | apply pw_below_drewN | apply below_drew1 | refine below_set ?_ GE1053.out) | exact HB.out)) hb); clear BK1053; clear HB; have BK1053 := n0_; have HB := n1_; clear n0_ n1_; (try clear hb); (try clear hb2); (try clear hk); (try clear hi)) | ((with_reducible refine gate_callee (f := 51) rfl ?_); refine goesL_ (some 21) rfl rfl Try.func51 (by kernel_rfl) rfl #[.int .u64 1] rfl (by (try simp only [List.map_toArray, List.map_cons, List.map_nil]); first | done | rfl | (simp only [List.length_drop, List.length_take]; rfl)) ?_; (with_reducible refine (u128_Of.calls 1 t1056 t1057 _ A4.out).mono ?_); rintro e w27 ⟨rfl, hb⟩; refine ⟨_, rfl, ?_⟩; have n0_ := Aside0.mk (blk_below (g := gb1053) (o := .cells #[.int .u64 t1050, .int .u64 t1051] 25 (0, 0)) (by (with_reducible repeat (first | refine blk_drewN ?_ _ | refine blk_drew ?_ | refine blk_alloc ?_ _)); exact BK1053.out) hb); have n1_ := Aside0.mk (below_step (by repeat (first | (with_reducible first | exact HB.out | apply below_alloc | apply pw_below_drewN | apply below_drew1 | refine below_set ?_ GE1053.out) | exact HB.out)) hb); clear BK1053; clear HB; have BK1053 := n0_; have HB := n1_; clear n0_ n1_; (try clear hb); (try clear hb2); (try clear hk); (try clear hi)) | ((with_reducible refine gate_callee (f := 45) rfl ?_); refine goesL_ (some 22) rfl rfl Try.func45 (by kernel_rfl) rfl #[.agg #[.int .u64 t1054, .int .u64 t1055], .agg #[.int .u64 t1056, .int .u64 t1057]] rfl (by (try simp only [List.map_toArray, List.map_cons, List.map_nil]); first | done | rfl | (simp only [List.length_drop, List.length_take]; rfl)) ?_; (with_reducible refine (u128_Add.calls t1054 t1055 t1056 t1057 t1058 t1059 t1060 _ A5.out).mono ?_); rintro e w28 ⟨rfl, hb⟩; refine ⟨_, rfl, ?_⟩; have n0_ := Aside0.mk (blk_below (g := gb1053) (o := .cells #[.int .u64 t1050, .int .u64 t1051] 25 (0, 0)) (by (with_reducible repeat (first | refine blk_drewN ?_ _ | refine blk_drew ?_ | refine blk_alloc ?_ _)); exact BK1053.out) hb); have n1_ := Aside0.mk (below_step (by repeat (first | (with_reducible first | exact HB.out | apply below_alloc | apply pw_below_drewN | apply below_drew1 | refine below_set ?_ GE1053.out) | exact HB.out)) hb); clear BK1053; clear HB; have BK1053 := n0_; have HB := n1_; clear n0_ n1_; (try clear hb); (try clear hb2); (try clear hk); (try clear hi)) | ((with_reducible refine gate_dst (N := 3) rfl ?_); refine box_event ?hg (N := 3) ?hd (cs := #[.int .u64 0, .int .u64 0]) (t := 25) ?hr ?_; (case hd => rfl); (case hg => rfl); (case hr => first | (go_simp; done) | (go_simp; rfl)); intro gb1061 hg w29 hbox hb; have n0_ := Aside0.mk (blk_below (g := gb1053) (o := .cells #[.int .u64 t1050, .int .u64 t1051] 25 (0, 0)) (by (with_reducible repeat (first | refine blk_drewN ?_ _ | refine blk_drew ?_ | refine blk_alloc ?_ _)); exact BK1053.out) hb); have n1_ := Aside0.mk (below_step (by repeat (first | (with_reducible first | exact HB.out | apply below_alloc | apply pw_below_drewN | apply below_drew1 | refine below_set ?_ GE1053.out) | exact HB.out)) hb); have n2_ := Aside0.mk (hbox); have n3_ := Aside0.mk ((by rw [hg]; exact (below_size (by repeat (first | (with_reducible first | exact HB.out | apply below_alloc | apply pw_below_drewN | apply below_drew1 | refine below_set ?_ GE1053.out) | exact HB.out))) : w.heap.size ≤ gb1061)); have n4_ := Aside0.mk ((by rw [hg]; exact (below_size (by repeat (first | (with_reducible first | exact HB.out | apply below_alloc | apply pw_below_drewN | apply below_drew1 | refine below_set ?_ GE1053.out) | exact HB.out))) : w.heap.size ≤ gb1061)); have n5_ := Aside0.mk ((by rw [hg]; exact Nat.ne_of_lt (blk_lt (g := gb1053) (o := .cells #[.int .u64 t1050, .int .u64 t1051] 25 (0, 0)) (by (with_reducible repeat (first | refine blk_drewN ?_ _ | refine blk_drew ?_ | refine blk_alloc ?_ _)); exact BK1053.out)) : gb1053 ≠ gb1061)); have n6_ := Aside0.mk ((by rw [hg]; exact Nat.ne_of_gt (blk_lt (g := gb1053) (o := .cells #[.int .u64 t1050, .int .u64 t1051] 25 (0, 0)) (by (with_reducible repeat (first | refine blk_drewN ?_ _ | refine blk_drew ?_ | refine blk_alloc ?_ _)); exact BK1053.out)) : gb1061 ≠ gb1053)); clear BK1053; clear HB; have BK1053 := n0_; have HB := n1_; have BK1061 := n2_; have GW1061 := n3_; have GE1061 := n4_; have NB1053_1061 := n5_; have NB1061_1053 := n6_; clear n0_ n1_ n2_ n3_ n4_ n5_ n6_; clear hb hbox hg; have hnb30 := NB1061_1053.out; have hnc30 := NB1053_1061.out; have hcz31_0 : w29.cell? ⟨gb1061, 0, none⟩ = some (.int .u64 0) := (blk_cell BK1061.out 0).trans rfl; have hcz31_1 : w29.cell? ⟨gb1061, 1, none⟩ = some (.int .u64 0) := (blk_cell BK1061.out 1).trans rfl; have hfz31_0 := blk_frozen BK1061.out 0; have hfz31_1 := blk_frozen BK1061.out 1) | ((with_reducible refine gate_callee (f := 51) rfl ?_); refine goesL_ (some 26) rfl rfl Try.func51 (by kernel_rfl) rfl #[.int .u64 1] rfl (by (try simp only [List.map_toArray, List.map_cons, List.map_nil]); first | done | rfl | (simp only [List.length_drop, List.length_take]; rfl)) ?_; (with_reducible refine (u128_Of.calls 1 t1062 t1063 _ A6.out).mono ?_); rintro e w32 ⟨rfl, hb⟩; refine ⟨_, rfl, ?_⟩; have n0_ := Aside0.mk (blk_below (g := gb1053) (o := .cells #[.int .u64 t1050, .int .u64 t1051] 25 (0, 0)) (by (with_reducible repeat (first | refine blk_drewN ?_ _ | refine blk_drew ?_ | refine blk_alloc ?_ _)); refine blk_far ?_ NB1053_1061.out _; (with_reducible repeat (first | refine blk_drewN ?_ _ | refine blk_drew ?_ | refine blk_alloc ?_ _)); refine blk_far ?_ NB1053_1061.out _; (with_reducible repeat (first | refine blk_drewN ?_ _ | refine blk_drew ?_ | refine blk_alloc ?_ _)); exact BK1053.out) hb); have n1_ := Aside0.mk (blk_below (g := gb1061) (o := .cells #[.int .u64 t1058, .int .u64 t1059] 25 (0, 0)) (by (with_reducible repeat (first | refine blk_drewN ?_ _ | refine blk_drew ?_ | refine blk_alloc ?_ _)); refine blk_put (cs := #[.int .u64 t1058, .int .u64 0]) ?_ 1 _ rfl; (with_reducible repeat (first | refine blk_drewN ?_ _ | refine blk_drew ?_ | refine blk_alloc ?_ _)); refine blk_put (cs := #[.int .u64 0, .int .u64 0]) ?_ 0 _ rfl; (with_reducible repeat (first | refine blk_drewN ?_ _ | refine blk_drew ?_ | refine blk_alloc ?_ _)); exact BK1061.out) hb); have n2_ := Aside0.mk (below_step (by repeat (first | (with_reducible first | exact HB.out | apply below_alloc | apply pw_below_drewN | apply below_drew1 | refine below_set ?_ GE1053.out | refine below_set ?_ GE1061.out) | exact HB.out)) hb); clear BK1053; clear BK1061; clear HB; have BK1053 := n0_; have BK1061 := n1_; have HB := n2_; clear n0_ n1_ n2_; (try clear hb); (try clear hb2); (try clear hk); (try clear hi)) | ((with_reducible refine gate_callee (f := 51) rfl ?_); refine goesL_ (some 27) rfl rfl Try.func51 (by kernel_rfl) rfl #[.int .u64 2] rfl (by (try simp only [List.map_toArray, List.map_cons, List.map_nil]); first | done | rfl | (simp only [List.length_drop, List.length_take]; rfl)) ?_; (with_reducible refine (u128_Of.calls 2 t1064 t1065 _ A7.out).mono ?_); rintro e w33 ⟨rfl, hb⟩; refine ⟨_, rfl, ?_⟩; have n0_ := Aside0.mk (blk_below (g := gb1053) (o := .cells #[.int .u64 t1050, .int .u64 t1051] 25 (0, 0)) (by (with_reducible repeat (first | refine blk_drewN ?_ _ | refine blk_drew ?_ | refine blk_alloc ?_ _)); exact BK1053.out) hb); have n1_ := Aside0.mk (blk_below (g := gb1061) (o := .cells #[.int .u64 t1058, .int .u64 t1059] 25 (0, 0)) (by (with_reducible repeat (first | refine blk_drewN ?_ _ | refine blk_drew ?_ | refine blk_alloc ?_ _)); exact BK1061.out) hb); have n2_ := Aside0.mk (below_step (by repeat (first | (with_reducible first | exact HB.out | apply below_alloc | apply pw_below_drewN | apply below_drew1 | refine below_set ?_ GE1053.out | refine below_set ?_ GE1061.out) | exact HB.out)) hb); clear BK1053; clear BK1061; clear HB; have BK1053 := n0_; have BK1061 := n1_; have HB := n2_; clear n0_ n1_ n2_; (try clear hb); (try clear hb2); (try clear hk); (try clear hi)) | ((with_reducible refine gate_callee (f := 47) rfl ?_); refine goesL_ (some 28) rfl rfl Try.func47 (by kernel_rfl) rfl #[.agg #[.int .u64 t1062, .int .u64 t1063], .agg #[.int .u64 t1064, .int .u64 t1065]] rfl (by (try simp only [List.map_toArray, List.map_cons, List.map_nil]); first | done | rfl | (simp only [List.length_drop, List.length_take]; rfl)) ?_; (with_reducible refine (u128_Sub.calls t1062 t1063 t1064 t1065 t1066 t1067 t1068 _ A8.out).mono ?_); rintro e w34 ⟨rfl, hb⟩; refine ⟨_, rfl, ?_⟩; have n0_ := Aside0.mk (blk_below (g := gb1053) (o := .cells #[.int .u64 t1050, .int .u64 t1051] 25 (0, 0)) (by (with_reducible repeat (first | refine blk_drewN ?_ _ | refine blk_drew ?_ | refine blk_alloc ?_ _)); exact BK1053.out) hb); have n1_ := Aside0.mk (blk_below (g := gb1061) (o := .cells #[.int .u64 t1058, .int .u64 t1059] 25 (0, 0)) (by (with_reducible repeat (first | refine blk_drewN ?_ _ | refine blk_drew ?_ | refine blk_alloc ?_ _)); exact BK1061.out) hb); have n2_ := Aside0.mk (below_step (by repeat (first | (with_reducible first | exact HB.out | apply below_alloc | apply pw_below_drewN | apply below_drew1 | refine below_set ?_ GE1053.out | refine below_set ?_ GE1061.out) | exact HB.out)) hb); clear BK1053; clear BK1061; clear HB; have BK1053 := n0_; have BK1061 := n1_; have HB := n2_; clear n0_ n1_ n2_; (try clear hb); (try clear hb2); (try clear hk); (try clear hi)) | ((with_reducible refine gate_dst (N := 5) rfl ?_); refine box_event ?hg (N := 5) ?hd (cs := #[.int .u64 0, .int .u64 0]) (t := 25) ?hr ?_; (case hd => rfl); (case hg => rfl); (case hr => first | (go_simp; done) | (go_simp; rfl)); intro gb1069 hg w35 hbox hb; have n0_ := Aside0.mk (blk_below (g := gb1053) (o := .cells #[.int .u64 t1050, .int .u64 t1051] 25 (0, 0)) (by (with_reducible repeat (first | refine blk_drewN ?_ _ | refine blk_drew ?_ | refine blk_alloc ?_ _)); exact BK1053.out) hb); have n1_ := Aside0.mk (blk_below (g := gb1061) (o := .cells #[.int .u64 t1058, .int .u64 t1059] 25 (0, 0)) (by (with_reducible repeat (first | refine blk_drewN ?_ _ | refine blk_drew ?_ | refine blk_alloc ?_ _)); exact BK1061.out) hb); have n2_ := Aside0.mk (below_step (by repeat (first | (with_reducible first | exact HB.out | apply below_alloc | apply pw_below_drewN | apply below_drew1 | refine below_set ?_ GE1053.out | refine below_set ?_ GE1061.out) | exact HB.out)) hb); have n3_ := Aside0.mk (hbox); have n4_ := Aside0.mk ((by rw [hg]; exact (below_size (by repeat (first | (with_reducible first | exact HB.out | apply below_alloc | apply pw_below_drewN | apply below_drew1 | refine below_set ?_ GE1053.out | refine below_set ?_ GE1061.out) | exact HB.out))) : w.heap.size ≤ gb1069)); have n5_ := Aside0.mk ((by rw [hg]; exact (below_size (by repeat (first | (with_reducible first | exact HB.out | apply below_alloc | apply pw_below_drewN | apply below_drew1 | refine below_set ?_ GE1053.out | refine below_set ?_ GE1061.out) | exact HB.out))) : w.heap.size ≤ gb1069)); have n6_ := Aside0.mk ((by rw [hg]; exact Nat.ne_of_lt (blk_lt (g := gb1053) (o := .cells #[.int .u64 t1050, .int .u64 t1051] 25 (0, 0)) (by (with_reducible repeat (first | refine blk_drewN ?_ _ | refine blk_drew ?_ | refine blk_alloc ?_ _)); exact BK1053.out)) : gb1053 ≠ gb1069)); have n7_ := Aside0.mk ((by rw [hg]; exact Nat.ne_of_gt (blk_lt (g := gb1053) (o := .cells #[.int .u64 t1050, .int .u64 t1051] 25 (0, 0)) (by (with_reducible repeat (first | refine blk_drewN ?_ _ | refine blk_drew ?_ | refine blk_alloc ?_ _)); exact BK1053.out)) : gb1069 ≠ gb1053)); have n8_ := Aside0.mk ((by rw [hg]; exact Nat.ne_of_lt (blk_lt (g := gb1061) (o := .cells #[.int .u64 t1058, .int .u64 t1059] 25 (0, 0)) (by (with_reducible repeat (first | refine blk_drewN ?_ _ | refine blk_drew ?_ | refine blk_alloc ?_ _)); exact BK1061.out)) : gb1061 ≠ gb1069)); have n9_ := Aside0.mk ((by rw [hg]; exact Nat.ne_of_gt (blk_lt (g := gb1061) (o := .cells #[.int .u64 t1058, .int .u64 t1059] 25 (0, 0)) (by (with_reducible repeat (first | refine blk_drewN ?_ _ | refine blk_drew ?_ | refine blk_alloc ?_ _)); exact BK1061.out)) : gb1069 ≠ gb1061)); clear BK1053; clear BK1061; clear HB; have BK1053 := n0_; have BK1061 := n1_; have HB := n2_; have BK1069 := n3_; have GW1069 := n4_; have GE1069 := n5_; have NB1053_1069 := n6_; have NB1069_1053 := n7_; have NB1061_1069 := n8_; have NB1069_1061 := n9_; clear n0_ n1_ n2_ n3_ n4_ n5_ n6_ n7_ n8_ n9_; clear hb hbox hg; have hnb36 := NB1069_1053.out; have hnc36 := NB1053_1069.out; have hnb37 := NB1069_1061.out; have hnc37 := NB1061_1069.out; have hcz38_0 : w35.cell? ⟨gb1069, 0, none⟩ = some (.int .u64 0) := (blk_cell BK1069.out 0).trans rfl; have hcz38_1 : w35.cell? ⟨gb1069, 1, none⟩ = some (.int .u64 0) := (blk_cell BK1069.out 1).trans rfl; have hfz38_0 := blk_frozen BK1069.out 0; have hfz38_1 := blk_frozen BK1069.out 1) | ((with_reducible refine gate_callee (f := 58) rfl ?_); refine goesL_ (some 33) rfl rfl Try.func58 (by kernel_rfl) rfl #[.agg #[.int .u64 1, .int .u64 3], .int .u64 10] rfl (by (try simp only [List.map_toArray, List.map_cons, List.map_nil]); first | done | rfl | (simp only [List.length_drop, List.length_take]; rfl)) ?_; (with_reducible refine (u128_Over.calls 1 3 10 t1070 t1071 t1072 t1073 _ A9.out).mono ?_); rintro e w39 ⟨rfl, hb⟩; refine ⟨_, rfl, ?_⟩; have n0_ := Aside0.mk (blk_below (g := gb1053) (o := .cells #[.int .u64 t1050, .int .u64 t1051] 25 (0, 0)) (by (with_reducible repeat (first | refine blk_drewN ?_ _ | refine blk_drew ?_ | refine blk_alloc ?_ _)); refine blk_far ?_ NB1053_1069.out _; (with_reducible repeat (first | refine blk_drewN ?_ _ | refine blk_drew ?_ | refine blk_alloc ?_ _)); refine blk_far ?_ NB1053_1069.out _; (with_reducible repeat (first | refine blk_drewN ?_ _ | refine blk_drew ?_ | refine blk_alloc ?_ _)); exact BK1053.out) hb); have n1_ := Aside0.mk (blk_below (g := gb1061) (o := .cells #[.int .u64 t1058, .int .u64 t1059] 25 (0, 0)) (by (with_reducible repeat (first | refine blk_drewN ?_ _ | refine blk_drew ?_ | refine blk_alloc ?_ _)); refine blk_far ?_ NB1061_1069.out _; (with_reducible repeat (first | refine blk_drewN ?_ _ | refine blk_drew ?_ | refine blk_alloc ?_ _)); refine blk_far ?_ NB1061_1069.out _; (with_reducible repeat (first | refine blk_drewN ?_ _ | refine blk_drew ?_ | refine blk_alloc ?_ _)); exact BK1061.out) hb); have n2_ := Aside0.mk (blk_below (g := gb1069) (o := .cells #[.int .u64 t1066, .int .u64 t1067] 25 (0, 0)) (by (with_reducible repeat (first | refine blk_drewN ?_ _ | refine blk_drew ?_ | refine blk_alloc ?_ _)); refine blk_put (cs := #[.int .u64 t1066, .int .u64 0]) ?_ 1 _ rfl; (with_reducible repeat (first | refine blk_drewN ?_ _ | refine blk_drew ?_ | refine blk_alloc ?_ _)); refine blk_put (cs := #[.int .u64 0, .int .u64 0]) ?_ 0 _ rfl; (with_reducible repeat (first | refine blk_drewN ?_ _ | refine blk_drew ?_ | refine blk_alloc ?_ _)); exact BK1069.out) hb); have n3_ := Aside0.mk (below_step (by repeat (first | (with_reducible first | exact HB.out | apply below_alloc | apply pw_below_drewN | apply below_drew1 | refine below_set ?_ GE1053.out | refine below_set ?_ GE1061.out | refine below_set ?_ GE1069.out) | exact HB.out)) hb); clear BK1053; clear BK1061; clear BK1069; clear HB; have BK1053 := n0_; have BK1061 := n1_; have BK1069 := n2_; have HB := n3_; clear n0_ n1_ n2_ n3_; (try clear hb); (try clear hb2); (try clear hk); (try clear hi)) | ((with_reducible refine gate_dst (N := 7) rfl ?_); refine box_event ?hg (N := 7) ?hd (cs := #[.int .u64 0, .int .u64 0]) (t := 25) ?hr ?_; (case hd => rfl); (case hg => rfl); (case hr => first | (go_simp; done) | (go_simp; rfl)); intro gb1074 hg w40 hbox hb; have n0_ := Aside0.mk (blk_below (g := gb1053) (o := .cells #[.int .u64 t1050, .int .u64 t1051] 25 (0, 0)) (by (with_reducible repeat (first | refine blk_drewN ?_ _ | refine blk_drew ?_ | refine blk_alloc ?_ _)); exact BK1053.out) hb); have n1_ := Aside0.mk (blk_below (g := gb1061) (o := .cells #[.int .u64 t1058, .int .u64 t1059] 25 (0, 0)) (by (with_reducible repeat (first | refine blk_drewN ?_ _ | refine blk_drew ?_ | refine blk_alloc ?_ _)); exact BK1061.out) hb); have n2_ := Aside0.mk (blk_below (g := gb1069) (o := .cells #[.int .u64 t1066, .int .u64 t1067] 25 (0, 0)) (by (with_reducible repeat (first | refine blk_drewN ?_ _ | refine blk_drew ?_ | refine blk_alloc ?_ _)); exact BK1069.out) hb); have n3_ := Aside0.mk (below_step (by repeat (first | (with_reducible first | exact HB.out | apply below_alloc | apply pw_below_drewN | apply below_drew1 | refine below_set ?_ GE1053.out | refine below_set ?_ GE1061.out | refine below_set ?_ GE1069.out) | exact HB.out)) hb); have n4_ := Aside0.mk (hbox); have n5_ := Aside0.mk ((by rw [hg]; exact (below_size (by repeat (first | (with_reducible first | exact HB.out | apply below_alloc | apply pw_below_drewN | apply below_drew1 | refine below_set ?_ GE1053.out | refine below_set ?_ GE1061.out | refine below_set ?_ GE1069.out) | exact HB.out))) : w.heap.size ≤ gb1074)); have n6_ := Aside0.mk ((by rw [hg]; exact (below_size (by repeat (first | (with_reducible first | exact HB.out | apply below_alloc | apply pw_below_drewN | apply below_drew1 | refine below_set ?_ GE1053.out | refine below_set ?_ GE1061.out | refine below_set ?_ GE1069.out) | exact HB.out))) : w.heap.size ≤ gb1074)); have n7_ := Aside0.mk ((by rw [hg]; exact Nat.ne_of_lt (blk_lt (g := gb1053) (o := .cells #[.int .u64 t1050, .int .u64 t1051] 25 (0, 0)) (by (with_reducible repeat (first | refine blk_drewN ?_ _ | refine blk_drew ?_ | refine blk_alloc ?_ _)); exact BK1053.out)) : gb1053 ≠ gb1074)); have n8_ := Aside0.mk ((by rw [hg]; exact Nat.ne_of_gt (blk_lt (g := gb1053) (o := .cells #[.int .u64 t1050, .int .u64 t1051] 25 (0, 0)) (by (with_reducible repeat (first | refine blk_drewN ?_ _ | refine blk_drew ?_ | refine blk_alloc ?_ _)); exact BK1053.out)) : gb1074 ≠ gb1053)); have n9_ := Aside0.mk ((by rw [hg]; exact Nat.ne_of_lt (blk_lt (g := gb1061) (o := .cells #[.int .u64 t1058, .int .u64 t1059] 25 (0, 0)) (by (with_reducible repeat (first | refine blk_drewN ?_ _ | refine blk_drew ?_ | refine blk_alloc ?_ _)); exact BK1061.out)) : gb1061 ≠ gb1074)); have n10_ := Aside0.mk ((by rw [hg]; exact Nat.ne_of_gt (blk_lt (g := gb1061) (o := .cells #[.int .u64 t1058, .int .u64 t1059] 25 (0, 0)) (by (with_reducible repeat (first | refine blk_drewN ?_ _ | refine blk_drew ?_ | refine blk_alloc ?_ _)); exact BK1061.out)) : gb1074 ≠ gb1061)); have n11_ := Aside0.mk ((by rw [hg]; exact Nat.ne_of_lt (blk_lt (g := gb1069) (o := .cells #[.int .u64 t1066, .int .u64 t1067] 25 (0, 0)) (by (with_reducible repeat (first | refine blk_drewN ?_ _ | refine blk_drew ?_ | refine blk_alloc ?_ _)); exact BK1069.out)) : gb1069 ≠ gb1074)); have n12_ := Aside0.mk ((by rw [hg]; exact Nat.ne_of_gt (blk_lt (g := gb1069) (o := .cells #[.int .u64 t1066, .int .u64 t1067] 25 (0, 0)) (by (with_reducible repeat (first | refine blk_drewN ?_ _ | refine blk_drew ?_ | refine blk_alloc ?_ _)); exact BK1069.out)) : gb1074 ≠ gb1069)); clear BK1053; clear BK1061; clear BK1069; clear HB; have BK1053 := n0_; have BK1061 := n1_; have BK1069 := n2_; have HB := n3_; have BK1074 := n4_; have GW1074 := n5_; have GE1074 := n6_; have NB1053_1074 := n7_; have NB1074_1053 := n8_; have NB1061_1074 := n9_; have NB1074_1061 := n10_; have NB1069_1074 := n11_; have NB1074_1069 := n12_; clear n0_ n1_ n2_ n3_ n4_ n5_ n6_ n7_ n8_ n9_ n10_ n11_ n12_; clear hb hbox hg; have hnb41 := NB1074_1053.out; have hnc41 := NB1053_1074.out; have hnb42 := NB1074_1061.out; have hnc42 := NB1061_1074.out; have hnb43 := NB1074_1069.out; have hnc43 := NB1069_1074.out; have hcz44_0 : w40.cell? ⟨gb1074, 0, none⟩ = some (.int .u64 0) := (blk_cell BK1074.out 0).trans rfl; have hcz44_1 : w40.cell? ⟨gb1074, 1, none⟩ = some (.int .u64 0) := (blk_cell BK1074.out 1).trans rfl; have hfz44_0 := blk_frozen BK1074.out 0; have hfz44_1 := blk_frozen BK1074.out 1) | ((with_reducible refine gate_callee (f := 51) rfl ?_); refine goesL_ (some 38) rfl rfl Try.func51 (by kernel_rfl) rfl #[.int .u64 1] rfl (by (try simp only [List.map_toArray, List.map_cons, List.map_nil]); first | done | rfl | (simp only [List.length_drop, List.length_take]; rfl)) ?_; (with_reducible refine (u128_Of.calls 1 t1075 t1076 _ A10.out).mono ?_); rintro e w45 ⟨rfl, hb⟩; refine ⟨_, rfl, ?_⟩; have n0_ := Aside0.mk (blk_below (g := gb1053) (o := .cells #[.int .u64 t1050, .int .u64 t1051] 25 (0, 0)) (by (with_reducible repeat (first | refine blk_drewN ?_ _ | refine blk_drew ?_ | refine blk_alloc ?_ _)); refine blk_far ?_ NB1053_1074.out _; (with_reducible repeat (first | refine blk_drewN ?_ _ | refine blk_drew ?_ | refine blk_alloc ?_ _)); refine blk_far ?_ NB1053_1074.out _; (with_reducible repeat (first | refine blk_drewN ?_ _ | refine blk_drew ?_ | refine blk_alloc ?_ _)); exact BK1053.out) hb); have n1_ := Aside0.mk (blk_below (g := gb1061) (o := .cells #[.int .u64 t1058, .int .u64 t1059] 25 (0, 0)) (by (with_reducible repeat (first | refine blk_drewN ?_ _ | refine blk_drew ?_ | refine blk_alloc ?_ _)); refine blk_far ?_ NB1061_1074.out _; (with_reducible repeat (first | refine blk_drewN ?_ _ | refine blk_drew ?_ | refine blk_alloc ?_ _)); refine blk_far ?_ NB1061_1074.out _; (with_reducible repeat (first | refine blk_drewN ?_ _ | refine blk_drew ?_ | refine blk_alloc ?_ _)); exact BK1061.out) hb); have n2_ := Aside0.mk (blk_below (g := gb1069) (o := .cells #[.int .u64 t1066, .int .u64 t1067] 25 (0, 0)) (by (with_reducible repeat (first | refine blk_drewN ?_ _ | refine blk_drew ?_ | refine blk_alloc ?_ _)); refine blk_far ?_ NB1069_1074.out _; (with_reducible repeat (first | refine blk_drewN ?_ _ | refine blk_drew ?_ | refine blk_alloc ?_ _)); refine blk_far ?_ NB1069_1074.out _; (with_reducible repeat (first | refine blk_drewN ?_ _ | refine blk_drew ?_ | refine blk_alloc ?_ _)); exact BK1069.out) hb); have n3_ := Aside0.mk (blk_below (g := gb1074) (o := .cells #[.int .u64 t1070, .int .u64 t1071] 25 (0, 0)) (by (with_reducible repeat (first | refine blk_drewN ?_ _ | refine blk_drew ?_ | refine blk_alloc ?_ _)); refine blk_put (cs := #[.int .u64 t1070, .int .u64 0]) ?_ 1 _ rfl; (with_reducible repeat (first | refine blk_drewN ?_ _ | refine blk_drew ?_ | refine blk_alloc ?_ _)); refine blk_put (cs := #[.int .u64 0, .int .u64 0]) ?_ 0 _ rfl; (with_reducible repeat (first | refine blk_drewN ?_ _ | refine blk_drew ?_ | refine blk_alloc ?_ _)); exact BK1074.out) hb); have n4_ := Aside0.mk (below_step (by repeat (first | (with_reducible first | exact HB.out | apply below_alloc | apply pw_below_drewN | apply below_drew1 | refine below_set ?_ GE1053.out | refine below_set ?_ GE1061.out | refine below_set ?_ GE1069.out | refine below_set ?_ GE1074.out) | exact HB.out)) hb); clear BK1053; clear BK1061; clear BK1069; clear BK1074; clear HB; have BK1053 := n0_; have BK1061 := n1_; have BK1069 := n2_; have BK1074 := n3_; have HB := n4_; clear n0_ n1_ n2_ n3_ n4_; (try clear hb); (try clear hb2); (try clear hk); (try clear hi)) | ((with_reducible refine gate_callee (f := 58) rfl ?_); refine goesL_ (some 39) rfl rfl Try.func58 (by kernel_rfl) rfl #[.agg #[.int .u64 t1075, .int .u64 t1076], .int .u64 0] rfl (by (try simp only [List.map_toArray, List.map_cons, List.map_nil]); first | done | rfl | (simp only [List.length_drop, List.length_take]; rfl)) ?_; (with_reducible refine (u128_Over.calls t1075 t1076 0 t1077 t1078 t1079 t1080 _ A11.out).mono ?_); rintro e w46 ⟨rfl, hb⟩; refine ⟨_, rfl, ?_⟩; have n0_ := Aside0.mk (blk_below (g := gb1053) (o := .cells #[.int .u64 t1050, .int .u64 t1051] 25 (0, 0)) (by (with_reducible repeat (first | refine blk_drewN ?_ _ | refine blk_drew ?_ | refine blk_alloc ?_ _)); exact BK1053.out) hb); have n1_ := Aside0.mk (blk_below (g := gb1061) (o := .cells #[.int .u64 t1058, .int .u64 t1059] 25 (0, 0)) (by (with_reducible repeat (first | refine blk_drewN ?_ _ | refine blk_drew ?_ | refine blk_alloc ?_ _)); exact BK1061.out) hb); have n2_ := Aside0.mk (blk_below (g := gb1069) (o := .cells #[.int .u64 t1066, .int .u64 t1067] 25 (0, 0)) (by (with_reducible repeat (first | refine blk_drewN ?_ _ | refine blk_drew ?_ | refine blk_alloc ?_ _)); exact BK1069.out) hb); have n3_ := Aside0.mk (blk_below (g := gb1074) (o := .cells #[.int .u64 t1070, .int .u64 t1071] 25 (0, 0)) (by (with_reducible repeat (first | refine blk_drewN ?_ _ | refine blk_drew ?_ | refine blk_alloc ?_ _)); exact BK1074.out) hb); have n4_ := Aside0.mk (below_step (by repeat (first | (with_reducible first | exact HB.out | apply below_alloc | apply pw_below_drewN | apply below_drew1 | refine below_set ?_ GE1053.out | refine below_set ?_ GE1061.out | refine below_set ?_ GE1069.out | refine below_set ?_ GE1074.out) | exact HB.out)) hb); clear BK1053; clear BK1061; clear BK1069; clear BK1074; clear HB; have BK1053 := n0_; have BK1061 := n1_; have BK1069 := n2_; have BK1074 := n3_; have HB := n4_; clear n0_ n1_ n2_ n3_ n4_; (try clear hb); (try clear hb2); (try clear hk); (try clear hi)) | ((with_reducible refine gate_dst (N := 10) rfl ?_); refine box_event ?hg (N := 10) ?hd (cs := #[.int .u64 0, .int .u64 0]) (t := 25) ?hr ?_; (case hd => rfl); (case hg => rfl); (case hr => first | (go_simp; done) | (go_simp; rfl)); intro gb1081 hg w47 hbox hb; have n0_ := Aside0.mk (blk_below (g := gb1053) (o := .cells #[.int .u64 t1050, .int .u64 t1051] 25 (0, 0)) (by (with_reducible repeat (first | refine blk_drewN ?_ _ | refine blk_drew ?_ | refine blk_alloc ?_ _)); exact BK1053.out) hb); have n1_ := Aside0.mk (blk_below (g := gb1061) (o := .cells #[.int .u64 t1058, .int .u64 t1059] 25 (0, 0)) (by (with_reducible repeat (first | refine blk_drewN ?_ _ | refine blk_drew ?_ | refine blk_alloc ?_ _)); exact BK1061.out) hb); have n2_ := Aside0.mk (blk_below (g := gb1069) (o := .cells #[.int .u64 t1066, .int .u64 t1067] 25 (0, 0)) (by (with_reducible repeat (first | refine blk_drewN ?_ _ | refine blk_drew ?_ | refine blk_alloc ?_ _)); exact BK1069.out) hb); have n3_ := Aside0.mk (blk_below (g := gb1074) (o := .cells #[.int .u64 t1070, .int .u64 t1071] 25 (0, 0)) (by (with_reducible repeat (first | refine blk_drewN ?_ _ | refine blk_drew ?_ | refine blk_alloc ?_ _)); exact BK1074.out) hb); have n4_ := Aside0.mk (below_step (by repeat (first | (with_reducible first | exact HB.out | apply below_alloc | apply pw_below_drewN | apply below_drew1 | refine below_set ?_ GE1053.out | refine below_set ?_ GE1061.out | refine below_set ?_ GE1069.out | refine below_set ?_ GE1074.out) | exact HB.out)) hb); have n5_ := Aside0.mk (hbox); have n6_ := Aside0.mk ((by rw [hg]; exact (below_size (by repeat (first | (with_reducible first | exact HB.out | apply below_alloc | apply pw_below_drewN | apply below_drew1 | refine below_set ?_ GE1053.out | refine below_set ?_ GE1061.out | refine below_set ?_ GE1069.out | refine below_set ?_ GE1074.out) | exact HB.out))) : w.heap.size ≤ gb1081)); have n7_ := Aside0.mk ((by rw [hg]; exact (below_size (by repeat (first | (with_reducible first | exact HB.out | apply below_alloc | apply pw_below_drewN | apply below_drew1 | refine below_set ?_ GE1053.out | refine below_set ?_ GE1061.out | refine below_set ?_ GE1069.out | refine below_set ?_ GE1074.out) | exact HB.out))) : w.heap.size ≤ gb1081)); have n8_ := Aside0.mk ((by rw [hg]; exact Nat.ne_of_lt (blk_lt (g := gb1053) (o := .cells #[.int .u64 t1050, .int .u64 t1051] 25 (0, 0)) (by (with_reducible repeat (first | refine blk_drewN ?_ _ | refine blk_drew ?_ | refine blk_alloc ?_ _)); exact BK1053.out)) : gb1053 ≠ gb1081)); have n9_ := Aside0.mk ((by rw [hg]; exact Nat.ne_of_gt (blk_lt (g := gb1053) (o := .cells #[.int .u64 t1050, .int .u64 t1051] 25 (0, 0)) (by (with_reducible repeat (first | refine blk_drewN ?_ _ | refine blk_drew ?_ | refine blk_alloc ?_ _)); exact BK1053.out)) : gb1081 ≠ gb1053)); have n10_ := Aside0.mk ((by rw [hg]; exact Nat.ne_of_lt (blk_lt (g := gb1061) (o := .cells #[.int .u64 t1058, .int .u64 t1059] 25 (0, 0)) (by (with_reducible repeat (first | refine blk_drewN ?_ _ | refine blk_drew ?_ | refine blk_alloc ?_ _)); exact BK1061.out)) : gb1061 ≠ gb1081)); have n11_ := Aside0.mk ((by rw [hg]; exact Nat.ne_of_gt (blk_lt (g := gb1061) (o := .cells #[.int .u64 t1058, .int .u64 t1059] 25 (0, 0)) (by (with_reducible repeat (first | refine blk_drewN ?_ _ | refine blk_drew ?_ | refine blk_alloc ?_ _)); exact BK1061.out)) : gb1081 ≠ gb1061)); have n12_ := Aside0.mk ((by rw [hg]; exact Nat.ne_of_lt (blk_lt (g := gb1069) (o := .cells #[.int .u64 t1066, .int .u64 t1067] 25 (0, 0)) (by (with_reducible repeat (first | refine blk_drewN ?_ _ | refine blk_drew ?_ | refine blk_alloc ?_ _)); exact BK1069.out)) : gb1069 ≠ gb1081)); have n13_ := Aside0.mk ((by rw [hg]; exact Nat.ne_of_gt (blk_lt (g := gb1069) (o := .cells #[.int .u64 t1066, .int .u64 t1067] 25 (0, 0)) (by (with_reducible repeat (first | refine blk_drewN ?_ _ | refine blk_drew ?_ | refine blk_alloc ?_ _)); exact BK1069.out)) : gb1081 ≠ gb1069)); have n14_ := Aside0.mk ((by rw [hg]; exact Nat.ne_of_lt (blk_lt (g := gb1074) (o := .cells #[.int .u64 t1070, .int .u64 t1071] 25 (0, 0)) (by (with_reducible repeat (first | refine blk_drewN ?_ _ | refine blk_drew ?_ | refine blk_alloc ?_ _)); exact BK1074.out)) : gb1074 ≠ gb1081)); have n15_ := Aside0.mk ((by rw [hg]; exact Nat.ne_of_gt (blk_lt (g := gb1074) (o := .cells #[.int .u64 t1070, .int .u64 t1071] 25 (0, 0)) (by (with_reducible repeat (first | refine blk_drewN ?_ _ | refine blk_drew ?_ | refine blk_alloc ?_ _)); exact BK1074.out)) : gb1081 ≠ gb1074)); clear BK1053; clear BK1061; clear BK1069; clear BK1074; clear HB; have BK1053 := n0_; have BK1061 := n1_; have BK1069 := n2_; have BK1074 := n3_; have HB := n4_; have BK1081 := n5_; have GW1081 := n6_; have GE1081 := n7_; have NB1053_1081 := n8_; have NB1081_1053 := n9_; have NB1061_1081 := n10_; have NB1081_1061 := n11_; have NB1069_1081 := n12_; have NB1081_1069 := n13_; have NB1074_1081 := n14_; have NB1081_1074 := n15_; clear n0_ n1_ n2_ n3_ n4_ n5_ n6_ n7_ n8_ n9_ n10_ n11_ n12_ n13_ n14_ n15_; clear hb hbox hg; have hnb48 := NB1081_1053.out; have hnc48 := NB1053_1081.out; have hnb49 := NB1081_1061.out; have hnc49 := NB1061_1081.out; have hnb50 := NB1081_1069.out; have hnc50 := NB1069_1081.out; have hnb51 := NB1081_1074.out; have hnc51 := NB1074_1081.out; have hcz52_0 : w47.cell? ⟨gb1081, 0, none⟩ = some (.int .u64 0) := (blk_cell BK1081.out 0).trans rfl; have hcz52_1 : w47.cell? ⟨gb1081, 1, none⟩ = some (.int .u64 0) := (blk_cell BK1081.out 1).trans rfl; have hfz52_0 := blk_frozen BK1081.out 0; have hfz52_1 := blk_frozen BK1081.out 1))
                  have n0_ : Aside0 (((w47.setCell ⟨gb1081, 0, none⟩ (.int .u64 t1077)).setCell ⟨gb1081, 1, none⟩ (.int .u64 t1078)).heap[gb1053]? = some (.cells #[.int .u64 t1050, .int .u64 t1051] 25 (0, 0))) := ⟨by (with_reducible repeat (first | refine blk_drewN ?_ _ | refine blk_drew ?_ | refine blk_alloc ?_ _)); refine blk_far ?_ NB1053_1081.out _; (with_reducible repeat (first | refine blk_drewN ?_ _ | refine blk_drew ?_ | refine blk_alloc ?_ _)); refine blk_far ?_ NB1053_1081.out _; (with_reducible repeat (first | refine blk_drewN ?_ _ | refine blk_drew ?_ | refine blk_alloc ?_ _)); exact BK1053.out⟩
                  have n1_ : Aside0 (((w47.setCell ⟨gb1081, 0, none⟩ (.int .u64 t1077)).setCell ⟨gb1081, 1, none⟩ (.int .u64 t1078)).heap[gb1061]? = some (.cells #[.int .u64 t1058, .int .u64 t1059] 25 (0, 0))) := ⟨by (with_reducible repeat (first | refine blk_drewN ?_ _ | refine blk_drew ?_ | refine blk_alloc ?_ _)); refine blk_far ?_ NB1061_1081.out _; (with_reducible repeat (first | refine blk_drewN ?_ _ | refine blk_drew ?_ | refine blk_alloc ?_ _)); refine blk_far ?_ NB1061_1081.out _; (with_reducible repeat (first | refine blk_drewN ?_ _ | refine blk_drew ?_ | refine blk_alloc ?_ _)); exact BK1061.out⟩
                  have n2_ : Aside0 (((w47.setCell ⟨gb1081, 0, none⟩ (.int .u64 t1077)).setCell ⟨gb1081, 1, none⟩ (.int .u64 t1078)).heap[gb1069]? = some (.cells #[.int .u64 t1066, .int .u64 t1067] 25 (0, 0))) := ⟨by (with_reducible repeat (first | refine blk_drewN ?_ _ | refine blk_drew ?_ | refine blk_alloc ?_ _)); refine blk_far ?_ NB1069_1081.out _; (with_reducible repeat (first | refine blk_drewN ?_ _ | refine blk_drew ?_ | refine blk_alloc ?_ _)); refine blk_far ?_ NB1069_1081.out _; (with_reducible repeat (first | refine blk_drewN ?_ _ | refine blk_drew ?_ | refine blk_alloc ?_ _)); exact BK1069.out⟩
                  have n3_ : Aside0 (((w47.setCell ⟨gb1081, 0, none⟩ (.int .u64 t1077)).setCell ⟨gb1081, 1, none⟩ (.int .u64 t1078)).heap[gb1074]? = some (.cells #[.int .u64 t1070, .int .u64 t1071] 25 (0, 0))) := ⟨by (with_reducible repeat (first | refine blk_drewN ?_ _ | refine blk_drew ?_ | refine blk_alloc ?_ _)); refine blk_far ?_ NB1074_1081.out _; (with_reducible repeat (first | refine blk_drewN ?_ _ | refine blk_drew ?_ | refine blk_alloc ?_ _)); refine blk_far ?_ NB1074_1081.out _; (with_reducible repeat (first | refine blk_drewN ?_ _ | refine blk_drew ?_ | refine blk_alloc ?_ _)); exact BK1074.out⟩
                  have n4_ : Aside0 (((w47.setCell ⟨gb1081, 0, none⟩ (.int .u64 t1077)).setCell ⟨gb1081, 1, none⟩ (.int .u64 t1078)).heap[gb1081]? = some (.cells #[.int .u64 t1077, .int .u64 t1078] 25 (0, 0))) := ⟨by (with_reducible repeat (first | refine blk_drewN ?_ _ | refine blk_drew ?_ | refine blk_alloc ?_ _)); refine blk_put (cs := #[.int .u64 t1077, .int .u64 0]) ?_ 1 _ rfl; (with_reducible repeat (first | refine blk_drewN ?_ _ | refine blk_drew ?_ | refine blk_alloc ?_ _)); refine blk_put (cs := #[.int .u64 0, .int .u64 0]) ?_ 0 _ rfl; (with_reducible repeat (first | refine blk_drewN ?_ _ | refine blk_drew ?_ | refine blk_alloc ?_ _)); exact BK1081.out⟩
                  have n5_ : Aside0 (Below w.heap.size w ((w47.setCell ⟨gb1081, 0, none⟩ (.int .u64 t1077)).setCell ⟨gb1081, 1, none⟩ (.int .u64 t1078))) := ⟨by repeat (first | (with_reducible first | exact HB.out | apply below_alloc | apply pw_below_drewN | apply below_drew1 | refine below_set ?_ GE1053.out | refine below_set ?_ GE1061.out | refine below_set ?_ GE1069.out | refine below_set ?_ GE1074.out | refine below_set ?_ GE1081.out) | exact HB.out)⟩
                  (try clear BK1053)
                  (try clear BK1061)
                  (try clear BK1069)
                  (try clear BK1074)
                  (try clear BK1081)
                  (try clear HB)
                  generalize ((w47.setCell ⟨gb1081, 0, none⟩ (.int .u64 t1077)).setCell ⟨gb1081, 1, none⟩ (.int .u64 t1078)) = w53 at n0_ n1_ n2_ n3_ n4_ n5_ ⊢
                  have BK1053 := n0_
                  have BK1061 := n1_
                  have BK1069 := n2_
                  have BK1074 := n3_
                  have BK1081 := n4_
                  have HB := n5_
                  clear n0_ n1_ n2_ n3_ n4_ n5_
                  have n0_ := Aside0.mk (blk_drew BK1053.out)
                  have n1_ := Aside0.mk (blk_drew BK1061.out)
                  have n2_ := Aside0.mk (blk_drew BK1069.out)
                  have n3_ := Aside0.mk (blk_drew BK1074.out)
                  have n4_ := Aside0.mk (blk_drew BK1081.out)
                  have n5_ := Aside0.mk (below_drew1 HB.out)
                  clear BK1053
                  clear BK1061
                  clear BK1069
                  clear BK1074
                  clear BK1081
                  clear HB
                  have BK1053 := n0_
                  have BK1061 := n1_
                  have BK1069 := n2_
                  have BK1074 := n3_
                  have BK1081 := n4_
                  have HB := n5_
                  clear n0_ n1_ n2_ n3_ n4_ n5_
                  refine start_ (n := 38) (S := fun w' => w'.cell? ⟨gb1053, 0, none⟩ = some (.int .u64 t1050) ∧ w'.cell? ⟨gb1053, 1, none⟩ = some (.int .u64 t1051) ∧ w'.cell? ⟨gb1074, 0, none⟩ = some (.int .u64 t1070) ∧ w'.cell? ⟨gb1074, 1, none⟩ = some (.int .u64 t1071)) (ds := []) #[false, false, false, false, false, false, false, false, false, false, false, false, false, false, false, false, false, false, false, false, false, false, false, false, false, false, false, false, false, false, false, false, false, false, false, false, false, false] (by kernel_rfl) rfl rfl ⟨(blk_cell BK1053.out 0).trans rfl, (blk_cell BK1053.out 1).trans rfl, (blk_cell BK1074.out 0).trans rfl, (blk_cell BK1074.out 1).trans rfl⟩ (fun hHeld => ?_); refine with_tabW paymasterlaw01_awake.tab6 paymasterlaw01_awake.bits6 (fun HT_ HW_ => ?_)
                  generalize w53.drew = w54 at BK1053 BK1061 BK1069 BK1074 BK1081 HB hHeld ⊢
                  refine pure_ (i := 1) (N := some 44) (v := ?_) (a' := ?_) #[false, true, false, false, false, false, false, false, false, false, false, false, false, false, false, false, false, false, false, false, false, false, false, false, false, false, false, false, false, false, false, false, false, false, false, false, false, false] rfl rfl (any_of HT_.out (by kernel_rfl)) (fun _ _ _ h => h) (Or.inl ⟨by rfl, ?_⟩) ?_ ?_
                  rotate_left
                  · intro w'
                    go_simp
                    with_reducible rfl
                  rotate_left
                  · simp only [Act.put, List.setIfInBounds_toArray, List.set_cons_zero, List.set_cons_succ, i64_w, i32_w]
                    rfl
                  refine take_ (i := 0) (N := some 43) (v := ?_) (a' := ?_) #[true, true, false, false, false, false, false, false, false, false, false, false, false, false, false, false, false, false, false, false, false, false, false, false, false, false, false, false, false, false, false, false, false, false, false, false, false, false] rfl rfl (take_ofW HT_.out HW_.out (by kernel_rfl)) (fun _ _ _ h => h) (Or.inl ⟨by rfl, ?_⟩) hHeld ?_ ?_
                  rotate_left
                  · rintro w' ⟨s0, s1, s2, s3⟩
                    go_simp
                    with_reducible rfl
                  rotate_left
                  · simp only [Act.put, List.setIfInBounds_toArray, List.set_cons_zero, List.set_cons_succ, i64_w, i32_w]
                    rfl
                  refine pure_ (i := 2) (N := some 45) (v := ?_) (a' := ?_) #[true, true, true, false, false, false, false, false, false, false, false, false, false, false, false, false, false, false, false, false, false, false, false, false, false, false, false, false, false, false, false, false, false, false, false, false, false, false] rfl rfl (any_of HT_.out (by kernel_rfl)) (fun _ _ _ h => h) (Or.inl ⟨by rfl, ?_⟩) ?_ ?_
                  rotate_left
                  · intro w'
                    go_simp
                    with_reducible rfl
                  rotate_left
                  · simp only [Act.put, List.setIfInBounds_toArray, List.set_cons_zero, List.set_cons_succ, i64_w, i32_w]
                    rfl
                  refine pure_ (i := 3) (N := some 46) (v := ?_) (a' := ?_) #[true, true, true, true, false, false, false, false, false, false, false, false, false, false, false, false, false, false, false, false, false, false, false, false, false, false, false, false, false, false, false, false, false, false, false, false, false, false] rfl rfl (any_of HT_.out (by kernel_rfl)) (fun _ _ _ h => h) (Or.inl ⟨by rfl, ?_⟩) ?_ ?_
                  rotate_left
                  · intro w'
                    go_simp
                    with_reducible rfl
                  rotate_left
                  · simp only [Act.put, List.setIfInBounds_toArray, List.set_cons_zero, List.set_cons_succ, i64_w, i32_w]
                    rfl
                  refine pure_ (i := 4) (N := some 47) (v := ?_) (a' := ?_) #[true, true, true, true, true, false, false, false, false, false, false, false, false, false, false, false, false, false, false, false, false, false, false, false, false, false, false, false, false, false, false, false, false, false, false, false, false, false] rfl rfl (any_of HT_.out (by kernel_rfl)) (fun _ _ _ h => h) (Or.inl ⟨by rfl, ?_⟩) ?_ ?_
                  rotate_left
                  · intro w'
                    go_simp
                    with_reducible rfl
                  rotate_left
                  · simp only [Act.put, List.setIfInBounds_toArray, List.set_cons_zero, List.set_cons_succ, i64_w, i32_w]
                    rfl
                  refine pure_ (i := 5) (N := some 48) (v := ?_) (a' := ?_) #[true, true, true, true, true, true, false, false, false, false, false, false, false, false, false, false, false, false, false, false, false, false, false, false, false, false, false, false, false, false, false, false, false, false, false, false, false, false] rfl rfl (any_of HT_.out (by kernel_rfl)) (fun _ _ _ h => h) (Or.inl ⟨by rfl, ?_⟩) ?_ ?_
                  rotate_left
                  · intro w'
                    go_simp
                    with_reducible rfl
                  rotate_left
                  · simp only [Act.put, List.setIfInBounds_toArray, List.set_cons_zero, List.set_cons_succ, i64_w, i32_w]
                    rfl
                  refine pure_ (i := 6) (N := some 49) (v := ?_) (a' := ?_) #[true, true, true, true, true, true, true, false, false, false, false, false, false, false, false, false, false, false, false, false, false, false, false, false, false, false, false, false, false, false, false, false, false, false, false, false, false, false] rfl rfl (any_of HT_.out (by kernel_rfl)) (fun _ _ _ h => h) (Or.inl ⟨by rfl, ?_⟩) ?_ ?_
                  rotate_left
                  · intro w'
                    go_simp
                    with_reducible rfl
                  rotate_left
                  · simp only [Act.put, List.setIfInBounds_toArray, List.set_cons_zero, List.set_cons_succ, i64_w, i32_w]
                    rfl
                  refine pure_ (i := 7) (N := some 50) (v := ?_) (a' := ?_) #[true, true, true, true, true, true, true, true, false, false, false, false, false, false, false, false, false, false, false, false, false, false, false, false, false, false, false, false, false, false, false, false, false, false, false, false, false, false] rfl rfl (any_of HT_.out (by kernel_rfl)) (fun _ _ _ h => h) (Or.inl ⟨by rfl, ?_⟩) ?_ ?_
                  rotate_left
                  · intro w'
                    go_simp
                    with_reducible rfl
                  rotate_left
                  · simp only [Act.put, List.setIfInBounds_toArray, List.set_cons_zero, List.set_cons_succ, i64_w, i32_w]
                    rfl
                  refine pure_ (i := 8) (N := some 51) (v := ?_) (a' := ?_) #[true, true, true, true, true, true, true, true, true, false, false, false, false, false, false, false, false, false, false, false, false, false, false, false, false, false, false, false, false, false, false, false, false, false, false, false, false, false] rfl rfl (any_of HT_.out (by kernel_rfl)) (fun _ _ _ h => h) (Or.inl ⟨by rfl, ?_⟩) ?_ ?_
                  rotate_left
                  · intro w'
                    go_simp
                    with_reducible rfl
                  rotate_left
                  · simp only [Act.put, List.setIfInBounds_toArray, List.set_cons_zero, List.set_cons_succ, i64_w, i32_w]
                    rfl
                  refine pure_ (i := 9) (N := some 52) (v := ?_) (a' := ?_) #[true, true, true, true, true, true, true, true, true, true, false, false, false, false, false, false, false, false, false, false, false, false, false, false, false, false, false, false, false, false, false, false, false, false, false, false, false, false] rfl rfl (any_of HT_.out (by kernel_rfl)) (fun _ _ _ h => h) (Or.inl ⟨by rfl, ?_⟩) ?_ ?_
                  rotate_left
                  · intro w'
                    go_simp
                    with_reducible rfl
                  rotate_left
                  · simp only [Act.put, List.setIfInBounds_toArray, List.set_cons_zero, List.set_cons_succ, i64_w, i32_w]
                    rfl
                  refine pure_ (i := 10) (N := some 53) (v := ?_) (a' := ?_) #[true, true, true, true, true, true, true, true, true, true, true, false, false, false, false, false, false, false, false, false, false, false, false, false, false, false, false, false, false, false, false, false, false, false, false, false, false, false] rfl rfl (any_of HT_.out (by kernel_rfl)) (fun _ _ _ h => h) (Or.inl ⟨by rfl, ?_⟩) ?_ ?_
                  rotate_left
                  · intro w'
                    go_simp
                    with_reducible rfl
                  rotate_left
                  · simp only [Act.put, List.setIfInBounds_toArray, List.set_cons_zero, List.set_cons_succ, i64_w, i32_w]
                    rfl
                  refine pure_ (i := 11) (N := some 54) (v := ?_) (a' := ?_) #[true, true, true, true, true, true, true, true, true, true, true, true, false, false, false, false, false, false, false, false, false, false, false, false, false, false, false, false, false, false, false, false, false, false, false, false, false, false] rfl rfl (any_of HT_.out (by kernel_rfl)) (fun _ _ _ h => h) (Or.inl ⟨by rfl, ?_⟩) ?_ ?_
                  rotate_left
                  · intro w'
                    go_simp
                    with_reducible rfl
                  rotate_left
                  · simp only [Act.put, List.setIfInBounds_toArray, List.set_cons_zero, List.set_cons_succ, i64_w, i32_w]
                    rfl
                  refine pure_ (i := 12) (N := some 55) (v := ?_) (a' := ?_) #[true, true, true, true, true, true, true, true, true, true, true, true, true, false, false, false, false, false, false, false, false, false, false, false, false, false, false, false, false, false, false, false, false, false, false, false, false, false] rfl rfl (any_of HT_.out (by kernel_rfl)) (fun _ _ _ h => h) (Or.inl ⟨by rfl, ?_⟩) ?_ ?_
                  rotate_left
                  · intro w'
                    go_simp
                    with_reducible rfl
                  rotate_left
                  · simp only [Act.put, List.setIfInBounds_toArray, List.set_cons_zero, List.set_cons_succ, i64_w, i32_w]
                    rfl
                  refine pure_ (i := 13) (N := some 56) (v := ?_) (a' := ?_) #[true, true, true, true, true, true, true, true, true, true, true, true, true, true, false, false, false, false, false, false, false, false, false, false, false, false, false, false, false, false, false, false, false, false, false, false, false, false] rfl rfl (any_of HT_.out (by kernel_rfl)) (fun _ _ _ h => h) (Or.inl ⟨by rfl, ?_⟩) ?_ ?_
                  rotate_left
                  · intro w'
                    go_simp
                    with_reducible rfl
                  rotate_left
                  · simp only [Act.put, List.setIfInBounds_toArray, List.set_cons_zero, List.set_cons_succ, i64_w, i32_w]
                    rfl
                  refine pure_ (i := 14) (N := some 57) (v := ?_) (a' := ?_) #[true, true, true, true, true, true, true, true, true, true, true, true, true, true, true, false, false, false, false, false, false, false, false, false, false, false, false, false, false, false, false, false, false, false, false, false, false, false] rfl rfl (any_of HT_.out (by kernel_rfl)) (fun _ _ _ h => h) (Or.inl ⟨by rfl, ?_⟩) ?_ ?_
                  rotate_left
                  · intro w'
                    go_simp
                    with_reducible rfl
                  rotate_left
                  · simp only [Act.put, List.setIfInBounds_toArray, List.set_cons_zero, List.set_cons_succ, i64_w, i32_w]
                    rfl
                  refine pure_ (i := 15) (N := some 58) (v := ?_) (a' := ?_) #[true, true, true, true, true, true, true, true, true, true, true, true, true, true, true, true, false, false, false, false, false, false, false, false, false, false, false, false, false, false, false, false, false, false, false, false, false, false] rfl rfl (any_of HT_.out (by kernel_rfl)) (fun _ _ _ h => h) (Or.inl ⟨by rfl, ?_⟩) ?_ ?_
                  rotate_left
                  · intro w'
                    go_simp
                    with_reducible rfl
                  rotate_left
                  · simp only [Act.put, List.setIfInBounds_toArray, List.set_cons_zero, List.set_cons_succ, i64_w, i32_w]
                    rfl
                  refine take_ (i := 16) (N := some 59) (v := ?_) (a' := ?_) #[true, true, true, true, true, true, true, true, true, true, true, true, true, true, true, true, true, false, false, false, false, false, false, false, false, false, false, false, false, false, false, false, false, false, false, false, false, false] rfl rfl (take_ofW HT_.out HW_.out (by kernel_rfl)) (fun _ _ _ h => h) (Or.inl ⟨by rfl, ?_⟩) hHeld ?_ ?_
                  rotate_left
                  · rintro w' ⟨s0, s1, s2, s3⟩
                    go_simp
                    with_reducible rfl
                  rotate_left
                  · simp only [Act.put, List.setIfInBounds_toArray, List.set_cons_zero, List.set_cons_succ, i64_w, i32_w]
                    rfl
                  refine one_ (i := 17) (N := some 60) #[true, true, true, true, true, true, true, true, true, true, true, true, true, true, true, true, true, true, false, false, false, false, false, false, false, false, false, false, false, false, false, false, false, false, false, false, false, false] rfl rfl (one_of HT_.out (by kernel_rfl)) (by decide) (fun K hK => ?_)
                  refine goes_ Try.func51 (by kernel_rfl) rfl #[.int .u64 1844674407370955161] (by rfl) rfl rfl (by (try simp only [List.map_toArray, List.map_cons, List.map_nil]); first | done | rfl | (simp only [List.length_drop, List.length_take]; rfl)) ?_
                  with_reducible refine (u128_Of.calls 1844674407370955161 t1082 t1083 _ A16.out).mono ?_
                  rintro e w55 ⟨rfl, hb⟩
                  refine ⟨_, rfl, ?_⟩
                  have n0_ := Aside0.mk (blk_below (g := gb1053) (o := .cells #[.int .u64 t1050, .int .u64 t1051] 25 (0, 0)) (by (with_reducible repeat (first | refine blk_drewN ?_ _ | refine blk_drew ?_ | refine blk_alloc ?_ _)); exact BK1053.out) hb)
                  have n1_ := Aside0.mk (blk_below (g := gb1061) (o := .cells #[.int .u64 t1058, .int .u64 t1059] 25 (0, 0)) (by (with_reducible repeat (first | refine blk_drewN ?_ _ | refine blk_drew ?_ | refine blk_alloc ?_ _)); exact BK1061.out) hb)
                  have n2_ := Aside0.mk (blk_below (g := gb1069) (o := .cells #[.int .u64 t1066, .int .u64 t1067] 25 (0, 0)) (by (with_reducible repeat (first | refine blk_drewN ?_ _ | refine blk_drew ?_ | refine blk_alloc ?_ _)); exact BK1069.out) hb)
                  have n3_ := Aside0.mk (blk_below (g := gb1074) (o := .cells #[.int .u64 t1070, .int .u64 t1071] 25 (0, 0)) (by (with_reducible repeat (first | refine blk_drewN ?_ _ | refine blk_drew ?_ | refine blk_alloc ?_ _)); exact BK1074.out) hb)
                  have n4_ := Aside0.mk (blk_below (g := gb1081) (o := .cells #[.int .u64 t1077, .int .u64 t1078] 25 (0, 0)) (by (with_reducible repeat (first | refine blk_drewN ?_ _ | refine blk_drew ?_ | refine blk_alloc ?_ _)); exact BK1081.out) hb)
                  have n5_ := Aside0.mk (below_step (by repeat (first | (with_reducible first | exact HB.out | apply below_alloc | apply pw_below_drewN | apply below_drew1 | refine below_set ?_ GE1053.out | refine below_set ?_ GE1061.out | refine below_set ?_ GE1069.out | refine below_set ?_ GE1074.out | refine below_set ?_ GE1081.out) | exact HB.out)) hb)
                  clear BK1053
                  clear BK1061
                  clear BK1069
                  clear BK1074
                  clear BK1081
                  clear HB
                  have BK1053 := n0_
                  have BK1061 := n1_
                  have BK1069 := n2_
                  have BK1074 := n3_
                  have BK1081 := n4_
                  have HB := n5_
                  clear n0_ n1_ n2_ n3_ n4_ n5_
                  (try clear hb)
                  (try clear hb2)
                  (try clear hk)
                  (try clear hi)
                  refine hK.out _ _ ⟨(blk_cell BK1053.out 0).trans rfl, (blk_cell BK1053.out 1).trans rfl, (blk_cell BK1074.out 0).trans rfl, (blk_cell BK1074.out 1).trans rfl⟩ (fun hHeld => ?_)
                  clear hK K
                  refine norm_ (a' := ?_) ?_ ?_
                  rotate_left
                  · show Act.put _ (some 60) _ = _
                    simp only [Act.put, List.setIfInBounds_toArray, List.set_cons_zero, List.set_cons_succ, i64_w, i32_w]
                    rfl
                  refine pure_ (i := 18) (N := some 61) (v := ?_) (a' := ?_) #[true, true, true, true, true, true, true, true, true, true, true, true, true, true, true, true, true, true, true, false, false, false, false, false, false, false, false, false, false, false, false, false, false, false, false, false, false, false] rfl rfl (any_of HT_.out (by kernel_rfl)) (fun _ _ _ h => h) (Or.inl ⟨by rfl, ?_⟩) ?_ ?_
                  rotate_left
                  · intro w'
                    go_simp
                    with_reducible rfl
                  rotate_left
                  · simp only [Act.put, List.setIfInBounds_toArray, List.set_cons_zero, List.set_cons_succ, i64_w, i32_w]
                    rfl
                  refine pure_ (i := 19) (N := some 62) (v := ?_) (a' := ?_) #[true, true, true, true, true, true, true, true, true, true, true, true, true, true, true, true, true, true, true, true, false, false, false, false, false, false, false, false, false, false, false, false, false, false, false, false, false, false] rfl rfl (any_of HT_.out (by kernel_rfl)) (fun _ _ _ h => h) (Or.inl ⟨by rfl, ?_⟩) ?_ ?_
                  rotate_left
                  · intro w'
                    go_simp
                    with_reducible rfl
                  rotate_left
                  · simp only [Act.put, List.setIfInBounds_toArray, List.set_cons_zero, List.set_cons_succ, i64_w, i32_w]
                    rfl
                  refine pure_ (i := 20) (N := some 63) (v := ?_) (a' := ?_) #[true, true, true, true, true, true, true, true, true, true, true, true, true, true, true, true, true, true, true, true, true, false, false, false, false, false, false, false, false, false, false, false, false, false, false, false, false, false] rfl rfl (any_of HT_.out (by kernel_rfl)) (fun _ _ _ h => h) (Or.inl ⟨by rfl, ?_⟩) ?_ ?_
                  rotate_left
                  · intro w'
                    go_simp
                    with_reducible rfl
                  rotate_left
                  · simp only [Act.put, List.setIfInBounds_toArray, List.set_cons_zero, List.set_cons_succ, i64_w, i32_w]
                    rfl
                  refine pure_ (i := 21) (N := some 64) (v := ?_) (a' := ?_) #[true, true, true, true, true, true, true, true, true, true, true, true, true, true, true, true, true, true, true, true, true, true, false, false, false, false, false, false, false, false, false, false, false, false, false, false, false, false] rfl rfl (any_of HT_.out (by kernel_rfl)) (fun _ _ _ h => h) (Or.inl ⟨by rfl, ?_⟩) ?_ ?_
                  rotate_left
                  · intro w'
                    go_simp
                    with_reducible rfl
                  rotate_left
                  · simp only [Act.put, List.setIfInBounds_toArray, List.set_cons_zero, List.set_cons_succ, i64_w, i32_w]
                    rfl
                  refine pure_ (i := 22) (N := some 65) (v := ?_) (a' := ?_) #[true, true, true, true, true, true, true, true, true, true, true, true, true, true, true, true, true, true, true, true, true, true, true, false, false, false, false, false, false, false, false, false, false, false, false, false, false, false] rfl rfl (any_of HT_.out (by kernel_rfl)) (fun _ _ _ h => h) (Or.inl ⟨by rfl, ?_⟩) ?_ ?_
                  rotate_left
                  · intro w'
                    go_simp
                    with_reducible rfl
                  rotate_left
                  · simp only [Act.put, List.setIfInBounds_toArray, List.set_cons_zero, List.set_cons_succ, i64_w, i32_w]
                    rfl
                  refine pure_ (i := 23) (N := some 66) (v := ?_) (a' := ?_) #[true, true, true, true, true, true, true, true, true, true, true, true, true, true, true, true, true, true, true, true, true, true, true, true, false, false, false, false, false, false, false, false, false, false, false, false, false, false] rfl rfl (any_of HT_.out (by kernel_rfl)) (fun _ _ _ h => h) (Or.inl ⟨by rfl, ?_⟩) ?_ ?_
                  rotate_left
                  · intro w'
                    go_simp
                    with_reducible rfl
                  rotate_left
                  · simp only [Act.put, List.setIfInBounds_toArray, List.set_cons_zero, List.set_cons_succ, i64_w, i32_w]
                    rfl
                  refine pure_ (i := 24) (N := some 67) (v := ?_) (a' := ?_) #[true, true, true, true, true, true, true, true, true, true, true, true, true, true, true, true, true, true, true, true, true, true, true, true, true, false, false, false, false, false, false, false, false, false, false, false, false, false] rfl rfl (any_of HT_.out (by kernel_rfl)) (fun _ _ _ h => h) (Or.inl ⟨by rfl, ?_⟩) ?_ ?_
                  rotate_left
                  · intro w'
                    go_simp
                    with_reducible rfl
                  rotate_left
                  · simp only [Act.put, List.setIfInBounds_toArray, List.set_cons_zero, List.set_cons_succ, i64_w, i32_w]
                    rfl
                  refine pure_ (i := 25) (N := some 68) (v := ?_) (a' := ?_) #[true, true, true, true, true, true, true, true, true, true, true, true, true, true, true, true, true, true, true, true, true, true, true, true, true, true, false, false, false, false, false, false, false, false, false, false, false, false] rfl rfl (any_of HT_.out (by kernel_rfl)) (fun _ _ _ h => h) (Or.inl ⟨by rfl, ?_⟩) ?_ ?_
                  rotate_left
                  · intro w'
                    go_simp
                    with_reducible rfl
                  rotate_left
                  · simp only [Act.put, List.setIfInBounds_toArray, List.set_cons_zero, List.set_cons_succ, i64_w, i32_w]
                    rfl
                  refine pure_ (i := 26) (N := some 69) (v := ?_) (a' := ?_) #[true, true, true, true, true, true, true, true, true, true, true, true, true, true, true, true, true, true, true, true, true, true, true, true, true, true, true, false, false, false, false, false, false, false, false, false, false, false] rfl rfl (any_of HT_.out (by kernel_rfl)) (fun _ _ _ h => h) (Or.inl ⟨by rfl, ?_⟩) ?_ ?_
                  rotate_left
                  · intro w'
                    go_simp
                    with_reducible rfl
                  rotate_left
                  · simp only [Act.put, List.setIfInBounds_toArray, List.set_cons_zero, List.set_cons_succ, i64_w, i32_w]
                    rfl
                  refine pure_ (i := 27) (N := some 70) (v := ?_) (a' := ?_) #[true, true, true, true, true, true, true, true, true, true, true, true, true, true, true, true, true, true, true, true, true, true, true, true, true, true, true, true, false, false, false, false, false, false, false, false, false, false] rfl rfl (any_of HT_.out (by kernel_rfl)) (fun _ _ _ h => h) (Or.inl ⟨by rfl, ?_⟩) ?_ ?_
                  rotate_left
                  · intro w'
                    go_simp
                    with_reducible rfl
                  rotate_left
                  · simp only [Act.put, List.setIfInBounds_toArray, List.set_cons_zero, List.set_cons_succ, i64_w, i32_w]
                    rfl
                  refine pure_ (i := 28) (N := some 71) (v := ?_) (a' := ?_) #[true, true, true, true, true, true, true, true, true, true, true, true, true, true, true, true, true, true, true, true, true, true, true, true, true, true, true, true, true, false, false, false, false, false, false, false, false, false] rfl rfl (any_of HT_.out (by kernel_rfl)) (fun _ _ _ h => h) (Or.inl ⟨by rfl, ?_⟩) ?_ ?_
                  rotate_left
                  · intro w'
                    go_simp
                    with_reducible rfl
                  rotate_left
                  · simp only [Act.put, List.setIfInBounds_toArray, List.set_cons_zero, List.set_cons_succ, i64_w, i32_w]
                    rfl
                  refine pure_ (i := 29) (N := some 72) (v := ?_) (a' := ?_) #[true, true, true, true, true, true, true, true, true, true, true, true, true, true, true, true, true, true, true, true, true, true, true, true, true, true, true, true, true, true, false, false, false, false, false, false, false, false] rfl rfl (any_of HT_.out (by kernel_rfl)) (fun _ _ _ h => h) (Or.inl ⟨by rfl, ?_⟩) ?_ ?_
                  rotate_left
                  · intro w'
                    go_simp
                    with_reducible rfl
                  rotate_left
                  · simp only [Act.put, List.setIfInBounds_toArray, List.set_cons_zero, List.set_cons_succ, i64_w, i32_w]
                    rfl
                  refine pure_ (i := 30) (N := some 73) (v := ?_) (a' := ?_) #[true, true, true, true, true, true, true, true, true, true, true, true, true, true, true, true, true, true, true, true, true, true, true, true, true, true, true, true, true, true, true, false, false, false, false, false, false, false] rfl rfl (any_of HT_.out (by kernel_rfl)) (fun _ _ _ h => h) (Or.inl ⟨by rfl, ?_⟩) ?_ ?_
                  rotate_left
                  · intro w'
                    go_simp
                    with_reducible rfl
                  rotate_left
                  · simp only [Act.put, List.setIfInBounds_toArray, List.set_cons_zero, List.set_cons_succ, i64_w, i32_w]
                    rfl
                  refine pure_ (i := 31) (N := some 74) (v := ?_) (a' := ?_) #[true, true, true, true, true, true, true, true, true, true, true, true, true, true, true, true, true, true, true, true, true, true, true, true, true, true, true, true, true, true, true, true, false, false, false, false, false, false] rfl rfl (any_of HT_.out (by kernel_rfl)) (fun _ _ _ h => h) (Or.inl ⟨by rfl, ?_⟩) ?_ ?_
                  rotate_left
                  · intro w'
                    go_simp
                    with_reducible rfl
                  rotate_left
                  · simp only [Act.put, List.setIfInBounds_toArray, List.set_cons_zero, List.set_cons_succ, i64_w, i32_w]
                    rfl
                  refine pure_ (i := 32) (N := some 75) (v := ?_) (a' := ?_) #[true, true, true, true, true, true, true, true, true, true, true, true, true, true, true, true, true, true, true, true, true, true, true, true, true, true, true, true, true, true, true, true, true, false, false, false, false, false] rfl rfl (any_of HT_.out (by kernel_rfl)) (fun _ _ _ h => h) (Or.inl ⟨by rfl, ?_⟩) ?_ ?_
                  rotate_left
                  · intro w'
                    go_simp
                    with_reducible rfl
                  rotate_left
                  · simp only [Act.put, List.setIfInBounds_toArray, List.set_cons_zero, List.set_cons_succ, i64_w, i32_w]
                    rfl
                  refine pure_ (i := 33) (N := some 76) (v := ?_) (a' := ?_) #[true, true, true, true, true, true, true, true, true, true, true, true, true, true, true, true, true, true, true, true, true, true, true, true, true, true, true, true, true, true, true, true, true, true, false, false, false, false] rfl rfl (any_of HT_.out (by kernel_rfl)) (fun _ _ _ h => h) (Or.inl ⟨by rfl, ?_⟩) ?_ ?_
                  rotate_left
                  · intro w'
                    go_simp
                    with_reducible rfl
                  rotate_left
                  · simp only [Act.put, List.setIfInBounds_toArray, List.set_cons_zero, List.set_cons_succ, i64_w, i32_w]
                    rfl
                  refine one_ (i := 34) (N := some 77) #[true, true, true, true, true, true, true, true, true, true, true, true, true, true, true, true, true, true, true, true, true, true, true, true, true, true, true, true, true, true, true, true, true, true, true, false, false, false] rfl rfl (one_of HT_.out (by kernel_rfl)) (by decide) (fun K hK => ?_)
                  refine goes_ Try.func31 (by kernel_rfl) rfl #[.agg #[.int .u64 1, .int .u64 258]] (by rfl) rfl rfl (by (try simp only [List.map_toArray, List.map_cons, List.map_nil]); first | done | rfl | (simp only [List.length_drop, List.length_take]; rfl)) ?_
                  with_reducible refine (u128_Bytes.calls 1 258 t1084 _ A21.out).mono ?_
                  rintro e w56 ⟨rfl, hb⟩
                  refine ⟨_, rfl, ?_⟩
                  have n0_ := Aside0.mk (blk_below (g := gb1053) (o := .cells #[.int .u64 t1050, .int .u64 t1051] 25 (0, 0)) (by (with_reducible repeat (first | refine blk_drewN ?_ _ | refine blk_drew ?_ | refine blk_alloc ?_ _)); exact BK1053.out) hb)
                  have n1_ := Aside0.mk (blk_below (g := gb1061) (o := .cells #[.int .u64 t1058, .int .u64 t1059] 25 (0, 0)) (by (with_reducible repeat (first | refine blk_drewN ?_ _ | refine blk_drew ?_ | refine blk_alloc ?_ _)); exact BK1061.out) hb)
                  have n2_ := Aside0.mk (blk_below (g := gb1069) (o := .cells #[.int .u64 t1066, .int .u64 t1067] 25 (0, 0)) (by (with_reducible repeat (first | refine blk_drewN ?_ _ | refine blk_drew ?_ | refine blk_alloc ?_ _)); exact BK1069.out) hb)
                  have n3_ := Aside0.mk (blk_below (g := gb1074) (o := .cells #[.int .u64 t1070, .int .u64 t1071] 25 (0, 0)) (by (with_reducible repeat (first | refine blk_drewN ?_ _ | refine blk_drew ?_ | refine blk_alloc ?_ _)); exact BK1074.out) hb)
                  have n4_ := Aside0.mk (blk_below (g := gb1081) (o := .cells #[.int .u64 t1077, .int .u64 t1078] 25 (0, 0)) (by (with_reducible repeat (first | refine blk_drewN ?_ _ | refine blk_drew ?_ | refine blk_alloc ?_ _)); exact BK1081.out) hb)
                  have n5_ := Aside0.mk (below_step (by repeat (first | (with_reducible first | exact HB.out | apply below_alloc | apply pw_below_drewN | apply below_drew1 | refine below_set ?_ GE1053.out | refine below_set ?_ GE1061.out | refine below_set ?_ GE1069.out | refine below_set ?_ GE1074.out | refine below_set ?_ GE1081.out) | exact HB.out)) hb)
                  clear BK1053
                  clear BK1061
                  clear BK1069
                  clear BK1074
                  clear BK1081
                  clear HB
                  have BK1053 := n0_
                  have BK1061 := n1_
                  have BK1069 := n2_
                  have BK1074 := n3_
                  have BK1081 := n4_
                  have HB := n5_
                  clear n0_ n1_ n2_ n3_ n4_ n5_
                  (try clear hb)
                  (try clear hb2)
                  (try clear hk)
                  (try clear hi)
                  refine hK.out _ _ ⟨(blk_cell BK1053.out 0).trans rfl, (blk_cell BK1053.out 1).trans rfl, (blk_cell BK1074.out 0).trans rfl, (blk_cell BK1074.out 1).trans rfl⟩ (fun hHeld => ?_)
                  clear hK K
                  refine norm_ (a' := ?_) ?_ ?_
                  rotate_left
                  · show Act.put _ (some 77) _ = _
                    simp only [Act.put, List.setIfInBounds_toArray, List.set_cons_zero, List.set_cons_succ, i64_w, i32_w]
                    rfl
                  refine pure_ (i := 35) (N := some 78) (v := ?_) (a' := ?_) #[true, true, true, true, true, true, true, true, true, true, true, true, true, true, true, true, true, true, true, true, true, true, true, true, true, true, true, true, true, true, true, true, true, true, true, true, false, false] rfl rfl (any_of HT_.out (by kernel_rfl)) (fun _ _ _ h => h) (Or.inl ⟨by rfl, ?_⟩) ?_ ?_
                  rotate_left
                  · intro w'
                    go_simp
                    with_reducible rfl
                  rotate_left
                  · simp only [Act.put, List.setIfInBounds_toArray, List.set_cons_zero, List.set_cons_succ, i64_w, i32_w]
                    rfl
                  refine pure_ (i := 36) (N := some 79) (v := ?_) (a' := ?_) #[true, true, true, true, true, true, true, true, true, true, true, true, true, true, true, true, true, true, true, true, true, true, true, true, true, true, true, true, true, true, true, true, true, true, true, true, true, false] rfl rfl (any_of HT_.out (by kernel_rfl)) (fun _ _ _ h => h) (Or.inl ⟨by rfl, ?_⟩) ?_ ?_
                  rotate_left
                  · intro w'
                    go_simp
                    with_reducible rfl
                  rotate_left
                  · simp only [Act.put, List.setIfInBounds_toArray, List.set_cons_zero, List.set_cons_succ, i64_w, i32_w]
                    rfl
                  refine pure_ (i := 37) (N := some 0) (v := ?_) (a' := ?_) #[true, true, true, true, true, true, true, true, true, true, true, true, true, true, true, true, true, true, true, true, true, true, true, true, true, true, true, true, true, true, true, true, true, true, true, true, true, true] rfl rfl (any_of HT_.out (by kernel_rfl)) (fun _ _ _ h => h) (Or.inl ⟨by rfl, ?_⟩) ?_ ?_
                  rotate_left
                  · intro w'
                    go_simp
                    with_reducible rfl
                  rotate_left
                  · simp only [Act.put, List.setIfInBounds_toArray, List.set_cons_zero, List.set_cons_succ, i64_w, i32_w]
                    rfl
                  refine done_ (done_of HT_.out (by kernel_rfl)) ?_
                  try go_wp2
                  go_ret
                  exact ⟨by first | rfl | (simp [errW_none, errW_some] <;> rfl) | (simp [*, errW_none, errW_some] <;> rfl), by repeat (first | (with_reducible first | exact HB.out | apply below_alloc | apply pw_below_drewN | apply below_drew1 | refine below_set ?_ GE1053.out | refine below_set ?_ GE1061.out | refine below_set ?_ GE1069.out | refine below_set ?_ GE1074.out | refine below_set ?_ GE1081.out) | exact HB.out)⟩
                · rw [if_neg c20] at H
                  have c20b0 : (t1080 == 2) = false := beq_eq_false_iff_ne.mpr c20
                  have c20b1 : (t1080 != 2) = true := bne_iff_ne.mpr c20
                  exact absurd H (by simp)
              · rw [if_neg c19] at H
                have c19b0 : (t1073 == 0) = false := beq_eq_false_iff_ne.mpr c19
                have c19b1 : (t1073 != 0) = true := bne_iff_ne.mpr c19
                exact absurd H (by simp)
            · rw [if_neg c18] at H
              have c18b0 : (t1072 == 9) = false := beq_eq_false_iff_ne.mpr c18
              have c18b1 : (t1072 != 9) = true := bne_iff_ne.mpr c18
              exact absurd H (by simp)
          · rw [if_neg c17] at H
            have c17b0 : (t1070 == t1082 && (t1071 == t1083)) = false := by simpa using c17
            (try (have c17b1 : decide (t1070 = t1082 && (t1071 == t1083)) = false := by simpa using c17))
            (try (have c17b2 : (t1070 == t1082 && (t1071 == t1083)) = false := by simpa using c17))
            (try (have c17b3 : ¬ (t1070 = t1082 && (t1071 == t1083)) := by simpa using c17))
            clear c17
            exact absurd H (by simp)
        · rw [if_neg c15] at H
          have c15b0 : (t1068 == 10) = false := beq_eq_false_iff_ne.mpr c15
          have c15b1 : (t1068 != 10) = true := bne_iff_ne.mpr c15
          exact absurd H (by simp)
      · rw [if_neg c14] at H
        have c14b0 : (t1060 == 10) = false := beq_eq_false_iff_ne.mpr c14
        have c14b1 : (t1060 != 10) = true := bne_iff_ne.mpr c14
        exact absurd H (by simp)
    · rw [if_neg c13] at H
      have c13b0 : (t1052 == 0) = false := beq_eq_false_iff_ne.mpr c13
      have c13b1 : (t1052 != 0) = true := bne_iff_ne.mpr c13
      exact absurd H (by simp)
  · rw [if_neg c12] at H
    have c12b0 : (t1050 == 1 && (t1051 == 0)) = false := by simpa using c12
    (try (have c12b1 : decide (t1050 = 1 && (t1051 == 0)) = false := by simpa using c12))
    (try (have c12b2 : (t1050 == 1 && (t1051 == 0)) = false := by simpa using c12))
    (try (have c12b3 : ¬ (t1050 = 1 && (t1051 == 0)) := by simpa using c12))
    clear c12
    exact absurd H (by simp)
end Go.Proofs.Ytpkjpiphjdpegaa.P
namespace Go.Proofs.Ytpkjpiphjdpegaa.P
open Go.RowKit Go.Proofs.YtpkjpiphjdpegaaW.PrintWords Go.Proofs.YtpkjpiphjdpegaaW.PrintLast Go.Proofs.YtpkjpiphjdpegaaW.PrintMore
attribute [local go_sem] max2_int min2_int max_two min_two max_three min_three max_four min_four
set_option linter.unusedVariables false
set_option linter.unusedSimpArgs false
attribute [local go_sem high] eqA25
def paymasterlaw01_U128Divides.j0 : Nat → Int → Int → Bool → Int → Int → Int → Int → Option (Bool)
  | 0, _, _, _, _, _, _, _ => none
  | k + 1, x1, x18, x115, x1357000, x1357001, x1453000, x1453001 => if x115 = true then (none) else (if x18 = 0 then ((u128_Over.f x1453000 x1453001 x1).bind fun bt1459 => (if bt1459.2.2.2 = 0 then (if (bt1459.1 == x1357000 && (bt1459.2.1 == x1357001)) = true then (some (bt1459.2.2.1 == 0)) else (none)) else (none))) else (some true))
def paymasterlaw01_U128Divides.f (k : Nat) (a0_0 : Int) (a0_1 : Int) (a1 : Int) : Option (Bool) := (paymasterlaw01_awake.f).bind fun t1357 => (if t1357 = true then (if a1 = 0 then ((u128_Times.f a0_0 a0_1 a1).bind fun bt1377 => (if bt1377.2.2 = 0 then (some (bt1377.1 == 0 && (bt1377.2.1 == 0))) else (none))) else ((u128_Over.f a0_0 a0_1 a1).bind fun bt1403 => ((u128_Times.f bt1403.1 bt1403.2.1 a1).bind fun bt1408 => ((u128_Of.f bt1403.2.2.1).bind fun bt1412 => ((u128_Add.f bt1408.1 bt1408.2.1 bt1412.1 bt1412.2).bind fun bt1414 => (if bt1403.2.2.2 = 0 then (if bt1408.2.2 = 0 then (if bt1414.2.2 = 0 then (if bt1403.2.2.1 ≥ a1 then (none) else (if (!(bt1414.1 == a0_0) || (!(bt1414.2.1 == a0_1))) = true then (none) else ((u128_Most.f).bind fun bt1442 => ((u128_Over.f bt1442.1 bt1442.2 a1).bind fun bt1444 => ((u128_Times.f a0_0 a0_1 a1).bind fun bt1449 => (if bt1444.2.2.2 = 0 then ((u128_Cmp.f k a0_0 a0_1 bt1444.1 bt1444.2.1).bind fun t1453 => (if ((bt1449.2.2 == 0) != (decide (t1453 ≤ 0))) = true then (none) else (if bt1449.2.2 = 0 then (paymasterlaw01_U128Divides.j0 k a1 bt1449.2.2 false a0_0 a0_1 bt1449.1 bt1449.2.1) else (if bt1449.2.2 = 10 then (paymasterlaw01_U128Divides.j0 k a1 bt1449.2.2 (!(bt1449.1 == 0) || (!(bt1449.2.1 == 0))) a0_0 a0_1 bt1449.1 bt1449.2.1) else (none))))) else (none))))))) else (none)) else (none)) else (none))))))) else (none))
def paymasterlaw01_U128Divides.T8 : Bool × List (List Nat × List Nat) := (true, [([], []), ([], []), ([1], [1]), ([0, 2, 2], [0, 2]), ([3], [3]), ([4], [4]), ([4], [4]), ([], []), ([7, 5, 3, 0, 1, 2, 3, 4, 5, 7], [5, 7]), ([6, 8, 0, 1, 2, 3, 4, 5, 6, 7, 8], [6])])
def paymasterlaw01_U128Divides.B8 : List Nat := [0, 0, 2, 7, 15, 31, 31, 0, 191, 511]
theorem paymasterlaw01_U128Divides.tab8 : rtab .any (opsOf Try.f16 8) = paymasterlaw01_U128Divides.T8 := by kernel_rfl
theorem paymasterlaw01_U128Divides.bits8 : waitsOk paymasterlaw01_U128Divides.T8.2 paymasterlaw01_U128Divides.B8 = true := by kernel_rfl
set_option maxHeartbeats 8000000 in
set_option maxRecDepth 100000 in
theorem paymasterlaw01_U128Divides.calls (k : Nat) (a0_0 : Int) (a0_1 : Int) (a1 : Int) (r : Bool) (w : World) (h : paymasterlaw01_U128Divides.f k a0_0 a0_1 a1 = some r) :
    Calls Try.prog 16 #[.agg #[.int .u64 a0_0, .int .u64 a0_1], .int .u64 a1] w fun e w' => e = .returned (.bool r) ∧ Below w.heap.size w w' := by
  have hu25 := Try.underlying25
  have HB := Aside0.mk (Below.refl w.heap.size w)
  have H : ((paymasterlaw01_awake.f).bind fun t1357 => (if t1357 = true then (if a1 = 0 then ((u128_Times.f a0_0 a0_1 a1).bind fun bt1377 => (if bt1377.2.2 = 0 then (some (bt1377.1 == 0 && (bt1377.2.1 == 0))) else (none))) else ((u128_Over.f a0_0 a0_1 a1).bind fun bt1403 => ((u128_Times.f bt1403.1 bt1403.2.1 a1).bind fun bt1408 => ((u128_Of.f bt1403.2.2.1).bind fun bt1412 => ((u128_Add.f bt1408.1 bt1408.2.1 bt1412.1 bt1412.2).bind fun bt1414 => (if bt1403.2.2.2 = 0 then (if bt1408.2.2 = 0 then (if bt1414.2.2 = 0 then (if bt1403.2.2.1 ≥ a1 then (none) else (if (!(bt1414.1 == a0_0) || (!(bt1414.2.1 == a0_1))) = true then (none) else ((u128_Most.f).bind fun bt1442 => ((u128_Over.f bt1442.1 bt1442.2 a1).bind fun bt1444 => ((u128_Times.f a0_0 a0_1 a1).bind fun bt1449 => (if bt1444.2.2.2 = 0 then ((u128_Cmp.f k a0_0 a0_1 bt1444.1 bt1444.2.1).bind fun t1453 => (if ((bt1449.2.2 == 0) != (decide (t1453 ≤ 0))) = true then (none) else (if bt1449.2.2 = 0 then (paymasterlaw01_U128Divides.j0 k a1 bt1449.2.2 false a0_0 a0_1 bt1449.1 bt1449.2.1) else (if bt1449.2.2 = 10 then (paymasterlaw01_U128Divides.j0 k a1 bt1449.2.2 (!(bt1449.1 == 0) || (!(bt1449.2.1 == 0))) a0_0 a0_1 bt1449.1 bt1449.2.1) else (none))))) else (none))))))) else (none)) else (none)) else (none))))))) else (none))) = some r := h
  clear h
  replace H := Option.bind_eq_some_iff.mp H
  obtain ⟨t1357, A30, H⟩ := H
  replace H : (if t1357 = true then (if a1 = 0 then ((u128_Times.f a0_0 a0_1 a1).bind fun bt1377 => (if bt1377.2.2 = 0 then (some (bt1377.1 == 0 && (bt1377.2.1 == 0))) else (none))) else ((u128_Over.f a0_0 a0_1 a1).bind fun bt1403 => ((u128_Times.f bt1403.1 bt1403.2.1 a1).bind fun bt1408 => ((u128_Of.f bt1403.2.2.1).bind fun bt1412 => ((u128_Add.f bt1408.1 bt1408.2.1 bt1412.1 bt1412.2).bind fun bt1414 => (if bt1403.2.2.2 = 0 then (if bt1408.2.2 = 0 then (if bt1414.2.2 = 0 then (if bt1403.2.2.1 ≥ a1 then (none) else (if (!(bt1414.1 == a0_0) || (!(bt1414.2.1 == a0_1))) = true then (none) else ((u128_Most.f).bind fun bt1442 => ((u128_Over.f bt1442.1 bt1442.2 a1).bind fun bt1444 => ((u128_Times.f a0_0 a0_1 a1).bind fun bt1449 => (if bt1444.2.2.2 = 0 then ((u128_Cmp.f k a0_0 a0_1 bt1444.1 bt1444.2.1).bind fun t1453 => (if ((bt1449.2.2 == 0) != (decide (t1453 ≤ 0))) = true then (none) else (if bt1449.2.2 = 0 then (paymasterlaw01_U128Divides.j0 k a1 bt1449.2.2 false a0_0 a0_1 bt1449.1 bt1449.2.1) else (if bt1449.2.2 = 10 then (paymasterlaw01_U128Divides.j0 k a1 bt1449.2.2 (!(bt1449.1 == 0) || (!(bt1449.2.1 == 0))) a0_0 a0_1 bt1449.1 bt1449.2.1) else (none))))) else (none))))))) else (none)) else (none)) else (none))))))) else (none)) = some r := H
  have A3 := Aside0.mk A30
  clear A30
  by_cases c4 : t1357 = true
  · subst c4
    have H1 : (if a1 = 0 then ((u128_Times.f a0_0 a0_1 a1).bind fun bt1377 => (if bt1377.2.2 = 0 then (some (bt1377.1 == 0 && (bt1377.2.1 == 0))) else (none))) else ((u128_Over.f a0_0 a0_1 a1).bind fun bt1403 => ((u128_Times.f bt1403.1 bt1403.2.1 a1).bind fun bt1408 => ((u128_Of.f bt1403.2.2.1).bind fun bt1412 => ((u128_Add.f bt1408.1 bt1408.2.1 bt1412.1 bt1412.2).bind fun bt1414 => (if bt1403.2.2.2 = 0 then (if bt1408.2.2 = 0 then (if bt1414.2.2 = 0 then (if bt1403.2.2.1 ≥ a1 then (none) else (if (!(bt1414.1 == a0_0) || (!(bt1414.2.1 == a0_1))) = true then (none) else ((u128_Most.f).bind fun bt1442 => ((u128_Over.f bt1442.1 bt1442.2 a1).bind fun bt1444 => ((u128_Times.f a0_0 a0_1 a1).bind fun bt1449 => (if bt1444.2.2.2 = 0 then ((u128_Cmp.f k a0_0 a0_1 bt1444.1 bt1444.2.1).bind fun t1453 => (if ((bt1449.2.2 == 0) != (decide (t1453 ≤ 0))) = true then (none) else (if bt1449.2.2 = 0 then (paymasterlaw01_U128Divides.j0 k a1 bt1449.2.2 false a0_0 a0_1 bt1449.1 bt1449.2.1) else (if bt1449.2.2 = 10 then (paymasterlaw01_U128Divides.j0 k a1 bt1449.2.2 (!(bt1449.1 == 0) || (!(bt1449.2.1 == 0))) a0_0 a0_1 bt1449.1 bt1449.2.1) else (none))))) else (none))))))) else (none)) else (none)) else (none))))))) = some r := by rw [if_pos rfl] at H; exact H
    clear H
    have H := H1
    clear H1
    by_cases c5 : a1 = 0
    · rw [if_pos c5] at H
      have c5b0 : (a1 == 0) = true := beq_iff_eq.mpr c5
      have c5b1 : (a1 != 0) = false := bne_eq_false_iff_eq.mpr c5
      clear c5
      replace H := Option.bind_eq_some_iff.mp H
      obtain ⟨⟨t1377, t1378, t1379⟩, A60, H⟩ := H
      replace H : (if t1379 = 0 then (some (t1377 == 0 && (t1378 == 0))) else (none)) = some r := H
      have A6 := Aside0.mk A60
      clear A60
      by_cases c7 : t1379 = 0
      · rw [if_pos c7] at H
        have c7b0 : (t1379 == 0) = true := beq_iff_eq.mpr c7
        have c7b1 : (t1379 != 0) = false := bne_eq_false_iff_eq.mpr c7
        clear c7
        obtain rfl := Option.some.inj H
        go_enter Try.func16, Try.ntmps16
        go_wp2_with (first | ((with_reducible refine gate_dst (N := 2) rfl ?_); refine box_event ?hg (N := 2) ?hd (cs := #[.int .u64 a0_0, .int .u64 a0_1]) (t := 25) ?hr ?_; (case hd => rfl); (case hg => rfl); (case hr => first | (go_simp; done) | (go_simp; rfl)); intro gb1356 hg w8 hbox hb; have n0_ := Aside0.mk (below_step (by repeat (first | (with_reducible first | exact HB.out | apply below_alloc | apply pw_below_drewN | apply below_drew1) | exact HB.out)) hb); have n1_ := Aside0.mk (hbox); have n2_ := Aside0.mk ((by rw [hg]; exact (below_size (by repeat (first | (with_reducible first | exact HB.out | apply below_alloc | apply pw_below_drewN | apply below_drew1) | exact HB.out))) : w.heap.size ≤ gb1356)); have n3_ := Aside0.mk ((by rw [hg]; exact (below_size (by repeat (first | (with_reducible first | exact HB.out | apply below_alloc | apply pw_below_drewN | apply below_drew1) | exact HB.out))) : w.heap.size ≤ gb1356)); clear HB; have HB := n0_; have BK1356 := n1_; have GW1356 := n2_; have GE1356 := n3_; clear n0_ n1_ n2_ n3_; clear hb hbox hg) | ((with_reducible refine gate_callee (f := 66) rfl ?_); refine goesL_ (some 22) rfl rfl Try.func66 (by kernel_rfl) rfl #[] rfl (by (try simp only [List.map_toArray, List.map_cons, List.map_nil]); first | done | rfl | (simp only [List.length_drop, List.length_take]; rfl)) ?_; (with_reducible refine (paymasterlaw01_awake.calls  true _ A3.out).mono ?_); rintro e w9 ⟨rfl, hb⟩; refine ⟨_, rfl, ?_⟩; have n0_ := Aside0.mk (blk_below (g := gb1356) (o := .cells #[.int .u64 a0_0, .int .u64 a0_1] 25 (0, 0)) (by (with_reducible repeat (first | refine blk_drewN ?_ _ | refine blk_drew ?_ | refine blk_alloc ?_ _)); exact BK1356.out) hb); have n1_ := Aside0.mk (below_step (by repeat (first | (with_reducible first | exact HB.out | apply below_alloc | apply pw_below_drewN | apply below_drew1 | refine below_set ?_ GE1356.out) | exact HB.out)) hb); clear BK1356; clear HB; have BK1356 := n0_; have HB := n1_; clear n0_ n1_; (try clear hb); (try clear hb2); (try clear hk); (try clear hi); have hcz10_0 : w9.cell? ⟨gb1356, 0, none⟩ = some (.int .u64 a0_0) := (blk_cell BK1356.out 0).trans rfl; have hcz10_1 : w9.cell? ⟨gb1356, 1, none⟩ = some (.int .u64 a0_1) := (blk_cell BK1356.out 1).trans rfl; have hfz10_0 := blk_frozen BK1356.out 0; have hfz10_1 := blk_frozen BK1356.out 1) | ((with_reducible refine gate_callee (f := 56) rfl ?_); refine goesL_ (some 29) rfl rfl Try.func56 (by kernel_rfl) rfl #[.agg #[.int .u64 a0_0, .int .u64 a0_1], .int .u64 a1] rfl (by (try simp only [List.map_toArray, List.map_cons, List.map_nil]); first | done | rfl | (simp only [List.length_drop, List.length_take]; rfl)) ?_; (with_reducible refine (u128_Times.calls a0_0 a0_1 a1 t1377 t1378 t1379 _ A6.out).mono ?_); rintro e w11 ⟨rfl, hb⟩; refine ⟨_, rfl, ?_⟩; have n0_ := Aside0.mk (blk_below (g := gb1356) (o := .cells #[.int .u64 a0_0, .int .u64 a0_1] 25 (0, 0)) (by (with_reducible repeat (first | refine blk_drewN ?_ _ | refine blk_drew ?_ | refine blk_alloc ?_ _)); exact BK1356.out) hb); have n1_ := Aside0.mk (below_step (by repeat (first | (with_reducible first | exact HB.out | apply below_alloc | apply pw_below_drewN | apply below_drew1 | refine below_set ?_ GE1356.out) | exact HB.out)) hb); clear BK1356; clear HB; have BK1356 := n0_; have HB := n1_; clear n0_ n1_; (try clear hb); (try clear hb2); (try clear hk); (try clear hi)) | ((with_reducible refine gate_dst (N := 5) rfl ?_); refine box_event ?hg (N := 5) ?hd (cs := #[.int .u64 0, .int .u64 0]) (t := 25) ?hr ?_; (case hd => rfl); (case hg => rfl); (case hr => first | (go_simp; done) | (go_simp; rfl)); intro gb1380 hg w12 hbox hb; have n0_ := Aside0.mk (blk_below (g := gb1356) (o := .cells #[.int .u64 a0_0, .int .u64 a0_1] 25 (0, 0)) (by (with_reducible repeat (first | refine blk_drewN ?_ _ | refine blk_drew ?_ | refine blk_alloc ?_ _)); exact BK1356.out) hb); have n1_ := Aside0.mk (below_step (by repeat (first | (with_reducible first | exact HB.out | apply below_alloc | apply pw_below_drewN | apply below_drew1 | refine below_set ?_ GE1356.out) | exact HB.out)) hb); have n2_ := Aside0.mk (hbox); have n3_ := Aside0.mk ((by rw [hg]; exact (below_size (by repeat (first | (with_reducible first | exact HB.out | apply below_alloc | apply pw_below_drewN | apply below_drew1 | refine below_set ?_ GE1356.out) | exact HB.out))) : w.heap.size ≤ gb1380)); have n4_ := Aside0.mk ((by rw [hg]; exact (below_size (by repeat (first | (with_reducible first | exact HB.out | apply below_alloc | apply pw_below_drewN | apply below_drew1 | refine below_set ?_ GE1356.out) | exact HB.out))) : w.heap.size ≤ gb1380)); have n5_ := Aside0.mk ((by rw [hg]; exact Nat.ne_of_lt (blk_lt (g := gb1356) (o := .cells #[.int .u64 a0_0, .int .u64 a0_1] 25 (0, 0)) (by (with_reducible repeat (first | refine blk_drewN ?_ _ | refine blk_drew ?_ | refine blk_alloc ?_ _)); exact BK1356.out)) : gb1356 ≠ gb1380)); have n6_ := Aside0.mk ((by rw [hg]; exact Nat.ne_of_gt (blk_lt (g := gb1356) (o := .cells #[.int .u64 a0_0, .int .u64 a0_1] 25 (0, 0)) (by (with_reducible repeat (first | refine blk_drewN ?_ _ | refine blk_drew ?_ | refine blk_alloc ?_ _)); exact BK1356.out)) : gb1380 ≠ gb1356)); clear BK1356; clear HB; have BK1356 := n0_; have HB := n1_; have BK1380 := n2_; have GW1380 := n3_; have GE1380 := n4_; have NB1356_1380 := n5_; have NB1380_1356 := n6_; clear n0_ n1_ n2_ n3_ n4_ n5_ n6_; clear hb hbox hg; have hnb13 := NB1380_1356.out; have hnc13 := NB1356_1380.out; have hcz14_0 : w12.cell? ⟨gb1380, 0, none⟩ = some (.int .u64 0) := (blk_cell BK1380.out 0).trans rfl; have hcz14_1 : w12.cell? ⟨gb1380, 1, none⟩ = some (.int .u64 0) := (blk_cell BK1380.out 1).trans rfl; have hfz14_0 := blk_frozen BK1380.out 0; have hfz14_1 := blk_frozen BK1380.out 1))
        go_ret
        exact ⟨by first | rfl | (simp [errW_none, errW_some] <;> rfl) | (simp [*, errW_none, errW_some] <;> rfl), by repeat (first | (with_reducible first | exact HB.out | apply below_alloc | apply pw_below_drewN | apply below_drew1 | refine below_set ?_ GE1356.out | refine below_set ?_ GE1380.out) | exact HB.out)⟩
      · rw [if_neg c7] at H
        exact absurd H (by simp)
    · rw [if_neg c5] at H
      have c5b0 : (a1 == 0) = false := beq_eq_false_iff_ne.mpr c5
      have c5b1 : (a1 != 0) = true := bne_iff_ne.mpr c5
      replace H := Option.bind_eq_some_iff.mp H
      obtain ⟨⟨t1403, t1404, t1405, t1406⟩, A150, H⟩ := H
      replace H : ((u128_Times.f t1403 t1404 a1).bind fun bt1408 => ((u128_Of.f t1405).bind fun bt1412 => ((u128_Add.f bt1408.1 bt1408.2.1 bt1412.1 bt1412.2).bind fun bt1414 => (if t1406 = 0 then (if bt1408.2.2 = 0 then (if bt1414.2.2 = 0 then (if t1405 ≥ a1 then (none) else (if (!(bt1414.1 == a0_0) || (!(bt1414.2.1 == a0_1))) = true then (none) else ((u128_Most.f).bind fun bt1442 => ((u128_Over.f bt1442.1 bt1442.2 a1).bind fun bt1444 => ((u128_Times.f a0_0 a0_1 a1).bind fun bt1449 => (if bt1444.2.2.2 = 0 then ((u128_Cmp.f k a0_0 a0_1 bt1444.1 bt1444.2.1).bind fun t1453 => (if ((bt1449.2.2 == 0) != (decide (t1453 ≤ 0))) = true then (none) else (if bt1449.2.2 = 0 then (paymasterlaw01_U128Divides.j0 k a1 bt1449.2.2 false a0_0 a0_1 bt1449.1 bt1449.2.1) else (if bt1449.2.2 = 10 then (paymasterlaw01_U128Divides.j0 k a1 bt1449.2.2 (!(bt1449.1 == 0) || (!(bt1449.2.1 == 0))) a0_0 a0_1 bt1449.1 bt1449.2.1) else (none))))) else (none))))))) else (none)) else (none)) else (none))))) = some r := H
      have A15 := Aside0.mk A150
      clear A150
      replace H := Option.bind_eq_some_iff.mp H
      obtain ⟨⟨t1408, t1409, t1410⟩, A160, H⟩ := H
      replace H : ((u128_Of.f t1405).bind fun bt1412 => ((u128_Add.f t1408 t1409 bt1412.1 bt1412.2).bind fun bt1414 => (if t1406 = 0 then (if t1410 = 0 then (if bt1414.2.2 = 0 then (if t1405 ≥ a1 then (none) else (if (!(bt1414.1 == a0_0) || (!(bt1414.2.1 == a0_1))) = true then (none) else ((u128_Most.f).bind fun bt1442 => ((u128_Over.f bt1442.1 bt1442.2 a1).bind fun bt1444 => ((u128_Times.f a0_0 a0_1 a1).bind fun bt1449 => (if bt1444.2.2.2 = 0 then ((u128_Cmp.f k a0_0 a0_1 bt1444.1 bt1444.2.1).bind fun t1453 => (if ((bt1449.2.2 == 0) != (decide (t1453 ≤ 0))) = true then (none) else (if bt1449.2.2 = 0 then (paymasterlaw01_U128Divides.j0 k a1 bt1449.2.2 false a0_0 a0_1 bt1449.1 bt1449.2.1) else (if bt1449.2.2 = 10 then (paymasterlaw01_U128Divides.j0 k a1 bt1449.2.2 (!(bt1449.1 == 0) || (!(bt1449.2.1 == 0))) a0_0 a0_1 bt1449.1 bt1449.2.1) else (none))))) else (none))))))) else (none)) else (none)) else (none)))) = some r := H
      have A16 := Aside0.mk A160
      clear A160
      replace H := Option.bind_eq_some_iff.mp H
      obtain ⟨⟨t1412, t1413⟩, A170, H⟩ := H
      replace H : ((u128_Add.f t1408 t1409 t1412 t1413).bind fun bt1414 => (if t1406 = 0 then (if t1410 = 0 then (if bt1414.2.2 = 0 then (if t1405 ≥ a1 then (none) else (if (!(bt1414.1 == a0_0) || (!(bt1414.2.1 == a0_1))) = true then (none) else ((u128_Most.f).bind fun bt1442 => ((u128_Over.f bt1442.1 bt1442.2 a1).bind fun bt1444 => ((u128_Times.f a0_0 a0_1 a1).bind fun bt1449 => (if bt1444.2.2.2 = 0 then ((u128_Cmp.f k a0_0 a0_1 bt1444.1 bt1444.2.1).bind fun t1453 => (if ((bt1449.2.2 == 0) != (decide (t1453 ≤ 0))) = true then (none) else (if bt1449.2.2 = 0 then (paymasterlaw01_U128Divides.j0 k a1 bt1449.2.2 false a0_0 a0_1 bt1449.1 bt1449.2.1) else (if bt1449.2.2 = 10 then (paymasterlaw01_U128Divides.j0 k a1 bt1449.2.2 (!(bt1449.1 == 0) || (!(bt1449.2.1 == 0))) a0_0 a0_1 bt1449.1 bt1449.2.1) else (none))))) else (none))))))) else (none)) else (none)) else (none))) = some r := H
      have A17 := Aside0.mk A170
      clear A170
      replace H := Option.bind_eq_some_iff.mp H
      obtain ⟨⟨t1414, t1415, t1416⟩, A180, H⟩ := H
      replace H : (if t1406 = 0 then (if t1410 = 0 then (if t1416 = 0 then (if t1405 ≥ a1 then (none) else (if (!(t1414 == a0_0) || (!(t1415 == a0_1))) = true then (none) else ((u128_Most.f).bind fun bt1442 => ((u128_Over.f bt1442.1 bt1442.2 a1).bind fun bt1444 => ((u128_Times.f a0_0 a0_1 a1).bind fun bt1449 => (if bt1444.2.2.2 = 0 then ((u128_Cmp.f k a0_0 a0_1 bt1444.1 bt1444.2.1).bind fun t1453 => (if ((bt1449.2.2 == 0) != (decide (t1453 ≤ 0))) = true then (none) else (if bt1449.2.2 = 0 then (paymasterlaw01_U128Divides.j0 k a1 bt1449.2.2 false a0_0 a0_1 bt1449.1 bt1449.2.1) else (if bt1449.2.2 = 10 then (paymasterlaw01_U128Divides.j0 k a1 bt1449.2.2 (!(bt1449.1 == 0) || (!(bt1449.2.1 == 0))) a0_0 a0_1 bt1449.1 bt1449.2.1) else (none))))) else (none))))))) else (none)) else (none)) else (none)) = some r := H
      have A18 := Aside0.mk A180
      clear A180
      by_cases c19 : t1406 = 0
      · rw [if_pos c19] at H
        have c19b0 : (t1406 == 0) = true := beq_iff_eq.mpr c19
        have c19b1 : (t1406 != 0) = false := bne_eq_false_iff_eq.mpr c19
        clear c19
        by_cases c20 : t1410 = 0
        · rw [if_pos c20] at H
          have c20b0 : (t1410 == 0) = true := beq_iff_eq.mpr c20
          have c20b1 : (t1410 != 0) = false := bne_eq_false_iff_eq.mpr c20
          clear c20
          by_cases c21 : t1416 = 0
          · rw [if_pos c21] at H
            have c21b0 : (t1416 == 0) = true := beq_iff_eq.mpr c21
            have c21b1 : (t1416 != 0) = false := bne_eq_false_iff_eq.mpr c21
            clear c21
            by_cases c22 : t1405 ≥ a1
            · rw [if_pos c22] at H
              exact absurd H (by simp)
            · rw [if_neg c22] at H
              have c22b0 : decide (a1 ≤ t1405) = false := decide_eq_false c22
              clear c22
              by_cases c23 : (!(t1414 == a0_0) || (!(t1415 == a0_1))) = true
              · rw [if_pos c23] at H
                exact absurd H (by simp)
              · rw [if_neg c23] at H
                have c23b0 : (!(t1414 == a0_0) || (!(t1415 == a0_1))) = false := by simpa using c23
                clear c23
                replace H := Option.bind_eq_some_iff.mp H
                obtain ⟨⟨t1442, t1443⟩, A240, H⟩ := H
                replace H : ((u128_Over.f t1442 t1443 a1).bind fun bt1444 => ((u128_Times.f a0_0 a0_1 a1).bind fun bt1449 => (if bt1444.2.2.2 = 0 then ((u128_Cmp.f k a0_0 a0_1 bt1444.1 bt1444.2.1).bind fun t1453 => (if ((bt1449.2.2 == 0) != (decide (t1453 ≤ 0))) = true then (none) else (if bt1449.2.2 = 0 then (paymasterlaw01_U128Divides.j0 k a1 bt1449.2.2 false a0_0 a0_1 bt1449.1 bt1449.2.1) else (if bt1449.2.2 = 10 then (paymasterlaw01_U128Divides.j0 k a1 bt1449.2.2 (!(bt1449.1 == 0) || (!(bt1449.2.1 == 0))) a0_0 a0_1 bt1449.1 bt1449.2.1) else (none))))) else (none)))) = some r := H
                have A24 := Aside0.mk A240
                clear A240
                replace H := Option.bind_eq_some_iff.mp H
                obtain ⟨⟨t1444, t1445, t1446, t1447⟩, A250, H⟩ := H
                replace H : ((u128_Times.f a0_0 a0_1 a1).bind fun bt1449 => (if t1447 = 0 then ((u128_Cmp.f k a0_0 a0_1 t1444 t1445).bind fun t1453 => (if ((bt1449.2.2 == 0) != (decide (t1453 ≤ 0))) = true then (none) else (if bt1449.2.2 = 0 then (paymasterlaw01_U128Divides.j0 k a1 bt1449.2.2 false a0_0 a0_1 bt1449.1 bt1449.2.1) else (if bt1449.2.2 = 10 then (paymasterlaw01_U128Divides.j0 k a1 bt1449.2.2 (!(bt1449.1 == 0) || (!(bt1449.2.1 == 0))) a0_0 a0_1 bt1449.1 bt1449.2.1) else (none))))) else (none))) = some r := H
                have A25 := Aside0.mk A250
                clear A250
                replace H := Option.bind_eq_some_iff.mp H
                obtain ⟨⟨t1449, t1450, t1451⟩, A260, H⟩ := H
                replace H : (if t1447 = 0 then ((u128_Cmp.f k a0_0 a0_1 t1444 t1445).bind fun t1453 => (if ((t1451 == 0) != (decide (t1453 ≤ 0))) = true then (none) else (if t1451 = 0 then (paymasterlaw01_U128Divides.j0 k a1 t1451 false a0_0 a0_1 t1449 t1450) else (if t1451 = 10 then (paymasterlaw01_U128Divides.j0 k a1 t1451 (!(t1449 == 0) || (!(t1450 == 0))) a0_0 a0_1 t1449 t1450) else (none))))) else (none)) = some r := H
                have A26 := Aside0.mk A260
                clear A260
                have HC27 := Aside0.mk H
                clear H
                go_enter Try.func16, Try.ntmps16
                try go_wp2_with (first | ((with_reducible refine gate_dst (N := 2) rfl ?_); refine box_event ?hg (N := 2) ?hd (cs := #[.int .u64 a0_0, .int .u64 a0_1]) (t := 25) ?hr ?_; (case hd => rfl); (case hg => rfl); (case hr => first | (go_simp; done) | (go_simp; rfl)); intro gb1356 hg w28 hbox hb; have n0_ := Aside0.mk (below_step (by repeat (first | (with_reducible first | exact HB.out | apply below_alloc | apply pw_below_drewN | apply below_drew1) | exact HB.out)) hb); have n1_ := Aside0.mk (hbox); have n2_ := Aside0.mk ((by rw [hg]; exact (below_size (by repeat (first | (with_reducible first | exact HB.out | apply below_alloc | apply pw_below_drewN | apply below_drew1) | exact HB.out))) : w.heap.size ≤ gb1356)); have n3_ := Aside0.mk ((by rw [hg]; exact (below_size (by repeat (first | (with_reducible first | exact HB.out | apply below_alloc | apply pw_below_drewN | apply below_drew1) | exact HB.out))) : w.heap.size ≤ gb1356)); clear HB; have HB := n0_; have BK1356 := n1_; have GW1356 := n2_; have GE1356 := n3_; clear n0_ n1_ n2_ n3_; clear hb hbox hg) | ((with_reducible refine gate_callee (f := 66) rfl ?_); refine goesL_ (some 22) rfl rfl Try.func66 (by kernel_rfl) rfl #[] rfl (by (try simp only [List.map_toArray, List.map_cons, List.map_nil]); first | done | rfl | (simp only [List.length_drop, List.length_take]; rfl)) ?_; (with_reducible refine (paymasterlaw01_awake.calls  true _ A3.out).mono ?_); rintro e w29 ⟨rfl, hb⟩; refine ⟨_, rfl, ?_⟩; have n0_ := Aside0.mk (blk_below (g := gb1356) (o := .cells #[.int .u64 a0_0, .int .u64 a0_1] 25 (0, 0)) (by (with_reducible repeat (first | refine blk_drewN ?_ _ | refine blk_drew ?_ | refine blk_alloc ?_ _)); exact BK1356.out) hb); have n1_ := Aside0.mk (below_step (by repeat (first | (with_reducible first | exact HB.out | apply below_alloc | apply pw_below_drewN | apply below_drew1 | refine below_set ?_ GE1356.out) | exact HB.out)) hb); clear BK1356; clear HB; have BK1356 := n0_; have HB := n1_; clear n0_ n1_; (try clear hb); (try clear hb2); (try clear hk); (try clear hi); have hcz30_0 : w29.cell? ⟨gb1356, 0, none⟩ = some (.int .u64 a0_0) := (blk_cell BK1356.out 0).trans rfl; have hcz30_1 : w29.cell? ⟨gb1356, 1, none⟩ = some (.int .u64 a0_1) := (blk_cell BK1356.out 1).trans rfl; have hfz30_0 := blk_frozen BK1356.out 0; have hfz30_1 := blk_frozen BK1356.out 1) | ((with_reducible refine gate_callee (f := 58) rfl ?_); refine goesL_ (some 42) rfl rfl Try.func58 (by kernel_rfl) rfl #[.agg #[.int .u64 a0_0, .int .u64 a0_1], .int .u64 a1] rfl (by (try simp only [List.map_toArray, List.map_cons, List.map_nil]); first | done | rfl | (simp only [List.length_drop, List.length_take]; rfl)) ?_; (with_reducible refine (u128_Over.calls a0_0 a0_1 a1 t1403 t1404 t1405 t1406 _ A15.out).mono ?_); rintro e w31 ⟨rfl, hb⟩; refine ⟨_, rfl, ?_⟩; have n0_ := Aside0.mk (blk_below (g := gb1356) (o := .cells #[.int .u64 a0_0, .int .u64 a0_1] 25 (0, 0)) (by (with_reducible repeat (first | refine blk_drewN ?_ _ | refine blk_drew ?_ | refine blk_alloc ?_ _)); exact BK1356.out) hb); have n1_ := Aside0.mk (below_step (by repeat (first | (with_reducible first | exact HB.out | apply below_alloc | apply pw_below_drewN | apply below_drew1 | refine below_set ?_ GE1356.out) | exact HB.out)) hb); clear BK1356; clear HB; have BK1356 := n0_; have HB := n1_; clear n0_ n1_; (try clear hb); (try clear hb2); (try clear hk); (try clear hi)) | ((with_reducible refine gate_dst (N := 7) rfl ?_); refine box_event ?hg (N := 7) ?hd (cs := #[.int .u64 0, .int .u64 0]) (t := 25) ?hr ?_; (case hd => rfl); (case hg => rfl); (case hr => first | (go_simp; done) | (go_simp; rfl)); intro gb1407 hg w32 hbox hb; have n0_ := Aside0.mk (blk_below (g := gb1356) (o := .cells #[.int .u64 a0_0, .int .u64 a0_1] 25 (0, 0)) (by (with_reducible repeat (first | refine blk_drewN ?_ _ | refine blk_drew ?_ | refine blk_alloc ?_ _)); exact BK1356.out) hb); have n1_ := Aside0.mk (below_step (by repeat (first | (with_reducible first | exact HB.out | apply below_alloc | apply pw_below_drewN | apply below_drew1 | refine below_set ?_ GE1356.out) | exact HB.out)) hb); have n2_ := Aside0.mk (hbox); have n3_ := Aside0.mk ((by rw [hg]; exact (below_size (by repeat (first | (with_reducible first | exact HB.out | apply below_alloc | apply pw_below_drewN | apply below_drew1 | refine below_set ?_ GE1356.out) | exact HB.out))) : w.heap.size ≤ gb1407)); have n4_ := Aside0.mk ((by rw [hg]; exact (below_size (by repeat (first | (with_reducible first | exact HB.out | apply below_alloc | apply pw_below_drewN | apply below_drew1 | refine below_set ?_ GE1356.out) | exact HB.out))) : w.heap.size ≤ gb1407)); have n5_ := Aside0.mk ((by rw [hg]; exact Nat.ne_of_lt (blk_lt (g := gb1356) (o := .cells #[.int .u64 a0_0, .int .u64 a0_1] 25 (0, 0)) (by (with_reducible repeat (first | refine blk_drewN ?_ _ | refine blk_drew ?_ | refine blk_alloc ?_ _)); exact BK1356.out)) : gb1356 ≠ gb1407)); have n6_ := Aside0.mk ((by rw [hg]; exact Nat.ne_of_gt (blk_lt (g := gb1356) (o := .cells #[.int .u64 a0_0, .int .u64 a0_1] 25 (0, 0)) (by (with_reducible repeat (first | refine blk_drewN ?_ _ | refine blk_drew ?_ | refine blk_alloc ?_ _)); exact BK1356.out)) : gb1407 ≠ gb1356)); clear BK1356; clear HB; have BK1356 := n0_; have HB := n1_; have BK1407 := n2_; have GW1407 := n3_; have GE1407 := n4_; have NB1356_1407 := n5_; have NB1407_1356 := n6_; clear n0_ n1_ n2_ n3_ n4_ n5_ n6_; clear hb hbox hg; have hnb33 := NB1407_1356.out; have hnc33 := NB1356_1407.out; have hcz34_0 : w32.cell? ⟨gb1407, 0, none⟩ = some (.int .u64 0) := (blk_cell BK1407.out 0).trans rfl; have hcz34_1 : w32.cell? ⟨gb1407, 1, none⟩ = some (.int .u64 0) := (blk_cell BK1407.out 1).trans rfl; have hfz34_0 := blk_frozen BK1407.out 0; have hfz34_1 := blk_frozen BK1407.out 1) | ((with_reducible refine gate_callee (f := 56) rfl ?_); refine goesL_ (some 49) rfl rfl Try.func56 (by kernel_rfl) rfl #[.agg #[.int .u64 t1403, .int .u64 t1404], .int .u64 a1] rfl (by (try simp only [List.map_toArray, List.map_cons, List.map_nil]); first | done | rfl | (simp only [List.length_drop, List.length_take]; rfl)) ?_; (with_reducible refine (u128_Times.calls t1403 t1404 a1 t1408 t1409 t1410 _ A16.out).mono ?_); rintro e w35 ⟨rfl, hb⟩; refine ⟨_, rfl, ?_⟩; have n0_ := Aside0.mk (blk_below (g := gb1356) (o := .cells #[.int .u64 a0_0, .int .u64 a0_1] 25 (0, 0)) (by (with_reducible repeat (first | refine blk_drewN ?_ _ | refine blk_drew ?_ | refine blk_alloc ?_ _)); refine blk_far ?_ NB1356_1407.out _; (with_reducible repeat (first | refine blk_drewN ?_ _ | refine blk_drew ?_ | refine blk_alloc ?_ _)); refine blk_far ?_ NB1356_1407.out _; (with_reducible repeat (first | refine blk_drewN ?_ _ | refine blk_drew ?_ | refine blk_alloc ?_ _)); exact BK1356.out) hb); have n1_ := Aside0.mk (blk_below (g := gb1407) (o := .cells #[.int .u64 t1403, .int .u64 t1404] 25 (0, 0)) (by (with_reducible repeat (first | refine blk_drewN ?_ _ | refine blk_drew ?_ | refine blk_alloc ?_ _)); refine blk_put (cs := #[.int .u64 t1403, .int .u64 0]) ?_ 1 _ rfl; (with_reducible repeat (first | refine blk_drewN ?_ _ | refine blk_drew ?_ | refine blk_alloc ?_ _)); refine blk_put (cs := #[.int .u64 0, .int .u64 0]) ?_ 0 _ rfl; (with_reducible repeat (first | refine blk_drewN ?_ _ | refine blk_drew ?_ | refine blk_alloc ?_ _)); exact BK1407.out) hb); have n2_ := Aside0.mk (below_step (by repeat (first | (with_reducible first | exact HB.out | apply below_alloc | apply pw_below_drewN | apply below_drew1 | refine below_set ?_ GE1356.out | refine below_set ?_ GE1407.out) | exact HB.out)) hb); clear BK1356; clear BK1407; clear HB; have BK1356 := n0_; have BK1407 := n1_; have HB := n2_; clear n0_ n1_ n2_; (try clear hb); (try clear hb2); (try clear hk); (try clear hi)) | ((with_reducible refine gate_dst (N := 10) rfl ?_); refine box_event ?hg (N := 10) ?hd (cs := #[.int .u64 0, .int .u64 0]) (t := 25) ?hr ?_; (case hd => rfl); (case hg => rfl); (case hr => first | (go_simp; done) | (go_simp; rfl)); intro gb1411 hg w36 hbox hb; have n0_ := Aside0.mk (blk_below (g := gb1356) (o := .cells #[.int .u64 a0_0, .int .u64 a0_1] 25 (0, 0)) (by (with_reducible repeat (first | refine blk_drewN ?_ _ | refine blk_drew ?_ | refine blk_alloc ?_ _)); exact BK1356.out) hb); have n1_ := Aside0.mk (blk_below (g := gb1407) (o := .cells #[.int .u64 t1403, .int .u64 t1404] 25 (0, 0)) (by (with_reducible repeat (first | refine blk_drewN ?_ _ | refine blk_drew ?_ | refine blk_alloc ?_ _)); exact BK1407.out) hb); have n2_ := Aside0.mk (below_step (by repeat (first | (with_reducible first | exact HB.out | apply below_alloc | apply pw_below_drewN | apply below_drew1 | refine below_set ?_ GE1356.out | refine below_set ?_ GE1407.out) | exact HB.out)) hb); have n3_ := Aside0.mk (hbox); have n4_ := Aside0.mk ((by rw [hg]; exact (below_size (by repeat (first | (with_reducible first | exact HB.out | apply below_alloc | apply pw_below_drewN | apply below_drew1 | refine below_set ?_ GE1356.out | refine below_set ?_ GE1407.out) | exact HB.out))) : w.heap.size ≤ gb1411)); have n5_ := Aside0.mk ((by rw [hg]; exact (below_size (by repeat (first | (with_reducible first | exact HB.out | apply below_alloc | apply pw_below_drewN | apply below_drew1 | refine below_set ?_ GE1356.out | refine below_set ?_ GE1407.out) | exact HB.out))) : w.heap.size ≤ gb1411)); have n6_ := Aside0.mk ((by rw [hg]; exact Nat.ne_of_lt (blk_lt (g := gb1356) (o := .cells #[.int .u64 a0_0, .int .u64 a0_1] 25 (0, 0)) (by (with_reducible repeat (first | refine blk_drewN ?_ _ | refine blk_drew ?_ | refine blk_alloc ?_ _)); exact BK1356.out)) : gb1356 ≠ gb1411)); have n7_ := Aside0.mk ((by rw [hg]; exact Nat.ne_of_gt (blk_lt (g := gb1356) (o := .cells #[.int .u64 a0_0, .int .u64 a0_1] 25 (0, 0)) (by (with_reducible repeat (first | refine blk_drewN ?_ _ | refine blk_drew ?_ | refine blk_alloc ?_ _)); exact BK1356.out)) : gb1411 ≠ gb1356)); have n8_ := Aside0.mk ((by rw [hg]; exact Nat.ne_of_lt (blk_lt (g := gb1407) (o := .cells #[.int .u64 t1403, .int .u64 t1404] 25 (0, 0)) (by (with_reducible repeat (first | refine blk_drewN ?_ _ | refine blk_drew ?_ | refine blk_alloc ?_ _)); exact BK1407.out)) : gb1407 ≠ gb1411)); have n9_ := Aside0.mk ((by rw [hg]; exact Nat.ne_of_gt (blk_lt (g := gb1407) (o := .cells #[.int .u64 t1403, .int .u64 t1404] 25 (0, 0)) (by (with_reducible repeat (first | refine blk_drewN ?_ _ | refine blk_drew ?_ | refine blk_alloc ?_ _)); exact BK1407.out)) : gb1411 ≠ gb1407)); clear BK1356; clear BK1407; clear HB; have BK1356 := n0_; have BK1407 := n1_; have HB := n2_; have BK1411 := n3_; have GW1411 := n4_; have GE1411 := n5_; have NB1356_1411 := n6_; have NB1411_1356 := n7_; have NB1407_1411 := n8_; have NB1411_1407 := n9_; clear n0_ n1_ n2_ n3_ n4_ n5_ n6_ n7_ n8_ n9_; clear hb hbox hg; have hnb37 := NB1411_1356.out; have hnc37 := NB1356_1411.out; have hnb38 := NB1411_1407.out; have hnc38 := NB1407_1411.out; have hcz39_0 : w36.cell? ⟨gb1411, 0, none⟩ = some (.int .u64 0) := (blk_cell BK1411.out 0).trans rfl; have hcz39_1 : w36.cell? ⟨gb1411, 1, none⟩ = some (.int .u64 0) := (blk_cell BK1411.out 1).trans rfl; have hfz39_0 := blk_frozen BK1411.out 0; have hfz39_1 := blk_frozen BK1411.out 1))
                have n0_ : Aside0 (((w36.setCell ⟨gb1411, 0, none⟩ (.int .u64 t1408)).setCell ⟨gb1411, 1, none⟩ (.int .u64 t1409)).heap[gb1356]? = some (.cells #[.int .u64 a0_0, .int .u64 a0_1] 25 (0, 0))) := ⟨by (with_reducible repeat (first | refine blk_drewN ?_ _ | refine blk_drew ?_ | refine blk_alloc ?_ _)); refine blk_far ?_ NB1356_1411.out _; (with_reducible repeat (first | refine blk_drewN ?_ _ | refine blk_drew ?_ | refine blk_alloc ?_ _)); refine blk_far ?_ NB1356_1411.out _; (with_reducible repeat (first | refine blk_drewN ?_ _ | refine blk_drew ?_ | refine blk_alloc ?_ _)); exact BK1356.out⟩
                have n1_ : Aside0 (((w36.setCell ⟨gb1411, 0, none⟩ (.int .u64 t1408)).setCell ⟨gb1411, 1, none⟩ (.int .u64 t1409)).heap[gb1407]? = some (.cells #[.int .u64 t1403, .int .u64 t1404] 25 (0, 0))) := ⟨by (with_reducible repeat (first | refine blk_drewN ?_ _ | refine blk_drew ?_ | refine blk_alloc ?_ _)); refine blk_far ?_ NB1407_1411.out _; (with_reducible repeat (first | refine blk_drewN ?_ _ | refine blk_drew ?_ | refine blk_alloc ?_ _)); refine blk_far ?_ NB1407_1411.out _; (with_reducible repeat (first | refine blk_drewN ?_ _ | refine blk_drew ?_ | refine blk_alloc ?_ _)); exact BK1407.out⟩
                have n2_ : Aside0 (((w36.setCell ⟨gb1411, 0, none⟩ (.int .u64 t1408)).setCell ⟨gb1411, 1, none⟩ (.int .u64 t1409)).heap[gb1411]? = some (.cells #[.int .u64 t1408, .int .u64 t1409] 25 (0, 0))) := ⟨by (with_reducible repeat (first | refine blk_drewN ?_ _ | refine blk_drew ?_ | refine blk_alloc ?_ _)); refine blk_put (cs := #[.int .u64 t1408, .int .u64 0]) ?_ 1 _ rfl; (with_reducible repeat (first | refine blk_drewN ?_ _ | refine blk_drew ?_ | refine blk_alloc ?_ _)); refine blk_put (cs := #[.int .u64 0, .int .u64 0]) ?_ 0 _ rfl; (with_reducible repeat (first | refine blk_drewN ?_ _ | refine blk_drew ?_ | refine blk_alloc ?_ _)); exact BK1411.out⟩
                have n3_ : Aside0 (Below w.heap.size w ((w36.setCell ⟨gb1411, 0, none⟩ (.int .u64 t1408)).setCell ⟨gb1411, 1, none⟩ (.int .u64 t1409))) := ⟨by repeat (first | (with_reducible first | exact HB.out | apply below_alloc | apply pw_below_drewN | apply below_drew1 | refine below_set ?_ GE1356.out | refine below_set ?_ GE1407.out | refine below_set ?_ GE1411.out) | exact HB.out)⟩
                (try clear BK1356)
                (try clear BK1407)
                (try clear BK1411)
                (try clear HB)
                generalize ((w36.setCell ⟨gb1411, 0, none⟩ (.int .u64 t1408)).setCell ⟨gb1411, 1, none⟩ (.int .u64 t1409)) = w40 at n0_ n1_ n2_ n3_ ⊢
                have BK1356 := n0_
                have BK1407 := n1_
                have BK1411 := n2_
                have HB := n3_
                clear n0_ n1_ n2_ n3_
                have n0_ := Aside0.mk (blk_drew BK1356.out)
                have n1_ := Aside0.mk (blk_drew BK1407.out)
                have n2_ := Aside0.mk (blk_drew BK1411.out)
                have n3_ := Aside0.mk (below_drew1 HB.out)
                clear BK1356
                clear BK1407
                clear BK1411
                clear HB
                have BK1356 := n0_
                have BK1407 := n1_
                have BK1411 := n2_
                have HB := n3_
                clear n0_ n1_ n2_ n3_
                refine start_ (n := 10) (S := fun w' => w'.cell? ⟨gb1411, 0, none⟩ = some (.int .u64 t1408) ∧ w'.cell? ⟨gb1411, 1, none⟩ = some (.int .u64 t1409)) (ds := []) #[false, false, false, false, false, false, false, false, false, false] (by kernel_rfl) rfl rfl ⟨(blk_cell BK1411.out 0).trans rfl, (blk_cell BK1411.out 1).trans rfl⟩ (fun hHeld => ?_); refine with_tabW paymasterlaw01_U128Divides.tab8 paymasterlaw01_U128Divides.bits8 (fun HT_ HW_ => ?_)
                generalize w40.drew = w41 at BK1356 BK1407 BK1411 HB hHeld ⊢
                refine pure_ (i := 1) (N := some 54) (v := ?_) (a' := ?_) #[false, true, false, false, false, false, false, false, false, false] rfl rfl (any_of HT_.out (by kernel_rfl)) (fun _ _ _ h => h) (Or.inl ⟨by rfl, ?_⟩) ?_ ?_
                rotate_left
                · intro w'
                  go_simp
                  with_reducible rfl
                rotate_left
                · simp only [Act.put, List.setIfInBounds_toArray, List.set_cons_zero, List.set_cons_succ, i64_w, i32_w]
                  rfl
                refine take_ (i := 0) (N := some 53) (v := ?_) (a' := ?_) #[true, true, false, false, false, false, false, false, false, false] rfl rfl (take_ofW HT_.out HW_.out (by kernel_rfl)) (fun _ _ _ h => h) (Or.inl ⟨by rfl, ?_⟩) hHeld ?_ ?_
                rotate_left
                · rintro w' ⟨s0, s1⟩
                  go_simp
                  with_reducible rfl
                rotate_left
                · simp only [Act.put, List.setIfInBounds_toArray, List.set_cons_zero, List.set_cons_succ, i64_w, i32_w]
                  rfl
                refine join_ (σ := Nat) 2 #[true, true, true, true, true, true, true, true, false, false] (fun s_ => [(55, .agg #[.int .u64 t1412, .int .u64 t1413]), (56, .tuple #[.agg #[.int .u64 t1414, .int .u64 t1415], .int .i64 t1416]), (12, .pointer (some ⟨s_, 0, none⟩)), (52, .tuple #[.agg #[.int .u64 t1414, .int .u64 t1415], .int .i64 t1416]), (57, .agg #[.int .u64 t1414, .int .u64 t1415]), (58, .int .i64 t1416)]) (fun s_ w' => (w'.cell? ⟨gb1411, 0, none⟩ = some (.int .u64 t1408) ∧ w'.cell? ⟨gb1411, 1, none⟩ = some (.int .u64 t1409)) ∧ (w'.heap[gb1356]? = some (.cells #[.int .u64 a0_0, .int .u64 a0_1] 25 (0, 0))) ∧ (w'.heap[gb1407]? = some (.cells #[.int .u64 t1403, .int .u64 t1404] 25 (0, 0))) ∧ (w'.heap[gb1411]? = some (.cells #[.int .u64 t1408, .int .u64 t1409] 25 (0, 0))) ∧ (w'.heap[s_]? = some (.cells #[.int .u64 0, .int .u64 0] 25 (0, 0))) ∧ (w.heap.size ≤ s_) ∧ (w.heap.size ≤ s_) ∧ (gb1356 ≠ s_) ∧ (s_ ≠ gb1356) ∧ (gb1407 ≠ s_) ∧ (s_ ≠ gb1407) ∧ (gb1411 ≠ s_) ∧ (s_ ≠ gb1411) ∧ (Below w.heap.size w w')) ?_ ?_
                rotate_left
                · intro hCont
                  refine two_ (i := 2) (j := 7) (Ni := some 55) (Nj := some 12) #[true, true, true, false, false, false, false, false, false, false] #[true, true, false, false, false, false, false, true, false, false] rfl rfl rfl rfl (two_of HT_.out (by kernel_rfl)) (by decide) (by decide) (fun K hK => ?_) (fun K hK => ?_)
                  · skip
                    refine goes_ Try.func51 (by kernel_rfl) rfl #[.int .u64 t1405] (by rfl) rfl rfl (by (try simp only [List.map_toArray, List.map_cons, List.map_nil]); first | done | rfl | (simp only [List.length_drop, List.length_take]; rfl)) ?_
                    with_reducible refine (u128_Of.calls t1405 t1412 t1413 _ A17.out).mono ?_
                    rintro e w42 ⟨rfl, hb⟩
                    refine ⟨_, rfl, ?_⟩
                    have n0_ := Aside0.mk (blk_below (g := gb1356) (o := .cells #[.int .u64 a0_0, .int .u64 a0_1] 25 (0, 0)) (by (with_reducible repeat (first | refine blk_drewN ?_ _ | refine blk_drew ?_ | refine blk_alloc ?_ _)); exact BK1356.out) hb)
                    have n1_ := Aside0.mk (blk_below (g := gb1407) (o := .cells #[.int .u64 t1403, .int .u64 t1404] 25 (0, 0)) (by (with_reducible repeat (first | refine blk_drewN ?_ _ | refine blk_drew ?_ | refine blk_alloc ?_ _)); exact BK1407.out) hb)
                    have n2_ := Aside0.mk (blk_below (g := gb1411) (o := .cells #[.int .u64 t1408, .int .u64 t1409] 25 (0, 0)) (by (with_reducible repeat (first | refine blk_drewN ?_ _ | refine blk_drew ?_ | refine blk_alloc ?_ _)); exact BK1411.out) hb)
                    have n3_ := Aside0.mk (below_step (by repeat (first | (with_reducible first | exact HB.out | apply below_alloc | apply pw_below_drewN | apply below_drew1 | refine below_set ?_ GE1356.out | refine below_set ?_ GE1407.out | refine below_set ?_ GE1411.out) | exact HB.out)) hb)
                    clear BK1356
                    clear BK1407
                    clear BK1411
                    clear HB
                    have BK1356 := n0_
                    have BK1407 := n1_
                    have BK1411 := n2_
                    have HB := n3_
                    clear n0_ n1_ n2_ n3_
                    (try clear hb)
                    (try clear hb2)
                    (try clear hk)
                    (try clear hi)
                    refine hK.out _ _ ⟨(blk_cell BK1411.out 0).trans rfl, (blk_cell BK1411.out 1).trans rfl⟩ (fun hHeld => ?_)
                    clear hK K
                    refine norm_ (a' := ?_) ?_ ?_
                    rotate_left
                    · show Act.put _ (some 55) _ = _
                      simp only [Act.put, List.setIfInBounds_toArray, List.set_cons_zero, List.set_cons_succ, i64_w, i32_w]
                      rfl
                    refine two_ (i := 3) (j := 7) (Ni := some 56) (Nj := some 12) #[true, true, true, true, false, false, false, false, false, false] #[true, true, true, false, false, false, false, true, false, false] rfl rfl rfl rfl (two_of HT_.out (by kernel_rfl)) (by decide) (by decide) (fun K hK => ?_) (fun K hK => ?_)
                    · skip
                      refine goes_ Try.func45 (by kernel_rfl) rfl #[.agg #[.int .u64 t1408, .int .u64 t1409], .agg #[.int .u64 t1412, .int .u64 t1413]] (by rfl) rfl rfl (by (try simp only [List.map_toArray, List.map_cons, List.map_nil]); first | done | rfl | (simp only [List.length_drop, List.length_take]; rfl)) ?_
                      with_reducible refine (u128_Add.calls t1408 t1409 t1412 t1413 t1414 t1415 t1416 _ A18.out).mono ?_
                      rintro e w43 ⟨rfl, hb⟩
                      refine ⟨_, rfl, ?_⟩
                      have n0_ := Aside0.mk (blk_below (g := gb1356) (o := .cells #[.int .u64 a0_0, .int .u64 a0_1] 25 (0, 0)) (by (with_reducible repeat (first | refine blk_drewN ?_ _ | refine blk_drew ?_ | refine blk_alloc ?_ _)); exact BK1356.out) hb)
                      have n1_ := Aside0.mk (blk_below (g := gb1407) (o := .cells #[.int .u64 t1403, .int .u64 t1404] 25 (0, 0)) (by (with_reducible repeat (first | refine blk_drewN ?_ _ | refine blk_drew ?_ | refine blk_alloc ?_ _)); exact BK1407.out) hb)
                      have n2_ := Aside0.mk (blk_below (g := gb1411) (o := .cells #[.int .u64 t1408, .int .u64 t1409] 25 (0, 0)) (by (with_reducible repeat (first | refine blk_drewN ?_ _ | refine blk_drew ?_ | refine blk_alloc ?_ _)); exact BK1411.out) hb)
                      have n3_ := Aside0.mk (below_step (by repeat (first | (with_reducible first | exact HB.out | apply below_alloc | apply pw_below_drewN | apply below_drew1 | refine below_set ?_ GE1356.out | refine below_set ?_ GE1407.out | refine below_set ?_ GE1411.out) | exact HB.out)) hb)
                      clear BK1356
                      clear BK1407
                      clear BK1411
                      clear HB
                      have BK1356 := n0_
                      have BK1407 := n1_
                      have BK1411 := n2_
                      have HB := n3_
                      clear n0_ n1_ n2_ n3_
                      (try clear hb)
                      (try clear hb2)
                      (try clear hk)
                      (try clear hi)
                      refine hK.out _ _ ⟨(blk_cell BK1411.out 0).trans rfl, (blk_cell BK1411.out 1).trans rfl⟩ (fun hHeld => ?_)
                      clear hK K
                      refine norm_ (a' := ?_) ?_ ?_
                      rotate_left
                      · show Act.put _ (some 56) _ = _
                        simp only [Act.put, List.setIfInBounds_toArray, List.set_cons_zero, List.set_cons_succ, i64_w, i32_w]
                        rfl
                      refine pure_ (i := 4) (N := some 52) (v := ?_) (a' := ?_) #[true, true, true, true, true, false, false, false, false, false] rfl rfl (any_of HT_.out (by kernel_rfl)) (fun _ _ _ h => h) (Or.inl ⟨by rfl, ?_⟩) ?_ ?_
                      rotate_left
                      · intro w'
                        go_simp
                        with_reducible rfl
                      rotate_left
                      · simp only [Act.put, List.setIfInBounds_toArray, List.set_cons_zero, List.set_cons_succ, i64_w, i32_w]
                        rfl
                      refine pure_ (i := 5) (N := some 57) (v := ?_) (a' := ?_) #[true, true, true, true, true, true, false, false, false, false] rfl rfl (any_of HT_.out (by kernel_rfl)) (fun _ _ _ h => h) (Or.inl ⟨by rfl, ?_⟩) ?_ ?_
                      rotate_left
                      · intro w'
                        go_simp
                        with_reducible rfl
                      rotate_left
                      · simp only [Act.put, List.setIfInBounds_toArray, List.set_cons_zero, List.set_cons_succ, i64_w, i32_w]
                        rfl
                      refine pure_ (i := 6) (N := some 58) (v := ?_) (a' := ?_) #[true, true, true, true, true, true, true, false, false, false] rfl rfl (any_of HT_.out (by kernel_rfl)) (fun _ _ _ h => h) (Or.inl ⟨by rfl, ?_⟩) ?_ ?_
                      rotate_left
                      · intro w'
                        go_simp
                        with_reducible rfl
                      rotate_left
                      · simp only [Act.put, List.setIfInBounds_toArray, List.set_cons_zero, List.set_cons_succ, i64_w, i32_w]
                        rfl
                      refine one_ (i := 7) (N := some 12) #[true, true, true, true, true, true, true, true, false, false] rfl rfl (one_of HT_.out (by kernel_rfl)) (by decide) (fun K hK => ?_)
                      refine box_step ?hg (N := 12) ?hd (cs := #[.int .u64 0, .int .u64 0]) (t := 25) ?hr ?_; (case hd => rfl); (case hg => rfl); (case hr => first | (go_simp; done) | (go_simp; rfl))
                      intro gb1417 hg w44 hbox hb
                      have n0_ := Aside0.mk (blk_below (g := gb1356) (o := .cells #[.int .u64 a0_0, .int .u64 a0_1] 25 (0, 0)) (by (with_reducible repeat (first | refine blk_drewN ?_ _ | refine blk_drew ?_ | refine blk_alloc ?_ _)); exact BK1356.out) hb)
                      have n1_ := Aside0.mk (blk_below (g := gb1407) (o := .cells #[.int .u64 t1403, .int .u64 t1404] 25 (0, 0)) (by (with_reducible repeat (first | refine blk_drewN ?_ _ | refine blk_drew ?_ | refine blk_alloc ?_ _)); exact BK1407.out) hb)
                      have n2_ := Aside0.mk (blk_below (g := gb1411) (o := .cells #[.int .u64 t1408, .int .u64 t1409] 25 (0, 0)) (by (with_reducible repeat (first | refine blk_drewN ?_ _ | refine blk_drew ?_ | refine blk_alloc ?_ _)); exact BK1411.out) hb)
                      have n3_ := Aside0.mk (below_step (by repeat (first | (with_reducible first | exact HB.out | apply below_alloc | apply pw_below_drewN | apply below_drew1 | refine below_set ?_ GE1356.out | refine below_set ?_ GE1407.out | refine below_set ?_ GE1411.out) | exact HB.out)) hb)
                      have n4_ := Aside0.mk (hbox)
                      have n5_ := Aside0.mk ((by rw [hg]; exact (below_size (by repeat (first | (with_reducible first | exact HB.out | apply below_alloc | apply pw_below_drewN | apply below_drew1 | refine below_set ?_ GE1356.out | refine below_set ?_ GE1407.out | refine below_set ?_ GE1411.out) | exact HB.out))) : w.heap.size ≤ gb1417))
                      have n6_ := Aside0.mk ((by rw [hg]; exact (below_size (by repeat (first | (with_reducible first | exact HB.out | apply below_alloc | apply pw_below_drewN | apply below_drew1 | refine below_set ?_ GE1356.out | refine below_set ?_ GE1407.out | refine below_set ?_ GE1411.out) | exact HB.out))) : w.heap.size ≤ gb1417))
                      have n7_ := Aside0.mk ((by rw [hg]; exact Nat.ne_of_lt (blk_lt (g := gb1356) (o := .cells #[.int .u64 a0_0, .int .u64 a0_1] 25 (0, 0)) (by (with_reducible repeat (first | refine blk_drewN ?_ _ | refine blk_drew ?_ | refine blk_alloc ?_ _)); exact BK1356.out)) : gb1356 ≠ gb1417))
                      have n8_ := Aside0.mk ((by rw [hg]; exact Nat.ne_of_gt (blk_lt (g := gb1356) (o := .cells #[.int .u64 a0_0, .int .u64 a0_1] 25 (0, 0)) (by (with_reducible repeat (first | refine blk_drewN ?_ _ | refine blk_drew ?_ | refine blk_alloc ?_ _)); exact BK1356.out)) : gb1417 ≠ gb1356))
                      have n9_ := Aside0.mk ((by rw [hg]; exact Nat.ne_of_lt (blk_lt (g := gb1407) (o := .cells #[.int .u64 t1403, .int .u64 t1404] 25 (0, 0)) (by (with_reducible repeat (first | refine blk_drewN ?_ _ | refine blk_drew ?_ | refine blk_alloc ?_ _)); exact BK1407.out)) : gb1407 ≠ gb1417))
                      have n10_ := Aside0.mk ((by rw [hg]; exact Nat.ne_of_gt (blk_lt (g := gb1407) (o := .cells #[.int .u64 t1403, .int .u64 t1404] 25 (0, 0)) (by (with_reducible repeat (first | refine blk_drewN ?_ _ | refine blk_drew ?_ | refine blk_alloc ?_ _)); exact BK1407.out)) : gb1417 ≠ gb1407))
                      have n11_ := Aside0.mk ((by rw [hg]; exact Nat.ne_of_lt (blk_lt (g := gb1411) (o := .cells #[.int .u64 t1408, .int .u64 t1409] 25 (0, 0)) (by (with_reducible repeat (first | refine blk_drewN ?_ _ | refine blk_drew ?_ | refine blk_alloc ?_ _)); exact BK1411.out)) : gb1411 ≠ gb1417))
                      have n12_ := Aside0.mk ((by rw [hg]; exact Nat.ne_of_gt (blk_lt (g := gb1411) (o := .cells #[.int .u64 t1408, .int .u64 t1409] 25 (0, 0)) (by (with_reducible repeat (first | refine blk_drewN ?_ _ | refine blk_drew ?_ | refine blk_alloc ?_ _)); exact BK1411.out)) : gb1417 ≠ gb1411))
                      clear BK1356
                      clear BK1407
                      clear BK1411
                      clear HB
                      have BK1356 := n0_
                      have BK1407 := n1_
                      have BK1411 := n2_
                      have HB := n3_
                      have BK1417 := n4_
                      have GW1417 := n5_
                      have GE1417 := n6_
                      have NB1356_1417 := n7_
                      have NB1417_1356 := n8_
                      have NB1407_1417 := n9_
                      have NB1417_1407 := n10_
                      have NB1411_1417 := n11_
                      have NB1417_1411 := n12_
                      clear n0_ n1_ n2_ n3_ n4_ n5_ n6_ n7_ n8_ n9_ n10_ n11_ n12_
                      clear hb hbox hg
                      refine hK.out _ _ ⟨(blk_cell BK1411.out 0).trans rfl, (blk_cell BK1411.out 1).trans rfl⟩ (fun hHeld => ?_)
                      clear hK K
                      refine norm_ (a' := ?_) ?_ ?_
                      rotate_left
                      · show Act.put _ (some 12) _ = _
                        simp only [Act.put, List.setIfInBounds_toArray, List.set_cons_zero, List.set_cons_succ, i64_w, i32_w]
                        rfl
                      exact norm_ (by simp only [putAll, Act.put, List.setIfInBounds_toArray, List.set_cons_zero, List.set_cons_succ]) (hCont (gb1417) _ ⟨hHeld, (by (with_reducible repeat (first | refine blk_drewN ?_ _ | refine blk_drew ?_ | refine blk_alloc ?_ _)); exact BK1356.out), (by (with_reducible repeat (first | refine blk_drewN ?_ _ | refine blk_drew ?_ | refine blk_alloc ?_ _)); exact BK1407.out), (by (with_reducible repeat (first | refine blk_drewN ?_ _ | refine blk_drew ?_ | refine blk_alloc ?_ _)); exact BK1411.out), (by (with_reducible repeat (first | refine blk_drewN ?_ _ | refine blk_drew ?_ | refine blk_alloc ?_ _)); exact BK1417.out), GW1417.out, GE1417.out, NB1356_1417.out, NB1417_1356.out, NB1407_1417.out, NB1417_1407.out, NB1411_1417.out, NB1417_1411.out, (by repeat (first | (with_reducible first | exact HB.out | apply below_alloc | apply pw_below_drewN | apply below_drew1 | refine below_set ?_ GE1356.out | refine below_set ?_ GE1407.out | refine below_set ?_ GE1411.out | refine below_set ?_ GE1417.out) | exact HB.out))⟩)
                    · skip
                      refine box_step ?hg (N := 12) ?hd (cs := #[.int .u64 0, .int .u64 0]) (t := 25) ?hr ?_; (case hd => rfl); (case hg => rfl); (case hr => first | (go_simp; done) | (go_simp; rfl))
                      intro gb1417 hg w43 hbox hb
                      have n0_ := Aside0.mk (blk_below (g := gb1356) (o := .cells #[.int .u64 a0_0, .int .u64 a0_1] 25 (0, 0)) (by (with_reducible repeat (first | refine blk_drewN ?_ _ | refine blk_drew ?_ | refine blk_alloc ?_ _)); exact BK1356.out) hb)
                      have n1_ := Aside0.mk (blk_below (g := gb1407) (o := .cells #[.int .u64 t1403, .int .u64 t1404] 25 (0, 0)) (by (with_reducible repeat (first | refine blk_drewN ?_ _ | refine blk_drew ?_ | refine blk_alloc ?_ _)); exact BK1407.out) hb)
                      have n2_ := Aside0.mk (blk_below (g := gb1411) (o := .cells #[.int .u64 t1408, .int .u64 t1409] 25 (0, 0)) (by (with_reducible repeat (first | refine blk_drewN ?_ _ | refine blk_drew ?_ | refine blk_alloc ?_ _)); exact BK1411.out) hb)
                      have n3_ := Aside0.mk (below_step (by repeat (first | (with_reducible first | exact HB.out | apply below_alloc | apply pw_below_drewN | apply below_drew1 | refine below_set ?_ GE1356.out | refine below_set ?_ GE1407.out | refine below_set ?_ GE1411.out) | exact HB.out)) hb)
                      have n4_ := Aside0.mk (hbox)
                      have n5_ := Aside0.mk ((by rw [hg]; exact (below_size (by repeat (first | (with_reducible first | exact HB.out | apply below_alloc | apply pw_below_drewN | apply below_drew1 | refine below_set ?_ GE1356.out | refine below_set ?_ GE1407.out | refine below_set ?_ GE1411.out) | exact HB.out))) : w.heap.size ≤ gb1417))
                      have n6_ := Aside0.mk ((by rw [hg]; exact (below_size (by repeat (first | (with_reducible first | exact HB.out | apply below_alloc | apply pw_below_drewN | apply below_drew1 | refine below_set ?_ GE1356.out | refine below_set ?_ GE1407.out | refine below_set ?_ GE1411.out) | exact HB.out))) : w.heap.size ≤ gb1417))
                      have n7_ := Aside0.mk ((by rw [hg]; exact Nat.ne_of_lt (blk_lt (g := gb1356) (o := .cells #[.int .u64 a0_0, .int .u64 a0_1] 25 (0, 0)) (by (with_reducible repeat (first | refine blk_drewN ?_ _ | refine blk_drew ?_ | refine blk_alloc ?_ _)); exact BK1356.out)) : gb1356 ≠ gb1417))
                      have n8_ := Aside0.mk ((by rw [hg]; exact Nat.ne_of_gt (blk_lt (g := gb1356) (o := .cells #[.int .u64 a0_0, .int .u64 a0_1] 25 (0, 0)) (by (with_reducible repeat (first | refine blk_drewN ?_ _ | refine blk_drew ?_ | refine blk_alloc ?_ _)); exact BK1356.out)) : gb1417 ≠ gb1356))
                      have n9_ := Aside0.mk ((by rw [hg]; exact Nat.ne_of_lt (blk_lt (g := gb1407) (o := .cells #[.int .u64 t1403, .int .u64 t1404] 25 (0, 0)) (by (with_reducible repeat (first | refine blk_drewN ?_ _ | refine blk_drew ?_ | refine blk_alloc ?_ _)); exact BK1407.out)) : gb1407 ≠ gb1417))
                      have n10_ := Aside0.mk ((by rw [hg]; exact Nat.ne_of_gt (blk_lt (g := gb1407) (o := .cells #[.int .u64 t1403, .int .u64 t1404] 25 (0, 0)) (by (with_reducible repeat (first | refine blk_drewN ?_ _ | refine blk_drew ?_ | refine blk_alloc ?_ _)); exact BK1407.out)) : gb1417 ≠ gb1407))
                      have n11_ := Aside0.mk ((by rw [hg]; exact Nat.ne_of_lt (blk_lt (g := gb1411) (o := .cells #[.int .u64 t1408, .int .u64 t1409] 25 (0, 0)) (by (with_reducible repeat (first | refine blk_drewN ?_ _ | refine blk_drew ?_ | refine blk_alloc ?_ _)); exact BK1411.out)) : gb1411 ≠ gb1417))
                      have n12_ := Aside0.mk ((by rw [hg]; exact Nat.ne_of_gt (blk_lt (g := gb1411) (o := .cells #[.int .u64 t1408, .int .u64 t1409] 25 (0, 0)) (by (with_reducible repeat (first | refine blk_drewN ?_ _ | refine blk_drew ?_ | refine blk_alloc ?_ _)); exact BK1411.out)) : gb1417 ≠ gb1411))
                      clear BK1356
                      clear BK1407
                      clear BK1411
                      clear HB
                      have BK1356 := n0_
                      have BK1407 := n1_
                      have BK1411 := n2_
                      have HB := n3_
                      have BK1417 := n4_
                      have GW1417 := n5_
                      have GE1417 := n6_
                      have NB1356_1417 := n7_
                      have NB1417_1356 := n8_
                      have NB1407_1417 := n9_
                      have NB1417_1407 := n10_
                      have NB1411_1417 := n11_
                      have NB1417_1411 := n12_
                      clear n0_ n1_ n2_ n3_ n4_ n5_ n6_ n7_ n8_ n9_ n10_ n11_ n12_
                      clear hb hbox hg
                      refine hK.out _ _ ⟨(blk_cell BK1411.out 0).trans rfl, (blk_cell BK1411.out 1).trans rfl⟩ (fun hHeld => ?_)
                      clear hK K
                      refine norm_ (a' := ?_) ?_ ?_
                      rotate_left
                      · show Act.put _ (some 12) _ = _
                        simp only [Act.put, List.setIfInBounds_toArray, List.set_cons_zero, List.set_cons_succ, i64_w, i32_w]
                        rfl
                      refine one_ (i := 3) (N := some 56) #[true, true, true, true, false, false, false, true, false, false] rfl rfl (one_of HT_.out (by kernel_rfl)) (by decide) (fun K hK => ?_)
                      refine goes_ Try.func45 (by kernel_rfl) rfl #[.agg #[.int .u64 t1408, .int .u64 t1409], .agg #[.int .u64 t1412, .int .u64 t1413]] (by rfl) rfl rfl (by (try simp only [List.map_toArray, List.map_cons, List.map_nil]); first | done | rfl | (simp only [List.length_drop, List.length_take]; rfl)) ?_
                      with_reducible refine (u128_Add.calls t1408 t1409 t1412 t1413 t1414 t1415 t1416 _ A18.out).mono ?_
                      rintro e w44 ⟨rfl, hb⟩
                      refine ⟨_, rfl, ?_⟩
                      have n0_ := Aside0.mk (blk_below (g := gb1356) (o := .cells #[.int .u64 a0_0, .int .u64 a0_1] 25 (0, 0)) (by (with_reducible repeat (first | refine blk_drewN ?_ _ | refine blk_drew ?_ | refine blk_alloc ?_ _)); exact BK1356.out) hb)
                      have n1_ := Aside0.mk (blk_below (g := gb1407) (o := .cells #[.int .u64 t1403, .int .u64 t1404] 25 (0, 0)) (by (with_reducible repeat (first | refine blk_drewN ?_ _ | refine blk_drew ?_ | refine blk_alloc ?_ _)); exact BK1407.out) hb)
                      have n2_ := Aside0.mk (blk_below (g := gb1411) (o := .cells #[.int .u64 t1408, .int .u64 t1409] 25 (0, 0)) (by (with_reducible repeat (first | refine blk_drewN ?_ _ | refine blk_drew ?_ | refine blk_alloc ?_ _)); exact BK1411.out) hb)
                      have n3_ := Aside0.mk (blk_below (g := gb1417) (o := .cells #[.int .u64 0, .int .u64 0] 25 (0, 0)) (by (with_reducible repeat (first | refine blk_drewN ?_ _ | refine blk_drew ?_ | refine blk_alloc ?_ _)); exact BK1417.out) hb)
                      have n4_ := Aside0.mk (below_step (by repeat (first | (with_reducible first | exact HB.out | apply below_alloc | apply pw_below_drewN | apply below_drew1 | refine below_set ?_ GE1356.out | refine below_set ?_ GE1407.out | refine below_set ?_ GE1411.out | refine below_set ?_ GE1417.out) | exact HB.out)) hb)
                      clear BK1356
                      clear BK1407
                      clear BK1411
                      clear BK1417
                      clear HB
                      have BK1356 := n0_
                      have BK1407 := n1_
                      have BK1411 := n2_
                      have BK1417 := n3_
                      have HB := n4_
                      clear n0_ n1_ n2_ n3_ n4_
                      (try clear hb)
                      (try clear hb2)
                      (try clear hk)
                      (try clear hi)
                      refine hK.out _ _ ⟨(blk_cell BK1411.out 0).trans rfl, (blk_cell BK1411.out 1).trans rfl⟩ (fun hHeld => ?_)
                      clear hK K
                      refine norm_ (a' := ?_) ?_ ?_
                      rotate_left
                      · show Act.put _ (some 56) _ = _
                        simp only [Act.put, List.setIfInBounds_toArray, List.set_cons_zero, List.set_cons_succ, i64_w, i32_w]
                        rfl
                      refine pure_ (i := 4) (N := some 52) (v := ?_) (a' := ?_) #[true, true, true, true, true, false, false, true, false, false] rfl rfl (any_of HT_.out (by kernel_rfl)) (fun _ _ _ h => h) (Or.inl ⟨by rfl, ?_⟩) ?_ ?_
                      rotate_left
                      · intro w'
                        go_simp
                        with_reducible rfl
                      rotate_left
                      · simp only [Act.put, List.setIfInBounds_toArray, List.set_cons_zero, List.set_cons_succ, i64_w, i32_w]
                        rfl
                      refine pure_ (i := 5) (N := some 57) (v := ?_) (a' := ?_) #[true, true, true, true, true, true, false, true, false, false] rfl rfl (any_of HT_.out (by kernel_rfl)) (fun _ _ _ h => h) (Or.inl ⟨by rfl, ?_⟩) ?_ ?_
                      rotate_left
                      · intro w'
                        go_simp
                        with_reducible rfl
                      rotate_left
                      · simp only [Act.put, List.setIfInBounds_toArray, List.set_cons_zero, List.set_cons_succ, i64_w, i32_w]
                        rfl
                      refine pure_ (i := 6) (N := some 58) (v := ?_) (a' := ?_) #[true, true, true, true, true, true, true, true, false, false] rfl rfl (any_of HT_.out (by kernel_rfl)) (fun _ _ _ h => h) (Or.inl ⟨by rfl, ?_⟩) ?_ ?_
                      rotate_left
                      · intro w'
                        go_simp
                        with_reducible rfl
                      rotate_left
                      · simp only [Act.put, List.setIfInBounds_toArray, List.set_cons_zero, List.set_cons_succ, i64_w, i32_w]
                        rfl
                      exact norm_ (by simp only [putAll, Act.put, List.setIfInBounds_toArray, List.set_cons_zero, List.set_cons_succ]) (hCont (gb1417) _ ⟨hHeld, (by (with_reducible repeat (first | refine blk_drewN ?_ _ | refine blk_drew ?_ | refine blk_alloc ?_ _)); exact BK1356.out), (by (with_reducible repeat (first | refine blk_drewN ?_ _ | refine blk_drew ?_ | refine blk_alloc ?_ _)); exact BK1407.out), (by (with_reducible repeat (first | refine blk_drewN ?_ _ | refine blk_drew ?_ | refine blk_alloc ?_ _)); exact BK1411.out), (by (with_reducible repeat (first | refine blk_drewN ?_ _ | refine blk_drew ?_ | refine blk_alloc ?_ _)); exact BK1417.out), GW1417.out, GE1417.out, NB1356_1417.out, NB1417_1356.out, NB1407_1417.out, NB1417_1407.out, NB1411_1417.out, NB1417_1411.out, (by repeat (first | (with_reducible first | exact HB.out | apply below_alloc | apply pw_below_drewN | apply below_drew1 | refine below_set ?_ GE1356.out | refine below_set ?_ GE1407.out | refine below_set ?_ GE1411.out | refine below_set ?_ GE1417.out) | exact HB.out))⟩)
                  · skip
                    refine box_step ?hg (N := 12) ?hd (cs := #[.int .u64 0, .int .u64 0]) (t := 25) ?hr ?_; (case hd => rfl); (case hg => rfl); (case hr => first | (go_simp; done) | (go_simp; rfl))
                    intro gb1417 hg w42 hbox hb
                    have n0_ := Aside0.mk (blk_below (g := gb1356) (o := .cells #[.int .u64 a0_0, .int .u64 a0_1] 25 (0, 0)) (by (with_reducible repeat (first | refine blk_drewN ?_ _ | refine blk_drew ?_ | refine blk_alloc ?_ _)); exact BK1356.out) hb)
                    have n1_ := Aside0.mk (blk_below (g := gb1407) (o := .cells #[.int .u64 t1403, .int .u64 t1404] 25 (0, 0)) (by (with_reducible repeat (first | refine blk_drewN ?_ _ | refine blk_drew ?_ | refine blk_alloc ?_ _)); exact BK1407.out) hb)
                    have n2_ := Aside0.mk (blk_below (g := gb1411) (o := .cells #[.int .u64 t1408, .int .u64 t1409] 25 (0, 0)) (by (with_reducible repeat (first | refine blk_drewN ?_ _ | refine blk_drew ?_ | refine blk_alloc ?_ _)); exact BK1411.out) hb)
                    have n3_ := Aside0.mk (below_step (by repeat (first | (with_reducible first | exact HB.out | apply below_alloc | apply pw_below_drewN | apply below_drew1 | refine below_set ?_ GE1356.out | refine below_set ?_ GE1407.out | refine below_set ?_ GE1411.out) | exact HB.out)) hb)
                    have n4_ := Aside0.mk (hbox)
                    have n5_ := Aside0.mk ((by rw [hg]; exact (below_size (by repeat (first | (with_reducible first | exact HB.out | apply below_alloc | apply pw_below_drewN | apply below_drew1 | refine below_set ?_ GE1356.out | refine below_set ?_ GE1407.out | refine below_set ?_ GE1411.out) | exact HB.out))) : w.heap.size ≤ gb1417))
                    have n6_ := Aside0.mk ((by rw [hg]; exact (below_size (by repeat (first | (with_reducible first | exact HB.out | apply below_alloc | apply pw_below_drewN | apply below_drew1 | refine below_set ?_ GE1356.out | refine below_set ?_ GE1407.out | refine below_set ?_ GE1411.out) | exact HB.out))) : w.heap.size ≤ gb1417))
                    have n7_ := Aside0.mk ((by rw [hg]; exact Nat.ne_of_lt (blk_lt (g := gb1356) (o := .cells #[.int .u64 a0_0, .int .u64 a0_1] 25 (0, 0)) (by (with_reducible repeat (first | refine blk_drewN ?_ _ | refine blk_drew ?_ | refine blk_alloc ?_ _)); exact BK1356.out)) : gb1356 ≠ gb1417))
                    have n8_ := Aside0.mk ((by rw [hg]; exact Nat.ne_of_gt (blk_lt (g := gb1356) (o := .cells #[.int .u64 a0_0, .int .u64 a0_1] 25 (0, 0)) (by (with_reducible repeat (first | refine blk_drewN ?_ _ | refine blk_drew ?_ | refine blk_alloc ?_ _)); exact BK1356.out)) : gb1417 ≠ gb1356))
                    have n9_ := Aside0.mk ((by rw [hg]; exact Nat.ne_of_lt (blk_lt (g := gb1407) (o := .cells #[.int .u64 t1403, .int .u64 t1404] 25 (0, 0)) (by (with_reducible repeat (first | refine blk_drewN ?_ _ | refine blk_drew ?_ | refine blk_alloc ?_ _)); exact BK1407.out)) : gb1407 ≠ gb1417))
                    have n10_ := Aside0.mk ((by rw [hg]; exact Nat.ne_of_gt (blk_lt (g := gb1407) (o := .cells #[.int .u64 t1403, .int .u64 t1404] 25 (0, 0)) (by (with_reducible repeat (first | refine blk_drewN ?_ _ | refine blk_drew ?_ | refine blk_alloc ?_ _)); exact BK1407.out)) : gb1417 ≠ gb1407))
                    have n11_ := Aside0.mk ((by rw [hg]; exact Nat.ne_of_lt (blk_lt (g := gb1411) (o := .cells #[.int .u64 t1408, .int .u64 t1409] 25 (0, 0)) (by (with_reducible repeat (first | refine blk_drewN ?_ _ | refine blk_drew ?_ | refine blk_alloc ?_ _)); exact BK1411.out)) : gb1411 ≠ gb1417))
                    have n12_ := Aside0.mk ((by rw [hg]; exact Nat.ne_of_gt (blk_lt (g := gb1411) (o := .cells #[.int .u64 t1408, .int .u64 t1409] 25 (0, 0)) (by (with_reducible repeat (first | refine blk_drewN ?_ _ | refine blk_drew ?_ | refine blk_alloc ?_ _)); exact BK1411.out)) : gb1417 ≠ gb1411))
                    clear BK1356
                    clear BK1407
                    clear BK1411
                    clear HB
                    have BK1356 := n0_
                    have BK1407 := n1_
                    have BK1411 := n2_
                    have HB := n3_
                    have BK1417 := n4_
                    have GW1417 := n5_
                    have GE1417 := n6_
                    have NB1356_1417 := n7_
                    have NB1417_1356 := n8_
                    have NB1407_1417 := n9_
                    have NB1417_1407 := n10_
                    have NB1411_1417 := n11_
                    have NB1417_1411 := n12_
                    clear n0_ n1_ n2_ n3_ n4_ n5_ n6_ n7_ n8_ n9_ n10_ n11_ n12_
                    clear hb hbox hg
                    refine hK.out _ _ ⟨(blk_cell BK1411.out 0).trans rfl, (blk_cell BK1411.out 1).trans rfl⟩ (fun hHeld => ?_)
                    clear hK K
                    refine norm_ (a' := ?_) ?_ ?_
                    rotate_left
                    · show Act.put _ (some 12) _ = _
                      simp only [Act.put, List.setIfInBounds_toArray, List.set_cons_zero, List.set_cons_succ, i64_w, i32_w]
                      rfl
                    refine one_ (i := 2) (N := some 55) #[true, true, true, false, false, false, false, true, false, false] rfl rfl (one_of HT_.out (by kernel_rfl)) (by decide) (fun K hK => ?_)
                    refine goes_ Try.func51 (by kernel_rfl) rfl #[.int .u64 t1405] (by rfl) rfl rfl (by (try simp only [List.map_toArray, List.map_cons, List.map_nil]); first | done | rfl | (simp only [List.length_drop, List.length_take]; rfl)) ?_
                    with_reducible refine (u128_Of.calls t1405 t1412 t1413 _ A17.out).mono ?_
                    rintro e w43 ⟨rfl, hb⟩
                    refine ⟨_, rfl, ?_⟩
                    have n0_ := Aside0.mk (blk_below (g := gb1356) (o := .cells #[.int .u64 a0_0, .int .u64 a0_1] 25 (0, 0)) (by (with_reducible repeat (first | refine blk_drewN ?_ _ | refine blk_drew ?_ | refine blk_alloc ?_ _)); exact BK1356.out) hb)
                    have n1_ := Aside0.mk (blk_below (g := gb1407) (o := .cells #[.int .u64 t1403, .int .u64 t1404] 25 (0, 0)) (by (with_reducible repeat (first | refine blk_drewN ?_ _ | refine blk_drew ?_ | refine blk_alloc ?_ _)); exact BK1407.out) hb)
                    have n2_ := Aside0.mk (blk_below (g := gb1411) (o := .cells #[.int .u64 t1408, .int .u64 t1409] 25 (0, 0)) (by (with_reducible repeat (first | refine blk_drewN ?_ _ | refine blk_drew ?_ | refine blk_alloc ?_ _)); exact BK1411.out) hb)
                    have n3_ := Aside0.mk (blk_below (g := gb1417) (o := .cells #[.int .u64 0, .int .u64 0] 25 (0, 0)) (by (with_reducible repeat (first | refine blk_drewN ?_ _ | refine blk_drew ?_ | refine blk_alloc ?_ _)); exact BK1417.out) hb)
                    have n4_ := Aside0.mk (below_step (by repeat (first | (with_reducible first | exact HB.out | apply below_alloc | apply pw_below_drewN | apply below_drew1 | refine below_set ?_ GE1356.out | refine below_set ?_ GE1407.out | refine below_set ?_ GE1411.out | refine below_set ?_ GE1417.out) | exact HB.out)) hb)
                    clear BK1356
                    clear BK1407
                    clear BK1411
                    clear BK1417
                    clear HB
                    have BK1356 := n0_
                    have BK1407 := n1_
                    have BK1411 := n2_
                    have BK1417 := n3_
                    have HB := n4_
                    clear n0_ n1_ n2_ n3_ n4_
                    (try clear hb)
                    (try clear hb2)
                    (try clear hk)
                    (try clear hi)
                    refine hK.out _ _ ⟨(blk_cell BK1411.out 0).trans rfl, (blk_cell BK1411.out 1).trans rfl⟩ (fun hHeld => ?_)
                    clear hK K
                    refine norm_ (a' := ?_) ?_ ?_
                    rotate_left
                    · show Act.put _ (some 55) _ = _
                      simp only [Act.put, List.setIfInBounds_toArray, List.set_cons_zero, List.set_cons_succ, i64_w, i32_w]
                      rfl
                    refine one_ (i := 3) (N := some 56) #[true, true, true, true, false, false, false, true, false, false] rfl rfl (one_of HT_.out (by kernel_rfl)) (by decide) (fun K hK => ?_)
                    refine goes_ Try.func45 (by kernel_rfl) rfl #[.agg #[.int .u64 t1408, .int .u64 t1409], .agg #[.int .u64 t1412, .int .u64 t1413]] (by rfl) rfl rfl (by (try simp only [List.map_toArray, List.map_cons, List.map_nil]); first | done | rfl | (simp only [List.length_drop, List.length_take]; rfl)) ?_
                    with_reducible refine (u128_Add.calls t1408 t1409 t1412 t1413 t1414 t1415 t1416 _ A18.out).mono ?_
                    rintro e w44 ⟨rfl, hb⟩
                    refine ⟨_, rfl, ?_⟩
                    have n0_ := Aside0.mk (blk_below (g := gb1356) (o := .cells #[.int .u64 a0_0, .int .u64 a0_1] 25 (0, 0)) (by (with_reducible repeat (first | refine blk_drewN ?_ _ | refine blk_drew ?_ | refine blk_alloc ?_ _)); exact BK1356.out) hb)
                    have n1_ := Aside0.mk (blk_below (g := gb1407) (o := .cells #[.int .u64 t1403, .int .u64 t1404] 25 (0, 0)) (by (with_reducible repeat (first | refine blk_drewN ?_ _ | refine blk_drew ?_ | refine blk_alloc ?_ _)); exact BK1407.out) hb)
                    have n2_ := Aside0.mk (blk_below (g := gb1411) (o := .cells #[.int .u64 t1408, .int .u64 t1409] 25 (0, 0)) (by (with_reducible repeat (first | refine blk_drewN ?_ _ | refine blk_drew ?_ | refine blk_alloc ?_ _)); exact BK1411.out) hb)
                    have n3_ := Aside0.mk (blk_below (g := gb1417) (o := .cells #[.int .u64 0, .int .u64 0] 25 (0, 0)) (by (with_reducible repeat (first | refine blk_drewN ?_ _ | refine blk_drew ?_ | refine blk_alloc ?_ _)); exact BK1417.out) hb)
                    have n4_ := Aside0.mk (below_step (by repeat (first | (with_reducible first | exact HB.out | apply below_alloc | apply pw_below_drewN | apply below_drew1 | refine below_set ?_ GE1356.out | refine below_set ?_ GE1407.out | refine below_set ?_ GE1411.out | refine below_set ?_ GE1417.out) | exact HB.out)) hb)
                    clear BK1356
                    clear BK1407
                    clear BK1411
                    clear BK1417
                    clear HB
                    have BK1356 := n0_
                    have BK1407 := n1_
                    have BK1411 := n2_
                    have BK1417 := n3_
                    have HB := n4_
                    clear n0_ n1_ n2_ n3_ n4_
                    (try clear hb)
                    (try clear hb2)
                    (try clear hk)
                    (try clear hi)
                    refine hK.out _ _ ⟨(blk_cell BK1411.out 0).trans rfl, (blk_cell BK1411.out 1).trans rfl⟩ (fun hHeld => ?_)
                    clear hK K
                    refine norm_ (a' := ?_) ?_ ?_
                    rotate_left
                    · show Act.put _ (some 56) _ = _
                      simp only [Act.put, List.setIfInBounds_toArray, List.set_cons_zero, List.set_cons_succ, i64_w, i32_w]
                      rfl
                    refine pure_ (i := 4) (N := some 52) (v := ?_) (a' := ?_) #[true, true, true, true, true, false, false, true, false, false] rfl rfl (any_of HT_.out (by kernel_rfl)) (fun _ _ _ h => h) (Or.inl ⟨by rfl, ?_⟩) ?_ ?_
                    rotate_left
                    · intro w'
                      go_simp
                      with_reducible rfl
                    rotate_left
                    · simp only [Act.put, List.setIfInBounds_toArray, List.set_cons_zero, List.set_cons_succ, i64_w, i32_w]
                      rfl
                    refine pure_ (i := 5) (N := some 57) (v := ?_) (a' := ?_) #[true, true, true, true, true, true, false, true, false, false] rfl rfl (any_of HT_.out (by kernel_rfl)) (fun _ _ _ h => h) (Or.inl ⟨by rfl, ?_⟩) ?_ ?_
                    rotate_left
                    · intro w'
                      go_simp
                      with_reducible rfl
                    rotate_left
                    · simp only [Act.put, List.setIfInBounds_toArray, List.set_cons_zero, List.set_cons_succ, i64_w, i32_w]
                      rfl
                    refine pure_ (i := 6) (N := some 58) (v := ?_) (a' := ?_) #[true, true, true, true, true, true, true, true, false, false] rfl rfl (any_of HT_.out (by kernel_rfl)) (fun _ _ _ h => h) (Or.inl ⟨by rfl, ?_⟩) ?_ ?_
                    rotate_left
                    · intro w'
                      go_simp
                      with_reducible rfl
                    rotate_left
                    · simp only [Act.put, List.setIfInBounds_toArray, List.set_cons_zero, List.set_cons_succ, i64_w, i32_w]
                      rfl
                    exact norm_ (by simp only [putAll, Act.put, List.setIfInBounds_toArray, List.set_cons_zero, List.set_cons_succ]) (hCont (gb1417) _ ⟨hHeld, (by (with_reducible repeat (first | refine blk_drewN ?_ _ | refine blk_drew ?_ | refine blk_alloc ?_ _)); exact BK1356.out), (by (with_reducible repeat (first | refine blk_drewN ?_ _ | refine blk_drew ?_ | refine blk_alloc ?_ _)); exact BK1407.out), (by (with_reducible repeat (first | refine blk_drewN ?_ _ | refine blk_drew ?_ | refine blk_alloc ?_ _)); exact BK1411.out), (by (with_reducible repeat (first | refine blk_drewN ?_ _ | refine blk_drew ?_ | refine blk_alloc ?_ _)); exact BK1417.out), GW1417.out, GE1417.out, NB1356_1417.out, NB1417_1356.out, NB1407_1417.out, NB1417_1407.out, NB1411_1417.out, NB1417_1411.out, (by repeat (first | (with_reducible first | exact HB.out | apply below_alloc | apply pw_below_drewN | apply below_drew1 | refine below_set ?_ GE1356.out | refine below_set ?_ GE1407.out | refine below_set ?_ GE1411.out | refine below_set ?_ GE1417.out) | exact HB.out))⟩)
                rintro gb1417 w45 ⟨hS_, h0_, h1_, h2_, h3_, h4_, h5_, h6_, h7_, h8_, h9_, h10_, h11_, h12_⟩
                have n0_ : Aside0 (w45.heap[gb1356]? = some (.cells #[.int .u64 a0_0, .int .u64 a0_1] 25 (0, 0))) := ⟨h0_⟩
                have n1_ : Aside0 (w45.heap[gb1407]? = some (.cells #[.int .u64 t1403, .int .u64 t1404] 25 (0, 0))) := ⟨h1_⟩
                have n2_ : Aside0 (w45.heap[gb1411]? = some (.cells #[.int .u64 t1408, .int .u64 t1409] 25 (0, 0))) := ⟨h2_⟩
                have n3_ : Aside0 (w45.heap[gb1417]? = some (.cells #[.int .u64 0, .int .u64 0] 25 (0, 0))) := ⟨h3_⟩
                have n4_ : Aside0 (w.heap.size ≤ gb1417) := ⟨h4_⟩
                have n5_ : Aside0 (w.heap.size ≤ gb1417) := ⟨h5_⟩
                have n6_ : Aside0 (gb1356 ≠ gb1417) := ⟨h6_⟩
                have n7_ : Aside0 (gb1417 ≠ gb1356) := ⟨h7_⟩
                have n8_ : Aside0 (gb1407 ≠ gb1417) := ⟨h8_⟩
                have n9_ : Aside0 (gb1417 ≠ gb1407) := ⟨h9_⟩
                have n10_ : Aside0 (gb1411 ≠ gb1417) := ⟨h10_⟩
                have n11_ : Aside0 (gb1417 ≠ gb1411) := ⟨h11_⟩
                have n12_ : Aside0 (Below w.heap.size w w45) := ⟨h12_⟩
                clear BK1356
                clear BK1407
                clear BK1411
                clear HB
                clear h0_ h1_ h2_ h3_ h4_ h5_ h6_ h7_ h8_ h9_ h10_ h11_ h12_
                have BK1356 := n0_
                have BK1407 := n1_
                have BK1411 := n2_
                have BK1417 := n3_
                have GW1417 := n4_
                have GE1417 := n5_
                have NB1356_1417 := n6_
                have NB1417_1356 := n7_
                have NB1407_1417 := n8_
                have NB1417_1407 := n9_
                have NB1411_1417 := n10_
                have NB1417_1411 := n11_
                have HB := n12_
                clear n0_ n1_ n2_ n3_ n4_ n5_ n6_ n7_ n8_ n9_ n10_ n11_ n12_
                have hHeld : w45.cell? ⟨gb1411, 0, none⟩ = some (.int .u64 t1408) ∧ w45.cell? ⟨gb1411, 1, none⟩ = some (.int .u64 t1409) := hS_
                refine norm_ (a' := ?_) ?_ ?_
                rotate_left
                · simp only [putAll, Act.put, List.setIfInBounds_toArray, List.set_cons_zero, List.set_cons_succ]
                  rfl
                refine one_ (i := 8) (N := none) #[true, true, true, true, true, true, true, true, true, false] rfl rfl (one_of HT_.out (by kernel_rfl)) (by decide) (fun K hK => ?_)
                have hs46 : w45.cell? ⟨gb1417, 0, none⟩ = some (.int .u64 0) := (blk_cell BK1417.out 0).trans rfl
                have hfs46 := blk_frozen BK1417.out 0
                have hns46_0 := NB1356_1417.out
                have hns46_1 := NB1407_1417.out
                have hns46_2 := NB1411_1417.out
                have hms46_0 := NB1417_1356.out
                have hms46_1 := NB1417_1407.out
                have hms46_2 := NB1417_1411.out
                have hs47 : w45.cell? ⟨gb1417, 1, none⟩ = some (.int .u64 0) := (blk_cell BK1417.out 1).trans rfl
                have hfs47 := blk_frozen BK1417.out 1
                have hns47_0 := NB1356_1417.out
                have hns47_1 := NB1407_1417.out
                have hns47_2 := NB1411_1417.out
                have hms47_0 := NB1417_1356.out
                have hms47_1 := NB1417_1407.out
                have hms47_2 := NB1417_1411.out
                refine skip_ (w1 := ?_) (by rfl) rfl ?_ ?_
                rotate_left
                · go_simp
                  rfl
                refine hK.out _ _ ⟨((cell_far (p := ⟨gb1417, _, none⟩) NB1411_1417.out _).trans (((cell_far (p := ⟨gb1417, _, none⟩) NB1411_1417.out _).trans (hHeld.1)))), ((cell_far (p := ⟨gb1417, _, none⟩) NB1411_1417.out _).trans (((cell_far (p := ⟨gb1417, _, none⟩) NB1411_1417.out _).trans (hHeld.2))))⟩ (fun hHeld => ?_)
                clear hK K
                refine pure_ (i := 9) (N := some 13) (v := ?_) (a' := ?_) #[true, true, true, true, true, true, true, true, true, true] rfl rfl (any_of HT_.out (by kernel_rfl)) (fun _ _ _ h => h) (Or.inl ⟨by rfl, ?_⟩) ?_ ?_
                rotate_left
                · intro w'
                  go_simp
                  with_reducible rfl
                rotate_left
                · simp only [Act.put, List.setIfInBounds_toArray, List.set_cons_zero, List.set_cons_succ, i64_w, i32_w]
                  rfl
                refine done_ (done_of HT_.out (by kernel_rfl)) ?_
                have hnb48 := NB1417_1356.out
                have hnc48 := NB1356_1417.out
                have hnb49 := NB1417_1407.out
                have hnc49 := NB1407_1417.out
                have hnb50 := NB1417_1411.out
                have hnc50 := NB1411_1417.out
                have hcz51_0 : w45.cell? ⟨gb1417, 0, none⟩ = some (.int .u64 0) := (blk_cell BK1417.out 0).trans rfl
                have hcz51_1 : w45.cell? ⟨gb1417, 1, none⟩ = some (.int .u64 0) := (blk_cell BK1417.out 1).trans rfl
                have hfz51_0 := blk_frozen BK1417.out 0
                have hfz51_1 := blk_frozen BK1417.out 1
                have hcz52_0 : w45.cell? ⟨gb1356, 0, none⟩ = some (.int .u64 a0_0) := (blk_cell BK1356.out 0).trans rfl
                have hcz52_1 : w45.cell? ⟨gb1356, 1, none⟩ = some (.int .u64 a0_1) := (blk_cell BK1356.out 1).trans rfl
                have hfz52_0 := blk_frozen BK1356.out 0
                have hfz52_1 := blk_frozen BK1356.out 1
                go_upto_region 13 with (first | ((with_reducible refine gate_callee (f := 53) rfl ?_); refine goesL_ (some 80) rfl rfl Try.func53 (by kernel_rfl) rfl #[] rfl (by (try simp only [List.map_toArray, List.map_cons, List.map_nil]); first | done | rfl | (simp only [List.length_drop, List.length_take]; rfl)) ?_; (with_reducible refine (u128_Most.calls  t1442 t1443 _ A24.out).mono ?_); rintro e w53 ⟨rfl, hb⟩; refine ⟨_, rfl, ?_⟩; have n0_ := Aside0.mk (blk_below (g := gb1356) (o := .cells #[.int .u64 a0_0, .int .u64 a0_1] 25 (0, 0)) (by (with_reducible repeat (first | refine blk_drewN ?_ _ | refine blk_drew ?_ | refine blk_alloc ?_ _)); refine blk_far ?_ NB1356_1417.out _; (with_reducible repeat (first | refine blk_drewN ?_ _ | refine blk_drew ?_ | refine blk_alloc ?_ _)); refine blk_far ?_ NB1356_1417.out _; (with_reducible repeat (first | refine blk_drewN ?_ _ | refine blk_drew ?_ | refine blk_alloc ?_ _)); exact BK1356.out) hb); have n1_ := Aside0.mk (blk_below (g := gb1407) (o := .cells #[.int .u64 t1403, .int .u64 t1404] 25 (0, 0)) (by (with_reducible repeat (first | refine blk_drewN ?_ _ | refine blk_drew ?_ | refine blk_alloc ?_ _)); refine blk_far ?_ NB1407_1417.out _; (with_reducible repeat (first | refine blk_drewN ?_ _ | refine blk_drew ?_ | refine blk_alloc ?_ _)); refine blk_far ?_ NB1407_1417.out _; (with_reducible repeat (first | refine blk_drewN ?_ _ | refine blk_drew ?_ | refine blk_alloc ?_ _)); exact BK1407.out) hb); have n2_ := Aside0.mk (blk_below (g := gb1411) (o := .cells #[.int .u64 t1408, .int .u64 t1409] 25 (0, 0)) (by (with_reducible repeat (first | refine blk_drewN ?_ _ | refine blk_drew ?_ | refine blk_alloc ?_ _)); refine blk_far ?_ NB1411_1417.out _; (with_reducible repeat (first | refine blk_drewN ?_ _ | refine blk_drew ?_ | refine blk_alloc ?_ _)); refine blk_far ?_ NB1411_1417.out _; (with_reducible repeat (first | refine blk_drewN ?_ _ | refine blk_drew ?_ | refine blk_alloc ?_ _)); exact BK1411.out) hb); have n3_ := Aside0.mk (blk_below (g := gb1417) (o := .cells #[.int .u64 t1414, .int .u64 t1415] 25 (0, 0)) (by (with_reducible repeat (first | refine blk_drewN ?_ _ | refine blk_drew ?_ | refine blk_alloc ?_ _)); refine blk_put (cs := #[.int .u64 t1414, .int .u64 0]) ?_ 1 _ rfl; (with_reducible repeat (first | refine blk_drewN ?_ _ | refine blk_drew ?_ | refine blk_alloc ?_ _)); refine blk_put (cs := #[.int .u64 0, .int .u64 0]) ?_ 0 _ rfl; (with_reducible repeat (first | refine blk_drewN ?_ _ | refine blk_drew ?_ | refine blk_alloc ?_ _)); exact BK1417.out) hb); have n4_ := Aside0.mk (below_step (by repeat (first | (with_reducible first | exact HB.out | apply below_alloc | apply pw_below_drewN | apply below_drew1 | refine below_set ?_ GE1356.out | refine below_set ?_ GE1407.out | refine below_set ?_ GE1411.out | refine below_set ?_ GE1417.out) | exact HB.out)) hb); clear BK1356; clear BK1407; clear BK1411; clear BK1417; clear HB; have BK1356 := n0_; have BK1407 := n1_; have BK1411 := n2_; have BK1417 := n3_; have HB := n4_; clear n0_ n1_ n2_ n3_ n4_; (try clear hb); (try clear hb2); (try clear hk); (try clear hi)) | ((with_reducible refine gate_callee (f := 58) rfl ?_); refine goesL_ (some 82) rfl rfl Try.func58 (by kernel_rfl) rfl #[.agg #[.int .u64 t1442, .int .u64 t1443], .int .u64 a1] rfl (by (try simp only [List.map_toArray, List.map_cons, List.map_nil]); first | done | rfl | (simp only [List.length_drop, List.length_take]; rfl)) ?_; (with_reducible refine (u128_Over.calls t1442 t1443 a1 t1444 t1445 t1446 t1447 _ A25.out).mono ?_); rintro e w54 ⟨rfl, hb⟩; refine ⟨_, rfl, ?_⟩; have n0_ := Aside0.mk (blk_below (g := gb1356) (o := .cells #[.int .u64 a0_0, .int .u64 a0_1] 25 (0, 0)) (by (with_reducible repeat (first | refine blk_drewN ?_ _ | refine blk_drew ?_ | refine blk_alloc ?_ _)); exact BK1356.out) hb); have n1_ := Aside0.mk (blk_below (g := gb1407) (o := .cells #[.int .u64 t1403, .int .u64 t1404] 25 (0, 0)) (by (with_reducible repeat (first | refine blk_drewN ?_ _ | refine blk_drew ?_ | refine blk_alloc ?_ _)); exact BK1407.out) hb); have n2_ := Aside0.mk (blk_below (g := gb1411) (o := .cells #[.int .u64 t1408, .int .u64 t1409] 25 (0, 0)) (by (with_reducible repeat (first | refine blk_drewN ?_ _ | refine blk_drew ?_ | refine blk_alloc ?_ _)); exact BK1411.out) hb); have n3_ := Aside0.mk (blk_below (g := gb1417) (o := .cells #[.int .u64 t1414, .int .u64 t1415] 25 (0, 0)) (by (with_reducible repeat (first | refine blk_drewN ?_ _ | refine blk_drew ?_ | refine blk_alloc ?_ _)); exact BK1417.out) hb); have n4_ := Aside0.mk (below_step (by repeat (first | (with_reducible first | exact HB.out | apply below_alloc | apply pw_below_drewN | apply below_drew1 | refine below_set ?_ GE1356.out | refine below_set ?_ GE1407.out | refine below_set ?_ GE1411.out | refine below_set ?_ GE1417.out) | exact HB.out)) hb); clear BK1356; clear BK1407; clear BK1411; clear BK1417; clear HB; have BK1356 := n0_; have BK1407 := n1_; have BK1411 := n2_; have BK1417 := n3_; have HB := n4_; clear n0_ n1_ n2_ n3_ n4_; (try clear hb); (try clear hb2); (try clear hk); (try clear hi)) | ((with_reducible refine gate_dst (N := 14) rfl ?_); refine box_event ?hg (N := 14) ?hd (cs := #[.int .u64 0, .int .u64 0]) (t := 25) ?hr ?_; (case hd => rfl); (case hg => rfl); (case hr => first | (go_simp; done) | (go_simp; rfl)); intro gb1448 hg w55 hbox hb; have n0_ := Aside0.mk (blk_below (g := gb1356) (o := .cells #[.int .u64 a0_0, .int .u64 a0_1] 25 (0, 0)) (by (with_reducible repeat (first | refine blk_drewN ?_ _ | refine blk_drew ?_ | refine blk_alloc ?_ _)); exact BK1356.out) hb); have n1_ := Aside0.mk (blk_below (g := gb1407) (o := .cells #[.int .u64 t1403, .int .u64 t1404] 25 (0, 0)) (by (with_reducible repeat (first | refine blk_drewN ?_ _ | refine blk_drew ?_ | refine blk_alloc ?_ _)); exact BK1407.out) hb); have n2_ := Aside0.mk (blk_below (g := gb1411) (o := .cells #[.int .u64 t1408, .int .u64 t1409] 25 (0, 0)) (by (with_reducible repeat (first | refine blk_drewN ?_ _ | refine blk_drew ?_ | refine blk_alloc ?_ _)); exact BK1411.out) hb); have n3_ := Aside0.mk (blk_below (g := gb1417) (o := .cells #[.int .u64 t1414, .int .u64 t1415] 25 (0, 0)) (by (with_reducible repeat (first | refine blk_drewN ?_ _ | refine blk_drew ?_ | refine blk_alloc ?_ _)); exact BK1417.out) hb); have n4_ := Aside0.mk (below_step (by repeat (first | (with_reducible first | exact HB.out | apply below_alloc | apply pw_below_drewN | apply below_drew1 | refine below_set ?_ GE1356.out | refine below_set ?_ GE1407.out | refine below_set ?_ GE1411.out | refine below_set ?_ GE1417.out) | exact HB.out)) hb); have n5_ := Aside0.mk (hbox); have n6_ := Aside0.mk ((by rw [hg]; exact (below_size (by repeat (first | (with_reducible first | exact HB.out | apply below_alloc | apply pw_below_drewN | apply below_drew1 | refine below_set ?_ GE1356.out | refine below_set ?_ GE1407.out | refine below_set ?_ GE1411.out | refine below_set ?_ GE1417.out) | exact HB.out))) : w.heap.size ≤ gb1448)); have n7_ := Aside0.mk ((by rw [hg]; exact (below_size (by repeat (first | (with_reducible first | exact HB.out | apply below_alloc | apply pw_below_drewN | apply below_drew1 | refine below_set ?_ GE1356.out | refine below_set ?_ GE1407.out | refine below_set ?_ GE1411.out | refine below_set ?_ GE1417.out) | exact HB.out))) : w.heap.size ≤ gb1448)); have n8_ := Aside0.mk ((by rw [hg]; exact Nat.ne_of_lt (blk_lt (g := gb1356) (o := .cells #[.int .u64 a0_0, .int .u64 a0_1] 25 (0, 0)) (by (with_reducible repeat (first | refine blk_drewN ?_ _ | refine blk_drew ?_ | refine blk_alloc ?_ _)); exact BK1356.out)) : gb1356 ≠ gb1448)); have n9_ := Aside0.mk ((by rw [hg]; exact Nat.ne_of_gt (blk_lt (g := gb1356) (o := .cells #[.int .u64 a0_0, .int .u64 a0_1] 25 (0, 0)) (by (with_reducible repeat (first | refine blk_drewN ?_ _ | refine blk_drew ?_ | refine blk_alloc ?_ _)); exact BK1356.out)) : gb1448 ≠ gb1356)); have n10_ := Aside0.mk ((by rw [hg]; exact Nat.ne_of_lt (blk_lt (g := gb1407) (o := .cells #[.int .u64 t1403, .int .u64 t1404] 25 (0, 0)) (by (with_reducible repeat (first | refine blk_drewN ?_ _ | refine blk_drew ?_ | refine blk_alloc ?_ _)); exact BK1407.out)) : gb1407 ≠ gb1448)); have n11_ := Aside0.mk ((by rw [hg]; exact Nat.ne_of_gt (blk_lt (g := gb1407) (o := .cells #[.int .u64 t1403, .int .u64 t1404] 25 (0, 0)) (by (with_reducible repeat (first | refine blk_drewN ?_ _ | refine blk_drew ?_ | refine blk_alloc ?_ _)); exact BK1407.out)) : gb1448 ≠ gb1407)); have n12_ := Aside0.mk ((by rw [hg]; exact Nat.ne_of_lt (blk_lt (g := gb1411) (o := .cells #[.int .u64 t1408, .int .u64 t1409] 25 (0, 0)) (by (with_reducible repeat (first | refine blk_drewN ?_ _ | refine blk_drew ?_ | refine blk_alloc ?_ _)); exact BK1411.out)) : gb1411 ≠ gb1448)); have n13_ := Aside0.mk ((by rw [hg]; exact Nat.ne_of_gt (blk_lt (g := gb1411) (o := .cells #[.int .u64 t1408, .int .u64 t1409] 25 (0, 0)) (by (with_reducible repeat (first | refine blk_drewN ?_ _ | refine blk_drew ?_ | refine blk_alloc ?_ _)); exact BK1411.out)) : gb1448 ≠ gb1411)); have n14_ := Aside0.mk ((by rw [hg]; exact Nat.ne_of_lt (blk_lt (g := gb1417) (o := .cells #[.int .u64 t1414, .int .u64 t1415] 25 (0, 0)) (by (with_reducible repeat (first | refine blk_drewN ?_ _ | refine blk_drew ?_ | refine blk_alloc ?_ _)); exact BK1417.out)) : gb1417 ≠ gb1448)); have n15_ := Aside0.mk ((by rw [hg]; exact Nat.ne_of_gt (blk_lt (g := gb1417) (o := .cells #[.int .u64 t1414, .int .u64 t1415] 25 (0, 0)) (by (with_reducible repeat (first | refine blk_drewN ?_ _ | refine blk_drew ?_ | refine blk_alloc ?_ _)); exact BK1417.out)) : gb1448 ≠ gb1417)); clear BK1356; clear BK1407; clear BK1411; clear BK1417; clear HB; have BK1356 := n0_; have BK1407 := n1_; have BK1411 := n2_; have BK1417 := n3_; have HB := n4_; have BK1448 := n5_; have GW1448 := n6_; have GE1448 := n7_; have NB1356_1448 := n8_; have NB1448_1356 := n9_; have NB1407_1448 := n10_; have NB1448_1407 := n11_; have NB1411_1448 := n12_; have NB1448_1411 := n13_; have NB1417_1448 := n14_; have NB1448_1417 := n15_; clear n0_ n1_ n2_ n3_ n4_ n5_ n6_ n7_ n8_ n9_ n10_ n11_ n12_ n13_ n14_ n15_; clear hb hbox hg; have hnb56 := NB1448_1356.out; have hnc56 := NB1356_1448.out; have hnb57 := NB1448_1407.out; have hnc57 := NB1407_1448.out; have hnb58 := NB1448_1411.out; have hnc58 := NB1411_1448.out; have hnb59 := NB1448_1417.out; have hnc59 := NB1417_1448.out; have hcz60_0 : w55.cell? ⟨gb1448, 0, none⟩ = some (.int .u64 0) := (blk_cell BK1448.out 0).trans rfl; have hcz60_1 : w55.cell? ⟨gb1448, 1, none⟩ = some (.int .u64 0) := (blk_cell BK1448.out 1).trans rfl; have hfz60_0 := blk_frozen BK1448.out 0; have hfz60_1 := blk_frozen BK1448.out 1; have hcz61_0 : w55.cell? ⟨gb1356, 0, none⟩ = some (.int .u64 a0_0) := (blk_cell BK1356.out 0).trans rfl; have hcz61_1 : w55.cell? ⟨gb1356, 1, none⟩ = some (.int .u64 a0_1) := (blk_cell BK1356.out 1).trans rfl; have hfz61_0 := blk_frozen BK1356.out 0; have hfz61_1 := blk_frozen BK1356.out 1) | ((with_reducible refine gate_callee (f := 56) rfl ?_); refine goesL_ (some 89) rfl rfl Try.func56 (by kernel_rfl) rfl #[.agg #[.int .u64 a0_0, .int .u64 a0_1], .int .u64 a1] rfl (by (try simp only [List.map_toArray, List.map_cons, List.map_nil]); first | done | rfl | (simp only [List.length_drop, List.length_take]; rfl)) ?_; (with_reducible refine (u128_Times.calls a0_0 a0_1 a1 t1449 t1450 t1451 _ A26.out).mono ?_); rintro e w62 ⟨rfl, hb⟩; refine ⟨_, rfl, ?_⟩; have n0_ := Aside0.mk (blk_below (g := gb1356) (o := .cells #[.int .u64 a0_0, .int .u64 a0_1] 25 (0, 0)) (by (with_reducible repeat (first | refine blk_drewN ?_ _ | refine blk_drew ?_ | refine blk_alloc ?_ _)); refine blk_far ?_ NB1356_1448.out _; (with_reducible repeat (first | refine blk_drewN ?_ _ | refine blk_drew ?_ | refine blk_alloc ?_ _)); refine blk_far ?_ NB1356_1448.out _; (with_reducible repeat (first | refine blk_drewN ?_ _ | refine blk_drew ?_ | refine blk_alloc ?_ _)); exact BK1356.out) hb); have n1_ := Aside0.mk (blk_below (g := gb1407) (o := .cells #[.int .u64 t1403, .int .u64 t1404] 25 (0, 0)) (by (with_reducible repeat (first | refine blk_drewN ?_ _ | refine blk_drew ?_ | refine blk_alloc ?_ _)); refine blk_far ?_ NB1407_1448.out _; (with_reducible repeat (first | refine blk_drewN ?_ _ | refine blk_drew ?_ | refine blk_alloc ?_ _)); refine blk_far ?_ NB1407_1448.out _; (with_reducible repeat (first | refine blk_drewN ?_ _ | refine blk_drew ?_ | refine blk_alloc ?_ _)); exact BK1407.out) hb); have n2_ := Aside0.mk (blk_below (g := gb1411) (o := .cells #[.int .u64 t1408, .int .u64 t1409] 25 (0, 0)) (by (with_reducible repeat (first | refine blk_drewN ?_ _ | refine blk_drew ?_ | refine blk_alloc ?_ _)); refine blk_far ?_ NB1411_1448.out _; (with_reducible repeat (first | refine blk_drewN ?_ _ | refine blk_drew ?_ | refine blk_alloc ?_ _)); refine blk_far ?_ NB1411_1448.out _; (with_reducible repeat (first | refine blk_drewN ?_ _ | refine blk_drew ?_ | refine blk_alloc ?_ _)); exact BK1411.out) hb); have n3_ := Aside0.mk (blk_below (g := gb1417) (o := .cells #[.int .u64 t1414, .int .u64 t1415] 25 (0, 0)) (by (with_reducible repeat (first | refine blk_drewN ?_ _ | refine blk_drew ?_ | refine blk_alloc ?_ _)); refine blk_far ?_ NB1417_1448.out _; (with_reducible repeat (first | refine blk_drewN ?_ _ | refine blk_drew ?_ | refine blk_alloc ?_ _)); refine blk_far ?_ NB1417_1448.out _; (with_reducible repeat (first | refine blk_drewN ?_ _ | refine blk_drew ?_ | refine blk_alloc ?_ _)); exact BK1417.out) hb); have n4_ := Aside0.mk (blk_below (g := gb1448) (o := .cells #[.int .u64 t1444, .int .u64 t1445] 25 (0, 0)) (by (with_reducible repeat (first | refine blk_drewN ?_ _ | refine blk_drew ?_ | refine blk_alloc ?_ _)); refine blk_put (cs := #[.int .u64 t1444, .int .u64 0]) ?_ 1 _ rfl; (with_reducible repeat (first | refine blk_drewN ?_ _ | refine blk_drew ?_ | refine blk_alloc ?_ _)); refine blk_put (cs := #[.int .u64 0, .int .u64 0]) ?_ 0 _ rfl; (with_reducible repeat (first | refine blk_drewN ?_ _ | refine blk_drew ?_ | refine blk_alloc ?_ _)); exact BK1448.out) hb); have n5_ := Aside0.mk (below_step (by repeat (first | (with_reducible first | exact HB.out | apply below_alloc | apply pw_below_drewN | apply below_drew1 | refine below_set ?_ GE1356.out | refine below_set ?_ GE1407.out | refine below_set ?_ GE1411.out | refine below_set ?_ GE1417.out | refine below_set ?_ GE1448.out) | exact HB.out)) hb); clear BK1356; clear BK1407; clear BK1411; clear BK1417; clear BK1448; clear HB; have BK1356 := n0_; have BK1407 := n1_; have BK1411 := n2_; have BK1417 := n3_; have BK1448 := n4_; have HB := n5_; clear n0_ n1_ n2_ n3_ n4_ n5_; (try clear hb); (try clear hb2); (try clear hk); (try clear hi)) | ((with_reducible refine gate_dst (N := 17) rfl ?_); refine box_event ?hg (N := 17) ?hd (cs := #[.int .u64 0, .int .u64 0]) (t := 25) ?hr ?_; (case hd => rfl); (case hg => rfl); (case hr => first | (go_simp; done) | (go_simp; rfl)); intro gb1452 hg w63 hbox hb; have n0_ := Aside0.mk (blk_below (g := gb1356) (o := .cells #[.int .u64 a0_0, .int .u64 a0_1] 25 (0, 0)) (by (with_reducible repeat (first | refine blk_drewN ?_ _ | refine blk_drew ?_ | refine blk_alloc ?_ _)); exact BK1356.out) hb); have n1_ := Aside0.mk (blk_below (g := gb1407) (o := .cells #[.int .u64 t1403, .int .u64 t1404] 25 (0, 0)) (by (with_reducible repeat (first | refine blk_drewN ?_ _ | refine blk_drew ?_ | refine blk_alloc ?_ _)); exact BK1407.out) hb); have n2_ := Aside0.mk (blk_below (g := gb1411) (o := .cells #[.int .u64 t1408, .int .u64 t1409] 25 (0, 0)) (by (with_reducible repeat (first | refine blk_drewN ?_ _ | refine blk_drew ?_ | refine blk_alloc ?_ _)); exact BK1411.out) hb); have n3_ := Aside0.mk (blk_below (g := gb1417) (o := .cells #[.int .u64 t1414, .int .u64 t1415] 25 (0, 0)) (by (with_reducible repeat (first | refine blk_drewN ?_ _ | refine blk_drew ?_ | refine blk_alloc ?_ _)); exact BK1417.out) hb); have n4_ := Aside0.mk (blk_below (g := gb1448) (o := .cells #[.int .u64 t1444, .int .u64 t1445] 25 (0, 0)) (by (with_reducible repeat (first | refine blk_drewN ?_ _ | refine blk_drew ?_ | refine blk_alloc ?_ _)); exact BK1448.out) hb); have n5_ := Aside0.mk (below_step (by repeat (first | (with_reducible first | exact HB.out | apply below_alloc | apply pw_below_drewN | apply below_drew1 | refine below_set ?_ GE1356.out | refine below_set ?_ GE1407.out | refine below_set ?_ GE1411.out | refine below_set ?_ GE1417.out | refine below_set ?_ GE1448.out) | exact HB.out)) hb); have n6_ := Aside0.mk (hbox); have n7_ := Aside0.mk ((by rw [hg]; exact (below_size (by repeat (first | (with_reducible first | exact HB.out | apply below_alloc | apply pw_below_drewN | apply below_drew1 | refine below_set ?_ GE1356.out | refine below_set ?_ GE1407.out | refine below_set ?_ GE1411.out | refine below_set ?_ GE1417.out | refine below_set ?_ GE1448.out) | exact HB.out))) : w.heap.size ≤ gb1452)); have n8_ := Aside0.mk ((by rw [hg]; exact (below_size (by repeat (first | (with_reducible first | exact HB.out | apply below_alloc | apply pw_below_drewN | apply below_drew1 | refine below_set ?_ GE1356.out | refine below_set ?_ GE1407.out | refine below_set ?_ GE1411.out | refine below_set ?_ GE1417.out | refine below_set ?_ GE1448.out) | exact HB.out))) : w.heap.size ≤ gb1452)); have n9_ := Aside0.mk ((by rw [hg]; exact Nat.ne_of_lt (blk_lt (g := gb1356) (o := .cells #[.int .u64 a0_0, .int .u64 a0_1] 25 (0, 0)) (by (with_reducible repeat (first | refine blk_drewN ?_ _ | refine blk_drew ?_ | refine blk_alloc ?_ _)); exact BK1356.out)) : gb1356 ≠ gb1452)); have n10_ := Aside0.mk ((by rw [hg]; exact Nat.ne_of_gt (blk_lt (g := gb1356) (o := .cells #[.int .u64 a0_0, .int .u64 a0_1] 25 (0, 0)) (by (with_reducible repeat (first | refine blk_drewN ?_ _ | refine blk_drew ?_ | refine blk_alloc ?_ _)); exact BK1356.out)) : gb1452 ≠ gb1356)); have n11_ := Aside0.mk ((by rw [hg]; exact Nat.ne_of_lt (blk_lt (g := gb1407) (o := .cells #[.int .u64 t1403, .int .u64 t1404] 25 (0, 0)) (by (with_reducible repeat (first | refine blk_drewN ?_ _ | refine blk_drew ?_ | refine blk_alloc ?_ _)); exact BK1407.out)) : gb1407 ≠ gb1452)); have n12_ := Aside0.mk ((by rw [hg]; exact Nat.ne_of_gt (blk_lt (g := gb1407) (o := .cells #[.int .u64 t1403, .int .u64 t1404] 25 (0, 0)) (by (with_reducible repeat (first | refine blk_drewN ?_ _ | refine blk_drew ?_ | refine blk_alloc ?_ _)); exact BK1407.out)) : gb1452 ≠ gb1407)); have n13_ := Aside0.mk ((by rw [hg]; exact Nat.ne_of_lt (blk_lt (g := gb1411) (o := .cells #[.int .u64 t1408, .int .u64 t1409] 25 (0, 0)) (by (with_reducible repeat (first | refine blk_drewN ?_ _ | refine blk_drew ?_ | refine blk_alloc ?_ _)); exact BK1411.out)) : gb1411 ≠ gb1452)); have n14_ := Aside0.mk ((by rw [hg]; exact Nat.ne_of_gt (blk_lt (g := gb1411) (o := .cells #[.int .u64 t1408, .int .u64 t1409] 25 (0, 0)) (by (with_reducible repeat (first | refine blk_drewN ?_ _ | refine blk_drew ?_ | refine blk_alloc ?_ _)); exact BK1411.out)) : gb1452 ≠ gb1411)); have n15_ := Aside0.mk ((by rw [hg]; exact Nat.ne_of_lt (blk_lt (g := gb1417) (o := .cells #[.int .u64 t1414, .int .u64 t1415] 25 (0, 0)) (by (with_reducible repeat (first | refine blk_drewN ?_ _ | refine blk_drew ?_ | refine blk_alloc ?_ _)); exact BK1417.out)) : gb1417 ≠ gb1452)); have n16_ := Aside0.mk ((by rw [hg]; exact Nat.ne_of_gt (blk_lt (g := gb1417) (o := .cells #[.int .u64 t1414, .int .u64 t1415] 25 (0, 0)) (by (with_reducible repeat (first | refine blk_drewN ?_ _ | refine blk_drew ?_ | refine blk_alloc ?_ _)); exact BK1417.out)) : gb1452 ≠ gb1417)); have n17_ := Aside0.mk ((by rw [hg]; exact Nat.ne_of_lt (blk_lt (g := gb1448) (o := .cells #[.int .u64 t1444, .int .u64 t1445] 25 (0, 0)) (by (with_reducible repeat (first | refine blk_drewN ?_ _ | refine blk_drew ?_ | refine blk_alloc ?_ _)); exact BK1448.out)) : gb1448 ≠ gb1452)); have n18_ := Aside0.mk ((by rw [hg]; exact Nat.ne_of_gt (blk_lt (g := gb1448) (o := .cells #[.int .u64 t1444, .int .u64 t1445] 25 (0, 0)) (by (with_reducible repeat (first | refine blk_drewN ?_ _ | refine blk_drew ?_ | refine blk_alloc ?_ _)); exact BK1448.out)) : gb1452 ≠ gb1448)); clear BK1356; clear BK1407; clear BK1411; clear BK1417; clear BK1448; clear HB; have BK1356 := n0_; have BK1407 := n1_; have BK1411 := n2_; have BK1417 := n3_; have BK1448 := n4_; have HB := n5_; have BK1452 := n6_; have GW1452 := n7_; have GE1452 := n8_; have NB1356_1452 := n9_; have NB1452_1356 := n10_; have NB1407_1452 := n11_; have NB1452_1407 := n12_; have NB1411_1452 := n13_; have NB1452_1411 := n14_; have NB1417_1452 := n15_; have NB1452_1417 := n16_; have NB1448_1452 := n17_; have NB1452_1448 := n18_; clear n0_ n1_ n2_ n3_ n4_ n5_ n6_ n7_ n8_ n9_ n10_ n11_ n12_ n13_ n14_ n15_ n16_ n17_ n18_; clear hb hbox hg; have hnb64 := NB1452_1356.out; have hnc64 := NB1356_1452.out; have hnb65 := NB1452_1407.out; have hnc65 := NB1407_1452.out; have hnb66 := NB1452_1411.out; have hnc66 := NB1411_1452.out; have hnb67 := NB1452_1417.out; have hnc67 := NB1417_1452.out; have hnb68 := NB1452_1448.out; have hnc68 := NB1448_1452.out; have hcz69_0 : w63.cell? ⟨gb1452, 0, none⟩ = some (.int .u64 0) := (blk_cell BK1452.out 0).trans rfl; have hcz69_1 : w63.cell? ⟨gb1452, 1, none⟩ = some (.int .u64 0) := (blk_cell BK1452.out 1).trans rfl; have hfz69_0 := blk_frozen BK1452.out 0; have hfz69_1 := blk_frozen BK1452.out 1))
                (try simp only [Act.put, List.setIfInBounds_toArray, List.set_cons_zero, List.set_cons_succ])
                go_cut [115] (fun v115 wc => ∃ (kq : Nat) (x115_26 : Bool), v115 = .bool x115_26 ∧ Aside0 (paymasterlaw01_U128Divides.j0 kq a1 t1451 x115_26 a0_0 a0_1 t1449 t1450 = some r) ∧ Aside0 (kq ≤ k) ∧ Aside0 (wc.heap[gb1356]? = some (.cells #[.int .u64 a0_0, .int .u64 a0_1] 25 (0, 0))) ∧ Aside0 (wc.heap[gb1407]? = some (.cells #[.int .u64 t1403, .int .u64 t1404] 25 (0, 0))) ∧ Aside0 (wc.heap[gb1411]? = some (.cells #[.int .u64 t1408, .int .u64 t1409] 25 (0, 0))) ∧ Aside0 (wc.heap[gb1417]? = some (.cells #[.int .u64 t1414, .int .u64 t1415] 25 (0, 0))) ∧ Aside0 (wc.heap[gb1448]? = some (.cells #[.int .u64 t1444, .int .u64 t1445] 25 (0, 0))) ∧ Aside0 (wc.heap[gb1452]? = some (.cells #[.int .u64 t1449, .int .u64 t1450] 25 (0, 0))) ∧ Aside0 (Below w.heap.size w wc))
                case first =>
                  have H := HC27.out
                  clear HC27
                  by_cases c70 : t1447 = 0
                  · rw [if_pos c70] at H
                    have c70b0 : (t1447 == 0) = true := beq_iff_eq.mpr c70
                    have c70b1 : (t1447 != 0) = false := bne_eq_false_iff_eq.mpr c70
                    clear c70
                    (first | rw [c70b0] | (simp only [i64_w, i32_w]; rw [c70b0]) | skip)
                    replace H := Option.bind_eq_some_iff.mp H
                    obtain ⟨t1453, A710, H⟩ := H
                    replace H : (if ((t1451 == 0) != (decide (t1453 ≤ 0))) = true then (none) else (if t1451 = 0 then (paymasterlaw01_U128Divides.j0 k a1 t1451 false a0_0 a0_1 t1449 t1450) else (if t1451 = 10 then (paymasterlaw01_U128Divides.j0 k a1 t1451 (!(t1449 == 0) || (!(t1450 == 0))) a0_0 a0_1 t1449 t1450) else (none)))) = some r := H
                    have A71 := Aside0.mk A710
                    clear A710
                    by_cases c72 : ((t1451 == 0) != (decide (t1453 ≤ 0))) = true
                    · rw [if_pos c72] at H
                      exact absurd H (by simp)
                    · rw [if_neg c72] at H
                      have c72b0 : ((t1451 == 0) != (decide (t1453 ≤ 0))) = false := by simpa using c72
                      (try (have c72b1 : decide ((t1451 == 0) = (decide (t1453 ≤ 0))) = true := by simpa using c72))
                      (try (have c72b2 : ((t1451 == 0) == (decide (t1453 ≤ 0))) = true := by simpa using c72))
                      clear c72
                      by_cases c73 : t1451 = 0
                      · rw [if_pos c73] at H
                        have c73b0 : (t1451 == 0) = true := beq_iff_eq.mpr c73
                        have c72d : (decide (t1453 ≤ 0)) = true := (by have z_ := c72b0; rw [c73b0] at z_; simpa using z_)
                        have c73b1 : (t1451 != 0) = false := bne_eq_false_iff_eq.mpr c73
                        clear c73
                        have H' := Aside0.mk H
                        clear H
                        have hnb74 := NB1356_1407.out
                        have hnc74 := NB1407_1356.out
                        have hnb75 := NB1356_1411.out
                        have hnc75 := NB1411_1356.out
                        have hnb76 := NB1356_1417.out
                        have hnc76 := NB1417_1356.out
                        have hnb77 := NB1356_1448.out
                        have hnc77 := NB1448_1356.out
                        have hnb78 := NB1356_1452.out
                        have hnc78 := NB1452_1356.out
                        have hcz79_0 : w63.cell? ⟨gb1356, 0, none⟩ = some (.int .u64 a0_0) := (blk_cell BK1356.out 0).trans rfl
                        have hcz79_1 : w63.cell? ⟨gb1356, 1, none⟩ = some (.int .u64 a0_1) := (blk_cell BK1356.out 1).trans rfl
                        have hfz79_0 := blk_frozen BK1356.out 0
                        have hfz79_1 := blk_frozen BK1356.out 1
                        have hnb80 := NB1448_1407.out
                        have hnc80 := NB1407_1448.out
                        have hnb81 := NB1448_1411.out
                        have hnc81 := NB1411_1448.out
                        have hnb82 := NB1448_1417.out
                        have hnc82 := NB1417_1448.out
                        have hnb83 := NB1448_1452.out
                        have hnc83 := NB1452_1448.out
                        have hcz84_0 : w63.cell? ⟨gb1448, 0, none⟩ = some (.int .u64 t1444) := (blk_cell BK1448.out 0).trans rfl
                        have hcz84_1 : w63.cell? ⟨gb1448, 1, none⟩ = some (.int .u64 t1445) := (blk_cell BK1448.out 1).trans rfl
                        have hfz84_0 := blk_frozen BK1448.out 0
                        have hfz84_1 := blk_frozen BK1448.out 1
                        go_wp2_with (first | (go_at_call 49; (with_reducible refine (u128_Cmp.calls k a0_0 a0_1 t1444 t1445 t1453 _ A71.out).mono ?_); rintro e w85 ⟨rfl, hb⟩; have n0_ := Aside0.mk (blk_below (g := gb1356) (o := .cells #[.int .u64 a0_0, .int .u64 a0_1] 25 (0, 0)) (by (with_reducible repeat (first | refine blk_drewN ?_ _ | refine blk_drew ?_ | refine blk_alloc ?_ _)); refine blk_far ?_ NB1356_1452.out _; (with_reducible repeat (first | refine blk_drewN ?_ _ | refine blk_drew ?_ | refine blk_alloc ?_ _)); refine blk_far ?_ NB1356_1452.out _; (with_reducible repeat (first | refine blk_drewN ?_ _ | refine blk_drew ?_ | refine blk_alloc ?_ _)); exact BK1356.out) hb); have n1_ := Aside0.mk (blk_below (g := gb1407) (o := .cells #[.int .u64 t1403, .int .u64 t1404] 25 (0, 0)) (by (with_reducible repeat (first | refine blk_drewN ?_ _ | refine blk_drew ?_ | refine blk_alloc ?_ _)); refine blk_far ?_ NB1407_1452.out _; (with_reducible repeat (first | refine blk_drewN ?_ _ | refine blk_drew ?_ | refine blk_alloc ?_ _)); refine blk_far ?_ NB1407_1452.out _; (with_reducible repeat (first | refine blk_drewN ?_ _ | refine blk_drew ?_ | refine blk_alloc ?_ _)); exact BK1407.out) hb); have n2_ := Aside0.mk (blk_below (g := gb1411) (o := .cells #[.int .u64 t1408, .int .u64 t1409] 25 (0, 0)) (by (with_reducible repeat (first | refine blk_drewN ?_ _ | refine blk_drew ?_ | refine blk_alloc ?_ _)); refine blk_far ?_ NB1411_1452.out _; (with_reducible repeat (first | refine blk_drewN ?_ _ | refine blk_drew ?_ | refine blk_alloc ?_ _)); refine blk_far ?_ NB1411_1452.out _; (with_reducible repeat (first | refine blk_drewN ?_ _ | refine blk_drew ?_ | refine blk_alloc ?_ _)); exact BK1411.out) hb); have n3_ := Aside0.mk (blk_below (g := gb1417) (o := .cells #[.int .u64 t1414, .int .u64 t1415] 25 (0, 0)) (by (with_reducible repeat (first | refine blk_drewN ?_ _ | refine blk_drew ?_ | refine blk_alloc ?_ _)); refine blk_far ?_ NB1417_1452.out _; (with_reducible repeat (first | refine blk_drewN ?_ _ | refine blk_drew ?_ | refine blk_alloc ?_ _)); refine blk_far ?_ NB1417_1452.out _; (with_reducible repeat (first | refine blk_drewN ?_ _ | refine blk_drew ?_ | refine blk_alloc ?_ _)); exact BK1417.out) hb); have n4_ := Aside0.mk (blk_below (g := gb1448) (o := .cells #[.int .u64 t1444, .int .u64 t1445] 25 (0, 0)) (by (with_reducible repeat (first | refine blk_drewN ?_ _ | refine blk_drew ?_ | refine blk_alloc ?_ _)); refine blk_far ?_ NB1448_1452.out _; (with_reducible repeat (first | refine blk_drewN ?_ _ | refine blk_drew ?_ | refine blk_alloc ?_ _)); refine blk_far ?_ NB1448_1452.out _; (with_reducible repeat (first | refine blk_drewN ?_ _ | refine blk_drew ?_ | refine blk_alloc ?_ _)); exact BK1448.out) hb); have n5_ := Aside0.mk (blk_below (g := gb1452) (o := .cells #[.int .u64 t1449, .int .u64 t1450] 25 (0, 0)) (by (with_reducible repeat (first | refine blk_drewN ?_ _ | refine blk_drew ?_ | refine blk_alloc ?_ _)); refine blk_put (cs := #[.int .u64 t1449, .int .u64 0]) ?_ 1 _ rfl; (with_reducible repeat (first | refine blk_drewN ?_ _ | refine blk_drew ?_ | refine blk_alloc ?_ _)); refine blk_put (cs := #[.int .u64 0, .int .u64 0]) ?_ 0 _ rfl; (with_reducible repeat (first | refine blk_drewN ?_ _ | refine blk_drew ?_ | refine blk_alloc ?_ _)); exact BK1452.out) hb); have n6_ := Aside0.mk (below_step (by repeat (first | (with_reducible first | exact HB.out | apply below_alloc | apply pw_below_drewN | apply below_drew1 | refine below_set ?_ GE1356.out | refine below_set ?_ GE1407.out | refine below_set ?_ GE1411.out | refine below_set ?_ GE1417.out | refine below_set ?_ GE1448.out | refine below_set ?_ GE1452.out) | exact HB.out)) hb); clear BK1356; clear BK1407; clear BK1411; clear BK1417; clear BK1448; clear BK1452; clear HB; have BK1356 := n0_; have BK1407 := n1_; have BK1411 := n2_; have BK1417 := n3_; have BK1448 := n4_; have BK1452 := n5_; have HB := n6_; clear n0_ n1_ n2_ n3_ n4_ n5_ n6_; (try clear hb); (try clear hb2); (try clear hk); (try clear hi)))
                        go_meet
                        case rel => exact ⟨_, (false), (by first | rfl | (simp; done) | (simp [*]; done)), H', ⟨by first | omega | exact Nat.le_refl _⟩, ⟨by (with_reducible repeat (first | refine blk_drewN ?_ _ | refine blk_drew ?_ | refine blk_alloc ?_ _)); exact BK1356.out⟩, ⟨by (with_reducible repeat (first | refine blk_drewN ?_ _ | refine blk_drew ?_ | refine blk_alloc ?_ _)); exact BK1407.out⟩, ⟨by (with_reducible repeat (first | refine blk_drewN ?_ _ | refine blk_drew ?_ | refine blk_alloc ?_ _)); exact BK1411.out⟩, ⟨by (with_reducible repeat (first | refine blk_drewN ?_ _ | refine blk_drew ?_ | refine blk_alloc ?_ _)); exact BK1417.out⟩, ⟨by (with_reducible repeat (first | refine blk_drewN ?_ _ | refine blk_drew ?_ | refine blk_alloc ?_ _)); exact BK1448.out⟩, ⟨by (with_reducible repeat (first | refine blk_drewN ?_ _ | refine blk_drew ?_ | refine blk_alloc ?_ _)); exact BK1452.out⟩, ⟨by repeat (first | (with_reducible first | exact HB.out | apply below_alloc | apply pw_below_drewN | apply below_drew1 | refine below_set ?_ GE1356.out | refine below_set ?_ GE1407.out | refine below_set ?_ GE1411.out | refine below_set ?_ GE1417.out | refine below_set ?_ GE1448.out | refine below_set ?_ GE1452.out) | exact HB.out)⟩⟩
                      · rw [if_neg c73] at H
                        have c73b0 : (t1451 == 0) = false := beq_eq_false_iff_ne.mpr c73
                        have c72d : (decide (t1453 ≤ 0)) = false := (by have z_ := c72b0; rw [c73b0] at z_; simpa using z_)
                        have c73b1 : (t1451 != 0) = true := bne_iff_ne.mpr c73
                        by_cases c86 : t1451 = 10
                        · rw [if_pos c86] at H
                          have c86b0 : (t1451 == 10) = true := beq_iff_eq.mpr c86
                          have c86b1 : (t1451 != 10) = false := bne_eq_false_iff_eq.mpr c86
                          clear c86
                          have H' := Aside0.mk H
                          clear H
                          have hnb87 := NB1356_1407.out
                          have hnc87 := NB1407_1356.out
                          have hnb88 := NB1356_1411.out
                          have hnc88 := NB1411_1356.out
                          have hnb89 := NB1356_1417.out
                          have hnc89 := NB1417_1356.out
                          have hnb90 := NB1356_1448.out
                          have hnc90 := NB1448_1356.out
                          have hnb91 := NB1356_1452.out
                          have hnc91 := NB1452_1356.out
                          have hcz92_0 : w63.cell? ⟨gb1356, 0, none⟩ = some (.int .u64 a0_0) := (blk_cell BK1356.out 0).trans rfl
                          have hcz92_1 : w63.cell? ⟨gb1356, 1, none⟩ = some (.int .u64 a0_1) := (blk_cell BK1356.out 1).trans rfl
                          have hfz92_0 := blk_frozen BK1356.out 0
                          have hfz92_1 := blk_frozen BK1356.out 1
                          have hnb93 := NB1448_1407.out
                          have hnc93 := NB1407_1448.out
                          have hnb94 := NB1448_1411.out
                          have hnc94 := NB1411_1448.out
                          have hnb95 := NB1448_1417.out
                          have hnc95 := NB1417_1448.out
                          have hnb96 := NB1448_1452.out
                          have hnc96 := NB1452_1448.out
                          have hcz97_0 : w63.cell? ⟨gb1448, 0, none⟩ = some (.int .u64 t1444) := (blk_cell BK1448.out 0).trans rfl
                          have hcz97_1 : w63.cell? ⟨gb1448, 1, none⟩ = some (.int .u64 t1445) := (blk_cell BK1448.out 1).trans rfl
                          have hfz97_0 := blk_frozen BK1448.out 0
                          have hfz97_1 := blk_frozen BK1448.out 1
                          go_wp2_with (first | (go_at_call 49; (with_reducible refine (u128_Cmp.calls k a0_0 a0_1 t1444 t1445 t1453 _ A71.out).mono ?_); rintro e w98 ⟨rfl, hb⟩; have n0_ := Aside0.mk (blk_below (g := gb1356) (o := .cells #[.int .u64 a0_0, .int .u64 a0_1] 25 (0, 0)) (by (with_reducible repeat (first | refine blk_drewN ?_ _ | refine blk_drew ?_ | refine blk_alloc ?_ _)); refine blk_far ?_ NB1356_1452.out _; (with_reducible repeat (first | refine blk_drewN ?_ _ | refine blk_drew ?_ | refine blk_alloc ?_ _)); refine blk_far ?_ NB1356_1452.out _; (with_reducible repeat (first | refine blk_drewN ?_ _ | refine blk_drew ?_ | refine blk_alloc ?_ _)); exact BK1356.out) hb); have n1_ := Aside0.mk (blk_below (g := gb1407) (o := .cells #[.int .u64 t1403, .int .u64 t1404] 25 (0, 0)) (by (with_reducible repeat (first | refine blk_drewN ?_ _ | refine blk_drew ?_ | refine blk_alloc ?_ _)); refine blk_far ?_ NB1407_1452.out _; (with_reducible repeat (first | refine blk_drewN ?_ _ | refine blk_drew ?_ | refine blk_alloc ?_ _)); refine blk_far ?_ NB1407_1452.out _; (with_reducible repeat (first | refine blk_drewN ?_ _ | refine blk_drew ?_ | refine blk_alloc ?_ _)); exact BK1407.out) hb); have n2_ := Aside0.mk (blk_below (g := gb1411) (o := .cells #[.int .u64 t1408, .int .u64 t1409] 25 (0, 0)) (by (with_reducible repeat (first | refine blk_drewN ?_ _ | refine blk_drew ?_ | refine blk_alloc ?_ _)); refine blk_far ?_ NB1411_1452.out _; (with_reducible repeat (first | refine blk_drewN ?_ _ | refine blk_drew ?_ | refine blk_alloc ?_ _)); refine blk_far ?_ NB1411_1452.out _; (with_reducible repeat (first | refine blk_drewN ?_ _ | refine blk_drew ?_ | refine blk_alloc ?_ _)); exact BK1411.out) hb); have n3_ := Aside0.mk (blk_below (g := gb1417) (o := .cells #[.int .u64 t1414, .int .u64 t1415] 25 (0, 0)) (by (with_reducible repeat (first | refine blk_drewN ?_ _ | refine blk_drew ?_ | refine blk_alloc ?_ _)); refine blk_far ?_ NB1417_1452.out _; (with_reducible repeat (first | refine blk_drewN ?_ _ | refine blk_drew ?_ | refine blk_alloc ?_ _)); refine blk_far ?_ NB1417_1452.out _; (with_reducible repeat (first | refine blk_drewN ?_ _ | refine blk_drew ?_ | refine blk_alloc ?_ _)); exact BK1417.out) hb); have n4_ := Aside0.mk (blk_below (g := gb1448) (o := .cells #[.int .u64 t1444, .int .u64 t1445] 25 (0, 0)) (by (with_reducible repeat (first | refine blk_drewN ?_ _ | refine blk_drew ?_ | refine blk_alloc ?_ _)); refine blk_far ?_ NB1448_1452.out _; (with_reducible repeat (first | refine blk_drewN ?_ _ | refine blk_drew ?_ | refine blk_alloc ?_ _)); refine blk_far ?_ NB1448_1452.out _; (with_reducible repeat (first | refine blk_drewN ?_ _ | refine blk_drew ?_ | refine blk_alloc ?_ _)); exact BK1448.out) hb); have n5_ := Aside0.mk (blk_below (g := gb1452) (o := .cells #[.int .u64 t1449, .int .u64 t1450] 25 (0, 0)) (by (with_reducible repeat (first | refine blk_drewN ?_ _ | refine blk_drew ?_ | refine blk_alloc ?_ _)); refine blk_put (cs := #[.int .u64 t1449, .int .u64 0]) ?_ 1 _ rfl; (with_reducible repeat (first | refine blk_drewN ?_ _ | refine blk_drew ?_ | refine blk_alloc ?_ _)); refine blk_put (cs := #[.int .u64 0, .int .u64 0]) ?_ 0 _ rfl; (with_reducible repeat (first | refine blk_drewN ?_ _ | refine blk_drew ?_ | refine blk_alloc ?_ _)); exact BK1452.out) hb); have n6_ := Aside0.mk (below_step (by repeat (first | (with_reducible first | exact HB.out | apply below_alloc | apply pw_below_drewN | apply below_drew1 | refine below_set ?_ GE1356.out | refine below_set ?_ GE1407.out | refine below_set ?_ GE1411.out | refine below_set ?_ GE1417.out | refine below_set ?_ GE1448.out | refine below_set ?_ GE1452.out) | exact HB.out)) hb); clear BK1356; clear BK1407; clear BK1411; clear BK1417; clear BK1448; clear BK1452; clear HB; have BK1356 := n0_; have BK1407 := n1_; have BK1411 := n2_; have BK1417 := n3_; have BK1448 := n4_; have BK1452 := n5_; have HB := n6_; clear n0_ n1_ n2_ n3_ n4_ n5_ n6_; (try clear hb); (try clear hb2); (try clear hk); (try clear hi); have hnb99 := NB1452_1407.out; have hnc99 := NB1407_1452.out; have hnb100 := NB1452_1411.out; have hnc100 := NB1411_1452.out; have hnb101 := NB1452_1417.out; have hnc101 := NB1417_1452.out; have hcz102_0 : w98.cell? ⟨gb1452, 0, none⟩ = some (.int .u64 t1449) := (blk_cell BK1452.out 0).trans rfl; have hcz102_1 : w98.cell? ⟨gb1452, 1, none⟩ = some (.int .u64 t1450) := (blk_cell BK1452.out 1).trans rfl; have hfz102_0 := blk_frozen BK1452.out 0; have hfz102_1 := blk_frozen BK1452.out 1))
                          go_meet
                          case rel => exact ⟨_, ((!(t1449 == 0) || (!(t1450 == 0)))), (by first | rfl | (simp; done) | (simp [*]; done)), H', ⟨by first | omega | exact Nat.le_refl _⟩, ⟨by (with_reducible repeat (first | refine blk_drewN ?_ _ | refine blk_drew ?_ | refine blk_alloc ?_ _)); exact BK1356.out⟩, ⟨by (with_reducible repeat (first | refine blk_drewN ?_ _ | refine blk_drew ?_ | refine blk_alloc ?_ _)); exact BK1407.out⟩, ⟨by (with_reducible repeat (first | refine blk_drewN ?_ _ | refine blk_drew ?_ | refine blk_alloc ?_ _)); exact BK1411.out⟩, ⟨by (with_reducible repeat (first | refine blk_drewN ?_ _ | refine blk_drew ?_ | refine blk_alloc ?_ _)); exact BK1417.out⟩, ⟨by (with_reducible repeat (first | refine blk_drewN ?_ _ | refine blk_drew ?_ | refine blk_alloc ?_ _)); exact BK1448.out⟩, ⟨by (with_reducible repeat (first | refine blk_drewN ?_ _ | refine blk_drew ?_ | refine blk_alloc ?_ _)); exact BK1452.out⟩, ⟨by repeat (first | (with_reducible first | exact HB.out | apply below_alloc | apply pw_below_drewN | apply below_drew1 | refine below_set ?_ GE1356.out | refine below_set ?_ GE1407.out | refine below_set ?_ GE1411.out | refine below_set ?_ GE1417.out | refine below_set ?_ GE1448.out | refine below_set ?_ GE1452.out) | exact HB.out)⟩⟩
                        · rw [if_neg c86] at H
                          exact absurd H (by simp)
                  · rw [if_neg c70] at H
                    exact absurd H (by simp)
                case rest =>
                  clear HC27
                  try clear c1
                  try clear p2
                  try clear c3
                  try clear c4
                  try clear c5
                  try clear c6
                  try clear c7
                  try clear c8
                  try clear c9
                  try clear c10
                  try clear c16
                  try clear c33
                  try clear c37
                  try clear c38
                  try clear c45
                  try clear c48
                  try clear c49
                  try clear c50
                  try clear c51
                  try clear c53
                  try clear c56
                  try clear c57
                  try clear c58
                  try clear c59
                  try clear c64
                  try clear c65
                  try clear c66
                  try clear c67
                  try clear c68
                  try clear c70
                  try clear c70b0
                  try clear c70b1
                  try clear c72
                  try clear c72b0
                  try clear c72b1
                  try clear c72b2
                  try clear c73
                  try clear c73b0
                  try clear c73b1
                  try clear c74
                  try clear c75
                  try clear c76
                  try clear c77
                  try clear c78
                  try clear c80
                  try clear c81
                  try clear c82
                  try clear c83
                  try clear c86
                  try clear c86b0
                  try clear c86b1
                  try clear c87
                  try clear c88
                  try clear c89
                  try clear c90
                  try clear c91
                  try clear c93
                  try clear c94
                  try clear c95
                  try clear c96
                  try clear c99
                  try clear c100
                  try clear c101
                  try clear hcz102_0
                  try clear hcz102_1
                  try clear hcz30_0
                  try clear hcz30_1
                  try clear hcz34_0
                  try clear hcz34_1
                  try clear hcz39_0
                  try clear hcz39_1
                  try clear hcz51_0
                  try clear hcz51_1
                  try clear hcz52_0
                  try clear hcz52_1
                  try clear hcz60_0
                  try clear hcz60_1
                  try clear hcz61_0
                  try clear hcz61_1
                  try clear hcz69_0
                  try clear hcz69_1
                  try clear hcz79_0
                  try clear hcz79_1
                  try clear hcz84_0
                  try clear hcz84_1
                  try clear hcz92_0
                  try clear hcz92_1
                  try clear hcz97_0
                  try clear hcz97_1
                  try clear hfz102_0
                  try clear hfz102_1
                  try clear hfz30_0
                  try clear hfz30_1
                  try clear hfz34_0
                  try clear hfz34_1
                  try clear hfz39_0
                  try clear hfz39_1
                  try clear hfz51_0
                  try clear hfz51_1
                  try clear hfz52_0
                  try clear hfz52_1
                  try clear hfz60_0
                  try clear hfz60_1
                  try clear hfz61_0
                  try clear hfz61_1
                  try clear hfz69_0
                  try clear hfz69_1
                  try clear hfz79_0
                  try clear hfz79_1
                  try clear hfz84_0
                  try clear hfz84_1
                  try clear hfz92_0
                  try clear hfz92_1
                  try clear hfz97_0
                  try clear hfz97_1
                  obtain ⟨kq, x115_26, rfl, HA, HJ26, BK1356, BK1407, BK1411, BK1417, BK1448, BK1452, HB⟩ := hcut
                  cases kq with
                  | zero => exact absurd HA.out (by simp [paymasterlaw01_U128Divides.j0])
                  | succ kj26 =>
                    have H := HA.out
                    clear HA
                    simp only [paymasterlaw01_U128Divides.j0] at H
                    by_cases c103 : x115_26 = true
                    · subst c103
                      have H1 : (none) = some r := by rw [if_pos rfl] at H; exact H
                      clear H
                      have H := H1
                      clear H1
                      exact absurd H (by simp)
                    · replace c103 := Bool.eq_false_iff.mpr c103
                      subst c103
                      have H1 : (if t1451 = 0 then ((u128_Over.f t1449 t1450 a1).bind fun bt1459 => (if bt1459.2.2.2 = 0 then (if (bt1459.1 == a0_0 && (bt1459.2.1 == a0_1)) = true then (some (bt1459.2.2.1 == 0)) else (none)) else (none))) else (some true)) = some r := by rw [if_neg (show ¬ (false = true) by decide)] at H; exact H
                      clear H
                      have H := H1
                      clear H1
                      by_cases c104 : t1451 = 0
                      · rw [if_pos c104] at H
                        have c104b0 : (t1451 == 0) = true := beq_iff_eq.mpr c104
                        have c104b1 : (t1451 != 0) = false := bne_eq_false_iff_eq.mpr c104
                        clear c104
                        replace H := Option.bind_eq_some_iff.mp H
                        obtain ⟨⟨t1459, t1460, t1461, t1462⟩, A1050, H⟩ := H
                        replace H : (if t1462 = 0 then (if (t1459 == a0_0 && (t1460 == a0_1)) = true then (some (t1461 == 0)) else (none)) else (none)) = some r := H
                        have A105 := Aside0.mk A1050
                        clear A1050
                        by_cases c106 : t1462 = 0
                        · rw [if_pos c106] at H
                          have c106b0 : (t1462 == 0) = true := beq_iff_eq.mpr c106
                          have c106b1 : (t1462 != 0) = false := bne_eq_false_iff_eq.mpr c106
                          clear c106
                          by_cases c107 : (t1459 == a0_0 && (t1460 == a0_1)) = true
                          · rw [if_pos c107] at H
                            have c107b0 : (t1459 == a0_0 && (t1460 == a0_1)) = true := c107
                            (try (have c107b1 : decide (t1459 = a0_0 && (t1460 == a0_1)) = true := by simpa using c107))
                            (try (have c107b2 : (t1459 == a0_0 && (t1460 == a0_1)) = true := by simpa using c107))
                            clear c107
                            obtain rfl := Option.some.inj H
                            have hnb108 := NB1452_1356.out
                            have hnc108 := NB1356_1452.out
                            have hnb109 := NB1452_1407.out
                            have hnc109 := NB1407_1452.out
                            have hnb110 := NB1452_1411.out
                            have hnc110 := NB1411_1452.out
                            have hnb111 := NB1452_1417.out
                            have hnc111 := NB1417_1452.out
                            have hnb112 := NB1452_1448.out
                            have hnc112 := NB1448_1452.out
                            have hcz113_0 : wc.cell? ⟨gb1452, 0, none⟩ = some (.int .u64 t1449) := (blk_cell BK1452.out 0).trans rfl
                            have hcz113_1 : wc.cell? ⟨gb1452, 1, none⟩ = some (.int .u64 t1450) := (blk_cell BK1452.out 1).trans rfl
                            have hfz113_0 := blk_frozen BK1452.out 0
                            have hfz113_1 := blk_frozen BK1452.out 1
                            go_wp2_with (first | ((with_reducible refine gate_callee (f := 58) rfl ?_); refine goesL_ (some 121) rfl rfl Try.func58 (by kernel_rfl) rfl #[.agg #[.int .u64 t1449, .int .u64 t1450], .int .u64 a1] rfl (by (try simp only [List.map_toArray, List.map_cons, List.map_nil]); first | done | rfl | (simp only [List.length_drop, List.length_take]; rfl)) ?_; (with_reducible refine (u128_Over.calls t1449 t1450 a1 t1459 t1460 t1461 t1462 _ A105.out).mono ?_); rintro e w114 ⟨rfl, hb⟩; refine ⟨_, rfl, ?_⟩; have n0_ := Aside0.mk (blk_below (g := gb1356) (o := .cells #[.int .u64 a0_0, .int .u64 a0_1] 25 (0, 0)) (by (with_reducible repeat (first | refine blk_drewN ?_ _ | refine blk_drew ?_ | refine blk_alloc ?_ _)); exact BK1356.out) hb); have n1_ := Aside0.mk (blk_below (g := gb1407) (o := .cells #[.int .u64 t1403, .int .u64 t1404] 25 (0, 0)) (by (with_reducible repeat (first | refine blk_drewN ?_ _ | refine blk_drew ?_ | refine blk_alloc ?_ _)); exact BK1407.out) hb); have n2_ := Aside0.mk (blk_below (g := gb1411) (o := .cells #[.int .u64 t1408, .int .u64 t1409] 25 (0, 0)) (by (with_reducible repeat (first | refine blk_drewN ?_ _ | refine blk_drew ?_ | refine blk_alloc ?_ _)); exact BK1411.out) hb); have n3_ := Aside0.mk (blk_below (g := gb1417) (o := .cells #[.int .u64 t1414, .int .u64 t1415] 25 (0, 0)) (by (with_reducible repeat (first | refine blk_drewN ?_ _ | refine blk_drew ?_ | refine blk_alloc ?_ _)); exact BK1417.out) hb); have n4_ := Aside0.mk (blk_below (g := gb1448) (o := .cells #[.int .u64 t1444, .int .u64 t1445] 25 (0, 0)) (by (with_reducible repeat (first | refine blk_drewN ?_ _ | refine blk_drew ?_ | refine blk_alloc ?_ _)); exact BK1448.out) hb); have n5_ := Aside0.mk (blk_below (g := gb1452) (o := .cells #[.int .u64 t1449, .int .u64 t1450] 25 (0, 0)) (by (with_reducible repeat (first | refine blk_drewN ?_ _ | refine blk_drew ?_ | refine blk_alloc ?_ _)); exact BK1452.out) hb); have n6_ := Aside0.mk (below_step (by repeat (first | (with_reducible first | exact HB.out | apply below_alloc | apply pw_below_drewN | apply below_drew1 | refine below_set ?_ GE1356.out | refine below_set ?_ GE1407.out | refine below_set ?_ GE1411.out | refine below_set ?_ GE1417.out | refine below_set ?_ GE1448.out | refine below_set ?_ GE1452.out) | exact HB.out)) hb); clear BK1356; clear BK1407; clear BK1411; clear BK1417; clear BK1448; clear BK1452; clear HB; have BK1356 := n0_; have BK1407 := n1_; have BK1411 := n2_; have BK1417 := n3_; have BK1448 := n4_; have BK1452 := n5_; have HB := n6_; clear n0_ n1_ n2_ n3_ n4_ n5_ n6_; (try clear hb); (try clear hb2); (try clear hk); (try clear hi)) | ((with_reducible refine gate_dst (N := 19) rfl ?_); refine box_event ?hg (N := 19) ?hd (cs := #[.int .u64 0, .int .u64 0]) (t := 25) ?hr ?_; (case hd => rfl); (case hg => rfl); (case hr => first | (go_simp; done) | (go_simp; rfl)); intro gb1463 hg w115 hbox hb; have n0_ := Aside0.mk (blk_below (g := gb1356) (o := .cells #[.int .u64 a0_0, .int .u64 a0_1] 25 (0, 0)) (by (with_reducible repeat (first | refine blk_drewN ?_ _ | refine blk_drew ?_ | refine blk_alloc ?_ _)); exact BK1356.out) hb); have n1_ := Aside0.mk (blk_below (g := gb1407) (o := .cells #[.int .u64 t1403, .int .u64 t1404] 25 (0, 0)) (by (with_reducible repeat (first | refine blk_drewN ?_ _ | refine blk_drew ?_ | refine blk_alloc ?_ _)); exact BK1407.out) hb); have n2_ := Aside0.mk (blk_below (g := gb1411) (o := .cells #[.int .u64 t1408, .int .u64 t1409] 25 (0, 0)) (by (with_reducible repeat (first | refine blk_drewN ?_ _ | refine blk_drew ?_ | refine blk_alloc ?_ _)); exact BK1411.out) hb); have n3_ := Aside0.mk (blk_below (g := gb1417) (o := .cells #[.int .u64 t1414, .int .u64 t1415] 25 (0, 0)) (by (with_reducible repeat (first | refine blk_drewN ?_ _ | refine blk_drew ?_ | refine blk_alloc ?_ _)); exact BK1417.out) hb); have n4_ := Aside0.mk (blk_below (g := gb1448) (o := .cells #[.int .u64 t1444, .int .u64 t1445] 25 (0, 0)) (by (with_reducible repeat (first | refine blk_drewN ?_ _ | refine blk_drew ?_ | refine blk_alloc ?_ _)); exact BK1448.out) hb); have n5_ := Aside0.mk (blk_below (g := gb1452) (o := .cells #[.int .u64 t1449, .int .u64 t1450] 25 (0, 0)) (by (with_reducible repeat (first | refine blk_drewN ?_ _ | refine blk_drew ?_ | refine blk_alloc ?_ _)); exact BK1452.out) hb); have n6_ := Aside0.mk (below_step (by repeat (first | (with_reducible first | exact HB.out | apply below_alloc | apply pw_below_drewN | apply below_drew1 | refine below_set ?_ GE1356.out | refine below_set ?_ GE1407.out | refine below_set ?_ GE1411.out | refine below_set ?_ GE1417.out | refine below_set ?_ GE1448.out | refine below_set ?_ GE1452.out) | exact HB.out)) hb); have n7_ := Aside0.mk (hbox); have n8_ := Aside0.mk ((by rw [hg]; exact (below_size (by repeat (first | (with_reducible first | exact HB.out | apply below_alloc | apply pw_below_drewN | apply below_drew1 | refine below_set ?_ GE1356.out | refine below_set ?_ GE1407.out | refine below_set ?_ GE1411.out | refine below_set ?_ GE1417.out | refine below_set ?_ GE1448.out | refine below_set ?_ GE1452.out) | exact HB.out))) : w.heap.size ≤ gb1463)); have n9_ := Aside0.mk ((by rw [hg]; exact (below_size (by repeat (first | (with_reducible first | exact HB.out | apply below_alloc | apply pw_below_drewN | apply below_drew1 | refine below_set ?_ GE1356.out | refine below_set ?_ GE1407.out | refine below_set ?_ GE1411.out | refine below_set ?_ GE1417.out | refine below_set ?_ GE1448.out | refine below_set ?_ GE1452.out) | exact HB.out))) : w.heap.size ≤ gb1463)); have n10_ := Aside0.mk ((by rw [hg]; exact Nat.ne_of_lt (blk_lt (g := gb1356) (o := .cells #[.int .u64 a0_0, .int .u64 a0_1] 25 (0, 0)) (by (with_reducible repeat (first | refine blk_drewN ?_ _ | refine blk_drew ?_ | refine blk_alloc ?_ _)); exact BK1356.out)) : gb1356 ≠ gb1463)); have n11_ := Aside0.mk ((by rw [hg]; exact Nat.ne_of_gt (blk_lt (g := gb1356) (o := .cells #[.int .u64 a0_0, .int .u64 a0_1] 25 (0, 0)) (by (with_reducible repeat (first | refine blk_drewN ?_ _ | refine blk_drew ?_ | refine blk_alloc ?_ _)); exact BK1356.out)) : gb1463 ≠ gb1356)); have n12_ := Aside0.mk ((by rw [hg]; exact Nat.ne_of_lt (blk_lt (g := gb1407) (o := .cells #[.int .u64 t1403, .int .u64 t1404] 25 (0, 0)) (by (with_reducible repeat (first | refine blk_drewN ?_ _ | refine blk_drew ?_ | refine blk_alloc ?_ _)); exact BK1407.out)) : gb1407 ≠ gb1463)); have n13_ := Aside0.mk ((by rw [hg]; exact Nat.ne_of_gt (blk_lt (g := gb1407) (o := .cells #[.int .u64 t1403, .int .u64 t1404] 25 (0, 0)) (by (with_reducible repeat (first | refine blk_drewN ?_ _ | refine blk_drew ?_ | refine blk_alloc ?_ _)); exact BK1407.out)) : gb1463 ≠ gb1407)); have n14_ := Aside0.mk ((by rw [hg]; exact Nat.ne_of_lt (blk_lt (g := gb1411) (o := .cells #[.int .u64 t1408, .int .u64 t1409] 25 (0, 0)) (by (with_reducible repeat (first | refine blk_drewN ?_ _ | refine blk_drew ?_ | refine blk_alloc ?_ _)); exact BK1411.out)) : gb1411 ≠ gb1463)); have n15_ := Aside0.mk ((by rw [hg]; exact Nat.ne_of_gt (blk_lt (g := gb1411) (o := .cells #[.int .u64 t1408, .int .u64 t1409] 25 (0, 0)) (by (with_reducible repeat (first | refine blk_drewN ?_ _ | refine blk_drew ?_ | refine blk_alloc ?_ _)); exact BK1411.out)) : gb1463 ≠ gb1411)); have n16_ := Aside0.mk ((by rw [hg]; exact Nat.ne_of_lt (blk_lt (g := gb1417) (o := .cells #[.int .u64 t1414, .int .u64 t1415] 25 (0, 0)) (by (with_reducible repeat (first | refine blk_drewN ?_ _ | refine blk_drew ?_ | refine blk_alloc ?_ _)); exact BK1417.out)) : gb1417 ≠ gb1463)); have n17_ := Aside0.mk ((by rw [hg]; exact Nat.ne_of_gt (blk_lt (g := gb1417) (o := .cells #[.int .u64 t1414, .int .u64 t1415] 25 (0, 0)) (by (with_reducible repeat (first | refine blk_drewN ?_ _ | refine blk_drew ?_ | refine blk_alloc ?_ _)); exact BK1417.out)) : gb1463 ≠ gb1417)); have n18_ := Aside0.mk ((by rw [hg]; exact Nat.ne_of_lt (blk_lt (g := gb1448) (o := .cells #[.int .u64 t1444, .int .u64 t1445] 25 (0, 0)) (by (with_reducible repeat (first | refine blk_drewN ?_ _ | refine blk_drew ?_ | refine blk_alloc ?_ _)); exact BK1448.out)) : gb1448 ≠ gb1463)); have n19_ := Aside0.mk ((by rw [hg]; exact Nat.ne_of_gt (blk_lt (g := gb1448) (o := .cells #[.int .u64 t1444, .int .u64 t1445] 25 (0, 0)) (by (with_reducible repeat (first | refine blk_drewN ?_ _ | refine blk_drew ?_ | refine blk_alloc ?_ _)); exact BK1448.out)) : gb1463 ≠ gb1448)); have n20_ := Aside0.mk ((by rw [hg]; exact Nat.ne_of_lt (blk_lt (g := gb1452) (o := .cells #[.int .u64 t1449, .int .u64 t1450] 25 (0, 0)) (by (with_reducible repeat (first | refine blk_drewN ?_ _ | refine blk_drew ?_ | refine blk_alloc ?_ _)); exact BK1452.out)) : gb1452 ≠ gb1463)); have n21_ := Aside0.mk ((by rw [hg]; exact Nat.ne_of_gt (blk_lt (g := gb1452) (o := .cells #[.int .u64 t1449, .int .u64 t1450] 25 (0, 0)) (by (with_reducible repeat (first | refine blk_drewN ?_ _ | refine blk_drew ?_ | refine blk_alloc ?_ _)); exact BK1452.out)) : gb1463 ≠ gb1452)); clear BK1356; clear BK1407; clear BK1411; clear BK1417; clear BK1448; clear BK1452; clear HB; have BK1356 := n0_; have BK1407 := n1_; have BK1411 := n2_; have BK1417 := n3_; have BK1448 := n4_; have BK1452 := n5_; have HB := n6_; have BK1463 := n7_; have GW1463 := n8_; have GE1463 := n9_; have NB1356_1463 := n10_; have NB1463_1356 := n11_; have NB1407_1463 := n12_; have NB1463_1407 := n13_; have NB1411_1463 := n14_; have NB1463_1411 := n15_; have NB1417_1463 := n16_; have NB1463_1417 := n17_; have NB1448_1463 := n18_; have NB1463_1448 := n19_; have NB1452_1463 := n20_; have NB1463_1452 := n21_; clear n0_ n1_ n2_ n3_ n4_ n5_ n6_ n7_ n8_ n9_ n10_ n11_ n12_ n13_ n14_ n15_ n16_ n17_ n18_ n19_ n20_ n21_; clear hb hbox hg; have hnb116 := NB1463_1356.out; have hnc116 := NB1356_1463.out; have hnb117 := NB1463_1407.out; have hnc117 := NB1407_1463.out; have hnb118 := NB1463_1411.out; have hnc118 := NB1411_1463.out; have hnb119 := NB1463_1417.out; have hnc119 := NB1417_1463.out; have hnb120 := NB1463_1448.out; have hnc120 := NB1448_1463.out; have hnb121 := NB1463_1452.out; have hnc121 := NB1452_1463.out; have hcz122_0 : w115.cell? ⟨gb1463, 0, none⟩ = some (.int .u64 0) := (blk_cell BK1463.out 0).trans rfl; have hcz122_1 : w115.cell? ⟨gb1463, 1, none⟩ = some (.int .u64 0) := (blk_cell BK1463.out 1).trans rfl; have hfz122_0 := blk_frozen BK1463.out 0; have hfz122_1 := blk_frozen BK1463.out 1; have hnb123 := NB1356_1407.out; have hnc123 := NB1407_1356.out; have hnb124 := NB1356_1411.out; have hnc124 := NB1411_1356.out; have hnb125 := NB1356_1417.out; have hnc125 := NB1417_1356.out; have hnb126 := NB1356_1448.out; have hnc126 := NB1448_1356.out; have hcz127_0 : w115.cell? ⟨gb1356, 0, none⟩ = some (.int .u64 a0_0) := (blk_cell BK1356.out 0).trans rfl; have hcz127_1 : w115.cell? ⟨gb1356, 1, none⟩ = some (.int .u64 a0_1) := (blk_cell BK1356.out 1).trans rfl; have hfz127_0 := blk_frozen BK1356.out 0; have hfz127_1 := blk_frozen BK1356.out 1))
                            go_ret
                            exact ⟨by first | rfl | (simp [errW_none, errW_some] <;> rfl) | (simp [*, errW_none, errW_some] <;> rfl), by repeat (first | (with_reducible first | exact HB.out | apply below_alloc | apply pw_below_drewN | apply below_drew1 | refine below_set ?_ GE1356.out | refine below_set ?_ GE1407.out | refine below_set ?_ GE1411.out | refine below_set ?_ GE1417.out | refine below_set ?_ GE1448.out | refine below_set ?_ GE1452.out | refine below_set ?_ GE1463.out) | exact HB.out)⟩
                          · rw [if_neg c107] at H
                            exact absurd H (by simp)
                        · rw [if_neg c106] at H
                          exact absurd H (by simp)
                      · rw [if_neg c104] at H
                        have c104b0 : (t1451 == 0) = false := beq_eq_false_iff_ne.mpr c104
                        have c104b1 : (t1451 != 0) = true := bne_iff_ne.mpr c104
                        obtain rfl := Option.some.inj H
                        go_wp2
                        go_ret
                        exact ⟨by first | rfl | (simp [errW_none, errW_some] <;> rfl) | (simp [*, errW_none, errW_some] <;> rfl), by repeat (first | (with_reducible first | exact HB.out | apply below_alloc | apply pw_below_drewN | apply below_drew1 | refine below_set ?_ GE1356.out | refine below_set ?_ GE1407.out | refine below_set ?_ GE1411.out | refine below_set ?_ GE1417.out | refine below_set ?_ GE1448.out | refine below_set ?_ GE1452.out) | exact HB.out)⟩
          · rw [if_neg c21] at H
            exact absurd H (by simp)
        · rw [if_neg c20] at H
          exact absurd H (by simp)
      · rw [if_neg c19] at H
        exact absurd H (by simp)
  · replace c4 := Bool.eq_false_iff.mpr c4
    subst c4
    have H1 : (none) = some r := by rw [if_neg (show ¬ (false = true) by decide)] at H; exact H
    clear H
    have H := H1
    clear H1
    exact absurd H (by simp)
end Go.Proofs.Ytpkjpiphjdpegaa.P
namespace Go.Proofs.Ytpkjpiphjdpegaa.P
open Go.RowKit Go.Proofs.YtpkjpiphjdpegaaW.PrintWords Go.Proofs.YtpkjpiphjdpegaaW.PrintLast Go.Proofs.YtpkjpiphjdpegaaW.PrintMore
set_option linter.unusedVariables false
set_option linter.unusedSimpArgs false
theorem awake1' : paymasterlaw01_awake.f = some true := by decide +kernel
theorem u128Divides_pure (a b n : Int) (ha : U64 a) (hb : U64 b) (hn : U64 n) : paymasterlaw01_U128Divides.f 20 a b n = some true := by
  have va := val_range a b ha hb
  unfold paymasterlaw01_U128Divides.f
  rw [awake1']
  simp only [Option.bind_some, u128_Most.f, u128_Of.f]
  rw [if_pos trivial]
  by_cases h : n = 0
  · subst h
    rw [if_pos rfl, times_num a b 0 ha hb hn, Int.mul_zero, if_pos (by unfold m128; omega)]
    rfl
  rw [if_neg h]
  have hp : 0 < n := by have := hn.1; omega
  have q0 := Int.ediv_nonneg va.1 hn.1
  have q1 : val a b / n ≤ val a b := Int.ediv_le_self _ va.1
  have r0 := Int.emod_nonneg (val a b) h
  have r1 := Int.emod_lt_of_pos (val a b) hp
  have e := Int.ediv_mul_add_emod (val a b) n
  obtain ⟨u1, u2⟩ := u_hiOf (val a b / n) q0 (by omega)
  have hr : U64 (val a b % n) := ⟨r0, by have := hn.2; omega⟩
  have p0 : 0 ≤ val a b / n * n := Int.mul_nonneg q0 hn.1
  rw [over_num a b n ha hb hn h]
  simp only [Option.bind_some]
  rw [times_num _ _ n u1 u2 hn, val_halves, if_pos (by omega)]
  simp only [Option.bind_some]
  obtain ⟨w1, w2⟩ := u_hiOf (val a b / n * n) p0 (by omega)
  rw [add_num _ _ _ _ w1 w2 u0 hr, val_halves, small_val, e, if_pos va.2, hiOf_val a b hb, loOf_val a b hb]
  simp only [Option.bind_some]
  rw [if_pos trivial, if_pos trivial, if_pos trivial, if_neg (by omega), if_neg (by simp), over_num _ _ n most_u most_u hn h, most_val]
  simp only [Option.bind_some]
  have m0 : 0 ≤ (m128 - 1) / n := Int.ediv_nonneg (by unfold m128; omega) hn.1
  have m1 : (m128 - 1) / n ≤ m128 - 1 := Int.ediv_le_self _ (by unfold m128; omega)
  obtain ⟨x1, x2⟩ := u_hiOf ((m128 - 1) / n) m0 (by omega)
  have cm : u128_Cmp.f 20 a b (hiOf ((m128 - 1) / n)) (loOf ((m128 - 1) / n)) = some (cmpI (val a b) ((m128 - 1) / n)) := by
    have := u128_Cmp_is 17 a b _ _ ha hb x1 x2
    rw [val_halves] at this
    exact this
  have X0 : 0 ≤ val a b * n := Int.mul_nonneg va.1 hn.1
  rw [times_num a b n ha hb hn]
  by_cases g : val a b * n < m128
  · have g' : cmpI (val a b) ((m128 - 1) / n) ≤ 0 := (cmpI_le0 _ _).2 (Int.le_ediv_of_mul_le hp (by omega))
    obtain ⟨z1, z2⟩ := u_hiOf (val a b * n) X0 g
    rw [if_pos g]
    simp only [Option.bind_some]
    rw [if_pos trivial, cm]
    simp only [Option.bind_some]
    rw [decide_eq_true g', if_neg (by simp), if_pos trivial, show (20 : Nat) = 19 + 1 from rfl, paymasterlaw01_U128Divides.j0, if_neg (by simp), if_pos rfl, over_num _ _ n z1 z2 hn h, val_halves, Int.mul_ediv_cancel _ h, Int.mul_emod_left, hiOf_val a b hb, loOf_val a b hb]
    simp
  · have g' : ¬ cmpI (val a b) ((m128 - 1) / n) ≤ 0 := by
      intro q
      have q' := (cmpI_le0 _ _).1 q
      have t := Int.mul_le_mul_of_nonneg_right q' hn.1
      have t' := Int.ediv_mul_le (m128 - 1) h
      omega
    rw [if_neg g]
    simp only [Option.bind_some]
    rw [if_pos trivial, cm]
    simp only [Option.bind_some]
    rw [decide_eq_false g', if_neg (by simp), if_neg (by omega), if_pos trivial, show (!((0 : Int) == 0) || !((0 : Int) == 0)) = false from rfl, show (20 : Nat) = 19 + 1 from rfl, paymasterlaw01_U128Divides.j0, if_neg (by simp), if_neg (by omega)]
theorem u128Divides_walk {w : World} (a b : Int) (ha : U64 a) (hb : U64 b) (n : Int) (hn : (Lit.int .u64 n).wf = true) :
    Calls Try.prog 16 #[.agg #[.int .u64 a, .int .u64 b], .int .u64 n] w fun e w' => e = .returned (.bool true) ∧ Below w.heap.size w w' :=
  paymasterlaw01_U128Divides.calls 20 a b n true w (u128Divides_pure a b n ha hb (lit_u64 hn))
end Go.Proofs.Ytpkjpiphjdpegaa.P
namespace Go.Proofs.Ytpkjpiphjdpegaa.u128Divides
open Go.ChangeShapes Go.WideShapes Go.ChangeAt Go.RowKit Go.Proofs.Ytpkjpiphjdpegaa.P
open Go.ChangeMaps (open_string shut_string)
set_option linter.unusedVariables false
theorem own : ownKnob Try.prog.godebug = none := by kernel_rfl
theorem laidOut : laidOutB Try.prog = true := by kernel_rfl
set_option maxRecDepth 100000 in
theorem lifted (os : Os) (started : os.Started) (H : Type) (enc : TypeId × Value → H) :
    ReturnsInHanded {} Try.checked os 16 .any (Rows.u128DividesSpec.pre6 enc Try.prog Try.f16 Rows.u128DividesRow.domain false) (Rows.u128DividesSpec.post enc Try.prog Try.f16 false true false false) := by
  refine returnsInHanded_of_change_sized (C := Try.checked) own started (by kernel_rfl) Try.func16
    (ChangeSpec.witness6 (enc := enc) (C := Try.checked) false ⟨#[], #[.agg #[.int .u64 0, .int .u64 0], .int .u64 0], []⟩ 8 (by kernel_rfl) (by kernel_rfl) (by kernel_rfl) (by kernel_rfl)) ?_
  intro W base args ds gs before hval0 hW hcnd hsz0 _
  have hval : ∀ (j : Nat) t v, Try.f16.params[j]? = some t → args[j]? = some v → Value.okWide Try.prog W .any base t v := hval0
  have hW' := hW
  obtain ⟨p, q, hA0, hV, rfl, hfz, hnd⟩ := hW
  have hA : DataW.TrodAll enc Try.prog W 0 (fun _ => true) true Try.f16.params.toList args.toList ds p := hA0
  rw [Try.params16] at hA hval
  have hAll := hA
  obtain ⟨v0, vs0, d0, ds0, p0, q0, hargs, rfl, rfl, h0, r0⟩ := trodAll_cons hA
  obtain ⟨v1, vs1, d1, ds1, p1, q1, rfl, rfl, rfl, h1, r1⟩ := trodAll_cons r0
  obtain ⟨rfl, rfl, rfl⟩ := trodAll_nil r1
  obtain rfl : args = #[v0, v1] := by cases args; simp_all
  obtain ⟨rfl, rfl⟩ := trodVars_none hV
  obtain ⟨a0_0, a0_1, rfl, g0_0, g0_1⟩ := arg_25 (hval 0 25 v0 rfl rfl) h0
  obtain ⟨a1, rfl, g1⟩ := arg_int Try.underlying23 (hval 1 23 v1 rfl rfl) h1
  clear hA0 hval0 hsz0
  refine (u128Divides_walk (w := W) a0_0 a0_1 g0_0 g0_1 a1 g1).mono fun e W' ⟨he, bel⟩ => ?_
  subst he
  exact ⟨_, rfl, _, _, _, [], _, [], hW', trodAll_mk1 (shut_bool Try.underlying4 _), args_back laidOut bel (by kernel_rfl) hAll, rfl, bel.frame _, fun h => by cases h⟩
theorem both {a b : Bool} (h : a = true) (k : b = true) : (a && b) = true := by rw [h, k]; rfl
theorem c0 : (Rows.u128DividesRow.wf (OpenSpec.ofChange Rows.u128DividesSpec)) = true := by kernel_rfl
theorem c1 : (laidOutB Try.prog) = true := by kernel_rfl
theorem c2 : (mapsRowed Try.prog) = true := by kernel_rfl
theorem c3 : (Try.f16.params.all (Try.prog.readableRec ·)) = true := by kernel_rfl
theorem c4 : (namedTie Try.prog Rows.u128DividesRow.named Rows.u128DividesSpec.vars) = true := by kernel_rfl
theorem c5 : ((Rows.u128DividesRow.stops == [])) = true := by kernel_rfl
theorem c6 : ((Try.prog.stops == [])) = true := by kernel_rfl
theorem c7 : ((Rows.u128DividesRow.knobs == [])) = true := by kernel_rfl
theorem c8 : ((Try.prog.stopKnobs == [])) = true := by kernel_rfl
theorem c9 : ((Rows.u128DividesRow.inPlace == Try.prog.inPlace 16)) = true := by kernel_rfl
theorem c10 : ((Rows.u128DividesRow.unfollowed == Try.prog.unfollowed 16)) = true := by kernel_rfl
theorem c11 : ((Rows.u128DividesRow.recurses == Try.prog.recurses 16)) = true := by kernel_rfl
theorem c12 : ((Rows.u128DividesRow.named == Try.prog.varsNamed 16)) = true := by kernel_rfl
theorem c13 : ((Rows.u128DividesRow.maps == (Try.f16.params.toList ++ Rows.u128DividesSpec.plain.varTypes Try.prog).any (Try.prog.mapsRec ·))) = true := by kernel_rfl
theorem c14 : ((Rows.u128DividesRow.ifaces == (Try.f16.params.toList ++ Rows.u128DividesSpec.plain.varTypes Try.prog).any (Try.prog.ifacesRec ·))) = true := by kernel_rfl
theorem c15 : ((Rows.u128DividesRow.mapsOut == Try.prog.mapsAmong Try.f16.resultTypes.toList)) = true := by kernel_rfl
theorem c16 : ((Rows.u128DividesRow.loops == (Try.f16.params.toList ++ Rows.u128DividesSpec.plain.varTypes Try.prog).any (Try.prog.loopsFrom ·))) = true := by kernel_rfl
theorem c17 : ((Rows.u128DividesRow.wideKeys == (Try.f16.params.toList ++ Rows.u128DividesSpec.plain.varTypes Try.prog ++ Try.f16.resultTypes.toList).any (Try.prog.wideKeysFrom ·))) = true := by kernel_rfl
theorem c18 : (Rows.u128DividesSpec.vars.all (Try.prog.varReadable ·)) = true := by kernel_rfl
theorem c19 : (Try.f16.resultTypes.all (fun t => Try.prog.readableRec t && decide (t < Try.prog.types.size))) = true := by kernel_rfl
theorem c20 : ((Rows.u128DividesRow.ifacesOut == Try.f16.resultTypes.toList.any (Try.prog.ifacesRec ·))) = true := by kernel_rfl
theorem c21 : ((Rows.u128DividesRow.loopsOut == Try.f16.resultTypes.toList.any (Try.prog.loopsFrom ·))) = true := by kernel_rfl
theorem c22 : ((Rows.u128DividesRow.plainKeys == Try.prog.plainKeys)) = true := by kernel_rfl
theorem c23 : (Rows.u128DividesRow.shortTexts.isNone) = true := by kernel_rfl
theorem c24 : (Try.prog.stopsHeard) = true := by kernel_rfl
theorem c25 : (Try.prog.mayEnter) = true := Facts.mayEnter
theorem c26 : ((Rows.u128DividesRow.lifted == Try.prog.liftsFinal)) = true := by rw [Facts.liftsFinal]; kernel_rfl
theorem c27 : ((Try.prog.make == some Rows.u128DividesRow.make)) = true := by rw [Facts.make]; kernel_rfl
theorem c28 : ((Rows.u128DividesRow.kinds == (if Rows.u128DividesRow.domain.isEmpty then [] else Try.f16.params.toList.map fun t => match Try.prog.underlying t with | some (.int k) => some k | _ => none))) = true := by kernel_rfl
theorem c29 : ((Rows.u128DividesRow.pinned == Rows.u128DividesRow.pinnedBy)) = true := by kernel_rfl
theorem c30 : ((Rows.u128DividesRow.veiled == (Try.f16.params.toList ++ Rows.u128DividesSpec.plain.varTypes Try.prog ++ Try.f16.resultTypes.toList).any (Try.prog.veiledRec ·))) = true := by kernel_rfl
theorem c31 : (Rows.u128DividesRow.veiledFits Try.prog Try.f16.params.toList (Try.f16.params.toList ++ Rows.u128DividesSpec.plain.varTypes Try.prog ++ Try.f16.resultTypes.toList)) = true := by kernel_rfl
set_option maxRecDepth 100000 in
theorem closed : joinedFacts Try.prog 16 Try.f16 Rows.u128DividesSpec Rows.u128DividesRow = true := by
  unfold joinedFacts
  exact both (both (both (both (both (both (both (both (both (both (both (both (both (both (both (both (both (both (both (both (both (both (both (both (both (both (both (both (both (both (both (c0) c1) c2) c3) c4) c5) c6) c7) c8) c9) c10) c11) c12) c13) c14) c15) c16) c17) c18) c19) c20) c21) c22) c23) c24) c25) c26) c27) c28) c29) c30) c31
theorem over : Rows.u128DividesRow.holds Try.pinned (OpenSpec.ofChange Rows.u128DividesSpec) :=
  OpenClaim.holds_of_wide 16 Try.f16 rfl rfl rfl rfl rfl rfl rfl ⟨rfl, rfl, rfl, rfl, rfl⟩ rfl rfl rfl rfl rfl (by kernel_rfl) Try.func16 closed
    (of_decide_eq_true (by kernel_rfl)) (by unfold Func.isWrapper; first | (rw [if_pos (by decide +kernel)]; kernel_rfl) | (rw [if_neg (by decide +kernel)]; exact ⟨rfl, rfl⟩))
    (fun os started H enc _ => lifted os started H enc)
end Go.Proofs.Ytpkjpiphjdpegaa.u128Divides
namespace Go.Proofs.Ytpkjpiphjdpegaa
theorem u128Divides_holds : Rows.U128DividesSaid := u128Divides.over
end Go.Proofs.Ytpkjpiphjdpegaa
