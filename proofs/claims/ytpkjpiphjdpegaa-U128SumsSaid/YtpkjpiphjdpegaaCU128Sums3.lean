/- A program of this session wrote this text out of the session's own texts. (part 3 of 3) -/
import Derived.Test.YtpkjpiphjdpegaaCU128Sums2
namespace Go.Proofs.Ytpkjpiphjdpegaa.P
open Go.RowKit Go.Proofs.YtpkjpiphjdpegaaW.PrintWords Go.Proofs.YtpkjpiphjdpegaaW.PrintLast Go.Proofs.YtpkjpiphjdpegaaW.PrintMore
attribute [local go_sem] max2_int min2_int max_two min_two max_three min_three max_four min_four
set_option linter.unusedVariables false
set_option linter.unusedSimpArgs false
attribute [local go_sem high] eqA25
def paymasterlaw01_awake.f  : Option (Bool) := (u128_Of.f 1).bind fun bt1048 => ((u128_Add.f 0 18446744073709551615 bt1048.1 bt1048.2).bind fun bt1050 => ((u128_Most.f).bind fun bt1054 => ((u128_Of.f 1).bind fun bt1056 => ((u128_Add.f bt1054.1 bt1054.2 bt1056.1 bt1056.2).bind fun bt1058 => ((u128_Of.f 1).bind fun bt1062 => ((u128_Of.f 2).bind fun bt1064 => ((u128_Sub.f bt1062.1 bt1062.2 bt1064.1 bt1064.2).bind fun bt1066 => ((u128_Over.f 1 3 10).bind fun bt1070 => ((u128_Of.f 1).bind fun bt1075 => ((u128_Over.f bt1075.1 bt1075.2 0).bind fun bt1077 => (if (bt1050.1 == 1 && (bt1050.2.1 == 0)) = true then (if bt1050.2.2 = 0 then (if bt1058.2.2 = 10 then (if bt1066.2.2 = 10 then ((u128_Of.f 1844674407370955161).bind fun bt1082 => (if (bt1070.1 == bt1082.1 && (bt1070.2.1 == bt1082.2)) = true then (if bt1070.2.2.1 = 9 then (if bt1070.2.2.2 = 0 then (if bt1077.2.2.2 = 2 then ((u128_Bytes.f 1 258).bind fun t1084 => (some (t1084.toList == ([0, 0, 0, 0, 0, 0, 0, 1, 0, 0, 0, 0, 0, 0, 1, 2] : List UInt8)))) else (none)) else (none)) else (none)) else (none))) else (none)) else (none)) else (none)) else (none))))))))))))
def paymasterlaw01_awake.T6 : Bool × List (List Nat × List Nat) := (true, [([], []), ([], []), ([0, 1], [0, 1]), ([2], [2]), ([3], [3]), ([4, 3], [3, 4]), ([3, 5], [3, 5]), ([6, 3], [6]), ([7], [7]), ([8, 7], [7, 8]), ([7, 9], [7, 9]), ([10, 7], [10]), ([11], [11]), ([12, 11], [11, 12]), ([11, 13], [11, 13]), ([14, 11], [14]), ([15], [15]), ([15, 15], [15]), ([16, 17, 15], [15, 16, 17]), ([15, 18], [15, 18]), ([19, 17], [19]), ([20], [20]), ([21, 20], [20, 21]), ([20, 22], [20, 22]), ([23, 20], [23]), ([24], [24]), ([25, 24], [24, 25]), ([24, 26], [24, 26]), ([27, 24], [27]), ([28], [28]), ([29, 28], [28, 29]), ([28, 30], [28, 30]), ([31, 28], [31]), ([32], [32]), ([33, 32, 32], [32, 33]), ([34, 32], [32, 34]), ([32, 35], [32, 35]), ([36, 34, 0, 1, 2, 3, 4, 5, 6, 7, 8, 9, 10, 11, 12, 13, 14, 15, 16, 17, 18, 19, 20, 21, 22, 23, 24, 25, 26, 27, 28, 29, 30, 31, 32, 33, 34, 35, 36], [36])])
def paymasterlaw01_awake.B6 : List Nat := [0, 0, 3, 7, 15, 31, 63, 127, 255, 511, 1023, 2047, 4095, 8191, 16383, 32767, 65535, 65535, 262143, 524287, 1048575, 2097151, 4194303, 8388607, 16777215, 33554431, 67108863, 134217727, 268435455, 536870911, 1073741823, 2147483647, 4294967295, 8589934591, 17179869183, 34359738367, 68719476735, 137438953471]
theorem paymasterlaw01_awake.tab6 : rtab .any (opsOf Try.f66 6) = paymasterlaw01_awake.T6 := by kernel_rfl
theorem paymasterlaw01_awake.bits6 : waitsOk paymasterlaw01_awake.T6.2 paymasterlaw01_awake.B6 = true := by kernel_rfl
set_option maxHeartbeats 8000000 in
set_option maxRecDepth 100000 in
theorem paymasterlaw01_awake.calls  (r : Bool) (w : World) (h : paymasterlaw01_awake.f  = some r) :
    Calls Try.prog 66 #[] w fun e w' => e = .returned (.bool r) ∧ Below w.heap.size w w' := by
  have hu25 := Try.underlying25
  have HB := Aside0.mk (Below.refl w.heap.size w)
  have H : ((u128_Of.f 1).bind fun bt1048 => ((u128_Add.f 0 18446744073709551615 bt1048.1 bt1048.2).bind fun bt1050 => ((u128_Most.f).bind fun bt1054 => ((u128_Of.f 1).bind fun bt1056 => ((u128_Add.f bt1054.1 bt1054.2 bt1056.1 bt1056.2).bind fun bt1058 => ((u128_Of.f 1).bind fun bt1062 => ((u128_Of.f 2).bind fun bt1064 => ((u128_Sub.f bt1062.1 bt1062.2 bt1064.1 bt1064.2).bind fun bt1066 => ((u128_Over.f 1 3 10).bind fun bt1070 => ((u128_Of.f 1).bind fun bt1075 => ((u128_Over.f bt1075.1 bt1075.2 0).bind fun bt1077 => (if (bt1050.1 == 1 && (bt1050.2.1 == 0)) = true then (if bt1050.2.2 = 0 then (if bt1058.2.2 = 10 then (if bt1066.2.2 = 10 then ((u128_Of.f 1844674407370955161).bind fun bt1082 => (if (bt1070.1 == bt1082.1 && (bt1070.2.1 == bt1082.2)) = true then (if bt1070.2.2.1 = 9 then (if bt1070.2.2.2 = 0 then (if bt1077.2.2.2 = 2 then ((u128_Bytes.f 1 258).bind fun t1084 => (some (t1084.toList == ([0, 0, 0, 0, 0, 0, 0, 1, 0, 0, 0, 0, 0, 0, 1, 2] : List UInt8)))) else (none)) else (none)) else (none)) else (none))) else (none)) else (none)) else (none)) else (none))))))))))))) = some r := h
  clear h
  replace H := Option.bind_eq_some_iff.mp H
  obtain ⟨⟨t1048, t1049⟩, A10, H⟩ := H
  replace H : ((u128_Add.f 0 18446744073709551615 t1048 t1049).bind fun bt1050 => ((u128_Most.f).bind fun bt1054 => ((u128_Of.f 1).bind fun bt1056 => ((u128_Add.f bt1054.1 bt1054.2 bt1056.1 bt1056.2).bind fun bt1058 => ((u128_Of.f 1).bind fun bt1062 => ((u128_Of.f 2).bind fun bt1064 => ((u128_Sub.f bt1062.1 bt1062.2 bt1064.1 bt1064.2).bind fun bt1066 => ((u128_Over.f 1 3 10).bind fun bt1070 => ((u128_Of.f 1).bind fun bt1075 => ((u128_Over.f bt1075.1 bt1075.2 0).bind fun bt1077 => (if (bt1050.1 == 1 && (bt1050.2.1 == 0)) = true then (if bt1050.2.2 = 0 then (if bt1058.2.2 = 10 then (if bt1066.2.2 = 10 then ((u128_Of.f 1844674407370955161).bind fun bt1082 => (if (bt1070.1 == bt1082.1 && (bt1070.2.1 == bt1082.2)) = true then (if bt1070.2.2.1 = 9 then (if bt1070.2.2.2 = 0 then (if bt1077.2.2.2 = 2 then ((u128_Bytes.f 1 258).bind fun t1084 => (some (t1084.toList == ([0, 0, 0, 0, 0, 0, 0, 1, 0, 0, 0, 0, 0, 0, 1, 2] : List UInt8)))) else (none)) else (none)) else (none)) else (none))) else (none)) else (none)) else (none)) else (none)))))))))))) = some r := H
  have A1 := Aside0.mk A10
  clear A10
  replace H := Option.bind_eq_some_iff.mp H
  obtain ⟨⟨t1050, t1051, t1052⟩, A20, H⟩ := H
  replace H : ((u128_Most.f).bind fun bt1054 => ((u128_Of.f 1).bind fun bt1056 => ((u128_Add.f bt1054.1 bt1054.2 bt1056.1 bt1056.2).bind fun bt1058 => ((u128_Of.f 1).bind fun bt1062 => ((u128_Of.f 2).bind fun bt1064 => ((u128_Sub.f bt1062.1 bt1062.2 bt1064.1 bt1064.2).bind fun bt1066 => ((u128_Over.f 1 3 10).bind fun bt1070 => ((u128_Of.f 1).bind fun bt1075 => ((u128_Over.f bt1075.1 bt1075.2 0).bind fun bt1077 => (if (t1050 == 1 && (t1051 == 0)) = true then (if t1052 = 0 then (if bt1058.2.2 = 10 then (if bt1066.2.2 = 10 then ((u128_Of.f 1844674407370955161).bind fun bt1082 => (if (bt1070.1 == bt1082.1 && (bt1070.2.1 == bt1082.2)) = true then (if bt1070.2.2.1 = 9 then (if bt1070.2.2.2 = 0 then (if bt1077.2.2.2 = 2 then ((u128_Bytes.f 1 258).bind fun t1084 => (some (t1084.toList == ([0, 0, 0, 0, 0, 0, 0, 1, 0, 0, 0, 0, 0, 0, 1, 2] : List UInt8)))) else (none)) else (none)) else (none)) else (none))) else (none)) else (none)) else (none)) else (none))))))))))) = some r := H
  have A2 := Aside0.mk A20
  clear A20
  replace H := Option.bind_eq_some_iff.mp H
  obtain ⟨⟨t1054, t1055⟩, A30, H⟩ := H
  replace H : ((u128_Of.f 1).bind fun bt1056 => ((u128_Add.f t1054 t1055 bt1056.1 bt1056.2).bind fun bt1058 => ((u128_Of.f 1).bind fun bt1062 => ((u128_Of.f 2).bind fun bt1064 => ((u128_Sub.f bt1062.1 bt1062.2 bt1064.1 bt1064.2).bind fun bt1066 => ((u128_Over.f 1 3 10).bind fun bt1070 => ((u128_Of.f 1).bind fun bt1075 => ((u128_Over.f bt1075.1 bt1075.2 0).bind fun bt1077 => (if (t1050 == 1 && (t1051 == 0)) = true then (if t1052 = 0 then (if bt1058.2.2 = 10 then (if bt1066.2.2 = 10 then ((u128_Of.f 1844674407370955161).bind fun bt1082 => (if (bt1070.1 == bt1082.1 && (bt1070.2.1 == bt1082.2)) = true then (if bt1070.2.2.1 = 9 then (if bt1070.2.2.2 = 0 then (if bt1077.2.2.2 = 2 then ((u128_Bytes.f 1 258).bind fun t1084 => (some (t1084.toList == ([0, 0, 0, 0, 0, 0, 0, 1, 0, 0, 0, 0, 0, 0, 1, 2] : List UInt8)))) else (none)) else (none)) else (none)) else (none))) else (none)) else (none)) else (none)) else (none)))))))))) = some r := H
  have A3 := Aside0.mk A30
  clear A30
  replace H := Option.bind_eq_some_iff.mp H
  obtain ⟨⟨t1056, t1057⟩, A40, H⟩ := H
  replace H : ((u128_Add.f t1054 t1055 t1056 t1057).bind fun bt1058 => ((u128_Of.f 1).bind fun bt1062 => ((u128_Of.f 2).bind fun bt1064 => ((u128_Sub.f bt1062.1 bt1062.2 bt1064.1 bt1064.2).bind fun bt1066 => ((u128_Over.f 1 3 10).bind fun bt1070 => ((u128_Of.f 1).bind fun bt1075 => ((u128_Over.f bt1075.1 bt1075.2 0).bind fun bt1077 => (if (t1050 == 1 && (t1051 == 0)) = true then (if t1052 = 0 then (if bt1058.2.2 = 10 then (if bt1066.2.2 = 10 then ((u128_Of.f 1844674407370955161).bind fun bt1082 => (if (bt1070.1 == bt1082.1 && (bt1070.2.1 == bt1082.2)) = true then (if bt1070.2.2.1 = 9 then (if bt1070.2.2.2 = 0 then (if bt1077.2.2.2 = 2 then ((u128_Bytes.f 1 258).bind fun t1084 => (some (t1084.toList == ([0, 0, 0, 0, 0, 0, 0, 1, 0, 0, 0, 0, 0, 0, 1, 2] : List UInt8)))) else (none)) else (none)) else (none)) else (none))) else (none)) else (none)) else (none)) else (none))))))))) = some r := H
  have A4 := Aside0.mk A40
  clear A40
  replace H := Option.bind_eq_some_iff.mp H
  obtain ⟨⟨t1058, t1059, t1060⟩, A50, H⟩ := H
  replace H : ((u128_Of.f 1).bind fun bt1062 => ((u128_Of.f 2).bind fun bt1064 => ((u128_Sub.f bt1062.1 bt1062.2 bt1064.1 bt1064.2).bind fun bt1066 => ((u128_Over.f 1 3 10).bind fun bt1070 => ((u128_Of.f 1).bind fun bt1075 => ((u128_Over.f bt1075.1 bt1075.2 0).bind fun bt1077 => (if (t1050 == 1 && (t1051 == 0)) = true then (if t1052 = 0 then (if t1060 = 10 then (if bt1066.2.2 = 10 then ((u128_Of.f 1844674407370955161).bind fun bt1082 => (if (bt1070.1 == bt1082.1 && (bt1070.2.1 == bt1082.2)) = true then (if bt1070.2.2.1 = 9 then (if bt1070.2.2.2 = 0 then (if bt1077.2.2.2 = 2 then ((u128_Bytes.f 1 258).bind fun t1084 => (some (t1084.toList == ([0, 0, 0, 0, 0, 0, 0, 1, 0, 0, 0, 0, 0, 0, 1, 2] : List UInt8)))) else (none)) else (none)) else (none)) else (none))) else (none)) else (none)) else (none)) else (none)))))))) = some r := H
  have A5 := Aside0.mk A50
  clear A50
  replace H := Option.bind_eq_some_iff.mp H
  obtain ⟨⟨t1062, t1063⟩, A60, H⟩ := H
  replace H : ((u128_Of.f 2).bind fun bt1064 => ((u128_Sub.f t1062 t1063 bt1064.1 bt1064.2).bind fun bt1066 => ((u128_Over.f 1 3 10).bind fun bt1070 => ((u128_Of.f 1).bind fun bt1075 => ((u128_Over.f bt1075.1 bt1075.2 0).bind fun bt1077 => (if (t1050 == 1 && (t1051 == 0)) = true then (if t1052 = 0 then (if t1060 = 10 then (if bt1066.2.2 = 10 then ((u128_Of.f 1844674407370955161).bind fun bt1082 => (if (bt1070.1 == bt1082.1 && (bt1070.2.1 == bt1082.2)) = true then (if bt1070.2.2.1 = 9 then (if bt1070.2.2.2 = 0 then (if bt1077.2.2.2 = 2 then ((u128_Bytes.f 1 258).bind fun t1084 => (some (t1084.toList == ([0, 0, 0, 0, 0, 0, 0, 1, 0, 0, 0, 0, 0, 0, 1, 2] : List UInt8)))) else (none)) else (none)) else (none)) else (none))) else (none)) else (none)) else (none)) else (none))))))) = some r := H
  have A6 := Aside0.mk A60
  clear A60
  replace H := Option.bind_eq_some_iff.mp H
  obtain ⟨⟨t1064, t1065⟩, A70, H⟩ := H
  replace H : ((u128_Sub.f t1062 t1063 t1064 t1065).bind fun bt1066 => ((u128_Over.f 1 3 10).bind fun bt1070 => ((u128_Of.f 1).bind fun bt1075 => ((u128_Over.f bt1075.1 bt1075.2 0).bind fun bt1077 => (if (t1050 == 1 && (t1051 == 0)) = true then (if t1052 = 0 then (if t1060 = 10 then (if bt1066.2.2 = 10 then ((u128_Of.f 1844674407370955161).bind fun bt1082 => (if (bt1070.1 == bt1082.1 && (bt1070.2.1 == bt1082.2)) = true then (if bt1070.2.2.1 = 9 then (if bt1070.2.2.2 = 0 then (if bt1077.2.2.2 = 2 then ((u128_Bytes.f 1 258).bind fun t1084 => (some (t1084.toList == ([0, 0, 0, 0, 0, 0, 0, 1, 0, 0, 0, 0, 0, 0, 1, 2] : List UInt8)))) else (none)) else (none)) else (none)) else (none))) else (none)) else (none)) else (none)) else (none)))))) = some r := H
  have A7 := Aside0.mk A70
  clear A70
  replace H := Option.bind_eq_some_iff.mp H
  obtain ⟨⟨t1066, t1067, t1068⟩, A80, H⟩ := H
  replace H : ((u128_Over.f 1 3 10).bind fun bt1070 => ((u128_Of.f 1).bind fun bt1075 => ((u128_Over.f bt1075.1 bt1075.2 0).bind fun bt1077 => (if (t1050 == 1 && (t1051 == 0)) = true then (if t1052 = 0 then (if t1060 = 10 then (if t1068 = 10 then ((u128_Of.f 1844674407370955161).bind fun bt1082 => (if (bt1070.1 == bt1082.1 && (bt1070.2.1 == bt1082.2)) = true then (if bt1070.2.2.1 = 9 then (if bt1070.2.2.2 = 0 then (if bt1077.2.2.2 = 2 then ((u128_Bytes.f 1 258).bind fun t1084 => (some (t1084.toList == ([0, 0, 0, 0, 0, 0, 0, 1, 0, 0, 0, 0, 0, 0, 1, 2] : List UInt8)))) else (none)) else (none)) else (none)) else (none))) else (none)) else (none)) else (none)) else (none))))) = some r := H
  have A8 := Aside0.mk A80
  clear A80
  replace H := Option.bind_eq_some_iff.mp H
  obtain ⟨⟨t1070, t1071, t1072, t1073⟩, A90, H⟩ := H
  replace H : ((u128_Of.f 1).bind fun bt1075 => ((u128_Over.f bt1075.1 bt1075.2 0).bind fun bt1077 => (if (t1050 == 1 && (t1051 == 0)) = true then (if t1052 = 0 then (if t1060 = 10 then (if t1068 = 10 then ((u128_Of.f 1844674407370955161).bind fun bt1082 => (if (t1070 == bt1082.1 && (t1071 == bt1082.2)) = true then (if t1072 = 9 then (if t1073 = 0 then (if bt1077.2.2.2 = 2 then ((u128_Bytes.f 1 258).bind fun t1084 => (some (t1084.toList == ([0, 0, 0, 0, 0, 0, 0, 1, 0, 0, 0, 0, 0, 0, 1, 2] : List UInt8)))) else (none)) else (none)) else (none)) else (none))) else (none)) else (none)) else (none)) else (none)))) = some r := H
  have A9 := Aside0.mk A90
  clear A90
  replace H := Option.bind_eq_some_iff.mp H
  obtain ⟨⟨t1075, t1076⟩, A100, H⟩ := H
  replace H : ((u128_Over.f t1075 t1076 0).bind fun bt1077 => (if (t1050 == 1 && (t1051 == 0)) = true then (if t1052 = 0 then (if t1060 = 10 then (if t1068 = 10 then ((u128_Of.f 1844674407370955161).bind fun bt1082 => (if (t1070 == bt1082.1 && (t1071 == bt1082.2)) = true then (if t1072 = 9 then (if t1073 = 0 then (if bt1077.2.2.2 = 2 then ((u128_Bytes.f 1 258).bind fun t1084 => (some (t1084.toList == ([0, 0, 0, 0, 0, 0, 0, 1, 0, 0, 0, 0, 0, 0, 1, 2] : List UInt8)))) else (none)) else (none)) else (none)) else (none))) else (none)) else (none)) else (none)) else (none))) = some r := H
  have A10 := Aside0.mk A100
  clear A100
  replace H := Option.bind_eq_some_iff.mp H
  obtain ⟨⟨t1077, t1078, t1079, t1080⟩, A110, H⟩ := H
  replace H : (if (t1050 == 1 && (t1051 == 0)) = true then (if t1052 = 0 then (if t1060 = 10 then (if t1068 = 10 then ((u128_Of.f 1844674407370955161).bind fun bt1082 => (if (t1070 == bt1082.1 && (t1071 == bt1082.2)) = true then (if t1072 = 9 then (if t1073 = 0 then (if t1080 = 2 then ((u128_Bytes.f 1 258).bind fun t1084 => (some (t1084.toList == ([0, 0, 0, 0, 0, 0, 0, 1, 0, 0, 0, 0, 0, 0, 1, 2] : List UInt8)))) else (none)) else (none)) else (none)) else (none))) else (none)) else (none)) else (none)) else (none)) = some r := H
  have A11 := Aside0.mk A110
  clear A110
  by_cases c12 : (t1050 == 1 && (t1051 == 0)) = true
  · rw [if_pos c12] at H
    have c12b0 : (t1050 == 1 && (t1051 == 0)) = true := c12
    (try (have c12b1 : decide (t1050 = 1 && (t1051 == 0)) = true := by simpa using c12))
    (try (have c12b2 : (t1050 == 1 && (t1051 == 0)) = true := by simpa using c12))
    clear c12
    by_cases c13 : t1052 = 0
    · rw [if_pos c13] at H
      have c13b0 : (t1052 == 0) = true := beq_iff_eq.mpr c13
      have c13b1 : (t1052 != 0) = false := bne_eq_false_iff_eq.mpr c13
      clear c13
      by_cases c14 : t1060 = 10
      · rw [if_pos c14] at H
        have c14b0 : (t1060 == 10) = true := beq_iff_eq.mpr c14
        have c14b1 : (t1060 != 10) = false := bne_eq_false_iff_eq.mpr c14
        clear c14
        by_cases c15 : t1068 = 10
        · rw [if_pos c15] at H
          have c15b0 : (t1068 == 10) = true := beq_iff_eq.mpr c15
          have c15b1 : (t1068 != 10) = false := bne_eq_false_iff_eq.mpr c15
          clear c15
          replace H := Option.bind_eq_some_iff.mp H
          obtain ⟨⟨t1082, t1083⟩, A160, H⟩ := H
          replace H : (if (t1070 == t1082 && (t1071 == t1083)) = true then (if t1072 = 9 then (if t1073 = 0 then (if t1080 = 2 then ((u128_Bytes.f 1 258).bind fun t1084 => (some (t1084.toList == ([0, 0, 0, 0, 0, 0, 0, 1, 0, 0, 0, 0, 0, 0, 1, 2] : List UInt8)))) else (none)) else (none)) else (none)) else (none)) = some r := H
          have A16 := Aside0.mk A160
          clear A160
          by_cases c17 : (t1070 == t1082 && (t1071 == t1083)) = true
          · rw [if_pos c17] at H
            have c17b0 : (t1070 == t1082 && (t1071 == t1083)) = true := c17
            (try (have c17b1 : decide (t1070 = t1082 && (t1071 == t1083)) = true := by simpa using c17))
            (try (have c17b2 : (t1070 == t1082 && (t1071 == t1083)) = true := by simpa using c17))
            clear c17
            by_cases c18 : t1072 = 9
            · rw [if_pos c18] at H
              have c18b0 : (t1072 == 9) = true := beq_iff_eq.mpr c18
              have c18b1 : (t1072 != 9) = false := bne_eq_false_iff_eq.mpr c18
              clear c18
              by_cases c19 : t1073 = 0
              · rw [if_pos c19] at H
                have c19b0 : (t1073 == 0) = true := beq_iff_eq.mpr c19
                have c19b1 : (t1073 != 0) = false := bne_eq_false_iff_eq.mpr c19
                clear c19
                by_cases c20 : t1080 = 2
                · rw [if_pos c20] at H
                  have c20b0 : (t1080 == 2) = true := beq_iff_eq.mpr c20
                  have c20b1 : (t1080 != 2) = false := bne_eq_false_iff_eq.mpr c20
                  clear c20
                  replace H := Option.bind_eq_some_iff.mp H
                  obtain ⟨t1084, A210, H⟩ := H
                  replace H : (some (t1084.toList == ([0, 0, 0, 0, 0, 0, 0, 1, 0, 0, 0, 0, 0, 0, 1, 2] : List UInt8))) = some r := H
                  have A21 := Aside0.mk A210
                  clear A210
                  obtain rfl := Option.some.inj H
                  go_enter Try.func66, Try.ntmps66
                  try go_wp2_with (first | ((with_reducible refine gate_callee (f := 51) rfl ?_); refine goesL_ (some 15) rfl rfl Try.func51 (by kernel_rfl) rfl #[.int .u64 1] rfl (by (try simp only [List.map_toArray, List.map_cons, List.map_nil]); first | done | rfl | (simp only [List.length_drop, List.length_take]; rfl)) ?_; (with_reducible refine (u128_Of.calls 1 t1048 t1049 _ A1.out).mono ?_); rintro e w22 ⟨rfl, hb⟩; refine ⟨_, rfl, ?_⟩; have n0_ := Aside0.mk (below_step (by repeat (first | (with_reducible first | exact HB.out | apply below_alloc | apply pw_below_drewN | apply below_drew1) | exact HB.out)) hb); clear HB; have HB := n0_; clear n0_; (try clear hb); (try clear hb2); (try clear hk); (try clear hi)) | ((with_reducible refine gate_callee (f := 45) rfl ?_); refine goesL_ (some 16) rfl rfl Try.func45 (by kernel_rfl) rfl #[.agg #[.int .u64 0, .int .u64 18446744073709551615], .agg #[.int .u64 t1048, .int .u64 t1049]] rfl (by (try simp only [List.map_toArray, List.map_cons, List.map_nil]); first | done | rfl | (simp only [List.length_drop, List.length_take]; rfl)) ?_; (with_reducible refine (u128_Add.calls 0 18446744073709551615 t1048 t1049 t1050 t1051 t1052 _ A2.out).mono ?_); rintro e w23 ⟨rfl, hb⟩; refine ⟨_, rfl, ?_⟩; have n0_ := Aside0.mk (below_step (by repeat (first | (with_reducible first | exact HB.out | apply below_alloc | apply pw_below_drewN | apply below_drew1) | exact HB.out)) hb); clear HB; have HB := n0_; clear n0_; (try clear hb); (try clear hb2); (try clear hk); (try clear hi)) | ((with_reducible refine gate_dst (N := 1) rfl ?_); refine box_event ?hg (N := 1) ?hd (cs := #[.int .u64 0, .int .u64 0]) (t := 25) ?hr ?_; (case hd => rfl); (case hg => rfl); (case hr => first | (go_simp; done) | (go_simp; rfl)); intro gb1053 hg w24 hbox hb; have n0_ := Aside0.mk (below_step (by repeat (first | (with_reducible first | exact HB.out | apply below_alloc | apply pw_below_drewN | apply below_drew1) | exact HB.out)) hb); have n1_ := Aside0.mk (hbox); have n2_ := Aside0.mk ((by rw [hg]; exact (below_size (by repeat (first | (with_reducible first | exact HB.out | apply below_alloc | apply pw_below_drewN | apply below_drew1) | exact HB.out))) : w.heap.size ≤ gb1053)); have n3_ := Aside0.mk ((by rw [hg]; exact (below_size (by repeat (first | (with_reducible first | exact HB.out | apply below_alloc | apply pw_below_drewN | apply below_drew1) | exact HB.out))) : w.heap.size ≤ gb1053)); clear HB; have HB := n0_; have BK1053 := n1_; have GW1053 := n2_; have GE1053 := n3_; clear n0_ n1_ n2_ n3_; clear hb hbox hg; have hcz25_0 : w24.cell? ⟨gb1053, 0, none⟩ = some (.int .u64 0) := (blk_cell BK1053.out 0).trans rfl; have hcz25_1 : w24.cell? ⟨gb1053, 1, none⟩ = some (.int .u64 0) := (blk_cell BK1053.out 1).trans rfl; have hfz25_0 := blk_frozen BK1053.out 0; have hfz25_1 := blk_frozen BK1053.out 1) | ((with_reducible refine gate_callee (f := 53) rfl ?_); refine goesL_ (some 20) rfl rfl Try.func53 (by kernel_rfl) rfl #[] rfl (by (try simp only [List.map_toArray, List.map_cons, List.map_nil]); first | done | rfl | (simp only [List.length_drop, List.length_take]; rfl)) ?_; (with_reducible refine (u128_Most.calls  t1054 t1055 _ A3.out).mono ?_); rintro e w26 ⟨rfl, hb⟩; refine ⟨_, rfl, ?_⟩; have n0_ := Aside0.mk (blk_below (g := gb1053) (o := .cells #[.int .u64 t1050, .int .u64 t1051] 25 (0, 0)) (by (with_reducible repeat (first | refine blk_drewN ?_ _ | refine blk_drew ?_ | refine blk_alloc ?_ _)); refine blk_put (cs := #[.int .u64 t1050, .int .u64 0]) ?_ 1 _ rfl; (with_reducible repeat (first | refine blk_drewN ?_ _ | refine blk_drew ?_ | refine blk_alloc ?_ _)); refine blk_put (cs := #[.int .u64 0, .int .u64 0]) ?_ 0 _ rfl; (with_reducible repeat (first | refine blk_drewN ?_ _ | refine blk_drew ?_ | refine blk_alloc ?_ _)); exact BK1053.out) hb); have n1_ := Aside0.mk (below_step (by repeat (first | (with_reducible first | exact HB.out | apply below_alloc | apply pw_below_drewN | apply below_drew1 | refine below_set ?_ GE1053.out) | exact HB.out)) hb); clear BK1053; clear HB; have BK1053 := n0_; have HB := n1_; clear n0_ n1_; (try clear hb); (try clear hb2); (try clear hk); (try clear hi)) | ((with_reducible refine gate_callee (f := 51) rfl ?_); refine goesL_ (some 21) rfl rfl Try.func51 (by kernel_rfl) rfl #[.int .u64 1] rfl (by (try simp only [List.map_toArray, List.map_cons, List.map_nil]); first | done | rfl | (simp only [List.length_drop, List.length_take]; rfl)) ?_; (with_reducible refine (u128_Of.calls 1 t1056 t1057 _ A4.out).mono ?_); rintro e w27 ⟨rfl, hb⟩; refine ⟨_, rfl, ?_⟩; have n0_ := Aside0.mk (blk_below (g := gb1053) (o := .cells #[.int .u64 t1050, .int .u64 t1051] 25 (0, 0)) (by (with_reducible repeat (first | refine blk_drewN ?_ _ | refine blk_drew ?_ | refine blk_alloc ?_ _)); exact BK1053.out) hb); have n1_ := Aside0.mk (below_step (by repeat (first | (with_reducible first | exact HB.out | apply below_alloc | apply pw_below_drewN | apply below_drew1 | refine below_set ?_ GE1053.out) | exact HB.out)) hb); clear BK1053; clear HB; have BK1053 := n0_; have HB := n1_; clear n0_ n1_; (try clear hb); (try clear hb2); (try clear hk); (try clear hi)) | ((with_reducible refine gate_callee (f := 45) rfl ?_); refine goesL_ (some 22) rfl rfl Try.func45 (by kernel_rfl) rfl #[.agg #[.int .u64 t1054, .int .u64 t1055], .agg #[.int .u64 t1056, .int .u64 t1057]] rfl (by (try simp only [List.map_toArray, List.map_cons, List.map_nil]); first | done | rfl | (simp only [List.length_drop, List.length_take]; rfl)) ?_; (with_reducible refine (u128_Add.calls t1054 t1055 t1056 t1057 t1058 t1059 t1060 _ A5.out).mono ?_); rintro e w28 ⟨rfl, hb⟩; refine ⟨_, rfl, ?_⟩; have n0_ := Aside0.mk (blk_below (g := gb1053) (o := .cells #[.int .u64 t1050, .int .u64 t1051] 25 (0, 0)) (by (with_reducible repeat (first | refine blk_drewN ?_ _ | refine blk_drew ?_ | refine blk_alloc ?_ _)); exact BK1053.out) hb); have n1_ := Aside0.mk (below_step (by repeat (first | (with_reducible first | exact HB.out | apply below_alloc | apply pw_below_drewN | apply below_drew1 | refine below_set ?_ GE1053.out) | exact HB.out)) hb); clear BK1053; clear HB; have BK1053 := n0_; have HB := n1_; clear n0_ n1_; (try clear hb); (try clear hb2); (try clear hk); (try clear hi)) | ((with_reducible refine gate_dst (N := 3) rfl ?_); refine box_event ?hg (N := 3) ?hd (cs := #[.int .u64 0, .int .u64 0]) (t := 25) ?hr ?_; (case hd => rfl); (case hg => rfl); (case hr => first | (go_simp; done) | (go_simp; rfl)); intro gb1061 hg w29 hbox hb; have n0_ := Aside0.mk (blk_below (g := gb1053) (o := .cells #[.int .u64 t1050, .int .u64 t1051] 25 (0, 0)) (by (with_reducible repeat (first | refine blk_drewN ?_ _ | refine blk_drew ?_ | refine blk_alloc ?_ _)); exact BK1053.out) hb); have n1_ := Aside0.mk (below_step (by repeat (first | (with_reducible first | exact HB.out | apply below_alloc | apply pw_below_drewN | apply below_drew1 | refine below_set ?_ GE1053.out) | exact HB.out)) hb); have n2_ := Aside0.mk (hbox); have n3_ := Aside0.mk ((by rw [hg]; exact (below_size (by repeat (first | (with_reducible first | exact HB.out | apply below_alloc | apply pw_below_drewN | apply below_drew1 | refine below_set ?_ GE1053.out) | exact HB.out))) : w.heap.size ≤ gb1061)); have n4_ := Aside0.mk ((by rw [hg]; exact (below_size (by repeat (first | (with_reducible first | exact HB.out | apply below_alloc | apply pw_below_drewN | apply below_drew1 | refine below_set ?_ GE1053.out) | exact HB.out))) : w.heap.size ≤ gb1061)); have n5_ := Aside0.mk ((by rw [hg]; exact Nat.ne_of_lt (blk_lt (g := gb1053) (o := .cells #[.int .u64 t1050, .int .u64 t1051] 25 (0, 0)) (by (with_reducible repeat (first | refine blk_drewN ?_ _ | refine blk_drew ?_ | refine blk_alloc ?_ _)); exact BK1053.out)) : gb1053 ≠ gb1061)); have n6_ := Aside0.mk ((by rw [hg]; exact Nat.ne_of_gt (blk_lt (g := gb1053) (o := .cells #[.int .u64 t1050, .int .u64 t1051] 25 (0, 0)) (by (with_reducible repeat (first | refine blk_drewN ?_ _ | refine blk_drew ?_ | refine blk_alloc ?_ _)); exact BK1053.out)) : gb1061 ≠ gb1053)); clear BK1053; clear HB; have BK1053 := n0_; have HB := n1_; have BK1061 := n2_; have GW1061 := n3_; have GE1061 := n4_; have NB1053_1061 := n5_; have NB1061_1053 := n6_; clear n0_ n1_ n2_ n3_ n4_ n5_ n6_; clear hb hbox hg; have hnb30 := NB1061_1053.out; have hnc30 := NB1053_1061.out; have hcz31_0 : w29.cell? ⟨gb1061, 0, none⟩ = some (.int .u64 0) := (blk_cell BK1061.out 0).trans rfl; have hcz31_1 : w29.cell? ⟨gb1061, 1, none⟩ = some (.int .u64 0) := (blk_cell BK1061.out 1).trans rfl; have hfz31_0 := blk_frozen BK1061.out 0; have hfz31_1 := blk_frozen BK1061.out 1) | ((with_reducible refine gate_callee (f := 51) rfl ?_); refine goesL_ (some 26) rfl rfl Try.func51 (by kernel_rfl) rfl #[.int .u64 1] rfl (by (try simp only [List.map_toArray, List.map_cons, List.map_nil]); first | done | rfl | (simp only [List.length_drop, List.length_take]; rfl)) ?_; (with_reducible refine (u128_Of.calls 1 t1062 t1063 _ A6.out).mono ?_); rintro e w32 ⟨rfl, hb⟩; refine ⟨_, rfl, ?_⟩; have n0_ := Aside0.mk (blk_below (g := gb1053) (o := .cells #[.int .u64 t1050, .int .u64 t1051] 25 (0, 0)) (by (with_reducible repeat (first | refine blk_drewN ?_ _ | refine blk_drew ?_ | refine blk_alloc ?_ _)); refine blk_far ?_ NB1053_1061.out _; (with_reducible repeat (first | refine blk_drewN ?_ _ | refine blk_drew ?_ | refine blk_alloc ?_ _)); refine blk_far ?_ NB1053_1061.out _; (with_reducible repeat (first | refine blk_drewN ?_ _ | refine blk_drew ?_ | refine blk_alloc ?_ _)); exact BK1053.out) hb); have n1_ := Aside0.mk (blk_below (g := gb1061) (o := .cells #[.int .u64 t1058, .int .u64 t1059] 25 (0, 0)) (by (with_reducible repeat (first | refine blk_drewN ?_ _ | refine blk_drew ?_ | refine blk_alloc ?_ _)); refine blk_put (cs := #[.int .u64 t1058, .int .u64 0]) ?_ 1 _ rfl; (with_reducible repeat (first | refine blk_drewN ?_ _ | refine blk_drew ?_ | refine blk_alloc ?_ _)); refine blk_put (cs := #[.int .u64 0, .int .u64 0]) ?_ 0 _ rfl; (with_reducible repeat (first | refine blk_drewN ?_ _ | refine blk_drew ?_ | refine blk_alloc ?_ _)); exact BK1061.out) hb); have n2_ := Aside0.mk (below_step (by repeat (first | (with_reducible first | exact HB.out | apply below_alloc | apply pw_below_drewN | apply below_drew1 | refine below_set ?_ GE1053.out | refine below_set ?_ GE1061.out) | exact HB.out)) hb); clear BK1053; clear BK1061; clear HB; have BK1053 := n0_; have BK1061 := n1_; have HB := n2_; clear n0_ n1_ n2_; (try clear hb); (try clear hb2); (try clear hk); (try clear hi)) | ((with_reducible refine gate_callee (f := 51) rfl ?_); refine goesL_ (some 27) rfl rfl Try.func51 (by kernel_rfl) rfl #[.int .u64 2] rfl (by (try simp only [List.map_toArray, List.map_cons, List.map_nil]); first | done | rfl | (simp only [List.length_drop, List.length_take]; rfl)) ?_; (with_reducible refine (u128_Of.calls 2 t1064 t1065 _ A7.out).mono ?_); rintro e w33 ⟨rfl, hb⟩; refine ⟨_, rfl, ?_⟩; have n0_ := Aside0.mk (blk_below (g := gb1053) (o := .cells #[.int .u64 t1050, .int .u64 t1051] 25 (0, 0)) (by (with_reducible repeat (first | refine blk_drewN ?_ _ | refine blk_drew ?_ | refine blk_alloc ?_ _)); exact BK1053.out) hb); have n1_ := Aside0.mk (blk_below (g := gb1061) (o := .cells #[.int .u64 t1058, .int .u64 t1059] 25 (0, 0)) (by (with_reducible repeat (first | refine blk_drewN ?_ _ | refine blk_drew ?_ | refine blk_alloc ?_ _)); exact BK1061.out) hb); have n2_ := Aside0.mk (below_step (by repeat (first | (with_reducible first | exact HB.out | apply below_alloc | apply pw_below_drewN | apply below_drew1 | refine below_set ?_ GE1053.out | refine below_set ?_ GE1061.out) | exact HB.out)) hb); clear BK1053; clear BK1061; clear HB; have BK1053 := n0_; have BK1061 := n1_; have HB := n2_; clear n0_ n1_ n2_; (try clear hb); (try clear hb2); (try clear hk); (try clear hi)) | ((with_reducible refine gate_callee (f := 47) rfl ?_); refine goesL_ (some 28) rfl rfl Try.func47 (by kernel_rfl) rfl #[.agg #[.int .u64 t1062, .int .u64 t1063], .agg #[.int .u64 t1064, .int .u64 t1065]] rfl (by (try simp only [List.map_toArray, List.map_cons, List.map_nil]); first | done | rfl | (simp only [List.length_drop, List.length_take]; rfl)) ?_; (with_reducible refine (u128_Sub.calls t1062 t1063 t1064 t1065 t1066 t1067 t1068 _ A8.out).mono ?_); rintro e w34 ⟨rfl, hb⟩; refine ⟨_, rfl, ?_⟩; have n0_ := Aside0.mk (blk_below (g := gb1053) (o := .cells #[.int .u64 t1050, .int .u64 t1051] 25 (0, 0)) (by (with_reducible repeat (first | refine blk_drewN ?_ _ | refine blk_drew ?_ | refine blk_alloc ?_ _)); exact BK1053.out) hb); have n1_ := Aside0.mk (blk_below (g := gb1061) (o := .cells #[.int .u64 t1058, .int .u64 t1059] 25 (0, 0)) (by (with_reducible repeat (first | refine blk_drewN ?_ _ | refine blk_drew ?_ | refine blk_alloc ?_ _)); exact BK1061.out) hb); have n2_ := Aside0.mk (below_step (by repeat (first | (with_reducible first | exact HB.out | apply below_alloc | apply pw_below_drewN | apply below_drew1 | refine below_set ?_ GE1053.out | refine below_set ?_ GE1061.out) | exact HB.out)) hb); clear BK1053; clear BK1061; clear HB; have BK1053 := n0_; have BK1061 := n1_; have HB := n2_; clear n0_ n1_ n2_; (try clear hb); (try clear hb2); (try clear hk); (try clear hi)) | ((with_reducible refine gate_dst (N := 5) rfl ?_); refine box_event ?hg (N := 5) ?hd (cs := #[.int .u64 0, .int .u64 0]) (t := 25) ?hr ?_; (case hd => rfl); (case hg => rfl); (case hr => first | (go_simp; done) | (go_simp; rfl)); intro gb1069 hg w35 hbox hb; have n0_ := Aside0.mk (blk_below (g := gb1053) (o := .cells #[.int .u64 t1050, .int .u64 t1051] 25 (0, 0)) (by (with_reducible repeat (first | refine blk_drewN ?_ _ | refine blk_drew ?_ | refine blk_alloc ?_ _)); exact BK1053.out) hb); have n1_ := Aside0.mk (blk_below (g := gb1061) (o := .cells #[.int .u64 t1058, .int .u64 t1059] 25 (0, 0)) (by (with_reducible repeat (first | refine blk_drewN ?_ _ | refine blk_drew ?_ | refine blk_alloc ?_ _)); exact BK1061.out) hb); have n2_ := Aside0.mk (below_step (by repeat (first | (with_reducible first | exact HB.out | apply below_alloc | apply pw_below_drewN | apply below_drew1 | refine below_set ?_ GE1053.out | refine below_set ?_ GE1061.out) | exact HB.out)) hb); have n3_ := Aside0.mk (hbox); have n4_ := Aside0.mk ((by rw [hg]; exact (below_size (by repeat (first | (with_reducible first | exact HB.out | apply below_alloc | apply pw_below_drewN | apply below_drew1 | refine below_set ?_ GE1053.out | refine below_set ?_ GE1061.out) | exact HB.out))) : w.heap.size ≤ gb1069)); have n5_ := Aside0.mk ((by rw [hg]; exact (below_size (by repeat (first | (with_reducible first | exact HB.out | apply below_alloc | apply pw_below_drewN | apply below_drew1 | refine below_set ?_ GE1053.out | refine below_set ?_ GE1061.out) | exact HB.out))) : w.heap.size ≤ gb1069)); have n6_ := Aside0.mk ((by rw [hg]; exact Nat.ne_of_lt (blk_lt (g := gb1053) (o := .cells #[.int .u64 t1050, .int .u64 t1051] 25 (0, 0)) (by (with_reducible repeat (first | refine blk_drewN ?_ _ | refine blk_drew ?_ | refine blk_alloc ?_ _)); exact BK1053.out)) : gb1053 ≠ gb1069)); have n7_ := Aside0.mk ((by rw [hg]; exact Nat.ne_of_gt (blk_lt (g := gb1053) (o := .cells #[.int .u64 t1050, .int .u64 t1051] 25 (0, 0)) (by (with_reducible repeat (first | refine blk_drewN ?_ _ | refine blk_drew ?_ | refine blk_alloc ?_ _)); exact BK1053.out)) : gb1069 ≠ gb1053)); have n8_ := Aside0.mk ((by rw [hg]; exact Nat.ne_of_lt (blk_lt (g := gb1061) (o := .cells #[.int .u64 t1058, .int .u64 t1059] 25 (0, 0)) (by (with_reducible repeat (first | refine blk_drewN ?_ _ | refine blk_drew ?_ | refine blk_alloc ?_ _)); exact BK1061.out)) : gb1061 ≠ gb1069)); have n9_ := Aside0.mk ((by rw [hg]; exact Nat.ne_of_gt (blk_lt (g := gb1061) (o := .cells #[.int .u64 t1058, .int .u64 t1059] 25 (0, 0)) (by (with_reducible repeat (first | refine blk_drewN ?_ _ | refine blk_drew ?_ | refine blk_alloc ?_ _)); exact BK1061.out)) : gb1069 ≠ gb1061)); clear BK1053; clear BK1061; clear HB; have BK1053 := n0_; have BK1061 := n1_; have HB := n2_; have BK1069 := n3_; have GW1069 := n4_; have GE1069 := n5_; have NB1053_1069 := n6_; have NB1069_1053 := n7_; have NB1061_1069 := n8_; have NB1069_1061 := n9_; clear n0_ n1_ n2_ n3_ n4_ n5_ n6_ n7_ n8_ n9_; clear hb hbox hg; have hnb36 := NB1069_1053.out; have hnc36 := NB1053_1069.out; have hnb37 := NB1069_1061.out; have hnc37 := NB1061_1069.out; have hcz38_0 : w35.cell? ⟨gb1069, 0, none⟩ = some (.int .u64 0) := (blk_cell BK1069.out 0).trans rfl; have hcz38_1 : w35.cell? ⟨gb1069, 1, none⟩ = some (.int .u64 0) := (blk_cell BK1069.out 1).trans rfl; have hfz38_0 := blk_frozen BK1069.out 0; have hfz38_1 := blk_frozen BK1069.out 1) | ((with_reducible refine gate_callee (f := 58) rfl ?_); refine goesL_ (some 33) rfl rfl Try.func58 (by kernel_rfl) rfl #[.agg #[.int .u64 1, .int .u64 3], .int .u64 10] rfl (by (try simp only [List.map_toArray, List.map_cons, List.map_nil]); first | done | rfl | (simp only [List.length_drop, List.length_take]; rfl)) ?_; (with_reducible refine (u128_Over.calls 1 3 10 t1070 t1071 t1072 t1073 _ A9.out).mono ?_); rintro e w39 ⟨rfl, hb⟩; refine ⟨_, rfl, ?_⟩; have n0_ := Aside0.mk (blk_below (g := gb1053) (o := .cells #[.int .u64 t1050, .int .u64 t1051] 25 (0, 0)) (by (with_reducible repeat (first | refine blk_drewN ?_ _ | refine blk_drew ?_ | refine blk_alloc ?_ _)); refine blk_far ?_ NB1053_1069.out _; (with_reducible repeat (first | refine blk_drewN ?_ _ | refine blk_drew ?_ | refine blk_alloc ?_ _)); refine blk_far ?_ NB1053_1069.out _; (with_reducible repeat (first | refine blk_drewN ?_ _ | refine blk_drew ?_ | refine blk_alloc ?_ _)); exact BK1053.out) hb); have n1_ := Aside0.mk (blk_below (g := gb1061) (o := .cells #[.int .u64 t1058, .int .u64 t1059] 25 (0, 0)) (by (with_reducible repeat (first | refine blk_drewN ?_ _ | refine blk_drew ?_ | refine blk_alloc ?_ _)); refine blk_far ?_ NB1061_1069.out _; (with_reducible repeat (first | refine blk_drewN ?_ _ | refine blk_drew ?_ | refine blk_alloc ?_ _)); refine blk_far ?_ NB1061_1069.out _; (with_reducible repeat (first | refine blk_drewN ?_ _ | refine blk_drew ?_ | refine blk_alloc ?_ _)); exact BK1061.out) hb); have n2_ := Aside0.mk (blk_below (g := gb1069) (o := .cells #[.int .u64 t1066, .int .u64 t1067] 25 (0, 0)) (by (with_reducible repeat (first | refine blk_drewN ?_ _ | refine blk_drew ?_ | refine blk_alloc ?_ _)); refine blk_put (cs := #[.int .u64 t1066, .int .u64 0]) ?_ 1 _ rfl; (with_reducible repeat (first | refine blk_drewN ?_ _ | refine blk_drew ?_ | refine blk_alloc ?_ _)); refine blk_put (cs := #[.int .u64 0, .int .u64 0]) ?_ 0 _ rfl; (with_reducible repeat (first | refine blk_drewN ?_ _ | refine blk_drew ?_ | refine blk_alloc ?_ _)); exact BK1069.out) hb); have n3_ := Aside0.mk (below_step (by repeat (first | (with_reducible first | exact HB.out | apply below_alloc | apply pw_below_drewN | apply below_drew1 | refine below_set ?_ GE1053.out | refine below_set ?_ GE1061.out | refine below_set ?_ GE1069.out) | exact HB.out)) hb); clear BK1053; clear BK1061; clear BK1069; clear HB; have BK1053 := n0_; have BK1061 := n1_; have BK1069 := n2_; have HB := n3_; clear n0_ n1_ n2_ n3_; (try clear hb); (try clear hb2); (try clear hk); (try clear hi)) | ((with_reducible refine gate_dst (N := 7) rfl ?_); refine box_event ?hg (N := 7) ?hd (cs := #[.int .u64 0, .int .u64 0]) (t := 25) ?hr ?_; (case hd => rfl); (case hg => rfl); (case hr => first | (go_simp; done) | (go_simp; rfl)); intro gb1074 hg w40 hbox hb; have n0_ := Aside0.mk (blk_below (g := gb1053) (o := .cells #[.int .u64 t1050, .int .u64 t1051] 25 (0, 0)) (by (with_reducible repeat (first | refine blk_drewN ?_ _ | refine blk_drew ?_ | refine blk_alloc ?_ _)); exact BK1053.out) hb); have n1_ := Aside0.mk (blk_below (g := gb1061) (o := .cells #[.int .u64 t1058, .int .u64 t1059] 25 (0, 0)) (by (with_reducible repeat (first | refine blk_drewN ?_ _ | refine blk_drew ?_ | refine blk_alloc ?_ _)); exact BK1061.out) hb); have n2_ := Aside0.mk (blk_below (g := gb1069) (o := .cells #[.int .u64 t1066, .int .u64 t1067] 25 (0, 0)) (by (with_reducible repeat (first | refine blk_drewN ?_ _ | refine blk_drew ?_ | refine blk_alloc ?_ _)); exact BK1069.out) hb); have n3_ := Aside0.mk (below_step (by repeat (first | (with_reducible first | exact HB.out | apply below_alloc | apply pw_below_drewN | apply below_drew1 | refine below_set ?_ GE1053.out | refine below_set ?_ GE1061.out | refine below_set ?_ GE1069.out) | exact HB.out)) hb); have n4_ := Aside0.mk (hbox); have n5_ := Aside0.mk ((by rw [hg]; exact (below_size (by repeat (first | (with_reducible first | exact HB.out | apply below_alloc | apply pw_below_drewN | apply below_drew1 | refine below_set ?_ GE1053.out | refine below_set ?_ GE1061.out | refine below_set ?_ GE1069.out) | exact HB.out))) : w.heap.size ≤ gb1074)); have n6_ := Aside0.mk ((by rw [hg]; exact (below_size (by repeat (first | (with_reducible first | exact HB.out | apply below_alloc | apply pw_below_drewN | apply below_drew1 | refine below_set ?_ GE1053.out | refine below_set ?_ GE1061.out | refine below_set ?_ GE1069.out) | exact HB.out))) : w.heap.size ≤ gb1074)); have n7_ := Aside0.mk ((by rw [hg]; exact Nat.ne_of_lt (blk_lt (g := gb1053) (o := .cells #[.int .u64 t1050, .int .u64 t1051] 25 (0, 0)) (by (with_reducible repeat (first | refine blk_drewN ?_ _ | refine blk_drew ?_ | refine blk_alloc ?_ _)); exact BK1053.out)) : gb1053 ≠ gb1074)); have n8_ := Aside0.mk ((by rw [hg]; exact Nat.ne_of_gt (blk_lt (g := gb1053) (o := .cells #[.int .u64 t1050, .int .u64 t1051] 25 (0, 0)) (by (with_reducible repeat (first | refine blk_drewN ?_ _ | refine blk_drew ?_ | refine blk_alloc ?_ _)); exact BK1053.out)) : gb1074 ≠ gb1053)); have n9_ := Aside0.mk ((by rw [hg]; exact Nat.ne_of_lt (blk_lt (g := gb1061) (o := .cells #[.int .u64 t1058, .int .u64 t1059] 25 (0, 0)) (by (with_reducible repeat (first | refine blk_drewN ?_ _ | refine blk_drew ?_ | refine blk_alloc ?_ _)); exact BK1061.out)) : gb1061 ≠ gb1074)); have n10_ := Aside0.mk ((by rw [hg]; exact Nat.ne_of_gt (blk_lt (g := gb1061) (o := .cells #[.int .u64 t1058, .int .u64 t1059] 25 (0, 0)) (by (with_reducible repeat (first | refine blk_drewN ?_ _ | refine blk_drew ?_ | refine blk_alloc ?_ _)); exact BK1061.out)) : gb1074 ≠ gb1061)); have n11_ := Aside0.mk ((by rw [hg]; exact Nat.ne_of_lt (blk_lt (g := gb1069) (o := .cells #[.int .u64 t1066, .int .u64 t1067] 25 (0, 0)) (by (with_reducible repeat (first | refine blk_drewN ?_ _ | refine blk_drew ?_ | refine blk_alloc ?_ _)); exact BK1069.out)) : gb1069 ≠ gb1074)); have n12_ := Aside0.mk ((by rw [hg]; exact Nat.ne_of_gt (blk_lt (g := gb1069) (o := .cells #[.int .u64 t1066, .int .u64 t1067] 25 (0, 0)) (by (with_reducible repeat (first | refine blk_drewN ?_ _ | refine blk_drew ?_ | refine blk_alloc ?_ _)); exact BK1069.out)) : gb1074 ≠ gb1069)); clear BK1053; clear BK1061; clear BK1069; clear HB; have BK1053 := n0_; have BK1061 := n1_; have BK1069 := n2_; have HB := n3_; have BK1074 := n4_; have GW1074 := n5_; have GE1074 := n6_; have NB1053_1074 := n7_; have NB1074_1053 := n8_; have NB1061_1074 := n9_; have NB1074_1061 := n10_; have NB1069_1074 := n11_; have NB1074_1069 := n12_; clear n0_ n1_ n2_ n3_ n4_ n5_ n6_ n7_ n8_ n9_ n10_ n11_ n12_; clear hb hbox hg; have hnb41 := NB1074_1053.out; have hnc41 := NB1053_1074.out; have hnb42 := NB1074_1061.out; have hnc42 := NB1061_1074.out; have hnb43 := NB1074_1069.out; have hnc43 := NB1069_1074.out; have hcz44_0 : w40.cell? ⟨gb1074, 0, none⟩ = some (.int .u64 0) := (blk_cell BK1074.out 0).trans rfl; have hcz44_1 : w40.cell? ⟨gb1074, 1, none⟩ = some (.int .u64 0) := (blk_cell BK1074.out 1).trans rfl; have hfz44_0 := blk_frozen BK1074.out 0; have hfz44_1 := blk_frozen BK1074.out 1) | ((with_reducible refine gate_callee (f := 51) rfl ?_); refine goesL_ (some 38) rfl rfl Try.func51 (by kernel_rfl) rfl #[.int .u64 1] rfl (by (try simp only [List.map_toArray, List.map_cons, List.map_nil]); first | done | rfl | (simp only [List.length_drop, List.length_take]; rfl)) ?_; (with_reducible refine (u128_Of.calls 1 t1075 t1076 _ A10.out).mono ?_); rintro e w45 ⟨rfl, hb⟩; refine ⟨_, rfl, ?_⟩; have n0_ := Aside0.mk (blk_below (g := gb1053) (o := .cells #[.int .u64 t1050, .int .u64 t1051] 25 (0, 0)) (by (with_reducible repeat (first | refine blk_drewN ?_ _ | refine blk_drew ?_ | refine blk_alloc ?_ _)); refine blk_far ?_ NB1053_1074.out _; (with_reducible repeat (first | refine blk_drewN ?_ _ | refine blk_drew ?_ | refine blk_alloc ?_ _)); refine blk_far ?_ NB1053_1074.out _; (with_reducible repeat (first | refine blk_drewN ?_ _ | refine blk_drew ?_ | refine blk_alloc ?_ _)); exact BK1053.out) hb); have n1_ := Aside0.mk (blk_below (g := gb1061) (o := .cells #[.int .u64 t1058, .int .u64 t1059] 25 (0, 0)) (by (with_reducible repeat (first | refine blk_drewN ?_ _ | refine blk_drew ?_ | refine blk_alloc ?_ _)); refine blk_far ?_ NB1061_1074.out _; (with_reducible repeat (first | refine blk_drewN ?_ _ | refine blk_drew ?_ | refine blk_alloc ?_ _)); refine blk_far ?_ NB1061_1074.out _; (with_reducible repeat (first | refine blk_drewN ?_ _ | refine blk_drew ?_ | refine blk_alloc ?_ _)); exact BK1061.out) hb); have n2_ := Aside0.mk (blk_below (g := gb1069) (o := .cells #[.int .u64 t1066, .int .u64 t1067] 25 (0, 0)) (by (with_reducible repeat (first | refine blk_drewN ?_ _ | refine blk_drew ?_ | refine blk_alloc ?_ _)); refine blk_far ?_ NB1069_1074.out _; (with_reducible repeat (first | refine blk_drewN ?_ _ | refine blk_drew ?_ | refine blk_alloc ?_ _)); refine blk_far ?_ NB1069_1074.out _; (with_reducible repeat (first | refine blk_drewN ?_ _ | refine blk_drew ?_ | refine blk_alloc ?_ _)); exact BK1069.out) hb); have n3_ := Aside0.mk (blk_below (g := gb1074) (o := .cells #[.int .u64 t1070, .int .u64 t1071] 25 (0, 0)) (by (with_reducible repeat (first | refine blk_drewN ?_ _ | refine blk_drew ?_ | refine blk_alloc ?_ _)); refine blk_put (cs := #[.int .u64 t1070, .int .u64 0]) ?_ 1 _ rfl; (with_reducible repeat (first | refine blk_drewN ?_ _ | refine blk_drew ?_ | refine blk_alloc ?_ _)); refine blk_put (cs := #[.int .u64 0, .int .u64 0]) ?_ 0 _ rfl; (with_reducible repeat (first | refine blk_drewN ?_ _ | refine blk_drew ?_ | refine blk_alloc ?_ _)); exact BK1074.out) hb); have n4_ := Aside0.mk (below_step (by repeat (first | (with_reducible first | exact HB.out | apply below_alloc | apply pw_below_drewN | apply below_drew1 | refine below_set ?_ GE1053.out | refine below_set ?_ GE1061.out | refine below_set ?_ GE1069.out | refine below_set ?_ GE1074.out) | exact HB.out)) hb); clear BK1053; clear BK1061; clear BK1069; clear BK1074; clear HB; have BK1053 := n0_; have BK1061 := n1_; have BK1069 := n2_; have BK1074 := n3_; have HB := n4_; clear n0_ n1_ n2_ n3_ n4_; (try clear hb); (try clear hb2); (try clear hk); (try clear hi)) | ((with_reducible refine gate_callee (f := 58) rfl ?_); refine goesL_ (some 39) rfl rfl Try.func58 (by kernel_rfl) rfl #[.agg #[.int .u64 t1075, .int .u64 t1076], .int .u64 0] rfl (by (try simp only [List.map_toArray, List.map_cons, List.map_nil]); first | done | rfl | (simp only [List.length_drop, List.length_take]; rfl)) ?_; (with_reducible refine (u128_Over.calls t1075 t1076 0 t1077 t1078 t1079 t1080 _ A11.out).mono ?_); rintro e w46 ⟨rfl, hb⟩; refine ⟨_, rfl, ?_⟩; have n0_ := Aside0.mk (blk_below (g := gb1053) (o := .cells #[.int .u64 t1050, .int .u64 t1051] 25 (0, 0)) (by (with_reducible repeat (first | refine blk_drewN ?_ _ | refine blk_drew ?_ | refine blk_alloc ?_ _)); exact BK1053.out) hb); have n1_ := Aside0.mk (blk_below (g := gb1061) (o := .cells #[.int .u64 t1058, .int .u64 t1059] 25 (0, 0)) (by (with_reducible repeat (first | refine blk_drewN ?_ _ | refine blk_drew ?_ | refine blk_alloc ?_ _)); exact BK1061.out) hb); have n2_ := Aside0.mk (blk_below (g := gb1069) (o := .cells #[.int .u64 t1066, .int .u64 t1067] 25 (0, 0)) (by (with_reducible repeat (first | refine blk_drewN ?_ _ | refine blk_drew ?_ | refine blk_alloc ?_ _)); exact BK1069.out) hb); have n3_ := Aside0.mk (blk_below (g := gb1074) (o := .cells #[.int .u64 t1070, .int .u64 t1071] 25 (0, 0)) (by (with_reducible repeat (first | refine blk_drewN ?_ _ | refine blk_drew ?_ | refine blk_alloc ?_ _)); exact BK1074.out) hb); have n4_ := Aside0.mk (below_step (by repeat (first | (with_reducible first | exact HB.out | apply below_alloc | apply pw_below_drewN | apply below_drew1 | refine below_set ?_ GE1053.out | refine below_set ?_ GE1061.out | refine below_set ?_ GE1069.out | refine below_set ?_ GE1074.out) | exact HB.out)) hb); clear BK1053; clear BK1061; clear BK1069; clear BK1074; clear HB; have BK1053 := n0_; have BK1061 := n1_; have BK1069 := n2_; have BK1074 := n3_; have HB := n4_; clear n0_ n1_ n2_ n3_ n4_; (try clear hb); (try clear hb2); (try clear hk); (try clear hi)) | ((with_reducible refine gate_dst (N := 10) rfl ?_); refine box_event ?hg (N := 10) ?hd (cs := #[.int .u64 0, .int .u64 0]) (t := 25) ?hr ?_; (case hd => rfl); (case hg => rfl); (case hr => first | (go_simp; done) | (go_simp; rfl)); intro gb1081 hg w47 hbox hb; have n0_ := Aside0.mk (blk_below (g := gb1053) (o := .cells #[.int .u64 t1050, .int .u64 t1051] 25 (0, 0)) (by (with_reducible repeat (first | refine blk_drewN ?_ _ | refine blk_drew ?_ | refine blk_alloc ?_ _)); exact BK1053.out) hb); have n1_ := Aside0.mk (blk_below (g := gb1061) (o := .cells #[.int .u64 t1058, .int .u64 t1059] 25 (0, 0)) (by (with_reducible repeat (first | refine blk_drewN ?_ _ | refine blk_drew ?_ | refine blk_alloc ?_ _)); exact BK1061.out) hb); have n2_ := Aside0.mk (blk_below (g := gb1069) (o := .cells #[.int .u64 t1066, .int .u64 t1067] 25 (0, 0)) (by (with_reducible repeat (first | refine blk_drewN ?_ _ | refine blk_drew ?_ | refine blk_alloc ?_ _)); exact BK1069.out) hb); have n3_ := Aside0.mk (blk_below (g := gb1074) (o := .cells #[.int .u64 t1070, .int .u64 t1071] 25 (0, 0)) (by (with_reducible repeat (first | refine blk_drewN ?_ _ | refine blk_drew ?_ | refine blk_alloc ?_ _)); exact BK1074.out) hb); have n4_ := Aside0.mk (below_step (by repeat (first | (with_reducible first | exact HB.out | apply below_alloc | apply pw_below_drewN | apply below_drew1 | refine below_set ?_ GE1053.out | refine below_set ?_ GE1061.out | refine below_set ?_ GE1069.out | refine below_set ?_ GE1074.out) | exact HB.out)) hb); have n5_ := Aside0.mk (hbox); have n6_ := Aside0.mk ((by rw [hg]; exact (below_size (by repeat (first | (with_reducible first | exact HB.out | apply below_alloc | apply pw_below_drewN | apply below_drew1 | refine below_set ?_ GE1053.out | refine below_set ?_ GE1061.out | refine below_set ?_ GE1069.out | refine below_set ?_ GE1074.out) | exact HB.out))) : w.heap.size ≤ gb1081)); have n7_ := Aside0.mk ((by rw [hg]; exact (below_size (by repeat (first | (with_reducible first | exact HB.out | apply below_alloc | apply pw_below_drewN | apply below_drew1 | refine below_set ?_ GE1053.out | refine below_set ?_ GE1061.out | refine below_set ?_ GE1069.out | refine below_set ?_ GE1074.out) | exact HB.out))) : w.heap.size ≤ gb1081)); have n8_ := Aside0.mk ((by rw [hg]; exact Nat.ne_of_lt (blk_lt (g := gb1053) (o := .cells #[.int .u64 t1050, .int .u64 t1051] 25 (0, 0)) (by (with_reducible repeat (first | refine blk_drewN ?_ _ | refine blk_drew ?_ | refine blk_alloc ?_ _)); exact BK1053.out)) : gb1053 ≠ gb1081)); have n9_ := Aside0.mk ((by rw [hg]; exact Nat.ne_of_gt (blk_lt (g := gb1053) (o := .cells #[.int .u64 t1050, .int .u64 t1051] 25 (0, 0)) (by (with_reducible repeat (first | refine blk_drewN ?_ _ | refine blk_drew ?_ | refine blk_alloc ?_ _)); exact BK1053.out)) : gb1081 ≠ gb1053)); have n10_ := Aside0.mk ((by rw [hg]; exact Nat.ne_of_lt (blk_lt (g := gb1061) (o := .cells #[.int .u64 t1058, .int .u64 t1059] 25 (0, 0)) (by (with_reducible repeat (first | refine blk_drewN ?_ _ | refine blk_drew ?_ | refine blk_alloc ?_ _)); exact BK1061.out)) : gb1061 ≠ gb1081)); have n11_ := Aside0.mk ((by rw [hg]; exact Nat.ne_of_gt (blk_lt (g := gb1061) (o := .cells #[.int .u64 t1058, .int .u64 t1059] 25 (0, 0)) (by (with_reducible repeat (first | refine blk_drewN ?_ _ | refine blk_drew ?_ | refine blk_alloc ?_ _)); exact BK1061.out)) : gb1081 ≠ gb1061)); have n12_ := Aside0.mk ((by rw [hg]; exact Nat.ne_of_lt (blk_lt (g := gb1069) (o := .cells #[.int .u64 t1066, .int .u64 t1067] 25 (0, 0)) (by (with_reducible repeat (first | refine blk_drewN ?_ _ | refine blk_drew ?_ | refine blk_alloc ?_ _)); exact BK1069.out)) : gb1069 ≠ gb1081)); have n13_ := Aside0.mk ((by rw [hg]; exact Nat.ne_of_gt (blk_lt (g := gb1069) (o := .cells #[.int .u64 t1066, .int .u64 t1067] 25 (0, 0)) (by (with_reducible repeat (first | refine blk_drewN ?_ _ | refine blk_drew ?_ | refine blk_alloc ?_ _)); exact BK1069.out)) : gb1081 ≠ gb1069)); have n14_ := Aside0.mk ((by rw [hg]; exact Nat.ne_of_lt (blk_lt (g := gb1074) (o := .cells #[.int .u64 t1070, .int .u64 t1071] 25 (0, 0)) (by (with_reducible repeat (first | refine blk_drewN ?_ _ | refine blk_drew ?_ | refine blk_alloc ?_ _)); exact BK1074.out)) : gb1074 ≠ gb1081)); have n15_ := Aside0.mk ((by rw [hg]; exact Nat.ne_of_gt (blk_lt (g := gb1074) (o := .cells #[.int .u64 t1070, .int .u64 t1071] 25 (0, 0)) (by (with_reducible repeat (first | refine blk_drewN ?_ _ | refine blk_drew ?_ | refine blk_alloc ?_ _)); exact BK1074.out)) : gb1081 ≠ gb1074)); clear BK1053; clear BK1061; clear BK1069; clear BK1074; clear HB; have BK1053 := n0_; have BK1061 := n1_; have BK1069 := n2_; have BK1074 := n3_; have HB := n4_; have BK1081 := n5_; have GW1081 := n6_; have GE1081 := n7_; have NB1053_1081 := n8_; have NB1081_1053 := n9_; have NB1061_1081 := n10_; have NB1081_1061 := n11_; have NB1069_1081 := n12_; have NB1081_1069 := n13_; have NB1074_1081 := n14_; have NB1081_1074 := n15_; clear n0_ n1_ n2_ n3_ n4_ n5_ n6_ n7_ n8_ n9_ n10_ n11_ n12_ n13_ n14_ n15_; clear hb hbox hg; have hnb48 := NB1081_1053.out; have hnc48 := NB1053_1081.out; have hnb49 := NB1081_1061.out; have hnc49 := NB1061_1081.out; have hnb50 := NB1081_1069.out; have hnc50 := NB1069_1081.out; have hnb51 := NB1081_1074.out; have hnc51 := NB1074_1081.out; have hcz52_0 : w47.cell? ⟨gb1081, 0, none⟩ = some (.int .u64 0) := (blk_cell BK1081.out 0).trans rfl; have hcz52_1 : w47.cell? ⟨gb1081, 1, none⟩ = some (.int .u64 0) := (blk_cell BK1081.out 1).trans rfl; have hfz52_0 := blk_frozen BK1081.out 0; have hfz52_1 := blk_frozen BK1081.out 1))
                  have n0_ : Aside0 (((w47.setCell ⟨gb1081, 0, none⟩ (.int .u64 t1077)).setCell ⟨gb1081, 1, none⟩ (.int .u64 t1078)).heap[gb1053]? = some (.cells #[.int .u64 t1050, .int .u64 t1051] 25 (0, 0))) := ⟨by (with_reducible repeat (first | refine blk_drewN ?_ _ | refine blk_drew ?_ | refine blk_alloc ?_ _)); refine blk_far ?_ NB1053_1081.out _; (with_reducible repeat (first | refine blk_drewN ?_ _ | refine blk_drew ?_ | refine blk_alloc ?_ _)); refine blk_far ?_ NB1053_1081.out _; (with_reducible repeat (first | refine blk_drewN ?_ _ | refine blk_drew ?_ | refine blk_alloc ?_ _)); exact BK1053.out⟩
                  have n1_ : Aside0 (((w47.setCell ⟨gb1081, 0, none⟩ (.int .u64 t1077)).setCell ⟨gb1081, 1, none⟩ (.int .u64 t1078)).heap[gb1061]? = some (.cells #[.int .u64 t1058, .int .u64 t1059] 25 (0, 0))) := ⟨by (with_reducible repeat (first | refine blk_drewN ?_ _ | refine blk_drew ?_ | refine blk_alloc ?_ _)); refine blk_far ?_ NB1061_1081.out _; (with_reducible repeat (first | refine blk_drewN ?_ _ | refine blk_drew ?_ | refine blk_alloc ?_ _)); refine blk_far ?_ NB1061_1081.out _; (with_reducible repeat (first | refine blk_drewN ?_ _ | refine blk_drew ?_ | refine blk_alloc ?_ _)); exact BK1061.out⟩
                  have n2_ : Aside0 (((w47.setCell ⟨gb1081, 0, none⟩ (.int .u64 t1077)).setCell ⟨gb1081, 1, none⟩ (.int .u64 t1078)).heap[gb1069]? = some (.cells #[.int .u64 t1066, .int .u64 t1067] 25 (0, 0))) := ⟨by (with_reducible repeat (first | refine blk_drewN ?_ _ | refine blk_drew ?_ | refine blk_alloc ?_ _)); refine blk_far ?_ NB1069_1081.out _; (with_reducible repeat (first | refine blk_drewN ?_ _ | refine blk_drew ?_ | refine blk_alloc ?_ _)); refine blk_far ?_ NB1069_1081.out _; (with_reducible repeat (first | refine blk_drewN ?_ _ | refine blk_drew ?_ | refine blk_alloc ?_ _)); exact BK1069.out⟩
                  have n3_ : Aside0 (((w47.setCell ⟨gb1081, 0, none⟩ (.int .u64 t1077)).setCell ⟨gb1081, 1, none⟩ (.int .u64 t1078)).heap[gb1074]? = some (.cells #[.int .u64 t1070, .int .u64 t1071] 25 (0, 0))) := ⟨by (with_reducible repeat (first | refine blk_drewN ?_ _ | refine blk_drew ?_ | refine blk_alloc ?_ _)); refine blk_far ?_ NB1074_1081.out _; (with_reducible repeat (first | refine blk_drewN ?_ _ | refine blk_drew ?_ | refine blk_alloc ?_ _)); refine blk_far ?_ NB1074_1081.out _; (with_reducible repeat (first | refine blk_drewN ?_ _ | refine blk_drew ?_ | refine blk_alloc ?_ _)); exact BK1074.out⟩
                  have n4_ : Aside0 (((w47.setCell ⟨gb1081, 0, none⟩ (.int .u64 t1077)).setCell ⟨gb1081, 1, none⟩ (.int .u64 t1078)).heap[gb1081]? = some (.cells #[.int .u64 t1077, .int .u64 t1078] 25 (0, 0))) := ⟨by (with_reducible repeat (first | refine blk_drewN ?_ _ | refine blk_drew ?_ | refine blk_alloc ?_ _)); refine blk_put (cs := #[.int .u64 t1077, .int .u64 0]) ?_ 1 _ rfl; (with_reducible repeat (first | refine blk_drewN ?_ _ | refine blk_drew ?_ | refine blk_alloc ?_ _)); refine blk_put (cs := #[.int .u64 0, .int .u64 0]) ?_ 0 _ rfl; (with_reducible repeat (first | refine blk_drewN ?_ _ | refine blk_drew ?_ | refine blk_alloc ?_ _)); exact BK1081.out⟩
                  have n5_ : Aside0 (Below w.heap.size w ((w47.setCell ⟨gb1081, 0, none⟩ (.int .u64 t1077)).setCell ⟨gb1081, 1, none⟩ (.int .u64 t1078))) := ⟨by repeat (first | (with_reducible first | exact HB.out | apply below_alloc | apply pw_below_drewN | apply below_drew1 | refine below_set ?_ GE1053.out | refine below_set ?_ GE1061.out | refine below_set ?_ GE1069.out | refine below_set ?_ GE1074.out | refine below_set ?_ GE1081.out) | exact HB.out)⟩
                  (try clear BK1053)
                  (try clear BK1061)
                  (try clear BK1069)
                  (try clear BK1074)
                  (try clear BK1081)
                  (try clear HB)
                  generalize ((w47.setCell ⟨gb1081, 0, none⟩ (.int .u64 t1077)).setCell ⟨gb1081, 1, none⟩ (.int .u64 t1078)) = w53 at n0_ n1_ n2_ n3_ n4_ n5_ ⊢
                  have BK1053 := n0_
                  have BK1061 := n1_
                  have BK1069 := n2_
                  have BK1074 := n3_
                  have BK1081 := n4_
                  have HB := n5_
                  clear n0_ n1_ n2_ n3_ n4_ n5_
                  have n0_ := Aside0.mk (blk_drew BK1053.out)
                  have n1_ := Aside0.mk (blk_drew BK1061.out)
                  have n2_ := Aside0.mk (blk_drew BK1069.out)
                  have n3_ := Aside0.mk (blk_drew BK1074.out)
                  have n4_ := Aside0.mk (blk_drew BK1081.out)
                  have n5_ := Aside0.mk (below_drew1 HB.out)
                  clear BK1053
                  clear BK1061
                  clear BK1069
                  clear BK1074
                  clear BK1081
                  clear HB
                  have BK1053 := n0_
                  have BK1061 := n1_
                  have BK1069 := n2_
                  have BK1074 := n3_
                  have BK1081 := n4_
                  have HB := n5_
                  clear n0_ n1_ n2_ n3_ n4_ n5_
                  refine start_ (n := 38) (S := fun w' => w'.cell? ⟨gb1053, 0, none⟩ = some (.int .u64 t1050) ∧ w'.cell? ⟨gb1053, 1, none⟩ = some (.int .u64 t1051) ∧ w'.cell? ⟨gb1074, 0, none⟩ = some (.int .u64 t1070) ∧ w'.cell? ⟨gb1074, 1, none⟩ = some (.int .u64 t1071)) (ds := []) #[false, false, false, false, false, false, false, false, false, false, false, false, false, false, false, false, false, false, false, false, false, false, false, false, false, false, false, false, false, false, false, false, false, false, false, false, false, false] (by kernel_rfl) rfl rfl ⟨(blk_cell BK1053.out 0).trans rfl, (blk_cell BK1053.out 1).trans rfl, (blk_cell BK1074.out 0).trans rfl, (blk_cell BK1074.out 1).trans rfl⟩ (fun hHeld => ?_); refine with_tabW paymasterlaw01_awake.tab6 paymasterlaw01_awake.bits6 (fun HT_ HW_ => ?_)
                  generalize w53.drew = w54 at BK1053 BK1061 BK1069 BK1074 BK1081 HB hHeld ⊢
                  refine pure_ (i := 1) (N := some 44) (v := ?_) (a' := ?_) #[false, true, false, false, false, false, false, false, false, false, false, false, false, false, false, false, false, false, false, false, false, false, false, false, false, false, false, false, false, false, false, false, false, false, false, false, false, false] rfl rfl (any_of HT_.out (by kernel_rfl)) (fun _ _ _ h => h) (Or.inl ⟨by rfl, ?_⟩) ?_ ?_
                  rotate_left
                  · intro w'
                    go_simp
                    with_reducible rfl
                  rotate_left
                  · simp only [Act.put, List.setIfInBounds_toArray, List.set_cons_zero, List.set_cons_succ, i64_w, i32_w]
                    rfl
                  refine take_ (i := 0) (N := some 43) (v := ?_) (a' := ?_) #[true, true, false, false, false, false, false, false, false, false, false, false, false, false, false, false, false, false, false, false, false, false, false, false, false, false, false, false, false, false, false, false, false, false, false, false, false, false] rfl rfl (take_ofW HT_.out HW_.out (by kernel_rfl)) (fun _ _ _ h => h) (Or.inl ⟨by rfl, ?_⟩) hHeld ?_ ?_
                  rotate_left
                  · rintro w' ⟨s0, s1, s2, s3⟩
                    go_simp
                    with_reducible rfl
                  rotate_left
                  · simp only [Act.put, List.setIfInBounds_toArray, List.set_cons_zero, List.set_cons_succ, i64_w, i32_w]
                    rfl
                  refine pure_ (i := 2) (N := some 45) (v := ?_) (a' := ?_) #[true, true, true, false, false, false, false, false, false, false, false, false, false, false, false, false, false, false, false, false, false, false, false, false, false, false, false, false, false, false, false, false, false, false, false, false, false, false] rfl rfl (any_of HT_.out (by kernel_rfl)) (fun _ _ _ h => h) (Or.inl ⟨by rfl, ?_⟩) ?_ ?_
                  rotate_left
                  · intro w'
                    go_simp
                    with_reducible rfl
                  rotate_left
                  · simp only [Act.put, List.setIfInBounds_toArray, List.set_cons_zero, List.set_cons_succ, i64_w, i32_w]
                    rfl
                  refine pure_ (i := 3) (N := some 46) (v := ?_) (a' := ?_) #[true, true, true, true, false, false, false, false, false, false, false, false, false, false, false, false, false, false, false, false, false, false, false, false, false, false, false, false, false, false, false, false, false, false, false, false, false, false] rfl rfl (any_of HT_.out (by kernel_rfl)) (fun _ _ _ h => h) (Or.inl ⟨by rfl, ?_⟩) ?_ ?_
                  rotate_left
                  · intro w'
                    go_simp
                    with_reducible rfl
                  rotate_left
                  · simp only [Act.put, List.setIfInBounds_toArray, List.set_cons_zero, List.set_cons_succ, i64_w, i32_w]
                    rfl
                  refine pure_ (i := 4) (N := some 47) (v := ?_) (a' := ?_) #[true, true, true, true, true, false, false, false, false, false, false, false, false, false, false, false, false, false, false, false, false, false, false, false, false, false, false, false, false, false, false, false, false, false, false, false, false, false] rfl rfl (any_of HT_.out (by kernel_rfl)) (fun _ _ _ h => h) (Or.inl ⟨by rfl, ?_⟩) ?_ ?_
                  rotate_left
                  · intro w'
                    go_simp
                    with_reducible rfl
                  rotate_left
                  · simp only [Act.put, List.setIfInBounds_toArray, List.set_cons_zero, List.set_cons_succ, i64_w, i32_w]
                    rfl
                  refine pure_ (i := 5) (N := some 48) (v := ?_) (a' := ?_) #[true, true, true, true, true, true, false, false, false, false, false, false, false, false, false, false, false, false, false, false, false, false, false, false, false, false, false, false, false, false, false, false, false, false, false, false, false, false] rfl rfl (any_of HT_.out (by kernel_rfl)) (fun _ _ _ h => h) (Or.inl ⟨by rfl, ?_⟩) ?_ ?_
                  rotate_left
                  · intro w'
                    go_simp
                    with_reducible rfl
                  rotate_left
                  · simp only [Act.put, List.setIfInBounds_toArray, List.set_cons_zero, List.set_cons_succ, i64_w, i32_w]
                    rfl
                  refine pure_ (i := 6) (N := some 49) (v := ?_) (a' := ?_) #[true, true, true, true, true, true, true, false, false, false, false, false, false, false, false, false, false, false, false, false, false, false, false, false, false, false, false, false, false, false, false, false, false, false, false, false, false, false] rfl rfl (any_of HT_.out (by kernel_rfl)) (fun _ _ _ h => h) (Or.inl ⟨by rfl, ?_⟩) ?_ ?_
                  rotate_left
                  · intro w'
                    go_simp
                    with_reducible rfl
                  rotate_left
                  · simp only [Act.put, List.setIfInBounds_toArray, List.set_cons_zero, List.set_cons_succ, i64_w, i32_w]
                    rfl
                  refine pure_ (i := 7) (N := some 50) (v := ?_) (a' := ?_) #[true, true, true, true, true, true, true, true, false, false, false, false, false, false, false, false, false, false, false, false, false, false, false, false, false, false, false, false, false, false, false, false, false, false, false, false, false, false] rfl rfl (any_of HT_.out (by kernel_rfl)) (fun _ _ _ h => h) (Or.inl ⟨by rfl, ?_⟩) ?_ ?_
                  rotate_left
                  · intro w'
                    go_simp
                    with_reducible rfl
                  rotate_left
                  · simp only [Act.put, List.setIfInBounds_toArray, List.set_cons_zero, List.set_cons_succ, i64_w, i32_w]
                    rfl
                  refine pure_ (i := 8) (N := some 51) (v := ?_) (a' := ?_) #[true, true, true, true, true, true, true, true, true, false, false, false, false, false, false, false, false, false, false, false, false, false, false, false, false, false, false, false, false, false, false, false, false, false, false, false, false, false] rfl rfl (any_of HT_.out (by kernel_rfl)) (fun _ _ _ h => h) (Or.inl ⟨by rfl, ?_⟩) ?_ ?_
                  rotate_left
                  · intro w'
                    go_simp
                    with_reducible rfl
                  rotate_left
                  · simp only [Act.put, List.setIfInBounds_toArray, List.set_cons_zero, List.set_cons_succ, i64_w, i32_w]
                    rfl
                  refine pure_ (i := 9) (N := some 52) (v := ?_) (a' := ?_) #[true, true, true, true, true, true, true, true, true, true, false, false, false, false, false, false, false, false, false, false, false, false, false, false, false, false, false, false, false, false, false, false, false, false, false, false, false, false] rfl rfl (any_of HT_.out (by kernel_rfl)) (fun _ _ _ h => h) (Or.inl ⟨by rfl, ?_⟩) ?_ ?_
                  rotate_left
                  · intro w'
                    go_simp
                    with_reducible rfl
                  rotate_left
                  · simp only [Act.put, List.setIfInBounds_toArray, List.set_cons_zero, List.set_cons_succ, i64_w, i32_w]
                    rfl
                  refine pure_ (i := 10) (N := some 53) (v := ?_) (a' := ?_) #[true, true, true, true, true, true, true, true, true, true, true, false, false, false, false, false, false, false, false, false, false, false, false, false, false, false, false, false, false, false, false, false, false, false, false, false, false, false] rfl rfl (any_of HT_.out (by kernel_rfl)) (fun _ _ _ h => h) (Or.inl ⟨by rfl, ?_⟩) ?_ ?_
                  rotate_left
                  · intro w'
                    go_simp
                    with_reducible rfl
                  rotate_left
                  · simp only [Act.put, List.setIfInBounds_toArray, List.set_cons_zero, List.set_cons_succ, i64_w, i32_w]
                    rfl
                  refine pure_ (i := 11) (N := some 54) (v := ?_) (a' := ?_) #[true, true, true, true, true, true, true, true, true, true, true, true, false, false, false, false, false, false, false, false, false, false, false, false, false, false, false, false, false, false, false, false, false, false, false, false, false, false] rfl rfl (any_of HT_.out (by kernel_rfl)) (fun _ _ _ h => h) (Or.inl ⟨by rfl, ?_⟩) ?_ ?_
                  rotate_left
                  · intro w'
                    go_simp
                    with_reducible rfl
                  rotate_left
                  · simp only [Act.put, List.setIfInBounds_toArray, List.set_cons_zero, List.set_cons_succ, i64_w, i32_w]
                    rfl
                  refine pure_ (i := 12) (N := some 55) (v := ?_) (a' := ?_) #[true, true, true, true, true, true, true, true, true, true, true, true, true, false, false, false, false, false, false, false, false, false, false, false, false, false, false, false, false, false, false, false, false, false, false, false, false, false] rfl rfl (any_of HT_.out (by kernel_rfl)) (fun _ _ _ h => h) (Or.inl ⟨by rfl, ?_⟩) ?_ ?_
                  rotate_left
                  · intro w'
                    go_simp
                    with_reducible rfl
                  rotate_left
                  · simp only [Act.put, List.setIfInBounds_toArray, List.set_cons_zero, List.set_cons_succ, i64_w, i32_w]
                    rfl
                  refine pure_ (i := 13) (N := some 56) (v := ?_) (a' := ?_) #[true, true, true, true, true, true, true, true, true, true, true, true, true, true, false, false, false, false, false, false, false, false, false, false, false, false, false, false, false, false, false, false, false, false, false, false, false, false] rfl rfl (any_of HT_.out (by kernel_rfl)) (fun _ _ _ h => h) (Or.inl ⟨by rfl, ?_⟩) ?_ ?_
                  rotate_left
                  · intro w'
                    go_simp
                    with_reducible rfl
                  rotate_left
                  · simp only [Act.put, List.setIfInBounds_toArray, List.set_cons_zero, List.set_cons_succ, i64_w, i32_w]
                    rfl
                  refine pure_ (i := 14) (N := some 57) (v := ?_) (a' := ?_) #[true, true, true, true, true, true, true, true, true, true, true, true, true, true, true, false, false, false, false, false, false, false, false, false, false, false, false, false, false, false, false, false, false, false, false, false, false, false] rfl rfl (any_of HT_.out (by kernel_rfl)) (fun _ _ _ h => h) (Or.inl ⟨by rfl, ?_⟩) ?_ ?_
                  rotate_left
                  · intro w'
                    go_simp
                    with_reducible rfl
                  rotate_left
                  · simp only [Act.put, List.setIfInBounds_toArray, List.set_cons_zero, List.set_cons_succ, i64_w, i32_w]
                    rfl
                  refine pure_ (i := 15) (N := some 58) (v := ?_) (a' := ?_) #[true, true, true, true, true, true, true, true, true, true, true, true, true, true, true, true, false, false, false, false, false, false, false, false, false, false, false, false, false, false, false, false, false, false, false, false, false, false] rfl rfl (any_of HT_.out (by kernel_rfl)) (fun _ _ _ h => h) (Or.inl ⟨by rfl, ?_⟩) ?_ ?_
                  rotate_left
                  · intro w'
                    go_simp
                    with_reducible rfl
                  rotate_left
                  · simp only [Act.put, List.setIfInBounds_toArray, List.set_cons_zero, List.set_cons_succ, i64_w, i32_w]
                    rfl
                  refine take_ (i := 16) (N := some 59) (v := ?_) (a' := ?_) #[true, true, true, true, true, true, true, true, true, true, true, true, true, true, true, true, true, false, false, false, false, false, false, false, false, false, false, false, false, false, false, false, false, false, false, false, false, false] rfl rfl (take_ofW HT_.out HW_.out (by kernel_rfl)) (fun _ _ _ h => h) (Or.inl ⟨by rfl, ?_⟩) hHeld ?_ ?_
                  rotate_left
                  · rintro w' ⟨s0, s1, s2, s3⟩
                    go_simp
                    with_reducible rfl
                  rotate_left
                  · simp only [Act.put, List.setIfInBounds_toArray, List.set_cons_zero, List.set_cons_succ, i64_w, i32_w]
                    rfl
                  refine one_ (i := 17) (N := some 60) #[true, true, true, true, true, true, true, true, true, true, true, true, true, true, true, true, true, true, false, false, false, false, false, false, false, false, false, false, false, false, false, false, false, false, false, false, false, false] rfl rfl (one_of HT_.out (by kernel_rfl)) (by decide) (fun K hK => ?_)
                  refine goes_ Try.func51 (by kernel_rfl) rfl #[.int .u64 1844674407370955161] (by rfl) rfl rfl (by (try simp only [List.map_toArray, List.map_cons, List.map_nil]); first | done | rfl | (simp only [List.length_drop, List.length_take]; rfl)) ?_
                  with_reducible refine (u128_Of.calls 1844674407370955161 t1082 t1083 _ A16.out).mono ?_
                  rintro e w55 ⟨rfl, hb⟩
                  refine ⟨_, rfl, ?_⟩
                  have n0_ := Aside0.mk (blk_below (g := gb1053) (o := .cells #[.int .u64 t1050, .int .u64 t1051] 25 (0, 0)) (by (with_reducible repeat (first | refine blk_drewN ?_ _ | refine blk_drew ?_ | refine blk_alloc ?_ _)); exact BK1053.out) hb)
                  have n1_ := Aside0.mk (blk_below (g := gb1061) (o := .cells #[.int .u64 t1058, .int .u64 t1059] 25 (0, 0)) (by (with_reducible repeat (first | refine blk_drewN ?_ _ | refine blk_drew ?_ | refine blk_alloc ?_ _)); exact BK1061.out) hb)
                  have n2_ := Aside0.mk (blk_below (g := gb1069) (o := .cells #[.int .u64 t1066, .int .u64 t1067] 25 (0, 0)) (by (with_reducible repeat (first | refine blk_drewN ?_ _ | refine blk_drew ?_ | refine blk_alloc ?_ _)); exact BK1069.out) hb)
                  have n3_ := Aside0.mk (blk_below (g := gb1074) (o := .cells #[.int .u64 t1070, .int .u64 t1071] 25 (0, 0)) (by (with_reducible repeat (first | refine blk_drewN ?_ _ | refine blk_drew ?_ | refine blk_alloc ?_ _)); exact BK1074.out) hb)
                  have n4_ := Aside0.mk (blk_below (g := gb1081) (o := .cells #[.int .u64 t1077, .int .u64 t1078] 25 (0, 0)) (by (with_reducible repeat (first | refine blk_drewN ?_ _ | refine blk_drew ?_ | refine blk_alloc ?_ _)); exact BK1081.out) hb)
                  have n5_ := Aside0.mk (below_step (by repeat (first | (with_reducible first | exact HB.out | apply below_alloc | apply pw_below_drewN | apply below_drew1 | refine below_set ?_ GE1053.out | refine below_set ?_ GE1061.out | refine below_set ?_ GE1069.out | refine below_set ?_ GE1074.out | refine below_set ?_ GE1081.out) | exact HB.out)) hb)
                  clear BK1053
                  clear BK1061
                  clear BK1069
                  clear BK1074
                  clear BK1081
                  clear HB
                  have BK1053 := n0_
                  have BK1061 := n1_
                  have BK1069 := n2_
                  have BK1074 := n3_
                  have BK1081 := n4_
                  have HB := n5_
                  clear n0_ n1_ n2_ n3_ n4_ n5_
                  (try clear hb)
                  (try clear hb2)
                  (try clear hk)
                  (try clear hi)
                  refine hK.out _ _ ⟨(blk_cell BK1053.out 0).trans rfl, (blk_cell BK1053.out 1).trans rfl, (blk_cell BK1074.out 0).trans rfl, (blk_cell BK1074.out 1).trans rfl⟩ (fun hHeld => ?_)
                  clear hK K
                  refine norm_ (a' := ?_) ?_ ?_
                  rotate_left
                  · show Act.put _ (some 60) _ = _
                    simp only [Act.put, List.setIfInBounds_toArray, List.set_cons_zero, List.set_cons_succ, i64_w, i32_w]
                    rfl
                  refine pure_ (i := 18) (N := some 61) (v := ?_) (a' := ?_) #[true, true, true, true, true, true, true, true, true, true, true, true, true, true, true, true, true, true, true, false, false, false, false, false, false, false, false, false, false, false, false, false, false, false, false, false, false, false] rfl rfl (any_of HT_.out (by kernel_rfl)) (fun _ _ _ h => h) (Or.inl ⟨by rfl, ?_⟩) ?_ ?_
                  rotate_left
                  · intro w'
                    go_simp
                    with_reducible rfl
                  rotate_left
                  · simp only [Act.put, List.setIfInBounds_toArray, List.set_cons_zero, List.set_cons_succ, i64_w, i32_w]
                    rfl
                  refine pure_ (i := 19) (N := some 62) (v := ?_) (a' := ?_) #[true, true, true, true, true, true, true, true, true, true, true, true, true, true, true, true, true, true, true, true, false, false, false, false, false, false, false, false, false, false, false, false, false, false, false, false, false, false] rfl rfl (any_of HT_.out (by kernel_rfl)) (fun _ _ _ h => h) (Or.inl ⟨by rfl, ?_⟩) ?_ ?_
                  rotate_left
                  · intro w'
                    go_simp
                    with_reducible rfl
                  rotate_left
                  · simp only [Act.put, List.setIfInBounds_toArray, List.set_cons_zero, List.set_cons_succ, i64_w, i32_w]
                    rfl
                  refine pure_ (i := 20) (N := some 63) (v := ?_) (a' := ?_) #[true, true, true, true, true, true, true, true, true, true, true, true, true, true, true, true, true, true, true, true, true, false, false, false, false, false, false, false, false, false, false, false, false, false, false, false, false, false] rfl rfl (any_of HT_.out (by kernel_rfl)) (fun _ _ _ h => h) (Or.inl ⟨by rfl, ?_⟩) ?_ ?_
                  rotate_left
                  · intro w'
                    go_simp
                    with_reducible rfl
                  rotate_left
                  · simp only [Act.put, List.setIfInBounds_toArray, List.set_cons_zero, List.set_cons_succ, i64_w, i32_w]
                    rfl
                  refine pure_ (i := 21) (N := some 64) (v := ?_) (a' := ?_) #[true, true, true, true, true, true, true, true, true, true, true, true, true, true, true, true, true, true, true, true, true, true, false, false, false, false, false, false, false, false, false, false, false, false, false, false, false, false] rfl rfl (any_of HT_.out (by kernel_rfl)) (fun _ _ _ h => h) (Or.inl ⟨by rfl, ?_⟩) ?_ ?_
                  rotate_left
                  · intro w'
                    go_simp
                    with_reducible rfl
                  rotate_left
                  · simp only [Act.put, List.setIfInBounds_toArray, List.set_cons_zero, List.set_cons_succ, i64_w, i32_w]
                    rfl
                  refine pure_ (i := 22) (N := some 65) (v := ?_) (a' := ?_) #[true, true, true, true, true, true, true, true, true, true, true, true, true, true, true, true, true, true, true, true, true, true, true, false, false, false, false, false, false, false, false, false, false, false, false, false, false, false] rfl rfl (any_of HT_.out (by kernel_rfl)) (fun _ _ _ h => h) (Or.inl ⟨by rfl, ?_⟩) ?_ ?_
                  rotate_left
                  · intro w'
                    go_simp
                    with_reducible rfl
                  rotate_left
                  · simp only [Act.put, List.setIfInBounds_toArray, List.set_cons_zero, List.set_cons_succ, i64_w, i32_w]
                    rfl
                  refine pure_ (i := 23) (N := some 66) (v := ?_) (a' := ?_) #[true, true, true, true, true, true, true, true, true, true, true, true, true, true, true, true, true, true, true, true, true, true, true, true, false, false, false, false, false, false, false, false, false, false, false, false, false, false] rfl rfl (any_of HT_.out (by kernel_rfl)) (fun _ _ _ h => h) (Or.inl ⟨by rfl, ?_⟩) ?_ ?_
                  rotate_left
                  · intro w'
                    go_simp
                    with_reducible rfl
                  rotate_left
                  · simp only [Act.put, List.setIfInBounds_toArray, List.set_cons_zero, List.set_cons_succ, i64_w, i32_w]
                    rfl
                  refine pure_ (i := 24) (N := some 67) (v := ?_) (a' := ?_) #[true, true, true, true, true, true, true, true, true, true, true, true, true, true, true, true, true, true, true, true, true, true, true, true, true, false, false, false, false, false, false, false, false, false, false, false, false, false] rfl rfl (any_of HT_.out (by kernel_rfl)) (fun _ _ _ h => h) (Or.inl ⟨by rfl, ?_⟩) ?_ ?_
                  rotate_left
                  · intro w'
                    go_simp
                    with_reducible rfl
                  rotate_left
                  · simp only [Act.put, List.setIfInBounds_toArray, List.set_cons_zero, List.set_cons_succ, i64_w, i32_w]
                    rfl
                  refine pure_ (i := 25) (N := some 68) (v := ?_) (a' := ?_) #[true, true, true, true, true, true, true, true, true, true, true, true, true, true, true, true, true, true, true, true, true, true, true, true, true, true, false, false, false, false, false, false, false, false, false, false, false, false] rfl rfl (any_of HT_.out (by kernel_rfl)) (fun _ _ _ h => h) (Or.inl ⟨by rfl, ?_⟩) ?_ ?_
                  rotate_left
                  · intro w'
                    go_simp
                    with_reducible rfl
                  rotate_left
                  · simp only [Act.put, List.setIfInBounds_toArray, List.set_cons_zero, List.set_cons_succ, i64_w, i32_w]
                    rfl
                  refine pure_ (i := 26) (N := some 69) (v := ?_) (a' := ?_) #[true, true, true, true, true, true, true, true, true, true, true, true, true, true, true, true, true, true, true, true, true, true, true, true, true, true, true, false, false, false, false, false, false, false, false, false, false, false] rfl rfl (any_of HT_.out (by kernel_rfl)) (fun _ _ _ h => h) (Or.inl ⟨by rfl, ?_⟩) ?_ ?_
                  rotate_left
                  · intro w'
                    go_simp
                    with_reducible rfl
                  rotate_left
                  · simp only [Act.put, List.setIfInBounds_toArray, List.set_cons_zero, List.set_cons_succ, i64_w, i32_w]
                    rfl
                  refine pure_ (i := 27) (N := some 70) (v := ?_) (a' := ?_) #[true, true, true, true, true, true, true, true, true, true, true, true, true, true, true, true, true, true, true, true, true, true, true, true, true, true, true, true, false, false, false, false, false, false, false, false, false, false] rfl rfl (any_of HT_.out (by kernel_rfl)) (fun _ _ _ h => h) (Or.inl ⟨by rfl, ?_⟩) ?_ ?_
                  rotate_left
                  · intro w'
                    go_simp
                    with_reducible rfl
                  rotate_left
                  · simp only [Act.put, List.setIfInBounds_toArray, List.set_cons_zero, List.set_cons_succ, i64_w, i32_w]
                    rfl
                  refine pure_ (i := 28) (N := some 71) (v := ?_) (a' := ?_) #[true, true, true, true, true, true, true, true, true, true, true, true, true, true, true, true, true, true, true, true, true, true, true, true, true, true, true, true, true, false, false, false, false, false, false, false, false, false] rfl rfl (any_of HT_.out (by kernel_rfl)) (fun _ _ _ h => h) (Or.inl ⟨by rfl, ?_⟩) ?_ ?_
                  rotate_left
                  · intro w'
                    go_simp
                    with_reducible rfl
                  rotate_left
                  · simp only [Act.put, List.setIfInBounds_toArray, List.set_cons_zero, List.set_cons_succ, i64_w, i32_w]
                    rfl
                  refine pure_ (i := 29) (N := some 72) (v := ?_) (a' := ?_) #[true, true, true, true, true, true, true, true, true, true, true, true, true, true, true, true, true, true, true, true, true, true, true, true, true, true, true, true, true, true, false, false, false, false, false, false, false, false] rfl rfl (any_of HT_.out (by kernel_rfl)) (fun _ _ _ h => h) (Or.inl ⟨by rfl, ?_⟩) ?_ ?_
                  rotate_left
                  · intro w'
                    go_simp
                    with_reducible rfl
                  rotate_left
                  · simp only [Act.put, List.setIfInBounds_toArray, List.set_cons_zero, List.set_cons_succ, i64_w, i32_w]
                    rfl
                  refine pure_ (i := 30) (N := some 73) (v := ?_) (a' := ?_) #[true, true, true, true, true, true, true, true, true, true, true, true, true, true, true, true, true, true, true, true, true, true, true, true, true, true, true, true, true, true, true, false, false, false, false, false, false, false] rfl rfl (any_of HT_.out (by kernel_rfl)) (fun _ _ _ h => h) (Or.inl ⟨by rfl, ?_⟩) ?_ ?_
                  rotate_left
                  · intro w'
                    go_simp
                    with_reducible rfl
                  rotate_left
                  · simp only [Act.put, List.setIfInBounds_toArray, List.set_cons_zero, List.set_cons_succ, i64_w, i32_w]
                    rfl
                  refine pure_ (i := 31) (N := some 74) (v := ?_) (a' := ?_) #[true, true, true, true, true, true, true, true, true, true, true, true, true, true, true, true, true, true, true, true, true, true, true, true, true, true, true, true, true, true, true, true, false, false, false, false, false, false] rfl rfl (any_of HT_.out (by kernel_rfl)) (fun _ _ _ h => h) (Or.inl ⟨by rfl, ?_⟩) ?_ ?_
                  rotate_left
                  · intro w'
                    go_simp
                    with_reducible rfl
                  rotate_left
                  · simp only [Act.put, List.setIfInBounds_toArray, List.set_cons_zero, List.set_cons_succ, i64_w, i32_w]
                    rfl
                  refine pure_ (i := 32) (N := some 75) (v := ?_) (a' := ?_) #[true, true, true, true, true, true, true, true, true, true, true, true, true, true, true, true, true, true, true, true, true, true, true, true, true, true, true, true, true, true, true, true, true, false, false, false, false, false] rfl rfl (any_of HT_.out (by kernel_rfl)) (fun _ _ _ h => h) (Or.inl ⟨by rfl, ?_⟩) ?_ ?_
                  rotate_left
                  · intro w'
                    go_simp
                    with_reducible rfl
                  rotate_left
                  · simp only [Act.put, List.setIfInBounds_toArray, List.set_cons_zero, List.set_cons_succ, i64_w, i32_w]
                    rfl
                  refine pure_ (i := 33) (N := some 76) (v := ?_) (a' := ?_) #[true, true, true, true, true, true, true, true, true, true, true, true, true, true, true, true, true, true, true, true, true, true, true, true, true, true, true, true, true, true, true, true, true, true, false, false, false, false] rfl rfl (any_of HT_.out (by kernel_rfl)) (fun _ _ _ h => h) (Or.inl ⟨by rfl, ?_⟩) ?_ ?_
                  rotate_left
                  · intro w'
                    go_simp
                    with_reducible rfl
                  rotate_left
                  · simp only [Act.put, List.setIfInBounds_toArray, List.set_cons_zero, List.set_cons_succ, i64_w, i32_w]
                    rfl
                  refine one_ (i := 34) (N := some 77) #[true, true, true, true, true, true, true, true, true, true, true, true, true, true, true, true, true, true, true, true, true, true, true, true, true, true, true, true, true, true, true, true, true, true, true, false, false, false] rfl rfl (one_of HT_.out (by kernel_rfl)) (by decide) (fun K hK => ?_)
                  refine goes_ Try.func31 (by kernel_rfl) rfl #[.agg #[.int .u64 1, .int .u64 258]] (by rfl) rfl rfl (by (try simp only [List.map_toArray, List.map_cons, List.map_nil]); first | done | rfl | (simp only [List.length_drop, List.length_take]; rfl)) ?_
                  with_reducible refine (u128_Bytes.calls 1 258 t1084 _ A21.out).mono ?_
                  rintro e w56 ⟨rfl, hb⟩
                  refine ⟨_, rfl, ?_⟩
                  have n0_ := Aside0.mk (blk_below (g := gb1053) (o := .cells #[.int .u64 t1050, .int .u64 t1051] 25 (0, 0)) (by (with_reducible repeat (first | refine blk_drewN ?_ _ | refine blk_drew ?_ | refine blk_alloc ?_ _)); exact BK1053.out) hb)
                  have n1_ := Aside0.mk (blk_below (g := gb1061) (o := .cells #[.int .u64 t1058, .int .u64 t1059] 25 (0, 0)) (by (with_reducible repeat (first | refine blk_drewN ?_ _ | refine blk_drew ?_ | refine blk_alloc ?_ _)); exact BK1061.out) hb)
                  have n2_ := Aside0.mk (blk_below (g := gb1069) (o := .cells #[.int .u64 t1066, .int .u64 t1067] 25 (0, 0)) (by (with_reducible repeat (first | refine blk_drewN ?_ _ | refine blk_drew ?_ | refine blk_alloc ?_ _)); exact BK1069.out) hb)
                  have n3_ := Aside0.mk (blk_below (g := gb1074) (o := .cells #[.int .u64 t1070, .int .u64 t1071] 25 (0, 0)) (by (with_reducible repeat (first | refine blk_drewN ?_ _ | refine blk_drew ?_ | refine blk_alloc ?_ _)); exact BK1074.out) hb)
                  have n4_ := Aside0.mk (blk_below (g := gb1081) (o := .cells #[.int .u64 t1077, .int .u64 t1078] 25 (0, 0)) (by (with_reducible repeat (first | refine blk_drewN ?_ _ | refine blk_drew ?_ | refine blk_alloc ?_ _)); exact BK1081.out) hb)
                  have n5_ := Aside0.mk (below_step (by repeat (first | (with_reducible first | exact HB.out | apply below_alloc | apply pw_below_drewN | apply below_drew1 | refine below_set ?_ GE1053.out | refine below_set ?_ GE1061.out | refine below_set ?_ GE1069.out | refine below_set ?_ GE1074.out | refine below_set ?_ GE1081.out) | exact HB.out)) hb)
                  clear BK1053
                  clear BK1061
                  clear BK1069
                  clear BK1074
                  clear BK1081
                  clear HB
                  have BK1053 := n0_
                  have BK1061 := n1_
                  have BK1069 := n2_
                  have BK1074 := n3_
                  have BK1081 := n4_
                  have HB := n5_
                  clear n0_ n1_ n2_ n3_ n4_ n5_
                  (try clear hb)
                  (try clear hb2)
                  (try clear hk)
                  (try clear hi)
                  refine hK.out _ _ ⟨(blk_cell BK1053.out 0).trans rfl, (blk_cell BK1053.out 1).trans rfl, (blk_cell BK1074.out 0).trans rfl, (blk_cell BK1074.out 1).trans rfl⟩ (fun hHeld => ?_)
                  clear hK K
                  refine norm_ (a' := ?_) ?_ ?_
                  rotate_left
                  · show Act.put _ (some 77) _ = _
                    simp only [Act.put, List.setIfInBounds_toArray, List.set_cons_zero, List.set_cons_succ, i64_w, i32_w]
                    rfl
                  refine pure_ (i := 35) (N := some 78) (v := ?_) (a' := ?_) #[true, true, true, true, true, true, true, true, true, true, true, true, true, true, true, true, true, true, true, true, true, true, true, true, true, true, true, true, true, true, true, true, true, true, true, true, false, false] rfl rfl (any_of HT_.out (by kernel_rfl)) (fun _ _ _ h => h) (Or.inl ⟨by rfl, ?_⟩) ?_ ?_
                  rotate_left
                  · intro w'
                    go_simp
                    with_reducible rfl
                  rotate_left
                  · simp only [Act.put, List.setIfInBounds_toArray, List.set_cons_zero, List.set_cons_succ, i64_w, i32_w]
                    rfl
                  refine pure_ (i := 36) (N := some 79) (v := ?_) (a' := ?_) #[true, true, true, true, true, true, true, true, true, true, true, true, true, true, true, true, true, true, true, true, true, true, true, true, true, true, true, true, true, true, true, true, true, true, true, true, true, false] rfl rfl (any_of HT_.out (by kernel_rfl)) (fun _ _ _ h => h) (Or.inl ⟨by rfl, ?_⟩) ?_ ?_
                  rotate_left
                  · intro w'
                    go_simp
                    with_reducible rfl
                  rotate_left
                  · simp only [Act.put, List.setIfInBounds_toArray, List.set_cons_zero, List.set_cons_succ, i64_w, i32_w]
                    rfl
                  refine pure_ (i := 37) (N := some 0) (v := ?_) (a' := ?_) #[true, true, true, true, true, true, true, true, true, true, true, true, true, true, true, true, true, true, true, true, true, true, true, true, true, true, true, true, true, true, true, true, true, true, true, true, true, true] rfl rfl (any_of HT_.out (by kernel_rfl)) (fun _ _ _ h => h) (Or.inl ⟨by rfl, ?_⟩) ?_ ?_
                  rotate_left
                  · intro w'
                    go_simp
                    with_reducible rfl
                  rotate_left
                  · simp only [Act.put, List.setIfInBounds_toArray, List.set_cons_zero, List.set_cons_succ, i64_w, i32_w]
                    rfl
                  refine done_ (done_of HT_.out (by kernel_rfl)) ?_
                  try go_wp2
                  go_ret
                  exact ⟨by first | rfl | (simp [errW_none, errW_some] <;> rfl) | (simp [*, errW_none, errW_some] <;> rfl), by repeat (first | (with_reducible first | exact HB.out | apply below_alloc | apply pw_below_drewN | apply below_drew1 | refine below_set ?_ GE1053.out | refine below_set ?_ GE1061.out | refine below_set ?_ GE1069.out | refine below_set ?_ GE1074.out | refine below_set ?_ GE1081.out) | exact HB.out)⟩
                · rw [if_neg c20] at H
                  have c20b0 : (t1080 == 2) = false := beq_eq_false_iff_ne.mpr c20
                  have c20b1 : (t1080 != 2) = true := bne_iff_ne.mpr c20
                  exact absurd H (by simp)
              · rw [if_neg c19] at H
                have c19b0 : (t1073 == 0) = false := beq_eq_false_iff_ne.mpr c19
                have c19b1 : (t1073 != 0) = true := bne_iff_ne.mpr c19
                exact absurd H (by simp)
            · rw [if_neg c18] at H
              have c18b0 : (t1072 == 9) = false := beq_eq_false_iff_ne.mpr c18
              have c18b1 : (t1072 != 9) = true := bne_iff_ne.mpr c18
              exact absurd H (by simp)
          · rw [if_neg c17] at H
            have c17b0 : (t1070 == t1082 && (t1071 == t1083)) = false := by simpa using c17
            (try (have c17b1 : decide (t1070 = t1082 && (t1071 == t1083)) = false := by simpa using c17))
            (try (have c17b2 : (t1070 == t1082 && (t1071 == t1083)) = false := by simpa using c17))
            (try (have c17b3 : ¬ (t1070 = t1082 && (t1071 == t1083)) := by simpa using c17))
            clear c17
            exact absurd H (by simp)
        · rw [if_neg c15] at H
          have c15b0 : (t1068 == 10) = false := beq_eq_false_iff_ne.mpr c15
          have c15b1 : (t1068 != 10) = true := bne_iff_ne.mpr c15
          exact absurd H (by simp)
      · rw [if_neg c14] at H
        have c14b0 : (t1060 == 10) = false := beq_eq_false_iff_ne.mpr c14
        have c14b1 : (t1060 != 10) = true := bne_iff_ne.mpr c14
        exact absurd H (by simp)
    · rw [if_neg c13] at H
      have c13b0 : (t1052 == 0) = false := beq_eq_false_iff_ne.mpr c13
      have c13b1 : (t1052 != 0) = true := bne_iff_ne.mpr c13
      exact absurd H (by simp)
  · rw [if_neg c12] at H
    have c12b0 : (t1050 == 1 && (t1051 == 0)) = false := by simpa using c12
    (try (have c12b1 : decide (t1050 = 1 && (t1051 == 0)) = false := by simpa using c12))
    (try (have c12b2 : (t1050 == 1 && (t1051 == 0)) = false := by simpa using c12))
    (try (have c12b3 : ¬ (t1050 = 1 && (t1051 == 0)) := by simpa using c12))
    clear c12
    exact absurd H (by simp)
end Go.Proofs.Ytpkjpiphjdpegaa.P
namespace Go.Proofs.Ytpkjpiphjdpegaa.P
open Go.RowKit Go.Proofs.YtpkjpiphjdpegaaW.PrintWords Go.Proofs.YtpkjpiphjdpegaaW.PrintLast Go.Proofs.YtpkjpiphjdpegaaW.PrintMore
attribute [local go_sem] max2_int min2_int max_two min_two max_three min_three max_four min_four
set_option linter.unusedVariables false
set_option linter.unusedSimpArgs false
attribute [local go_sem high] eqA25
mutual
def paymasterlaw01_U128Sums.l0 : Nat → List (S25) → Int → List (S25) → Int → Option (Bool)
  | 0, _, _, _, _ => none
  | k + 1, x0, x1, x5, x6 => if x6 ≥ 0 then (if 0 ≤ x6 then (if x6 < (x0.length : Int) then (if x5.length < 8796093022208 then (paymasterlaw01_U128Sums.l0 k x0 x1 (x5 ++ [(⟨(rd_T25 x0 x6).f0, (rd_T25 x0 x6).f1⟩ : S25)]) (wrap64 (x6 - 1))) else (none)) else (none)) else (none)) else ((u128_Sum.f k x0).bind fun bt1326 => ((u128_Sum.f k x5).bind fun bt1330 => (if (IntKind.u64.wrap (wrap64 ((x0.length : Int) + 1))) = 0 then (none) else (if 0 ≤ (wrap64 (Int.tmod (IntKind.u64.wrap (x1)) (IntKind.u64.wrap (wrap64 ((x0.length : Int) + 1))))) then (if (wrap64 (Int.tmod (IntKind.u64.wrap (x1)) (IntKind.u64.wrap (wrap64 ((x0.length : Int) + 1))))) ≤ (x0.length : Int) then ((u128_Sum.f k (x0.take ((wrap64 (Int.tmod (IntKind.u64.wrap (x1)) (IntKind.u64.wrap (wrap64 ((x0.length : Int) + 1))))) : Int).toNat)).bind fun bt1338 => ((u128_Sum.f k (x0.drop ((wrap64 (Int.tmod (IntKind.u64.wrap (x1)) (IntKind.u64.wrap (wrap64 ((x0.length : Int) + 1))))) : Int).toNat)).bind fun bt1346 => ((u128_Add.f bt1338.1 bt1338.2.1 bt1346.1 bt1346.2.1).bind fun bt1350 => (if (!(bt1326.1 == bt1330.1) || (!(bt1326.2.1 == bt1330.2.1))) = true then (none) else (if bt1326.2.2 = bt1330.2.2 then (if bt1338.2.2 = 0 then (if bt1346.2.2 = 0 then (paymasterlaw01_U128Sums.j1 k x0 bt1326.2.2 ((bt1326.2.2 == 0) != (bt1350.2.2 == 0)) bt1326.1 bt1326.2.1 bt1350.1 bt1350.2.1) else (paymasterlaw01_U128Sums.j1 k x0 bt1326.2.2 ((bt1326.2.2 == 0) != false) bt1326.1 bt1326.2.1 bt1350.1 bt1350.2.1)) else (paymasterlaw01_U128Sums.j1 k x0 bt1326.2.2 ((bt1326.2.2 == 0) != false) bt1326.1 bt1326.2.1 bt1350.1 bt1350.2.1)) else (none)))))) else (none)) else (none)))))
def paymasterlaw01_U128Sums.j1 : Nat → List (S25) → Int → Bool → Int → Int → Int → Int → Option (Bool)
  | 0, _, _, _, _, _, _, _ => none
  | k + 1, x0, x8, x98, x1330000, x1330001, x1354000, x1354001 => if x98 = true then (none) else (if x8 = 0 then (paymasterlaw01_U128Sums.l1 k x0 0 x1330000 x1330001 x1354000 x1354001) else (if x8 = 10 then (some (x1330000 == 0 && (x1330001 == 0))) else (none)))
def paymasterlaw01_U128Sums.l1 : Nat → List (S25) → Int → Int → Int → Int → Int → Option (Bool)
  | 0, _, _, _, _, _, _ => none
  | k + 1, x0, x18, x1330000, x1330001, x1354000, x1354001 => if x18 < (x0.length : Int) then (if 0 ≤ x18 then ((u128_Cmp.f k ((rd_T25 x0 x18).f0) ((rd_T25 x0 x18).f1) x1330000 x1330001).bind fun t1355 => (if t1355 > 0 then (none) else (paymasterlaw01_U128Sums.l1 k x0 (wrap64 (x18 + 1)) x1330000 x1330001 x1354000 x1354001))) else (none)) else (some (x1354000 == x1330000 && (x1354001 == x1330001)))
end
def paymasterlaw01_U128Sums.f (k : Nat) (l0 : List (S25)) (a1 : Int) : Option (Bool) := (paymasterlaw01_awake.f).bind fun t1293 => (if t1293 = true then (if (l0.length : Int) > 100 then (some true) else (paymasterlaw01_U128Sums.l0 k l0 a1 ([] : List (S25)) (wrap64 ((l0.length : Int) - 1)))) else (none))
set_option maxHeartbeats 8000000 in
set_option maxRecDepth 100000 in
theorem paymasterlaw01_U128Sums.calls (k : Nat) (A0 : Option Addr) (c0 : Nat) (l0 : List (S25)) (a1 : Int) (r : Bool) (w : World) (hr0 : Kd.C k25 w A0 l0.length l0) (hc0 : l0.length ≤ c0) (h : paymasterlaw01_U128Sums.f k l0 a1 = some r) :
    Calls Try.prog 15 #[.slice A0 l0.length c0, .int .i64 a1] w fun e w' => e = .returned (.bool r) ∧ Below w.heap.size w w' := by
  have hu25 := Try.underlying25
  have HR0 := Aside0.mk hr0
  have HC0 := Aside0.mk hc0
  have KC0 := Aside0.mk hc0
  clear hr0 hc0
  have HB := Aside0.mk (Below.refl w.heap.size w)
  have H : ((paymasterlaw01_awake.f).bind fun t1293 => (if t1293 = true then (if (l0.length : Int) > 100 then (some true) else (paymasterlaw01_U128Sums.l0 k l0 a1 ([] : List (S25)) (wrap64 ((l0.length : Int) - 1)))) else (none))) = some r := h
  clear h
  replace H := Option.bind_eq_some_iff.mp H
  obtain ⟨t1293, A30, H⟩ := H
  replace H : (if t1293 = true then (if (l0.length : Int) > 100 then (some true) else (paymasterlaw01_U128Sums.l0 k l0 a1 ([] : List (S25)) (wrap64 ((l0.length : Int) - 1)))) else (none)) = some r := H
  have A3 := Aside0.mk A30
  clear A30
  by_cases c4 : t1293 = true
  · subst c4
    have H1 : (if (l0.length : Int) > 100 then (some true) else (paymasterlaw01_U128Sums.l0 k l0 a1 ([] : List (S25)) (wrap64 ((l0.length : Int) - 1)))) = some r := by rw [if_pos rfl] at H; exact H
    clear H
    have H := H1
    clear H1
    by_cases c5 : (l0.length : Int) > 100
    · rw [if_pos c5] at H
      have c5b0 : decide (100 < (l0.length : Int)) = true := decide_eq_true c5
      have c5b1 : decide (100 < l0.length) = true := decide_eq_true (by omega)
      clear c5
      obtain rfl := Option.some.inj H
      go_enter Try.func15, Try.ntmps15
      go_wp2_with (first | ((with_reducible refine gate_callee (f := 66) rfl ?_); refine goesL_ (some 19) rfl rfl Try.func66 (by kernel_rfl) rfl #[] rfl (by (try simp only [List.map_toArray, List.map_cons, List.map_nil]); first | done | rfl | (simp only [List.length_drop, List.length_take]; rfl)) ?_; (with_reducible refine (paymasterlaw01_awake.calls  true _ A3.out).mono ?_); rintro e w6 ⟨rfl, hb⟩; refine ⟨_, rfl, ?_⟩; have n0_ := Aside0.mk (below_step (by repeat (first | (with_reducible first | exact HB.out | apply below_alloc | apply pw_below_drewN | apply below_drew1) | exact HB.out)) hb); clear HB; have HB := n0_; clear n0_; (try clear hb); (try clear hb2); (try clear hk); (try clear hi)))
      go_ret
      exact ⟨by first | rfl | (simp [errW_none, errW_some] <;> rfl) | (simp [*, errW_none, errW_some] <;> rfl), by repeat (first | (with_reducible first | exact HB.out | apply below_alloc | apply pw_below_drewN | apply below_drew1) | exact HB.out)⟩
    · rw [if_neg c5] at H
      have c5b0 : decide (100 < (l0.length : Int)) = false := decide_eq_false c5
      have c5b1 : decide (100 < l0.length) = false := decide_eq_false (by omega)
      clear c5
      have H' := Aside0.mk H
      clear H
      go_enter Try.func15, Try.ntmps15
      go_wp2_with (first | ((with_reducible refine gate_callee (f := 66) rfl ?_); refine goesL_ (some 19) rfl rfl Try.func66 (by kernel_rfl) rfl #[] rfl (by (try simp only [List.map_toArray, List.map_cons, List.map_nil]); first | done | rfl | (simp only [List.length_drop, List.length_take]; rfl)) ?_; (with_reducible refine (paymasterlaw01_awake.calls  true _ A3.out).mono ?_); rintro e w7 ⟨rfl, hb⟩; refine ⟨_, rfl, ?_⟩; have n0_ := Aside0.mk (below_step (by repeat (first | (with_reducible first | exact HB.out | apply below_alloc | apply pw_below_drewN | apply below_drew1) | exact HB.out)) hb); clear HB; have HB := n0_; clear n0_; (try clear hb); (try clear hb2); (try clear hk); (try clear hi)))
      go_loopg [5, 6] k (fun kq v5 v6 w' => ∃ (x5_1 : List (S25)) (x6_1 : Int), v6 = .int .i64 x6_1 ∧ Aside0 (paymasterlaw01_U128Sums.l0 kq l0 a1 x5_1 x6_1 = some r) ∧ Aside0 (kq ≤ k) ∧ Aside0 (Kd.R k25 25 w' w.heap.size (fun _ => True) v5 x5_1) ∧ Aside0 (Below w.heap.size w w'))
      case atStart => exact ⟨(([] : List (S25))), (wrap64 ((l0.length : Int) - 1)), (by first | rfl | (simp; done) | (simp [*]; done)), H', ⟨Nat.le_refl _⟩, ⟨by first | exact Kd.R_nil _ _ _ _ _ | exact Kd.N_nil _ _ _ _ _ | exact Kd.V_nil _ _ _ _ _ | exact Kd.Q_nil _ _ _ _ _ | exact Kd.S_nil _ _ _ _ _⟩, ⟨by repeat (first | (with_reducible first | exact HB.out | apply below_alloc | apply pw_below_drewN | apply below_drew1) | exact HB.out)⟩⟩
      case round =>
        clear H'
        try clear c1
        try clear p2
        try clear c4
        try clear c5
        try clear c5b0
        try clear c5b1
        try clear c6
        try clear p6
        obtain ⟨x5_1, x6_1, rfl, HA, HK1, HO_5, HB⟩ := hrel
        cases gk with
        | zero => exact absurd HA.out (by simp [paymasterlaw01_U128Sums.l0])
        | succ k1 =>
          have H := HA.out
          clear HA
          simp only [paymasterlaw01_U128Sums.l0] at H
          by_cases c8 : x6_1 ≥ 0
          · rw [if_pos c8] at H
            have c8b0 : decide (0 ≤ x6_1) = true := decide_eq_true c8
            clear c8
            by_cases c9 : 0 ≤ x6_1
            · rw [if_pos c9] at H
              have c9b0 : decide (0 ≤ x6_1) = true := decide_eq_true c9
              clear c9
              by_cases c10 : x6_1 < (l0.length : Int)
              · rw [if_pos c10] at H
                have c10b0 : decide (x6_1 < (l0.length : Int)) = true := decide_eq_true c10
                clear c10
                by_cases c11 : x5_1.length < 8796093022208
                · rw [if_pos c11] at H
                  have LMc11 := Aside0.mk c11
                  clear c11
                  obtain ⟨y1295, hy1295⟩ : ∃ y_ : List (S25), y_ = (x5_1 ++ [(⟨(rd_T25 l0 x6_1).f0, (rd_T25 l0 x6_1).f1⟩ : S25)]) := ⟨_, rfl⟩
                  replace H : (paymasterlaw01_U128Sums.l0 k1 l0 a1 y1295 (wrap64 (x6_1 - 1))) = some r := by first | (rw [hy1295]; with_reducible exact H) | (have H2_ := (Option.bind_some _ _).symm.trans H; rw [hy1295]; with_reducible exact H2_) | (have H2_ := (Option.bind_some _ _).symm.trans H; with_reducible exact H2_) | with_reducible exact H | (rw [hy1295]; exact H) | exact H
                  have Ny1295 := Aside0.mk hy1295
                  clear hy1295
                  have H' := Aside0.mk H
                  clear H
                  have p1294 : 0 ≤ (x6_1 : Int) := of_decide_eq_true (by first | (with_reducible assumption) | assumption)
                  have q1294 : x6_1 < (l0.length : Int) := of_decide_eq_true (by first | (with_reducible assumption) | assumption)
                  obtain ⟨ad1294, e1294, hx1294_0, hx1294_1⟩ := at_T25 HR0.out x6_1 p1294 q1294
                  cases e1294
                  replace hx1294_0 := (HB.out.cell (World.block_lt_of_cell? w _ hx1294_0)).trans hx1294_0
                  replace hx1294_1 := (HB.out.cell (World.block_lt_of_cell? w _ hx1294_1)).trans hx1294_1
                  replace p1294 := eq_true p1294
                  replace q1294 := eq_true q1294
                  go_wp2_with (first | ((with_reducible refine gate_builtin (b := .append) (xs := #[.tmp 31, .tmp 36]) rfl ?_); at_builtin; refine Kd.R_append k25 (w0 := w) w.heap.size rfl (.tmp 31) (.tmp 36) 22 25 (.agg #[(.int .u64 0), (.int .u64 0)]) 16 rfl Try.underlying22 info25 rfl (by decide) (by omega) u5 x5_1 (⟨(rd_T25 l0 x6_1).f0, (rd_T25 l0 x6_1).f1⟩ : S25) [.int .u64 ((rd_T25 l0 x6_1).f0), .int .u64 ((rd_T25 l0 x6_1).f1)] (fun _ => True) (fun _ => False) rfl rfl ?aP (fun _ hk => hk.elim) ?aF ?aO ?aB ?aS ?aL ?_; (case aP => exact k25_mkM _ _ _ (⟨(rd_T25 l0 x6_1).f0, (rd_T25 l0 x6_1).f1⟩ : S25)); (case aB => exact (by repeat (first | (with_reducible first | exact HB.out | apply below_alloc | apply pw_below_drewN | apply below_drew1) | exact HB.out))); (case aF => exact (fun _ _ => trivial)); (case aO => exact (by (with_reducible repeat (first | apply Kd.R_alloc | apply Kd.R_drewN | apply Kd.R_drew)); exact HO_5.out)); (case aS => exact (below_size (by repeat (first | (with_reducible first | exact HB.out | apply below_alloc | apply pw_below_drewN | apply below_drew1) | exact HB.out)))); (case aL => have := LMc11.out; omega); intro v1296 w12 ho hb hg hat; rw [← Ny1295.out] at ho; have n0_ := Aside0.mk (hb); have n1_ := Aside0.mk (ho); clear HB; clear HO_5; have HB := n0_; have HO1297 := n1_; clear n0_ n1_; clear ho hb hg hat))
                  go_roundg k1
                  case measure => have := HK1.out; omega
                  case rel => exact ⟨(y1295), (wrap64 (x6_1 - 1)), (by first | rfl | (simp; done) | (simp [*]; done)), H', ⟨by have := HK1.out; omega⟩, ⟨by (with_reducible repeat (first | apply Kd.R_alloc | apply Kd.R_drewN | apply Kd.R_drew)); exact HO1297.out⟩, ⟨by repeat (first | (with_reducible first | exact HB.out | apply below_alloc | apply pw_below_drewN | apply below_drew1) | exact HB.out)⟩⟩
                · rw [if_neg c11] at H
                  exact absurd H (by simp)
              · rw [if_neg c10] at H
                exact absurd H (by simp)
            · rw [if_neg c9] at H
              exact absurd H (by simp)
          · rw [if_neg c8] at H
            have c8b0 : decide (0 ≤ x6_1) = false := decide_eq_false c8
            clear c8
            replace H := Option.bind_eq_some_iff.mp H
            obtain ⟨⟨t1326, t1327, t1328⟩, A130, H⟩ := H
            replace H : ((u128_Sum.f k1 x5_1).bind fun bt1330 => (if (IntKind.u64.wrap (wrap64 ((l0.length : Int) + 1))) = 0 then (none) else (if 0 ≤ (wrap64 (Int.tmod (IntKind.u64.wrap (a1)) (IntKind.u64.wrap (wrap64 ((l0.length : Int) + 1))))) then (if (wrap64 (Int.tmod (IntKind.u64.wrap (a1)) (IntKind.u64.wrap (wrap64 ((l0.length : Int) + 1))))) ≤ (l0.length : Int) then ((u128_Sum.f k1 (l0.take ((wrap64 (Int.tmod (IntKind.u64.wrap (a1)) (IntKind.u64.wrap (wrap64 ((l0.length : Int) + 1))))) : Int).toNat)).bind fun bt1338 => ((u128_Sum.f k1 (l0.drop ((wrap64 (Int.tmod (IntKind.u64.wrap (a1)) (IntKind.u64.wrap (wrap64 ((l0.length : Int) + 1))))) : Int).toNat)).bind fun bt1346 => ((u128_Add.f bt1338.1 bt1338.2.1 bt1346.1 bt1346.2.1).bind fun bt1350 => (if (!(t1326 == bt1330.1) || (!(t1327 == bt1330.2.1))) = true then (none) else (if t1328 = bt1330.2.2 then (if bt1338.2.2 = 0 then (if bt1346.2.2 = 0 then (paymasterlaw01_U128Sums.j1 k1 l0 t1328 ((t1328 == 0) != (bt1350.2.2 == 0)) t1326 t1327 bt1350.1 bt1350.2.1) else (paymasterlaw01_U128Sums.j1 k1 l0 t1328 ((t1328 == 0) != false) t1326 t1327 bt1350.1 bt1350.2.1)) else (paymasterlaw01_U128Sums.j1 k1 l0 t1328 ((t1328 == 0) != false) t1326 t1327 bt1350.1 bt1350.2.1)) else (none)))))) else (none)) else (none)))) = some r := H
            have A13 := Aside0.mk A130
            clear A130
            replace H := Option.bind_eq_some_iff.mp H
            obtain ⟨⟨t1330, t1331, t1332⟩, A140, H⟩ := H
            replace H : (if (IntKind.u64.wrap (wrap64 ((l0.length : Int) + 1))) = 0 then (none) else (if 0 ≤ (wrap64 (Int.tmod (IntKind.u64.wrap (a1)) (IntKind.u64.wrap (wrap64 ((l0.length : Int) + 1))))) then (if (wrap64 (Int.tmod (IntKind.u64.wrap (a1)) (IntKind.u64.wrap (wrap64 ((l0.length : Int) + 1))))) ≤ (l0.length : Int) then ((u128_Sum.f k1 (l0.take ((wrap64 (Int.tmod (IntKind.u64.wrap (a1)) (IntKind.u64.wrap (wrap64 ((l0.length : Int) + 1))))) : Int).toNat)).bind fun bt1338 => ((u128_Sum.f k1 (l0.drop ((wrap64 (Int.tmod (IntKind.u64.wrap (a1)) (IntKind.u64.wrap (wrap64 ((l0.length : Int) + 1))))) : Int).toNat)).bind fun bt1346 => ((u128_Add.f bt1338.1 bt1338.2.1 bt1346.1 bt1346.2.1).bind fun bt1350 => (if (!(t1326 == t1330) || (!(t1327 == t1331))) = true then (none) else (if t1328 = t1332 then (if bt1338.2.2 = 0 then (if bt1346.2.2 = 0 then (paymasterlaw01_U128Sums.j1 k1 l0 t1328 ((t1328 == 0) != (bt1350.2.2 == 0)) t1326 t1327 bt1350.1 bt1350.2.1) else (paymasterlaw01_U128Sums.j1 k1 l0 t1328 ((t1328 == 0) != false) t1326 t1327 bt1350.1 bt1350.2.1)) else (paymasterlaw01_U128Sums.j1 k1 l0 t1328 ((t1328 == 0) != false) t1326 t1327 bt1350.1 bt1350.2.1)) else (none)))))) else (none)) else (none))) = some r := H
            have A14 := Aside0.mk A140
            clear A140
            by_cases c15 : (IntKind.u64.wrap (wrap64 ((l0.length : Int) + 1))) = 0
            · rw [if_pos c15] at H
              exact absurd H (by simp)
            · rw [if_neg c15] at H
              have c15b0 : ((IntKind.u64.wrap (wrap64 ((l0.length : Int) + 1))) == 0) = false := beq_eq_false_iff_ne.mpr c15
              have c15b1 : ((IntKind.u64.wrap (wrap64 ((l0.length : Int) + 1))) != 0) = true := bne_iff_ne.mpr c15
              obtain ⟨ji16, hji16⟩ : ∃ j_ : Int, (wrap64 (Int.tmod (IntKind.u64.wrap (a1)) (IntKind.u64.wrap (wrap64 ((l0.length : Int) + 1))))) = j_ := ⟨_, rfl⟩
              replace H : (if 0 ≤ (ji16) then (if (ji16) ≤ (l0.length : Int) then ((u128_Sum.f k1 (l0.take ((ji16) : Int).toNat)).bind fun bt1338 => ((u128_Sum.f k1 (l0.drop ((ji16) : Int).toNat)).bind fun bt1346 => ((u128_Add.f bt1338.1 bt1338.2.1 bt1346.1 bt1346.2.1).bind fun bt1350 => (if (!(t1326 == t1330) || (!(t1327 == t1331))) = true then (none) else (if t1328 = t1332 then (if bt1338.2.2 = 0 then (if bt1346.2.2 = 0 then (paymasterlaw01_U128Sums.j1 k1 l0 t1328 ((t1328 == 0) != (bt1350.2.2 == 0)) t1326 t1327 bt1350.1 bt1350.2.1) else (paymasterlaw01_U128Sums.j1 k1 l0 t1328 ((t1328 == 0) != false) t1326 t1327 bt1350.1 bt1350.2.1)) else (paymasterlaw01_U128Sums.j1 k1 l0 t1328 ((t1328 == 0) != false) t1326 t1327 bt1350.1 bt1350.2.1)) else (none)))))) else (none)) else (none)) = some r := by first | (rw [hji16] at H; exact H) | (simp only [hji16] at H ⊢; exact H)
              (try rw [hji16] at A13)
              (try rw [hji16] at A14)
              have hji16w : (IntKind.i64.wrap (Int.tmod (IntKind.u64.wrap (a1)) (IntKind.u64.wrap (wrap64 ((l0.length : Int) + 1))))) = ji16 := (i64_w _).trans hji16
              by_cases c17 : 0 ≤ (ji16)
              · rw [if_pos c17] at H
                have c17b0 := eq_true c17
                have c17b1 : decide (0 ≤ (ji16)) = true := decide_eq_true c17
                clear c17
                by_cases c18 : (ji16) ≤ (l0.length : Int)
                · rw [if_pos c18] at H
                  have c18b0 := eq_true c18
                  have c18b1 : decide ((ji16) ≤ (l0.length : Int)) = true := decide_eq_true c18
                  clear c18
                  obtain ⟨y1334, hy1334⟩ : ∃ y_ : List (S25), y_ = (l0.take ((ji16) : Int).toNat) := ⟨_, rfl⟩
                  replace H : ((u128_Sum.f k1 y1334).bind fun bt1338 => ((u128_Sum.f k1 (l0.drop ((ji16) : Int).toNat)).bind fun bt1346 => ((u128_Add.f bt1338.1 bt1338.2.1 bt1346.1 bt1346.2.1).bind fun bt1350 => (if (!(t1326 == t1330) || (!(t1327 == t1331))) = true then (none) else (if t1328 = t1332 then (if bt1338.2.2 = 0 then (if bt1346.2.2 = 0 then (paymasterlaw01_U128Sums.j1 k1 l0 t1328 ((t1328 == 0) != (bt1350.2.2 == 0)) t1326 t1327 bt1350.1 bt1350.2.1) else (paymasterlaw01_U128Sums.j1 k1 l0 t1328 ((t1328 == 0) != false) t1326 t1327 bt1350.1 bt1350.2.1)) else (paymasterlaw01_U128Sums.j1 k1 l0 t1328 ((t1328 == 0) != false) t1326 t1327 bt1350.1 bt1350.2.1)) else (none)))))) = some r := by first | (rw [hy1334]; with_reducible exact H) | (have H2_ := (Option.bind_some _ _).symm.trans H; rw [hy1334]; with_reducible exact H2_) | (have H2_ := (Option.bind_some _ _).symm.trans H; with_reducible exact H2_) | with_reducible exact H | (rw [hy1334]; exact H) | exact H
                  have Ny1334 := Aside0.mk hy1334
                  clear hy1334
                  replace H := Option.bind_eq_some_iff.mp H
                  obtain ⟨⟨t1338, t1339, t1340⟩, A190, H⟩ := H
                  replace H : ((u128_Sum.f k1 (l0.drop ((ji16) : Int).toNat)).bind fun bt1346 => ((u128_Add.f t1338 t1339 bt1346.1 bt1346.2.1).bind fun bt1350 => (if (!(t1326 == t1330) || (!(t1327 == t1331))) = true then (none) else (if t1328 = t1332 then (if t1340 = 0 then (if bt1346.2.2 = 0 then (paymasterlaw01_U128Sums.j1 k1 l0 t1328 ((t1328 == 0) != (bt1350.2.2 == 0)) t1326 t1327 bt1350.1 bt1350.2.1) else (paymasterlaw01_U128Sums.j1 k1 l0 t1328 ((t1328 == 0) != false) t1326 t1327 bt1350.1 bt1350.2.1)) else (paymasterlaw01_U128Sums.j1 k1 l0 t1328 ((t1328 == 0) != false) t1326 t1327 bt1350.1 bt1350.2.1)) else (none))))) = some r := H
                  have A19 := Aside0.mk A190
                  clear A190
                  have c20b0 := eq_true (of_decide_eq_true (by first | (with_reducible assumption) | assumption) : 0 ≤ (ji16))
                  have c21b0 := eq_true (of_decide_eq_true (by first | (with_reducible assumption) | assumption) : (ji16) ≤ (l0.length : Int))
                  obtain ⟨y1342, hy1342⟩ : ∃ y_ : List (S25), y_ = (l0.drop ((ji16) : Int).toNat) := ⟨_, rfl⟩
                  replace H : ((u128_Sum.f k1 y1342).bind fun bt1346 => ((u128_Add.f t1338 t1339 bt1346.1 bt1346.2.1).bind fun bt1350 => (if (!(t1326 == t1330) || (!(t1327 == t1331))) = true then (none) else (if t1328 = t1332 then (if t1340 = 0 then (if bt1346.2.2 = 0 then (paymasterlaw01_U128Sums.j1 k1 l0 t1328 ((t1328 == 0) != (bt1350.2.2 == 0)) t1326 t1327 bt1350.1 bt1350.2.1) else (paymasterlaw01_U128Sums.j1 k1 l0 t1328 ((t1328 == 0) != false) t1326 t1327 bt1350.1 bt1350.2.1)) else (paymasterlaw01_U128Sums.j1 k1 l0 t1328 ((t1328 == 0) != false) t1326 t1327 bt1350.1 bt1350.2.1)) else (none))))) = some r := by first | (rw [hy1342]; with_reducible exact H) | (have H2_ := (Option.bind_some _ _).symm.trans H; rw [hy1342]; with_reducible exact H2_) | (have H2_ := (Option.bind_some _ _).symm.trans H; with_reducible exact H2_) | with_reducible exact H | (rw [hy1342]; exact H) | exact H
                  have Ny1342 := Aside0.mk hy1342
                  clear hy1342
                  replace H := Option.bind_eq_some_iff.mp H
                  obtain ⟨⟨t1346, t1347, t1348⟩, A220, H⟩ := H
                  replace H : ((u128_Add.f t1338 t1339 t1346 t1347).bind fun bt1350 => (if (!(t1326 == t1330) || (!(t1327 == t1331))) = true then (none) else (if t1328 = t1332 then (if t1340 = 0 then (if t1348 = 0 then (paymasterlaw01_U128Sums.j1 k1 l0 t1328 ((t1328 == 0) != (bt1350.2.2 == 0)) t1326 t1327 bt1350.1 bt1350.2.1) else (paymasterlaw01_U128Sums.j1 k1 l0 t1328 ((t1328 == 0) != false) t1326 t1327 bt1350.1 bt1350.2.1)) else (paymasterlaw01_U128Sums.j1 k1 l0 t1328 ((t1328 == 0) != false) t1326 t1327 bt1350.1 bt1350.2.1)) else (none)))) = some r := H
                  have A22 := Aside0.mk A220
                  clear A220
                  replace H := Option.bind_eq_some_iff.mp H
                  obtain ⟨⟨t1350, t1351, t1352⟩, A230, H⟩ := H
                  replace H : (if (!(t1326 == t1330) || (!(t1327 == t1331))) = true then (none) else (if t1328 = t1332 then (if t1340 = 0 then (if t1348 = 0 then (paymasterlaw01_U128Sums.j1 k1 l0 t1328 ((t1328 == 0) != (t1352 == 0)) t1326 t1327 t1350 t1351) else (paymasterlaw01_U128Sums.j1 k1 l0 t1328 ((t1328 == 0) != false) t1326 t1327 t1350 t1351)) else (paymasterlaw01_U128Sums.j1 k1 l0 t1328 ((t1328 == 0) != false) t1326 t1327 t1350 t1351)) else (none))) = some r := H
                  have A23 := Aside0.mk A230
                  clear A230
                  have HC24 := Aside0.mk H
                  clear H
                  go_upto_region 16 with (first | ((with_reducible refine gate_callee (f := 27) rfl ?_); refine goesL_ (some 40) rfl rfl Try.func27 (by kernel_rfl) rfl #[.slice A0 l0.length c0] rfl (by (try simp only [List.map_toArray, List.map_cons, List.map_nil]); first | done | rfl | (simp only [List.length_drop, List.length_take]; rfl)) ?_; (with_reducible refine (u128_Sum.calls k1 _ _ l0 t1326 t1327 t1328 _ ?side1 ?side2 A13.out).mono ?_); (case side1 => repeat (first | exact (Kd.C_below HR0.out HB.out) | (with_reducible refine Kd.C_alloc ?_ _) | (with_reducible refine Kd.C_drewN ?_ _) | (with_reducible refine Kd.C_drew ?_))); (case side2 => exact HC0.out); rintro e w25 ⟨rfl, hb⟩; refine ⟨_, rfl, ?_⟩; have n0_ := Aside0.mk (Kd.R_below (by (with_reducible repeat (first | apply Kd.R_alloc | apply Kd.R_drewN | apply Kd.R_drew)); exact HO_5.out) hb); have n1_ := Aside0.mk (below_step (by repeat (first | (with_reducible first | exact HB.out | apply below_alloc | apply pw_below_drewN | apply below_drew1) | exact HB.out)) hb); clear HO_5; clear HB; have HO_5 := n0_; have HB := n1_; clear n0_ n1_; (try clear hb); (try clear hb2); (try clear hk); (try clear hi)) | ((with_reducible refine gate_dst (N := 7) rfl ?_); refine box_event ?hg (N := 7) ?hd (cs := #[.int .u64 0, .int .u64 0]) (t := 25) ?hr ?_; (case hd => rfl); (case hg => rfl); (case hr => first | (go_simp; done) | (go_simp; rfl)); intro gb1329 hg w26 hbox hb; have n0_ := Aside0.mk (Kd.R_below (Kd.R_elderB (by (with_reducible repeat (first | apply Kd.R_alloc | apply Kd.R_drewN | apply Kd.R_drew)); exact HO_5.out) gb1329 (Nat.le_of_eq hg.symm)) hb); have n1_ := Aside0.mk (below_step (by repeat (first | (with_reducible first | exact HB.out | apply below_alloc | apply pw_below_drewN | apply below_drew1) | exact HB.out)) hb); have n2_ := Aside0.mk (hbox); have n3_ := Aside0.mk ((by rw [hg]; exact (below_size (by repeat (first | (with_reducible first | exact HB.out | apply below_alloc | apply pw_below_drewN | apply below_drew1) | exact HB.out))) : w.heap.size ≤ gb1329)); have n4_ := Aside0.mk ((by rw [hg]; exact (below_size (by repeat (first | (with_reducible first | exact HB.out | apply below_alloc | apply pw_below_drewN | apply below_drew1) | exact HB.out))) : w.heap.size ≤ gb1329)); clear HO_5; clear HB; have HO_5 := n0_; have HB := n1_; have BK1329 := n2_; have GW1329 := n3_; have GE1329 := n4_; clear n0_ n1_ n2_ n3_ n4_; clear hb hbox hg; have hcz27_0 : w26.cell? ⟨gb1329, 0, none⟩ = some (.int .u64 0) := (blk_cell BK1329.out 0).trans rfl; have hcz27_1 : w26.cell? ⟨gb1329, 1, none⟩ = some (.int .u64 0) := (blk_cell BK1329.out 1).trans rfl; have hfz27_0 := blk_frozen BK1329.out 0; have hfz27_1 := blk_frozen BK1329.out 1; obtain ⟨Ao28, co28, eo28⟩ := Kd.R_slice HO_5.out; subst eo28) | ((with_reducible refine gate_callee (f := 27) rfl ?_); refine goesL_ (some 45) rfl rfl Try.func27 (by kernel_rfl) rfl #[.slice Ao28 x5_1.length co28] rfl (by (try simp only [List.map_toArray, List.map_cons, List.map_nil]); first | done | rfl | (simp only [List.length_drop, List.length_take]; rfl)) ?_; (with_reducible refine (u128_Sum.calls k1 _ _ x5_1 t1330 t1331 t1332 _ ?side1 ?side2 A14.out).mono ?_); (case side1 => refine (Kd.R_reads' (e := 25) (base := w.heap.size) (ok := fun k_ => (True ∧ k_ ≠ gb1329)) (n := x5_1.length) (c := co28) ?_).2.2; exact (by (with_reducible repeat (first | apply Kd.R_alloc | apply Kd.R_drewN | apply Kd.R_drew)); exact (Kd.R_mono (Kd.R_far (p := ⟨gb1329, 1, none⟩) (Kd.R_far (p := ⟨gb1329, 0, none⟩) (Kd.R_mono HO_5.out (fun k_ hk => (⟨hk, hk.2⟩ : _ ∧ k_ ≠ gb1329))) (fun _ hk => hk.2) (.int .u64 t1326)) (fun _ hk => hk.2) (.int .u64 t1327)) (fun _ h_ => h_.1)))); (case side2 => exact (Kd.R_reads' HO_5.out).2.1); rintro e w29 ⟨rfl, hb⟩; refine ⟨_, rfl, ?_⟩; have n0_ := Aside0.mk (Kd.R_below (by (with_reducible repeat (first | apply Kd.R_alloc | apply Kd.R_drewN | apply Kd.R_drew)); exact (Kd.R_mono (Kd.R_far (p := ⟨gb1329, 1, none⟩) (Kd.R_far (p := ⟨gb1329, 0, none⟩) (Kd.R_mono HO_5.out (fun k_ hk => (⟨hk, hk.2⟩ : _ ∧ k_ ≠ gb1329))) (fun _ hk => hk.2) (.int .u64 t1326)) (fun _ hk => hk.2) (.int .u64 t1327)) (fun _ h_ => h_.1))) hb); have n1_ := Aside0.mk (blk_below (g := gb1329) (o := .cells #[.int .u64 t1326, .int .u64 t1327] 25 (0, 0)) (by (with_reducible repeat (first | refine blk_drewN ?_ _ | refine blk_drew ?_ | refine blk_alloc ?_ _)); refine blk_put (cs := #[.int .u64 t1326, .int .u64 0]) ?_ 1 _ rfl; (with_reducible repeat (first | refine blk_drewN ?_ _ | refine blk_drew ?_ | refine blk_alloc ?_ _)); refine blk_put (cs := #[.int .u64 0, .int .u64 0]) ?_ 0 _ rfl; (with_reducible repeat (first | refine blk_drewN ?_ _ | refine blk_drew ?_ | refine blk_alloc ?_ _)); exact BK1329.out) hb); have n2_ := Aside0.mk (below_step (by repeat (first | (with_reducible first | exact HB.out | apply below_alloc | apply pw_below_drewN | apply below_drew1 | refine below_set ?_ GE1329.out) | exact HB.out)) hb); clear HO_5; clear BK1329; clear HB; have HO_5 := n0_; have BK1329 := n1_; have HB := n2_; clear n0_ n1_ n2_; (try clear hb); (try clear hb2); (try clear hk); (try clear hi)) | ((with_reducible refine gate_dst (N := 9) rfl ?_); refine box_event ?hg (N := 9) ?hd (cs := #[.int .u64 0, .int .u64 0]) (t := 25) ?hr ?_; (case hd => rfl); (case hg => rfl); (case hr => first | (go_simp; done) | (go_simp; rfl)); intro gb1333 hg w30 hbox hb; have n0_ := Aside0.mk (Kd.R_below (Kd.R_elderB (by (with_reducible repeat (first | apply Kd.R_alloc | apply Kd.R_drewN | apply Kd.R_drew)); exact HO_5.out) gb1333 (Nat.le_of_eq hg.symm)) hb); have n1_ := Aside0.mk (blk_below (g := gb1329) (o := .cells #[.int .u64 t1326, .int .u64 t1327] 25 (0, 0)) (by (with_reducible repeat (first | refine blk_drewN ?_ _ | refine blk_drew ?_ | refine blk_alloc ?_ _)); exact BK1329.out) hb); have n2_ := Aside0.mk (below_step (by repeat (first | (with_reducible first | exact HB.out | apply below_alloc | apply pw_below_drewN | apply below_drew1 | refine below_set ?_ GE1329.out) | exact HB.out)) hb); have n3_ := Aside0.mk (hbox); have n4_ := Aside0.mk ((by rw [hg]; exact (below_size (by repeat (first | (with_reducible first | exact HB.out | apply below_alloc | apply pw_below_drewN | apply below_drew1 | refine below_set ?_ GE1329.out) | exact HB.out))) : w.heap.size ≤ gb1333)); have n5_ := Aside0.mk ((by rw [hg]; exact (below_size (by repeat (first | (with_reducible first | exact HB.out | apply below_alloc | apply pw_below_drewN | apply below_drew1 | refine below_set ?_ GE1329.out) | exact HB.out))) : w.heap.size ≤ gb1333)); have n6_ := Aside0.mk ((by rw [hg]; exact Nat.ne_of_lt (blk_lt (g := gb1329) (o := .cells #[.int .u64 t1326, .int .u64 t1327] 25 (0, 0)) (by (with_reducible repeat (first | refine blk_drewN ?_ _ | refine blk_drew ?_ | refine blk_alloc ?_ _)); exact BK1329.out)) : gb1329 ≠ gb1333)); have n7_ := Aside0.mk ((by rw [hg]; exact Nat.ne_of_gt (blk_lt (g := gb1329) (o := .cells #[.int .u64 t1326, .int .u64 t1327] 25 (0, 0)) (by (with_reducible repeat (first | refine blk_drewN ?_ _ | refine blk_drew ?_ | refine blk_alloc ?_ _)); exact BK1329.out)) : gb1333 ≠ gb1329)); clear HO_5; clear BK1329; clear HB; have HO_5 := n0_; have BK1329 := n1_; have HB := n2_; have BK1333 := n3_; have GW1333 := n4_; have GE1333 := n5_; have NB1329_1333 := n6_; have NB1333_1329 := n7_; clear n0_ n1_ n2_ n3_ n4_ n5_ n6_ n7_; clear hb hbox hg; have hnb31 := NB1333_1329.out; have hnc31 := NB1329_1333.out; have hcz32_0 : w30.cell? ⟨gb1333, 0, none⟩ = some (.int .u64 0) := (blk_cell BK1333.out 0).trans rfl; have hcz32_1 : w30.cell? ⟨gb1333, 1, none⟩ = some (.int .u64 0) := (blk_cell BK1333.out 1).trans rfl; have hfz32_0 := blk_frozen BK1333.out 0; have hfz32_1 := blk_frozen BK1333.out 1) | ((with_reducible refine gate_store (t := 25) (p := 9) rfl ?_); refine store_event (t := 25) (p := 9) (v := ?vo_w33) (w1 := ((w30.setCell ⟨gb1333, 0, none⟩ (.int .u64 t1330)).setCell ⟨gb1333, 1, none⟩ (.int .u64 t1331))) ?hg ?ho ?hn ?hr ?_; (case ho => rfl); (case hg => rfl); (case hn => rfl); (case hr => first | (go_simp; done) | (go_simp; rfl)); intro w33 hw; have n0_ : Aside0 (Kd.R k25 25 w33 w.heap.size (fun k_ => k_ ≠ gb1329 ∧ k_ ≠ gb1333) (.slice Ao28 x5_1.length co28) x5_1) := ⟨(by rw [hw]; exact (by (with_reducible repeat (first | apply Kd.R_alloc | apply Kd.R_drewN | apply Kd.R_drew)); exact Kd.R_mono (Kd.R_far (p := ⟨gb1333, 1, none⟩) (Kd.R_far (p := ⟨gb1333, 0, none⟩) (Kd.R_mono HO_5.out (fun k_ hk => (⟨hk, hk.2⟩ : _ ∧ k_ ≠ gb1333))) (fun _ hk => hk.2) (.int .u64 t1330)) (fun _ hk => hk.2) (.int .u64 t1331)) (fun _ hk => ⟨hk.1.1.2, hk.1.2⟩)))⟩; have n1_ : Aside0 (w33.heap[gb1329]? = some (.cells #[.int .u64 t1326, .int .u64 t1327] 25 (0, 0))) := ⟨(by rw [hw]; exact (by (with_reducible repeat (first | refine blk_drewN ?_ _ | refine blk_drew ?_ | refine blk_alloc ?_ _)); refine blk_far ?_ NB1329_1333.out _; (with_reducible repeat (first | refine blk_drewN ?_ _ | refine blk_drew ?_ | refine blk_alloc ?_ _)); refine blk_far ?_ NB1329_1333.out _; (with_reducible repeat (first | refine blk_drewN ?_ _ | refine blk_drew ?_ | refine blk_alloc ?_ _)); exact BK1329.out))⟩; have n2_ : Aside0 (w33.heap[gb1333]? = some (.cells #[.int .u64 t1330, .int .u64 t1331] 25 (0, 0))) := ⟨(by rw [hw]; exact (by (with_reducible repeat (first | refine blk_drewN ?_ _ | refine blk_drew ?_ | refine blk_alloc ?_ _)); refine blk_put (cs := #[.int .u64 t1330, .int .u64 0]) ?_ 1 _ rfl; (with_reducible repeat (first | refine blk_drewN ?_ _ | refine blk_drew ?_ | refine blk_alloc ?_ _)); refine blk_put (cs := #[.int .u64 0, .int .u64 0]) ?_ 0 _ rfl; (with_reducible repeat (first | refine blk_drewN ?_ _ | refine blk_drew ?_ | refine blk_alloc ?_ _)); exact BK1333.out))⟩; have n3_ : Aside0 (Below w.heap.size w w33) := ⟨(by rw [hw]; exact (by repeat (first | (with_reducible first | exact HB.out | apply below_alloc | apply pw_below_drewN | apply below_drew1 | refine below_set ?_ GE1329.out | refine below_set ?_ GE1333.out) | exact HB.out)))⟩; clear hw; clear HO_5; clear BK1329; clear BK1333; clear HB; have HO_5 := n0_; have BK1329 := n1_; have BK1333 := n2_; have HB := n3_; clear n0_ n1_ n2_ n3_; have q34 : ((ji16) : Int) ≤ ((l0.length : Int) : Int) := of_decide_eq_true (by first | (with_reducible assumption) | assumption); obtain ⟨i034, hi034, _, hsz34, _⟩ := info_parts info25; have hroom34 : l0.length ≤ c0 := HC0.out; have hC34 : Kd.C k25 _ A0 l0.length l0 := HR0.out; have hcut34 := cut_to (P := Try.prog) 22 25 .i64 Try.underlying22 hi034 A0 l0.length c0 (ji16) (of_decide_eq_true (by first | (with_reducible assumption) | assumption)) q34 hroom34; have hr34 := Kd.C_take (m := ((ji16) : Int).toNat) hC34 (by omega); have hy34 : y1334.length = ((ji16) : Int).toNat := (by rw [Ny1334.out, List.length_take]; omega); rw [← Ny1334.out] at hr34; rw [← hy34] at hcut34; have HR1337 := Aside0.mk hr34; have HC1337 := Aside0.mk (show y1334.length ≤ c0 from by omega); clear hr34 hC34 hroom34 hi034 hsz34; have KY34 := Aside0.mk hy34; clear hy34; replace q34 := eq_true q34) | ((with_reducible refine gate_callee (f := 27) rfl ?_); refine goesL_ (some 60) rfl rfl Try.func27 (by kernel_rfl) rfl #[.slice A0 y1334.length c0] rfl (by (try simp only [List.map_toArray, List.map_cons, List.map_nil]); first | done | rfl | (simp only [List.length_drop, List.length_take]; rfl)) ?_; (with_reducible refine (u128_Sum.calls k1 _ _ y1334 t1338 t1339 t1340 _ ?side1 ?side2 A19.out).mono ?_); (case side1 => repeat (first | exact (Kd.C_below HR1337.out HB.out) | (with_reducible refine Kd.C_alloc ?_ _) | (with_reducible refine Kd.C_drewN ?_ _) | (with_reducible refine Kd.C_drew ?_))); (case side2 => exact HC1337.out); rintro e w35 ⟨rfl, hb⟩; refine ⟨_, rfl, ?_⟩; have n0_ := Aside0.mk (Kd.R_below (by (with_reducible repeat (first | apply Kd.R_alloc | apply Kd.R_drewN | apply Kd.R_drew)); exact HO_5.out) hb); have n1_ := Aside0.mk (blk_below (g := gb1329) (o := .cells #[.int .u64 t1326, .int .u64 t1327] 25 (0, 0)) (by (with_reducible repeat (first | refine blk_drewN ?_ _ | refine blk_drew ?_ | refine blk_alloc ?_ _)); exact BK1329.out) hb); have n2_ := Aside0.mk (blk_below (g := gb1333) (o := .cells #[.int .u64 t1330, .int .u64 t1331] 25 (0, 0)) (by (with_reducible repeat (first | refine blk_drewN ?_ _ | refine blk_drew ?_ | refine blk_alloc ?_ _)); exact BK1333.out) hb); have n3_ := Aside0.mk (below_step (by repeat (first | (with_reducible first | exact HB.out | apply below_alloc | apply pw_below_drewN | apply below_drew1 | refine below_set ?_ GE1329.out | refine below_set ?_ GE1333.out) | exact HB.out)) hb); clear HO_5; clear BK1329; clear BK1333; clear HB; have HO_5 := n0_; have BK1329 := n1_; have BK1333 := n2_; have HB := n3_; clear n0_ n1_ n2_ n3_; (try clear hb); (try clear hb2); (try clear hk); (try clear hi)) | ((with_reducible refine gate_dst (N := 12) rfl ?_); refine box_event ?hg (N := 12) ?hd (cs := #[.int .u64 0, .int .u64 0]) (t := 25) ?hr ?_; (case hd => rfl); (case hg => rfl); (case hr => first | (go_simp; done) | (go_simp; rfl)); intro gb1341 hg w36 hbox hb; have n0_ := Aside0.mk (Kd.R_below (Kd.R_elderB (by (with_reducible repeat (first | apply Kd.R_alloc | apply Kd.R_drewN | apply Kd.R_drew)); exact HO_5.out) gb1341 (Nat.le_of_eq hg.symm)) hb); have n1_ := Aside0.mk (blk_below (g := gb1329) (o := .cells #[.int .u64 t1326, .int .u64 t1327] 25 (0, 0)) (by (with_reducible repeat (first | refine blk_drewN ?_ _ | refine blk_drew ?_ | refine blk_alloc ?_ _)); exact BK1329.out) hb); have n2_ := Aside0.mk (blk_below (g := gb1333) (o := .cells #[.int .u64 t1330, .int .u64 t1331] 25 (0, 0)) (by (with_reducible repeat (first | refine blk_drewN ?_ _ | refine blk_drew ?_ | refine blk_alloc ?_ _)); exact BK1333.out) hb); have n3_ := Aside0.mk (below_step (by repeat (first | (with_reducible first | exact HB.out | apply below_alloc | apply pw_below_drewN | apply below_drew1 | refine below_set ?_ GE1329.out | refine below_set ?_ GE1333.out) | exact HB.out)) hb); have n4_ := Aside0.mk (hbox); have n5_ := Aside0.mk ((by rw [hg]; exact (below_size (by repeat (first | (with_reducible first | exact HB.out | apply below_alloc | apply pw_below_drewN | apply below_drew1 | refine below_set ?_ GE1329.out | refine below_set ?_ GE1333.out) | exact HB.out))) : w.heap.size ≤ gb1341)); have n6_ := Aside0.mk ((by rw [hg]; exact (below_size (by repeat (first | (with_reducible first | exact HB.out | apply below_alloc | apply pw_below_drewN | apply below_drew1 | refine below_set ?_ GE1329.out | refine below_set ?_ GE1333.out) | exact HB.out))) : w.heap.size ≤ gb1341)); have n7_ := Aside0.mk ((by rw [hg]; exact Nat.ne_of_lt (blk_lt (g := gb1329) (o := .cells #[.int .u64 t1326, .int .u64 t1327] 25 (0, 0)) (by (with_reducible repeat (first | refine blk_drewN ?_ _ | refine blk_drew ?_ | refine blk_alloc ?_ _)); exact BK1329.out)) : gb1329 ≠ gb1341)); have n8_ := Aside0.mk ((by rw [hg]; exact Nat.ne_of_gt (blk_lt (g := gb1329) (o := .cells #[.int .u64 t1326, .int .u64 t1327] 25 (0, 0)) (by (with_reducible repeat (first | refine blk_drewN ?_ _ | refine blk_drew ?_ | refine blk_alloc ?_ _)); exact BK1329.out)) : gb1341 ≠ gb1329)); have n9_ := Aside0.mk ((by rw [hg]; exact Nat.ne_of_lt (blk_lt (g := gb1333) (o := .cells #[.int .u64 t1330, .int .u64 t1331] 25 (0, 0)) (by (with_reducible repeat (first | refine blk_drewN ?_ _ | refine blk_drew ?_ | refine blk_alloc ?_ _)); exact BK1333.out)) : gb1333 ≠ gb1341)); have n10_ := Aside0.mk ((by rw [hg]; exact Nat.ne_of_gt (blk_lt (g := gb1333) (o := .cells #[.int .u64 t1330, .int .u64 t1331] 25 (0, 0)) (by (with_reducible repeat (first | refine blk_drewN ?_ _ | refine blk_drew ?_ | refine blk_alloc ?_ _)); exact BK1333.out)) : gb1341 ≠ gb1333)); clear HO_5; clear BK1329; clear BK1333; clear HB; have HO_5 := n0_; have BK1329 := n1_; have BK1333 := n2_; have HB := n3_; have BK1341 := n4_; have GW1341 := n5_; have GE1341 := n6_; have NB1329_1341 := n7_; have NB1341_1329 := n8_; have NB1333_1341 := n9_; have NB1341_1333 := n10_; clear n0_ n1_ n2_ n3_ n4_ n5_ n6_ n7_ n8_ n9_ n10_; clear hb hbox hg; have hnb37 := NB1341_1329.out; have hnc37 := NB1329_1341.out; have hnb38 := NB1341_1333.out; have hnc38 := NB1333_1341.out; have hcz39_0 : w36.cell? ⟨gb1341, 0, none⟩ = some (.int .u64 0) := (blk_cell BK1341.out 0).trans rfl; have hcz39_1 : w36.cell? ⟨gb1341, 1, none⟩ = some (.int .u64 0) := (blk_cell BK1341.out 1).trans rfl; have hfz39_0 := blk_frozen BK1341.out 0; have hfz39_1 := blk_frozen BK1341.out 1) | ((with_reducible refine gate_store (t := 25) (p := 12) rfl ?_); refine store_event (t := 25) (p := 12) (v := ?vo_w40) (w1 := ((w36.setCell ⟨gb1341, 0, none⟩ (.int .u64 t1338)).setCell ⟨gb1341, 1, none⟩ (.int .u64 t1339))) ?hg ?ho ?hn ?hr ?_; (case ho => rfl); (case hg => rfl); (case hn => rfl); (case hr => first | (go_simp; done) | (go_simp; rfl)); intro w40 hw; have n0_ : Aside0 (Kd.R k25 25 w40 w.heap.size (fun k_ => k_ ≠ gb1329 ∧ k_ ≠ gb1333 ∧ k_ ≠ gb1341) (.slice Ao28 x5_1.length co28) x5_1) := ⟨(by rw [hw]; exact (by (with_reducible repeat (first | apply Kd.R_alloc | apply Kd.R_drewN | apply Kd.R_drew)); exact Kd.R_mono (Kd.R_far (p := ⟨gb1341, 1, none⟩) (Kd.R_far (p := ⟨gb1341, 0, none⟩) (Kd.R_mono HO_5.out (fun k_ hk => (⟨hk, hk.2⟩ : _ ∧ k_ ≠ gb1341))) (fun _ hk => hk.2) (.int .u64 t1338)) (fun _ hk => hk.2) (.int .u64 t1339)) (fun _ hk => ⟨hk.1.1.1, ⟨hk.1.1.2, hk.1.2⟩⟩)))⟩; have n1_ : Aside0 (w40.heap[gb1329]? = some (.cells #[.int .u64 t1326, .int .u64 t1327] 25 (0, 0))) := ⟨(by rw [hw]; exact (by (with_reducible repeat (first | refine blk_drewN ?_ _ | refine blk_drew ?_ | refine blk_alloc ?_ _)); refine blk_far ?_ NB1329_1341.out _; (with_reducible repeat (first | refine blk_drewN ?_ _ | refine blk_drew ?_ | refine blk_alloc ?_ _)); refine blk_far ?_ NB1329_1341.out _; (with_reducible repeat (first | refine blk_drewN ?_ _ | refine blk_drew ?_ | refine blk_alloc ?_ _)); exact BK1329.out))⟩; have n2_ : Aside0 (w40.heap[gb1333]? = some (.cells #[.int .u64 t1330, .int .u64 t1331] 25 (0, 0))) := ⟨(by rw [hw]; exact (by (with_reducible repeat (first | refine blk_drewN ?_ _ | refine blk_drew ?_ | refine blk_alloc ?_ _)); refine blk_far ?_ NB1333_1341.out _; (with_reducible repeat (first | refine blk_drewN ?_ _ | refine blk_drew ?_ | refine blk_alloc ?_ _)); refine blk_far ?_ NB1333_1341.out _; (with_reducible repeat (first | refine blk_drewN ?_ _ | refine blk_drew ?_ | refine blk_alloc ?_ _)); exact BK1333.out))⟩; have n3_ : Aside0 (w40.heap[gb1341]? = some (.cells #[.int .u64 t1338, .int .u64 t1339] 25 (0, 0))) := ⟨(by rw [hw]; exact (by (with_reducible repeat (first | refine blk_drewN ?_ _ | refine blk_drew ?_ | refine blk_alloc ?_ _)); refine blk_put (cs := #[.int .u64 t1338, .int .u64 0]) ?_ 1 _ rfl; (with_reducible repeat (first | refine blk_drewN ?_ _ | refine blk_drew ?_ | refine blk_alloc ?_ _)); refine blk_put (cs := #[.int .u64 0, .int .u64 0]) ?_ 0 _ rfl; (with_reducible repeat (first | refine blk_drewN ?_ _ | refine blk_drew ?_ | refine blk_alloc ?_ _)); exact BK1341.out))⟩; have n4_ : Aside0 (Below w.heap.size w w40) := ⟨(by rw [hw]; exact (by repeat (first | (with_reducible first | exact HB.out | apply below_alloc | apply pw_below_drewN | apply below_drew1 | refine below_set ?_ GE1329.out | refine below_set ?_ GE1333.out | refine below_set ?_ GE1341.out) | exact HB.out)))⟩; clear hw; clear HO_5; clear BK1329; clear BK1333; clear BK1341; clear HB; have HO_5 := n0_; have BK1329 := n1_; have BK1333 := n2_; have BK1341 := n3_; have HB := n4_; clear n0_ n1_ n2_ n3_ n4_; have q41 : ((ji16) : Int) ≤ ((l0.length : Int) : Int) := of_decide_eq_true (by first | (with_reducible assumption) | assumption); obtain ⟨i041, hi041, _, hsz41, _⟩ := info_parts info25; have hroom41 : l0.length ≤ c0 := HC0.out; have hC41 : Kd.C k25 _ A0 l0.length l0 := HR0.out; have q041 : (0 : Int) ≤ ((ji16) : Int) := of_decide_eq_true (by first | (with_reducible assumption) | assumption); have hcut41 := cut_from (P := Try.prog) 22 25 .i64 Try.underlying22 hi041 2 hsz41 A0 l0.length c0 (ji16) q041 q41; have hr41 := Kd.C_drop (m := ((ji16) : Int).toNat) (c := c0) hC41 (by omega) hroom41; obtain ⟨A41, hA41⟩ : ∃ A1, A1 = (if c0 = ((ji16) : Int).toNat then A0 else (A0 : Option Addr).map (·.add (((ji16) : Int).toNat * 2))) := ⟨_, rfl⟩; obtain ⟨c41, hc41⟩ : ∃ c1, c1 = c0 - ((ji16) : Int).toNat := ⟨_, rfl⟩; have hy41 : y1342.length = l0.length - ((ji16) : Int).toNat := (by rw [Ny1342.out, List.length_drop] <;> omega); rw [show (l0).drop ((ji16) : Int).toNat = y1342 from Ny1342.out.symm] at hr41; replace hr41 : Kd.C k25 _ A41 y1342.length y1342 := (by rw [hA41]; exact hr41); rw [← hy41, ← hA41, ← hc41] at hcut41; have HR1345 := Aside0.mk hr41; have HC1345 := Aside0.mk (show y1342.length ≤ c41 from by rw [hy41, hc41]; exact Nat.sub_le_sub_right hroom41 _); clear hr41 hC41 hroom41 hi041 hsz41 hc41; have KY41 := Aside0.mk hy41; have KA41 := Aside0.mk hA41; clear hy41 hA41; replace q41 := eq_true q41) | ((with_reducible refine gate_callee (f := 27) rfl ?_); refine goesL_ (some 67) rfl rfl Try.func27 (by kernel_rfl) rfl #[.slice A41 y1342.length c41] rfl (by (try simp only [List.map_toArray, List.map_cons, List.map_nil]); first | done | rfl | (simp only [List.length_drop, List.length_take]; rfl)) ?_; (with_reducible refine (u128_Sum.calls k1 _ _ y1342 t1346 t1347 t1348 _ ?side1 ?side2 A22.out).mono ?_); (case side1 => repeat (first | exact (Kd.C_below HR1345.out HB.out) | (with_reducible refine Kd.C_alloc ?_ _) | (with_reducible refine Kd.C_drewN ?_ _) | (with_reducible refine Kd.C_drew ?_))); (case side2 => exact HC1345.out); rintro e w42 ⟨rfl, hb⟩; refine ⟨_, rfl, ?_⟩; have n0_ := Aside0.mk (Kd.R_below (by (with_reducible repeat (first | apply Kd.R_alloc | apply Kd.R_drewN | apply Kd.R_drew)); exact HO_5.out) hb); have n1_ := Aside0.mk (blk_below (g := gb1329) (o := .cells #[.int .u64 t1326, .int .u64 t1327] 25 (0, 0)) (by (with_reducible repeat (first | refine blk_drewN ?_ _ | refine blk_drew ?_ | refine blk_alloc ?_ _)); exact BK1329.out) hb); have n2_ := Aside0.mk (blk_below (g := gb1333) (o := .cells #[.int .u64 t1330, .int .u64 t1331] 25 (0, 0)) (by (with_reducible repeat (first | refine blk_drewN ?_ _ | refine blk_drew ?_ | refine blk_alloc ?_ _)); exact BK1333.out) hb); have n3_ := Aside0.mk (blk_below (g := gb1341) (o := .cells #[.int .u64 t1338, .int .u64 t1339] 25 (0, 0)) (by (with_reducible repeat (first | refine blk_drewN ?_ _ | refine blk_drew ?_ | refine blk_alloc ?_ _)); exact BK1341.out) hb); have n4_ := Aside0.mk (below_step (by repeat (first | (with_reducible first | exact HB.out | apply below_alloc | apply pw_below_drewN | apply below_drew1 | refine below_set ?_ GE1329.out | refine below_set ?_ GE1333.out | refine below_set ?_ GE1341.out) | exact HB.out)) hb); clear HO_5; clear BK1329; clear BK1333; clear BK1341; clear HB; have HO_5 := n0_; have BK1329 := n1_; have BK1333 := n2_; have BK1341 := n3_; have HB := n4_; clear n0_ n1_ n2_ n3_ n4_; (try clear hb); (try clear hb2); (try clear hk); (try clear hi)) | ((with_reducible refine gate_dst (N := 14) rfl ?_); refine box_event ?hg (N := 14) ?hd (cs := #[.int .u64 0, .int .u64 0]) (t := 25) ?hr ?_; (case hd => rfl); (case hg => rfl); (case hr => first | (go_simp; done) | (go_simp; rfl)); intro gb1349 hg w43 hbox hb; have n0_ := Aside0.mk (Kd.R_below (Kd.R_elderB (by (with_reducible repeat (first | apply Kd.R_alloc | apply Kd.R_drewN | apply Kd.R_drew)); exact HO_5.out) gb1349 (Nat.le_of_eq hg.symm)) hb); have n1_ := Aside0.mk (blk_below (g := gb1329) (o := .cells #[.int .u64 t1326, .int .u64 t1327] 25 (0, 0)) (by (with_reducible repeat (first | refine blk_drewN ?_ _ | refine blk_drew ?_ | refine blk_alloc ?_ _)); exact BK1329.out) hb); have n2_ := Aside0.mk (blk_below (g := gb1333) (o := .cells #[.int .u64 t1330, .int .u64 t1331] 25 (0, 0)) (by (with_reducible repeat (first | refine blk_drewN ?_ _ | refine blk_drew ?_ | refine blk_alloc ?_ _)); exact BK1333.out) hb); have n3_ := Aside0.mk (blk_below (g := gb1341) (o := .cells #[.int .u64 t1338, .int .u64 t1339] 25 (0, 0)) (by (with_reducible repeat (first | refine blk_drewN ?_ _ | refine blk_drew ?_ | refine blk_alloc ?_ _)); exact BK1341.out) hb); have n4_ := Aside0.mk (below_step (by repeat (first | (with_reducible first | exact HB.out | apply below_alloc | apply pw_below_drewN | apply below_drew1 | refine below_set ?_ GE1329.out | refine below_set ?_ GE1333.out | refine below_set ?_ GE1341.out) | exact HB.out)) hb); have n5_ := Aside0.mk (hbox); have n6_ := Aside0.mk ((by rw [hg]; exact (below_size (by repeat (first | (with_reducible first | exact HB.out | apply below_alloc | apply pw_below_drewN | apply below_drew1 | refine below_set ?_ GE1329.out | refine below_set ?_ GE1333.out | refine below_set ?_ GE1341.out) | exact HB.out))) : w.heap.size ≤ gb1349)); have n7_ := Aside0.mk ((by rw [hg]; exact (below_size (by repeat (first | (with_reducible first | exact HB.out | apply below_alloc | apply pw_below_drewN | apply below_drew1 | refine below_set ?_ GE1329.out | refine below_set ?_ GE1333.out | refine below_set ?_ GE1341.out) | exact HB.out))) : w.heap.size ≤ gb1349)); have n8_ := Aside0.mk ((by rw [hg]; exact Nat.ne_of_lt (blk_lt (g := gb1329) (o := .cells #[.int .u64 t1326, .int .u64 t1327] 25 (0, 0)) (by (with_reducible repeat (first | refine blk_drewN ?_ _ | refine blk_drew ?_ | refine blk_alloc ?_ _)); exact BK1329.out)) : gb1329 ≠ gb1349)); have n9_ := Aside0.mk ((by rw [hg]; exact Nat.ne_of_gt (blk_lt (g := gb1329) (o := .cells #[.int .u64 t1326, .int .u64 t1327] 25 (0, 0)) (by (with_reducible repeat (first | refine blk_drewN ?_ _ | refine blk_drew ?_ | refine blk_alloc ?_ _)); exact BK1329.out)) : gb1349 ≠ gb1329)); have n10_ := Aside0.mk ((by rw [hg]; exact Nat.ne_of_lt (blk_lt (g := gb1333) (o := .cells #[.int .u64 t1330, .int .u64 t1331] 25 (0, 0)) (by (with_reducible repeat (first | refine blk_drewN ?_ _ | refine blk_drew ?_ | refine blk_alloc ?_ _)); exact BK1333.out)) : gb1333 ≠ gb1349)); have n11_ := Aside0.mk ((by rw [hg]; exact Nat.ne_of_gt (blk_lt (g := gb1333) (o := .cells #[.int .u64 t1330, .int .u64 t1331] 25 (0, 0)) (by (with_reducible repeat (first | refine blk_drewN ?_ _ | refine blk_drew ?_ | refine blk_alloc ?_ _)); exact BK1333.out)) : gb1349 ≠ gb1333)); have n12_ := Aside0.mk ((by rw [hg]; exact Nat.ne_of_lt (blk_lt (g := gb1341) (o := .cells #[.int .u64 t1338, .int .u64 t1339] 25 (0, 0)) (by (with_reducible repeat (first | refine blk_drewN ?_ _ | refine blk_drew ?_ | refine blk_alloc ?_ _)); exact BK1341.out)) : gb1341 ≠ gb1349)); have n13_ := Aside0.mk ((by rw [hg]; exact Nat.ne_of_gt (blk_lt (g := gb1341) (o := .cells #[.int .u64 t1338, .int .u64 t1339] 25 (0, 0)) (by (with_reducible repeat (first | refine blk_drewN ?_ _ | refine blk_drew ?_ | refine blk_alloc ?_ _)); exact BK1341.out)) : gb1349 ≠ gb1341)); clear HO_5; clear BK1329; clear BK1333; clear BK1341; clear HB; have HO_5 := n0_; have BK1329 := n1_; have BK1333 := n2_; have BK1341 := n3_; have HB := n4_; have BK1349 := n5_; have GW1349 := n6_; have GE1349 := n7_; have NB1329_1349 := n8_; have NB1349_1329 := n9_; have NB1333_1349 := n10_; have NB1349_1333 := n11_; have NB1341_1349 := n12_; have NB1349_1341 := n13_; clear n0_ n1_ n2_ n3_ n4_ n5_ n6_ n7_ n8_ n9_ n10_ n11_ n12_ n13_; clear hb hbox hg; have hnb44 := NB1349_1329.out; have hnc44 := NB1329_1349.out; have hnb45 := NB1349_1333.out; have hnc45 := NB1333_1349.out; have hnb46 := NB1349_1341.out; have hnc46 := NB1341_1349.out; have hcz47_0 : w43.cell? ⟨gb1349, 0, none⟩ = some (.int .u64 0) := (blk_cell BK1349.out 0).trans rfl; have hcz47_1 : w43.cell? ⟨gb1349, 1, none⟩ = some (.int .u64 0) := (blk_cell BK1349.out 1).trans rfl; have hfz47_0 := blk_frozen BK1349.out 0; have hfz47_1 := blk_frozen BK1349.out 1; have hcz48_0 : w43.cell? ⟨gb1341, 0, none⟩ = some (.int .u64 t1338) := (blk_cell BK1341.out 0).trans rfl; have hcz48_1 : w43.cell? ⟨gb1341, 1, none⟩ = some (.int .u64 t1339) := (blk_cell BK1341.out 1).trans rfl; have hfz48_0 := blk_frozen BK1341.out 0; have hfz48_1 := blk_frozen BK1341.out 1) | ((with_reducible refine gate_callee (f := 45) rfl ?_); refine goesL_ (some 73) rfl rfl Try.func45 (by kernel_rfl) rfl #[.agg #[.int .u64 t1338, .int .u64 t1339], .agg #[.int .u64 t1346, .int .u64 t1347]] rfl (by (try simp only [List.map_toArray, List.map_cons, List.map_nil]); first | done | rfl | (simp only [List.length_drop, List.length_take]; rfl)) ?_; (with_reducible refine (u128_Add.calls t1338 t1339 t1346 t1347 t1350 t1351 t1352 _ A23.out).mono ?_); rintro e w49 ⟨rfl, hb⟩; refine ⟨_, rfl, ?_⟩; have n0_ := Aside0.mk (Kd.R_below (by (with_reducible repeat (first | apply Kd.R_alloc | apply Kd.R_drewN | apply Kd.R_drew)); exact (Kd.R_mono (Kd.R_far (p := ⟨gb1349, 1, none⟩) (Kd.R_far (p := ⟨gb1349, 0, none⟩) (Kd.R_mono HO_5.out (fun k_ hk => (⟨hk, hk.2⟩ : _ ∧ k_ ≠ gb1349))) (fun _ hk => hk.2) (.int .u64 t1346)) (fun _ hk => hk.2) (.int .u64 t1347)) (fun _ h_ => h_.1))) hb); have n1_ := Aside0.mk (blk_below (g := gb1329) (o := .cells #[.int .u64 t1326, .int .u64 t1327] 25 (0, 0)) (by (with_reducible repeat (first | refine blk_drewN ?_ _ | refine blk_drew ?_ | refine blk_alloc ?_ _)); refine blk_far ?_ NB1329_1349.out _; (with_reducible repeat (first | refine blk_drewN ?_ _ | refine blk_drew ?_ | refine blk_alloc ?_ _)); refine blk_far ?_ NB1329_1349.out _; (with_reducible repeat (first | refine blk_drewN ?_ _ | refine blk_drew ?_ | refine blk_alloc ?_ _)); exact BK1329.out) hb); have n2_ := Aside0.mk (blk_below (g := gb1333) (o := .cells #[.int .u64 t1330, .int .u64 t1331] 25 (0, 0)) (by (with_reducible repeat (first | refine blk_drewN ?_ _ | refine blk_drew ?_ | refine blk_alloc ?_ _)); refine blk_far ?_ NB1333_1349.out _; (with_reducible repeat (first | refine blk_drewN ?_ _ | refine blk_drew ?_ | refine blk_alloc ?_ _)); refine blk_far ?_ NB1333_1349.out _; (with_reducible repeat (first | refine blk_drewN ?_ _ | refine blk_drew ?_ | refine blk_alloc ?_ _)); exact BK1333.out) hb); have n3_ := Aside0.mk (blk_below (g := gb1341) (o := .cells #[.int .u64 t1338, .int .u64 t1339] 25 (0, 0)) (by (with_reducible repeat (first | refine blk_drewN ?_ _ | refine blk_drew ?_ | refine blk_alloc ?_ _)); refine blk_far ?_ NB1341_1349.out _; (with_reducible repeat (first | refine blk_drewN ?_ _ | refine blk_drew ?_ | refine blk_alloc ?_ _)); refine blk_far ?_ NB1341_1349.out _; (with_reducible repeat (first | refine blk_drewN ?_ _ | refine blk_drew ?_ | refine blk_alloc ?_ _)); exact BK1341.out) hb); have n4_ := Aside0.mk (blk_below (g := gb1349) (o := .cells #[.int .u64 t1346, .int .u64 t1347] 25 (0, 0)) (by (with_reducible repeat (first | refine blk_drewN ?_ _ | refine blk_drew ?_ | refine blk_alloc ?_ _)); refine blk_put (cs := #[.int .u64 t1346, .int .u64 0]) ?_ 1 _ rfl; (with_reducible repeat (first | refine blk_drewN ?_ _ | refine blk_drew ?_ | refine blk_alloc ?_ _)); refine blk_put (cs := #[.int .u64 0, .int .u64 0]) ?_ 0 _ rfl; (with_reducible repeat (first | refine blk_drewN ?_ _ | refine blk_drew ?_ | refine blk_alloc ?_ _)); exact BK1349.out) hb); have n5_ := Aside0.mk (below_step (by repeat (first | (with_reducible first | exact HB.out | apply below_alloc | apply pw_below_drewN | apply below_drew1 | refine below_set ?_ GE1329.out | refine below_set ?_ GE1333.out | refine below_set ?_ GE1341.out | refine below_set ?_ GE1349.out) | exact HB.out)) hb); clear HO_5; clear BK1329; clear BK1333; clear BK1341; clear BK1349; clear HB; have HO_5 := n0_; have BK1329 := n1_; have BK1333 := n2_; have BK1341 := n3_; have BK1349 := n4_; have HB := n5_; clear n0_ n1_ n2_ n3_ n4_ n5_; (try clear hb); (try clear hb2); (try clear hk); (try clear hi)) | ((with_reducible refine gate_dst (N := 16) rfl ?_); refine box_event ?hg (N := 16) ?hd (cs := #[.int .u64 0, .int .u64 0]) (t := 25) ?hr ?_; (case hd => rfl); (case hg => rfl); (case hr => first | (go_simp; done) | (go_simp; rfl)); intro gb1353 hg w50 hbox hb; have n0_ := Aside0.mk (Kd.R_below (Kd.R_elderB (by (with_reducible repeat (first | apply Kd.R_alloc | apply Kd.R_drewN | apply Kd.R_drew)); exact HO_5.out) gb1353 (Nat.le_of_eq hg.symm)) hb); have n1_ := Aside0.mk (blk_below (g := gb1329) (o := .cells #[.int .u64 t1326, .int .u64 t1327] 25 (0, 0)) (by (with_reducible repeat (first | refine blk_drewN ?_ _ | refine blk_drew ?_ | refine blk_alloc ?_ _)); exact BK1329.out) hb); have n2_ := Aside0.mk (blk_below (g := gb1333) (o := .cells #[.int .u64 t1330, .int .u64 t1331] 25 (0, 0)) (by (with_reducible repeat (first | refine blk_drewN ?_ _ | refine blk_drew ?_ | refine blk_alloc ?_ _)); exact BK1333.out) hb); have n3_ := Aside0.mk (blk_below (g := gb1341) (o := .cells #[.int .u64 t1338, .int .u64 t1339] 25 (0, 0)) (by (with_reducible repeat (first | refine blk_drewN ?_ _ | refine blk_drew ?_ | refine blk_alloc ?_ _)); exact BK1341.out) hb); have n4_ := Aside0.mk (blk_below (g := gb1349) (o := .cells #[.int .u64 t1346, .int .u64 t1347] 25 (0, 0)) (by (with_reducible repeat (first | refine blk_drewN ?_ _ | refine blk_drew ?_ | refine blk_alloc ?_ _)); exact BK1349.out) hb); have n5_ := Aside0.mk (below_step (by repeat (first | (with_reducible first | exact HB.out | apply below_alloc | apply pw_below_drewN | apply below_drew1 | refine below_set ?_ GE1329.out | refine below_set ?_ GE1333.out | refine below_set ?_ GE1341.out | refine below_set ?_ GE1349.out) | exact HB.out)) hb); have n6_ := Aside0.mk (hbox); have n7_ := Aside0.mk ((by rw [hg]; exact (below_size (by repeat (first | (with_reducible first | exact HB.out | apply below_alloc | apply pw_below_drewN | apply below_drew1 | refine below_set ?_ GE1329.out | refine below_set ?_ GE1333.out | refine below_set ?_ GE1341.out | refine below_set ?_ GE1349.out) | exact HB.out))) : w.heap.size ≤ gb1353)); have n8_ := Aside0.mk ((by rw [hg]; exact (below_size (by repeat (first | (with_reducible first | exact HB.out | apply below_alloc | apply pw_below_drewN | apply below_drew1 | refine below_set ?_ GE1329.out | refine below_set ?_ GE1333.out | refine below_set ?_ GE1341.out | refine below_set ?_ GE1349.out) | exact HB.out))) : w.heap.size ≤ gb1353)); have n9_ := Aside0.mk ((by rw [hg]; exact Nat.ne_of_lt (blk_lt (g := gb1329) (o := .cells #[.int .u64 t1326, .int .u64 t1327] 25 (0, 0)) (by (with_reducible repeat (first | refine blk_drewN ?_ _ | refine blk_drew ?_ | refine blk_alloc ?_ _)); exact BK1329.out)) : gb1329 ≠ gb1353)); have n10_ := Aside0.mk ((by rw [hg]; exact Nat.ne_of_gt (blk_lt (g := gb1329) (o := .cells #[.int .u64 t1326, .int .u64 t1327] 25 (0, 0)) (by (with_reducible repeat (first | refine blk_drewN ?_ _ | refine blk_drew ?_ | refine blk_alloc ?_ _)); exact BK1329.out)) : gb1353 ≠ gb1329)); have n11_ := Aside0.mk ((by rw [hg]; exact Nat.ne_of_lt (blk_lt (g := gb1333) (o := .cells #[.int .u64 t1330, .int .u64 t1331] 25 (0, 0)) (by (with_reducible repeat (first | refine blk_drewN ?_ _ | refine blk_drew ?_ | refine blk_alloc ?_ _)); exact BK1333.out)) : gb1333 ≠ gb1353)); have n12_ := Aside0.mk ((by rw [hg]; exact Nat.ne_of_gt (blk_lt (g := gb1333) (o := .cells #[.int .u64 t1330, .int .u64 t1331] 25 (0, 0)) (by (with_reducible repeat (first | refine blk_drewN ?_ _ | refine blk_drew ?_ | refine blk_alloc ?_ _)); exact BK1333.out)) : gb1353 ≠ gb1333)); have n13_ := Aside0.mk ((by rw [hg]; exact Nat.ne_of_lt (blk_lt (g := gb1341) (o := .cells #[.int .u64 t1338, .int .u64 t1339] 25 (0, 0)) (by (with_reducible repeat (first | refine blk_drewN ?_ _ | refine blk_drew ?_ | refine blk_alloc ?_ _)); exact BK1341.out)) : gb1341 ≠ gb1353)); have n14_ := Aside0.mk ((by rw [hg]; exact Nat.ne_of_gt (blk_lt (g := gb1341) (o := .cells #[.int .u64 t1338, .int .u64 t1339] 25 (0, 0)) (by (with_reducible repeat (first | refine blk_drewN ?_ _ | refine blk_drew ?_ | refine blk_alloc ?_ _)); exact BK1341.out)) : gb1353 ≠ gb1341)); have n15_ := Aside0.mk ((by rw [hg]; exact Nat.ne_of_lt (blk_lt (g := gb1349) (o := .cells #[.int .u64 t1346, .int .u64 t1347] 25 (0, 0)) (by (with_reducible repeat (first | refine blk_drewN ?_ _ | refine blk_drew ?_ | refine blk_alloc ?_ _)); exact BK1349.out)) : gb1349 ≠ gb1353)); have n16_ := Aside0.mk ((by rw [hg]; exact Nat.ne_of_gt (blk_lt (g := gb1349) (o := .cells #[.int .u64 t1346, .int .u64 t1347] 25 (0, 0)) (by (with_reducible repeat (first | refine blk_drewN ?_ _ | refine blk_drew ?_ | refine blk_alloc ?_ _)); exact BK1349.out)) : gb1353 ≠ gb1349)); clear HO_5; clear BK1329; clear BK1333; clear BK1341; clear BK1349; clear HB; have HO_5 := n0_; have BK1329 := n1_; have BK1333 := n2_; have BK1341 := n3_; have BK1349 := n4_; have HB := n5_; have BK1353 := n6_; have GW1353 := n7_; have GE1353 := n8_; have NB1329_1353 := n9_; have NB1353_1329 := n10_; have NB1333_1353 := n11_; have NB1353_1333 := n12_; have NB1341_1353 := n13_; have NB1353_1341 := n14_; have NB1349_1353 := n15_; have NB1353_1349 := n16_; clear n0_ n1_ n2_ n3_ n4_ n5_ n6_ n7_ n8_ n9_ n10_ n11_ n12_ n13_ n14_ n15_ n16_; clear hb hbox hg; have hnb51 := NB1353_1329.out; have hnc51 := NB1329_1353.out; have hnb52 := NB1353_1333.out; have hnc52 := NB1333_1353.out; have hnb53 := NB1353_1341.out; have hnc53 := NB1341_1353.out; have hnb54 := NB1353_1349.out; have hnc54 := NB1349_1353.out; have hcz55_0 : w50.cell? ⟨gb1353, 0, none⟩ = some (.int .u64 0) := (blk_cell BK1353.out 0).trans rfl; have hcz55_1 : w50.cell? ⟨gb1353, 1, none⟩ = some (.int .u64 0) := (blk_cell BK1353.out 1).trans rfl; have hfz55_0 := blk_frozen BK1353.out 0; have hfz55_1 := blk_frozen BK1353.out 1))
                  (try simp only [Act.put, List.setIfInBounds_toArray, List.set_cons_zero, List.set_cons_succ])
                  go_cut [98] (fun v98 wc => ∃ (kq : Nat) (x98_23 : Bool), v98 = .bool x98_23 ∧ Aside0 (paymasterlaw01_U128Sums.j1 kq l0 t1328 x98_23 t1326 t1327 t1350 t1351 = some r) ∧ Aside0 (kq ≤ k1) ∧ Aside0 (wc.heap[gb1329]? = some (.cells #[.int .u64 t1326, .int .u64 t1327] 25 (0, 0))) ∧ Aside0 (wc.heap[gb1333]? = some (.cells #[.int .u64 t1330, .int .u64 t1331] 25 (0, 0))) ∧ Aside0 (wc.heap[gb1341]? = some (.cells #[.int .u64 t1338, .int .u64 t1339] 25 (0, 0))) ∧ Aside0 (wc.heap[gb1349]? = some (.cells #[.int .u64 t1346, .int .u64 t1347] 25 (0, 0))) ∧ Aside0 (wc.heap[gb1353]? = some (.cells #[.int .u64 t1350, .int .u64 t1351] 25 (0, 0))) ∧ Aside0 (Below w.heap.size w wc))
                  case first =>
                    have H := HC24.out
                    clear HC24
                    by_cases c56 : (!(t1326 == t1330) || (!(t1327 == t1331))) = true
                    · rw [if_pos c56] at H
                      exact absurd H (by simp)
                    · rw [if_neg c56] at H
                      have c56b0 : (!(t1326 == t1330) || (!(t1327 == t1331))) = false := by simpa using c56
                      clear c56
                      (first | rw [c56b0] | (simp only [i64_w, i32_w]; rw [c56b0]) | skip)
                      by_cases c57 : t1328 = t1332
                      · rw [if_pos c57] at H
                        have c57b0 : (t1328 == t1332) = true := beq_iff_eq.mpr c57
                        have c57b1 : (t1328 != t1332) = false := bne_eq_false_iff_eq.mpr c57
                        clear c57
                        by_cases c58 : t1340 = 0
                        · rw [if_pos c58] at H
                          have c58b0 : (t1340 == 0) = true := beq_iff_eq.mpr c58
                          have c58b1 : (t1340 != 0) = false := bne_eq_false_iff_eq.mpr c58
                          clear c58
                          by_cases c59 : t1348 = 0
                          · rw [if_pos c59] at H
                            have c59b0 : (t1348 == 0) = true := beq_iff_eq.mpr c59
                            have c59b1 : (t1348 != 0) = false := bne_eq_false_iff_eq.mpr c59
                            clear c59
                            have H' := Aside0.mk H
                            clear H
                            have hnb60 := NB1329_1333.out
                            have hnc60 := NB1333_1329.out
                            have hnb61 := NB1329_1341.out
                            have hnc61 := NB1341_1329.out
                            have hnb62 := NB1329_1349.out
                            have hnc62 := NB1349_1329.out
                            have hnb63 := NB1329_1353.out
                            have hnc63 := NB1353_1329.out
                            have hcz64_0 : w50.cell? ⟨gb1329, 0, none⟩ = some (.int .u64 t1326) := (blk_cell BK1329.out 0).trans rfl
                            have hcz64_1 : w50.cell? ⟨gb1329, 1, none⟩ = some (.int .u64 t1327) := (blk_cell BK1329.out 1).trans rfl
                            have hfz64_0 := blk_frozen BK1329.out 0
                            have hfz64_1 := blk_frozen BK1329.out 1
                            have hnb65 := NB1333_1341.out
                            have hnc65 := NB1341_1333.out
                            have hnb66 := NB1333_1349.out
                            have hnc66 := NB1349_1333.out
                            have hnb67 := NB1333_1353.out
                            have hnc67 := NB1353_1333.out
                            have hcz68_0 : w50.cell? ⟨gb1333, 0, none⟩ = some (.int .u64 t1330) := (blk_cell BK1333.out 0).trans rfl
                            have hcz68_1 : w50.cell? ⟨gb1333, 1, none⟩ = some (.int .u64 t1331) := (blk_cell BK1333.out 1).trans rfl
                            have hfz68_0 := blk_frozen BK1333.out 0
                            have hfz68_1 := blk_frozen BK1333.out 1
                            go_wp2
                            go_meet
                            case rel => exact ⟨_, (((t1328 == 0) != (t1352 == 0))), (by first | rfl | (simp; done) | (simp [*]; done)), H', ⟨by have := HK1.out; first | omega | exact Nat.le_refl _⟩, ⟨by (with_reducible repeat (first | refine blk_drewN ?_ _ | refine blk_drew ?_ | refine blk_alloc ?_ _)); refine blk_far ?_ NB1329_1353.out _; (with_reducible repeat (first | refine blk_drewN ?_ _ | refine blk_drew ?_ | refine blk_alloc ?_ _)); refine blk_far ?_ NB1329_1353.out _; (with_reducible repeat (first | refine blk_drewN ?_ _ | refine blk_drew ?_ | refine blk_alloc ?_ _)); exact BK1329.out⟩, ⟨by (with_reducible repeat (first | refine blk_drewN ?_ _ | refine blk_drew ?_ | refine blk_alloc ?_ _)); refine blk_far ?_ NB1333_1353.out _; (with_reducible repeat (first | refine blk_drewN ?_ _ | refine blk_drew ?_ | refine blk_alloc ?_ _)); refine blk_far ?_ NB1333_1353.out _; (with_reducible repeat (first | refine blk_drewN ?_ _ | refine blk_drew ?_ | refine blk_alloc ?_ _)); exact BK1333.out⟩, ⟨by (with_reducible repeat (first | refine blk_drewN ?_ _ | refine blk_drew ?_ | refine blk_alloc ?_ _)); refine blk_far ?_ NB1341_1353.out _; (with_reducible repeat (first | refine blk_drewN ?_ _ | refine blk_drew ?_ | refine blk_alloc ?_ _)); refine blk_far ?_ NB1341_1353.out _; (with_reducible repeat (first | refine blk_drewN ?_ _ | refine blk_drew ?_ | refine blk_alloc ?_ _)); exact BK1341.out⟩, ⟨by (with_reducible repeat (first | refine blk_drewN ?_ _ | refine blk_drew ?_ | refine blk_alloc ?_ _)); refine blk_far ?_ NB1349_1353.out _; (with_reducible repeat (first | refine blk_drewN ?_ _ | refine blk_drew ?_ | refine blk_alloc ?_ _)); refine blk_far ?_ NB1349_1353.out _; (with_reducible repeat (first | refine blk_drewN ?_ _ | refine blk_drew ?_ | refine blk_alloc ?_ _)); exact BK1349.out⟩, ⟨by (with_reducible repeat (first | refine blk_drewN ?_ _ | refine blk_drew ?_ | refine blk_alloc ?_ _)); refine blk_put (cs := #[.int .u64 t1350, .int .u64 0]) ?_ 1 _ rfl; (with_reducible repeat (first | refine blk_drewN ?_ _ | refine blk_drew ?_ | refine blk_alloc ?_ _)); refine blk_put (cs := #[.int .u64 0, .int .u64 0]) ?_ 0 _ rfl; (with_reducible repeat (first | refine blk_drewN ?_ _ | refine blk_drew ?_ | refine blk_alloc ?_ _)); exact BK1353.out⟩, ⟨by repeat (first | (with_reducible first | exact HB.out | apply below_alloc | apply pw_below_drewN | apply below_drew1 | refine below_set ?_ GE1329.out | refine below_set ?_ GE1333.out | refine below_set ?_ GE1341.out | refine below_set ?_ GE1349.out | refine below_set ?_ GE1353.out) | exact HB.out)⟩⟩
                          · rw [if_neg c59] at H
                            have c59b0 : (t1348 == 0) = false := beq_eq_false_iff_ne.mpr c59
                            have c59b1 : (t1348 != 0) = true := bne_iff_ne.mpr c59
                            have H' := Aside0.mk H
                            clear H
                            have hnb69 := NB1329_1333.out
                            have hnc69 := NB1333_1329.out
                            have hnb70 := NB1329_1341.out
                            have hnc70 := NB1341_1329.out
                            have hnb71 := NB1329_1349.out
                            have hnc71 := NB1349_1329.out
                            have hnb72 := NB1329_1353.out
                            have hnc72 := NB1353_1329.out
                            have hcz73_0 : w50.cell? ⟨gb1329, 0, none⟩ = some (.int .u64 t1326) := (blk_cell BK1329.out 0).trans rfl
                            have hcz73_1 : w50.cell? ⟨gb1329, 1, none⟩ = some (.int .u64 t1327) := (blk_cell BK1329.out 1).trans rfl
                            have hfz73_0 := blk_frozen BK1329.out 0
                            have hfz73_1 := blk_frozen BK1329.out 1
                            have hnb74 := NB1333_1341.out
                            have hnc74 := NB1341_1333.out
                            have hnb75 := NB1333_1349.out
                            have hnc75 := NB1349_1333.out
                            have hnb76 := NB1333_1353.out
                            have hnc76 := NB1353_1333.out
                            have hcz77_0 : w50.cell? ⟨gb1333, 0, none⟩ = some (.int .u64 t1330) := (blk_cell BK1333.out 0).trans rfl
                            have hcz77_1 : w50.cell? ⟨gb1333, 1, none⟩ = some (.int .u64 t1331) := (blk_cell BK1333.out 1).trans rfl
                            have hfz77_0 := blk_frozen BK1333.out 0
                            have hfz77_1 := blk_frozen BK1333.out 1
                            go_wp2
                            go_meet
                            case rel => exact ⟨_, (((t1328 == 0) != false)), (by first | rfl | (simp; done) | (simp [*]; done)), H', ⟨by have := HK1.out; first | omega | exact Nat.le_refl _⟩, ⟨by (with_reducible repeat (first | refine blk_drewN ?_ _ | refine blk_drew ?_ | refine blk_alloc ?_ _)); refine blk_far ?_ NB1329_1353.out _; (with_reducible repeat (first | refine blk_drewN ?_ _ | refine blk_drew ?_ | refine blk_alloc ?_ _)); refine blk_far ?_ NB1329_1353.out _; (with_reducible repeat (first | refine blk_drewN ?_ _ | refine blk_drew ?_ | refine blk_alloc ?_ _)); exact BK1329.out⟩, ⟨by (with_reducible repeat (first | refine blk_drewN ?_ _ | refine blk_drew ?_ | refine blk_alloc ?_ _)); refine blk_far ?_ NB1333_1353.out _; (with_reducible repeat (first | refine blk_drewN ?_ _ | refine blk_drew ?_ | refine blk_alloc ?_ _)); refine blk_far ?_ NB1333_1353.out _; (with_reducible repeat (first | refine blk_drewN ?_ _ | refine blk_drew ?_ | refine blk_alloc ?_ _)); exact BK1333.out⟩, ⟨by (with_reducible repeat (first | refine blk_drewN ?_ _ | refine blk_drew ?_ | refine blk_alloc ?_ _)); refine blk_far ?_ NB1341_1353.out _; (with_reducible repeat (first | refine blk_drewN ?_ _ | refine blk_drew ?_ | refine blk_alloc ?_ _)); refine blk_far ?_ NB1341_1353.out _; (with_reducible repeat (first | refine blk_drewN ?_ _ | refine blk_drew ?_ | refine blk_alloc ?_ _)); exact BK1341.out⟩, ⟨by (with_reducible repeat (first | refine blk_drewN ?_ _ | refine blk_drew ?_ | refine blk_alloc ?_ _)); refine blk_far ?_ NB1349_1353.out _; (with_reducible repeat (first | refine blk_drewN ?_ _ | refine blk_drew ?_ | refine blk_alloc ?_ _)); refine blk_far ?_ NB1349_1353.out _; (with_reducible repeat (first | refine blk_drewN ?_ _ | refine blk_drew ?_ | refine blk_alloc ?_ _)); exact BK1349.out⟩, ⟨by (with_reducible repeat (first | refine blk_drewN ?_ _ | refine blk_drew ?_ | refine blk_alloc ?_ _)); refine blk_put (cs := #[.int .u64 t1350, .int .u64 0]) ?_ 1 _ rfl; (with_reducible repeat (first | refine blk_drewN ?_ _ | refine blk_drew ?_ | refine blk_alloc ?_ _)); refine blk_put (cs := #[.int .u64 0, .int .u64 0]) ?_ 0 _ rfl; (with_reducible repeat (first | refine blk_drewN ?_ _ | refine blk_drew ?_ | refine blk_alloc ?_ _)); exact BK1353.out⟩, ⟨by repeat (first | (with_reducible first | exact HB.out | apply below_alloc | apply pw_below_drewN | apply below_drew1 | refine below_set ?_ GE1329.out | refine below_set ?_ GE1333.out | refine below_set ?_ GE1341.out | refine below_set ?_ GE1349.out | refine below_set ?_ GE1353.out) | exact HB.out)⟩⟩
                        · rw [if_neg c58] at H
                          have c58b0 : (t1340 == 0) = false := beq_eq_false_iff_ne.mpr c58
                          have c58b1 : (t1340 != 0) = true := bne_iff_ne.mpr c58
                          have H' := Aside0.mk H
                          clear H
                          have hnb78 := NB1329_1333.out
                          have hnc78 := NB1333_1329.out
                          have hnb79 := NB1329_1341.out
                          have hnc79 := NB1341_1329.out
                          have hnb80 := NB1329_1349.out
                          have hnc80 := NB1349_1329.out
                          have hnb81 := NB1329_1353.out
                          have hnc81 := NB1353_1329.out
                          have hcz82_0 : w50.cell? ⟨gb1329, 0, none⟩ = some (.int .u64 t1326) := (blk_cell BK1329.out 0).trans rfl
                          have hcz82_1 : w50.cell? ⟨gb1329, 1, none⟩ = some (.int .u64 t1327) := (blk_cell BK1329.out 1).trans rfl
                          have hfz82_0 := blk_frozen BK1329.out 0
                          have hfz82_1 := blk_frozen BK1329.out 1
                          have hnb83 := NB1333_1341.out
                          have hnc83 := NB1341_1333.out
                          have hnb84 := NB1333_1349.out
                          have hnc84 := NB1349_1333.out
                          have hnb85 := NB1333_1353.out
                          have hnc85 := NB1353_1333.out
                          have hcz86_0 : w50.cell? ⟨gb1333, 0, none⟩ = some (.int .u64 t1330) := (blk_cell BK1333.out 0).trans rfl
                          have hcz86_1 : w50.cell? ⟨gb1333, 1, none⟩ = some (.int .u64 t1331) := (blk_cell BK1333.out 1).trans rfl
                          have hfz86_0 := blk_frozen BK1333.out 0
                          have hfz86_1 := blk_frozen BK1333.out 1
                          go_wp2
                          go_meet
                          case rel => exact ⟨_, (((t1328 == 0) != false)), (by first | rfl | (simp; done) | (simp [*]; done)), H', ⟨by have := HK1.out; first | omega | exact Nat.le_refl _⟩, ⟨by (with_reducible repeat (first | refine blk_drewN ?_ _ | refine blk_drew ?_ | refine blk_alloc ?_ _)); refine blk_far ?_ NB1329_1353.out _; (with_reducible repeat (first | refine blk_drewN ?_ _ | refine blk_drew ?_ | refine blk_alloc ?_ _)); refine blk_far ?_ NB1329_1353.out _; (with_reducible repeat (first | refine blk_drewN ?_ _ | refine blk_drew ?_ | refine blk_alloc ?_ _)); exact BK1329.out⟩, ⟨by (with_reducible repeat (first | refine blk_drewN ?_ _ | refine blk_drew ?_ | refine blk_alloc ?_ _)); refine blk_far ?_ NB1333_1353.out _; (with_reducible repeat (first | refine blk_drewN ?_ _ | refine blk_drew ?_ | refine blk_alloc ?_ _)); refine blk_far ?_ NB1333_1353.out _; (with_reducible repeat (first | refine blk_drewN ?_ _ | refine blk_drew ?_ | refine blk_alloc ?_ _)); exact BK1333.out⟩, ⟨by (with_reducible repeat (first | refine blk_drewN ?_ _ | refine blk_drew ?_ | refine blk_alloc ?_ _)); refine blk_far ?_ NB1341_1353.out _; (with_reducible repeat (first | refine blk_drewN ?_ _ | refine blk_drew ?_ | refine blk_alloc ?_ _)); refine blk_far ?_ NB1341_1353.out _; (with_reducible repeat (first | refine blk_drewN ?_ _ | refine blk_drew ?_ | refine blk_alloc ?_ _)); exact BK1341.out⟩, ⟨by (with_reducible repeat (first | refine blk_drewN ?_ _ | refine blk_drew ?_ | refine blk_alloc ?_ _)); refine blk_far ?_ NB1349_1353.out _; (with_reducible repeat (first | refine blk_drewN ?_ _ | refine blk_drew ?_ | refine blk_alloc ?_ _)); refine blk_far ?_ NB1349_1353.out _; (with_reducible repeat (first | refine blk_drewN ?_ _ | refine blk_drew ?_ | refine blk_alloc ?_ _)); exact BK1349.out⟩, ⟨by (with_reducible repeat (first | refine blk_drewN ?_ _ | refine blk_drew ?_ | refine blk_alloc ?_ _)); refine blk_put (cs := #[.int .u64 t1350, .int .u64 0]) ?_ 1 _ rfl; (with_reducible repeat (first | refine blk_drewN ?_ _ | refine blk_drew ?_ | refine blk_alloc ?_ _)); refine blk_put (cs := #[.int .u64 0, .int .u64 0]) ?_ 0 _ rfl; (with_reducible repeat (first | refine blk_drewN ?_ _ | refine blk_drew ?_ | refine blk_alloc ?_ _)); exact BK1353.out⟩, ⟨by repeat (first | (with_reducible first | exact HB.out | apply below_alloc | apply pw_below_drewN | apply below_drew1 | refine below_set ?_ GE1329.out | refine below_set ?_ GE1333.out | refine below_set ?_ GE1341.out | refine below_set ?_ GE1349.out | refine below_set ?_ GE1353.out) | exact HB.out)⟩⟩
                      · rw [if_neg c57] at H
                        exact absurd H (by simp)
                  case rest =>
                    clear HC24
                    try clear c1
                    try clear p1
                    try clear q1
                    try clear hx1
                    try clear c2
                    try clear p2
                    try clear c3
                    try clear q3
                    try clear c4
                    try clear q4
                    try clear c5
                    try clear c5b0
                    try clear c5b1
                    try clear c6
                    try clear p6
                    try clear c7
                    try clear c8
                    try clear c8b0
                    try clear c9
                    try clear c9b0
                    try clear c10
                    try clear c10b0
                    try clear c11
                    try clear p12
                    try clear q12
                    try clear hx12
                    try clear c15
                    try clear c15b0
                    try clear c15b1
                    try clear c17
                    try clear c17b0
                    try clear c17b1
                    try clear c18
                    try clear c18b0
                    try clear c18b1
                    try clear c20
                    try clear c20b0
                    try clear c21
                    try clear c21b0
                    try clear c27
                    try clear c31
                    try clear q34
                    try clear c37
                    try clear c38
                    try clear c41
                    try clear q41
                    try clear c44
                    try clear c45
                    try clear c46
                    try clear c51
                    try clear c52
                    try clear c53
                    try clear c54
                    try clear c56
                    try clear c56b0
                    try clear c57
                    try clear c57b0
                    try clear c57b1
                    try clear c58
                    try clear c58b0
                    try clear c58b1
                    try clear c59
                    try clear c59b0
                    try clear c59b1
                    try clear c60
                    try clear c61
                    try clear c62
                    try clear c63
                    try clear p64
                    try clear c65
                    try clear c66
                    try clear c67
                    try clear c69
                    try clear c70
                    try clear c71
                    try clear c72
                    try clear c74
                    try clear c75
                    try clear c76
                    try clear c78
                    try clear c79
                    try clear c80
                    try clear c81
                    try clear c83
                    try clear c84
                    try clear c85
                    try clear hcz27_0
                    try clear hcz27_1
                    try clear hcz32_0
                    try clear hcz32_1
                    try clear hcz39_0
                    try clear hcz39_1
                    try clear hcz47_0
                    try clear hcz47_1
                    try clear hcz48_0
                    try clear hcz48_1
                    try clear hcz55_0
                    try clear hcz55_1
                    try clear hcz64_0
                    try clear hcz64_1
                    try clear hcz68_0
                    try clear hcz68_1
                    try clear hcz73_0
                    try clear hcz73_1
                    try clear hcz77_0
                    try clear hcz77_1
                    try clear hcz82_0
                    try clear hcz82_1
                    try clear hcz86_0
                    try clear hcz86_1
                    try clear hfz27_0
                    try clear hfz27_1
                    try clear hfz32_0
                    try clear hfz32_1
                    try clear hfz39_0
                    try clear hfz39_1
                    try clear hfz47_0
                    try clear hfz47_1
                    try clear hfz48_0
                    try clear hfz48_1
                    try clear hfz55_0
                    try clear hfz55_1
                    try clear hfz64_0
                    try clear hfz64_1
                    try clear hfz68_0
                    try clear hfz68_1
                    try clear hfz73_0
                    try clear hfz73_1
                    try clear hfz77_0
                    try clear hfz77_1
                    try clear hfz82_0
                    try clear hfz82_1
                    try clear hfz86_0
                    try clear hfz86_1
                    try clear hx1294_0
                    try clear hx1294_1
                    try clear p1294
                    try clear p2
                    try clear p6
                    try clear q041
                    try clear q1294
                    try clear q34
                    try clear q41
                    obtain ⟨kq, x98_23, rfl, HA, HJ23, BK1329, BK1333, BK1341, BK1349, BK1353, HB⟩ := hcut
                    cases kq with
                    | zero => exact absurd HA.out (by simp [paymasterlaw01_U128Sums.j1])
                    | succ kj23 =>
                      have H := HA.out
                      clear HA
                      simp only [paymasterlaw01_U128Sums.j1] at H
                      by_cases c87 : x98_23 = true
                      · subst c87
                        have H1 : (none) = some r := by rw [if_pos rfl] at H; exact H
                        clear H
                        have H := H1
                        clear H1
                        exact absurd H (by simp)
                      · replace c87 := Bool.eq_false_iff.mpr c87
                        subst c87
                        have H1 : (if t1328 = 0 then (paymasterlaw01_U128Sums.l1 kj23 l0 0 t1326 t1327 t1350 t1351) else (if t1328 = 10 then (some (t1326 == 0 && (t1327 == 0))) else (none))) = some r := by rw [if_neg (show ¬ (false = true) by decide)] at H; exact H
                        clear H
                        have H := H1
                        clear H1
                        by_cases c88 : t1328 = 0
                        · rw [if_pos c88] at H
                          have c88b0 : (t1328 == 0) = true := beq_iff_eq.mpr c88
                          have c88b1 : (t1328 != 0) = false := bne_eq_false_iff_eq.mpr c88
                          clear c88
                          have H' := Aside0.mk H
                          clear H
                          go_wp2
                          go_loopg [18] kj23 (fun kq v18 w' => ∃ (x18_3 : Int), v18 = .int .i64 x18_3 ∧ Aside0 (paymasterlaw01_U128Sums.l1 kq l0 x18_3 t1326 t1327 t1350 t1351 = some r) ∧ Aside0 (kq ≤ kj23) ∧ Aside0 (w'.heap[gb1329]? = some (.cells #[.int .u64 t1326, .int .u64 t1327] 25 (0, 0))) ∧ Aside0 (w'.heap[gb1333]? = some (.cells #[.int .u64 t1330, .int .u64 t1331] 25 (0, 0))) ∧ Aside0 (w'.heap[gb1341]? = some (.cells #[.int .u64 t1338, .int .u64 t1339] 25 (0, 0))) ∧ Aside0 (w'.heap[gb1349]? = some (.cells #[.int .u64 t1346, .int .u64 t1347] 25 (0, 0))) ∧ Aside0 (w'.heap[gb1353]? = some (.cells #[.int .u64 t1350, .int .u64 t1351] 25 (0, 0))) ∧ Aside0 (Below w.heap.size w w'))
                          case atStart => exact ⟨(0), (by first | rfl | (simp; done) | (simp [*]; done)), H', ⟨Nat.le_refl _⟩, ⟨by (with_reducible repeat (first | refine blk_drewN ?_ _ | refine blk_drew ?_ | refine blk_alloc ?_ _)); exact BK1329.out⟩, ⟨by (with_reducible repeat (first | refine blk_drewN ?_ _ | refine blk_drew ?_ | refine blk_alloc ?_ _)); exact BK1333.out⟩, ⟨by (with_reducible repeat (first | refine blk_drewN ?_ _ | refine blk_drew ?_ | refine blk_alloc ?_ _)); exact BK1341.out⟩, ⟨by (with_reducible repeat (first | refine blk_drewN ?_ _ | refine blk_drew ?_ | refine blk_alloc ?_ _)); exact BK1349.out⟩, ⟨by (with_reducible repeat (first | refine blk_drewN ?_ _ | refine blk_drew ?_ | refine blk_alloc ?_ _)); exact BK1353.out⟩, ⟨by repeat (first | (with_reducible first | exact HB.out | apply below_alloc | apply pw_below_drewN | apply below_drew1 | refine below_set ?_ GE1329.out | refine below_set ?_ GE1333.out | refine below_set ?_ GE1341.out | refine below_set ?_ GE1349.out | refine below_set ?_ GE1353.out) | exact HB.out)⟩⟩
                          case round =>
                            clear H'
                            try clear c1
                            try clear p1
                            try clear q1
                            try clear hx1
                            try clear c2
                            try clear p2
                            try clear c3
                            try clear q3
                            try clear c4
                            try clear q4
                            try clear c5
                            try clear c5b0
                            try clear c5b1
                            try clear c6
                            try clear p6
                            try clear c7
                            try clear c8
                            try clear c8b0
                            try clear c9
                            try clear c9b0
                            try clear c10
                            try clear c10b0
                            try clear c11
                            try clear p12
                            try clear q12
                            try clear hx12
                            try clear c15
                            try clear c15b0
                            try clear c15b1
                            try clear c17
                            try clear c17b0
                            try clear c17b1
                            try clear c18
                            try clear c18b0
                            try clear c18b1
                            try clear c20
                            try clear c20b0
                            try clear c21
                            try clear c21b0
                            try clear c27
                            try clear c31
                            try clear q34
                            try clear c37
                            try clear c38
                            try clear c41
                            try clear q41
                            try clear c44
                            try clear c45
                            try clear c46
                            try clear c51
                            try clear c52
                            try clear c53
                            try clear c54
                            try clear c56
                            try clear c56b0
                            try clear c57
                            try clear c57b0
                            try clear c57b1
                            try clear c58
                            try clear c58b0
                            try clear c58b1
                            try clear c59
                            try clear c59b0
                            try clear c59b1
                            try clear c60
                            try clear c61
                            try clear c62
                            try clear c63
                            try clear p64
                            try clear c65
                            try clear c66
                            try clear c67
                            try clear c69
                            try clear c70
                            try clear c71
                            try clear c72
                            try clear c74
                            try clear c75
                            try clear c76
                            try clear c78
                            try clear c79
                            try clear c80
                            try clear c81
                            try clear c83
                            try clear c84
                            try clear c85
                            try clear c87
                            try clear c88
                            try clear c88b0
                            try clear c88b1
                            try clear hcz27_0
                            try clear hcz27_1
                            try clear hcz32_0
                            try clear hcz32_1
                            try clear hcz39_0
                            try clear hcz39_1
                            try clear hcz47_0
                            try clear hcz47_1
                            try clear hcz48_0
                            try clear hcz48_1
                            try clear hcz55_0
                            try clear hcz55_1
                            try clear hcz64_0
                            try clear hcz64_1
                            try clear hcz68_0
                            try clear hcz68_1
                            try clear hcz73_0
                            try clear hcz73_1
                            try clear hcz77_0
                            try clear hcz77_1
                            try clear hcz82_0
                            try clear hcz82_1
                            try clear hcz86_0
                            try clear hcz86_1
                            try clear hfz27_0
                            try clear hfz27_1
                            try clear hfz32_0
                            try clear hfz32_1
                            try clear hfz39_0
                            try clear hfz39_1
                            try clear hfz47_0
                            try clear hfz47_1
                            try clear hfz48_0
                            try clear hfz48_1
                            try clear hfz55_0
                            try clear hfz55_1
                            try clear hfz64_0
                            try clear hfz64_1
                            try clear hfz68_0
                            try clear hfz68_1
                            try clear hfz73_0
                            try clear hfz73_1
                            try clear hfz77_0
                            try clear hfz77_1
                            try clear hfz82_0
                            try clear hfz82_1
                            try clear hfz86_0
                            try clear hfz86_1
                            try clear hx1294_0
                            try clear hx1294_1
                            try clear p1
                            try clear p12
                            try clear p1294
                            try clear p2
                            try clear p6
                            try clear p64
                            try clear q041
                            try clear q1
                            try clear q12
                            try clear q1294
                            try clear q3
                            try clear q34
                            try clear q4
                            try clear q41
                            obtain ⟨x18_3, rfl, HA, HK3, BK1329, BK1333, BK1341, BK1349, BK1353, HB⟩ := hrel
                            cases gk with
                            | zero => exact absurd HA.out (by simp [paymasterlaw01_U128Sums.l1])
                            | succ k3 =>
                              have H := HA.out
                              clear HA
                              simp only [paymasterlaw01_U128Sums.l1] at H
                              by_cases c89 : x18_3 < (l0.length : Int)
                              · rw [if_pos c89] at H
                                have c89b0 : decide (x18_3 < (l0.length : Int)) = true := decide_eq_true c89
                                clear c89
                                by_cases c90 : 0 ≤ x18_3
                                · rw [if_pos c90] at H
                                  have c90b0 : decide (0 ≤ x18_3) = true := decide_eq_true c90
                                  clear c90
                                  replace H := Option.bind_eq_some_iff.mp H
                                  obtain ⟨t1355, A910, H⟩ := H
                                  replace H : (if t1355 > 0 then (none) else (paymasterlaw01_U128Sums.l1 k3 l0 (wrap64 (x18_3 + 1)) t1326 t1327 t1350 t1351)) = some r := H
                                  have A91 := Aside0.mk A910
                                  clear A910
                                  by_cases c92 : t1355 > 0
                                  · rw [if_pos c92] at H
                                    exact absurd H (by simp)
                                  · rw [if_neg c92] at H
                                    have c92b0 : decide (0 < t1355) = false := decide_eq_false c92
                                    clear c92
                                    have H' := Aside0.mk H
                                    clear H
                                    try go_wp2
                                    have n0_ := Aside0.mk (blk_drew BK1329.out)
                                    have n1_ := Aside0.mk (blk_drew BK1333.out)
                                    have n2_ := Aside0.mk (blk_drew BK1341.out)
                                    have n3_ := Aside0.mk (blk_drew BK1349.out)
                                    have n4_ := Aside0.mk (blk_drew BK1353.out)
                                    have n5_ := Aside0.mk (below_drew1 HB.out)
                                    clear BK1329
                                    clear BK1333
                                    clear BK1341
                                    clear BK1349
                                    clear BK1353
                                    clear HB
                                    have BK1329 := n0_
                                    have BK1333 := n1_
                                    have BK1341 := n2_
                                    have BK1349 := n3_
                                    have BK1353 := n4_
                                    have HB := n5_
                                    clear n0_ n1_ n2_ n3_ n4_ n5_
                                    have p1354 : 0 ≤ (x18_3 : Int) := of_decide_eq_true (by first | (with_reducible assumption) | assumption)
                                    have q1354 : x18_3 < (l0.length : Int) := of_decide_eq_true (by first | (with_reducible assumption) | assumption)
                                    obtain ⟨ad1354, e1354, hx1354_0, hx1354_1⟩ := at_T25 HR0.out x18_3 p1354 q1354
                                    have hw1354_1 := hx1354_1
                                    have hw1354_0 := hx1354_0
                                    cases e1354
                                    replace hx1354_0 := (HB.out.cell (World.block_lt_of_cell? w _ hx1354_0)).trans hx1354_0
                                    replace hx1354_1 := (HB.out.cell (World.block_lt_of_cell? w _ hx1354_1)).trans hx1354_1
                                    replace p1354 := eq_true p1354
                                    replace q1354 := eq_true q1354
                                    refine start_ (n := 7) (S := fun w' => w'.cell? ⟨gb1329, 0, none⟩ = some (.int .u64 t1326) ∧ w'.cell? ⟨gb1329, 1, none⟩ = some (.int .u64 t1327) ∧ w'.cell? (ad1354.add ((x18_3).toNat * 2)) = some (.int .u64 ((rd_T25 l0 x18_3).f0)) ∧ w'.cell? ⟨(ad1354.add ((x18_3).toNat * 2)).block, (ad1354.add ((x18_3).toNat * 2)).off + 1, none⟩ = some (.int .u64 ((rd_T25 l0 x18_3).f1))) (ds := []) #[false, false, false, false, false, false, false] (by kernel_rfl) rfl rfl ⟨(blk_cell BK1329.out 0).trans rfl, (blk_cell BK1329.out 1).trans rfl, ((HB.out.cell (World.block_lt_of_cell? w _ hw1354_0)).trans hw1354_0), ((HB.out.cell (World.block_lt_of_cell? w _ hw1354_1)).trans hw1354_1)⟩ (fun hHeld => ?_)
                                    generalize wr.drew = w93 at BK1329 BK1333 BK1341 BK1349 BK1353 HB hx1354_0 hx1354_1 hHeld ⊢
                                    refine pure_ (i := 0) (N := some 114) (v := ?_) (a' := ?_) #[true, false, false, false, false, false, false] rfl rfl (by kernel_rfl) (fun _ _ _ h => h) (Or.inl ⟨by rfl, ?_⟩) ?_ ?_
                                    rotate_left
                                    · intro w'
                                      go_simp
                                      with_reducible rfl
                                    rotate_left
                                    · simp only [Act.put, List.setIfInBounds_toArray, List.set_cons_zero, List.set_cons_succ, i64_w, i32_w]
                                      rfl
                                    refine pure_ (i := 1) (N := some 115) (v := ?_) (a' := ?_) #[true, true, false, false, false, false, false] rfl rfl (by kernel_rfl) (fun _ _ _ h => h) (Or.inl ⟨by rfl, ?_⟩) ?_ ?_
                                    rotate_left
                                    · intro w'
                                      go_simp
                                      with_reducible rfl
                                    rotate_left
                                    · simp only [Act.put, List.setIfInBounds_toArray, List.set_cons_zero, List.set_cons_succ, i64_w, i32_w]
                                      rfl
                                    refine pure_ (i := 2) (N := some 116) (v := ?_) (a' := ?_) #[true, true, true, false, false, false, false] rfl rfl (by kernel_rfl) (fun _ _ _ h => h) (Or.inl ⟨by rfl, ?_⟩) ?_ ?_
                                    rotate_left
                                    · intro w'
                                      go_simp
                                      with_reducible rfl
                                    rotate_left
                                    · simp only [Act.put, List.setIfInBounds_toArray, List.set_cons_zero, List.set_cons_succ, i64_w, i32_w]
                                      rfl
                                    refine take_ (i := 3) (N := some 117) (v := ?_) (a' := ?_) #[true, true, true, true, false, false, false] rfl rfl (by kernel_rfl) (fun _ _ _ h => h) (Or.inl ⟨by rfl, ?_⟩) hHeld ?_ ?_
                                    rotate_left
                                    · rintro w' ⟨s0, s1, s2, s3⟩
                                      go_simp
                                      with_reducible rfl
                                    rotate_left
                                    · simp only [Act.put, List.setIfInBounds_toArray, List.set_cons_zero, List.set_cons_succ, i64_w, i32_w]
                                      rfl
                                    refine take_ (i := 4) (N := some 118) (v := ?_) (a' := ?_) #[true, true, true, true, true, false, false] rfl rfl (by kernel_rfl) (fun _ _ _ h => h) (Or.inl ⟨by rfl, ?_⟩) hHeld ?_ ?_
                                    rotate_left
                                    · rintro w' ⟨s0, s1, s2, s3⟩
                                      go_simp
                                      with_reducible rfl
                                    rotate_left
                                    · simp only [Act.put, List.setIfInBounds_toArray, List.set_cons_zero, List.set_cons_succ, i64_w, i32_w]
                                      rfl
                                    refine one_ (i := 5) (N := some 119) #[true, true, true, true, true, true, false] rfl rfl (by kernel_rfl) (by decide) (fun K hK => ?_)
                                    refine goes_ Try.func49 (by kernel_rfl) rfl #[.agg #[.int .u64 ((rd_T25 l0 x18_3).f0), .int .u64 ((rd_T25 l0 x18_3).f1)], .agg #[.int .u64 t1326, .int .u64 t1327]] (by rfl) rfl rfl (by (try simp only [List.map_toArray, List.map_cons, List.map_nil]); first | done | rfl | (simp only [List.length_drop, List.length_take]; rfl) | (simp [Act.eval, KC0.out]; done)) ?_
                                    with_reducible refine (u128_Cmp.calls k3 ((rd_T25 l0 x18_3).f0) ((rd_T25 l0 x18_3).f1) t1326 t1327 t1355 _ A91.out).mono ?_
                                    rintro e w94 ⟨rfl, hb⟩
                                    refine ⟨_, rfl, ?_⟩
                                    have n0_ := Aside0.mk (blk_below (g := gb1329) (o := .cells #[.int .u64 t1326, .int .u64 t1327] 25 (0, 0)) (by (with_reducible repeat (first | refine blk_drewN ?_ _ | refine blk_drew ?_ | refine blk_alloc ?_ _)); exact BK1329.out) hb)
                                    have n1_ := Aside0.mk (blk_below (g := gb1333) (o := .cells #[.int .u64 t1330, .int .u64 t1331] 25 (0, 0)) (by (with_reducible repeat (first | refine blk_drewN ?_ _ | refine blk_drew ?_ | refine blk_alloc ?_ _)); exact BK1333.out) hb)
                                    have n2_ := Aside0.mk (blk_below (g := gb1341) (o := .cells #[.int .u64 t1338, .int .u64 t1339] 25 (0, 0)) (by (with_reducible repeat (first | refine blk_drewN ?_ _ | refine blk_drew ?_ | refine blk_alloc ?_ _)); exact BK1341.out) hb)
                                    have n3_ := Aside0.mk (blk_below (g := gb1349) (o := .cells #[.int .u64 t1346, .int .u64 t1347] 25 (0, 0)) (by (with_reducible repeat (first | refine blk_drewN ?_ _ | refine blk_drew ?_ | refine blk_alloc ?_ _)); exact BK1349.out) hb)
                                    have n4_ := Aside0.mk (blk_below (g := gb1353) (o := .cells #[.int .u64 t1350, .int .u64 t1351] 25 (0, 0)) (by (with_reducible repeat (first | refine blk_drewN ?_ _ | refine blk_drew ?_ | refine blk_alloc ?_ _)); exact BK1353.out) hb)
                                    have n5_ := Aside0.mk (below_step (by repeat (first | (with_reducible first | exact HB.out | apply below_alloc | apply pw_below_drewN | apply below_drew1 | refine below_set ?_ GE1329.out | refine below_set ?_ GE1333.out | refine below_set ?_ GE1341.out | refine below_set ?_ GE1349.out | refine below_set ?_ GE1353.out) | exact HB.out)) hb)
                                    clear BK1329
                                    clear BK1333
                                    clear BK1341
                                    clear BK1349
                                    clear BK1353
                                    clear HB
                                    have BK1329 := n0_
                                    have BK1333 := n1_
                                    have BK1341 := n2_
                                    have BK1349 := n3_
                                    have BK1353 := n4_
                                    have HB := n5_
                                    clear n0_ n1_ n2_ n3_ n4_ n5_
                                    (try clear hb)
                                    (try clear hb2)
                                    (try clear hk)
                                    (try clear hi)
                                    refine hK.out _ _ ⟨(blk_cell BK1329.out 0).trans rfl, (blk_cell BK1329.out 1).trans rfl, ((HB.out.cell (World.block_lt_of_cell? w _ hw1354_0)).trans hw1354_0), ((HB.out.cell (World.block_lt_of_cell? w _ hw1354_1)).trans hw1354_1)⟩ (fun hHeld => ?_)
                                    clear hK K
                                    refine norm_ (a' := ?_) ?_ ?_
                                    rotate_left
                                    · show Act.put _ (some 119) _ = _
                                      simp only [Act.put, List.setIfInBounds_toArray, List.set_cons_zero, List.set_cons_succ, i64_w, i32_w]
                                      rfl
                                    refine pure_ (i := 6) (N := some 120) (v := ?_) (a' := ?_) #[true, true, true, true, true, true, true] rfl rfl (by kernel_rfl) (fun _ _ _ h => h) (Or.inl ⟨by rfl, ?_⟩) ?_ ?_
                                    rotate_left
                                    · intro w'
                                      go_simp
                                      with_reducible rfl
                                    rotate_left
                                    · simp only [Act.put, List.setIfInBounds_toArray, List.set_cons_zero, List.set_cons_succ, i64_w, i32_w]
                                      rfl
                                    refine done_ (by kernel_rfl) ?_
                                    try go_wp2
                                    go_roundg k3
                                    case measure => have := HK1.out; have := HJ23.out; have := HK3.out; omega
                                    case rel => exact ⟨(wrap64 (x18_3 + 1)), (by first | rfl | (simp; done) | (simp [*]; done)), H', ⟨by have := HK1.out; have := HJ23.out; have := HK3.out; omega⟩, ⟨by (with_reducible repeat (first | refine blk_drewN ?_ _ | refine blk_drew ?_ | refine blk_alloc ?_ _)); exact BK1329.out⟩, ⟨by (with_reducible repeat (first | refine blk_drewN ?_ _ | refine blk_drew ?_ | refine blk_alloc ?_ _)); exact BK1333.out⟩, ⟨by (with_reducible repeat (first | refine blk_drewN ?_ _ | refine blk_drew ?_ | refine blk_alloc ?_ _)); exact BK1341.out⟩, ⟨by (with_reducible repeat (first | refine blk_drewN ?_ _ | refine blk_drew ?_ | refine blk_alloc ?_ _)); exact BK1349.out⟩, ⟨by (with_reducible repeat (first | refine blk_drewN ?_ _ | refine blk_drew ?_ | refine blk_alloc ?_ _)); exact BK1353.out⟩, ⟨by repeat (first | (with_reducible first | exact HB.out | apply below_alloc | apply pw_below_drewN | apply below_drew1 | refine below_set ?_ GE1329.out | refine below_set ?_ GE1333.out | refine below_set ?_ GE1341.out | refine below_set ?_ GE1349.out | refine below_set ?_ GE1353.out) | exact HB.out)⟩⟩
                                · rw [if_neg c90] at H
                                  exact absurd H (by simp)
                              · rw [if_neg c89] at H
                                have c89b0 : decide (x18_3 < (l0.length : Int)) = false := decide_eq_false c89
                                clear c89
                                obtain rfl := Option.some.inj H
                                have hnb95 := NB1353_1329.out
                                have hnc95 := NB1329_1353.out
                                have hnb96 := NB1353_1333.out
                                have hnc96 := NB1333_1353.out
                                have hnb97 := NB1353_1341.out
                                have hnc97 := NB1341_1353.out
                                have hnb98 := NB1353_1349.out
                                have hnc98 := NB1349_1353.out
                                have hcz99_0 : wr.cell? ⟨gb1353, 0, none⟩ = some (.int .u64 t1350) := (blk_cell BK1353.out 0).trans rfl
                                have hcz99_1 : wr.cell? ⟨gb1353, 1, none⟩ = some (.int .u64 t1351) := (blk_cell BK1353.out 1).trans rfl
                                have hfz99_0 := blk_frozen BK1353.out 0
                                have hfz99_1 := blk_frozen BK1353.out 1
                                have hnb100 := NB1329_1333.out
                                have hnc100 := NB1333_1329.out
                                have hnb101 := NB1329_1341.out
                                have hnc101 := NB1341_1329.out
                                have hnb102 := NB1329_1349.out
                                have hnc102 := NB1349_1329.out
                                have hcz103_0 : wr.cell? ⟨gb1329, 0, none⟩ = some (.int .u64 t1326) := (blk_cell BK1329.out 0).trans rfl
                                have hcz103_1 : wr.cell? ⟨gb1329, 1, none⟩ = some (.int .u64 t1327) := (blk_cell BK1329.out 1).trans rfl
                                have hfz103_0 := blk_frozen BK1329.out 0
                                have hfz103_1 := blk_frozen BK1329.out 1
                                go_wp2
                                go_ret
                                exact ⟨by first | rfl | (simp [errW_none, errW_some] <;> rfl) | (simp only [← hji16]; first | rfl | (simp [errW_none, errW_some] <;> rfl)) | (simp [*, errW_none, errW_some] <;> rfl), by repeat (first | (with_reducible first | exact HB.out | apply below_alloc | apply pw_below_drewN | apply below_drew1 | refine below_set ?_ GE1329.out | refine below_set ?_ GE1333.out | refine below_set ?_ GE1341.out | refine below_set ?_ GE1349.out | refine below_set ?_ GE1353.out) | exact HB.out)⟩
                        · rw [if_neg c88] at H
                          have c88b0 : (t1328 == 0) = false := beq_eq_false_iff_ne.mpr c88
                          have c88b1 : (t1328 != 0) = true := bne_iff_ne.mpr c88
                          by_cases c104 : t1328 = 10
                          · rw [if_pos c104] at H
                            have c104b0 : (t1328 == 10) = true := beq_iff_eq.mpr c104
                            have c104b1 : (t1328 != 10) = false := bne_eq_false_iff_eq.mpr c104
                            clear c104
                            obtain rfl := Option.some.inj H
                            have hnb105 := NB1329_1333.out
                            have hnc105 := NB1333_1329.out
                            have hnb106 := NB1329_1341.out
                            have hnc106 := NB1341_1329.out
                            have hnb107 := NB1329_1349.out
                            have hnc107 := NB1349_1329.out
                            have hnb108 := NB1329_1353.out
                            have hnc108 := NB1353_1329.out
                            have hcz109_0 : wc.cell? ⟨gb1329, 0, none⟩ = some (.int .u64 t1326) := (blk_cell BK1329.out 0).trans rfl
                            have hcz109_1 : wc.cell? ⟨gb1329, 1, none⟩ = some (.int .u64 t1327) := (blk_cell BK1329.out 1).trans rfl
                            have hfz109_0 := blk_frozen BK1329.out 0
                            have hfz109_1 := blk_frozen BK1329.out 1
                            go_wp2
                            go_ret
                            exact ⟨by first | rfl | (simp [errW_none, errW_some] <;> rfl) | (simp only [← hji16]; first | rfl | (simp [errW_none, errW_some] <;> rfl)) | (simp [*, errW_none, errW_some] <;> rfl), by repeat (first | (with_reducible first | exact HB.out | apply below_alloc | apply pw_below_drewN | apply below_drew1 | refine below_set ?_ GE1329.out | refine below_set ?_ GE1333.out | refine below_set ?_ GE1341.out | refine below_set ?_ GE1349.out | refine below_set ?_ GE1353.out) | exact HB.out)⟩
                          · rw [if_neg c104] at H
                            exact absurd H (by simp)
                · rw [if_neg c18] at H
                  exact absurd H (by simp)
              · rw [if_neg c17] at H
                exact absurd H (by simp)
  · replace c4 := Bool.eq_false_iff.mpr c4
    subst c4
    have H1 : (none) = some r := by rw [if_neg (show ¬ (false = true) by decide)] at H; exact H
    clear H
    have H := H1
    clear H1
    exact absurd H (by simp)
end Go.Proofs.Ytpkjpiphjdpegaa.P
namespace Go.Proofs.Ytpkjpiphjdpegaa.P
open Go.RowKit Go.Proofs.YtpkjpiphjdpegaaW.PrintWords Go.Proofs.YtpkjpiphjdpegaaW.PrintLast Go.Proofs.YtpkjpiphjdpegaaW.PrintMore
set_option linter.unusedVariables false
set_option linter.unusedSimpArgs false
theorem awake1s : paymasterlaw01_awake.f = some true := by decide +kernel
theorem tot_get {l : List S25} (hg : ∀ y ∈ l, U64 y.f0 ∧ U64 y.f1) (i : Nat) (h : i < l.length) : val l[i].f0 l[i].f1 ≤ tot l := by
  have h1 := tot_le hg i
  have h2 := tot_le hg (i + 1)
  have := tot_succ l i h
  omega
theorem u128Sums_run (l : List S25) (hl : l.length ≤ 100) (hg : ∀ y ∈ l, U64 y.f0 ∧ U64 y.f1) (hT : tot l < m128) : ∀ (d i k : Nat), i + d = l.length → d + 10 < k →
    paymasterlaw01_U128Sums.l1 k l (i : Int) (hiOf (tot l)) (loOf (tot l)) (hiOf (tot l)) (loOf (tot l)) = some true
  | 0, i, k, hi, hk => by
    obtain ⟨k, rfl⟩ : ∃ m, k = m + 1 := ⟨k - 1, by omega⟩
    rw [paymasterlaw01_U128Sums.l1, if_neg (by omega)]
    simp
  | d + 1, i, k, hi, hk => by
    obtain ⟨k, rfl⟩ : ∃ m, k = m + 4 := ⟨k - 4, by omega⟩
    have hy := hg l[i] (List.getElem_mem _)
    have t := tot_small l hg (by omega)
    have g := tot_get hg i (by omega)
    obtain ⟨u1, u2⟩ := u_hiOf (tot l) t.1 hT
    have c := u128_Cmp_is k l[i].f0 l[i].f1 _ _ hy.1 hy.2 u1 u2
    rw [val_halves] at c
    have g' := (cmpI_le0 (val l[i].f0 l[i].f1) (tot l)).2 g
    rw [paymasterlaw01_U128Sums.l1, if_pos (by omega), if_pos (by omega), rd25 l i (by omega), c]
    simp only [Option.bind_some]
    rw [if_neg (by omega), wi _ (by omega) (by omega), show (i : Int) + 1 = ((i + 1 : Nat) : Int) by omega]
    exact u128Sums_run l hl hg hT d (i + 1) (k + 3) (by omega) (by omega)
theorem u128Sums_cut (l : List S25) (hl : l.length ≤ 100) (at_ : Int) : ∃ n : Nat, n ≤ l.length ∧ wrap64 (Int.tmod (IntKind.u64.wrap at_) (IntKind.u64.wrap (wrap64 ((l.length : Int) + 1)))) = (n : Int) := by
  have e : IntKind.u64.wrap (wrap64 ((l.length : Int) + 1)) = (l.length : Int) + 1 := by
    rw [wi _ (by omega) (by omega), IntKind.wrap_u64]
    omega
  have h0 : 0 ≤ IntKind.u64.wrap at_ := by rw [IntKind.wrap_u64]; omega
  rw [e, Int.tmod_eq_emod_of_nonneg h0]
  have h1 := Int.emod_nonneg (IntKind.u64.wrap at_) (show (l.length : Int) + 1 ≠ 0 by omega)
  have h2 := Int.emod_lt_of_pos (IntKind.u64.wrap at_) (show (0 : Int) < (l.length : Int) + 1 by omega)
  refine ⟨(IntKind.u64.wrap at_ % ((l.length : Int) + 1)).toNat, by omega, ?_⟩
  rw [wi _ (by omega) (by omega)]
  omega
theorem u128Sum_num (l : List S25) (hl : l.length ≤ 100) (hg : ∀ y ∈ l, U64 y.f0 ∧ U64 y.f1) (k : Nat) (hk : 110 < k) : u128_Sum.f k l = if tot l < m128 then some (hiOf (tot l), loOf (tot l), 0) else some (0, 0, 10) := by
  rw [sum_is l (by omega) k (by omega), sfold_is l hg 0 0 u0 u0, show val 0 0 + tot l = tot l by rw [small_val]; omega]
theorem u128Sums_zero (l : List S25) (hl : l.length ≤ 100) (hg : ∀ y ∈ l, U64 y.f0 ∧ U64 y.f1) (at_ : Int) (k : Nat) (hk : 200 < k) :
    paymasterlaw01_U128Sums.l0 k l at_ l.reverse (-1) = some true := by
  obtain ⟨K, rfl⟩ : ∃ m, k = m + 1 := ⟨k - 1, by omega⟩
  have J : ∀ (f : Bool) (x y : Int), f = false → paymasterlaw01_U128Sums.j1 K l 10 f 0 0 x y = some true := by
    intro f x y hf
    obtain ⟨m, rfl⟩ : ∃ m, K = m + 1 := ⟨K - 1, by omega⟩
    rw [hf, paymasterlaw01_U128Sums.j1, if_neg (by simp), if_neg (by omega), if_pos rfl]
    rfl
  have J2 : tot l < m128 → ∀ f : Bool, f = false → paymasterlaw01_U128Sums.j1 K l 0 f (hiOf (tot l)) (loOf (tot l)) (hiOf (tot l)) (loOf (tot l)) = some true := by
    intro hT f hf
    obtain ⟨m, rfl⟩ : ∃ m, K = m + 1 := ⟨K - 1, by omega⟩
    rw [hf, paymasterlaw01_U128Sums.j1, if_neg (by simp), if_pos rfl]
    exact u128Sums_run l hl hg hT l.length 0 m (by omega) (by omega)
  obtain ⟨n, hn, en⟩ := u128Sums_cut l hl at_
  have t := tot_small l hg (by omega)
  have e0 := u128Sum_num l hl hg K (by omega)
  have e1 := u128Sum_num l.reverse (by simp; omega) (good_reverse hg) K (by omega)
  have e2 := u128Sum_num (l.take n) (by simp; omega) (good_take hg n) K (by omega)
  have e3 := u128Sum_num (l.drop n) (by simp; omega) (good_drop hg n) K (by omega)
  have tp := tot_parts l n
  have r2 := tot_range _ (good_take hg n)
  have r3 := tot_range _ (good_drop hg n)
  rw [tot_reverse] at e1
  have ww : ¬ IntKind.u64.wrap (wrap64 ((l.length : Int) + 1)) = 0 := by rw [wi _ (by omega) (by omega), IntKind.wrap_u64]; omega
  have s : ∀ u v : Int, ¬ ((!(u == u) || (!(v == v))) = true) := by intro u v; simp
  rw [paymasterlaw01_U128Sums.l0, if_neg (by omega), e0, e1]
  by_cases hT : tot l < m128
  · obtain ⟨u1, u2⟩ := u_hiOf (tot (l.take n)) r2.1 (by omega)
    obtain ⟨w1, w2⟩ := u_hiOf (tot (l.drop n)) r3.1 (by omega)
    rw [if_pos hT, Option.bind_some, Option.bind_some, if_neg ww, en, Int.toNat_natCast, if_pos (by omega), if_pos (by omega), e2, e3, if_pos (show tot (l.take n) < m128 by omega), if_pos (show tot (l.drop n) < m128 by omega), Option.bind_some, Option.bind_some,
      add_num _ _ _ _ u1 u2 w1 w2, val_halves, val_halves, tp, if_pos hT, Option.bind_some, if_neg (s _ _), if_pos rfl, if_pos rfl, if_pos rfl]
    exact J2 hT _ (by rfl)
  · rw [if_neg hT, Option.bind_some, Option.bind_some, if_neg ww, en, Int.toNat_natCast, if_pos (by omega), if_pos (by omega), e2, e3]
    by_cases g2 : tot (l.take n) < m128
    · by_cases g3 : tot (l.drop n) < m128
      · obtain ⟨u1, u2⟩ := u_hiOf (tot (l.take n)) r2.1 g2
        obtain ⟨w1, w2⟩ := u_hiOf (tot (l.drop n)) r3.1 g3
        rw [if_pos g2, if_pos g3, Option.bind_some, Option.bind_some, add_num _ _ _ _ u1 u2 w1 w2, val_halves, val_halves, tp, if_neg hT, Option.bind_some, if_neg (s _ _), if_pos rfl, if_pos rfl, if_pos rfl]
        exact J _ _ _ (by rfl)
      · obtain ⟨u1, u2⟩ := u_hiOf (tot (l.take n)) r2.1 g2
        rw [if_pos g2, if_neg g3, Option.bind_some, Option.bind_some, add_num _ _ _ _ u1 u2 u0 u0, val_halves, small_val, Int.add_zero, if_pos g2, Option.bind_some, if_neg (s _ _), if_pos rfl, if_pos rfl, if_neg (by decide)]
        exact J _ _ _ (by rfl)
    · by_cases g3 : tot (l.drop n) < m128
      · obtain ⟨w1, w2⟩ := u_hiOf (tot (l.drop n)) r3.1 g3
        rw [if_neg g2, if_pos g3, Option.bind_some, Option.bind_some, add_num _ _ _ _ u0 u0 w1 w2, val_halves, small_val, Int.zero_add, if_pos g3, Option.bind_some, if_neg (s _ _), if_pos rfl, if_neg (by decide)]
        exact J _ _ _ (by rfl)
      · rw [if_neg g2, if_neg g3, Option.bind_some, Option.bind_some, add_num _ _ _ _ u0 u0 u0 u0, small_val, Int.add_zero, if_pos (by unfold m128; omega), Option.bind_some, if_neg (s _ _), if_pos rfl, if_neg (by decide)]
        exact J _ _ _ (by rfl)
theorem u128Sums_back (l : List S25) (hl : l.length ≤ 100) (hg : ∀ y ∈ l, U64 y.f0 ∧ U64 y.f1) (at_ : Int) : ∀ (i k : Nat), i ≤ l.length → i + 200 < k →
    paymasterlaw01_U128Sums.l0 k l at_ (l.drop i).reverse ((i : Int) - 1) = some true
  | 0, k, hi, hk => by
    rw [List.drop_zero]
    exact u128Sums_zero l hl hg at_ k (by omega)
  | i + 1, k, hi, hk => by
    obtain ⟨k, rfl⟩ : ∃ m, k = m + 1 := ⟨k - 1, by omega⟩
    rw [paymasterlaw01_U128Sums.l0, show ((i + 1 : Nat) : Int) - 1 = (i : Int) by omega, if_pos (by omega), if_pos (by omega), if_pos (by omega), if_pos (by simp; omega), rd25 l i (by omega), wi _ (by omega) (by omega)]
    have e : (l.drop (i + 1)).reverse ++ [(⟨l[i].f0, l[i].f1⟩ : S25)] = (l.drop i).reverse := by
      rw [List.drop_eq_getElem_cons (show i < l.length by omega), List.reverse_cons]
    rw [e]
    exact u128Sums_back l hl hg at_ i k (by omega) (by omega)
theorem u128Sums_pure (l : List S25) (hg : ∀ y ∈ l, U64 y.f0 ∧ U64 y.f1) (at_ : Int) : ∃ k, paymasterlaw01_U128Sums.f k l at_ = some true := by
  refine ⟨500, ?_⟩
  unfold paymasterlaw01_U128Sums.f
  rw [awake1s]
  simp only [Option.bind_some]
  rw [if_pos trivial]
  by_cases h0 : (l.length : Int) > 100
  · rw [if_pos h0]
  rw [if_neg h0, wi _ (by omega) (by omega)]
  have := u128Sums_back l (by omega) hg at_ l.length 500 (by omega) (by omega)
  rw [List.drop_length] at this
  exact this
theorem u128Sums_walk {w : World} (A0 : Option Addr) (c0 : Nat) (l0 : List S25) (hr0 : k25.C w A0 l0.length l0) (hc0 : l0.length ≤ c0) (g0 : ∀ y ∈ l0, U64 y.f0 ∧ U64 y.f1) (n : Int) (hn : (Lit.int .i64 n).wf = true) :
    Calls Try.prog 15 #[.slice A0 l0.length c0, .int .i64 n] w fun e w' => e = .returned (.bool true) ∧ Below w.heap.size w w' := by
  obtain ⟨k, h⟩ := u128Sums_pure l0 g0 n
  exact paymasterlaw01_U128Sums.calls k A0 c0 l0 n true w hr0 hc0 h
end Go.Proofs.Ytpkjpiphjdpegaa.P
namespace Go.Proofs.Ytpkjpiphjdpegaa.u128Sums
open Go.ChangeShapes Go.WideShapes Go.ChangeAt Go.RowKit Go.Proofs.Ytpkjpiphjdpegaa.P
open Go.ChangeMaps (open_string shut_string)
set_option linter.unusedVariables false
theorem own : ownKnob Try.prog.godebug = none := by kernel_rfl
theorem laidOut : laidOutB Try.prog = true := by kernel_rfl
set_option maxRecDepth 100000 in
theorem lifted (os : Os) (started : os.Started) (H : Type) (enc : TypeId × Value → H) :
    ReturnsInHanded {} Try.checked os 15 .any (Rows.u128SumsSpec.pre6 enc Try.prog Try.f15 Rows.u128SumsRow.domain false) (Rows.u128SumsSpec.post enc Try.prog Try.f15 false true false false) := by
  refine returnsInHanded_of_change_sized (C := Try.checked) own started (by kernel_rfl) Try.func15
    (ChangeSpec.witness6 (enc := enc) (C := Try.checked) false ⟨#[], #[.slice none 0 0, .int .i64 0], []⟩ 8 (by kernel_rfl) (by kernel_rfl) (by kernel_rfl) (by kernel_rfl)) ?_
  intro W base args ds gs before hval0 hW hcnd hsz0 _
  have hval : ∀ (j : Nat) t v, Try.f15.params[j]? = some t → args[j]? = some v → Value.okWide Try.prog W .any base t v := hval0
  have hW' := hW
  obtain ⟨p, q, hA0, hV, rfl, hfz, hnd⟩ := hW
  have hA : DataW.TrodAll enc Try.prog W 0 (fun _ => true) true Try.f15.params.toList args.toList ds p := hA0
  rw [Try.params15] at hA hval
  have hAll := hA
  obtain ⟨v0, vs0, d0, ds0, p0, q0, hargs, rfl, rfl, h0, r0⟩ := trodAll_cons hA
  obtain ⟨v1, vs1, d1, ds1, p1, q1, rfl, rfl, rfl, h1, r1⟩ := trodAll_cons r0
  obtain ⟨rfl, rfl, rfl⟩ := trodAll_nil r1
  obtain rfl : args = #[v0, v1] := by cases args; simp_all
  obtain ⟨rfl, rfl⟩ := trodVars_none hV
  obtain ⟨A0, c0, l0, rfl, hc0, hr0, g0⟩ := arg_row25 (hval 0 22 v0 rfl rfl) h0
  obtain ⟨a1, rfl, g1⟩ := arg_int Try.underlying3 (hval 1 3 v1 rfl rfl) h1
  clear hA0 hval0 hsz0
  refine (u128Sums_walk (w := W) A0 c0 l0 hr0 hc0 g0 a1 g1).mono fun e W' ⟨he, bel⟩ => ?_
  subst he
  exact ⟨_, rfl, _, _, _, [], _, [], hW', trodAll_mk1 (shut_bool Try.underlying4 _), args_back laidOut bel (by kernel_rfl) hAll, rfl, bel.frame _, fun h => by cases h⟩
theorem both {a b : Bool} (h : a = true) (k : b = true) : (a && b) = true := by rw [h, k]; rfl
theorem c0 : (Rows.u128SumsRow.wf (OpenSpec.ofChange Rows.u128SumsSpec)) = true := by kernel_rfl
theorem c1 : (laidOutB Try.prog) = true := by kernel_rfl
theorem c2 : (mapsRowed Try.prog) = true := by kernel_rfl
theorem c3 : (Try.f15.params.all (Try.prog.readableRec ·)) = true := by kernel_rfl
theorem c4 : (namedTie Try.prog Rows.u128SumsRow.named Rows.u128SumsSpec.vars) = true := by kernel_rfl
theorem c5 : ((Rows.u128SumsRow.stops == [])) = true := by kernel_rfl
theorem c6 : ((Try.prog.stops == [])) = true := by kernel_rfl
theorem c7 : ((Rows.u128SumsRow.knobs == [])) = true := by kernel_rfl
theorem c8 : ((Try.prog.stopKnobs == [])) = true := by kernel_rfl
theorem c9 : ((Rows.u128SumsRow.inPlace == Try.prog.inPlace 15)) = true := by kernel_rfl
theorem c10 : ((Rows.u128SumsRow.unfollowed == Try.prog.unfollowed 15)) = true := by kernel_rfl
theorem c11 : ((Rows.u128SumsRow.recurses == Try.prog.recurses 15)) = true := by kernel_rfl
theorem c12 : ((Rows.u128SumsRow.named == Try.prog.varsNamed 15)) = true := by kernel_rfl
theorem c13 : ((Rows.u128SumsRow.maps == (Try.f15.params.toList ++ Rows.u128SumsSpec.plain.varTypes Try.prog).any (Try.prog.mapsRec ·))) = true := by kernel_rfl
theorem c14 : ((Rows.u128SumsRow.ifaces == (Try.f15.params.toList ++ Rows.u128SumsSpec.plain.varTypes Try.prog).any (Try.prog.ifacesRec ·))) = true := by kernel_rfl
theorem c15 : ((Rows.u128SumsRow.mapsOut == Try.prog.mapsAmong Try.f15.resultTypes.toList)) = true := by kernel_rfl
theorem c16 : ((Rows.u128SumsRow.loops == (Try.f15.params.toList ++ Rows.u128SumsSpec.plain.varTypes Try.prog).any (Try.prog.loopsFrom ·))) = true := by kernel_rfl
theorem c17 : ((Rows.u128SumsRow.wideKeys == (Try.f15.params.toList ++ Rows.u128SumsSpec.plain.varTypes Try.prog ++ Try.f15.resultTypes.toList).any (Try.prog.wideKeysFrom ·))) = true := by kernel_rfl
theorem c18 : (Rows.u128SumsSpec.vars.all (Try.prog.varReadable ·)) = true := by kernel_rfl
theorem c19 : (Try.f15.resultTypes.all (fun t => Try.prog.readableRec t && decide (t < Try.prog.types.size))) = true := by kernel_rfl
theorem c20 : ((Rows.u128SumsRow.ifacesOut == Try.f15.resultTypes.toList.any (Try.prog.ifacesRec ·))) = true := by kernel_rfl
theorem c21 : ((Rows.u128SumsRow.loopsOut == Try.f15.resultTypes.toList.any (Try.prog.loopsFrom ·))) = true := by kernel_rfl
theorem c22 : ((Rows.u128SumsRow.plainKeys == Try.prog.plainKeys)) = true := by kernel_rfl
theorem c23 : (Rows.u128SumsRow.shortTexts.isNone) = true := by kernel_rfl
theorem c24 : (Try.prog.stopsHeard) = true := by kernel_rfl
theorem c25 : (Try.prog.mayEnter) = true := Facts.mayEnter
theorem c26 : ((Rows.u128SumsRow.lifted == Try.prog.liftsFinal)) = true := by rw [Facts.liftsFinal]; kernel_rfl
theorem c27 : ((Try.prog.make == some Rows.u128SumsRow.make)) = true := by rw [Facts.make]; kernel_rfl
theorem c28 : ((Rows.u128SumsRow.kinds == (if Rows.u128SumsRow.domain.isEmpty then [] else Try.f15.params.toList.map fun t => match Try.prog.underlying t with | some (.int k) => some k | _ => none))) = true := by kernel_rfl
theorem c29 : ((Rows.u128SumsRow.pinned == Rows.u128SumsRow.pinnedBy)) = true := by kernel_rfl
theorem c30 : ((Rows.u128SumsRow.veiled == (Try.f15.params.toList ++ Rows.u128SumsSpec.plain.varTypes Try.prog ++ Try.f15.resultTypes.toList).any (Try.prog.veiledRec ·))) = true := by kernel_rfl
theorem c31 : (Rows.u128SumsRow.veiledFits Try.prog Try.f15.params.toList (Try.f15.params.toList ++ Rows.u128SumsSpec.plain.varTypes Try.prog ++ Try.f15.resultTypes.toList)) = true := by kernel_rfl
set_option maxRecDepth 100000 in
theorem closed : joinedFacts Try.prog 15 Try.f15 Rows.u128SumsSpec Rows.u128SumsRow = true := by
  unfold joinedFacts
  exact both (both (both (both (both (both (both (both (both (both (both (both (both (both (both (both (both (both (both (both (both (both (both (both (both (both (both (both (both (both (both (c0) c1) c2) c3) c4) c5) c6) c7) c8) c9) c10) c11) c12) c13) c14) c15) c16) c17) c18) c19) c20) c21) c22) c23) c24) c25) c26) c27) c28) c29) c30) c31
theorem over : Rows.u128SumsRow.holds Try.pinned (OpenSpec.ofChange Rows.u128SumsSpec) :=
  OpenClaim.holds_of_wide 15 Try.f15 rfl rfl rfl rfl rfl rfl rfl ⟨rfl, rfl, rfl, rfl, rfl⟩ rfl rfl rfl rfl rfl (by kernel_rfl) Try.func15 closed
    (of_decide_eq_true (by kernel_rfl)) (by unfold Func.isWrapper; first | (rw [if_pos (by decide +kernel)]; kernel_rfl) | (rw [if_neg (by decide +kernel)]; exact ⟨rfl, rfl⟩))
    (fun os started H enc _ => lifted os started H enc)
end Go.Proofs.Ytpkjpiphjdpegaa.u128Sums
namespace Go.Proofs.Ytpkjpiphjdpegaa
theorem u128Sums_holds : Rows.U128SumsSaid := u128Sums.over
end Go.Proofs.Ytpkjpiphjdpegaa
