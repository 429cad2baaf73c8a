/- A program of this session wrote this text out of the session's own texts. (part 3 of 3) -/
import Derived.Test.YtpkjpiphjdpegaaCU128Back2
namespace Go.Proofs.Ytpkjpiphjdpegaa.P
open Go.RowKit Go.Proofs.YtpkjpiphjdpegaaW.PrintWords Go.Proofs.YtpkjpiphjdpegaaW.PrintLast Go.Proofs.YtpkjpiphjdpegaaW.PrintMore
attribute [local go_sem] max2_int min2_int max_two min_two max_three min_three max_four min_four
set_option linter.unusedVariables false
set_option linter.unusedSimpArgs false
attribute [local go_sem high] eqA25
def paymasterlaw01_awake.f  : Option (Bool) := (u128_Of.f 1).bind fun bt1048 => ((u128_Add.f 0 18446744073709551615 bt1048.1 bt1048.2).bind fun bt1050 => ((u128_Most.f).bind fun bt1054 => ((u128_Of.f 1).bind fun bt1056 => ((u128_Add.f bt1054.1 bt1054.2 bt1056.1 bt1056.2).bind fun bt1058 => ((u128_Of.f 1).bind fun bt1062 => ((u128_Of.f 2).bind fun bt1064 => ((u128_Sub.f bt1062.1 bt1062.2 bt1064.1 bt1064.2).bind fun bt1066 => ((u128_Over.f 1 3 10).bind fun bt1070 => ((u128_Of.f 1).bind fun bt1075 => ((u128_Over.f bt1075.1 bt1075.2 0).bind fun bt1077 => (if (bt1050.1 == 1 && (bt1050.2.1 == 0)) = true then (if bt1050.2.2 = 0 then (if bt1058.2.2 = 10 then (if bt1066.2.2 = 10 then ((u128_Of.f 1844674407370955161).bind fun bt1082 => (if (bt1070.1 == bt1082.1 && (bt1070.2.1 == bt1082.2)) = true then (if bt1070.2.2.1 = 9 then (if bt1070.2.2.2 = 0 then (if bt1077.2.2.2 = 2 then ((u128_Bytes.f 1 258).bind fun t1084 => (some (t1084.toList == ([0, 0, 0, 0, 0, 0, 0, 1, 0, 0, 0, 0, 0, 0, 1, 2] : List UInt8)))) else (none)) else (none)) else (none)) else (none))) else (none)) else (none)) else (none)) else (none))))))))))))
def paymasterlaw01_awake.T6 : Bool × List (List Nat × List Nat) := (true, [([], []), ([], []), ([0, 1], [0, 1]), ([2], [2]), ([3], [3]), ([4, 3], [3, 4]), ([3, 5], [3, 5]), ([6, 3], [6]), ([7], [7]), ([8, 7], [7, 8]), ([7, 9], [7, 9]), ([10, 7], [10]), ([11], [11]), ([12, 11], [11, 12]), ([11, 13], [11, 13]), ([14, 11], [14]), ([15], [15]), ([15, 15], [15]), ([16, 17, 15], [15, 16, 17]), ([15, 18], [15, 18]), ([19, 17], [19]), ([20], [20]), ([21, 20], [20, 21]), ([20, 22], [20, 22]), ([23, 20], [23]), ([24], [24]), ([25, 24], [24, 25]), ([24, 26], [24, 26]), ([27, 24], [27]), ([28], [28]), ([29, 28], [28, 29]), ([28, 30], [28, 30]), ([31, 28], [31]), ([32], [32]), ([33, 32, 32], [32, 33]), ([34, 32], [32, 34]), ([32, 35], [32, 35]), ([36, 34, 0, 1, 2, 3, 4, 5, 6, 7, 8, 9, 10, 11, 12, 13, 14, 15, 16, 17, 18, 19, 20, 21, 22, 23, 24, 25, 26, 27, 28, 29, 30, 31, 32, 33, 34, 35, 36], [36])])
def paymasterlaw01_awake.B6 : List Nat := [0, 0, 3, 7, 15, 31, 63, 127, 255, 511, 1023, 2047, 4095, 8191, 16383, 32767, 65535, 65535, 262143, 524287, 1048575, 2097151, 4194303, 8388607, 16777215, 33554431, 67108863, 134217727, 268435455, 536870911, 1073741823, 2147483647, 4294967295, 8589934591, 17179869183, 34359738367, 68719476735, 137438953471]
theorem paymasterlaw01_awake.tab6 : rtab .any (opsOf Try.f66 6) = paymasterlaw01_awake.T6 := by kernel_rfl
theorem paymasterlaw01_awake.bits6 : waitsOk paymasterlaw01_awake.T6.2 paymasterlaw01_awake.B6 = true := by kernel_rfl
set_option maxHeartbeats 8000000 in
set_option maxRecDepth 100000 in
theorem paymasterlaw01_awake.calls  (r : Bool) (w : World) (h : paymasterlaw01_awake.f  = some r) :
    Calls Try.prog 66 #[] w fun e w' => e = .returned (.bool r) ∧ Below w.heap.size w w' := by
  have hu25 := Try.underlying25
  have HB := Aside0.mk (Below.refl w.heap.size w)
  have H : ((u128_Of.f 1).bind fun bt1048 => ((u128_Add.f 0 18446744073709551615 bt1048.1 bt1048.2).bind fun bt1050 => ((u128_Most.f).bind fun bt1054 => ((u128_Of.f 1).bind fun bt1056 => ((u128_Add.f bt1054.1 bt1054.2 bt1056.1 bt1056.2).bind fun bt1058 => ((u128_Of.f 1).bind fun bt1062 => ((u128_Of.f 2).bind fun bt1064 => ((u128_Sub.f bt1062.1 bt1062.2 bt1064.1 bt1064.2).bind fun bt1066 => ((u128_Over.f 1 3 10).bind fun bt1070 => ((u128_Of.f 1).bind fun bt1075 => ((u128_Over.f bt1075.1 bt1075.2 0).bind fun bt1077 => (if (bt1050.1 == 1 && (bt1050.2.1 == 0)) = true then (if bt1050.2.2 = 0 then (if bt1058.2.2 = 10 then (if bt1066.2.2 = 10 then ((u128_Of.f 1844674407370955161).bind fun bt1082 => (if (bt1070.1 == bt1082.1 && (bt1070.2.1 == bt1082.2)) = true then (if bt1070.2.2.1 = 9 then (if bt1070.2.2.2 = 0 then (if bt1077.2.2.2 = 2 then ((u128_Bytes.f 1 258).bind fun t1084 => (some (t1084.toList == ([0, 0, 0, 0, 0, 0, 0, 1, 0, 0, 0, 0, 0, 0, 1, 2] : List UInt8)))) else (none)) else (none)) else (none)) else (none))) else (none)) else (none)) else (none)) else (none))))))))))))) = some r := h
  clear h
  replace H := Option.bind_eq_some_iff.mp H
  obtain ⟨⟨t1048, t1049⟩, A10, H⟩ := H
  replace H : ((u128_Add.f 0 18446744073709551615 t1048 t1049).bind fun bt1050 => ((u128_Most.f).bind fun bt1054 => ((u128_Of.f 1).bind fun bt1056 => ((u128_Add.f bt1054.1 bt1054.2 bt1056.1 bt1056.2).bind fun bt1058 => ((u128_Of.f 1).bind fun bt1062 => ((u128_Of.f 2).bind fun bt1064 => ((u128_Sub.f bt1062.1 bt1062.2 bt1064.1 bt1064.2).bind fun bt1066 => ((u128_Over.f 1 3 10).bind fun bt1070 => ((u128_Of.f 1).bind fun bt1075 => ((u128_Over.f bt1075.1 bt1075.2 0).bind fun bt1077 => (if (bt1050.1 == 1 && (bt1050.2.1 == 0)) = true then (if bt1050.2.2 = 0 then (if bt1058.2.2 = 10 then (if bt1066.2.2 = 10 then ((u128_Of.f 1844674407370955161).bind fun bt1082 => (if (bt1070.1 == bt1082.1 && (bt1070.2.1 == bt1082.2)) = true then (if bt1070.2.2.1 = 9 then (if bt1070.2.2.2 = 0 then (if bt1077.2.2.2 = 2 then ((u128_Bytes.f 1 258).bind fun t1084 => (some (t1084.toList == ([0, 0, 0, 0, 0, 0, 0, 1, 0, 0, 0, 0, 0, 0, 1, 2] : List UInt8)))) else (none)) else (none)) else (none)) else (none))) else (none)) else (none)) else (none)) else (none)))))))))))) = some r := H
  have A1 := Aside0.mk A10
  clear A10
  replace H := Option.bind_eq_some_iff.mp H
  obtain ⟨⟨t1050, t1051, t1052⟩, A20, H⟩ := H
  replace H : ((u128_Most.f).bind fun bt1054 => ((u128_Of.f 1).bind fun bt1056 => ((u128_Add.f bt1054.1 bt1054.2 bt1056.1 bt1056.2).bind fun bt1058 => ((u128_Of.f 1).bind fun bt1062 => ((u128_Of.f 2).bind fun bt1064 => ((u128_Sub.f bt1062.1 bt1062.2 bt1064.1 bt1064.2).bind fun bt1066 => ((u128_Over.f 1 3 10).bind fun bt1070 => ((u128_Of.f 1).bind fun bt1075 => ((u128_Over.f bt1075.1 bt1075.2 0).bind fun bt1077 => (if (t1050 == 1 && (t1051 == 0)) = true then (if t1052 = 0 then (if bt1058.2.2 = 10 then (if bt1066.2.2 = 10 then ((u128_Of.f 1844674407370955161).bind fun bt1082 => (if (bt1070.1 == bt1082.1 && (bt1070.2.1 == bt1082.2)) = true then (if bt1070.2.2.1 = 9 then (if bt1070.2.2.2 = 0 then (if bt1077.2.2.2 = 2 then ((u128_Bytes.f 1 258).bind fun t1084 => (some (t1084.toList == ([0, 0, 0, 0, 0, 0, 0, 1, 0, 0, 0, 0, 0, 0, 1, 2] : List UInt8)))) else (none)) else (none)) else (none)) else (none))) else (none)) else (none)) else (none)) else (none))))))))))) = some r := H
  have A2 := Aside0.mk A20
  clear A20
  replace H := Option.bind_eq_some_iff.mp H
  obtain ⟨⟨t1054, t1055⟩, A30, H⟩ := H
  replace H : ((u128_Of.f 1).bind fun bt1056 => ((u128_Add.f t1054 t1055 bt1056.1 bt1056.2).bind fun bt1058 => ((u128_Of.f 1).bind fun bt1062 => ((u128_Of.f 2).bind fun bt1064 => ((u128_Sub.f bt1062.1 bt1062.2 bt1064.1 bt1064.2).bind fun bt1066 => ((u128_Over.f 1 3 10).bind fun bt1070 => ((u128_Of.f 1).bind fun bt1075 => ((u128_Over.f bt1075.1 bt1075.2 0).bind fun bt1077 => (if (t1050 == 1 && (t1051 == 0)) = true then (if t1052 = 0 then (if bt1058.2.2 = 10 then (if bt1066.2.2 = 10 then ((u128_Of.f 1844674407370955161).bind fun bt1082 => (if (bt1070.1 == bt1082.1 && (bt1070.2.1 == bt1082.2)) = true then (if bt1070.2.2.1 = 9 then (if bt1070.2.2.2 = 0 then (if bt1077.2.2.2 = 2 then ((u128_Bytes.f 1 258).bind fun t1084 => (some (t1084.toList == ([0, 0, 0, 0, 0, 0, 0, 1, 0, 0, 0, 0, 0, 0, 1, 2] : List UInt8)))) else (none)) else (none)) else (none)) else (none))) else (none)) else (none)) else (none)) else (none)))))))))) = some r := H
  have A3 := Aside0.mk A30
  clear A30
  replace H := Option.bind_eq_some_iff.mp H
  obtain ⟨⟨t1056, t1057⟩, A40, H⟩ := H
  replace H : ((u128_Add.f t1054 t1055 t1056 t1057).bind fun bt1058 => ((u128_Of.f 1).bind fun bt1062 => ((u128_Of.f 2).bind fun bt1064 => ((u128_Sub.f bt1062.1 bt1062.2 bt1064.1 bt1064.2).bind fun bt1066 => ((u128_Over.f 1 3 10).bind fun bt1070 => ((u128_Of.f 1).bind fun bt1075 => ((u128_Over.f bt1075.1 bt1075.2 0).bind fun bt1077 => (if (t1050 == 1 && (t1051 == 0)) = true then (if t1052 = 0 then (if bt1058.2.2 = 10 then (if bt1066.2.2 = 10 then ((u128_Of.f 1844674407370955161).bind fun bt1082 => (if (bt1070.1 == bt1082.1 && (bt1070.2.1 == bt1082.2)) = true then (if bt1070.2.2.1 = 9 then (if bt1070.2.2.2 = 0 then (if bt1077.2.2.2 = 2 then ((u128_Bytes.f 1 258).bind fun t1084 => (some (t1084.toList == ([0, 0, 0, 0, 0, 0, 0, 1, 0, 0, 0, 0, 0, 0, 1, 2] : List UInt8)))) else (none)) else (none)) else (none)) else (none))) else (none)) else (none)) else (none)) else (none))))))))) = some r := H
  have A4 := Aside0.mk A40
  clear A40
  replace H := Option.bind_eq_some_iff.mp H
  obtain ⟨⟨t1058, t1059, t1060⟩, A50, H⟩ := H
  replace H : ((u128_Of.f 1).bind fun bt1062 => ((u128_Of.f 2).bind fun bt1064 => ((u128_Sub.f bt1062.1 bt1062.2 bt1064.1 bt1064.2).bind fun bt1066 => ((u128_Over.f 1 3 10).bind fun bt1070 => ((u128_Of.f 1).bind fun bt1075 => ((u128_Over.f bt1075.1 bt1075.2 0).bind fun bt1077 => (if (t1050 == 1 && (t1051 == 0)) = true then (if t1052 = 0 then (if t1060 = 10 then (if bt1066.2.2 = 10 then ((u128_Of.f 1844674407370955161).bind fun bt1082 => (if (bt1070.1 == bt1082.1 && (bt1070.2.1 == bt1082.2)) = true then (if bt1070.2.2.1 = 9 then (if bt1070.2.2.2 = 0 then (if bt1077.2.2.2 = 2 then ((u128_Bytes.f 1 258).bind fun t1084 => (some (t1084.toList == ([0, 0, 0, 0, 0, 0, 0, 1, 0, 0, 0, 0, 0, 0, 1, 2] : List UInt8)))) else (none)) else (none)) else (none)) else (none))) else (none)) else (none)) else (none)) else (none)))))))) = some r := H
  have A5 := Aside0.mk A50
  clear A50
  replace H := Option.bind_eq_some_iff.mp H
  obtain ⟨⟨t1062, t1063⟩, A60, H⟩ := H
  replace H : ((u128_Of.f 2).bind fun bt1064 => ((u128_Sub.f t1062 t1063 bt1064.1 bt1064.2).bind fun bt1066 => ((u128_Over.f 1 3 10).bind fun bt1070 => ((u128_Of.f 1).bind fun bt1075 => ((u128_Over.f bt1075.1 bt1075.2 0).bind fun bt1077 => (if (t1050 == 1 && (t1051 == 0)) = true then (if t1052 = 0 then (if t1060 = 10 then (if bt1066.2.2 = 10 then ((u128_Of.f 1844674407370955161).bind fun bt1082 => (if (bt1070.1 == bt1082.1 && (bt1070.2.1 == bt1082.2)) = true then (if bt1070.2.2.1 = 9 then (if bt1070.2.2.2 = 0 then (if bt1077.2.2.2 = 2 then ((u128_Bytes.f 1 258).bind fun t1084 => (some (t1084.toList == ([0, 0, 0, 0, 0, 0, 0, 1, 0, 0, 0, 0, 0, 0, 1, 2] : List UInt8)))) else (none)) else (none)) else (none)) else (none))) else (none)) else (none)) else (none)) else (none))))))) = some r := H
  have A6 := Aside0.mk A60
  clear A60
  replace H := Option.bind_eq_some_iff.mp H
  obtain ⟨⟨t1064, t1065⟩, A70, H⟩ := H
  replace H : ((u128_Sub.f t1062 t1063 t1064 t1065).bind fun bt1066 => ((u128_Over.f 1 3 10).bind fun bt1070 => ((u128_Of.f 1).bind fun bt1075 => ((u128_Over.f bt1075.1 bt1075.2 0).bind fun bt1077 => (if (t1050 == 1 && (t1051 == 0)) = true then (if t1052 = 0 then (if t1060 = 10 then (if bt1066.2.2 = 10 then ((u128_Of.f 1844674407370955161).bind fun bt1082 => (if (bt1070.1 == bt1082.1 && (bt1070.2.1 == bt1082.2)) = true then (if bt1070.2.2.1 = 9 then (if bt1070.2.2.2 = 0 then (if bt1077.2.2.2 = 2 then ((u128_Bytes.f 1 258).bind fun t1084 => (some (t1084.toList == ([0, 0, 0, 0, 0, 0, 0, 1, 0, 0, 0, 0, 0, 0, 1, 2] : List UInt8)))) else (none)) else (none)) else (none)) else (none))) else (none)) else (none)) else (none)) else (none)))))) = some r := H
  have A7 := Aside0.mk A70
  clear A70
  replace H := Option.bind_eq_some_iff.mp H
  obtain ⟨⟨t1066, t1067, t1068⟩, A80, H⟩ := H
  replace H : ((u128_Over.f 1 3 10).bind fun bt1070 => ((u128_Of.f 1).bind fun bt1075 => ((u128_Over.f bt1075.1 bt1075.2 0).bind fun bt1077 => (if (t1050 == 1 && (t1051 == 0)) = true then (if t1052 = 0 then (if t1060 = 10 then (if t1068 = 10 then ((u128_Of.f 1844674407370955161).bind fun bt1082 => (if (bt1070.1 == bt1082.1 && (bt1070.2.1 == bt1082.2)) = true then (if bt1070.2.2.1 = 9 then (if bt1070.2.2.2 = 0 then (if bt1077.2.2.2 = 2 then ((u128_Bytes.f 1 258).bind fun t1084 => (some (t1084.toList == ([0, 0, 0, 0, 0, 0, 0, 1, 0, 0, 0, 0, 0, 0, 1, 2] : List UInt8)))) else (none)) else (none)) else (none)) else (none))) else (none)) else (none)) else (none)) else (none))))) = some r := H
  have A8 := Aside0.mk A80
  clear A80
  replace H := Option.bind_eq_some_iff.mp H
  obtain ⟨⟨t1070, t1071, t1072, t1073⟩, A90, H⟩ := H
  replace H : ((u128_Of.f 1).bind fun bt1075 => ((u128_Over.f bt1075.1 bt1075.2 0).bind fun bt1077 => (if (t1050 == 1 && (t1051 == 0)) = true then (if t1052 = 0 then (if t1060 = 10 then (if t1068 = 10 then ((u128_Of.f 1844674407370955161).bind fun bt1082 => (if (t1070 == bt1082.1 && (t1071 == bt1082.2)) = true then (if t1072 = 9 then (if t1073 = 0 then (if bt1077.2.2.2 = 2 then ((u128_Bytes.f 1 258).bind fun t1084 => (some (t1084.toList == ([0, 0, 0, 0, 0, 0, 0, 1, 0, 0, 0, 0, 0, 0, 1, 2] : List UInt8)))) else (none)) else (none)) else (none)) else (none))) else (none)) else (none)) else (none)) else (none)))) = some r := H
  have A9 := Aside0.mk A90
  clear A90
  replace H := Option.bind_eq_some_iff.mp H
  obtain ⟨⟨t1075, t1076⟩, A100, H⟩ := H
  replace H : ((u128_Over.f t1075 t1076 0).bind fun bt1077 => (if (t1050 == 1 && (t1051 == 0)) = true then (if t1052 = 0 then (if t1060 = 10 then (if t1068 = 10 then ((u128_Of.f 1844674407370955161).bind fun bt1082 => (if (t1070 == bt1082.1 && (t1071 == bt1082.2)) = true then (if t1072 = 9 then (if t1073 = 0 then (if bt1077.2.2.2 = 2 then ((u128_Bytes.f 1 258).bind fun t1084 => (some (t1084.toList == ([0, 0, 0, 0, 0, 0, 0, 1, 0, 0, 0, 0, 0, 0, 1, 2] : List UInt8)))) else (none)) else (none)) else (none)) else (none))) else (none)) else (none)) else (none)) else (none))) = some r := H
  have A10 := Aside0.mk A100
  clear A100
  replace H := Option.bind_eq_some_iff.mp H
  obtain ⟨⟨t1077, t1078, t1079, t1080⟩, A110, H⟩ := H
  replace H : (if (t1050 == 1 && (t1051 == 0)) = true then (if t1052 = 0 then (if t1060 = 10 then (if t1068 = 10 then ((u128_Of.f 1844674407370955161).bind fun bt1082 => (if (t1070 == bt1082.1 && (t1071 == bt1082.2)) = true then (if t1072 = 9 then (if t1073 = 0 then (if t1080 = 2 then ((u128_Bytes.f 1 258).bind fun t1084 => (some (t1084.toList == ([0, 0, 0, 0, 0, 0, 0, 1, 0, 0, 0, 0, 0, 0, 1, 2] : List UInt8)))) else (none)) else (none)) else (none)) else (none))) else (none)) else (none)) else (none)) else (none)) = some r := H
  have A11 := Aside0.mk A110
  clear A110
  by_cases c12 : (t1050 == 1 && (t1051 == 0)) = true
  · rw [if_pos c12] at H
    have c12b0 : (t1050 == 1 && (t1051 == 0)) = true := c12
    (try (have c12b1 : decide (t1050 = 1 && (t1051 == 0)) = true := by simpa using c12))
    (try (have c12b2 : (t1050 == 1 && (t1051 == 0)) = true := by simpa using c12))
    clear c12
    by_cases c13 : t1052 = 0
    · rw [if_pos c13] at H
      have c13b0 : (t1052 == 0) = true := beq_iff_eq.mpr c13
      have c13b1 : (t1052 != 0) = false := bne_eq_false_iff_eq.mpr c13
      clear c13
      by_cases c14 : t1060 = 10
      · rw [if_pos c14] at H
        have c14b0 : (t1060 == 10) = true := beq_iff_eq.mpr c14
        have c14b1 : (t1060 != 10) = false := bne_eq_false_iff_eq.mpr c14
        clear c14
        by_cases c15 : t1068 = 10
        · rw [if_pos c15] at H
          have c15b0 : (t1068 == 10) = true := beq_iff_eq.mpr c15
          have c15b1 : (t1068 != 10) = false := bne_eq_false_iff_eq.mpr c15
          clear c15
          replace H := Option.bind_eq_some_iff.mp H
          obtain ⟨⟨t1082, t1083⟩, A160, H⟩ := H
          replace H : (if (t1070 == t1082 && (t1071 == t1083)) = true then (if t1072 = 9 then (if t1073 = 0 then (if t1080 = 2 then ((u128_Bytes.f 1 258).bind fun t1084 => (some (t1084.toList == ([0, 0, 0, 0, 0, 0, 0, 1, 0, 0, 0, 0, 0, 0, 1, 2] : List UInt8)))) else (none)) else (none)) else (none)) else (none)) = some r := H
          have A16 := Aside0.mk A160
          clear A160
          by_cases c17 : (t1070 == t1082 && (t1071 == t1083)) = true
          · rw [if_pos c17] at H
            have c17b0 : (t1070 == t1082 && (t1071 == t1083)) = true := c17
            (try (have c17b1 : decide (t1070 = t1082 && (t1071 == t1083)) = true := by simpa using c17))
            (try (have c17b2 : (t1070 == t1082 && (t1071 == t1083)) = true := by simpa using c17))
            clear c17
            by_cases c18 : t1072 = 9
            · rw [if_pos c18] at H
              have c18b0 : (t1072 == 9) = true := beq_iff_eq.mpr c18
              have c18b1 : (t1072 != 9) = false := bne_eq_false_iff_eq.mpr c18
              clear c18
              by_cases c19 : t1073 = 0
              · rw [if_pos c19] at H
                have c19b0 : (t1073 == 0) = true := beq_iff_eq.mpr c19
                have c19b1 : (t1073 != 0) = false := bne_eq_false_iff_eq.mpr c19
                clear c19
                by_cases c20 : t1080 = 2
                · rw [if_pos c20] at H
                  have c20b0 : (t1080 == 2) = true := beq_iff_eq.mpr c20
                  have c20b1 : (t1080 != 2) = false := bne_eq_false_iff_eq.mpr c20
                  clear c20
                  replace H := Option.bind_eq_some_iff.mp H
                  obtain ⟨t1084, A210, H⟩ := H
                  replace H : (some (t1084.toList == ([0, 0, 0, 0, 0, 0, 0, 1, 0, 0, 0, 0, 0, 0, 1, 2] : List UInt8))) = some r := H
                  have A21 := Aside0.mk A210
                  clear A210
                  obtain rfl := Option.some.inj H
                  go_enter Try.func66, Try.ntmps66
                  try go_wp2_with (first | ((with_reducible refine gate_callee (f := 51) rfl ?_); refine goesL_ (some 15) rfl rfl Try.func51 (by kernel_rfl) rfl #[.int .u64 1] rfl (by (try simp only [List.map_toArray, List.map_cons, List.map_nil]); first | done | rfl | (simp only [List.length_drop, List.length_take]; rfl)) ?_; (with_reducible refine (u128_Of.calls 1 t1048 t1049 _ A1.out).mono ?_); rintro e w22 ⟨rfl, hb⟩; refine ⟨_, rfl, ?_⟩; have n0_ := Aside0.mk (below_step (by repeat (first | (with_reducible first | exact HB.out | apply below_alloc | apply pw_below_drewN | apply below_drew1) | exact HB.out)) hb); clear HB; have HB := n0_; clear n0_; (try clear hb); (try clear hb2); (try clear hk); (try clear hi)) | ((with_reducible refine gate_callee (f := 45) rfl ?_); refine goesL_ (some 16) rfl rfl Try.func45 (by kernel_rfl) rfl #[.agg #[.int .u64 0, .int .u64 18446744073709551615], .agg #[.int .u64 t1048, .int .u64 t1049]] rfl (by (try simp only [List.map_toArray, List.map_cons, List.map_nil]); first | done | rfl | (simp only [List.length_drop, List.length_take]; rfl)) ?_; (with_reducible refine (u128_Add.calls 0 18446744073709551615 t1048 t1049 t1050 t1051 t1052 _ A2.out).mono ?_); rintro e w23 ⟨rfl, hb⟩; refine ⟨_, rfl, ?_⟩; have n0_ := Aside0.mk (below_step (by repeat (first | (with_reducible first | exact HB.out | apply below_alloc | apply pw_below_drewN | apply below_drew1) | exact HB.out)) hb); clear HB; have HB := n0_; clear n0_; (try clear hb); (try clear hb2); (try clear hk); (try clear hi)) | ((with_reducible refine gate_dst (N := 1) rfl ?_); refine box_event ?hg (N := 1) ?hd (cs := #[.int .u64 0, .int .u64 0]) (t := 25) ?hr ?_; (case hd => rfl); (case hg => rfl); (case hr => first | (go_simp; done) | (go_simp; rfl)); intro gb1053 hg w24 hbox hb; have n0_ := Aside0.mk (below_step (by repeat (first | (with_reducible first | exact HB.out | apply below_alloc | apply pw_below_drewN | apply below_drew1) | exact HB.out)) hb); have n1_ := Aside0.mk (hbox); have n2_ := Aside0.mk ((by rw [hg]; exact (below_size (by repeat (first | (with_reducible first | exact HB.out | apply below_alloc | apply pw_below_drewN | apply below_drew1) | exact HB.out))) : w.heap.size ≤ gb1053)); have n3_ := Aside0.mk ((by rw [hg]; exact (below_size (by repeat (first | (with_reducible first | exact HB.out | apply below_alloc | apply pw_below_drewN | apply below_drew1) | exact HB.out))) : w.heap.size ≤ gb1053)); clear HB; have HB := n0_; have BK1053 := n1_; have GW1053 := n2_; have GE1053 := n3_; clear n0_ n1_ n2_ n3_; clear hb hbox hg; have hcz25_0 : w24.cell? ⟨gb1053, 0, none⟩ = some (.int .u64 0) := (blk_cell BK1053.out 0).trans rfl; have hcz25_1 : w24.cell? ⟨gb1053, 1, none⟩ = some (.int .u64 0) := (blk_cell BK1053.out 1).trans rfl; have hfz25_0 := blk_frozen BK1053.out 0; have hfz25_1 := blk_frozen BK1053.out 1) | ((with_reducible refine gate_callee (f := 53) rfl ?_); refine goesL_ (some 20) rfl rfl Try.func53 (by kernel_rfl) rfl #[] rfl (by (try simp only [List.map_toArray, List.map_cons, List.map_nil]); first | done | rfl | (simp only [List.length_drop, List.length_take]; rfl)) ?_; (with_reducible refine (u128_Most.calls  t1054 t1055 _ A3.out).mono ?_); rintro e w26 ⟨rfl, hb⟩; refine ⟨_, rfl, ?_⟩; have n0_ := Aside0.mk (blk_below (g := gb1053) (o := .cells #[.int .u64 t1050, .int .u64 t1051] 25 (0, 0)) (by (with_reducible repeat (first | refine blk_drewN ?_ _ | refine blk_drew ?_ | refine blk_alloc ?_ _)); refine blk_put (cs := #[.int .u64 t1050, .int .u64 0]) ?_ 1 _ rfl; (with_reducible repeat (first | refine blk_drewN ?_ _ | refine blk_drew ?_ | refine blk_alloc ?_ _)); refine blk_put (cs := #[.int .u64 0, .int .u64 0]) ?_ 0 _ rfl; (with_reducible repeat (first | refine blk_drewN ?_ _ | refine blk_drew ?_ | refine blk_alloc ?_ _)); exact BK1053.out) hb); have n1_ := Aside0.mk (below_step (by repeat (first | (with_reducible first | exact HB.out | apply below_alloc | apply pw_below_drewN | apply below_drew1 | refine below_set ?_ GE1053.out) | exact HB.out)) hb); clear BK1053; clear HB; have BK1053 := n0_; have HB := n1_; clear n0_ n1_; (try clear hb); (try clear hb2); (try clear hk); (try clear hi)) | ((with_reducible refine gate_callee (f := 51) rfl ?_); refine goesL_ (some 21) rfl rfl Try.func51 (by kernel_rfl) rfl #[.int .u64 1] rfl (by (try simp only [List.map_toArray, List.map_cons, List.map_nil]); first | done | rfl | (simp only [List.length_drop, List.length_take]; rfl)) ?_; (with_reducible refine (u128_Of.calls 1 t1056 t1057 _ A4.out).mono ?_); rintro e w27 ⟨rfl, hb⟩; refine ⟨_, rfl, ?_⟩; have n0_ := Aside0.mk (blk_below (g := gb1053) (o := .cells #[.int .u64 t1050, .int .u64 t1051] 25 (0, 0)) (by (with_reducible repeat (first | refine blk_drewN ?_ _ | refine blk_drew ?_ | refine blk_alloc ?_ _)); exact BK1053.out) hb); have n1_ := Aside0.mk (below_step (by repeat (first | (with_reducible first | exact HB.out | apply below_alloc | apply pw_below_drewN | apply below_drew1 | refine below_set ?_ GE1053.out) | exact HB.out)) hb); clear BK1053; clear HB; have BK1053 := n0_; have HB := n1_; clear n0_ n1_; (try clear hb); (try clear hb2); (try clear hk); (try clear hi)) | ((with_reducible refine gate_callee (f := 45) rfl ?_); refine goesL_ (some 22) rfl rfl Try.func45 (by kernel_rfl) rfl #[.agg #[.int .u64 t1054, .int .u64 t1055], .agg #[.int .u64 t1056, .int .u64 t1057]] rfl (by (try simp only [List.map_toArray, List.map_cons, List.map_nil]); first | done | rfl | (simp only [List.length_drop, List.length_take]; rfl)) ?_; (with_reducible refine (u128_Add.calls t1054 t1055 t1056 t1057 t1058 t1059 t1060 _ A5.out).mono ?_); rintro e w28 ⟨rfl, hb⟩; refine ⟨_, rfl, ?_⟩; have n0_ := Aside0.mk (blk_below (g := gb1053) (o := .cells #[.int .u64 t1050, .int .u64 t1051] 25 (0, 0)) (by (with_reducible repeat (first | refine blk_drewN ?_ _ | refine blk_drew ?_ | refine blk_alloc ?_ _)); exact BK1053.out) hb); have n1_ := Aside0.mk (below_step (by repeat (first | (with_reducible first | exact HB.out | apply below_alloc | apply pw_below_drewN | apply below_drew1 | refine below_set ?_ GE1053.out) | exact HB.out)) hb); clear BK1053; clear HB; have BK1053 := n0_; have HB := n1_; clear n0_ n1_; (try clear hb); (try clear hb2); (try clear hk); (try clear hi)) | ((with_reducible refine gate_dst (N := 3) rfl ?_); refine box_event ?hg (N := 3) ?hd (cs := #[.int .u64 0, .int .u64 0]) (t := 25) ?hr ?_; (case hd => rfl); (case hg => rfl); (case hr => first | (go_simp; done) | (go_simp; rfl)); intro gb1061 hg w29 hbox hb; have n0_ := Aside0.mk (blk_below (g := gb1053) (o := .cells #[.int .u64 t1050, .int .u64 t1051] 25 (0, 0)) (by (with_reducible repeat (first | refine blk_drewN ?_ _ | refine blk_drew ?_ | refine blk_alloc ?_ _)); exact BK1053.out) hb); have n1_ := Aside0.mk (below_step (by repeat (first | (with_reducible first | exact HB.out | apply below_alloc | apply pw_below_drewN | apply below_drew1 | refine below_set ?_ GE1053.out) | exact HB.out)) hb); have n2_ := Aside0.mk (hbox); have n3_ := Aside0.mk ((by rw [hg]; exact (below_size (by repeat (first | (with_reducible first | exact HB.out | apply below_alloc | apply pw_below_drewN | apply below_drew1 | refine below_set ?_ GE1053.out) | exact HB.out))) : w.heap.size ≤ gb1061)); have n4_ := Aside0.mk ((by rw [hg]; exact (below_size (by repeat (first | (with_reducible first | exact HB.out | apply below_alloc | apply pw_below_drewN | apply below_drew1 | refine below_set ?_ GE1053.out) | exact HB.out))) : w.heap.size ≤ gb1061)); have n5_ := Aside0.mk ((by rw [hg]; exact Nat.ne_of_lt (blk_lt (g := gb1053) (o := .cells #[.int .u64 t1050, .int .u64 t1051] 25 (0, 0)) (by (with_reducible repeat (first | refine blk_drewN ?_ _ | refine blk_drew ?_ | refine blk_alloc ?_ _)); exact BK1053.out)) : gb1053 ≠ gb1061)); have n6_ := Aside0.mk ((by rw [hg]; exact Nat.ne_of_gt (blk_lt (g := gb1053) (o := .cells #[.int .u64 t1050, .int .u64 t1051] 25 (0, 0)) (by (with_reducible repeat (first | refine blk_drewN ?_ _ | refine blk_drew ?_ | refine blk_alloc ?_ _)); exact BK1053.out)) : gb1061 ≠ gb1053)); clear BK1053; clear HB; have BK1053 := n0_; have HB := n1_; have BK1061 := n2_; have GW1061 := n3_; have GE1061 := n4_; have NB1053_1061 := n5_; have NB1061_1053 := n6_; clear n0_ n1_ n2_ n3_ n4_ n5_ n6_; clear hb hbox hg; have hnb30 := NB1061_1053.out; have hnc30 := NB1053_1061.out; have hcz31_0 : w29.cell? ⟨gb1061, 0, none⟩ = some (.int .u64 0) := (blk_cell BK1061.out 0).trans rfl; have hcz31_1 : w29.cell? ⟨gb1061, 1, none⟩ = some (.int .u64 0) := (blk_cell BK1061.out 1).trans rfl; have hfz31_0 := blk_frozen BK1061.out 0; have hfz31_1 := blk_frozen BK1061.out 1) | ((with_reducible refine gate_callee (f := 51) rfl ?_); refine goesL_ (some 26) rfl rfl Try.func51 (by kernel_rfl) rfl #[.int .u64 1] rfl (by (try simp only [List.map_toArray, List.map_cons, List.map_nil]); first | done | rfl | (simp only [List.length_drop, List.length_take]; rfl)) ?_; (with_reducible refine (u128_Of.calls 1 t1062 t1063 _ A6.out).mono ?_); rintro e w32 ⟨rfl, hb⟩; refine ⟨_, rfl, ?_⟩; have n0_ := Aside0.mk (blk_below (g := gb1053) (o := .cells #[.int .u64 t1050, .int .u64 t1051] 25 (0, 0)) (by (with_reducible repeat (first | refine blk_drewN ?_ _ | refine blk_drew ?_ | refine blk_alloc ?_ _)); refine blk_far ?_ NB1053_1061.out _; (with_reducible repeat (first | refine blk_drewN ?_ _ | refine blk_drew ?_ | refine blk_alloc ?_ _)); refine blk_far ?_ NB1053_1061.out _; (with_reducible repeat (first | refine blk_drewN ?_ _ | refine blk_drew ?_ | refine blk_alloc ?_ _)); exact BK1053.out) hb); have n1_ := Aside0.mk (blk_below (g := gb1061) (o := .cells #[.int .u64 t1058, .int .u64 t1059] 25 (0, 0)) (by (with_reducible repeat (first | refine blk_drewN ?_ _ | refine blk_drew ?_ | refine blk_alloc ?_ _)); refine blk_put (cs := #[.int .u64 t1058, .int .u64 0]) ?_ 1 _ rfl; (with_reducible repeat (first | refine blk_drewN ?_ _ | refine blk_drew ?_ | refine blk_alloc ?_ _)); refine blk_put (cs := #[.int .u64 0, .int .u64 0]) ?_ 0 _ rfl; (with_reducible repeat (first | refine blk_drewN ?_ _ | refine blk_drew ?_ | refine blk_alloc ?_ _)); exact BK1061.out) hb); have n2_ := Aside0.mk (below_step (by repeat (first | (with_reducible first | exact HB.out | apply below_alloc | apply pw_below_drewN | apply below_drew1 | refine below_set ?_ GE1053.out | refine below_set ?_ GE1061.out) | exact HB.out)) hb); clear BK1053; clear BK1061; clear HB; have BK1053 := n0_; have BK1061 := n1_; have HB := n2_; clear n0_ n1_ n2_; (try clear hb); (try clear hb2); (try clear hk); (try clear hi)) | ((with_reducible refine gate_callee (f := 51) rfl ?_); refine goesL_ (some 27) rfl rfl Try.func51 (by kernel_rfl) rfl #[.int .u64 2] rfl (by (try simp only [List.map_toArray, List.map_cons, List.map_nil]); first | done | rfl | (simp only [List.length_drop, List.length_take]; rfl)) ?_; (with_reducible refine (u128_Of.calls 2 t1064 t1065 _ A7.out).mono ?_); rintro e w33 ⟨rfl, hb⟩; refine ⟨_, rfl, ?_⟩; have n0_ := Aside0.mk (blk_below (g := gb1053) (o := .cells #[.int .u64 t1050, .int .u64 t1051] 25 (0, 0)) (by (with_reducible repeat (first | refine blk_drewN ?_ _ | refine blk_drew ?_ | refine blk_alloc ?_ _)); exact BK1053.out) hb); have n1_ := Aside0.mk (blk_below (g := gb1061) (o := .cells #[.int .u64 t1058, .int .u64 t1059] 25 (0, 0)) (by (with_reducible repeat (first | refine blk_drewN ?_ _ | refine blk_drew ?_ | refine blk_alloc ?_ _)); exact BK1061.out) hb); have n2_ := Aside0.mk (below_step (by repeat (first | (with_reducible first | exact HB.out | apply below_alloc | apply pw_below_drewN | apply below_drew1 | refine below_set ?_ GE1053.out | refine below_set ?_ GE1061.out) | exact HB.out)) hb); clear BK1053; clear BK1061; clear HB; have BK1053 := n0_; have BK1061 := n1_; have HB := n2_; clear n0_ n1_ n2_; (try clear hb); (try clear hb2); (try clear hk); (try clear hi)) | ((with_reducible refine gate_callee (f := 47) rfl ?_); refine goesL_ (some 28) rfl rfl Try.func47 (by kernel_rfl) rfl #[.agg #[.int .u64 t1062, .int .u64 t1063], .agg #[.int .u64 t1064, .int .u64 t1065]] rfl (by (try simp only [List.map_toArray, List.map_cons, List.map_nil]); first | done | rfl | (simp only [List.length_drop, List.length_take]; rfl)) ?_; (with_reducible refine (u128_Sub.calls t1062 t1063 t1064 t1065 t1066 t1067 t1068 _ A8.out).mono ?_); rintro e w34 ⟨rfl, hb⟩; refine ⟨_, rfl, ?_⟩; have n0_ := Aside0.mk (blk_below (g := gb1053) (o := .cells #[.int .u64 t1050, .int .u64 t1051] 25 (0, 0)) (by (with_reducible repeat (first | refine blk_drewN ?_ _ | refine blk_drew ?_ | refine blk_alloc ?_ _)); exact BK1053.out) hb); have n1_ := Aside0.mk (blk_below (g := gb1061) (o := .cells #[.int .u64 t1058, .int .u64 t1059] 25 (0, 0)) (by (with_reducible repeat (first | refine blk_drewN ?_ _ | refine blk_drew ?_ | refine blk_alloc ?_ _)); exact BK1061.out) hb); have n2_ := Aside0.mk (below_step (by repeat (first | (with_reducible first | exact HB.out | apply below_alloc | apply pw_below_drewN | apply below_drew1 | refine below_set ?_ GE1053.out | refine below_set ?_ GE1061.out) | exact HB.out)) hb); clear BK1053; clear BK1061; clear HB; have BK1053 := n0_; have BK1061 := n1_; have HB := n2_; clear n0_ n1_ n2_; (try clear hb); (try clear hb2); (try clear hk); (try clear hi)) | ((with_reducible refine gate_dst (N := 5) rfl ?_); refine box_event ?hg (N := 5) ?hd (cs := #[.int .u64 0, .int .u64 0]) (t := 25) ?hr ?_; (case hd => rfl); (case hg => rfl); (case hr => first | (go_simp; done) | (go_simp; rfl)); intro gb1069 hg w35 hbox hb; have n0_ := Aside0.mk (blk_below (g := gb1053) (o := .cells #[.int .u64 t1050, .int .u64 t1051] 25 (0, 0)) (by (with_reducible repeat (first | refine blk_drewN ?_ _ | refine blk_drew ?_ | refine blk_alloc ?_ _)); exact BK1053.out) hb); have n1_ := Aside0.mk (blk_below (g := gb1061) (o := .cells #[.int .u64 t1058, .int .u64 t1059] 25 (0, 0)) (by (with_reducible repeat (first | refine blk_drewN ?_ _ | refine blk_drew ?_ | refine blk_alloc ?_ _)); exact BK1061.out) hb); have n2_ := Aside0.mk (below_step (by repeat (first | (with_reducible first | exact HB.out | apply below_alloc | apply pw_below_drewN | apply below_drew1 | refine below_set ?_ GE1053.out | refine below_set ?_ GE1061.out) | exact HB.out)) hb); have n3_ := Aside0.mk (hbox); have n4_ := Aside0.mk ((by rw [hg]; exact (below_size (by repeat (first | (with_reducible first | exact HB.out | apply below_alloc | apply pw_below_drewN | apply below_drew1 | refine below_set ?_ GE1053.out | refine below_set ?_ GE1061.out) | exact HB.out))) : w.heap.size ≤ gb1069)); have n5_ := Aside0.mk ((by rw [hg]; exact (below_size (by repeat (first | (with_reducible first | exact HB.out | apply below_alloc | apply pw_below_drewN | apply below_drew1 | refine below_set ?_ GE1053.out | refine below_set ?_ GE1061.out) | exact HB.out))) : w.heap.size ≤ gb1069)); have n6_ := Aside0.mk ((by rw [hg]; exact Nat.ne_of_lt (blk_lt (g := gb1053) (o := .cells #[.int .u64 t1050, .int .u64 t1051] 25 (0, 0)) (by (with_reducible repeat (first | refine blk_drewN ?_ _ | refine blk_drew ?_ | refine blk_alloc ?_ _)); exact BK1053.out)) : gb1053 ≠ gb1069)); have n7_ := Aside0.mk ((by rw [hg]; exact Nat.ne_of_gt (blk_lt (g := gb1053) (o := .cells #[.int .u64 t1050, .int .u64 t1051] 25 (0, 0)) (by (with_reducible repeat (first | refine blk_drewN ?_ _ | refine blk_drew ?_ | refine blk_alloc ?_ _)); exact BK1053.out)) : gb1069 ≠ gb1053)); have n8_ := Aside0.mk ((by rw [hg]; exact Nat.ne_of_lt (blk_lt (g := gb1061) (o := .cells #[.int .u64 t1058, .int .u64 t1059] 25 (0, 0)) (by (with_reducible repeat (first | refine blk_drewN ?_ _ | refine blk_drew ?_ | refine blk_alloc ?_ _)); exact BK1061.out)) : gb1061 ≠ gb1069)); have n9_ := Aside0.mk ((by rw [hg]; exact Nat.ne_of_gt (blk_lt (g := gb1061) (o := .cells #[.int .u64 t1058, .int .u64 t1059] 25 (0, 0)) (by (with_reducible repeat (first | refine blk_drewN ?_ _ | refine blk_drew ?_ | refine blk_alloc ?_ _)); exact BK1061.out)) : gb1069 ≠ gb1061)); clear BK1053; clear BK1061; clear HB; have BK1053 := n0_; have BK1061 := n1_; have HB := n2_; have BK1069 := n3_; have GW1069 := n4_; have GE1069 := n5_; have NB1053_1069 := n6_; have NB1069_1053 := n7_; have NB1061_1069 := n8_; have NB1069_1061 := n9_; clear n0_ n1_ n2_ n3_ n4_ n5_ n6_ n7_ n8_ n9_; clear hb hbox hg; have hnb36 := NB1069_1053.out; have hnc36 := NB1053_1069.out; have hnb37 := NB1069_1061.out; have hnc37 := NB1061_1069.out; have hcz38_0 : w35.cell? ⟨gb1069, 0, none⟩ = some (.int .u64 0) := (blk_cell BK1069.out 0).trans rfl; have hcz38_1 : w35.cell? ⟨gb1069, 1, none⟩ = some (.int .u64 0) := (blk_cell BK1069.out 1).trans rfl; have hfz38_0 := blk_frozen BK1069.out 0; have hfz38_1 := blk_frozen BK1069.out 1) | ((with_reducible refine gate_callee (f := 58) rfl ?_); refine goesL_ (some 33) rfl rfl Try.func58 (by kernel_rfl) rfl #[.agg #[.int .u64 1, .int .u64 3], .int .u64 10] rfl (by (try simp only [List.map_toArray, List.map_cons, List.map_nil]); first | done | rfl | (simp only [List.length_drop, List.length_take]; rfl)) ?_; (with_reducible refine (u128_Over.calls 1 3 10 t1070 t1071 t1072 t1073 _ A9.out).mono ?_); rintro e w39 ⟨rfl, hb⟩; refine ⟨_, rfl, ?_⟩; have n0_ := Aside0.mk (blk_below (g := gb1053) (o := .cells #[.int .u64 t1050, .int .u64 t1051] 25 (0, 0)) (by (with_reducible repeat (first | refine blk_drewN ?_ _ | refine blk_drew ?_ | refine blk_alloc ?_ _)); refine blk_far ?_ NB1053_1069.out _; (with_reducible repeat (first | refine blk_drewN ?_ _ | refine blk_drew ?_ | refine blk_alloc ?_ _)); refine blk_far ?_ NB1053_1069.out _; (with_reducible repeat (first | refine blk_drewN ?_ _ | refine blk_drew ?_ | refine blk_alloc ?_ _)); exact BK1053.out) hb); have n1_ := Aside0.mk (blk_below (g := gb1061) (o := .cells #[.int .u64 t1058, .int .u64 t1059] 25 (0, 0)) (by (with_reducible repeat (first | refine blk_drewN ?_ _ | refine blk_drew ?_ | refine blk_alloc ?_ _)); refine blk_far ?_ NB1061_1069.out _; (with_reducible repeat (first | refine blk_drewN ?_ _ | refine blk_drew ?_ | refine blk_alloc ?_ _)); refine blk_far ?_ NB1061_1069.out _; (with_reducible repeat (first | refine blk_drewN ?_ _ | refine blk_drew ?_ | refine blk_alloc ?_ _)); exact BK1061.out) hb); have n2_ := Aside0.mk (blk_below (g := gb1069) (o := .cells #[.int .u64 t1066, .int .u64 t1067] 25 (0, 0)) (by (with_reducible repeat (first | refine blk_drewN ?_ _ | refine blk_drew ?_ | refine blk_alloc ?_ _)); refine blk_put (cs := #[.int .u64 t1066, .int .u64 0]) ?_ 1 _ rfl; (with_reducible repeat (first | refine blk_drewN ?_ _ | refine blk_drew ?_ | refine blk_alloc ?_ _)); refine blk_put (cs := #[.int .u64 0, .int .u64 0]) ?_ 0 _ rfl; (with_reducible repeat (first | refine blk_drewN ?_ _ | refine blk_drew ?_ | refine blk_alloc ?_ _)); exact BK1069.out) hb); have n3_ := Aside0.mk (below_step (by repeat (first | (with_reducible first | exact HB.out | apply below_alloc | apply pw_below_drewN | apply below_drew1 | refine below_set ?_ GE1053.out | refine below_set ?_ GE1061.out | refine below_set ?_ GE1069.out) | exact HB.out)) hb); clear BK1053; clear BK1061; clear BK1069; clear HB; have BK1053 := n0_; have BK1061 := n1_; have BK1069 := n2_; have HB := n3_; clear n0_ n1_ n2_ n3_; (try clear hb); (try clear hb2); (try clear hk); (try clear hi)) | ((with_reducible refine gate_dst (N := 7) rfl ?_); refine box_event ?hg (N := 7) ?hd (cs := #[.int .u64 0, .int .u64 0]) (t := 25) ?hr ?_; (case hd => rfl); (case hg => rfl); (case hr => first | (go_simp; done) | (go_simp; rfl)); intro gb1074 hg w40 hbox hb; have n0_ := Aside0.mk (blk_below (g := gb1053) (o := .cells #[.int .u64 t1050, .int .u64 t1051] 25 (0, 0)) (by (with_reducible repeat (first | refine blk_drewN ?_ _ | refine blk_drew ?_ | refine blk_alloc ?_ _)); exact BK1053.out) hb); have n1_ := Aside0.mk (blk_below (g := gb1061) (o := .cells #[.int .u64 t1058, .int .u64 t1059] 25 (0, 0)) (by (with_reducible repeat (first | refine blk_drewN ?_ _ | refine blk_drew ?_ | refine blk_alloc ?_ _)); exact BK1061.out) hb); have n2_ := Aside0.mk (blk_below (g := gb1069) (o := .cells #[.int .u64 t1066, .int .u64 t1067] 25 (0, 0)) (by (with_reducible repeat (first | refine blk_drewN ?_ _ | refine blk_drew ?_ | refine blk_alloc ?_ _)); exact BK1069.out) hb); have n3_ := Aside0.mk (below_step (by repeat (first | (with_reducible first | exact HB.out | apply below_alloc | apply pw_below_drewN | apply below_drew1 | refine below_set ?_ GE1053.out | refine below_set ?_ GE1061.out | refine below_set ?_ GE1069.out) | exact HB.out)) hb); have n4_ := Aside0.mk (hbox); have n5_ := Aside0.mk ((by rw [hg]; exact (below_size (by repeat (first | (with_reducible first | exact HB.out | apply below_alloc | apply pw_below_drewN | apply below_drew1 | refine below_set ?_ GE1053.out | refine below_set ?_ GE1061.out | refine below_set ?_ GE1069.out) | exact HB.out))) : w.heap.size ≤ gb1074)); have n6_ := Aside0.mk ((by rw [hg]; exact (below_size (by repeat (first | (with_reducible first | exact HB.out | apply below_alloc | apply pw_below_drewN | apply below_drew1 | refine below_set ?_ GE1053.out | refine below_set ?_ GE1061.out | refine below_set ?_ GE1069.out) | exact HB.out))) : w.heap.size ≤ gb1074)); have n7_ := Aside0.mk ((by rw [hg]; exact Nat.ne_of_lt (blk_lt (g := gb1053) (o := .cells #[.int .u64 t1050, .int .u64 t1051] 25 (0, 0)) (by (with_reducible repeat (first | refine blk_drewN ?_ _ | refine blk_drew ?_ | refine blk_alloc ?_ _)); exact BK1053.out)) : gb1053 ≠ gb1074)); have n8_ := Aside0.mk ((by rw [hg]; exact Nat.ne_of_gt (blk_lt (g := gb1053) (o := .cells #[.int .u64 t1050, .int .u64 t1051] 25 (0, 0)) (by (with_reducible repeat (first | refine blk_drewN ?_ _ | refine blk_drew ?_ | refine blk_alloc ?_ _)); exact BK1053.out)) : gb1074 ≠ gb1053)); have n9_ := Aside0.mk ((by rw [hg]; exact Nat.ne_of_lt (blk_lt (g := gb1061) (o := .cells #[.int .u64 t1058, .int .u64 t1059] 25 (0, 0)) (by (with_reducible repeat (first | refine blk_drewN ?_ _ | refine blk_drew ?_ | refine blk_alloc ?_ _)); exact BK1061.out)) : gb1061 ≠ gb1074)); have n10_ := Aside0.mk ((by rw [hg]; exact Nat.ne_of_gt (blk_lt (g := gb1061) (o := .cells #[.int .u64 t1058, .int .u64 t1059] 25 (0, 0)) (by (with_reducible repeat (first | refine blk_drewN ?_ _ | refine blk_drew ?_ | refine blk_alloc ?_ _)); exact BK1061.out)) : gb1074 ≠ gb1061)); have n11_ := Aside0.mk ((by rw [hg]; exact Nat.ne_of_lt (blk_lt (g := gb1069) (o := .cells #[.int .u64 t1066, .int .u64 t1067] 25 (0, 0)) (by (with_reducible repeat (first | refine blk_drewN ?_ _ | refine blk_drew ?_ | refine blk_alloc ?_ _)); exact BK1069.out)) : gb1069 ≠ gb1074)); have n12_ := Aside0.mk ((by rw [hg]; exact Nat.ne_of_gt (blk_lt (g := gb1069) (o := .cells #[.int .u64 t1066, .int .u64 t1067] 25 (0, 0)) (by (with_reducible repeat (first | refine blk_drewN ?_ _ | refine blk_drew ?_ | refine blk_alloc ?_ _)); exact BK1069.out)) : gb1074 ≠ gb1069)); clear BK1053; clear BK1061; clear BK1069; clear HB; have BK1053 := n0_; have BK1061 := n1_; have BK1069 := n2_; have HB := n3_; have BK1074 := n4_; have GW1074 := n5_; have GE1074 := n6_; have NB1053_1074 := n7_; have NB1074_1053 := n8_; have NB1061_1074 := n9_; have NB1074_1061 := n10_; have NB1069_1074 := n11_; have NB1074_1069 := n12_; clear n0_ n1_ n2_ n3_ n4_ n5_ n6_ n7_ n8_ n9_ n10_ n11_ n12_; clear hb hbox hg; have hnb41 := NB1074_1053.out; have hnc41 := NB1053_1074.out; have hnb42 := NB1074_1061.out; have hnc42 := NB1061_1074.out; have hnb43 := NB1074_1069.out; have hnc43 := NB1069_1074.out; have hcz44_0 : w40.cell? ⟨gb1074, 0, none⟩ = some (.int .u64 0) := (blk_cell BK1074.out 0).trans rfl; have hcz44_1 : w40.cell? ⟨gb1074, 1, none⟩ = some (.int .u64 0) := (blk_cell BK1074.out 1).trans rfl; have hfz44_0 := blk_frozen BK1074.out 0; have hfz44_1 := blk_frozen BK1074.out 1) | ((with_reducible refine gate_callee (f := 51) rfl ?_); refine goesL_ (some 38) rfl rfl Try.func51 (by kernel_rfl) rfl #[.int .u64 1] rfl (by (try simp only [List.map_toArray, List.map_cons, List.map_nil]); first | done | rfl | (simp only [List.length_drop, List.length_take]; rfl)) ?_; (with_reducible refine (u128_Of.calls 1 t1075 t1076 _ A10.out).mono ?_); rintro e w45 ⟨rfl, hb⟩; refine ⟨_, rfl, ?_⟩; have n0_ := Aside0.mk (blk_below (g := gb1053) (o := .cells #[.int .u64 t1050, .int .u64 t1051] 25 (0, 0)) (by (with_reducible repeat (first | refine blk_drewN ?_ _ | refine blk_drew ?_ | refine blk_alloc ?_ _)); refine blk_far ?_ NB1053_1074.out _; (with_reducible repeat (first | refine blk_drewN ?_ _ | refine blk_drew ?_ | refine blk_alloc ?_ _)); refine blk_far ?_ NB1053_1074.out _; (with_reducible repeat (first | refine blk_drewN ?_ _ | refine blk_drew ?_ | refine blk_alloc ?_ _)); exact BK1053.out) hb); have n1_ := Aside0.mk (blk_below (g := gb1061) (o := .cells #[.int .u64 t1058, .int .u64 t1059] 25 (0, 0)) (by (with_reducible repeat (first | refine blk_drewN ?_ _ | refine blk_drew ?_ | refine blk_alloc ?_ _)); refine blk_far ?_ NB1061_1074.out _; (with_reducible repeat (first | refine blk_drewN ?_ _ | refine blk_drew ?_ | refine blk_alloc ?_ _)); refine blk_far ?_ NB1061_1074.out _; (with_reducible repeat (first | refine blk_drewN ?_ _ | refine blk_drew ?_ | refine blk_alloc ?_ _)); exact BK1061.out) hb); have n2_ := Aside0.mk (blk_below (g := gb1069) (o := .cells #[.int .u64 t1066, .int .u64 t1067] 25 (0, 0)) (by (with_reducible repeat (first | refine blk_drewN ?_ _ | refine blk_drew ?_ | refine blk_alloc ?_ _)); refine blk_far ?_ NB1069_1074.out _; (with_reducible repeat (first | refine blk_drewN ?_ _ | refine blk_drew ?_ | refine blk_alloc ?_ _)); refine blk_far ?_ NB1069_1074.out _; (with_reducible repeat (first | refine blk_drewN ?_ _ | refine blk_drew ?_ | refine blk_alloc ?_ _)); exact BK1069.out) hb); have n3_ := Aside0.mk (blk_below (g := gb1074) (o := .cells #[.int .u64 t1070, .int .u64 t1071] 25 (0, 0)) (by (with_reducible repeat (first | refine blk_drewN ?_ _ | refine blk_drew ?_ | refine blk_alloc ?_ _)); refine blk_put (cs := #[.int .u64 t1070, .int .u64 0]) ?_ 1 _ rfl; (with_reducible repeat (first | refine blk_drewN ?_ _ | refine blk_drew ?_ | refine blk_alloc ?_ _)); refine blk_put (cs := #[.int .u64 0, .int .u64 0]) ?_ 0 _ rfl; (with_reducible repeat (first | refine blk_drewN ?_ _ | refine blk_drew ?_ | refine blk_alloc ?_ _)); exact BK1074.out) hb); have n4_ := Aside0.mk (below_step (by repeat (first | (with_reducible first | exact HB.out | apply below_alloc | apply pw_below_drewN | apply below_drew1 | refine below_set ?_ GE1053.out | refine below_set ?_ GE1061.out | refine below_set ?_ GE1069.out | refine below_set ?_ GE1074.out) | exact HB.out)) hb); clear BK1053; clear BK1061; clear BK1069; clear BK1074; clear HB; have BK1053 := n0_; have BK1061 := n1_; have BK1069 := n2_; have BK1074 := n3_; have HB := n4_; clear n0_ n1_ n2_ n3_ n4_; (try clear hb); (try clear hb2); (try clear hk); (try clear hi)) | ((with_reducible refine gate_callee (f := 58) rfl ?_); refine goesL_ (some 39) rfl rfl Try.func58 (by kernel_rfl) rfl #[.agg #[.int .u64 t1075, .int .u64 t1076], .int .u64 0] rfl (by (try simp only [List.map_toArray, List.map_cons, List.map_nil]); first | done | rfl | (simp only [List.length_drop, List.length_take]; rfl)) ?_; (with_reducible refine (u128_Over.calls t1075 t1076 0 t1077 t1078 t1079 t1080 _ A11.out).mono ?_); rintro e w46 ⟨rfl, hb⟩; refine ⟨_, rfl, ?_⟩; have n0_ := Aside0.mk (blk_below (g := gb1053) (o := .cells #[.int .u64 t1050, .int .u64 t1051] 25 (0, 0)) (by (with_reducible repeat (first | refine blk_drewN ?_ _ | refine blk_drew ?_ | refine blk_alloc ?_ _)); exact BK1053.out) hb); have n1_ := Aside0.mk (blk_below (g := gb1061) (o := .cells #[.int .u64 t1058, .int .u64 t1059] 25 (0, 0)) (by (with_reducible repeat (first | refine blk_drewN ?_ _ | refine blk_drew ?_ | refine blk_alloc ?_ _)); exact BK1061.out) hb); have n2_ := Aside0.mk (blk_below (g := gb1069) (o := .cells #[.int .u64 t1066, .int .u64 t1067] 25 (0, 0)) (by (with_reducible repeat (first | refine blk_drewN ?_ _ | refine blk_drew ?_ | refine blk_alloc ?_ _)); exact BK1069.out) hb); have n3_ := Aside0.mk (blk_below (g := gb1074) (o := .cells #[.int .u64 t1070, .int .u64 t1071] 25 (0, 0)) (by (with_reducible repeat (first | refine blk_drewN ?_ _ | refine blk_drew ?_ | refine blk_alloc ?_ _)); exact BK1074.out) hb); have n4_ := Aside0.mk (below_step (by repeat (first | (with_reducible first | exact HB.out | apply below_alloc | apply pw_below_drewN | apply below_drew1 | refine below_set ?_ GE1053.out | refine below_set ?_ GE1061.out | refine below_set ?_ GE1069.out | refine below_set ?_ GE1074.out) | exact HB.out)) hb); clear BK1053; clear BK1061; clear BK1069; clear BK1074; clear HB; have BK1053 := n0_; have BK1061 := n1_; have BK1069 := n2_; have BK1074 := n3_; have HB := n4_; clear n0_ n1_ n2_ n3_ n4_; (try clear hb); (try clear hb2); (try clear hk); (try clear hi)) | ((with_reducible refine gate_dst (N := 10) rfl ?_); refine box_event ?hg (N := 10) ?hd (cs := #[.int .u64 0, .int .u64 0]) (t := 25) ?hr ?_; (case hd => rfl); (case hg => rfl); (case hr => first | (go_simp; done) | (go_simp; rfl)); intro gb1081 hg w47 hbox hb; have n0_ := Aside0.mk (blk_below (g := gb1053) (o := .cells #[.int .u64 t1050, .int .u64 t1051] 25 (0, 0)) (by (with_reducible repeat (first | refine blk_drewN ?_ _ | refine blk_drew ?_ | refine blk_alloc ?_ _)); exact BK1053.out) hb); have n1_ := Aside0.mk (blk_below (g := gb1061) (o := .cells #[.int .u64 t1058, .int .u64 t1059] 25 (0, 0)) (by (with_reducible repeat (first | refine blk_drewN ?_ _ | refine blk_drew ?_ | refine blk_alloc ?_ _)); exact BK1061.out) hb); have n2_ := Aside0.mk (blk_below (g := gb1069) (o := .cells #[.int .u64 t1066, .int .u64 t1067] 25 (0, 0)) (by (with_reducible repeat (first | refine blk_drewN ?_ _ | refine blk_drew ?_ | refine blk_alloc ?_ _)); exact BK1069.out) hb); have n3_ := Aside0.mk (blk_below (g := gb1074) (o := .cells #[.int .u64 t1070, .int .u64 t1071] 25 (0, 0)) (by (with_reducible repeat (first | refine blk_drewN ?_ _ | refine blk_drew ?_ | refine blk_alloc ?_ _)); exact BK1074.out) hb); have n4_ := Aside0.mk (below_step (by repeat (first | (with_reducible first | exact HB.out | apply below_alloc | apply pw_below_drewN | apply below_drew1 | refine below_set ?_ GE1053.out | refine below_set ?_ GE1061.out | refine below_set ?_ GE1069.out | refine below_set ?_ GE1074.out) | exact HB.out)) hb); have n5_ := Aside0.mk (hbox); have n6_ := Aside0.mk ((by rw [hg]; exact (below_size (by repeat (first | (with_reducible first | exact HB.out | apply below_alloc | apply pw_below_drewN | apply below_drew1 | refine below_set ?_ GE1053.out | refine below_set ?_ GE1061.out | refine below_set ?_ GE1069.out | refine below_set ?_ GE1074.out) | exact HB.out))) : w.heap.size ≤ gb1081)); have n7_ := Aside0.mk ((by rw [hg]; exact (below_size (by repeat (first | (with_reducible first | exact HB.out | apply below_alloc | apply pw_below_drewN | apply below_drew1 | refine below_set ?_ GE1053.out | refine below_set ?_ GE1061.out | refine below_set ?_ GE1069.out | refine below_set ?_ GE1074.out) | exact HB.out))) : w.heap.size ≤ gb1081)); have n8_ := Aside0.mk ((by rw [hg]; exact Nat.ne_of_lt (blk_lt (g := gb1053) (o := .cells #[.int .u64 t1050, .int .u64 t1051] 25 (0, 0)) (by (with_reducible repeat (first | refine blk_drewN ?_ _ | refine blk_drew ?_ | refine blk_alloc ?_ _)); exact BK1053.out)) : gb1053 ≠ gb1081)); have n9_ := Aside0.mk ((by rw [hg]; exact Nat.ne_of_gt (blk_lt (g := gb1053) (o := .cells #[.int .u64 t1050, .int .u64 t1051] 25 (0, 0)) (by (with_reducible repeat (first | refine blk_drewN ?_ _ | refine blk_drew ?_ | refine blk_alloc ?_ _)); exact BK1053.out)) : gb1081 ≠ gb1053)); have n10_ := Aside0.mk ((by rw [hg]; exact Nat.ne_of_lt (blk_lt (g := gb1061) (o := .cells #[.int .u64 t1058, .int .u64 t1059] 25 (0, 0)) (by (with_reducible repeat (first | refine blk_drewN ?_ _ | refine blk_drew ?_ | refine blk_alloc ?_ _)); exact BK1061.out)) : gb1061 ≠ gb1081)); have n11_ := Aside0.mk ((by rw [hg]; exact Nat.ne_of_gt (blk_lt (g := gb1061) (o := .cells #[.int .u64 t1058, .int .u64 t1059] 25 (0, 0)) (by (with_reducible repeat (first | refine blk_drewN ?_ _ | refine blk_drew ?_ | refine blk_alloc ?_ _)); exact BK1061.out)) : gb1081 ≠ gb1061)); have n12_ := Aside0.mk ((by rw [hg]; exact Nat.ne_of_lt (blk_lt (g := gb1069) (o := .cells #[.int .u64 t1066, .int .u64 t1067] 25 (0, 0)) (by (with_reducible repeat (first | refine blk_drewN ?_ _ | refine blk_drew ?_ | refine blk_alloc ?_ _)); exact BK1069.out)) : gb1069 ≠ gb1081)); have n13_ := Aside0.mk ((by rw [hg]; exact Nat.ne_of_gt (blk_lt (g := gb1069) (o := .cells #[.int .u64 t1066, .int .u64 t1067] 25 (0, 0)) (by (with_reducible repeat (first | refine blk_drewN ?_ _ | refine blk_drew ?_ | refine blk_alloc ?_ _)); exact BK1069.out)) : gb1081 ≠ gb1069)); have n14_ := Aside0.mk ((by rw [hg]; exact Nat.ne_of_lt (blk_lt (g := gb1074) (o := .cells #[.int .u64 t1070, .int .u64 t1071] 25 (0, 0)) (by (with_reducible repeat (first | refine blk_drewN ?_ _ | refine blk_drew ?_ | refine blk_alloc ?_ _)); exact BK1074.out)) : gb1074 ≠ gb1081)); have n15_ := Aside0.mk ((by rw [hg]; exact Nat.ne_of_gt (blk_lt (g := gb1074) (o := .cells #[.int .u64 t1070, .int .u64 t1071] 25 (0, 0)) (by (with_reducible repeat (first | refine blk_drewN ?_ _ | refine blk_drew ?_ | refine blk_alloc ?_ _)); exact BK1074.out)) : gb1081 ≠ gb1074)); clear BK1053; clear BK1061; clear BK1069; clear BK1074; clear HB; have BK1053 := n0_; have BK1061 := n1_; have BK1069 := n2_; have BK1074 := n3_; have HB := n4_; have BK1081 := n5_; have GW1081 := n6_; have GE1081 := n7_; have NB1053_1081 := n8_; have NB1081_1053 := n9_; have NB1061_1081 := n10_; have NB1081_1061 := n11_; have NB1069_1081 := n12_; have NB1081_1069 := n13_; have NB1074_1081 := n14_; have NB1081_1074 := n15_; clear n0_ n1_ n2_ n3_ n4_ n5_ n6_ n7_ n8_ n9_ n10_ n11_ n12_ n13_ n14_ n15_; clear hb hbox hg; have hnb48 := NB1081_1053.out; have hnc48 := NB1053_1081.out; have hnb49 := NB1081_1061.out; have hnc49 := NB1061_1081.out; have hnb50 := NB1081_1069.out; have hnc50 := NB1069_1081.out; have hnb51 := NB1081_1074.out; have hnc51 := NB1074_1081.out; have hcz52_0 : w47.cell? ⟨gb1081, 0, none⟩ = some (.int .u64 0) := (blk_cell BK1081.out 0).trans rfl; have hcz52_1 : w47.cell? ⟨gb1081, 1, none⟩ = some (.int .u64 0) := (blk_cell BK1081.out 1).trans rfl; have hfz52_0 := blk_frozen BK1081.out 0; have hfz52_1 := blk_frozen BK1081.out 1))
                  have n0_ : Aside0 (((w47.setCell ⟨gb1081, 0, none⟩ (.int .u64 t1077)).setCell ⟨gb1081, 1, none⟩ (.int .u64 t1078)).heap[gb1053]? = some (.cells #[.int .u64 t1050, .int .u64 t1051] 25 (0, 0))) := ⟨by (with_reducible repeat (first | refine blk_drewN ?_ _ | refine blk_drew ?_ | refine blk_alloc ?_ _)); refine blk_far ?_ NB1053_1081.out _; (with_reducible repeat (first | refine blk_drewN ?_ _ | refine blk_drew ?_ | refine blk_alloc ?_ _)); refine blk_far ?_ NB1053_1081.out _; (with_reducible repeat (first | refine blk_drewN ?_ _ | refine blk_drew ?_ | refine blk_alloc ?_ _)); exact BK1053.out⟩
                  have n1_ : Aside0 (((w47.setCell ⟨gb1081, 0, none⟩ (.int .u64 t1077)).setCell ⟨gb1081, 1, none⟩ (.int .u64 t1078)).heap[gb1061]? = some (.cells #[.int .u64 t1058, .int .u64 t1059] 25 (0, 0))) := ⟨by (with_reducible repeat (first | refine blk_drewN ?_ _ | refine blk_drew ?_ | refine blk_alloc ?_ _)); refine blk_far ?_ NB1061_1081.out _; (with_reducible repeat (first | refine blk_drewN ?_ _ | refine blk_drew ?_ | refine blk_alloc ?_ _)); refine blk_far ?_ NB1061_1081.out _; (with_reducible repeat (first | refine blk_drewN ?_ _ | refine blk_drew ?_ | refine blk_alloc ?_ _)); exact BK1061.out⟩
                  have n2_ : Aside0 (((w47.setCell ⟨gb1081, 0, none⟩ (.int .u64 t1077)).setCell ⟨gb1081, 1, none⟩ (.int .u64 t1078)).heap[gb1069]? = some (.cells #[.int .u64 t1066, .int .u64 t1067] 25 (0, 0))) := ⟨by (with_reducible repeat (first | refine blk_drewN ?_ _ | refine blk_drew ?_ | refine blk_alloc ?_ _)); refine blk_far ?_ NB1069_1081.out _; (with_reducible repeat (first | refine blk_drewN ?_ _ | refine blk_drew ?_ | refine blk_alloc ?_ _)); refine blk_far ?_ NB1069_1081.out _; (with_reducible repeat (first | refine blk_drewN ?_ _ | refine blk_drew ?_ | refine blk_alloc ?_ _)); exact BK1069.out⟩
                  have n3_ : Aside0 (((w47.setCell ⟨gb1081, 0, none⟩ (.int .u64 t1077)).setCell ⟨gb1081, 1, none⟩ (.int .u64 t1078)).heap[gb1074]? = some (.cells #[.int .u64 t1070, .int .u64 t1071] 25 (0, 0))) := ⟨by (with_reducible repeat (first | refine blk_drewN ?_ _ | refine blk_drew ?_ | refine blk_alloc ?_ _)); refine blk_far ?_ NB1074_1081.out _; (with_reducible repeat (first | refine blk_drewN ?_ _ | refine blk_drew ?_ | refine blk_alloc ?_ _)); refine blk_far ?_ NB1074_1081.out _; (with_reducible repeat (first | refine blk_drewN ?_ _ | refine blk_drew ?_ | refine blk_alloc ?_ _)); exact BK1074.out⟩
                  have n4_ : Aside0 (((w47.setCell ⟨gb1081, 0, none⟩ (.int .u64 t1077)).setCell ⟨gb1081, 1, none⟩ (.int .u64 t1078)).heap[gb1081]? = some (.cells #[.int .u64 t1077, .int .u64 t1078] 25 (0, 0))) := ⟨by (with_reducible repeat (first | refine blk_drewN ?_ _ | refine blk_drew ?_ | refine blk_alloc ?_ _)); refine blk_put (cs := #[.int .u64 t1077, .int .u64 0]) ?_ 1 _ rfl; (with_reducible repeat (first | refine blk_drewN ?_ _ | refine blk_drew ?_ | refine blk_alloc ?_ _)); refine blk_put (cs := #[.int .u64 0, .int .u64 0]) ?_ 0 _ rfl; (with_reducible repeat (first | refine blk_drewN ?_ _ | refine blk_drew ?_ | refine blk_alloc ?_ _)); exact BK1081.out⟩
                  have n5_ : Aside0 (Below w.heap.size w ((w47.setCell ⟨gb1081, 0, none⟩ (.int .u64 t1077)).setCell ⟨gb1081, 1, none⟩ (.int .u64 t1078))) := ⟨by repeat (first | (with_reducible first | exact HB.out | apply below_alloc | apply pw_below_drewN | apply below_drew1 | refine below_set ?_ GE1053.out | refine below_set ?_ GE1061.out | refine below_set ?_ GE1069.out | refine below_set ?_ GE1074.out | refine below_set ?_ GE1081.out) | exact HB.out)⟩
                  (try clear BK1053)
                  (try clear BK1061)
                  (try clear BK1069)
                  (try clear BK1074)
                  (try clear BK1081)
                  (try clear HB)
                  generalize ((w47.setCell ⟨gb1081, 0, none⟩ (.int .u64 t1077)).setCell ⟨gb1081, 1, none⟩ (.int .u64 t1078)) = w53 at n0_ n1_ n2_ n3_ n4_ n5_ ⊢
                  have BK1053 := n0_
                  have BK1061 := n1_
                  have BK1069 := n2_
                  have BK1074 := n3_
                  have BK1081 := n4_
                  have HB := n5_
                  clear n0_ n1_ n2_ n3_ n4_ n5_
                  have n0_ := Aside0.mk (blk_drew BK1053.out)
                  have n1_ := Aside0.mk (blk_drew BK1061.out)
                  have n2_ := Aside0.mk (blk_drew BK1069.out)
                  have n3_ := Aside0.mk (blk_drew BK1074.out)
                  have n4_ := Aside0.mk (blk_drew BK1081.out)
                  have n5_ := Aside0.mk (below_drew1 HB.out)
                  clear BK1053
                  clear BK1061
                  clear BK1069
                  clear BK1074
                  clear BK1081
                  clear HB
                  have BK1053 := n0_
                  have BK1061 := n1_
                  have BK1069 := n2_
                  have BK1074 := n3_
                  have BK1081 := n4_
                  have HB := n5_
                  clear n0_ n1_ n2_ n3_ n4_ n5_
                  refine start_ (n := 38) (S := fun w' => w'.cell? ⟨gb1053, 0, none⟩ = some (.int .u64 t1050) ∧ w'.cell? ⟨gb1053, 1, none⟩ = some (.int .u64 t1051) ∧ w'.cell? ⟨gb1074, 0, none⟩ = some (.int .u64 t1070) ∧ w'.cell? ⟨gb1074, 1, none⟩ = some (.int .u64 t1071)) (ds := []) #[false, false, false, false, false, false, false, false, false, false, false, false, false, false, false, false, false, false, false, false, false, false, false, false, false, false, false, false, false, false, false, false, false, false, false, false, false, false] (by kernel_rfl) rfl rfl ⟨(blk_cell BK1053.out 0).trans rfl, (blk_cell BK1053.out 1).trans rfl, (blk_cell BK1074.out 0).trans rfl, (blk_cell BK1074.out 1).trans rfl⟩ (fun hHeld => ?_); refine with_tabW paymasterlaw01_awake.tab6 paymasterlaw01_awake.bits6 (fun HT_ HW_ => ?_)
                  generalize w53.drew = w54 at BK1053 BK1061 BK1069 BK1074 BK1081 HB hHeld ⊢
                  refine pure_ (i := 1) (N := some 44) (v := ?_) (a' := ?_) #[false, true, false, false, false, false, false, false, false, false, false, false, false, false, false, false, false, false, false, false, false, false, false, false, false, false, false, false, false, false, false, false, false, false, false, false, false, false] rfl rfl (any_of HT_.out (by kernel_rfl)) (fun _ _ _ h => h) (Or.inl ⟨by rfl, ?_⟩) ?_ ?_
                  rotate_left
                  · intro w'
                    go_simp
                    with_reducible rfl
                  rotate_left
                  · simp only [Act.put, List.setIfInBounds_toArray, List.set_cons_zero, List.set_cons_succ, i64_w, i32_w]
                    rfl
                  refine take_ (i := 0) (N := some 43) (v := ?_) (a' := ?_) #[true, true, false, false, false, false, false, false, false, false, false, false, false, false, false, false, false, false, false, false, false, false, false, false, false, false, false, false, false, false, false, false, false, false, false, false, false, false] rfl rfl (take_ofW HT_.out HW_.out (by kernel_rfl)) (fun _ _ _ h => h) (Or.inl ⟨by rfl, ?_⟩) hHeld ?_ ?_
                  rotate_left
                  · rintro w' ⟨s0, s1, s2, s3⟩
                    go_simp
                    with_reducible rfl
                  rotate_left
                  · simp only [Act.put, List.setIfInBounds_toArray, List.set_cons_zero, List.set_cons_succ, i64_w, i32_w]
                    rfl
                  refine pure_ (i := 2) (N := some 45) (v := ?_) (a' := ?_) #[true, true, true, false, false, false, false, false, false, false, false, false, false, false, false, false, false, false, false, false, false, false, false, false, false, false, false, false, false, false, false, false, false, false, false, false, false, false] rfl rfl (any_of HT_.out (by kernel_rfl)) (fun _ _ _ h => h) (Or.inl ⟨by rfl, ?_⟩) ?_ ?_
                  rotate_left
                  · intro w'
                    go_simp
                    with_reducible rfl
                  rotate_left
                  · simp only [Act.put, List.setIfInBounds_toArray, List.set_cons_zero, List.set_cons_succ, i64_w, i32_w]
                    rfl
                  refine pure_ (i := 3) (N := some 46) (v := ?_) (a' := ?_) #[true, true, true, true, false, false, false, false, false, false, false, false, false, false, false, false, false, false, false, false, false, false, false, false, false, false, false, false, false, false, false, false, false, false, false, false, false, false] rfl rfl (any_of HT_.out (by kernel_rfl)) (fun _ _ _ h => h) (Or.inl ⟨by rfl, ?_⟩) ?_ ?_
                  rotate_left
                  · intro w'
                    go_simp
                    with_reducible rfl
                  rotate_left
                  · simp only [Act.put, List.setIfInBounds_toArray, List.set_cons_zero, List.set_cons_succ, i64_w, i32_w]
                    rfl
                  refine pure_ (i := 4) (N := some 47) (v := ?_) (a' := ?_) #[true, true, true, true, true, false, false, false, false, false, false, false, false, false, false, false, false, false, false, false, false, false, false, false, false, false, false, false, false, false, false, false, false, false, false, false, false, false] rfl rfl (any_of HT_.out (by kernel_rfl)) (fun _ _ _ h => h) (Or.inl ⟨by rfl, ?_⟩) ?_ ?_
                  rotate_left
                  · intro w'
                    go_simp
                    with_reducible rfl
                  rotate_left
                  · simp only [Act.put, List.setIfInBounds_toArray, List.set_cons_zero, List.set_cons_succ, i64_w, i32_w]
                    rfl
                  refine pure_ (i := 5) (N := some 48) (v := ?_) (a' := ?_) #[true, true, true, true, true, true, false, false, false, false, false, false, false, false, false, false, false, false, false, false, false, false, false, false, false, false, false, false, false, false, false, false, false, false, false, false, false, false] rfl rfl (any_of HT_.out (by kernel_rfl)) (fun _ _ _ h => h) (Or.inl ⟨by rfl, ?_⟩) ?_ ?_
                  rotate_left
                  · intro w'
                    go_simp
                    with_reducible rfl
                  rotate_left
                  · simp only [Act.put, List.setIfInBounds_toArray, List.set_cons_zero, List.set_cons_succ, i64_w, i32_w]
                    rfl
                  refine pure_ (i := 6) (N := some 49) (v := ?_) (a' := ?_) #[true, true, true, true, true, true, true, false, false, false, false, false, false, false, false, false, false, false, false, false, false, false, false, false, false, false, false, false, false, false, false, false, false, false, false, false, false, false] rfl rfl (any_of HT_.out (by kernel_rfl)) (fun _ _ _ h => h) (Or.inl ⟨by rfl, ?_⟩) ?_ ?_
                  rotate_left
                  · intro w'
                    go_simp
                    with_reducible rfl
                  rotate_left
                  · simp only [Act.put, List.setIfInBounds_toArray, List.set_cons_zero, List.set_cons_succ, i64_w, i32_w]
                    rfl
                  refine pure_ (i := 7) (N := some 50) (v := ?_) (a' := ?_) #[true, true, true, true, true, true, true, true, false, false, false, false, false, false, false, false, false, false, false, false, false, false, false, false, false, false, false, false, false, false, false, false, false, false, false, false, false, false] rfl rfl (any_of HT_.out (by kernel_rfl)) (fun _ _ _ h => h) (Or.inl ⟨by rfl, ?_⟩) ?_ ?_
                  rotate_left
                  · intro w'
                    go_simp
                    with_reducible rfl
                  rotate_left
                  · simp only [Act.put, List.setIfInBounds_toArray, List.set_cons_zero, List.set_cons_succ, i64_w, i32_w]
                    rfl
                  refine pure_ (i := 8) (N := some 51) (v := ?_) (a' := ?_) #[true, true, true, true, true, true, true, true, true, false, false, false, false, false, false, false, false, false, false, false, false, false, false, false, false, false, false, false, false, false, false, false, false, false, false, false, false, false] rfl rfl (any_of HT_.out (by kernel_rfl)) (fun _ _ _ h => h) (Or.inl ⟨by rfl, ?_⟩) ?_ ?_
                  rotate_left
                  · intro w'
                    go_simp
                    with_reducible rfl
                  rotate_left
                  · simp only [Act.put, List.setIfInBounds_toArray, List.set_cons_zero, List.set_cons_succ, i64_w, i32_w]
                    rfl
                  refine pure_ (i := 9) (N := some 52) (v := ?_) (a' := ?_) #[true, true, true, true, true, true, true, true, true, true, false, false, false, false, false, false, false, false, false, false, false, false, false, false, false, false, false, false, false, false, false, false, false, false, false, false, false, false] rfl rfl (any_of HT_.out (by kernel_rfl)) (fun _ _ _ h => h) (Or.inl ⟨by rfl, ?_⟩) ?_ ?_
                  rotate_left
                  · intro w'
                    go_simp
                    with_reducible rfl
                  rotate_left
                  · simp only [Act.put, List.setIfInBounds_toArray, List.set_cons_zero, List.set_cons_succ, i64_w, i32_w]
                    rfl
                  refine pure_ (i := 10) (N := some 53) (v := ?_) (a' := ?_) #[true, true, true, true, true, true, true, true, true, true, true, false, false, false, false, false, false, false, false, false, false, false, false, false, false, false, false, false, false, false, false, false, false, false, false, false, false, false] rfl rfl (any_of HT_.out (by kernel_rfl)) (fun _ _ _ h => h) (Or.inl ⟨by rfl, ?_⟩) ?_ ?_
                  rotate_left
                  · intro w'
                    go_simp
                    with_reducible rfl
                  rotate_left
                  · simp only [Act.put, List.setIfInBounds_toArray, List.set_cons_zero, List.set_cons_succ, i64_w, i32_w]
                    rfl
                  refine pure_ (i := 11) (N := some 54) (v := ?_) (a' := ?_) #[true, true, true, true, true, true, true, true, true, true, true, true, false, false, false, false, false, false, false, false, false, false, false, false, false, false, false, false, false, false, false, false, false, false, false, false, false, false] rfl rfl (any_of HT_.out (by kernel_rfl)) (fun _ _ _ h => h) (Or.inl ⟨by rfl, ?_⟩) ?_ ?_
                  rotate_left
                  · intro w'
                    go_simp
                    with_reducible rfl
                  rotate_left
                  · simp only [Act.put, List.setIfInBounds_toArray, List.set_cons_zero, List.set_cons_succ, i64_w, i32_w]
                    rfl
                  refine pure_ (i := 12) (N := some 55) (v := ?_) (a' := ?_) #[true, true, true, true, true, true, true, true, true, true, true, true, true, false, false, false, false, false, false, false, false, false, false, false, false, false, false, false, false, false, false, false, false, false, false, false, false, false] rfl rfl (any_of HT_.out (by kernel_rfl)) (fun _ _ _ h => h) (Or.inl ⟨by rfl, ?_⟩) ?_ ?_
                  rotate_left
                  · intro w'
                    go_simp
                    with_reducible rfl
                  rotate_left
                  · simp only [Act.put, List.setIfInBounds_toArray, List.set_cons_zero, List.set_cons_succ, i64_w, i32_w]
                    rfl
                  refine pure_ (i := 13) (N := some 56) (v := ?_) (a' := ?_) #[true, true, true, true, true, true, true, true, true, true, true, true, true, true, false, false, false, false, false, false, false, false, false, false, false, false, false, false, false, false, false, false, false, false, false, false, false, false] rfl rfl (any_of HT_.out (by kernel_rfl)) (fun _ _ _ h => h) (Or.inl ⟨by rfl, ?_⟩) ?_ ?_
                  rotate_left
                  · intro w'
                    go_simp
                    with_reducible rfl
                  rotate_left
                  · simp only [Act.put, List.setIfInBounds_toArray, List.set_cons_zero, List.set_cons_succ, i64_w, i32_w]
                    rfl
                  refine pure_ (i := 14) (N := some 57) (v := ?_) (a' := ?_) #[true, true, true, true, true, true, true, true, true, true, true, true, true, true, true, false, false, false, false, false, false, false, false, false, false, false, false, false, false, false, false, false, false, false, false, false, false, false] rfl rfl (any_of HT_.out (by kernel_rfl)) (fun _ _ _ h => h) (Or.inl ⟨by rfl, ?_⟩) ?_ ?_
                  rotate_left
                  · intro w'
                    go_simp
                    with_reducible rfl
                  rotate_left
                  · simp only [Act.put, List.setIfInBounds_toArray, List.set_cons_zero, List.set_cons_succ, i64_w, i32_w]
                    rfl
                  refine pure_ (i := 15) (N := some 58) (v := ?_) (a' := ?_) #[true, true, true, true, true, true, true, true, true, true, true, true, true, true, true, true, false, false, false, false, false, false, false, false, false, false, false, false, false, false, false, false, false, false, false, false, false, false] rfl rfl (any_of HT_.out (by kernel_rfl)) (fun _ _ _ h => h) (Or.inl ⟨by rfl, ?_⟩) ?_ ?_
                  rotate_left
                  · intro w'
                    go_simp
                    with_reducible rfl
                  rotate_left
                  · simp only [Act.put, List.setIfInBounds_toArray, List.set_cons_zero, List.set_cons_succ, i64_w, i32_w]
                    rfl
                  refine take_ (i := 16) (N := some 59) (v := ?_) (a' := ?_) #[true, true, true, true, true, true, true, true, true, true, true, true, true, true, true, true, true, false, false, false, false, false, false, false, false, false, false, false, false, false, false, false, false, false, false, false, false, false] rfl rfl (take_ofW HT_.out HW_.out (by kernel_rfl)) (fun _ _ _ h => h) (Or.inl ⟨by rfl, ?_⟩) hHeld ?_ ?_
                  rotate_left
                  · rintro w' ⟨s0, s1, s2, s3⟩
                    go_simp
                    with_reducible rfl
                  rotate_left
                  · simp only [Act.put, List.setIfInBounds_toArray, List.set_cons_zero, List.set_cons_succ, i64_w, i32_w]
                    rfl
                  refine one_ (i := 17) (N := some 60) #[true, true, true, true, true, true, true, true, true, true, true, true, true, true, true, true, true, true, false, false, false, false, false, false, false, false, false, false, false, false, false, false, false, false, false, false, false, false] rfl rfl (one_of HT_.out (by kernel_rfl)) (by decide) (fun K hK => ?_)
                  refine goes_ Try.func51 (by kernel_rfl) rfl #[.int .u64 1844674407370955161] (by rfl) rfl rfl (by (try simp only [List.map_toArray, List.map_cons, List.map_nil]); first | done | rfl | (simp only [List.length_drop, List.length_take]; rfl)) ?_
                  with_reducible refine (u128_Of.calls 1844674407370955161 t1082 t1083 _ A16.out).mono ?_
                  rintro e w55 ⟨rfl, hb⟩
                  refine ⟨_, rfl, ?_⟩
                  have n0_ := Aside0.mk (blk_below (g := gb1053) (o := .cells #[.int .u64 t1050, .int .u64 t1051] 25 (0, 0)) (by (with_reducible repeat (first | refine blk_drewN ?_ _ | refine blk_drew ?_ | refine blk_alloc ?_ _)); exact BK1053.out) hb)
                  have n1_ := Aside0.mk (blk_below (g := gb1061) (o := .cells #[.int .u64 t1058, .int .u64 t1059] 25 (0, 0)) (by (with_reducible repeat (first | refine blk_drewN ?_ _ | refine blk_drew ?_ | refine blk_alloc ?_ _)); exact BK1061.out) hb)
                  have n2_ := Aside0.mk (blk_below (g := gb1069) (o := .cells #[.int .u64 t1066, .int .u64 t1067] 25 (0, 0)) (by (with_reducible repeat (first | refine blk_drewN ?_ _ | refine blk_drew ?_ | refine blk_alloc ?_ _)); exact BK1069.out) hb)
                  have n3_ := Aside0.mk (blk_below (g := gb1074) (o := .cells #[.int .u64 t1070, .int .u64 t1071] 25 (0, 0)) (by (with_reducible repeat (first | refine blk_drewN ?_ _ | refine blk_drew ?_ | refine blk_alloc ?_ _)); exact BK1074.out) hb)
                  have n4_ := Aside0.mk (blk_below (g := gb1081) (o := .cells #[.int .u64 t1077, .int .u64 t1078] 25 (0, 0)) (by (with_reducible repeat (first | refine blk_drewN ?_ _ | refine blk_drew ?_ | refine blk_alloc ?_ _)); exact BK1081.out) hb)
                  have n5_ := Aside0.mk (below_step (by repeat (first | (with_reducible first | exact HB.out | apply below_alloc | apply pw_below_drewN | apply below_drew1 | refine below_set ?_ GE1053.out | refine below_set ?_ GE1061.out | refine below_set ?_ GE1069.out | refine below_set ?_ GE1074.out | refine below_set ?_ GE1081.out) | exact HB.out)) hb)
                  clear BK1053
                  clear BK1061
                  clear BK1069
                  clear BK1074
                  clear BK1081
                  clear HB
                  have BK1053 := n0_
                  have BK1061 := n1_
                  have BK1069 := n2_
                  have BK1074 := n3_
                  have BK1081 := n4_
                  have HB := n5_
                  clear n0_ n1_ n2_ n3_ n4_ n5_
                  (try clear hb)
                  (try clear hb2)
                  (try clear hk)
                  (try clear hi)
                  refine hK.out _ _ ⟨(blk_cell BK1053.out 0).trans rfl, (blk_cell BK1053.out 1).trans rfl, (blk_cell BK1074.out 0).trans rfl, (blk_cell BK1074.out 1).trans rfl⟩ (fun hHeld => ?_)
                  clear hK K
                  refine norm_ (a' := ?_) ?_ ?_
                  rotate_left
                  · show Act.put _ (some 60) _ = _
                    simp only [Act.put, List.setIfInBounds_toArray, List.set_cons_zero, List.set_cons_succ, i64_w, i32_w]
                    rfl
                  refine pure_ (i := 18) (N := some 61) (v := ?_) (a' := ?_) #[true, true, true, true, true, true, true, true, true, true, true, true, true, true, true, true, true, true, true, false, false, false, false, false, false, false, false, false, false, false, false, false, false, false, false, false, false, false] rfl rfl (any_of HT_.out (by kernel_rfl)) (fun _ _ _ h => h) (Or.inl ⟨by rfl, ?_⟩) ?_ ?_
                  rotate_left
                  · intro w'
                    go_simp
                    with_reducible rfl
                  rotate_left
                  · simp only [Act.put, List.setIfInBounds_toArray, List.set_cons_zero, List.set_cons_succ, i64_w, i32_w]
                    rfl
                  refine pure_ (i := 19) (N := some 62) (v := ?_) (a' := ?_) #[true, true, true, true, true, true, true, true, true, true, true, true, true, true, true, true, true, true, true, true, false, false, false, false, false, false, false, false, false, false, false, false, false, false, false, false, false, false] rfl rfl (any_of HT_.out (by kernel_rfl)) (fun _ _ _ h => h) (Or.inl ⟨by rfl, ?_⟩) ?_ ?_
                  rotate_left
                  · intro w'
                    go_simp
                    with_reducible rfl
                  rotate_left
                  · simp only [Act.put, List.setIfInBounds_toArray, List.set_cons_zero, List.set_cons_succ, i64_w, i32_w]
                    rfl
                  refine pure_ (i := 20) (N := some 63) (v := ?_) (a' := ?_) #[true, true, true, true, true, true, true, true, true, true, true, true, true, true, true, true, true, true, true, true, true, false, false, false, false, false, false, false, false, false, false, false, false, false, false, false, false, false] rfl rfl (any_of HT_.out (by kernel_rfl)) (fun _ _ _ h => h) (Or.inl ⟨by rfl, ?_⟩) ?_ ?_
                  rotate_left
                  · intro w'
                    go_simp
                    with_reducible rfl
                  rotate_left
                  · simp only [Act.put, List.setIfInBounds_toArray, List.set_cons_zero, List.set_cons_succ, i64_w, i32_w]
                    rfl
                  refine pure_ (i := 21) (N := some 64) (v := ?_) (a' := ?_) #[true, true, true, true, true, true, true, true, true, true, true, true, true, true, true, true, true, true, true, true, true, true, false, false, false, false, false, false, false, false, false, false, false, false, false, false, false, false] rfl rfl (any_of HT_.out (by kernel_rfl)) (fun _ _ _ h => h) (Or.inl ⟨by rfl, ?_⟩) ?_ ?_
                  rotate_left
                  · intro w'
                    go_simp
                    with_reducible rfl
                  rotate_left
                  · simp only [Act.put, List.setIfInBounds_toArray, List.set_cons_zero, List.set_cons_succ, i64_w, i32_w]
                    rfl
                  refine pure_ (i := 22) (N := some 65) (v := ?_) (a' := ?_) #[true, true, true, true, true, true, true, true, true, true, true, true, true, true, true, true, true, true, true, true, true, true, true, false, false, false, false, false, false, false, false, false, false, false, false, false, false, false] rfl rfl (any_of HT_.out (by kernel_rfl)) (fun _ _ _ h => h) (Or.inl ⟨by rfl, ?_⟩) ?_ ?_
                  rotate_left
                  · intro w'
                    go_simp
                    with_reducible rfl
                  rotate_left
                  · simp only [Act.put, List.setIfInBounds_toArray, List.set_cons_zero, List.set_cons_succ, i64_w, i32_w]
                    rfl
                  refine pure_ (i := 23) (N := some 66) (v := ?_) (a' := ?_) #[true, true, true, true, true, true, true, true, true, true, true, true, true, true, true, true, true, true, true, true, true, true, true, true, false, false, false, false, false, false, false, false, false, false, false, false, false, false] rfl rfl (any_of HT_.out (by kernel_rfl)) (fun _ _ _ h => h) (Or.inl ⟨by rfl, ?_⟩) ?_ ?_
                  rotate_left
                  · intro w'
                    go_simp
                    with_reducible rfl
                  rotate_left
                  · simp only [Act.put, List.setIfInBounds_toArray, List.set_cons_zero, List.set_cons_succ, i64_w, i32_w]
                    rfl
                  refine pure_ (i := 24) (N := some 67) (v := ?_) (a' := ?_) #[true, true, true, true, true, true, true, true, true, true, true, true, true, true, true, true, true, true, true, true, true, true, true, true, true, false, false, false, false, false, false, false, false, false, false, false, false, false] rfl rfl (any_of HT_.out (by kernel_rfl)) (fun _ _ _ h => h) (Or.inl ⟨by rfl, ?_⟩) ?_ ?_
                  rotate_left
                  · intro w'
                    go_simp
                    with_reducible rfl
                  rotate_left
                  · simp only [Act.put, List.setIfInBounds_toArray, List.set_cons_zero, List.set_cons_succ, i64_w, i32_w]
                    rfl
                  refine pure_ (i := 25) (N := some 68) (v := ?_) (a' := ?_) #[true, true, true, true, true, true, true, true, true, true, true, true, true, true, true, true, true, true, true, true, true, true, true, true, true, true, false, false, false, false, false, false, false, false, false, false, false, false] rfl rfl (any_of HT_.out (by kernel_rfl)) (fun _ _ _ h => h) (Or.inl ⟨by rfl, ?_⟩) ?_ ?_
                  rotate_left
                  · intro w'
                    go_simp
                    with_reducible rfl
                  rotate_left
                  · simp only [Act.put, List.setIfInBounds_toArray, List.set_cons_zero, List.set_cons_succ, i64_w, i32_w]
                    rfl
                  refine pure_ (i := 26) (N := some 69) (v := ?_) (a' := ?_) #[true, true, true, true, true, true, true, true, true, true, true, true, true, true, true, true, true, true, true, true, true, true, true, true, true, true, true, false, false, false, false, false, false, false, false, false, false, false] rfl rfl (any_of HT_.out (by kernel_rfl)) (fun _ _ _ h => h) (Or.inl ⟨by rfl, ?_⟩) ?_ ?_
                  rotate_left
                  · intro w'
                    go_simp
                    with_reducible rfl
                  rotate_left
                  · simp only [Act.put, List.setIfInBounds_toArray, List.set_cons_zero, List.set_cons_succ, i64_w, i32_w]
                    rfl
                  refine pure_ (i := 27) (N := some 70) (v := ?_) (a' := ?_) #[true, true, true, true, true, true, true, true, true, true, true, true, true, true, true, true, true, true, true, true, true, true, true, true, true, true, true, true, false, false, false, false, false, false, false, false, false, false] rfl rfl (any_of HT_.out (by kernel_rfl)) (fun _ _ _ h => h) (Or.inl ⟨by rfl, ?_⟩) ?_ ?_
                  rotate_left
                  · intro w'
                    go_simp
                    with_reducible rfl
                  rotate_left
                  · simp only [Act.put, List.setIfInBounds_toArray, List.set_cons_zero, List.set_cons_succ, i64_w, i32_w]
                    rfl
                  refine pure_ (i := 28) (N := some 71) (v := ?_) (a' := ?_) #[true, true, true, true, true, true, true, true, true, true, true, true, true, true, true, true, true, true, true, true, true, true, true, true, true, true, true, true, true, false, false, false, false, false, false, false, false, false] rfl rfl (any_of HT_.out (by kernel_rfl)) (fun _ _ _ h => h) (Or.inl ⟨by rfl, ?_⟩) ?_ ?_
                  rotate_left
                  · intro w'
                    go_simp
                    with_reducible rfl
                  rotate_left
                  · simp only [Act.put, List.setIfInBounds_toArray, List.set_cons_zero, List.set_cons_succ, i64_w, i32_w]
                    rfl
                  refine pure_ (i := 29) (N := some 72) (v := ?_) (a' := ?_) #[true, true, true, true, true, true, true, true, true, true, true, true, true, true, true, true, true, true, true, true, true, true, true, true, true, true, true, true, true, true, false, false, false, false, false, false, false, false] rfl rfl (any_of HT_.out (by kernel_rfl)) (fun _ _ _ h => h) (Or.inl ⟨by rfl, ?_⟩) ?_ ?_
                  rotate_left
                  · intro w'
                    go_simp
                    with_reducible rfl
                  rotate_left
                  · simp only [Act.put, List.setIfInBounds_toArray, List.set_cons_zero, List.set_cons_succ, i64_w, i32_w]
                    rfl
                  refine pure_ (i := 30) (N := some 73) (v := ?_) (a' := ?_) #[true, true, true, true, true, true, true, true, true, true, true, true, true, true, true, true, true, true, true, true, true, true, true, true, true, true, true, true, true, true, true, false, false, false, false, false, false, false] rfl rfl (any_of HT_.out (by kernel_rfl)) (fun _ _ _ h => h) (Or.inl ⟨by rfl, ?_⟩) ?_ ?_
                  rotate_left
                  · intro w'
                    go_simp
                    with_reducible rfl
                  rotate_left
                  · simp only [Act.put, List.setIfInBounds_toArray, List.set_cons_zero, List.set_cons_succ, i64_w, i32_w]
                    rfl
                  refine pure_ (i := 31) (N := some 74) (v := ?_) (a' := ?_) #[true, true, true, true, true, true, true, true, true, true, true, true, true, true, true, true, true, true, true, true, true, true, true, true, true, true, true, true, true, true, true, true, false, false, false, false, false, false] rfl rfl (any_of HT_.out (by kernel_rfl)) (fun _ _ _ h => h) (Or.inl ⟨by rfl, ?_⟩) ?_ ?_
                  rotate_left
                  · intro w'
                    go_simp
                    with_reducible rfl
                  rotate_left
                  · simp only [Act.put, List.setIfInBounds_toArray, List.set_cons_zero, List.set_cons_succ, i64_w, i32_w]
                    rfl
                  refine pure_ (i := 32) (N := some 75) (v := ?_) (a' := ?_) #[true, true, true, true, true, true, true, true, true, true, true, true, true, true, true, true, true, true, true, true, true, true, true, true, true, true, true, true, true, true, true, true, true, false, false, false, false, false] rfl rfl (any_of HT_.out (by kernel_rfl)) (fun _ _ _ h => h) (Or.inl ⟨by rfl, ?_⟩) ?_ ?_
                  rotate_left
                  · intro w'
                    go_simp
                    with_reducible rfl
                  rotate_left
                  · simp only [Act.put, List.setIfInBounds_toArray, List.set_cons_zero, List.set_cons_succ, i64_w, i32_w]
                    rfl
                  refine pure_ (i := 33) (N := some 76) (v := ?_) (a' := ?_) #[true, true, true, true, true, true, true, true, true, true, true, true, true, true, true, true, true, true, true, true, true, true, true, true, true, true, true, true, true, true, true, true, true, true, false, false, false, false] rfl rfl (any_of HT_.out (by kernel_rfl)) (fun _ _ _ h => h) (Or.inl ⟨by rfl, ?_⟩) ?_ ?_
                  rotate_left
                  · intro w'
                    go_simp
                    with_reducible rfl
                  rotate_left
                  · simp only [Act.put, List.setIfInBounds_toArray, List.set_cons_zero, List.set_cons_succ, i64_w, i32_w]
                    rfl
                  refine one_ (i := 34) (N := some 77) #[true, true, true, true, true, true, true, true, true, true, true, true, true, true, true, true, true, true, true, true, true, true, true, true, true, true, true, true, true, true, true, true, true, true, true, false, false, false] rfl rfl (one_of HT_.out (by kernel_rfl)) (by decide) (fun K hK => ?_)
                  refine goes_ Try.func31 (by kernel_rfl) rfl #[.agg #[.int .u64 1, .int .u64 258]] (by rfl) rfl rfl (by (try simp only [List.map_toArray, List.map_cons, List.map_nil]); first | done | rfl | (simp only [List.length_drop, List.length_take]; rfl)) ?_
                  with_reducible refine (u128_Bytes.calls 1 258 t1084 _ A21.out).mono ?_
                  rintro e w56 ⟨rfl, hb⟩
                  refine ⟨_, rfl, ?_⟩
                  have n0_ := Aside0.mk (blk_below (g := gb1053) (o := .cells #[.int .u64 t1050, .int .u64 t1051] 25 (0, 0)) (by (with_reducible repeat (first | refine blk_drewN ?_ _ | refine blk_drew ?_ | refine blk_alloc ?_ _)); exact BK1053.out) hb)
                  have n1_ := Aside0.mk (blk_below (g := gb1061) (o := .cells #[.int .u64 t1058, .int .u64 t1059] 25 (0, 0)) (by (with_reducible repeat (first | refine blk_drewN ?_ _ | refine blk_drew ?_ | refine blk_alloc ?_ _)); exact BK1061.out) hb)
                  have n2_ := Aside0.mk (blk_below (g := gb1069) (o := .cells #[.int .u64 t1066, .int .u64 t1067] 25 (0, 0)) (by (with_reducible repeat (first | refine blk_drewN ?_ _ | refine blk_drew ?_ | refine blk_alloc ?_ _)); exact BK1069.out) hb)
                  have n3_ := Aside0.mk (blk_below (g := gb1074) (o := .cells #[.int .u64 t1070, .int .u64 t1071] 25 (0, 0)) (by (with_reducible repeat (first | refine blk_drewN ?_ _ | refine blk_drew ?_ | refine blk_alloc ?_ _)); exact BK1074.out) hb)
                  have n4_ := Aside0.mk (blk_below (g := gb1081) (o := .cells #[.int .u64 t1077, .int .u64 t1078] 25 (0, 0)) (by (with_reducible repeat (first | refine blk_drewN ?_ _ | refine blk_drew ?_ | refine blk_alloc ?_ _)); exact BK1081.out) hb)
                  have n5_ := Aside0.mk (below_step (by repeat (first | (with_reducible first | exact HB.out | apply below_alloc | apply pw_below_drewN | apply below_drew1 | refine below_set ?_ GE1053.out | refine below_set ?_ GE1061.out | refine below_set ?_ GE1069.out | refine below_set ?_ GE1074.out | refine below_set ?_ GE1081.out) | exact HB.out)) hb)
                  clear BK1053
                  clear BK1061
                  clear BK1069
                  clear BK1074
                  clear BK1081
                  clear HB
                  have BK1053 := n0_
                  have BK1061 := n1_
                  have BK1069 := n2_
                  have BK1074 := n3_
                  have BK1081 := n4_
                  have HB := n5_
                  clear n0_ n1_ n2_ n3_ n4_ n5_
                  (try clear hb)
                  (try clear hb2)
                  (try clear hk)
                  (try clear hi)
                  refine hK.out _ _ ⟨(blk_cell BK1053.out 0).trans rfl, (blk_cell BK1053.out 1).trans rfl, (blk_cell BK1074.out 0).trans rfl, (blk_cell BK1074.out 1).trans rfl⟩ (fun hHeld => ?_)
                  clear hK K
                  refine norm_ (a' := ?_) ?_ ?_
                  rotate_left
                  · show Act.put _ (some 77) _ = _
                    simp only [Act.put, List.setIfInBounds_toArray, List.set_cons_zero, List.set_cons_succ, i64_w, i32_w]
                    rfl
                  refine pure_ (i := 35) (N := some 78) (v := ?_) (a' := ?_) #[true, true, true, true, true, true, true, true, true, true, true, true, true, true, true, true, true, true, true, true, true, true, true, true, true, true, true, true, true, true, true, true, true, true, true, true, false, false] rfl rfl (any_of HT_.out (by kernel_rfl)) (fun _ _ _ h => h) (Or.inl ⟨by rfl, ?_⟩) ?_ ?_
                  rotate_left
                  · intro w'
                    go_simp
                    with_reducible rfl
                  rotate_left
                  · simp only [Act.put, List.setIfInBounds_toArray, List.set_cons_zero, List.set_cons_succ, i64_w, i32_w]
                    rfl
                  refine pure_ (i := 36) (N := some 79) (v := ?_) (a' := ?_) #[true, true, true, true, true, true, true, true, true, true, true, true, true, true, true, true, true, true, true, true, true, true, true, true, true, true, true, true, true, true, true, true, true, true, true, true, true, false] rfl rfl (any_of HT_.out (by kernel_rfl)) (fun _ _ _ h => h) (Or.inl ⟨by rfl, ?_⟩) ?_ ?_
                  rotate_left
                  · intro w'
                    go_simp
                    with_reducible rfl
                  rotate_left
                  · simp only [Act.put, List.setIfInBounds_toArray, List.set_cons_zero, List.set_cons_succ, i64_w, i32_w]
                    rfl
                  refine pure_ (i := 37) (N := some 0) (v := ?_) (a' := ?_) #[true, true, true, true, true, true, true, true, true, true, true, true, true, true, true, true, true, true, true, true, true, true, true, true, true, true, true, true, true, true, true, true, true, true, true, true, true, true] rfl rfl (any_of HT_.out (by kernel_rfl)) (fun _ _ _ h => h) (Or.inl ⟨by rfl, ?_⟩) ?_ ?_
                  rotate_left
                  · intro w'
                    go_simp
                    with_reducible rfl
                  rotate_left
                  · simp only [Act.put, List.setIfInBounds_toArray, List.set_cons_zero, List.set_cons_succ, i64_w, i32_w]
                    rfl
                  refine done_ (done_of HT_.out (by kernel_rfl)) ?_
                  try go_wp2
                  go_ret
                  exact ⟨by first | rfl | (simp [errW_none, errW_some] <;> rfl) | (simp [*, errW_none, errW_some] <;> rfl), by repeat (first | (with_reducible first | exact HB.out | apply below_alloc | apply pw_below_drewN | apply below_drew1 | refine below_set ?_ GE1053.out | refine below_set ?_ GE1061.out | refine below_set ?_ GE1069.out | refine below_set ?_ GE1074.out | refine below_set ?_ GE1081.out) | exact HB.out)⟩
                · rw [if_neg c20] at H
                  have c20b0 : (t1080 == 2) = false := beq_eq_false_iff_ne.mpr c20
                  have c20b1 : (t1080 != 2) = true := bne_iff_ne.mpr c20
                  exact absurd H (by simp)
              · rw [if_neg c19] at H
                have c19b0 : (t1073 == 0) = false := beq_eq_false_iff_ne.mpr c19
                have c19b1 : (t1073 != 0) = true := bne_iff_ne.mpr c19
                exact absurd H (by simp)
            · rw [if_neg c18] at H
              have c18b0 : (t1072 == 9) = false := beq_eq_false_iff_ne.mpr c18
              have c18b1 : (t1072 != 9) = true := bne_iff_ne.mpr c18
              exact absurd H (by simp)
          · rw [if_neg c17] at H
            have c17b0 : (t1070 == t1082 && (t1071 == t1083)) = false := by simpa using c17
            (try (have c17b1 : decide (t1070 = t1082 && (t1071 == t1083)) = false := by simpa using c17))
            (try (have c17b2 : (t1070 == t1082 && (t1071 == t1083)) = false := by simpa using c17))
            (try (have c17b3 : ¬ (t1070 = t1082 && (t1071 == t1083)) := by simpa using c17))
            clear c17
            exact absurd H (by simp)
        · rw [if_neg c15] at H
          have c15b0 : (t1068 == 10) = false := beq_eq_false_iff_ne.mpr c15
          have c15b1 : (t1068 != 10) = true := bne_iff_ne.mpr c15
          exact absurd H (by simp)
      · rw [if_neg c14] at H
        have c14b0 : (t1060 == 10) = false := beq_eq_false_iff_ne.mpr c14
        have c14b1 : (t1060 != 10) = true := bne_iff_ne.mpr c14
        exact absurd H (by simp)
    · rw [if_neg c13] at H
      have c13b0 : (t1052 == 0) = false := beq_eq_false_iff_ne.mpr c13
      have c13b1 : (t1052 != 0) = true := bne_iff_ne.mpr c13
      exact absurd H (by simp)
  · rw [if_neg c12] at H
    have c12b0 : (t1050 == 1 && (t1051 == 0)) = false := by simpa using c12
    (try (have c12b1 : decide (t1050 = 1 && (t1051 == 0)) = false := by simpa using c12))
    (try (have c12b2 : (t1050 == 1 && (t1051 == 0)) = false := by simpa using c12))
    (try (have c12b3 : ¬ (t1050 = 1 && (t1051 == 0)) := by simpa using c12))
    clear c12
    exact absurd H (by simp)
end Go.Proofs.Ytpkjpiphjdpegaa.P
namespace Go.Proofs.Ytpkjpiphjdpegaa.P
open Go.RowKit Go.Proofs.YtpkjpiphjdpegaaW.PrintWords Go.Proofs.YtpkjpiphjdpegaaW.PrintLast Go.Proofs.YtpkjpiphjdpegaaW.PrintMore
attribute [local go_sem] max2_int min2_int max_two min_two max_three min_three max_four min_four
set_option linter.unusedVariables false
set_option linter.unusedSimpArgs false
attribute [local go_sem high] eqA25
mutual
def paymasterlaw01_U128Back.j0 : Nat → Int → Bool → Int → Int → Int → Int → Int → Int → Option (Bool)
  | 0, _, _, _, _, _, _, _, _ => none
  | k + 1, x8, x54, x1086000, x1086001, x1087000, x1087001, x1109000, x1109001 => if x54 = true then (none) else (if x8 = 0 then ((u128_Sub.f x1109000 x1109001 x1087000 x1087001).bind fun bt1145 => ((u128_Sub.f x1109000 x1109001 x1086000 x1086001).bind fun bt1149 => (if bt1145.2.2 = 0 then (if bt1149.2.2 = 0 then (if (!(bt1145.1 == x1086000) || (!(bt1145.2.1 == x1086001))) = true then (none) else (if (!(bt1149.1 == x1087000) || (!(bt1149.2.1 == x1087001))) = true then (none) else (paymasterlaw01_U128Back.j1 k x1086000 x1086001 x1087000 x1087001))) else (none)) else (none)))) else (paymasterlaw01_U128Back.j1 k x1086000 x1086001 x1087000 x1087001))
def paymasterlaw01_U128Back.j1 : Nat → Int → Int → Int → Int → Option (Bool)
  | 0, _, _, _, _ => none
  | k + 1, x1086000, x1086001, x1087000, x1087001 => (u128_Sub.f x1086000 x1086001 x1087000 x1087001).bind fun bt1171 => ((u128_Cmp.f k x1086000 x1086001 x1087000 x1087001).bind fun t1175 => (if ((bt1171.2.2 == 0) != (decide (t1175 ≥ 0))) = true then (none) else (if bt1171.2.2 = 0 then (paymasterlaw01_U128Back.j2 k bt1171.2.2 false x1086000 x1086001 x1087000 x1087001 bt1171.1 bt1171.2.1) else (if bt1171.2.2 = 10 then (paymasterlaw01_U128Back.j2 k bt1171.2.2 (!(bt1171.1 == 0) || (!(bt1171.2.1 == 0))) x1086000 x1086001 x1087000 x1087001 bt1171.1 bt1171.2.1) else (none)))))
def paymasterlaw01_U128Back.j2 : Nat → Int → Bool → Int → Int → Int → Int → Int → Int → Option (Bool)
  | 0, _, _, _, _, _, _, _, _ => none
  | k + 1, x14, x110, x1086000, x1086001, x1087000, x1087001, x1175000, x1175001 => if x110 = true then (none) else (if x14 = 0 then ((u128_Add.f x1175000 x1175001 x1087000 x1087001).bind fun bt1180 => (if bt1180.2.2 = 0 then (some (bt1180.1 == x1086000 && (bt1180.2.1 == x1086001))) else (none))) else (some true))
end
def paymasterlaw01_U128Back.f (k : Nat) (a0_0 : Int) (a0_1 : Int) (a1_0 : Int) (a1_1 : Int) : Option (Bool) := (paymasterlaw01_awake.f).bind fun t1087 => (if t1087 = true then ((u128_Most.f).bind fun bt1099 => ((u128_Sub.f bt1099.1 bt1099.2 a0_0 a0_1).bind fun bt1101 => ((u128_Add.f a0_0 a0_1 a1_0 a1_1).bind fun bt1105 => (if bt1101.2.2 = 0 then ((u128_Cmp.f k a1_0 a1_1 bt1101.1 bt1101.2.1).bind fun t1109 => (if ((bt1105.2.2 == 0) != (decide (t1109 ≤ 0))) = true then (none) else (if bt1105.2.2 = 0 then (paymasterlaw01_U128Back.j0 k bt1105.2.2 false a0_0 a0_1 a1_0 a1_1 bt1105.1 bt1105.2.1) else (if bt1105.2.2 = 10 then (paymasterlaw01_U128Back.j0 k bt1105.2.2 (!(bt1105.1 == 0) || (!(bt1105.2.1 == 0))) a0_0 a0_1 a1_0 a1_1 bt1105.1 bt1105.2.1) else (none))))) else (none))))) else (none))
def paymasterlaw01_U128Back.T3 : Bool × List (List Nat × List Nat) := (true, [([], []), ([], []), ([0, 1, 0], [0, 1]), ([2], [2]), ([3], [3]), ([3], [3]), ([], []), ([6, 4, 2, 0, 1, 2, 3, 4, 6], [4, 6]), ([5, 7, 0, 1, 2, 3, 4, 5, 6, 7], [5])])
def paymasterlaw01_U128Back.B3 : List Nat := [0, 0, 3, 7, 15, 15, 0, 95, 255]
theorem paymasterlaw01_U128Back.tab3 : rtab .any (opsOf Try.f13 3) = paymasterlaw01_U128Back.T3 := by kernel_rfl
theorem paymasterlaw01_U128Back.bits3 : waitsOk paymasterlaw01_U128Back.T3.2 paymasterlaw01_U128Back.B3 = true := by kernel_rfl
set_option maxHeartbeats 8000000 in
set_option maxRecDepth 100000 in
theorem paymasterlaw01_U128Back.calls (k : Nat) (a0_0 : Int) (a0_1 : Int) (a1_0 : Int) (a1_1 : Int) (r : Bool) (w : World) (h : paymasterlaw01_U128Back.f k a0_0 a0_1 a1_0 a1_1 = some r) :
    Calls Try.prog 13 #[.agg #[.int .u64 a0_0, .int .u64 a0_1], .agg #[.int .u64 a1_0, .int .u64 a1_1]] w fun e w' => e = .returned (.bool r) ∧ Below w.heap.size w w' := by
  have hu25 := Try.underlying25
  have HB := Aside0.mk (Below.refl w.heap.size w)
  have H : ((paymasterlaw01_awake.f).bind fun t1087 => (if t1087 = true then ((u128_Most.f).bind fun bt1099 => ((u128_Sub.f bt1099.1 bt1099.2 a0_0 a0_1).bind fun bt1101 => ((u128_Add.f a0_0 a0_1 a1_0 a1_1).bind fun bt1105 => (if bt1101.2.2 = 0 then ((u128_Cmp.f k a1_0 a1_1 bt1101.1 bt1101.2.1).bind fun t1109 => (if ((bt1105.2.2 == 0) != (decide (t1109 ≤ 0))) = true then (none) else (if bt1105.2.2 = 0 then (paymasterlaw01_U128Back.j0 k bt1105.2.2 false a0_0 a0_1 a1_0 a1_1 bt1105.1 bt1105.2.1) else (if bt1105.2.2 = 10 then (paymasterlaw01_U128Back.j0 k bt1105.2.2 (!(bt1105.1 == 0) || (!(bt1105.2.1 == 0))) a0_0 a0_1 a1_0 a1_1 bt1105.1 bt1105.2.1) else (none))))) else (none))))) else (none))) = some r := h
  clear h
  replace H := Option.bind_eq_some_iff.mp H
  obtain ⟨t1087, A30, H⟩ := H
  replace H : (if t1087 = true then ((u128_Most.f).bind fun bt1099 => ((u128_Sub.f bt1099.1 bt1099.2 a0_0 a0_1).bind fun bt1101 => ((u128_Add.f a0_0 a0_1 a1_0 a1_1).bind fun bt1105 => (if bt1101.2.2 = 0 then ((u128_Cmp.f k a1_0 a1_1 bt1101.1 bt1101.2.1).bind fun t1109 => (if ((bt1105.2.2 == 0) != (decide (t1109 ≤ 0))) = true then (none) else (if bt1105.2.2 = 0 then (paymasterlaw01_U128Back.j0 k bt1105.2.2 false a0_0 a0_1 a1_0 a1_1 bt1105.1 bt1105.2.1) else (if bt1105.2.2 = 10 then (paymasterlaw01_U128Back.j0 k bt1105.2.2 (!(bt1105.1 == 0) || (!(bt1105.2.1 == 0))) a0_0 a0_1 a1_0 a1_1 bt1105.1 bt1105.2.1) else (none))))) else (none))))) else (none)) = some r := H
  have A3 := Aside0.mk A30
  clear A30
  by_cases c4 : t1087 = true
  · subst c4
    have H1 : ((u128_Most.f).bind fun bt1099 => ((u128_Sub.f bt1099.1 bt1099.2 a0_0 a0_1).bind fun bt1101 => ((u128_Add.f a0_0 a0_1 a1_0 a1_1).bind fun bt1105 => (if bt1101.2.2 = 0 then ((u128_Cmp.f k a1_0 a1_1 bt1101.1 bt1101.2.1).bind fun t1109 => (if ((bt1105.2.2 == 0) != (decide (t1109 ≤ 0))) = true then (none) else (if bt1105.2.2 = 0 then (paymasterlaw01_U128Back.j0 k bt1105.2.2 false a0_0 a0_1 a1_0 a1_1 bt1105.1 bt1105.2.1) else (if bt1105.2.2 = 10 then (paymasterlaw01_U128Back.j0 k bt1105.2.2 (!(bt1105.1 == 0) || (!(bt1105.2.1 == 0))) a0_0 a0_1 a1_0 a1_1 bt1105.1 bt1105.2.1) else (none))))) else (none))))) = some r := by rw [if_pos rfl] at H; exact H
    clear H
    have H := H1
    clear H1
    replace H := Option.bind_eq_some_iff.mp H
    obtain ⟨⟨t1099, t1100⟩, A50, H⟩ := H
    replace H : ((u128_Sub.f t1099 t1100 a0_0 a0_1).bind fun bt1101 => ((u128_Add.f a0_0 a0_1 a1_0 a1_1).bind fun bt1105 => (if bt1101.2.2 = 0 then ((u128_Cmp.f k a1_0 a1_1 bt1101.1 bt1101.2.1).bind fun t1109 => (if ((bt1105.2.2 == 0) != (decide (t1109 ≤ 0))) = true then (none) else (if bt1105.2.2 = 0 then (paymasterlaw01_U128Back.j0 k bt1105.2.2 false a0_0 a0_1 a1_0 a1_1 bt1105.1 bt1105.2.1) else (if bt1105.2.2 = 10 then (paymasterlaw01_U128Back.j0 k bt1105.2.2 (!(bt1105.1 == 0) || (!(bt1105.2.1 == 0))) a0_0 a0_1 a1_0 a1_1 bt1105.1 bt1105.2.1) else (none))))) else (none)))) = some r := H
    have A5 := Aside0.mk A50
    clear A50
    replace H := Option.bind_eq_some_iff.mp H
    obtain ⟨⟨t1101, t1102, t1103⟩, A60, H⟩ := H
    replace H : ((u128_Add.f a0_0 a0_1 a1_0 a1_1).bind fun bt1105 => (if t1103 = 0 then ((u128_Cmp.f k a1_0 a1_1 t1101 t1102).bind fun t1109 => (if ((bt1105.2.2 == 0) != (decide (t1109 ≤ 0))) = true then (none) else (if bt1105.2.2 = 0 then (paymasterlaw01_U128Back.j0 k bt1105.2.2 false a0_0 a0_1 a1_0 a1_1 bt1105.1 bt1105.2.1) else (if bt1105.2.2 = 10 then (paymasterlaw01_U128Back.j0 k bt1105.2.2 (!(bt1105.1 == 0) || (!(bt1105.2.1 == 0))) a0_0 a0_1 a1_0 a1_1 bt1105.1 bt1105.2.1) else (none))))) else (none))) = some r := H
    have A6 := Aside0.mk A60
    clear A60
    replace H := Option.bind_eq_some_iff.mp H
    obtain ⟨⟨t1105, t1106, t1107⟩, A70, H⟩ := H
    replace H : (if t1103 = 0 then ((u128_Cmp.f k a1_0 a1_1 t1101 t1102).bind fun t1109 => (if ((t1107 == 0) != (decide (t1109 ≤ 0))) = true then (none) else (if t1107 = 0 then (paymasterlaw01_U128Back.j0 k t1107 false a0_0 a0_1 a1_0 a1_1 t1105 t1106) else (if t1107 = 10 then (paymasterlaw01_U128Back.j0 k t1107 (!(t1105 == 0) || (!(t1106 == 0))) a0_0 a0_1 a1_0 a1_1 t1105 t1106) else (none))))) else (none)) = some r := H
    have A7 := Aside0.mk A70
    clear A70
    have HC8 := Aside0.mk H
    clear H
    go_enter Try.func13, Try.ntmps13
    try go_wp2_with (first | ((with_reducible refine gate_dst (N := 2) rfl ?_); refine box_event ?hg (N := 2) ?hd (cs := #[.int .u64 a0_0, .int .u64 a0_1]) (t := 25) ?hr ?_; (case hd => rfl); (case hg => rfl); (case hr => first | (go_simp; done) | (go_simp; rfl)); intro gb1085 hg w9 hbox hb; have n0_ := Aside0.mk (below_step (by repeat (first | (with_reducible first | exact HB.out | apply below_alloc | apply pw_below_drewN | apply below_drew1) | exact HB.out)) hb); have n1_ := Aside0.mk (hbox); have n2_ := Aside0.mk ((by rw [hg]; exact (below_size (by repeat (first | (with_reducible first | exact HB.out | apply below_alloc | apply pw_below_drewN | apply below_drew1) | exact HB.out))) : w.heap.size ≤ gb1085)); have n3_ := Aside0.mk ((by rw [hg]; exact (below_size (by repeat (first | (with_reducible first | exact HB.out | apply below_alloc | apply pw_below_drewN | apply below_drew1) | exact HB.out))) : w.heap.size ≤ gb1085)); clear HB; have HB := n0_; have BK1085 := n1_; have GW1085 := n2_; have GE1085 := n3_; clear n0_ n1_ n2_ n3_; clear hb hbox hg) | ((with_reducible refine gate_dst (N := 3) rfl ?_); refine box_event ?hg (N := 3) ?hd (cs := #[.int .u64 a1_0, .int .u64 a1_1]) (t := 25) ?hr ?_; (case hd => rfl); (case hg => rfl); (case hr => first | (go_simp; done) | (go_simp; rfl)); intro gb1086 hg w10 hbox hb; have n0_ := Aside0.mk (blk_below (g := gb1085) (o := .cells #[.int .u64 a0_0, .int .u64 a0_1] 25 (0, 0)) (by (with_reducible repeat (first | refine blk_drewN ?_ _ | refine blk_drew ?_ | refine blk_alloc ?_ _)); exact BK1085.out) hb); have n1_ := Aside0.mk (below_step (by repeat (first | (with_reducible first | exact HB.out | apply below_alloc | apply pw_below_drewN | apply below_drew1 | refine below_set ?_ GE1085.out) | exact HB.out)) hb); have n2_ := Aside0.mk (hbox); have n3_ := Aside0.mk ((by rw [hg]; exact (below_size (by repeat (first | (with_reducible first | exact HB.out | apply below_alloc | apply pw_below_drewN | apply below_drew1 | refine below_set ?_ GE1085.out) | exact HB.out))) : w.heap.size ≤ gb1086)); have n4_ := Aside0.mk ((by rw [hg]; exact (below_size (by repeat (first | (with_reducible first | exact HB.out | apply below_alloc | apply pw_below_drewN | apply below_drew1 | refine below_set ?_ GE1085.out) | exact HB.out))) : w.heap.size ≤ gb1086)); have n5_ := Aside0.mk ((by rw [hg]; exact Nat.ne_of_lt (blk_lt (g := gb1085) (o := .cells #[.int .u64 a0_0, .int .u64 a0_1] 25 (0, 0)) (by (with_reducible repeat (first | refine blk_drewN ?_ _ | refine blk_drew ?_ | refine blk_alloc ?_ _)); exact BK1085.out)) : gb1085 ≠ gb1086)); have n6_ := Aside0.mk ((by rw [hg]; exact Nat.ne_of_gt (blk_lt (g := gb1085) (o := .cells #[.int .u64 a0_0, .int .u64 a0_1] 25 (0, 0)) (by (with_reducible repeat (first | refine blk_drewN ?_ _ | refine blk_drew ?_ | refine blk_alloc ?_ _)); exact BK1085.out)) : gb1086 ≠ gb1085)); clear BK1085; clear HB; have BK1085 := n0_; have HB := n1_; have BK1086 := n2_; have GW1086 := n3_; have GE1086 := n4_; have NB1085_1086 := n5_; have NB1086_1085 := n6_; clear n0_ n1_ n2_ n3_ n4_ n5_ n6_; clear hb hbox hg) | ((with_reducible refine gate_callee (f := 66) rfl ?_); refine goesL_ (some 17) rfl rfl Try.func66 (by kernel_rfl) rfl #[] rfl (by (try simp only [List.map_toArray, List.map_cons, List.map_nil]); first | done | rfl | (simp only [List.length_drop, List.length_take]; rfl)) ?_; (with_reducible refine (paymasterlaw01_awake.calls  true _ A3.out).mono ?_); rintro e w11 ⟨rfl, hb⟩; refine ⟨_, rfl, ?_⟩; have n0_ := Aside0.mk (blk_below (g := gb1085) (o := .cells #[.int .u64 a0_0, .int .u64 a0_1] 25 (0, 0)) (by (with_reducible repeat (first | refine blk_drewN ?_ _ | refine blk_drew ?_ | refine blk_alloc ?_ _)); exact BK1085.out) hb); have n1_ := Aside0.mk (blk_below (g := gb1086) (o := .cells #[.int .u64 a1_0, .int .u64 a1_1] 25 (0, 0)) (by (with_reducible repeat (first | refine blk_drewN ?_ _ | refine blk_drew ?_ | refine blk_alloc ?_ _)); exact BK1086.out) hb); have n2_ := Aside0.mk (below_step (by repeat (first | (with_reducible first | exact HB.out | apply below_alloc | apply pw_below_drewN | apply below_drew1 | refine below_set ?_ GE1085.out | refine below_set ?_ GE1086.out) | exact HB.out)) hb); clear BK1085; clear BK1086; clear HB; have BK1085 := n0_; have BK1086 := n1_; have HB := n2_; clear n0_ n1_ n2_; (try clear hb); (try clear hb2); (try clear hk); (try clear hi)))
    have n0_ := Aside0.mk (blk_drew BK1085.out)
    have n1_ := Aside0.mk (blk_drew BK1086.out)
    have n2_ := Aside0.mk (below_drew1 HB.out)
    clear BK1085
    clear BK1086
    clear HB
    have BK1085 := n0_
    have BK1086 := n1_
    have HB := n2_
    clear n0_ n1_ n2_
    refine start_ (n := 9) (S := fun w' => w'.cell? ⟨gb1085, 0, none⟩ = some (.int .u64 a0_0) ∧ w'.cell? ⟨gb1085, 1, none⟩ = some (.int .u64 a0_1)) (ds := []) #[false, false, false, false, false, false, false, false, false] (by kernel_rfl) rfl rfl ⟨(blk_cell BK1085.out 0).trans rfl, (blk_cell BK1085.out 1).trans rfl⟩ (fun hHeld => ?_); refine with_tabW paymasterlaw01_U128Back.tab3 paymasterlaw01_U128Back.bits3 (fun HT_ HW_ => ?_)
    generalize w11.drew = w12 at BK1085 BK1086 HB hHeld ⊢
    refine take_ (i := 1) (N := some 21) (v := ?_) (a' := ?_) #[false, true, false, false, false, false, false, false, false] rfl rfl (take_ofW HT_.out HW_.out (by kernel_rfl)) (fun _ _ _ h => h) (Or.inl ⟨by rfl, ?_⟩) hHeld ?_ ?_
    rotate_left
    · rintro w' ⟨s0, s1⟩
      go_simp
      with_reducible rfl
    rotate_left
    · simp only [Act.put, List.setIfInBounds_toArray, List.set_cons_zero, List.set_cons_succ, i64_w, i32_w]
      rfl
    refine join_ (σ := Nat) 2 #[true, true, true, true, true, true, true, false, false] (fun s_ => [(20, .agg #[.int .u64 t1099, .int .u64 t1100]), (22, .tuple #[.agg #[.int .u64 t1101, .int .u64 t1102], .int .i64 t1103]), (5, .pointer (some ⟨s_, 0, none⟩)), (19, .tuple #[.agg #[.int .u64 t1101, .int .u64 t1102], .int .i64 t1103]), (23, .agg #[.int .u64 t1101, .int .u64 t1102]), (24, .int .i64 t1103)]) (fun s_ w' => (w'.cell? ⟨gb1085, 0, none⟩ = some (.int .u64 a0_0) ∧ w'.cell? ⟨gb1085, 1, none⟩ = some (.int .u64 a0_1)) ∧ (w'.heap[gb1085]? = some (.cells #[.int .u64 a0_0, .int .u64 a0_1] 25 (0, 0))) ∧ (w'.heap[gb1086]? = some (.cells #[.int .u64 a1_0, .int .u64 a1_1] 25 (0, 0))) ∧ (w'.heap[s_]? = some (.cells #[.int .u64 0, .int .u64 0] 25 (0, 0))) ∧ (w.heap.size ≤ s_) ∧ (w.heap.size ≤ s_) ∧ (gb1085 ≠ s_) ∧ (s_ ≠ gb1085) ∧ (gb1086 ≠ s_) ∧ (s_ ≠ gb1086) ∧ (Below w.heap.size w w')) ?_ ?_
    rotate_left
    · intro hCont
      refine two_ (i := 0) (j := 6) (Ni := some 20) (Nj := some 5) #[true, true, false, false, false, false, false, false, false] #[false, true, false, false, false, false, true, false, false] rfl rfl rfl rfl (two_of HT_.out (by kernel_rfl)) (by decide) (by decide) (fun K hK => ?_) (fun K hK => ?_)
      · skip
        refine goes_ Try.func53 (by kernel_rfl) rfl #[] (by rfl) rfl rfl (by (try simp only [List.map_toArray, List.map_cons, List.map_nil]); first | done | rfl | (simp only [List.length_drop, List.length_take]; rfl)) ?_
        with_reducible refine (u128_Most.calls  t1099 t1100 _ A5.out).mono ?_
        rintro e w13 ⟨rfl, hb⟩
        refine ⟨_, rfl, ?_⟩
        have n0_ := Aside0.mk (blk_below (g := gb1085) (o := .cells #[.int .u64 a0_0, .int .u64 a0_1] 25 (0, 0)) (by (with_reducible repeat (first | refine blk_drewN ?_ _ | refine blk_drew ?_ | refine blk_alloc ?_ _)); exact BK1085.out) hb)
        have n1_ := Aside0.mk (blk_below (g := gb1086) (o := .cells #[.int .u64 a1_0, .int .u64 a1_1] 25 (0, 0)) (by (with_reducible repeat (first | refine blk_drewN ?_ _ | refine blk_drew ?_ | refine blk_alloc ?_ _)); exact BK1086.out) hb)
        have n2_ := Aside0.mk (below_step (by repeat (first | (with_reducible first | exact HB.out | apply below_alloc | apply pw_below_drewN | apply below_drew1 | refine below_set ?_ GE1085.out | refine below_set ?_ GE1086.out) | exact HB.out)) hb)
        clear BK1085
        clear BK1086
        clear HB
        have BK1085 := n0_
        have BK1086 := n1_
        have HB := n2_
        clear n0_ n1_ n2_
        (try clear hb)
        (try clear hb2)
        (try clear hk)
        (try clear hi)
        refine hK.out _ _ ⟨(blk_cell BK1085.out 0).trans rfl, (blk_cell BK1085.out 1).trans rfl⟩ (fun hHeld => ?_)
        clear hK K
        refine norm_ (a' := ?_) ?_ ?_
        rotate_left
        · show Act.put _ (some 20) _ = _
          simp only [Act.put, List.setIfInBounds_toArray, List.set_cons_zero, List.set_cons_succ, i64_w, i32_w]
          rfl
        refine two_ (i := 2) (j := 6) (Ni := some 22) (Nj := some 5) #[true, true, true, false, false, false, false, false, false] #[true, true, false, false, false, false, true, false, false] rfl rfl rfl rfl (two_of HT_.out (by kernel_rfl)) (by decide) (by decide) (fun K hK => ?_) (fun K hK => ?_)
        · skip
          refine goes_ Try.func47 (by kernel_rfl) rfl #[.agg #[.int .u64 t1099, .int .u64 t1100], .agg #[.int .u64 a0_0, .int .u64 a0_1]] (by rfl) rfl rfl (by (try simp only [List.map_toArray, List.map_cons, List.map_nil]); first | done | rfl | (simp only [List.length_drop, List.length_take]; rfl)) ?_
          with_reducible refine (u128_Sub.calls t1099 t1100 a0_0 a0_1 t1101 t1102 t1103 _ A6.out).mono ?_
          rintro e w14 ⟨rfl, hb⟩
          refine ⟨_, rfl, ?_⟩
          have n0_ := Aside0.mk (blk_below (g := gb1085) (o := .cells #[.int .u64 a0_0, .int .u64 a0_1] 25 (0, 0)) (by (with_reducible repeat (first | refine blk_drewN ?_ _ | refine blk_drew ?_ | refine blk_alloc ?_ _)); exact BK1085.out) hb)
          have n1_ := Aside0.mk (blk_below (g := gb1086) (o := .cells #[.int .u64 a1_0, .int .u64 a1_1] 25 (0, 0)) (by (with_reducible repeat (first | refine blk_drewN ?_ _ | refine blk_drew ?_ | refine blk_alloc ?_ _)); exact BK1086.out) hb)
          have n2_ := Aside0.mk (below_step (by repeat (first | (with_reducible first | exact HB.out | apply below_alloc | apply pw_below_drewN | apply below_drew1 | refine below_set ?_ GE1085.out | refine below_set ?_ GE1086.out) | exact HB.out)) hb)
          clear BK1085
          clear BK1086
          clear HB
          have BK1085 := n0_
          have BK1086 := n1_
          have HB := n2_
          clear n0_ n1_ n2_
          (try clear hb)
          (try clear hb2)
          (try clear hk)
          (try clear hi)
          refine hK.out _ _ ⟨(blk_cell BK1085.out 0).trans rfl, (blk_cell BK1085.out 1).trans rfl⟩ (fun hHeld => ?_)
          clear hK K
          refine norm_ (a' := ?_) ?_ ?_
          rotate_left
          · show Act.put _ (some 22) _ = _
            simp only [Act.put, List.setIfInBounds_toArray, List.set_cons_zero, List.set_cons_succ, i64_w, i32_w]
            rfl
          refine pure_ (i := 3) (N := some 19) (v := ?_) (a' := ?_) #[true, true, true, true, false, false, false, false, false] rfl rfl (any_of HT_.out (by kernel_rfl)) (fun _ _ _ h => h) (Or.inl ⟨by rfl, ?_⟩) ?_ ?_
          rotate_left
          · intro w'
            go_simp
            with_reducible rfl
          rotate_left
          · simp only [Act.put, List.setIfInBounds_toArray, List.set_cons_zero, List.set_cons_succ, i64_w, i32_w]
            rfl
          refine pure_ (i := 4) (N := some 23) (v := ?_) (a' := ?_) #[true, true, true, true, true, false, false, false, false] rfl rfl (any_of HT_.out (by kernel_rfl)) (fun _ _ _ h => h) (Or.inl ⟨by rfl, ?_⟩) ?_ ?_
          rotate_left
          · intro w'
            go_simp
            with_reducible rfl
          rotate_left
          · simp only [Act.put, List.setIfInBounds_toArray, List.set_cons_zero, List.set_cons_succ, i64_w, i32_w]
            rfl
          refine pure_ (i := 5) (N := some 24) (v := ?_) (a' := ?_) #[true, true, true, true, true, true, false, false, false] rfl rfl (any_of HT_.out (by kernel_rfl)) (fun _ _ _ h => h) (Or.inl ⟨by rfl, ?_⟩) ?_ ?_
          rotate_left
          · intro w'
            go_simp
            with_reducible rfl
          rotate_left
          · simp only [Act.put, List.setIfInBounds_toArray, List.set_cons_zero, List.set_cons_succ, i64_w, i32_w]
            rfl
          refine one_ (i := 6) (N := some 5) #[true, true, true, true, true, true, true, false, false] rfl rfl (one_of HT_.out (by kernel_rfl)) (by decide) (fun K hK => ?_)
          refine box_step ?hg (N := 5) ?hd (cs := #[.int .u64 0, .int .u64 0]) (t := 25) ?hr ?_; (case hd => rfl); (case hg => rfl); (case hr => first | (go_simp; done) | (go_simp; rfl))
          intro gb1104 hg w15 hbox hb
          have n0_ := Aside0.mk (blk_below (g := gb1085) (o := .cells #[.int .u64 a0_0, .int .u64 a0_1] 25 (0, 0)) (by (with_reducible repeat (first | refine blk_drewN ?_ _ | refine blk_drew ?_ | refine blk_alloc ?_ _)); exact BK1085.out) hb)
          have n1_ := Aside0.mk (blk_below (g := gb1086) (o := .cells #[.int .u64 a1_0, .int .u64 a1_1] 25 (0, 0)) (by (with_reducible repeat (first | refine blk_drewN ?_ _ | refine blk_drew ?_ | refine blk_alloc ?_ _)); exact BK1086.out) hb)
          have n2_ := Aside0.mk (below_step (by repeat (first | (with_reducible first | exact HB.out | apply below_alloc | apply pw_below_drewN | apply below_drew1 | refine below_set ?_ GE1085.out | refine below_set ?_ GE1086.out) | exact HB.out)) hb)
          have n3_ := Aside0.mk (hbox)
          have n4_ := Aside0.mk ((by rw [hg]; exact (below_size (by repeat (first | (with_reducible first | exact HB.out | apply below_alloc | apply pw_below_drewN | apply below_drew1 | refine below_set ?_ GE1085.out | refine below_set ?_ GE1086.out) | exact HB.out))) : w.heap.size ≤ gb1104))
          have n5_ := Aside0.mk ((by rw [hg]; exact (below_size (by repeat (first | (with_reducible first | exact HB.out | apply below_alloc | apply pw_below_drewN | apply below_drew1 | refine below_set ?_ GE1085.out | refine below_set ?_ GE1086.out) | exact HB.out))) : w.heap.size ≤ gb1104))
          have n6_ := Aside0.mk ((by rw [hg]; exact Nat.ne_of_lt (blk_lt (g := gb1085) (o := .cells #[.int .u64 a0_0, .int .u64 a0_1] 25 (0, 0)) (by (with_reducible repeat (first | refine blk_drewN ?_ _ | refine blk_drew ?_ | refine blk_alloc ?_ _)); exact BK1085.out)) : gb1085 ≠ gb1104))
          have n7_ := Aside0.mk ((by rw [hg]; exact Nat.ne_of_gt (blk_lt (g := gb1085) (o := .cells #[.int .u64 a0_0, .int .u64 a0_1] 25 (0, 0)) (by (with_reducible repeat (first | refine blk_drewN ?_ _ | refine blk_drew ?_ | refine blk_alloc ?_ _)); exact BK1085.out)) : gb1104 ≠ gb1085))
          have n8_ := Aside0.mk ((by rw [hg]; exact Nat.ne_of_lt (blk_lt (g := gb1086) (o := .cells #[.int .u64 a1_0, .int .u64 a1_1] 25 (0, 0)) (by (with_reducible repeat (first | refine blk_drewN ?_ _ | refine blk_drew ?_ | refine blk_alloc ?_ _)); exact BK1086.out)) : gb1086 ≠ gb1104))
          have n9_ := Aside0.mk ((by rw [hg]; exact Nat.ne_of_gt (blk_lt (g := gb1086) (o := .cells #[.int .u64 a1_0, .int .u64 a1_1] 25 (0, 0)) (by (with_reducible repeat (first | refine blk_drewN ?_ _ | refine blk_drew ?_ | refine blk_alloc ?_ _)); exact BK1086.out)) : gb1104 ≠ gb1086))
          clear BK1085
          clear BK1086
          clear HB
          have BK1085 := n0_
          have BK1086 := n1_
          have HB := n2_
          have BK1104 := n3_
          have GW1104 := n4_
          have GE1104 := n5_
          have NB1085_1104 := n6_
          have NB1104_1085 := n7_
          have NB1086_1104 := n8_
          have NB1104_1086 := n9_
          clear n0_ n1_ n2_ n3_ n4_ n5_ n6_ n7_ n8_ n9_
          clear hb hbox hg
          refine hK.out _ _ ⟨(blk_cell BK1085.out 0).trans rfl, (blk_cell BK1085.out 1).trans rfl⟩ (fun hHeld => ?_)
          clear hK K
          refine norm_ (a' := ?_) ?_ ?_
          rotate_left
          · show Act.put _ (some 5) _ = _
            simp only [Act.put, List.setIfInBounds_toArray, List.set_cons_zero, List.set_cons_succ, i64_w, i32_w]
            rfl
          exact norm_ (by simp only [putAll, Act.put, List.setIfInBounds_toArray, List.set_cons_zero, List.set_cons_succ]) (hCont (gb1104) _ ⟨hHeld, (by (with_reducible repeat (first | refine blk_drewN ?_ _ | refine blk_drew ?_ | refine blk_alloc ?_ _)); exact BK1085.out), (by (with_reducible repeat (first | refine blk_drewN ?_ _ | refine blk_drew ?_ | refine blk_alloc ?_ _)); exact BK1086.out), (by (with_reducible repeat (first | refine blk_drewN ?_ _ | refine blk_drew ?_ | refine blk_alloc ?_ _)); exact BK1104.out), GW1104.out, GE1104.out, NB1085_1104.out, NB1104_1085.out, NB1086_1104.out, NB1104_1086.out, (by repeat (first | (with_reducible first | exact HB.out | apply below_alloc | apply pw_below_drewN | apply below_drew1 | refine below_set ?_ GE1085.out | refine below_set ?_ GE1086.out | refine below_set ?_ GE1104.out) | exact HB.out))⟩)
        · skip
          refine box_step ?hg (N := 5) ?hd (cs := #[.int .u64 0, .int .u64 0]) (t := 25) ?hr ?_; (case hd => rfl); (case hg => rfl); (case hr => first | (go_simp; done) | (go_simp; rfl))
          intro gb1104 hg w14 hbox hb
          have n0_ := Aside0.mk (blk_below (g := gb1085) (o := .cells #[.int .u64 a0_0, .int .u64 a0_1] 25 (0, 0)) (by (with_reducible repeat (first | refine blk_drewN ?_ _ | refine blk_drew ?_ | refine blk_alloc ?_ _)); exact BK1085.out) hb)
          have n1_ := Aside0.mk (blk_below (g := gb1086) (o := .cells #[.int .u64 a1_0, .int .u64 a1_1] 25 (0, 0)) (by (with_reducible repeat (first | refine blk_drewN ?_ _ | refine blk_drew ?_ | refine blk_alloc ?_ _)); exact BK1086.out) hb)
          have n2_ := Aside0.mk (below_step (by repeat (first | (with_reducible first | exact HB.out | apply below_alloc | apply pw_below_drewN | apply below_drew1 | refine below_set ?_ GE1085.out | refine below_set ?_ GE1086.out) | exact HB.out)) hb)
          have n3_ := Aside0.mk (hbox)
          have n4_ := Aside0.mk ((by rw [hg]; exact (below_size (by repeat (first | (with_reducible first | exact HB.out | apply below_alloc | apply pw_below_drewN | apply below_drew1 | refine below_set ?_ GE1085.out | refine below_set ?_ GE1086.out) | exact HB.out))) : w.heap.size ≤ gb1104))
          have n5_ := Aside0.mk ((by rw [hg]; exact (below_size (by repeat (first | (with_reducible first | exact HB.out | apply below_alloc | apply pw_below_drewN | apply below_drew1 | refine below_set ?_ GE1085.out | refine below_set ?_ GE1086.out) | exact HB.out))) : w.heap.size ≤ gb1104))
          have n6_ := Aside0.mk ((by rw [hg]; exact Nat.ne_of_lt (blk_lt (g := gb1085) (o := .cells #[.int .u64 a0_0, .int .u64 a0_1] 25 (0, 0)) (by (with_reducible repeat (first | refine blk_drewN ?_ _ | refine blk_drew ?_ | refine blk_alloc ?_ _)); exact BK1085.out)) : gb1085 ≠ gb1104))
          have n7_ := Aside0.mk ((by rw [hg]; exact Nat.ne_of_gt (blk_lt (g := gb1085) (o := .cells #[.int .u64 a0_0, .int .u64 a0_1] 25 (0, 0)) (by (with_reducible repeat (first | refine blk_drewN ?_ _ | refine blk_drew ?_ | refine blk_alloc ?_ _)); exact BK1085.out)) : gb1104 ≠ gb1085))
          have n8_ := Aside0.mk ((by rw [hg]; exact Nat.ne_of_lt (blk_lt (g := gb1086) (o := .cells #[.int .u64 a1_0, .int .u64 a1_1] 25 (0, 0)) (by (with_reducible repeat (first | refine blk_drewN ?_ _ | refine blk_drew ?_ | refine blk_alloc ?_ _)); exact BK1086.out)) : gb1086 ≠ gb1104))
          have n9_ := Aside0.mk ((by rw [hg]; exact Nat.ne_of_gt (blk_lt (g := gb1086) (o := .cells #[.int .u64 a1_0, .int .u64 a1_1] 25 (0, 0)) (by (with_reducible repeat (first | refine blk_drewN ?_ _ | refine blk_drew ?_ | refine blk_alloc ?_ _)); exact BK1086.out)) : gb1104 ≠ gb1086))
          clear BK1085
          clear BK1086
          clear HB
          have BK1085 := n0_
          have BK1086 := n1_
          have HB := n2_
          have BK1104 := n3_
          have GW1104 := n4_
          have GE1104 := n5_
          have NB1085_1104 := n6_
          have NB1104_1085 := n7_
          have NB1086_1104 := n8_
          have NB1104_1086 := n9_
          clear n0_ n1_ n2_ n3_ n4_ n5_ n6_ n7_ n8_ n9_
          clear hb hbox hg
          refine hK.out _ _ ⟨(blk_cell BK1085.out 0).trans rfl, (blk_cell BK1085.out 1).trans rfl⟩ (fun hHeld => ?_)
          clear hK K
          refine norm_ (a' := ?_) ?_ ?_
          rotate_left
          · show Act.put _ (some 5) _ = _
            simp only [Act.put, List.setIfInBounds_toArray, List.set_cons_zero, List.set_cons_succ, i64_w, i32_w]
            rfl
          refine one_ (i := 2) (N := some 22) #[true, true, true, false, false, false, true, false, false] rfl rfl (one_of HT_.out (by kernel_rfl)) (by decide) (fun K hK => ?_)
          refine goes_ Try.func47 (by kernel_rfl) rfl #[.agg #[.int .u64 t1099, .int .u64 t1100], .agg #[.int .u64 a0_0, .int .u64 a0_1]] (by rfl) rfl rfl (by (try simp only [List.map_toArray, List.map_cons, List.map_nil]); first | done | rfl | (simp only [List.length_drop, List.length_take]; rfl)) ?_
          with_reducible refine (u128_Sub.calls t1099 t1100 a0_0 a0_1 t1101 t1102 t1103 _ A6.out).mono ?_
          rintro e w15 ⟨rfl, hb⟩
          refine ⟨_, rfl, ?_⟩
          have n0_ := Aside0.mk (blk_below (g := gb1085) (o := .cells #[.int .u64 a0_0, .int .u64 a0_1] 25 (0, 0)) (by (with_reducible repeat (first | refine blk_drewN ?_ _ | refine blk_drew ?_ | refine blk_alloc ?_ _)); exact BK1085.out) hb)
          have n1_ := Aside0.mk (blk_below (g := gb1086) (o := .cells #[.int .u64 a1_0, .int .u64 a1_1] 25 (0, 0)) (by (with_reducible repeat (first | refine blk_drewN ?_ _ | refine blk_drew ?_ | refine blk_alloc ?_ _)); exact BK1086.out) hb)
          have n2_ := Aside0.mk (blk_below (g := gb1104) (o := .cells #[.int .u64 0, .int .u64 0] 25 (0, 0)) (by (with_reducible repeat (first | refine blk_drewN ?_ _ | refine blk_drew ?_ | refine blk_alloc ?_ _)); exact BK1104.out) hb)
          have n3_ := Aside0.mk (below_step (by repeat (first | (with_reducible first | exact HB.out | apply below_alloc | apply pw_below_drewN | apply below_drew1 | refine below_set ?_ GE1085.out | refine below_set ?_ GE1086.out | refine below_set ?_ GE1104.out) | exact HB.out)) hb)
          clear BK1085
          clear BK1086
          clear BK1104
          clear HB
          have BK1085 := n0_
          have BK1086 := n1_
          have BK1104 := n2_
          have HB := n3_
          clear n0_ n1_ n2_ n3_
          (try clear hb)
          (try clear hb2)
          (try clear hk)
          (try clear hi)
          refine hK.out _ _ ⟨(blk_cell BK1085.out 0).trans rfl, (blk_cell BK1085.out 1).trans rfl⟩ (fun hHeld => ?_)
          clear hK K
          refine norm_ (a' := ?_) ?_ ?_
          rotate_left
          · show Act.put _ (some 22) _ = _
            simp only [Act.put, List.setIfInBounds_toArray, List.set_cons_zero, List.set_cons_succ, i64_w, i32_w]
            rfl
          refine pure_ (i := 3) (N := some 19) (v := ?_) (a' := ?_) #[true, true, true, true, false, false, true, false, false] rfl rfl (any_of HT_.out (by kernel_rfl)) (fun _ _ _ h => h) (Or.inl ⟨by rfl, ?_⟩) ?_ ?_
          rotate_left
          · intro w'
            go_simp
            with_reducible rfl
          rotate_left
          · simp only [Act.put, List.setIfInBounds_toArray, List.set_cons_zero, List.set_cons_succ, i64_w, i32_w]
            rfl
          refine pure_ (i := 4) (N := some 23) (v := ?_) (a' := ?_) #[true, true, true, true, true, false, true, false, false] rfl rfl (any_of HT_.out (by kernel_rfl)) (fun _ _ _ h => h) (Or.inl ⟨by rfl, ?_⟩) ?_ ?_
          rotate_left
          · intro w'
            go_simp
            with_reducible rfl
          rotate_left
          · simp only [Act.put, List.setIfInBounds_toArray, List.set_cons_zero, List.set_cons_succ, i64_w, i32_w]
            rfl
          refine pure_ (i := 5) (N := some 24) (v := ?_) (a' := ?_) #[true, true, true, true, true, true, true, false, false] rfl rfl (any_of HT_.out (by kernel_rfl)) (fun _ _ _ h => h) (Or.inl ⟨by rfl, ?_⟩) ?_ ?_
          rotate_left
          · intro w'
            go_simp
            with_reducible rfl
          rotate_left
          · simp only [Act.put, List.setIfInBounds_toArray, List.set_cons_zero, List.set_cons_succ, i64_w, i32_w]
            rfl
          exact norm_ (by simp only [putAll, Act.put, List.setIfInBounds_toArray, List.set_cons_zero, List.set_cons_succ]) (hCont (gb1104) _ ⟨hHeld, (by (with_reducible repeat (first | refine blk_drewN ?_ _ | refine blk_drew ?_ | refine blk_alloc ?_ _)); exact BK1085.out), (by (with_reducible repeat (first | refine blk_drewN ?_ _ | refine blk_drew ?_ | refine blk_alloc ?_ _)); exact BK1086.out), (by (with_reducible repeat (first | refine blk_drewN ?_ _ | refine blk_drew ?_ | refine blk_alloc ?_ _)); exact BK1104.out), GW1104.out, GE1104.out, NB1085_1104.out, NB1104_1085.out, NB1086_1104.out, NB1104_1086.out, (by repeat (first | (with_reducible first | exact HB.out | apply below_alloc | apply pw_below_drewN | apply below_drew1 | refine below_set ?_ GE1085.out | refine below_set ?_ GE1086.out | refine below_set ?_ GE1104.out) | exact HB.out))⟩)
      · skip
        refine box_step ?hg (N := 5) ?hd (cs := #[.int .u64 0, .int .u64 0]) (t := 25) ?hr ?_; (case hd => rfl); (case hg => rfl); (case hr => first | (go_simp; done) | (go_simp; rfl))
        intro gb1104 hg w13 hbox hb
        have n0_ := Aside0.mk (blk_below (g := gb1085) (o := .cells #[.int .u64 a0_0, .int .u64 a0_1] 25 (0, 0)) (by (with_reducible repeat (first | refine blk_drewN ?_ _ | refine blk_drew ?_ | refine blk_alloc ?_ _)); exact BK1085.out) hb)
        have n1_ := Aside0.mk (blk_below (g := gb1086) (o := .cells #[.int .u64 a1_0, .int .u64 a1_1] 25 (0, 0)) (by (with_reducible repeat (first | refine blk_drewN ?_ _ | refine blk_drew ?_ | refine blk_alloc ?_ _)); exact BK1086.out) hb)
        have n2_ := Aside0.mk (below_step (by repeat (first | (with_reducible first | exact HB.out | apply below_alloc | apply pw_below_drewN | apply below_drew1 | refine below_set ?_ GE1085.out | refine below_set ?_ GE1086.out) | exact HB.out)) hb)
        have n3_ := Aside0.mk (hbox)
        have n4_ := Aside0.mk ((by rw [hg]; exact (below_size (by repeat (first | (with_reducible first | exact HB.out | apply below_alloc | apply pw_below_drewN | apply below_drew1 | refine below_set ?_ GE1085.out | refine below_set ?_ GE1086.out) | exact HB.out))) : w.heap.size ≤ gb1104))
        have n5_ := Aside0.mk ((by rw [hg]; exact (below_size (by repeat (first | (with_reducible first | exact HB.out | apply below_alloc | apply pw_below_drewN | apply below_drew1 | refine below_set ?_ GE1085.out | refine below_set ?_ GE1086.out) | exact HB.out))) : w.heap.size ≤ gb1104))
        have n6_ := Aside0.mk ((by rw [hg]; exact Nat.ne_of_lt (blk_lt (g := gb1085) (o := .cells #[.int .u64 a0_0, .int .u64 a0_1] 25 (0, 0)) (by (with_reducible repeat (first | refine blk_drewN ?_ _ | refine blk_drew ?_ | refine blk_alloc ?_ _)); exact BK1085.out)) : gb1085 ≠ gb1104))
        have n7_ := Aside0.mk ((by rw [hg]; exact Nat.ne_of_gt (blk_lt (g := gb1085) (o := .cells #[.int .u64 a0_0, .int .u64 a0_1] 25 (0, 0)) (by (with_reducible repeat (first | refine blk_drewN ?_ _ | refine blk_drew ?_ | refine blk_alloc ?_ _)); exact BK1085.out)) : gb1104 ≠ gb1085))
        have n8_ := Aside0.mk ((by rw [hg]; exact Nat.ne_of_lt (blk_lt (g := gb1086) (o := .cells #[.int .u64 a1_0, .int .u64 a1_1] 25 (0, 0)) (by (with_reducible repeat (first | refine blk_drewN ?_ _ | refine blk_drew ?_ | refine blk_alloc ?_ _)); exact BK1086.out)) : gb1086 ≠ gb1104))
        have n9_ := Aside0.mk ((by rw [hg]; exact Nat.ne_of_gt (blk_lt (g := gb1086) (o := .cells #[.int .u64 a1_0, .int .u64 a1_1] 25 (0, 0)) (by (with_reducible repeat (first | refine blk_drewN ?_ _ | refine blk_drew ?_ | refine blk_alloc ?_ _)); exact BK1086.out)) : gb1104 ≠ gb1086))
        clear BK1085
        clear BK1086
        clear HB
        have BK1085 := n0_
        have BK1086 := n1_
        have HB := n2_
        have BK1104 := n3_
        have GW1104 := n4_
        have GE1104 := n5_
        have NB1085_1104 := n6_
        have NB1104_1085 := n7_
        have NB1086_1104 := n8_
        have NB1104_1086 := n9_
        clear n0_ n1_ n2_ n3_ n4_ n5_ n6_ n7_ n8_ n9_
        clear hb hbox hg
        refine hK.out _ _ ⟨(blk_cell BK1085.out 0).trans rfl, (blk_cell BK1085.out 1).trans rfl⟩ (fun hHeld => ?_)
        clear hK K
        refine norm_ (a' := ?_) ?_ ?_
        rotate_left
        · show Act.put _ (some 5) _ = _
          simp only [Act.put, List.setIfInBounds_toArray, List.set_cons_zero, List.set_cons_succ, i64_w, i32_w]
          rfl
        refine one_ (i := 0) (N := some 20) #[true, true, false, false, false, false, true, false, false] rfl rfl (one_of HT_.out (by kernel_rfl)) (by decide) (fun K hK => ?_)
        refine goes_ Try.func53 (by kernel_rfl) rfl #[] (by rfl) rfl rfl (by (try simp only [List.map_toArray, List.map_cons, List.map_nil]); first | done | rfl | (simp only [List.length_drop, List.length_take]; rfl)) ?_
        with_reducible refine (u128_Most.calls  t1099 t1100 _ A5.out).mono ?_
        rintro e w14 ⟨rfl, hb⟩
        refine ⟨_, rfl, ?_⟩
        have n0_ := Aside0.mk (blk_below (g := gb1085) (o := .cells #[.int .u64 a0_0, .int .u64 a0_1] 25 (0, 0)) (by (with_reducible repeat (first | refine blk_drewN ?_ _ | refine blk_drew ?_ | refine blk_alloc ?_ _)); exact BK1085.out) hb)
        have n1_ := Aside0.mk (blk_below (g := gb1086) (o := .cells #[.int .u64 a1_0, .int .u64 a1_1] 25 (0, 0)) (by (with_reducible repeat (first | refine blk_drewN ?_ _ | refine blk_drew ?_ | refine blk_alloc ?_ _)); exact BK1086.out) hb)
        have n2_ := Aside0.mk (blk_below (g := gb1104) (o := .cells #[.int .u64 0, .int .u64 0] 25 (0, 0)) (by (with_reducible repeat (first | refine blk_drewN ?_ _ | refine blk_drew ?_ | refine blk_alloc ?_ _)); exact BK1104.out) hb)
        have n3_ := Aside0.mk (below_step (by repeat (first | (with_reducible first | exact HB.out | apply below_alloc | apply pw_below_drewN | apply below_drew1 | refine below_set ?_ GE1085.out | refine below_set ?_ GE1086.out | refine below_set ?_ GE1104.out) | exact HB.out)) hb)
        clear BK1085
        clear BK1086
        clear BK1104
        clear HB
        have BK1085 := n0_
        have BK1086 := n1_
        have BK1104 := n2_
        have HB := n3_
        clear n0_ n1_ n2_ n3_
        (try clear hb)
        (try clear hb2)
        (try clear hk)
        (try clear hi)
        refine hK.out _ _ ⟨(blk_cell BK1085.out 0).trans rfl, (blk_cell BK1085.out 1).trans rfl⟩ (fun hHeld => ?_)
        clear hK K
        refine norm_ (a' := ?_) ?_ ?_
        rotate_left
        · show Act.put _ (some 20) _ = _
          simp only [Act.put, List.setIfInBounds_toArray, List.set_cons_zero, List.set_cons_succ, i64_w, i32_w]
          rfl
        refine one_ (i := 2) (N := some 22) #[true, true, true, false, false, false, true, false, false] rfl rfl (one_of HT_.out (by kernel_rfl)) (by decide) (fun K hK => ?_)
        refine goes_ Try.func47 (by kernel_rfl) rfl #[.agg #[.int .u64 t1099, .int .u64 t1100], .agg #[.int .u64 a0_0, .int .u64 a0_1]] (by rfl) rfl rfl (by (try simp only [List.map_toArray, List.map_cons, List.map_nil]); first | done | rfl | (simp only [List.length_drop, List.length_take]; rfl)) ?_
        with_reducible refine (u128_Sub.calls t1099 t1100 a0_0 a0_1 t1101 t1102 t1103 _ A6.out).mono ?_
        rintro e w15 ⟨rfl, hb⟩
        refine ⟨_, rfl, ?_⟩
        have n0_ := Aside0.mk (blk_below (g := gb1085) (o := .cells #[.int .u64 a0_0, .int .u64 a0_1] 25 (0, 0)) (by (with_reducible repeat (first | refine blk_drewN ?_ _ | refine blk_drew ?_ | refine blk_alloc ?_ _)); exact BK1085.out) hb)
        have n1_ := Aside0.mk (blk_below (g := gb1086) (o := .cells #[.int .u64 a1_0, .int .u64 a1_1] 25 (0, 0)) (by (with_reducible repeat (first | refine blk_drewN ?_ _ | refine blk_drew ?_ | refine blk_alloc ?_ _)); exact BK1086.out) hb)
        have n2_ := Aside0.mk (blk_below (g := gb1104) (o := .cells #[.int .u64 0, .int .u64 0] 25 (0, 0)) (by (with_reducible repeat (first | refine blk_drewN ?_ _ | refine blk_drew ?_ | refine blk_alloc ?_ _)); exact BK1104.out) hb)
        have n3_ := Aside0.mk (below_step (by repeat (first | (with_reducible first | exact HB.out | apply below_alloc | apply pw_below_drewN | apply below_drew1 | refine below_set ?_ GE1085.out | refine below_set ?_ GE1086.out | refine below_set ?_ GE1104.out) | exact HB.out)) hb)
        clear BK1085
        clear BK1086
        clear BK1104
        clear HB
        have BK1085 := n0_
        have BK1086 := n1_
        have BK1104 := n2_
        have HB := n3_
        clear n0_ n1_ n2_ n3_
        (try clear hb)
        (try clear hb2)
        (try clear hk)
        (try clear hi)
        refine hK.out _ _ ⟨(blk_cell BK1085.out 0).trans rfl, (blk_cell BK1085.out 1).trans rfl⟩ (fun hHeld => ?_)
        clear hK K
        refine norm_ (a' := ?_) ?_ ?_
        rotate_left
        · show Act.put _ (some 22) _ = _
          simp only [Act.put, List.setIfInBounds_toArray, List.set_cons_zero, List.set_cons_succ, i64_w, i32_w]
          rfl
        refine pure_ (i := 3) (N := some 19) (v := ?_) (a' := ?_) #[true, true, true, true, false, false, true, false, false] rfl rfl (any_of HT_.out (by kernel_rfl)) (fun _ _ _ h => h) (Or.inl ⟨by rfl, ?_⟩) ?_ ?_
        rotate_left
        · intro w'
          go_simp
          with_reducible rfl
        rotate_left
        · simp only [Act.put, List.setIfInBounds_toArray, List.set_cons_zero, List.set_cons_succ, i64_w, i32_w]
          rfl
        refine pure_ (i := 4) (N := some 23) (v := ?_) (a' := ?_) #[true, true, true, true, true, false, true, false, false] rfl rfl (any_of HT_.out (by kernel_rfl)) (fun _ _ _ h => h) (Or.inl ⟨by rfl, ?_⟩) ?_ ?_
        rotate_left
        · intro w'
          go_simp
          with_reducible rfl
        rotate_left
        · simp only [Act.put, List.setIfInBounds_toArray, List.set_cons_zero, List.set_cons_succ, i64_w, i32_w]
          rfl
        refine pure_ (i := 5) (N := some 24) (v := ?_) (a' := ?_) #[true, true, true, true, true, true, true, false, false] rfl rfl (any_of HT_.out (by kernel_rfl)) (fun _ _ _ h => h) (Or.inl ⟨by rfl, ?_⟩) ?_ ?_
        rotate_left
        · intro w'
          go_simp
          with_reducible rfl
        rotate_left
        · simp only [Act.put, List.setIfInBounds_toArray, List.set_cons_zero, List.set_cons_succ, i64_w, i32_w]
          rfl
        exact norm_ (by simp only [putAll, Act.put, List.setIfInBounds_toArray, List.set_cons_zero, List.set_cons_succ]) (hCont (gb1104) _ ⟨hHeld, (by (with_reducible repeat (first | refine blk_drewN ?_ _ | refine blk_drew ?_ | refine blk_alloc ?_ _)); exact BK1085.out), (by (with_reducible repeat (first | refine blk_drewN ?_ _ | refine blk_drew ?_ | refine blk_alloc ?_ _)); exact BK1086.out), (by (with_reducible repeat (first | refine blk_drewN ?_ _ | refine blk_drew ?_ | refine blk_alloc ?_ _)); exact BK1104.out), GW1104.out, GE1104.out, NB1085_1104.out, NB1104_1085.out, NB1086_1104.out, NB1104_1086.out, (by repeat (first | (with_reducible first | exact HB.out | apply below_alloc | apply pw_below_drewN | apply below_drew1 | refine below_set ?_ GE1085.out | refine below_set ?_ GE1086.out | refine below_set ?_ GE1104.out) | exact HB.out))⟩)
    rintro gb1104 w16 ⟨hS_, h0_, h1_, h2_, h3_, h4_, h5_, h6_, h7_, h8_, h9_⟩
    have n0_ : Aside0 (w16.heap[gb1085]? = some (.cells #[.int .u64 a0_0, .int .u64 a0_1] 25 (0, 0))) := ⟨h0_⟩
    have n1_ : Aside0 (w16.heap[gb1086]? = some (.cells #[.int .u64 a1_0, .int .u64 a1_1] 25 (0, 0))) := ⟨h1_⟩
    have n2_ : Aside0 (w16.heap[gb1104]? = some (.cells #[.int .u64 0, .int .u64 0] 25 (0, 0))) := ⟨h2_⟩
    have n3_ : Aside0 (w.heap.size ≤ gb1104) := ⟨h3_⟩
    have n4_ : Aside0 (w.heap.size ≤ gb1104) := ⟨h4_⟩
    have n5_ : Aside0 (gb1085 ≠ gb1104) := ⟨h5_⟩
    have n6_ : Aside0 (gb1104 ≠ gb1085) := ⟨h6_⟩
    have n7_ : Aside0 (gb1086 ≠ gb1104) := ⟨h7_⟩
    have n8_ : Aside0 (gb1104 ≠ gb1086) := ⟨h8_⟩
    have n9_ : Aside0 (Below w.heap.size w w16) := ⟨h9_⟩
    clear BK1085
    clear BK1086
    clear HB
    clear h0_ h1_ h2_ h3_ h4_ h5_ h6_ h7_ h8_ h9_
    have BK1085 := n0_
    have BK1086 := n1_
    have BK1104 := n2_
    have GW1104 := n3_
    have GE1104 := n4_
    have NB1085_1104 := n5_
    have NB1104_1085 := n6_
    have NB1086_1104 := n7_
    have NB1104_1086 := n8_
    have HB := n9_
    clear n0_ n1_ n2_ n3_ n4_ n5_ n6_ n7_ n8_ n9_
    have hHeld : w16.cell? ⟨gb1085, 0, none⟩ = some (.int .u64 a0_0) ∧ w16.cell? ⟨gb1085, 1, none⟩ = some (.int .u64 a0_1) := hS_
    refine norm_ (a' := ?_) ?_ ?_
    rotate_left
    · simp only [putAll, Act.put, List.setIfInBounds_toArray, List.set_cons_zero, List.set_cons_succ]
      rfl
    refine one_ (i := 7) (N := none) #[true, true, true, true, true, true, true, true, false] rfl rfl (one_of HT_.out (by kernel_rfl)) (by decide) (fun K hK => ?_)
    have hs17 : w16.cell? ⟨gb1104, 0, none⟩ = some (.int .u64 0) := (blk_cell BK1104.out 0).trans rfl
    have hfs17 := blk_frozen BK1104.out 0
    have hns17_0 := NB1085_1104.out
    have hns17_1 := NB1086_1104.out
    have hms17_0 := NB1104_1085.out
    have hms17_1 := NB1104_1086.out
    have hs18 : w16.cell? ⟨gb1104, 1, none⟩ = some (.int .u64 0) := (blk_cell BK1104.out 1).trans rfl
    have hfs18 := blk_frozen BK1104.out 1
    have hns18_0 := NB1085_1104.out
    have hns18_1 := NB1086_1104.out
    have hms18_0 := NB1104_1085.out
    have hms18_1 := NB1104_1086.out
    refine skip_ (w1 := ?_) (by rfl) rfl ?_ ?_
    rotate_left
    · go_simp
      rfl
    refine hK.out _ _ ⟨((cell_far (p := ⟨gb1104, _, none⟩) NB1085_1104.out _).trans (((cell_far (p := ⟨gb1104, _, none⟩) NB1085_1104.out _).trans (hHeld.1)))), ((cell_far (p := ⟨gb1104, _, none⟩) NB1085_1104.out _).trans (((cell_far (p := ⟨gb1104, _, none⟩) NB1085_1104.out _).trans (hHeld.2))))⟩ (fun hHeld => ?_)
    clear hK K
    refine pure_ (i := 8) (N := some 6) (v := ?_) (a' := ?_) #[true, true, true, true, true, true, true, true, true] rfl rfl (any_of HT_.out (by kernel_rfl)) (fun _ _ _ h => h) (Or.inl ⟨by rfl, ?_⟩) ?_ ?_
    rotate_left
    · intro w'
      go_simp
      with_reducible rfl
    rotate_left
    · simp only [Act.put, List.setIfInBounds_toArray, List.set_cons_zero, List.set_cons_succ, i64_w, i32_w]
      rfl
    refine done_ (done_of HT_.out (by kernel_rfl)) ?_
    have hnb19 := NB1085_1086.out
    have hnc19 := NB1086_1085.out
    have hnb20 := NB1085_1104.out
    have hnc20 := NB1104_1085.out
    have hcz21_0 : w16.cell? ⟨gb1085, 0, none⟩ = some (.int .u64 a0_0) := (blk_cell BK1085.out 0).trans rfl
    have hcz21_1 : w16.cell? ⟨gb1085, 1, none⟩ = some (.int .u64 a0_1) := (blk_cell BK1085.out 1).trans rfl
    have hfz21_0 := blk_frozen BK1085.out 0
    have hfz21_1 := blk_frozen BK1085.out 1
    have hnb22 := NB1086_1104.out
    have hnc22 := NB1104_1086.out
    have hcz23_0 : w16.cell? ⟨gb1086, 0, none⟩ = some (.int .u64 a1_0) := (blk_cell BK1086.out 0).trans rfl
    have hcz23_1 : w16.cell? ⟨gb1086, 1, none⟩ = some (.int .u64 a1_1) := (blk_cell BK1086.out 1).trans rfl
    have hfz23_0 := blk_frozen BK1086.out 0
    have hfz23_1 := blk_frozen BK1086.out 1
    go_upto_region 5 with (first | ((with_reducible refine gate_callee (f := 45) rfl ?_); refine goesL_ (some 28) rfl rfl Try.func45 (by kernel_rfl) rfl #[.agg #[.int .u64 a0_0, .int .u64 a0_1], .agg #[.int .u64 a1_0, .int .u64 a1_1]] rfl (by (try simp only [List.map_toArray, List.map_cons, List.map_nil]); first | done | rfl | (simp only [List.length_drop, List.length_take]; rfl)) ?_; (with_reducible refine (u128_Add.calls a0_0 a0_1 a1_0 a1_1 t1105 t1106 t1107 _ A7.out).mono ?_); rintro e w24 ⟨rfl, hb⟩; refine ⟨_, rfl, ?_⟩; have n0_ := Aside0.mk (blk_below (g := gb1085) (o := .cells #[.int .u64 a0_0, .int .u64 a0_1] 25 (0, 0)) (by (with_reducible repeat (first | refine blk_drewN ?_ _ | refine blk_drew ?_ | refine blk_alloc ?_ _)); refine blk_far ?_ NB1085_1104.out _; (with_reducible repeat (first | refine blk_drewN ?_ _ | refine blk_drew ?_ | refine blk_alloc ?_ _)); refine blk_far ?_ NB1085_1104.out _; (with_reducible repeat (first | refine blk_drewN ?_ _ | refine blk_drew ?_ | refine blk_alloc ?_ _)); exact BK1085.out) hb); have n1_ := Aside0.mk (blk_below (g := gb1086) (o := .cells #[.int .u64 a1_0, .int .u64 a1_1] 25 (0, 0)) (by (with_reducible repeat (first | refine blk_drewN ?_ _ | refine blk_drew ?_ | refine blk_alloc ?_ _)); refine blk_far ?_ NB1086_1104.out _; (with_reducible repeat (first | refine blk_drewN ?_ _ | refine blk_drew ?_ | refine blk_alloc ?_ _)); refine blk_far ?_ NB1086_1104.out _; (with_reducible repeat (first | refine blk_drewN ?_ _ | refine blk_drew ?_ | refine blk_alloc ?_ _)); exact BK1086.out) hb); have n2_ := Aside0.mk (blk_below (g := gb1104) (o := .cells #[.int .u64 t1101, .int .u64 t1102] 25 (0, 0)) (by (with_reducible repeat (first | refine blk_drewN ?_ _ | refine blk_drew ?_ | refine blk_alloc ?_ _)); refine blk_put (cs := #[.int .u64 t1101, .int .u64 0]) ?_ 1 _ rfl; (with_reducible repeat (first | refine blk_drewN ?_ _ | refine blk_drew ?_ | refine blk_alloc ?_ _)); refine blk_put (cs := #[.int .u64 0, .int .u64 0]) ?_ 0 _ rfl; (with_reducible repeat (first | refine blk_drewN ?_ _ | refine blk_drew ?_ | refine blk_alloc ?_ _)); exact BK1104.out) hb); have n3_ := Aside0.mk (below_step (by repeat (first | (with_reducible first | exact HB.out | apply below_alloc | apply pw_below_drewN | apply below_drew1 | refine below_set ?_ GE1085.out | refine below_set ?_ GE1086.out | refine below_set ?_ GE1104.out) | exact HB.out)) hb); clear BK1085; clear BK1086; clear BK1104; clear HB; have BK1085 := n0_; have BK1086 := n1_; have BK1104 := n2_; have HB := n3_; clear n0_ n1_ n2_ n3_; (try clear hb); (try clear hb2); (try clear hk); (try clear hi)) | ((with_reducible refine gate_dst (N := 7) rfl ?_); refine box_event ?hg (N := 7) ?hd (cs := #[.int .u64 0, .int .u64 0]) (t := 25) ?hr ?_; (case hd => rfl); (case hg => rfl); (case hr => first | (go_simp; done) | (go_simp; rfl)); intro gb1108 hg w25 hbox hb; have n0_ := Aside0.mk (blk_below (g := gb1085) (o := .cells #[.int .u64 a0_0, .int .u64 a0_1] 25 (0, 0)) (by (with_reducible repeat (first | refine blk_drewN ?_ _ | refine blk_drew ?_ | refine blk_alloc ?_ _)); exact BK1085.out) hb); have n1_ := Aside0.mk (blk_below (g := gb1086) (o := .cells #[.int .u64 a1_0, .int .u64 a1_1] 25 (0, 0)) (by (with_reducible repeat (first | refine blk_drewN ?_ _ | refine blk_drew ?_ | refine blk_alloc ?_ _)); exact BK1086.out) hb); have n2_ := Aside0.mk (blk_below (g := gb1104) (o := .cells #[.int .u64 t1101, .int .u64 t1102] 25 (0, 0)) (by (with_reducible repeat (first | refine blk_drewN ?_ _ | refine blk_drew ?_ | refine blk_alloc ?_ _)); exact BK1104.out) hb); have n3_ := Aside0.mk (below_step (by repeat (first | (with_reducible first | exact HB.out | apply below_alloc | apply pw_below_drewN | apply below_drew1 | refine below_set ?_ GE1085.out | refine below_set ?_ GE1086.out | refine below_set ?_ GE1104.out) | exact HB.out)) hb); have n4_ := Aside0.mk (hbox); have n5_ := Aside0.mk ((by rw [hg]; exact (below_size (by repeat (first | (with_reducible first | exact HB.out | apply below_alloc | apply pw_below_drewN | apply below_drew1 | refine below_set ?_ GE1085.out | refine below_set ?_ GE1086.out | refine below_set ?_ GE1104.out) | exact HB.out))) : w.heap.size ≤ gb1108)); have n6_ := Aside0.mk ((by rw [hg]; exact (below_size (by repeat (first | (with_reducible first | exact HB.out | apply below_alloc | apply pw_below_drewN | apply below_drew1 | refine below_set ?_ GE1085.out | refine below_set ?_ GE1086.out | refine below_set ?_ GE1104.out) | exact HB.out))) : w.heap.size ≤ gb1108)); have n7_ := Aside0.mk ((by rw [hg]; exact Nat.ne_of_lt (blk_lt (g := gb1085) (o := .cells #[.int .u64 a0_0, .int .u64 a0_1] 25 (0, 0)) (by (with_reducible repeat (first | refine blk_drewN ?_ _ | refine blk_drew ?_ | refine blk_alloc ?_ _)); exact BK1085.out)) : gb1085 ≠ gb1108)); have n8_ := Aside0.mk ((by rw [hg]; exact Nat.ne_of_gt (blk_lt (g := gb1085) (o := .cells #[.int .u64 a0_0, .int .u64 a0_1] 25 (0, 0)) (by (with_reducible repeat (first | refine blk_drewN ?_ _ | refine blk_drew ?_ | refine blk_alloc ?_ _)); exact BK1085.out)) : gb1108 ≠ gb1085)); have n9_ := Aside0.mk ((by rw [hg]; exact Nat.ne_of_lt (blk_lt (g := gb1086) (o := .cells #[.int .u64 a1_0, .int .u64 a1_1] 25 (0, 0)) (by (with_reducible repeat (first | refine blk_drewN ?_ _ | refine blk_drew ?_ | refine blk_alloc ?_ _)); exact BK1086.out)) : gb1086 ≠ gb1108)); have n10_ := Aside0.mk ((by rw [hg]; exact Nat.ne_of_gt (blk_lt (g := gb1086) (o := .cells #[.int .u64 a1_0, .int .u64 a1_1] 25 (0, 0)) (by (with_reducible repeat (first | refine blk_drewN ?_ _ | refine blk_drew ?_ | refine blk_alloc ?_ _)); exact BK1086.out)) : gb1108 ≠ gb1086)); have n11_ := Aside0.mk ((by rw [hg]; exact Nat.ne_of_lt (blk_lt (g := gb1104) (o := .cells #[.int .u64 t1101, .int .u64 t1102] 25 (0, 0)) (by (with_reducible repeat (first | refine blk_drewN ?_ _ | refine blk_drew ?_ | refine blk_alloc ?_ _)); exact BK1104.out)) : gb1104 ≠ gb1108)); have n12_ := Aside0.mk ((by rw [hg]; exact Nat.ne_of_gt (blk_lt (g := gb1104) (o := .cells #[.int .u64 t1101, .int .u64 t1102] 25 (0, 0)) (by (with_reducible repeat (first | refine blk_drewN ?_ _ | refine blk_drew ?_ | refine blk_alloc ?_ _)); exact BK1104.out)) : gb1108 ≠ gb1104)); clear BK1085; clear BK1086; clear BK1104; clear HB; have BK1085 := n0_; have BK1086 := n1_; have BK1104 := n2_; have HB := n3_; have BK1108 := n4_; have GW1108 := n5_; have GE1108 := n6_; have NB1085_1108 := n7_; have NB1108_1085 := n8_; have NB1086_1108 := n9_; have NB1108_1086 := n10_; have NB1104_1108 := n11_; have NB1108_1104 := n12_; clear n0_ n1_ n2_ n3_ n4_ n5_ n6_ n7_ n8_ n9_ n10_ n11_ n12_; clear hb hbox hg; have hnb26 := NB1108_1085.out; have hnc26 := NB1085_1108.out; have hnb27 := NB1108_1086.out; have hnc27 := NB1086_1108.out; have hnb28 := NB1108_1104.out; have hnc28 := NB1104_1108.out; have hcz29_0 : w25.cell? ⟨gb1108, 0, none⟩ = some (.int .u64 0) := (blk_cell BK1108.out 0).trans rfl; have hcz29_1 : w25.cell? ⟨gb1108, 1, none⟩ = some (.int .u64 0) := (blk_cell BK1108.out 1).trans rfl; have hfz29_0 := blk_frozen BK1108.out 0; have hfz29_1 := blk_frozen BK1108.out 1))
    (try simp only [Act.put, List.setIfInBounds_toArray, List.set_cons_zero, List.set_cons_succ])
    go_cut [54] (fun v54 wc => ∃ (kq : Nat) (x54_7 : Bool), v54 = .bool x54_7 ∧ Aside0 (paymasterlaw01_U128Back.j0 kq t1107 x54_7 a0_0 a0_1 a1_0 a1_1 t1105 t1106 = some r) ∧ Aside0 (kq ≤ k) ∧ Aside0 (wc.heap[gb1085]? = some (.cells #[.int .u64 a0_0, .int .u64 a0_1] 25 (0, 0))) ∧ Aside0 (wc.heap[gb1086]? = some (.cells #[.int .u64 a1_0, .int .u64 a1_1] 25 (0, 0))) ∧ Aside0 (wc.heap[gb1104]? = some (.cells #[.int .u64 t1101, .int .u64 t1102] 25 (0, 0))) ∧ Aside0 (wc.heap[gb1108]? = some (.cells #[.int .u64 t1105, .int .u64 t1106] 25 (0, 0))) ∧ Aside0 (Below w.heap.size w wc))
    case first =>
      have H := HC8.out
      clear HC8
      by_cases c30 : t1103 = 0
      · rw [if_pos c30] at H
        have c30b0 : (t1103 == 0) = true := beq_iff_eq.mpr c30
        have c30b1 : (t1103 != 0) = false := bne_eq_false_iff_eq.mpr c30
        clear c30
        (first | rw [c30b0] | (simp only [i64_w, i32_w]; rw [c30b0]) | skip)
        replace H := Option.bind_eq_some_iff.mp H
        obtain ⟨t1109, A310, H⟩ := H
        replace H : (if ((t1107 == 0) != (decide (t1109 ≤ 0))) = true then (none) else (if t1107 = 0 then (paymasterlaw01_U128Back.j0 k t1107 false a0_0 a0_1 a1_0 a1_1 t1105 t1106) else (if t1107 = 10 then (paymasterlaw01_U128Back.j0 k t1107 (!(t1105 == 0) || (!(t1106 == 0))) a0_0 a0_1 a1_0 a1_1 t1105 t1106) else (none)))) = some r := H
        have A31 := Aside0.mk A310
        clear A310
        by_cases c32 : ((t1107 == 0) != (decide (t1109 ≤ 0))) = true
        · rw [if_pos c32] at H
          exact absurd H (by simp)
        · rw [if_neg c32] at H
          have c32b0 : ((t1107 == 0) != (decide (t1109 ≤ 0))) = false := by simpa using c32
          (try (have c32b1 : decide ((t1107 == 0) = (decide (t1109 ≤ 0))) = true := by simpa using c32))
          (try (have c32b2 : ((t1107 == 0) == (decide (t1109 ≤ 0))) = true := by simpa using c32))
          clear c32
          by_cases c33 : t1107 = 0
          · rw [if_pos c33] at H
            have c33b0 : (t1107 == 0) = true := beq_iff_eq.mpr c33
            have c32d : (decide (t1109 ≤ 0)) = true := (by have z_ := c32b0; rw [c33b0] at z_; simpa using z_)
            have c33b1 : (t1107 != 0) = false := bne_eq_false_iff_eq.mpr c33
            clear c33
            have H' := Aside0.mk H
            clear H
            have hnb34 := NB1086_1085.out
            have hnc34 := NB1085_1086.out
            have hnb35 := NB1086_1104.out
            have hnc35 := NB1104_1086.out
            have hnb36 := NB1086_1108.out
            have hnc36 := NB1108_1086.out
            have hcz37_0 : w25.cell? ⟨gb1086, 0, none⟩ = some (.int .u64 a1_0) := (blk_cell BK1086.out 0).trans rfl
            have hcz37_1 : w25.cell? ⟨gb1086, 1, none⟩ = some (.int .u64 a1_1) := (blk_cell BK1086.out 1).trans rfl
            have hfz37_0 := blk_frozen BK1086.out 0
            have hfz37_1 := blk_frozen BK1086.out 1
            have hnb38 := NB1104_1085.out
            have hnc38 := NB1085_1104.out
            have hnb39 := NB1104_1108.out
            have hnc39 := NB1108_1104.out
            have hcz40_0 : w25.cell? ⟨gb1104, 0, none⟩ = some (.int .u64 t1101) := (blk_cell BK1104.out 0).trans rfl
            have hcz40_1 : w25.cell? ⟨gb1104, 1, none⟩ = some (.int .u64 t1102) := (blk_cell BK1104.out 1).trans rfl
            have hfz40_0 := blk_frozen BK1104.out 0
            have hfz40_1 := blk_frozen BK1104.out 1
            go_wp2_with (first | (go_at_call 49; (with_reducible refine (u128_Cmp.calls k a1_0 a1_1 t1101 t1102 t1109 _ A31.out).mono ?_); rintro e w41 ⟨rfl, hb⟩; have n0_ := Aside0.mk (blk_below (g := gb1085) (o := .cells #[.int .u64 a0_0, .int .u64 a0_1] 25 (0, 0)) (by (with_reducible repeat (first | refine blk_drewN ?_ _ | refine blk_drew ?_ | refine blk_alloc ?_ _)); refine blk_far ?_ NB1085_1108.out _; (with_reducible repeat (first | refine blk_drewN ?_ _ | refine blk_drew ?_ | refine blk_alloc ?_ _)); refine blk_far ?_ NB1085_1108.out _; (with_reducible repeat (first | refine blk_drewN ?_ _ | refine blk_drew ?_ | refine blk_alloc ?_ _)); exact BK1085.out) hb); have n1_ := Aside0.mk (blk_below (g := gb1086) (o := .cells #[.int .u64 a1_0, .int .u64 a1_1] 25 (0, 0)) (by (with_reducible repeat (first | refine blk_drewN ?_ _ | refine blk_drew ?_ | refine blk_alloc ?_ _)); refine blk_far ?_ NB1086_1108.out _; (with_reducible repeat (first | refine blk_drewN ?_ _ | refine blk_drew ?_ | refine blk_alloc ?_ _)); refine blk_far ?_ NB1086_1108.out _; (with_reducible repeat (first | refine blk_drewN ?_ _ | refine blk_drew ?_ | refine blk_alloc ?_ _)); exact BK1086.out) hb); have n2_ := Aside0.mk (blk_below (g := gb1104) (o := .cells #[.int .u64 t1101, .int .u64 t1102] 25 (0, 0)) (by (with_reducible repeat (first | refine blk_drewN ?_ _ | refine blk_drew ?_ | refine blk_alloc ?_ _)); refine blk_far ?_ NB1104_1108.out _; (with_reducible repeat (first | refine blk_drewN ?_ _ | refine blk_drew ?_ | refine blk_alloc ?_ _)); refine blk_far ?_ NB1104_1108.out _; (with_reducible repeat (first | refine blk_drewN ?_ _ | refine blk_drew ?_ | refine blk_alloc ?_ _)); exact BK1104.out) hb); have n3_ := Aside0.mk (blk_below (g := gb1108) (o := .cells #[.int .u64 t1105, .int .u64 t1106] 25 (0, 0)) (by (with_reducible repeat (first | refine blk_drewN ?_ _ | refine blk_drew ?_ | refine blk_alloc ?_ _)); refine blk_put (cs := #[.int .u64 t1105, .int .u64 0]) ?_ 1 _ rfl; (with_reducible repeat (first | refine blk_drewN ?_ _ | refine blk_drew ?_ | refine blk_alloc ?_ _)); refine blk_put (cs := #[.int .u64 0, .int .u64 0]) ?_ 0 _ rfl; (with_reducible repeat (first | refine blk_drewN ?_ _ | refine blk_drew ?_ | refine blk_alloc ?_ _)); exact BK1108.out) hb); have n4_ := Aside0.mk (below_step (by repeat (first | (with_reducible first | exact HB.out | apply below_alloc | apply pw_below_drewN | apply below_drew1 | refine below_set ?_ GE1085.out | refine below_set ?_ GE1086.out | refine below_set ?_ GE1104.out | refine below_set ?_ GE1108.out) | exact HB.out)) hb); clear BK1085; clear BK1086; clear BK1104; clear BK1108; clear HB; have BK1085 := n0_; have BK1086 := n1_; have BK1104 := n2_; have BK1108 := n3_; have HB := n4_; clear n0_ n1_ n2_ n3_ n4_; (try clear hb); (try clear hb2); (try clear hk); (try clear hi)))
            go_meet
            case rel => exact ⟨_, (false), (by first | rfl | (simp; done) | (simp [*]; done)), H', ⟨by first | omega | exact Nat.le_refl _⟩, ⟨by (with_reducible repeat (first | refine blk_drewN ?_ _ | refine blk_drew ?_ | refine blk_alloc ?_ _)); exact BK1085.out⟩, ⟨by (with_reducible repeat (first | refine blk_drewN ?_ _ | refine blk_drew ?_ | refine blk_alloc ?_ _)); exact BK1086.out⟩, ⟨by (with_reducible repeat (first | refine blk_drewN ?_ _ | refine blk_drew ?_ | refine blk_alloc ?_ _)); exact BK1104.out⟩, ⟨by (with_reducible repeat (first | refine blk_drewN ?_ _ | refine blk_drew ?_ | refine blk_alloc ?_ _)); exact BK1108.out⟩, ⟨by repeat (first | (with_reducible first | exact HB.out | apply below_alloc | apply pw_below_drewN | apply below_drew1 | refine below_set ?_ GE1085.out | refine below_set ?_ GE1086.out | refine below_set ?_ GE1104.out | refine below_set ?_ GE1108.out) | exact HB.out)⟩⟩
          · rw [if_neg c33] at H
            have c33b0 : (t1107 == 0) = false := beq_eq_false_iff_ne.mpr c33
            have c32d : (decide (t1109 ≤ 0)) = false := (by have z_ := c32b0; rw [c33b0] at z_; simpa using z_)
            have c33b1 : (t1107 != 0) = true := bne_iff_ne.mpr c33
            by_cases c42 : t1107 = 10
            · rw [if_pos c42] at H
              have c42b0 : (t1107 == 10) = true := beq_iff_eq.mpr c42
              have c42b1 : (t1107 != 10) = false := bne_eq_false_iff_eq.mpr c42
              clear c42
              have H' := Aside0.mk H
              clear H
              have hnb43 := NB1086_1085.out
              have hnc43 := NB1085_1086.out
              have hnb44 := NB1086_1104.out
              have hnc44 := NB1104_1086.out
              have hnb45 := NB1086_1108.out
              have hnc45 := NB1108_1086.out
              have hcz46_0 : w25.cell? ⟨gb1086, 0, none⟩ = some (.int .u64 a1_0) := (blk_cell BK1086.out 0).trans rfl
              have hcz46_1 : w25.cell? ⟨gb1086, 1, none⟩ = some (.int .u64 a1_1) := (blk_cell BK1086.out 1).trans rfl
              have hfz46_0 := blk_frozen BK1086.out 0
              have hfz46_1 := blk_frozen BK1086.out 1
              have hnb47 := NB1104_1085.out
              have hnc47 := NB1085_1104.out
              have hnb48 := NB1104_1108.out
              have hnc48 := NB1108_1104.out
              have hcz49_0 : w25.cell? ⟨gb1104, 0, none⟩ = some (.int .u64 t1101) := (blk_cell BK1104.out 0).trans rfl
              have hcz49_1 : w25.cell? ⟨gb1104, 1, none⟩ = some (.int .u64 t1102) := (blk_cell BK1104.out 1).trans rfl
              have hfz49_0 := blk_frozen BK1104.out 0
              have hfz49_1 := blk_frozen BK1104.out 1
              go_wp2_with (first | (go_at_call 49; (with_reducible refine (u128_Cmp.calls k a1_0 a1_1 t1101 t1102 t1109 _ A31.out).mono ?_); rintro e w50 ⟨rfl, hb⟩; have n0_ := Aside0.mk (blk_below (g := gb1085) (o := .cells #[.int .u64 a0_0, .int .u64 a0_1] 25 (0, 0)) (by (with_reducible repeat (first | refine blk_drewN ?_ _ | refine blk_drew ?_ | refine blk_alloc ?_ _)); refine blk_far ?_ NB1085_1108.out _; (with_reducible repeat (first | refine blk_drewN ?_ _ | refine blk_drew ?_ | refine blk_alloc ?_ _)); refine blk_far ?_ NB1085_1108.out _; (with_reducible repeat (first | refine blk_drewN ?_ _ | refine blk_drew ?_ | refine blk_alloc ?_ _)); exact BK1085.out) hb); have n1_ := Aside0.mk (blk_below (g := gb1086) (o := .cells #[.int .u64 a1_0, .int .u64 a1_1] 25 (0, 0)) (by (with_reducible repeat (first | refine blk_drewN ?_ _ | refine blk_drew ?_ | refine blk_alloc ?_ _)); refine blk_far ?_ NB1086_1108.out _; (with_reducible repeat (first | refine blk_drewN ?_ _ | refine blk_drew ?_ | refine blk_alloc ?_ _)); refine blk_far ?_ NB1086_1108.out _; (with_reducible repeat (first | refine blk_drewN ?_ _ | refine blk_drew ?_ | refine blk_alloc ?_ _)); exact BK1086.out) hb); have n2_ := Aside0.mk (blk_below (g := gb1104) (o := .cells #[.int .u64 t1101, .int .u64 t1102] 25 (0, 0)) (by (with_reducible repeat (first | refine blk_drewN ?_ _ | refine blk_drew ?_ | refine blk_alloc ?_ _)); refine blk_far ?_ NB1104_1108.out _; (with_reducible repeat (first | refine blk_drewN ?_ _ | refine blk_drew ?_ | refine blk_alloc ?_ _)); refine blk_far ?_ NB1104_1108.out _; (with_reducible repeat (first | refine blk_drewN ?_ _ | refine blk_drew ?_ | refine blk_alloc ?_ _)); exact BK1104.out) hb); have n3_ := Aside0.mk (blk_below (g := gb1108) (o := .cells #[.int .u64 t1105, .int .u64 t1106] 25 (0, 0)) (by (with_reducible repeat (first | refine blk_drewN ?_ _ | refine blk_drew ?_ | refine blk_alloc ?_ _)); refine blk_put (cs := #[.int .u64 t1105, .int .u64 0]) ?_ 1 _ rfl; (with_reducible repeat (first | refine blk_drewN ?_ _ | refine blk_drew ?_ | refine blk_alloc ?_ _)); refine blk_put (cs := #[.int .u64 0, .int .u64 0]) ?_ 0 _ rfl; (with_reducible repeat (first | refine blk_drewN ?_ _ | refine blk_drew ?_ | refine blk_alloc ?_ _)); exact BK1108.out) hb); have n4_ := Aside0.mk (below_step (by repeat (first | (with_reducible first | exact HB.out | apply below_alloc | apply pw_below_drewN | apply below_drew1 | refine below_set ?_ GE1085.out | refine below_set ?_ GE1086.out | refine below_set ?_ GE1104.out | refine below_set ?_ GE1108.out) | exact HB.out)) hb); clear BK1085; clear BK1086; clear BK1104; clear BK1108; clear HB; have BK1085 := n0_; have BK1086 := n1_; have BK1104 := n2_; have BK1108 := n3_; have HB := n4_; clear n0_ n1_ n2_ n3_ n4_; (try clear hb); (try clear hb2); (try clear hk); (try clear hi); have hnb51 := NB1108_1085.out; have hnc51 := NB1085_1108.out; have hcz52_0 : w50.cell? ⟨gb1108, 0, none⟩ = some (.int .u64 t1105) := (blk_cell BK1108.out 0).trans rfl; have hcz52_1 : w50.cell? ⟨gb1108, 1, none⟩ = some (.int .u64 t1106) := (blk_cell BK1108.out 1).trans rfl; have hfz52_0 := blk_frozen BK1108.out 0; have hfz52_1 := blk_frozen BK1108.out 1))
              go_meet
              case rel => exact ⟨_, ((!(t1105 == 0) || (!(t1106 == 0)))), (by first | rfl | (simp; done) | (simp [*]; done)), H', ⟨by first | omega | exact Nat.le_refl _⟩, ⟨by (with_reducible repeat (first | refine blk_drewN ?_ _ | refine blk_drew ?_ | refine blk_alloc ?_ _)); exact BK1085.out⟩, ⟨by (with_reducible repeat (first | refine blk_drewN ?_ _ | refine blk_drew ?_ | refine blk_alloc ?_ _)); exact BK1086.out⟩, ⟨by (with_reducible repeat (first | refine blk_drewN ?_ _ | refine blk_drew ?_ | refine blk_alloc ?_ _)); exact BK1104.out⟩, ⟨by (with_reducible repeat (first | refine blk_drewN ?_ _ | refine blk_drew ?_ | refine blk_alloc ?_ _)); exact BK1108.out⟩, ⟨by repeat (first | (with_reducible first | exact HB.out | apply below_alloc | apply pw_below_drewN | apply below_drew1 | refine below_set ?_ GE1085.out | refine below_set ?_ GE1086.out | refine below_set ?_ GE1104.out | refine below_set ?_ GE1108.out) | exact HB.out)⟩⟩
            · rw [if_neg c42] at H
              exact absurd H (by simp)
      · rw [if_neg c30] at H
        exact absurd H (by simp)
    case rest =>
      clear HC8
      try clear c1
      try clear c2
      try clear p2
      try clear c3
      try clear c4
      try clear c5
      try clear c6
      try clear c13
      try clear c19
      try clear c20
      try clear c22
      try clear c26
      try clear c27
      try clear c28
      try clear c30
      try clear c30b0
      try clear c30b1
      try clear c32
      try clear c32b0
      try clear c32b1
      try clear c32b2
      try clear c33
      try clear c33b0
      try clear c33b1
      try clear c34
      try clear c35
      try clear c36
      try clear c38
      try clear c39
      try clear c42
      try clear c42b0
      try clear c42b1
      try clear c43
      try clear c44
      try clear c45
      try clear c47
      try clear c48
      try clear c51
      try clear hcz21_0
      try clear hcz21_1
      try clear hcz23_0
      try clear hcz23_1
      try clear hcz29_0
      try clear hcz29_1
      try clear hcz37_0
      try clear hcz37_1
      try clear hcz40_0
      try clear hcz40_1
      try clear hcz46_0
      try clear hcz46_1
      try clear hcz49_0
      try clear hcz49_1
      try clear hcz52_0
      try clear hcz52_1
      try clear hfz21_0
      try clear hfz21_1
      try clear hfz23_0
      try clear hfz23_1
      try clear hfz29_0
      try clear hfz29_1
      try clear hfz37_0
      try clear hfz37_1
      try clear hfz40_0
      try clear hfz40_1
      try clear hfz46_0
      try clear hfz46_1
      try clear hfz49_0
      try clear hfz49_1
      try clear hfz52_0
      try clear hfz52_1
      obtain ⟨kq, x54_7, rfl, HA, HJ7, BK1085, BK1086, BK1104, BK1108, HB⟩ := hcut
      cases kq with
      | zero => exact absurd HA.out (by simp [paymasterlaw01_U128Back.j0])
      | succ kj7 =>
        have H := HA.out
        clear HA
        simp only [paymasterlaw01_U128Back.j0] at H
        by_cases c53 : x54_7 = true
        · subst c53
          have H1 : (none) = some r := by rw [if_pos rfl] at H; exact H
          clear H
          have H := H1
          clear H1
          exact absurd H (by simp)
        · replace c53 := Bool.eq_false_iff.mpr c53
          subst c53
          have H1 : (if t1107 = 0 then ((u128_Sub.f t1105 t1106 a1_0 a1_1).bind fun bt1145 => ((u128_Sub.f t1105 t1106 a0_0 a0_1).bind fun bt1149 => (if bt1145.2.2 = 0 then (if bt1149.2.2 = 0 then (if (!(bt1145.1 == a0_0) || (!(bt1145.2.1 == a0_1))) = true then (none) else (if (!(bt1149.1 == a1_0) || (!(bt1149.2.1 == a1_1))) = true then (none) else (paymasterlaw01_U128Back.j1 kj7 a0_0 a0_1 a1_0 a1_1))) else (none)) else (none)))) else (paymasterlaw01_U128Back.j1 kj7 a0_0 a0_1 a1_0 a1_1)) = some r := by rw [if_neg (show ¬ (false = true) by decide)] at H; exact H
          clear H
          have H := H1
          clear H1
          have HC54 := Aside0.mk H
          clear H
          go_upto_if 56 with (fail)
          go_cut [] (fun wc => ∃ (kq : Nat), Aside0 (paymasterlaw01_U128Back.j1 kq a0_0 a0_1 a1_0 a1_1 = some r) ∧ Aside0 (kq ≤ kj7) ∧ Aside0 (wc.heap[gb1085]? = some (.cells #[.int .u64 a0_0, .int .u64 a0_1] 25 (0, 0))) ∧ Aside0 (wc.heap[gb1086]? = some (.cells #[.int .u64 a1_0, .int .u64 a1_1] 25 (0, 0))) ∧ Aside0 (wc.heap[gb1104]? = some (.cells #[.int .u64 t1101, .int .u64 t1102] 25 (0, 0))) ∧ Aside0 (wc.heap[gb1108]? = some (.cells #[.int .u64 t1105, .int .u64 t1106] 25 (0, 0))) ∧ Aside0 (Below w.heap.size w wc))
          case first =>
            have H := HC54.out
            clear HC54
            by_cases c55 : t1107 = 0
            · rw [if_pos c55] at H
              have c55b0 : (t1107 == 0) = true := beq_iff_eq.mpr c55
              have c55b1 : (t1107 != 0) = false := bne_eq_false_iff_eq.mpr c55
              clear c55
              (first | rw [c55b0] | (simp only [i64_w, i32_w]; rw [c55b0]) | skip)
              replace H := Option.bind_eq_some_iff.mp H
              obtain ⟨⟨t1145, t1146, t1147⟩, A560, H⟩ := H
              replace H : ((u128_Sub.f t1105 t1106 a0_0 a0_1).bind fun bt1149 => (if t1147 = 0 then (if bt1149.2.2 = 0 then (if (!(t1145 == a0_0) || (!(t1146 == a0_1))) = true then (none) else (if (!(bt1149.1 == a1_0) || (!(bt1149.2.1 == a1_1))) = true then (none) else (paymasterlaw01_U128Back.j1 kj7 a0_0 a0_1 a1_0 a1_1))) else (none)) else (none))) = some r := H
              have A56 := Aside0.mk A560
              clear A560
              replace H := Option.bind_eq_some_iff.mp H
              obtain ⟨⟨t1149, t1150, t1151⟩, A570, H⟩ := H
              replace H : (if t1147 = 0 then (if t1151 = 0 then (if (!(t1145 == a0_0) || (!(t1146 == a0_1))) = true then (none) else (if (!(t1149 == a1_0) || (!(t1150 == a1_1))) = true then (none) else (paymasterlaw01_U128Back.j1 kj7 a0_0 a0_1 a1_0 a1_1))) else (none)) else (none)) = some r := H
              have A57 := Aside0.mk A570
              clear A570
              by_cases c58 : t1147 = 0
              · rw [if_pos c58] at H
                have c58b0 : (t1147 == 0) = true := beq_iff_eq.mpr c58
                have c58b1 : (t1147 != 0) = false := bne_eq_false_iff_eq.mpr c58
                clear c58
                by_cases c59 : t1151 = 0
                · rw [if_pos c59] at H
                  have c59b0 : (t1151 == 0) = true := beq_iff_eq.mpr c59
                  have c59b1 : (t1151 != 0) = false := bne_eq_false_iff_eq.mpr c59
                  clear c59
                  by_cases c60 : (!(t1145 == a0_0) || (!(t1146 == a0_1))) = true
                  · rw [if_pos c60] at H
                    exact absurd H (by simp)
                  · rw [if_neg c60] at H
                    have c60b0 : (!(t1145 == a0_0) || (!(t1146 == a0_1))) = false := by simpa using c60
                    clear c60
                    by_cases c61 : (!(t1149 == a1_0) || (!(t1150 == a1_1))) = true
                    · rw [if_pos c61] at H
                      exact absurd H (by simp)
                    · rw [if_neg c61] at H
                      have c61b0 : (!(t1149 == a1_0) || (!(t1150 == a1_1))) = false := by simpa using c61
                      clear c61
                      have H' := Aside0.mk H
                      clear H
                      have hnb62 := NB1108_1085.out
                      have hnc62 := NB1085_1108.out
                      have hnb63 := NB1108_1086.out
                      have hnc63 := NB1086_1108.out
                      have hnb64 := NB1108_1104.out
                      have hnc64 := NB1104_1108.out
                      have hcz65_0 : wc.cell? ⟨gb1108, 0, none⟩ = some (.int .u64 t1105) := (blk_cell BK1108.out 0).trans rfl
                      have hcz65_1 : wc.cell? ⟨gb1108, 1, none⟩ = some (.int .u64 t1106) := (blk_cell BK1108.out 1).trans rfl
                      have hfz65_0 := blk_frozen BK1108.out 0
                      have hfz65_1 := blk_frozen BK1108.out 1
                      have hnb66 := NB1086_1085.out
                      have hnc66 := NB1085_1086.out
                      have hnb67 := NB1086_1104.out
                      have hnc67 := NB1104_1086.out
                      have hcz68_0 : wc.cell? ⟨gb1086, 0, none⟩ = some (.int .u64 a1_0) := (blk_cell BK1086.out 0).trans rfl
                      have hcz68_1 : wc.cell? ⟨gb1086, 1, none⟩ = some (.int .u64 a1_1) := (blk_cell BK1086.out 1).trans rfl
                      have hfz68_0 := blk_frozen BK1086.out 0
                      have hfz68_1 := blk_frozen BK1086.out 1
                      go_wp2_with (first | ((with_reducible refine gate_callee (f := 47) rfl ?_); refine goesL_ (some 60) rfl rfl Try.func47 (by kernel_rfl) rfl #[.agg #[.int .u64 t1105, .int .u64 t1106], .agg #[.int .u64 a1_0, .int .u64 a1_1]] rfl (by (try simp only [List.map_toArray, List.map_cons, List.map_nil]); first | done | rfl | (simp only [List.length_drop, List.length_take]; rfl)) ?_; (with_reducible refine (u128_Sub.calls t1105 t1106 a1_0 a1_1 t1145 t1146 t1147 _ A56.out).mono ?_); rintro e w69 ⟨rfl, hb⟩; refine ⟨_, rfl, ?_⟩; have n0_ := Aside0.mk (blk_below (g := gb1085) (o := .cells #[.int .u64 a0_0, .int .u64 a0_1] 25 (0, 0)) (by (with_reducible repeat (first | refine blk_drewN ?_ _ | refine blk_drew ?_ | refine blk_alloc ?_ _)); exact BK1085.out) hb); have n1_ := Aside0.mk (blk_below (g := gb1086) (o := .cells #[.int .u64 a1_0, .int .u64 a1_1] 25 (0, 0)) (by (with_reducible repeat (first | refine blk_drewN ?_ _ | refine blk_drew ?_ | refine blk_alloc ?_ _)); exact BK1086.out) hb); have n2_ := Aside0.mk (blk_below (g := gb1104) (o := .cells #[.int .u64 t1101, .int .u64 t1102] 25 (0, 0)) (by (with_reducible repeat (first | refine blk_drewN ?_ _ | refine blk_drew ?_ | refine blk_alloc ?_ _)); exact BK1104.out) hb); have n3_ := Aside0.mk (blk_below (g := gb1108) (o := .cells #[.int .u64 t1105, .int .u64 t1106] 25 (0, 0)) (by (with_reducible repeat (first | refine blk_drewN ?_ _ | refine blk_drew ?_ | refine blk_alloc ?_ _)); exact BK1108.out) hb); have n4_ := Aside0.mk (below_step (by repeat (first | (with_reducible first | exact HB.out | apply below_alloc | apply pw_below_drewN | apply below_drew1 | refine below_set ?_ GE1085.out | refine below_set ?_ GE1086.out | refine below_set ?_ GE1104.out | refine below_set ?_ GE1108.out) | exact HB.out)) hb); clear BK1085; clear BK1086; clear BK1104; clear BK1108; clear HB; have BK1085 := n0_; have BK1086 := n1_; have BK1104 := n2_; have BK1108 := n3_; have HB := n4_; clear n0_ n1_ n2_ n3_ n4_; (try clear hb); (try clear hb2); (try clear hk); (try clear hi)) | ((with_reducible refine gate_dst (N := 9) rfl ?_); refine box_event ?hg (N := 9) ?hd (cs := #[.int .u64 0, .int .u64 0]) (t := 25) ?hr ?_; (case hd => rfl); (case hg => rfl); (case hr => first | (go_simp; done) | (go_simp; rfl)); intro gb1148 hg w70 hbox hb; have n0_ := Aside0.mk (blk_below (g := gb1085) (o := .cells #[.int .u64 a0_0, .int .u64 a0_1] 25 (0, 0)) (by (with_reducible repeat (first | refine blk_drewN ?_ _ | refine blk_drew ?_ | refine blk_alloc ?_ _)); exact BK1085.out) hb); have n1_ := Aside0.mk (blk_below (g := gb1086) (o := .cells #[.int .u64 a1_0, .int .u64 a1_1] 25 (0, 0)) (by (with_reducible repeat (first | refine blk_drewN ?_ _ | refine blk_drew ?_ | refine blk_alloc ?_ _)); exact BK1086.out) hb); have n2_ := Aside0.mk (blk_below (g := gb1104) (o := .cells #[.int .u64 t1101, .int .u64 t1102] 25 (0, 0)) (by (with_reducible repeat (first | refine blk_drewN ?_ _ | refine blk_drew ?_ | refine blk_alloc ?_ _)); exact BK1104.out) hb); have n3_ := Aside0.mk (blk_below (g := gb1108) (o := .cells #[.int .u64 t1105, .int .u64 t1106] 25 (0, 0)) (by (with_reducible repeat (first | refine blk_drewN ?_ _ | refine blk_drew ?_ | refine blk_alloc ?_ _)); exact BK1108.out) hb); have n4_ := Aside0.mk (below_step (by repeat (first | (with_reducible first | exact HB.out | apply below_alloc | apply pw_below_drewN | apply below_drew1 | refine below_set ?_ GE1085.out | refine below_set ?_ GE1086.out | refine below_set ?_ GE1104.out | refine below_set ?_ GE1108.out) | exact HB.out)) hb); have n5_ := Aside0.mk (hbox); have n6_ := Aside0.mk ((by rw [hg]; exact (below_size (by repeat (first | (with_reducible first | exact HB.out | apply below_alloc | apply pw_below_drewN | apply below_drew1 | refine below_set ?_ GE1085.out | refine below_set ?_ GE1086.out | refine below_set ?_ GE1104.out | refine below_set ?_ GE1108.out) | exact HB.out))) : w.heap.size ≤ gb1148)); have n7_ := Aside0.mk ((by rw [hg]; exact (below_size (by repeat (first | (with_reducible first | exact HB.out | apply below_alloc | apply pw_below_drewN | apply below_drew1 | refine below_set ?_ GE1085.out | refine below_set ?_ GE1086.out | refine below_set ?_ GE1104.out | refine below_set ?_ GE1108.out) | exact HB.out))) : w.heap.size ≤ gb1148)); have n8_ := Aside0.mk ((by rw [hg]; exact Nat.ne_of_lt (blk_lt (g := gb1085) (o := .cells #[.int .u64 a0_0, .int .u64 a0_1] 25 (0, 0)) (by (with_reducible repeat (first | refine blk_drewN ?_ _ | refine blk_drew ?_ | refine blk_alloc ?_ _)); exact BK1085.out)) : gb1085 ≠ gb1148)); have n9_ := Aside0.mk ((by rw [hg]; exact Nat.ne_of_gt (blk_lt (g := gb1085) (o := .cells #[.int .u64 a0_0, .int .u64 a0_1] 25 (0, 0)) (by (with_reducible repeat (first | refine blk_drewN ?_ _ | refine blk_drew ?_ | refine blk_alloc ?_ _)); exact BK1085.out)) : gb1148 ≠ gb1085)); have n10_ := Aside0.mk ((by rw [hg]; exact Nat.ne_of_lt (blk_lt (g := gb1086) (o := .cells #[.int .u64 a1_0, .int .u64 a1_1] 25 (0, 0)) (by (with_reducible repeat (first | refine blk_drewN ?_ _ | refine blk_drew ?_ | refine blk_alloc ?_ _)); exact BK1086.out)) : gb1086 ≠ gb1148)); have n11_ := Aside0.mk ((by rw [hg]; exact Nat.ne_of_gt (blk_lt (g := gb1086) (o := .cells #[.int .u64 a1_0, .int .u64 a1_1] 25 (0, 0)) (by (with_reducible repeat (first | refine blk_drewN ?_ _ | refine blk_drew ?_ | refine blk_alloc ?_ _)); exact BK1086.out)) : gb1148 ≠ gb1086)); have n12_ := Aside0.mk ((by rw [hg]; exact Nat.ne_of_lt (blk_lt (g := gb1104) (o := .cells #[.int .u64 t1101, .int .u64 t1102] 25 (0, 0)) (by (with_reducible repeat (first | refine blk_drewN ?_ _ | refine blk_drew ?_ | refine blk_alloc ?_ _)); exact BK1104.out)) : gb1104 ≠ gb1148)); have n13_ := Aside0.mk ((by rw [hg]; exact Nat.ne_of_gt (blk_lt (g := gb1104) (o := .cells #[.int .u64 t1101, .int .u64 t1102] 25 (0, 0)) (by (with_reducible repeat (first | refine blk_drewN ?_ _ | refine blk_drew ?_ | refine blk_alloc ?_ _)); exact BK1104.out)) : gb1148 ≠ gb1104)); have n14_ := Aside0.mk ((by rw [hg]; exact Nat.ne_of_lt (blk_lt (g := gb1108) (o := .cells #[.int .u64 t1105, .int .u64 t1106] 25 (0, 0)) (by (with_reducible repeat (first | refine blk_drewN ?_ _ | refine blk_drew ?_ | refine blk_alloc ?_ _)); exact BK1108.out)) : gb1108 ≠ gb1148)); have n15_ := Aside0.mk ((by rw [hg]; exact Nat.ne_of_gt (blk_lt (g := gb1108) (o := .cells #[.int .u64 t1105, .int .u64 t1106] 25 (0, 0)) (by (with_reducible repeat (first | refine blk_drewN ?_ _ | refine blk_drew ?_ | refine blk_alloc ?_ _)); exact BK1108.out)) : gb1148 ≠ gb1108)); clear BK1085; clear BK1086; clear BK1104; clear BK1108; clear HB; have BK1085 := n0_; have BK1086 := n1_; have BK1104 := n2_; have BK1108 := n3_; have HB := n4_; have BK1148 := n5_; have GW1148 := n6_; have GE1148 := n7_; have NB1085_1148 := n8_; have NB1148_1085 := n9_; have NB1086_1148 := n10_; have NB1148_1086 := n11_; have NB1104_1148 := n12_; have NB1148_1104 := n13_; have NB1108_1148 := n14_; have NB1148_1108 := n15_; clear n0_ n1_ n2_ n3_ n4_ n5_ n6_ n7_ n8_ n9_ n10_ n11_ n12_ n13_ n14_ n15_; clear hb hbox hg; have hnb71 := NB1148_1085.out; have hnc71 := NB1085_1148.out; have hnb72 := NB1148_1086.out; have hnc72 := NB1086_1148.out; have hnb73 := NB1148_1104.out; have hnc73 := NB1104_1148.out; have hnb74 := NB1148_1108.out; have hnc74 := NB1108_1148.out; have hcz75_0 : w70.cell? ⟨gb1148, 0, none⟩ = some (.int .u64 0) := (blk_cell BK1148.out 0).trans rfl; have hcz75_1 : w70.cell? ⟨gb1148, 1, none⟩ = some (.int .u64 0) := (blk_cell BK1148.out 1).trans rfl; have hfz75_0 := blk_frozen BK1148.out 0; have hfz75_1 := blk_frozen BK1148.out 1; have hcz76_0 : w70.cell? ⟨gb1108, 0, none⟩ = some (.int .u64 t1105) := (blk_cell BK1108.out 0).trans rfl; have hcz76_1 : w70.cell? ⟨gb1108, 1, none⟩ = some (.int .u64 t1106) := (blk_cell BK1108.out 1).trans rfl; have hfz76_0 := blk_frozen BK1108.out 0; have hfz76_1 := blk_frozen BK1108.out 1; have hnb77 := NB1085_1104.out; have hnc77 := NB1104_1085.out; have hcz78_0 : w70.cell? ⟨gb1085, 0, none⟩ = some (.int .u64 a0_0) := (blk_cell BK1085.out 0).trans rfl; have hcz78_1 : w70.cell? ⟨gb1085, 1, none⟩ = some (.int .u64 a0_1) := (blk_cell BK1085.out 1).trans rfl; have hfz78_0 := blk_frozen BK1085.out 0; have hfz78_1 := blk_frozen BK1085.out 1) | ((with_reducible refine gate_callee (f := 47) rfl ?_); refine goesL_ (some 66) rfl rfl Try.func47 (by kernel_rfl) rfl #[.agg #[.int .u64 t1105, .int .u64 t1106], .agg #[.int .u64 a0_0, .int .u64 a0_1]] rfl (by (try simp only [List.map_toArray, List.map_cons, List.map_nil]); first | done | rfl | (simp only [List.length_drop, List.length_take]; rfl)) ?_; (with_reducible refine (u128_Sub.calls t1105 t1106 a0_0 a0_1 t1149 t1150 t1151 _ A57.out).mono ?_); rintro e w79 ⟨rfl, hb⟩; refine ⟨_, rfl, ?_⟩; have n0_ := Aside0.mk (blk_below (g := gb1085) (o := .cells #[.int .u64 a0_0, .int .u64 a0_1] 25 (0, 0)) (by (with_reducible repeat (first | refine blk_drewN ?_ _ | refine blk_drew ?_ | refine blk_alloc ?_ _)); refine blk_far ?_ NB1085_1148.out _; (with_reducible repeat (first | refine blk_drewN ?_ _ | refine blk_drew ?_ | refine blk_alloc ?_ _)); refine blk_far ?_ NB1085_1148.out _; (with_reducible repeat (first | refine blk_drewN ?_ _ | refine blk_drew ?_ | refine blk_alloc ?_ _)); exact BK1085.out) hb); have n1_ := Aside0.mk (blk_below (g := gb1086) (o := .cells #[.int .u64 a1_0, .int .u64 a1_1] 25 (0, 0)) (by (with_reducible repeat (first | refine blk_drewN ?_ _ | refine blk_drew ?_ | refine blk_alloc ?_ _)); refine blk_far ?_ NB1086_1148.out _; (with_reducible repeat (first | refine blk_drewN ?_ _ | refine blk_drew ?_ | refine blk_alloc ?_ _)); refine blk_far ?_ NB1086_1148.out _; (with_reducible repeat (first | refine blk_drewN ?_ _ | refine blk_drew ?_ | refine blk_alloc ?_ _)); exact BK1086.out) hb); have n2_ := Aside0.mk (blk_below (g := gb1104) (o := .cells #[.int .u64 t1101, .int .u64 t1102] 25 (0, 0)) (by (with_reducible repeat (first | refine blk_drewN ?_ _ | refine blk_drew ?_ | refine blk_alloc ?_ _)); refine blk_far ?_ NB1104_1148.out _; (with_reducible repeat (first | refine blk_drewN ?_ _ | refine blk_drew ?_ | refine blk_alloc ?_ _)); refine blk_far ?_ NB1104_1148.out _; (with_reducible repeat (first | refine blk_drewN ?_ _ | refine blk_drew ?_ | refine blk_alloc ?_ _)); exact BK1104.out) hb); have n3_ := Aside0.mk (blk_below (g := gb1108) (o := .cells #[.int .u64 t1105, .int .u64 t1106] 25 (0, 0)) (by (with_reducible repeat (first | refine blk_drewN ?_ _ | refine blk_drew ?_ | refine blk_alloc ?_ _)); refine blk_far ?_ NB1108_1148.out _; (with_reducible repeat (first | refine blk_drewN ?_ _ | refine blk_drew ?_ | refine blk_alloc ?_ _)); refine blk_far ?_ NB1108_1148.out _; (with_reducible repeat (first | refine blk_drewN ?_ _ | refine blk_drew ?_ | refine blk_alloc ?_ _)); exact BK1108.out) hb); have n4_ := Aside0.mk (blk_below (g := gb1148) (o := .cells #[.int .u64 t1145, .int .u64 t1146] 25 (0, 0)) (by (with_reducible repeat (first | refine blk_drewN ?_ _ | refine blk_drew ?_ | refine blk_alloc ?_ _)); refine blk_put (cs := #[.int .u64 t1145, .int .u64 0]) ?_ 1 _ rfl; (with_reducible repeat (first | refine blk_drewN ?_ _ | refine blk_drew ?_ | refine blk_alloc ?_ _)); refine blk_put (cs := #[.int .u64 0, .int .u64 0]) ?_ 0 _ rfl; (with_reducible repeat (first | refine blk_drewN ?_ _ | refine blk_drew ?_ | refine blk_alloc ?_ _)); exact BK1148.out) hb); have n5_ := Aside0.mk (below_step (by repeat (first | (with_reducible first | exact HB.out | apply below_alloc | apply pw_below_drewN | apply below_drew1 | refine below_set ?_ GE1085.out | refine below_set ?_ GE1086.out | refine below_set ?_ GE1104.out | refine below_set ?_ GE1108.out | refine below_set ?_ GE1148.out) | exact HB.out)) hb); clear BK1085; clear BK1086; clear BK1104; clear BK1108; clear BK1148; clear HB; have BK1085 := n0_; have BK1086 := n1_; have BK1104 := n2_; have BK1108 := n3_; have BK1148 := n4_; have HB := n5_; clear n0_ n1_ n2_ n3_ n4_ n5_; (try clear hb); (try clear hb2); (try clear hk); (try clear hi)) | ((with_reducible refine gate_dst (N := 11) rfl ?_); refine box_event ?hg (N := 11) ?hd (cs := #[.int .u64 0, .int .u64 0]) (t := 25) ?hr ?_; (case hd => rfl); (case hg => rfl); (case hr => first | (go_simp; done) | (go_simp; rfl)); intro gb1152 hg w80 hbox hb; have n0_ := Aside0.mk (blk_below (g := gb1085) (o := .cells #[.int .u64 a0_0, .int .u64 a0_1] 25 (0, 0)) (by (with_reducible repeat (first | refine blk_drewN ?_ _ | refine blk_drew ?_ | refine blk_alloc ?_ _)); exact BK1085.out) hb); have n1_ := Aside0.mk (blk_below (g := gb1086) (o := .cells #[.int .u64 a1_0, .int .u64 a1_1] 25 (0, 0)) (by (with_reducible repeat (first | refine blk_drewN ?_ _ | refine blk_drew ?_ | refine blk_alloc ?_ _)); exact BK1086.out) hb); have n2_ := Aside0.mk (blk_below (g := gb1104) (o := .cells #[.int .u64 t1101, .int .u64 t1102] 25 (0, 0)) (by (with_reducible repeat (first | refine blk_drewN ?_ _ | refine blk_drew ?_ | refine blk_alloc ?_ _)); exact BK1104.out) hb); have n3_ := Aside0.mk (blk_below (g := gb1108) (o := .cells #[.int .u64 t1105, .int .u64 t1106] 25 (0, 0)) (by (with_reducible repeat (first | refine blk_drewN ?_ _ | refine blk_drew ?_ | refine blk_alloc ?_ _)); exact BK1108.out) hb); have n4_ := Aside0.mk (blk_below (g := gb1148) (o := .cells #[.int .u64 t1145, .int .u64 t1146] 25 (0, 0)) (by (with_reducible repeat (first | refine blk_drewN ?_ _ | refine blk_drew ?_ | refine blk_alloc ?_ _)); exact BK1148.out) hb); have n5_ := Aside0.mk (below_step (by repeat (first | (with_reducible first | exact HB.out | apply below_alloc | apply pw_below_drewN | apply below_drew1 | refine below_set ?_ GE1085.out | refine below_set ?_ GE1086.out | refine below_set ?_ GE1104.out | refine below_set ?_ GE1108.out | refine below_set ?_ GE1148.out) | exact HB.out)) hb); have n6_ := Aside0.mk (hbox); have n7_ := Aside0.mk ((by rw [hg]; exact (below_size (by repeat (first | (with_reducible first | exact HB.out | apply below_alloc | apply pw_below_drewN | apply below_drew1 | refine below_set ?_ GE1085.out | refine below_set ?_ GE1086.out | refine below_set ?_ GE1104.out | refine below_set ?_ GE1108.out | refine below_set ?_ GE1148.out) | exact HB.out))) : w.heap.size ≤ gb1152)); have n8_ := Aside0.mk ((by rw [hg]; exact (below_size (by repeat (first | (with_reducible first | exact HB.out | apply below_alloc | apply pw_below_drewN | apply below_drew1 | refine below_set ?_ GE1085.out | refine below_set ?_ GE1086.out | refine below_set ?_ GE1104.out | refine below_set ?_ GE1108.out | refine below_set ?_ GE1148.out) | exact HB.out))) : w.heap.size ≤ gb1152)); have n9_ := Aside0.mk ((by rw [hg]; exact Nat.ne_of_lt (blk_lt (g := gb1085) (o := .cells #[.int .u64 a0_0, .int .u64 a0_1] 25 (0, 0)) (by (with_reducible repeat (first | refine blk_drewN ?_ _ | refine blk_drew ?_ | refine blk_alloc ?_ _)); exact BK1085.out)) : gb1085 ≠ gb1152)); have n10_ := Aside0.mk ((by rw [hg]; exact Nat.ne_of_gt (blk_lt (g := gb1085) (o := .cells #[.int .u64 a0_0, .int .u64 a0_1] 25 (0, 0)) (by (with_reducible repeat (first | refine blk_drewN ?_ _ | refine blk_drew ?_ | refine blk_alloc ?_ _)); exact BK1085.out)) : gb1152 ≠ gb1085)); have n11_ := Aside0.mk ((by rw [hg]; exact Nat.ne_of_lt (blk_lt (g := gb1086) (o := .cells #[.int .u64 a1_0, .int .u64 a1_1] 25 (0, 0)) (by (with_reducible repeat (first | refine blk_drewN ?_ _ | refine blk_drew ?_ | refine blk_alloc ?_ _)); exact BK1086.out)) : gb1086 ≠ gb1152)); have n12_ := Aside0.mk ((by rw [hg]; exact Nat.ne_of_gt (blk_lt (g := gb1086) (o := .cells #[.int .u64 a1_0, .int .u64 a1_1] 25 (0, 0)) (by (with_reducible repeat (first | refine blk_drewN ?_ _ | refine blk_drew ?_ | refine blk_alloc ?_ _)); exact BK1086.out)) : gb1152 ≠ gb1086)); have n13_ := Aside0.mk ((by rw [hg]; exact Nat.ne_of_lt (blk_lt (g := gb1104) (o := .cells #[.int .u64 t1101, .int .u64 t1102] 25 (0, 0)) (by (with_reducible repeat (first | refine blk_drewN ?_ _ | refine blk_drew ?_ | refine blk_alloc ?_ _)); exact BK1104.out)) : gb1104 ≠ gb1152)); have n14_ := Aside0.mk ((by rw [hg]; exact Nat.ne_of_gt (blk_lt (g := gb1104) (o := .cells #[.int .u64 t1101, .int .u64 t1102] 25 (0, 0)) (by (with_reducible repeat (first | refine blk_drewN ?_ _ | refine blk_drew ?_ | refine blk_alloc ?_ _)); exact BK1104.out)) : gb1152 ≠ gb1104)); have n15_ := Aside0.mk ((by rw [hg]; exact Nat.ne_of_lt (blk_lt (g := gb1108) (o := .cells #[.int .u64 t1105, .int .u64 t1106] 25 (0, 0)) (by (with_reducible repeat (first | refine blk_drewN ?_ _ | refine blk_drew ?_ | refine blk_alloc ?_ _)); exact BK1108.out)) : gb1108 ≠ gb1152)); have n16_ := Aside0.mk ((by rw [hg]; exact Nat.ne_of_gt (blk_lt (g := gb1108) (o := .cells #[.int .u64 t1105, .int .u64 t1106] 25 (0, 0)) (by (with_reducible repeat (first | refine blk_drewN ?_ _ | refine blk_drew ?_ | refine blk_alloc ?_ _)); exact BK1108.out)) : gb1152 ≠ gb1108)); have n17_ := Aside0.mk ((by rw [hg]; exact Nat.ne_of_lt (blk_lt (g := gb1148) (o := .cells #[.int .u64 t1145, .int .u64 t1146] 25 (0, 0)) (by (with_reducible repeat (first | refine blk_drewN ?_ _ | refine blk_drew ?_ | refine blk_alloc ?_ _)); exact BK1148.out)) : gb1148 ≠ gb1152)); have n18_ := Aside0.mk ((by rw [hg]; exact Nat.ne_of_gt (blk_lt (g := gb1148) (o := .cells #[.int .u64 t1145, .int .u64 t1146] 25 (0, 0)) (by (with_reducible repeat (first | refine blk_drewN ?_ _ | refine blk_drew ?_ | refine blk_alloc ?_ _)); exact BK1148.out)) : gb1152 ≠ gb1148)); clear BK1085; clear BK1086; clear BK1104; clear BK1108; clear BK1148; clear HB; have BK1085 := n0_; have BK1086 := n1_; have BK1104 := n2_; have BK1108 := n3_; have BK1148 := n4_; have HB := n5_; have BK1152 := n6_; have GW1152 := n7_; have GE1152 := n8_; have NB1085_1152 := n9_; have NB1152_1085 := n10_; have NB1086_1152 := n11_; have NB1152_1086 := n12_; have NB1104_1152 := n13_; have NB1152_1104 := n14_; have NB1108_1152 := n15_; have NB1152_1108 := n16_; have NB1148_1152 := n17_; have NB1152_1148 := n18_; clear n0_ n1_ n2_ n3_ n4_ n5_ n6_ n7_ n8_ n9_ n10_ n11_ n12_ n13_ n14_ n15_ n16_ n17_ n18_; clear hb hbox hg; have hnb81 := NB1152_1085.out; have hnc81 := NB1085_1152.out; have hnb82 := NB1152_1086.out; have hnc82 := NB1086_1152.out; have hnb83 := NB1152_1104.out; have hnc83 := NB1104_1152.out; have hnb84 := NB1152_1108.out; have hnc84 := NB1108_1152.out; have hnb85 := NB1152_1148.out; have hnc85 := NB1148_1152.out; have hcz86_0 : w80.cell? ⟨gb1152, 0, none⟩ = some (.int .u64 0) := (blk_cell BK1152.out 0).trans rfl; have hcz86_1 : w80.cell? ⟨gb1152, 1, none⟩ = some (.int .u64 0) := (blk_cell BK1152.out 1).trans rfl; have hfz86_0 := blk_frozen BK1152.out 0; have hfz86_1 := blk_frozen BK1152.out 1; have hcz87_0 : w80.cell? ⟨gb1148, 0, none⟩ = some (.int .u64 t1145) := (blk_cell BK1148.out 0).trans rfl; have hcz87_1 : w80.cell? ⟨gb1148, 1, none⟩ = some (.int .u64 t1146) := (blk_cell BK1148.out 1).trans rfl; have hfz87_0 := blk_frozen BK1148.out 0; have hfz87_1 := blk_frozen BK1148.out 1; have hcz88_0 : w80.cell? ⟨gb1085, 0, none⟩ = some (.int .u64 a0_0) := (blk_cell BK1085.out 0).trans rfl; have hcz88_1 : w80.cell? ⟨gb1085, 1, none⟩ = some (.int .u64 a0_1) := (blk_cell BK1085.out 1).trans rfl; have hfz88_0 := blk_frozen BK1085.out 0; have hfz88_1 := blk_frozen BK1085.out 1; have hcz89_0 : w80.cell? ⟨gb1086, 0, none⟩ = some (.int .u64 a1_0) := (blk_cell BK1086.out 0).trans rfl; have hcz89_1 : w80.cell? ⟨gb1086, 1, none⟩ = some (.int .u64 a1_1) := (blk_cell BK1086.out 1).trans rfl; have hfz89_0 := blk_frozen BK1086.out 0; have hfz89_1 := blk_frozen BK1086.out 1))
                      go_meet
                      case rel => exact ⟨_, H', ⟨by have := HJ7.out; first | omega | exact Nat.le_refl _⟩, ⟨by (with_reducible repeat (first | refine blk_drewN ?_ _ | refine blk_drew ?_ | refine blk_alloc ?_ _)); refine blk_far ?_ NB1085_1152.out _; (with_reducible repeat (first | refine blk_drewN ?_ _ | refine blk_drew ?_ | refine blk_alloc ?_ _)); refine blk_far ?_ NB1085_1152.out _; (with_reducible repeat (first | refine blk_drewN ?_ _ | refine blk_drew ?_ | refine blk_alloc ?_ _)); exact BK1085.out⟩, ⟨by (with_reducible repeat (first | refine blk_drewN ?_ _ | refine blk_drew ?_ | refine blk_alloc ?_ _)); refine blk_far ?_ NB1086_1152.out _; (with_reducible repeat (first | refine blk_drewN ?_ _ | refine blk_drew ?_ | refine blk_alloc ?_ _)); refine blk_far ?_ NB1086_1152.out _; (with_reducible repeat (first | refine blk_drewN ?_ _ | refine blk_drew ?_ | refine blk_alloc ?_ _)); exact BK1086.out⟩, ⟨by (with_reducible repeat (first | refine blk_drewN ?_ _ | refine blk_drew ?_ | refine blk_alloc ?_ _)); refine blk_far ?_ NB1104_1152.out _; (with_reducible repeat (first | refine blk_drewN ?_ _ | refine blk_drew ?_ | refine blk_alloc ?_ _)); refine blk_far ?_ NB1104_1152.out _; (with_reducible repeat (first | refine blk_drewN ?_ _ | refine blk_drew ?_ | refine blk_alloc ?_ _)); exact BK1104.out⟩, ⟨by (with_reducible repeat (first | refine blk_drewN ?_ _ | refine blk_drew ?_ | refine blk_alloc ?_ _)); refine blk_far ?_ NB1108_1152.out _; (with_reducible repeat (first | refine blk_drewN ?_ _ | refine blk_drew ?_ | refine blk_alloc ?_ _)); refine blk_far ?_ NB1108_1152.out _; (with_reducible repeat (first | refine blk_drewN ?_ _ | refine blk_drew ?_ | refine blk_alloc ?_ _)); exact BK1108.out⟩, ⟨by repeat (first | (with_reducible first | exact HB.out | apply below_alloc | apply pw_below_drewN | apply below_drew1 | refine below_set ?_ GE1085.out | refine below_set ?_ GE1086.out | refine below_set ?_ GE1104.out | refine below_set ?_ GE1108.out | refine below_set ?_ GE1148.out | refine below_set ?_ GE1152.out) | exact HB.out)⟩⟩
                · rw [if_neg c59] at H
                  exact absurd H (by simp)
              · rw [if_neg c58] at H
                exact absurd H (by simp)
            · rw [if_neg c55] at H
              have c55b0 : (t1107 == 0) = false := beq_eq_false_iff_ne.mpr c55
              have c55b1 : (t1107 != 0) = true := bne_iff_ne.mpr c55
              (first | rw [c55b0] | (simp only [i64_w, i32_w]; rw [c55b0]) | skip)
              have H' := Aside0.mk H
              clear H
              go_wp2
              go_meet
              case rel => exact ⟨_, H', ⟨by have := HJ7.out; first | omega | exact Nat.le_refl _⟩, ⟨by (with_reducible repeat (first | refine blk_drewN ?_ _ | refine blk_drew ?_ | refine blk_alloc ?_ _)); exact BK1085.out⟩, ⟨by (with_reducible repeat (first | refine blk_drewN ?_ _ | refine blk_drew ?_ | refine blk_alloc ?_ _)); exact BK1086.out⟩, ⟨by (with_reducible repeat (first | refine blk_drewN ?_ _ | refine blk_drew ?_ | refine blk_alloc ?_ _)); exact BK1104.out⟩, ⟨by (with_reducible repeat (first | refine blk_drewN ?_ _ | refine blk_drew ?_ | refine blk_alloc ?_ _)); exact BK1108.out⟩, ⟨by repeat (first | (with_reducible first | exact HB.out | apply below_alloc | apply pw_below_drewN | apply below_drew1 | refine below_set ?_ GE1085.out | refine below_set ?_ GE1086.out | refine below_set ?_ GE1104.out | refine below_set ?_ GE1108.out) | exact HB.out)⟩⟩
          case rest =>
            clear HC54
            try clear c1
            try clear c2
            try clear p2
            try clear c3
            try clear c4
            try clear c5
            try clear c6
            try clear c7
            try clear c8
            try clear c13
            try clear c19
            try clear c20
            try clear c22
            try clear c26
            try clear c27
            try clear c28
            try clear c30
            try clear c30b0
            try clear c30b1
            try clear c32
            try clear c32b0
            try clear c32b1
            try clear c32b2
            try clear c33
            try clear c33b0
            try clear c33b1
            try clear c34
            try clear c35
            try clear c36
            try clear c38
            try clear c39
            try clear c42
            try clear c42b0
            try clear c42b1
            try clear c43
            try clear c44
            try clear c45
            try clear c47
            try clear c48
            try clear c51
            try clear c53
            try clear c55
            try clear c55b0
            try clear c55b1
            try clear c58
            try clear c58b0
            try clear c58b1
            try clear c59
            try clear c59b0
            try clear c59b1
            try clear c60
            try clear c60b0
            try clear c61
            try clear c61b0
            try clear c62
            try clear c63
            try clear c64
            try clear c66
            try clear c67
            try clear c71
            try clear c72
            try clear c73
            try clear c74
            try clear c77
            try clear c81
            try clear c82
            try clear c83
            try clear c84
            try clear c85
            try clear hcz21_0
            try clear hcz21_1
            try clear hcz23_0
            try clear hcz23_1
            try clear hcz29_0
            try clear hcz29_1
            try clear hcz37_0
            try clear hcz37_1
            try clear hcz40_0
            try clear hcz40_1
            try clear hcz46_0
            try clear hcz46_1
            try clear hcz49_0
            try clear hcz49_1
            try clear hcz52_0
            try clear hcz52_1
            try clear hcz65_0
            try clear hcz65_1
            try clear hcz68_0
            try clear hcz68_1
            try clear hcz75_0
            try clear hcz75_1
            try clear hcz76_0
            try clear hcz76_1
            try clear hcz78_0
            try clear hcz78_1
            try clear hcz86_0
            try clear hcz86_1
            try clear hcz87_0
            try clear hcz87_1
            try clear hcz88_0
            try clear hcz88_1
            try clear hcz89_0
            try clear hcz89_1
            try clear hfz21_0
            try clear hfz21_1
            try clear hfz23_0
            try clear hfz23_1
            try clear hfz29_0
            try clear hfz29_1
            try clear hfz37_0
            try clear hfz37_1
            try clear hfz40_0
            try clear hfz40_1
            try clear hfz46_0
            try clear hfz46_1
            try clear hfz49_0
            try clear hfz49_1
            try clear hfz52_0
            try clear hfz52_1
            try clear hfz65_0
            try clear hfz65_1
            try clear hfz68_0
            try clear hfz68_1
            try clear hfz75_0
            try clear hfz75_1
            try clear hfz76_0
            try clear hfz76_1
            try clear hfz78_0
            try clear hfz78_1
            try clear hfz86_0
            try clear hfz86_1
            try clear hfz87_0
            try clear hfz87_1
            try clear hfz88_0
            try clear hfz88_1
            try clear hfz89_0
            try clear hfz89_1
            try clear p2
            obtain ⟨kq, HA, HJ53, BK1085, BK1086, BK1104, BK1108, HB⟩ := hcut
            cases kq with
            | zero => exact absurd HA.out (by simp [paymasterlaw01_U128Back.j1])
            | succ kj53 =>
              have H := HA.out
              clear HA
              simp only [paymasterlaw01_U128Back.j1] at H
              replace H := Option.bind_eq_some_iff.mp H
              obtain ⟨⟨t1171, t1172, t1173⟩, A900, H⟩ := H
              replace H : ((u128_Cmp.f kj53 a0_0 a0_1 a1_0 a1_1).bind fun t1175 => (if ((t1173 == 0) != (decide (t1175 ≥ 0))) = true then (none) else (if t1173 = 0 then (paymasterlaw01_U128Back.j2 kj53 t1173 false a0_0 a0_1 a1_0 a1_1 t1171 t1172) else (if t1173 = 10 then (paymasterlaw01_U128Back.j2 kj53 t1173 (!(t1171 == 0) || (!(t1172 == 0))) a0_0 a0_1 a1_0 a1_1 t1171 t1172) else (none))))) = some r := H
              have A90 := Aside0.mk A900
              clear A900
              have HC91 := Aside0.mk H
              clear H
              have hnb92 := NB1085_1086.out
              have hnc92 := NB1086_1085.out
              have hnb93 := NB1085_1104.out
              have hnc93 := NB1104_1085.out
              have hnb94 := NB1085_1108.out
              have hnc94 := NB1108_1085.out
              have hcz95_0 : wc.cell? ⟨gb1085, 0, none⟩ = some (.int .u64 a0_0) := (blk_cell BK1085.out 0).trans rfl
              have hcz95_1 : wc.cell? ⟨gb1085, 1, none⟩ = some (.int .u64 a0_1) := (blk_cell BK1085.out 1).trans rfl
              have hfz95_0 := blk_frozen BK1085.out 0
              have hfz95_1 := blk_frozen BK1085.out 1
              have hnb96 := NB1086_1104.out
              have hnc96 := NB1104_1086.out
              have hnb97 := NB1086_1108.out
              have hnc97 := NB1108_1086.out
              have hcz98_0 : wc.cell? ⟨gb1086, 0, none⟩ = some (.int .u64 a1_0) := (blk_cell BK1086.out 0).trans rfl
              have hcz98_1 : wc.cell? ⟨gb1086, 1, none⟩ = some (.int .u64 a1_1) := (blk_cell BK1086.out 1).trans rfl
              have hfz98_0 := blk_frozen BK1086.out 0
              have hfz98_1 := blk_frozen BK1086.out 1
              go_upto_region 13 with (first | ((with_reducible refine gate_callee (f := 47) rfl ?_); refine goesL_ (some 88) rfl rfl Try.func47 (by kernel_rfl) rfl #[.agg #[.int .u64 a0_0, .int .u64 a0_1], .agg #[.int .u64 a1_0, .int .u64 a1_1]] rfl (by (try simp only [List.map_toArray, List.map_cons, List.map_nil]); first | done | rfl | (simp only [List.length_drop, List.length_take]; rfl)) ?_; (with_reducible refine (u128_Sub.calls a0_0 a0_1 a1_0 a1_1 t1171 t1172 t1173 _ A90.out).mono ?_); rintro e w99 ⟨rfl, hb⟩; refine ⟨_, rfl, ?_⟩; have n0_ := Aside0.mk (blk_below (g := gb1085) (o := .cells #[.int .u64 a0_0, .int .u64 a0_1] 25 (0, 0)) (by (with_reducible repeat (first | refine blk_drewN ?_ _ | refine blk_drew ?_ | refine blk_alloc ?_ _)); exact BK1085.out) hb); have n1_ := Aside0.mk (blk_below (g := gb1086) (o := .cells #[.int .u64 a1_0, .int .u64 a1_1] 25 (0, 0)) (by (with_reducible repeat (first | refine blk_drewN ?_ _ | refine blk_drew ?_ | refine blk_alloc ?_ _)); exact BK1086.out) hb); have n2_ := Aside0.mk (blk_below (g := gb1104) (o := .cells #[.int .u64 t1101, .int .u64 t1102] 25 (0, 0)) (by (with_reducible repeat (first | refine blk_drewN ?_ _ | refine blk_drew ?_ | refine blk_alloc ?_ _)); exact BK1104.out) hb); have n3_ := Aside0.mk (blk_below (g := gb1108) (o := .cells #[.int .u64 t1105, .int .u64 t1106] 25 (0, 0)) (by (with_reducible repeat (first | refine blk_drewN ?_ _ | refine blk_drew ?_ | refine blk_alloc ?_ _)); exact BK1108.out) hb); have n4_ := Aside0.mk (below_step (by repeat (first | (with_reducible first | exact HB.out | apply below_alloc | apply pw_below_drewN | apply below_drew1 | refine below_set ?_ GE1085.out | refine below_set ?_ GE1086.out | refine below_set ?_ GE1104.out | refine below_set ?_ GE1108.out) | exact HB.out)) hb); clear BK1085; clear BK1086; clear BK1104; clear BK1108; clear HB; have BK1085 := n0_; have BK1086 := n1_; have BK1104 := n2_; have BK1108 := n3_; have HB := n4_; clear n0_ n1_ n2_ n3_ n4_; (try clear hb); (try clear hb2); (try clear hk); (try clear hi)) | ((with_reducible refine gate_dst (N := 13) rfl ?_); refine box_event ?hg (N := 13) ?hd (cs := #[.int .u64 0, .int .u64 0]) (t := 25) ?hr ?_; (case hd => rfl); (case hg => rfl); (case hr => first | (go_simp; done) | (go_simp; rfl)); intro gb1174 hg w100 hbox hb; have n0_ := Aside0.mk (blk_below (g := gb1085) (o := .cells #[.int .u64 a0_0, .int .u64 a0_1] 25 (0, 0)) (by (with_reducible repeat (first | refine blk_drewN ?_ _ | refine blk_drew ?_ | refine blk_alloc ?_ _)); exact BK1085.out) hb); have n1_ := Aside0.mk (blk_below (g := gb1086) (o := .cells #[.int .u64 a1_0, .int .u64 a1_1] 25 (0, 0)) (by (with_reducible repeat (first | refine blk_drewN ?_ _ | refine blk_drew ?_ | refine blk_alloc ?_ _)); exact BK1086.out) hb); have n2_ := Aside0.mk (blk_below (g := gb1104) (o := .cells #[.int .u64 t1101, .int .u64 t1102] 25 (0, 0)) (by (with_reducible repeat (first | refine blk_drewN ?_ _ | refine blk_drew ?_ | refine blk_alloc ?_ _)); exact BK1104.out) hb); have n3_ := Aside0.mk (blk_below (g := gb1108) (o := .cells #[.int .u64 t1105, .int .u64 t1106] 25 (0, 0)) (by (with_reducible repeat (first | refine blk_drewN ?_ _ | refine blk_drew ?_ | refine blk_alloc ?_ _)); exact BK1108.out) hb); have n4_ := Aside0.mk (below_step (by repeat (first | (with_reducible first | exact HB.out | apply below_alloc | apply pw_below_drewN | apply below_drew1 | refine below_set ?_ GE1085.out | refine below_set ?_ GE1086.out | refine below_set ?_ GE1104.out | refine below_set ?_ GE1108.out) | exact HB.out)) hb); have n5_ := Aside0.mk (hbox); have n6_ := Aside0.mk ((by rw [hg]; exact (below_size (by repeat (first | (with_reducible first | exact HB.out | apply below_alloc | apply pw_below_drewN | apply below_drew1 | refine below_set ?_ GE1085.out | refine below_set ?_ GE1086.out | refine below_set ?_ GE1104.out | refine below_set ?_ GE1108.out) | exact HB.out))) : w.heap.size ≤ gb1174)); have n7_ := Aside0.mk ((by rw [hg]; exact (below_size (by repeat (first | (with_reducible first | exact HB.out | apply below_alloc | apply pw_below_drewN | apply below_drew1 | refine below_set ?_ GE1085.out | refine below_set ?_ GE1086.out | refine below_set ?_ GE1104.out | refine below_set ?_ GE1108.out) | exact HB.out))) : w.heap.size ≤ gb1174)); have n8_ := Aside0.mk ((by rw [hg]; exact Nat.ne_of_lt (blk_lt (g := gb1085) (o := .cells #[.int .u64 a0_0, .int .u64 a0_1] 25 (0, 0)) (by (with_reducible repeat (first | refine blk_drewN ?_ _ | refine blk_drew ?_ | refine blk_alloc ?_ _)); exact BK1085.out)) : gb1085 ≠ gb1174)); have n9_ := Aside0.mk ((by rw [hg]; exact Nat.ne_of_gt (blk_lt (g := gb1085) (o := .cells #[.int .u64 a0_0, .int .u64 a0_1] 25 (0, 0)) (by (with_reducible repeat (first | refine blk_drewN ?_ _ | refine blk_drew ?_ | refine blk_alloc ?_ _)); exact BK1085.out)) : gb1174 ≠ gb1085)); have n10_ := Aside0.mk ((by rw [hg]; exact Nat.ne_of_lt (blk_lt (g := gb1086) (o := .cells #[.int .u64 a1_0, .int .u64 a1_1] 25 (0, 0)) (by (with_reducible repeat (first | refine blk_drewN ?_ _ | refine blk_drew ?_ | refine blk_alloc ?_ _)); exact BK1086.out)) : gb1086 ≠ gb1174)); have n11_ := Aside0.mk ((by rw [hg]; exact Nat.ne_of_gt (blk_lt (g := gb1086) (o := .cells #[.int .u64 a1_0, .int .u64 a1_1] 25 (0, 0)) (by (with_reducible repeat (first | refine blk_drewN ?_ _ | refine blk_drew ?_ | refine blk_alloc ?_ _)); exact BK1086.out)) : gb1174 ≠ gb1086)); have n12_ := Aside0.mk ((by rw [hg]; exact Nat.ne_of_lt (blk_lt (g := gb1104) (o := .cells #[.int .u64 t1101, .int .u64 t1102] 25 (0, 0)) (by (with_reducible repeat (first | refine blk_drewN ?_ _ | refine blk_drew ?_ | refine blk_alloc ?_ _)); exact BK1104.out)) : gb1104 ≠ gb1174)); have n13_ := Aside0.mk ((by rw [hg]; exact Nat.ne_of_gt (blk_lt (g := gb1104) (o := .cells #[.int .u64 t1101, .int .u64 t1102] 25 (0, 0)) (by (with_reducible repeat (first | refine blk_drewN ?_ _ | refine blk_drew ?_ | refine blk_alloc ?_ _)); exact BK1104.out)) : gb1174 ≠ gb1104)); have n14_ := Aside0.mk ((by rw [hg]; exact Nat.ne_of_lt (blk_lt (g := gb1108) (o := .cells #[.int .u64 t1105, .int .u64 t1106] 25 (0, 0)) (by (with_reducible repeat (first | refine blk_drewN ?_ _ | refine blk_drew ?_ | refine blk_alloc ?_ _)); exact BK1108.out)) : gb1108 ≠ gb1174)); have n15_ := Aside0.mk ((by rw [hg]; exact Nat.ne_of_gt (blk_lt (g := gb1108) (o := .cells #[.int .u64 t1105, .int .u64 t1106] 25 (0, 0)) (by (with_reducible repeat (first | refine blk_drewN ?_ _ | refine blk_drew ?_ | refine blk_alloc ?_ _)); exact BK1108.out)) : gb1174 ≠ gb1108)); clear BK1085; clear BK1086; clear BK1104; clear BK1108; clear HB; have BK1085 := n0_; have BK1086 := n1_; have BK1104 := n2_; have BK1108 := n3_; have HB := n4_; have BK1174 := n5_; have GW1174 := n6_; have GE1174 := n7_; have NB1085_1174 := n8_; have NB1174_1085 := n9_; have NB1086_1174 := n10_; have NB1174_1086 := n11_; have NB1104_1174 := n12_; have NB1174_1104 := n13_; have NB1108_1174 := n14_; have NB1174_1108 := n15_; clear n0_ n1_ n2_ n3_ n4_ n5_ n6_ n7_ n8_ n9_ n10_ n11_ n12_ n13_ n14_ n15_; clear hb hbox hg; have hnb101 := NB1174_1085.out; have hnc101 := NB1085_1174.out; have hnb102 := NB1174_1086.out; have hnc102 := NB1086_1174.out; have hnb103 := NB1174_1104.out; have hnc103 := NB1104_1174.out; have hnb104 := NB1174_1108.out; have hnc104 := NB1108_1174.out; have hcz105_0 : w100.cell? ⟨gb1174, 0, none⟩ = some (.int .u64 0) := (blk_cell BK1174.out 0).trans rfl; have hcz105_1 : w100.cell? ⟨gb1174, 1, none⟩ = some (.int .u64 0) := (blk_cell BK1174.out 1).trans rfl; have hfz105_0 := blk_frozen BK1174.out 0; have hfz105_1 := blk_frozen BK1174.out 1))
              (try simp only [Act.put, List.setIfInBounds_toArray, List.set_cons_zero, List.set_cons_succ])
              go_cut [110] (fun v110 wc => ∃ (kq : Nat) (x110_90 : Bool), v110 = .bool x110_90 ∧ Aside0 (paymasterlaw01_U128Back.j2 kq t1173 x110_90 a0_0 a0_1 a1_0 a1_1 t1171 t1172 = some r) ∧ Aside0 (kq ≤ kj53) ∧ Aside0 (wc.heap[gb1085]? = some (.cells #[.int .u64 a0_0, .int .u64 a0_1] 25 (0, 0))) ∧ Aside0 (wc.heap[gb1086]? = some (.cells #[.int .u64 a1_0, .int .u64 a1_1] 25 (0, 0))) ∧ Aside0 (wc.heap[gb1104]? = some (.cells #[.int .u64 t1101, .int .u64 t1102] 25 (0, 0))) ∧ Aside0 (wc.heap[gb1108]? = some (.cells #[.int .u64 t1105, .int .u64 t1106] 25 (0, 0))) ∧ Aside0 (wc.heap[gb1174]? = some (.cells #[.int .u64 t1171, .int .u64 t1172] 25 (0, 0))) ∧ Aside0 (Below w.heap.size w wc))
              case first =>
                have H := HC91.out
                clear HC91
                replace H := Option.bind_eq_some_iff.mp H
                obtain ⟨t1175, A1060, H⟩ := H
                replace H : (if ((t1173 == 0) != (decide (t1175 ≥ 0))) = true then (none) else (if t1173 = 0 then (paymasterlaw01_U128Back.j2 kj53 t1173 false a0_0 a0_1 a1_0 a1_1 t1171 t1172) else (if t1173 = 10 then (paymasterlaw01_U128Back.j2 kj53 t1173 (!(t1171 == 0) || (!(t1172 == 0))) a0_0 a0_1 a1_0 a1_1 t1171 t1172) else (none)))) = some r := H
                have A106 := Aside0.mk A1060
                clear A1060
                by_cases c107 : ((t1173 == 0) != (decide (t1175 ≥ 0))) = true
                · rw [if_pos c107] at H
                  exact absurd H (by simp)
                · rw [if_neg c107] at H
                  have c107b0 : ((t1173 == 0) != (decide (t1175 ≥ 0))) = false := by simpa using c107
                  (try (have c107b1 : decide ((t1173 == 0) = (decide (t1175 ≥ 0))) = true := by simpa using c107))
                  (try (have c107b2 : ((t1173 == 0) == (decide (t1175 ≥ 0))) = true := by simpa using c107))
                  clear c107
                  (first | rw [c107b0] | (simp only [i64_w, i32_w]; rw [c107b0]) | skip)
                  by_cases c108 : t1173 = 0
                  · rw [if_pos c108] at H
                    have c108b0 : (t1173 == 0) = true := beq_iff_eq.mpr c108
                    have c107d : (decide (t1175 ≥ 0)) = true := (by have z_ := c107b0; rw [c108b0] at z_; simpa using z_)
                    have c108b1 : (t1173 != 0) = false := bne_eq_false_iff_eq.mpr c108
                    clear c108
                    have H' := Aside0.mk H
                    clear H
                    have hnb109 := NB1085_1086.out
                    have hnc109 := NB1086_1085.out
                    have hnb110 := NB1085_1104.out
                    have hnc110 := NB1104_1085.out
                    have hnb111 := NB1085_1108.out
                    have hnc111 := NB1108_1085.out
                    have hnb112 := NB1085_1174.out
                    have hnc112 := NB1174_1085.out
                    have hcz113_0 : w100.cell? ⟨gb1085, 0, none⟩ = some (.int .u64 a0_0) := (blk_cell BK1085.out 0).trans rfl
                    have hcz113_1 : w100.cell? ⟨gb1085, 1, none⟩ = some (.int .u64 a0_1) := (blk_cell BK1085.out 1).trans rfl
                    have hfz113_0 := blk_frozen BK1085.out 0
                    have hfz113_1 := blk_frozen BK1085.out 1
                    have hnb114 := NB1086_1104.out
                    have hnc114 := NB1104_1086.out
                    have hnb115 := NB1086_1108.out
                    have hnc115 := NB1108_1086.out
                    have hnb116 := NB1086_1174.out
                    have hnc116 := NB1174_1086.out
                    have hcz117_0 : w100.cell? ⟨gb1086, 0, none⟩ = some (.int .u64 a1_0) := (blk_cell BK1086.out 0).trans rfl
                    have hcz117_1 : w100.cell? ⟨gb1086, 1, none⟩ = some (.int .u64 a1_1) := (blk_cell BK1086.out 1).trans rfl
                    have hfz117_0 := blk_frozen BK1086.out 0
                    have hfz117_1 := blk_frozen BK1086.out 1
                    go_wp2_with (first | ((with_reducible refine gate_callee (f := 49) rfl ?_); refine goesL_ (some 95) rfl rfl Try.func49 (by kernel_rfl) rfl #[.agg #[.int .u64 a0_0, .int .u64 a0_1], .agg #[.int .u64 a1_0, .int .u64 a1_1]] rfl (by (try simp only [List.map_toArray, List.map_cons, List.map_nil]); first | done | rfl | (simp only [List.length_drop, List.length_take]; rfl)) ?_; (with_reducible refine (u128_Cmp.calls kj53 a0_0 a0_1 a1_0 a1_1 t1175 _ A106.out).mono ?_); rintro e w118 ⟨rfl, hb⟩; refine ⟨_, rfl, ?_⟩; have n0_ := Aside0.mk (blk_below (g := gb1085) (o := .cells #[.int .u64 a0_0, .int .u64 a0_1] 25 (0, 0)) (by (with_reducible repeat (first | refine blk_drewN ?_ _ | refine blk_drew ?_ | refine blk_alloc ?_ _)); refine blk_far ?_ NB1085_1174.out _; (with_reducible repeat (first | refine blk_drewN ?_ _ | refine blk_drew ?_ | refine blk_alloc ?_ _)); refine blk_far ?_ NB1085_1174.out _; (with_reducible repeat (first | refine blk_drewN ?_ _ | refine blk_drew ?_ | refine blk_alloc ?_ _)); exact BK1085.out) hb); have n1_ := Aside0.mk (blk_below (g := gb1086) (o := .cells #[.int .u64 a1_0, .int .u64 a1_1] 25 (0, 0)) (by (with_reducible repeat (first | refine blk_drewN ?_ _ | refine blk_drew ?_ | refine blk_alloc ?_ _)); refine blk_far ?_ NB1086_1174.out _; (with_reducible repeat (first | refine blk_drewN ?_ _ | refine blk_drew ?_ | refine blk_alloc ?_ _)); refine blk_far ?_ NB1086_1174.out _; (with_reducible repeat (first | refine blk_drewN ?_ _ | refine blk_drew ?_ | refine blk_alloc ?_ _)); exact BK1086.out) hb); have n2_ := Aside0.mk (blk_below (g := gb1104) (o := .cells #[.int .u64 t1101, .int .u64 t1102] 25 (0, 0)) (by (with_reducible repeat (first | refine blk_drewN ?_ _ | refine blk_drew ?_ | refine blk_alloc ?_ _)); refine blk_far ?_ NB1104_1174.out _; (with_reducible repeat (first | refine blk_drewN ?_ _ | refine blk_drew ?_ | refine blk_alloc ?_ _)); refine blk_far ?_ NB1104_1174.out _; (with_reducible repeat (first | refine blk_drewN ?_ _ | refine blk_drew ?_ | refine blk_alloc ?_ _)); exact BK1104.out) hb); have n3_ := Aside0.mk (blk_below (g := gb1108) (o := .cells #[.int .u64 t1105, .int .u64 t1106] 25 (0, 0)) (by (with_reducible repeat (first | refine blk_drewN ?_ _ | refine blk_drew ?_ | refine blk_alloc ?_ _)); refine blk_far ?_ NB1108_1174.out _; (with_reducible repeat (first | refine blk_drewN ?_ _ | refine blk_drew ?_ | refine blk_alloc ?_ _)); refine blk_far ?_ NB1108_1174.out _; (with_reducible repeat (first | refine blk_drewN ?_ _ | refine blk_drew ?_ | refine blk_alloc ?_ _)); exact BK1108.out) hb); have n4_ := Aside0.mk (blk_below (g := gb1174) (o := .cells #[.int .u64 t1171, .int .u64 t1172] 25 (0, 0)) (by (with_reducible repeat (first | refine blk_drewN ?_ _ | refine blk_drew ?_ | refine blk_alloc ?_ _)); refine blk_put (cs := #[.int .u64 t1171, .int .u64 0]) ?_ 1 _ rfl; (with_reducible repeat (first | refine blk_drewN ?_ _ | refine blk_drew ?_ | refine blk_alloc ?_ _)); refine blk_put (cs := #[.int .u64 0, .int .u64 0]) ?_ 0 _ rfl; (with_reducible repeat (first | refine blk_drewN ?_ _ | refine blk_drew ?_ | refine blk_alloc ?_ _)); exact BK1174.out) hb); have n5_ := Aside0.mk (below_step (by repeat (first | (with_reducible first | exact HB.out | apply below_alloc | apply pw_below_drewN | apply below_drew1 | refine below_set ?_ GE1085.out | refine below_set ?_ GE1086.out | refine below_set ?_ GE1104.out | refine below_set ?_ GE1108.out | refine below_set ?_ GE1174.out) | exact HB.out)) hb); clear BK1085; clear BK1086; clear BK1104; clear BK1108; clear BK1174; clear HB; have BK1085 := n0_; have BK1086 := n1_; have BK1104 := n2_; have BK1108 := n3_; have BK1174 := n4_; have HB := n5_; clear n0_ n1_ n2_ n3_ n4_ n5_; (try clear hb); (try clear hb2); (try clear hk); (try clear hi)))
                    go_meet
                    case rel => exact ⟨_, (false), (by first | rfl | (simp; done) | (simp [*]; done)), H', ⟨by have := HJ7.out; have := HJ53.out; first | omega | exact Nat.le_refl _⟩, ⟨by (with_reducible repeat (first | refine blk_drewN ?_ _ | refine blk_drew ?_ | refine blk_alloc ?_ _)); exact BK1085.out⟩, ⟨by (with_reducible repeat (first | refine blk_drewN ?_ _ | refine blk_drew ?_ | refine blk_alloc ?_ _)); exact BK1086.out⟩, ⟨by (with_reducible repeat (first | refine blk_drewN ?_ _ | refine blk_drew ?_ | refine blk_alloc ?_ _)); exact BK1104.out⟩, ⟨by (with_reducible repeat (first | refine blk_drewN ?_ _ | refine blk_drew ?_ | refine blk_alloc ?_ _)); exact BK1108.out⟩, ⟨by (with_reducible repeat (first | refine blk_drewN ?_ _ | refine blk_drew ?_ | refine blk_alloc ?_ _)); exact BK1174.out⟩, ⟨by repeat (first | (with_reducible first | exact HB.out | apply below_alloc | apply pw_below_drewN | apply below_drew1 | refine below_set ?_ GE1085.out | refine below_set ?_ GE1086.out | refine below_set ?_ GE1104.out | refine below_set ?_ GE1108.out | refine below_set ?_ GE1174.out) | exact HB.out)⟩⟩
                  · rw [if_neg c108] at H
                    have c108b0 : (t1173 == 0) = false := beq_eq_false_iff_ne.mpr c108
                    have c107d : (decide (t1175 ≥ 0)) = false := (by have z_ := c107b0; rw [c108b0] at z_; simpa using z_)
                    have c108b1 : (t1173 != 0) = true := bne_iff_ne.mpr c108
                    by_cases c119 : t1173 = 10
                    · rw [if_pos c119] at H
                      have c119b0 : (t1173 == 10) = true := beq_iff_eq.mpr c119
                      have c119b1 : (t1173 != 10) = false := bne_eq_false_iff_eq.mpr c119
                      clear c119
                      have H' := Aside0.mk H
                      clear H
                      have hnb120 := NB1085_1086.out
                      have hnc120 := NB1086_1085.out
                      have hnb121 := NB1085_1104.out
                      have hnc121 := NB1104_1085.out
                      have hnb122 := NB1085_1108.out
                      have hnc122 := NB1108_1085.out
                      have hnb123 := NB1085_1174.out
                      have hnc123 := NB1174_1085.out
                      have hcz124_0 : w100.cell? ⟨gb1085, 0, none⟩ = some (.int .u64 a0_0) := (blk_cell BK1085.out 0).trans rfl
                      have hcz124_1 : w100.cell? ⟨gb1085, 1, none⟩ = some (.int .u64 a0_1) := (blk_cell BK1085.out 1).trans rfl
                      have hfz124_0 := blk_frozen BK1085.out 0
                      have hfz124_1 := blk_frozen BK1085.out 1
                      have hnb125 := NB1086_1104.out
                      have hnc125 := NB1104_1086.out
                      have hnb126 := NB1086_1108.out
                      have hnc126 := NB1108_1086.out
                      have hnb127 := NB1086_1174.out
                      have hnc127 := NB1174_1086.out
                      have hcz128_0 : w100.cell? ⟨gb1086, 0, none⟩ = some (.int .u64 a1_0) := (blk_cell BK1086.out 0).trans rfl
                      have hcz128_1 : w100.cell? ⟨gb1086, 1, none⟩ = some (.int .u64 a1_1) := (blk_cell BK1086.out 1).trans rfl
                      have hfz128_0 := blk_frozen BK1086.out 0
                      have hfz128_1 := blk_frozen BK1086.out 1
                      go_wp2_with (first | ((with_reducible refine gate_callee (f := 49) rfl ?_); refine goesL_ (some 95) rfl rfl Try.func49 (by kernel_rfl) rfl #[.agg #[.int .u64 a0_0, .int .u64 a0_1], .agg #[.int .u64 a1_0, .int .u64 a1_1]] rfl (by (try simp only [List.map_toArray, List.map_cons, List.map_nil]); first | done | rfl | (simp only [List.length_drop, List.length_take]; rfl)) ?_; (with_reducible refine (u128_Cmp.calls kj53 a0_0 a0_1 a1_0 a1_1 t1175 _ A106.out).mono ?_); rintro e w129 ⟨rfl, hb⟩; refine ⟨_, rfl, ?_⟩; have n0_ := Aside0.mk (blk_below (g := gb1085) (o := .cells #[.int .u64 a0_0, .int .u64 a0_1] 25 (0, 0)) (by (with_reducible repeat (first | refine blk_drewN ?_ _ | refine blk_drew ?_ | refine blk_alloc ?_ _)); refine blk_far ?_ NB1085_1174.out _; (with_reducible repeat (first | refine blk_drewN ?_ _ | refine blk_drew ?_ | refine blk_alloc ?_ _)); refine blk_far ?_ NB1085_1174.out _; (with_reducible repeat (first | refine blk_drewN ?_ _ | refine blk_drew ?_ | refine blk_alloc ?_ _)); exact BK1085.out) hb); have n1_ := Aside0.mk (blk_below (g := gb1086) (o := .cells #[.int .u64 a1_0, .int .u64 a1_1] 25 (0, 0)) (by (with_reducible repeat (first | refine blk_drewN ?_ _ | refine blk_drew ?_ | refine blk_alloc ?_ _)); refine blk_far ?_ NB1086_1174.out _; (with_reducible repeat (first | refine blk_drewN ?_ _ | refine blk_drew ?_ | refine blk_alloc ?_ _)); refine blk_far ?_ NB1086_1174.out _; (with_reducible repeat (first | refine blk_drewN ?_ _ | refine blk_drew ?_ | refine blk_alloc ?_ _)); exact BK1086.out) hb); have n2_ := Aside0.mk (blk_below (g := gb1104) (o := .cells #[.int .u64 t1101, .int .u64 t1102] 25 (0, 0)) (by (with_reducible repeat (first | refine blk_drewN ?_ _ | refine blk_drew ?_ | refine blk_alloc ?_ _)); refine blk_far ?_ NB1104_1174.out _; (with_reducible repeat (first | refine blk_drewN ?_ _ | refine blk_drew ?_ | refine blk_alloc ?_ _)); refine blk_far ?_ NB1104_1174.out _; (with_reducible repeat (first | refine blk_drewN ?_ _ | refine blk_drew ?_ | refine blk_alloc ?_ _)); exact BK1104.out) hb); have n3_ := Aside0.mk (blk_below (g := gb1108) (o := .cells #[.int .u64 t1105, .int .u64 t1106] 25 (0, 0)) (by (with_reducible repeat (first | refine blk_drewN ?_ _ | refine blk_drew ?_ | refine blk_alloc ?_ _)); refine blk_far ?_ NB1108_1174.out _; (with_reducible repeat (first | refine blk_drewN ?_ _ | refine blk_drew ?_ | refine blk_alloc ?_ _)); refine blk_far ?_ NB1108_1174.out _; (with_reducible repeat (first | refine blk_drewN ?_ _ | refine blk_drew ?_ | refine blk_alloc ?_ _)); exact BK1108.out) hb); have n4_ := Aside0.mk (blk_below (g := gb1174) (o := .cells #[.int .u64 t1171, .int .u64 t1172] 25 (0, 0)) (by (with_reducible repeat (first | refine blk_drewN ?_ _ | refine blk_drew ?_ | refine blk_alloc ?_ _)); refine blk_put (cs := #[.int .u64 t1171, .int .u64 0]) ?_ 1 _ rfl; (with_reducible repeat (first | refine blk_drewN ?_ _ | refine blk_drew ?_ | refine blk_alloc ?_ _)); refine blk_put (cs := #[.int .u64 0, .int .u64 0]) ?_ 0 _ rfl; (with_reducible repeat (first | refine blk_drewN ?_ _ | refine blk_drew ?_ | refine blk_alloc ?_ _)); exact BK1174.out) hb); have n5_ := Aside0.mk (below_step (by repeat (first | (with_reducible first | exact HB.out | apply below_alloc | apply pw_below_drewN | apply below_drew1 | refine below_set ?_ GE1085.out | refine below_set ?_ GE1086.out | refine below_set ?_ GE1104.out | refine below_set ?_ GE1108.out | refine below_set ?_ GE1174.out) | exact HB.out)) hb); clear BK1085; clear BK1086; clear BK1104; clear BK1108; clear BK1174; clear HB; have BK1085 := n0_; have BK1086 := n1_; have BK1104 := n2_; have BK1108 := n3_; have BK1174 := n4_; have HB := n5_; clear n0_ n1_ n2_ n3_ n4_ n5_; (try clear hb); (try clear hb2); (try clear hk); (try clear hi); have hnb130 := NB1174_1104.out; have hnc130 := NB1104_1174.out; have hnb131 := NB1174_1108.out; have hnc131 := NB1108_1174.out; have hcz132_0 : w129.cell? ⟨gb1174, 0, none⟩ = some (.int .u64 t1171) := (blk_cell BK1174.out 0).trans rfl; have hcz132_1 : w129.cell? ⟨gb1174, 1, none⟩ = some (.int .u64 t1172) := (blk_cell BK1174.out 1).trans rfl; have hfz132_0 := blk_frozen BK1174.out 0; have hfz132_1 := blk_frozen BK1174.out 1))
                      go_meet
                      case rel => exact ⟨_, ((!(t1171 == 0) || (!(t1172 == 0)))), (by first | rfl | (simp; done) | (simp [*]; done)), H', ⟨by have := HJ7.out; have := HJ53.out; first | omega | exact Nat.le_refl _⟩, ⟨by (with_reducible repeat (first | refine blk_drewN ?_ _ | refine blk_drew ?_ | refine blk_alloc ?_ _)); exact BK1085.out⟩, ⟨by (with_reducible repeat (first | refine blk_drewN ?_ _ | refine blk_drew ?_ | refine blk_alloc ?_ _)); exact BK1086.out⟩, ⟨by (with_reducible repeat (first | refine blk_drewN ?_ _ | refine blk_drew ?_ | refine blk_alloc ?_ _)); exact BK1104.out⟩, ⟨by (with_reducible repeat (first | refine blk_drewN ?_ _ | refine blk_drew ?_ | refine blk_alloc ?_ _)); exact BK1108.out⟩, ⟨by (with_reducible repeat (first | refine blk_drewN ?_ _ | refine blk_drew ?_ | refine blk_alloc ?_ _)); exact BK1174.out⟩, ⟨by repeat (first | (with_reducible first | exact HB.out | apply below_alloc | apply pw_below_drewN | apply below_drew1 | refine below_set ?_ GE1085.out | refine below_set ?_ GE1086.out | refine below_set ?_ GE1104.out | refine below_set ?_ GE1108.out | refine below_set ?_ GE1174.out) | exact HB.out)⟩⟩
                    · rw [if_neg c119] at H
                      exact absurd H (by simp)
              case rest =>
                clear HC91
                try clear c1
                try clear c2
                try clear p2
                try clear c3
                try clear c4
                try clear c5
                try clear c6
                try clear c7
                try clear c8
                try clear c9
                try clear c10
                try clear c11
                try clear c12
                try clear c13
                try clear c19
                try clear c20
                try clear c22
                try clear c26
                try clear c27
                try clear c28
                try clear c30
                try clear c30b0
                try clear c30b1
                try clear c32
                try clear c32b0
                try clear c32b1
                try clear c32b2
                try clear c33
                try clear c33b0
                try clear c33b1
                try clear c34
                try clear c35
                try clear c36
                try clear c38
                try clear c39
                try clear c42
                try clear c42b0
                try clear c42b1
                try clear c43
                try clear c44
                try clear c45
                try clear c47
                try clear c48
                try clear c49
                try clear c51
                try clear c53
                try clear c55
                try clear c55b0
                try clear c55b1
                try clear c58
                try clear c58b0
                try clear c58b1
                try clear c59
                try clear c59b0
                try clear c59b1
                try clear c60
                try clear c60b0
                try clear c61
                try clear c61b0
                try clear c62
                try clear c63
                try clear c64
                try clear c66
                try clear c67
                try clear c71
                try clear c72
                try clear c73
                try clear c74
                try clear c77
                try clear c81
                try clear c82
                try clear c83
                try clear c84
                try clear c85
                try clear c92
                try clear c93
                try clear c94
                try clear c96
                try clear c97
                try clear c101
                try clear c102
                try clear c103
                try clear c104
                try clear c107
                try clear c107b0
                try clear c107b1
                try clear c107b2
                try clear c108
                try clear c108b0
                try clear c108b1
                try clear c109
                try clear c110
                try clear c111
                try clear c112
                try clear c114
                try clear c115
                try clear c116
                try clear c119
                try clear c119b0
                try clear c119b1
                try clear c120
                try clear c121
                try clear c122
                try clear c123
                try clear c125
                try clear c126
                try clear c127
                try clear c130
                try clear c131
                try clear hcz105_0
                try clear hcz105_1
                try clear hcz113_0
                try clear hcz113_1
                try clear hcz117_0
                try clear hcz117_1
                try clear hcz124_0
                try clear hcz124_1
                try clear hcz128_0
                try clear hcz128_1
                try clear hcz132_0
                try clear hcz132_1
                try clear hcz21_0
                try clear hcz21_1
                try clear hcz23_0
                try clear hcz23_1
                try clear hcz29_0
                try clear hcz29_1
                try clear hcz37_0
                try clear hcz37_1
                try clear hcz40_0
                try clear hcz40_1
                try clear hcz46_0
                try clear hcz46_1
                try clear hcz49_0
                try clear hcz49_1
                try clear hcz52_0
                try clear hcz52_1
                try clear hcz65_0
                try clear hcz65_1
                try clear hcz68_0
                try clear hcz68_1
                try clear hcz75_0
                try clear hcz75_1
                try clear hcz76_0
                try clear hcz76_1
                try clear hcz78_0
                try clear hcz78_1
                try clear hcz86_0
                try clear hcz86_1
                try clear hcz87_0
                try clear hcz87_1
                try clear hcz88_0
                try clear hcz88_1
                try clear hcz89_0
                try clear hcz89_1
                try clear hcz95_0
                try clear hcz95_1
                try clear hcz98_0
                try clear hcz98_1
                try clear hfz105_0
                try clear hfz105_1
                try clear hfz113_0
                try clear hfz113_1
                try clear hfz117_0
                try clear hfz117_1
                try clear hfz124_0
                try clear hfz124_1
                try clear hfz128_0
                try clear hfz128_1
                try clear hfz132_0
                try clear hfz132_1
                try clear hfz21_0
                try clear hfz21_1
                try clear hfz23_0
                try clear hfz23_1
                try clear hfz29_0
                try clear hfz29_1
                try clear hfz37_0
                try clear hfz37_1
                try clear hfz40_0
                try clear hfz40_1
                try clear hfz46_0
                try clear hfz46_1
                try clear hfz49_0
                try clear hfz49_1
                try clear hfz52_0
                try clear hfz52_1
                try clear hfz65_0
                try clear hfz65_1
                try clear hfz68_0
                try clear hfz68_1
                try clear hfz75_0
                try clear hfz75_1
                try clear hfz76_0
                try clear hfz76_1
                try clear hfz78_0
                try clear hfz78_1
                try clear hfz86_0
                try clear hfz86_1
                try clear hfz87_0
                try clear hfz87_1
                try clear hfz88_0
                try clear hfz88_1
                try clear hfz89_0
                try clear hfz89_1
                try clear hfz95_0
                try clear hfz95_1
                try clear hfz98_0
                try clear hfz98_1
                try clear p2
                obtain ⟨kq, x110_90, rfl, HA, HJ90, BK1085, BK1086, BK1104, BK1108, BK1174, HB⟩ := hcut
                cases kq with
                | zero => exact absurd HA.out (by simp [paymasterlaw01_U128Back.j2])
                | succ kj90 =>
                  have H := HA.out
                  clear HA
                  simp only [paymasterlaw01_U128Back.j2] at H
                  by_cases c133 : x110_90 = true
                  · subst c133
                    have H1 : (none) = some r := by rw [if_pos rfl] at H; exact H
                    clear H
                    have H := H1
                    clear H1
                    exact absurd H (by simp)
                  · replace c133 := Bool.eq_false_iff.mpr c133
                    subst c133
                    have H1 : (if t1173 = 0 then ((u128_Add.f t1171 t1172 a1_0 a1_1).bind fun bt1180 => (if bt1180.2.2 = 0 then (some (bt1180.1 == a0_0 && (bt1180.2.1 == a0_1))) else (none))) else (some true)) = some r := by rw [if_neg (show ¬ (false = true) by decide)] at H; exact H
                    clear H
                    have H := H1
                    clear H1
                    by_cases c134 : t1173 = 0
                    · rw [if_pos c134] at H
                      have c134b0 : (t1173 == 0) = true := beq_iff_eq.mpr c134
                      have c134b1 : (t1173 != 0) = false := bne_eq_false_iff_eq.mpr c134
                      clear c134
                      replace H := Option.bind_eq_some_iff.mp H
                      obtain ⟨⟨t1180, t1181, t1182⟩, A1350, H⟩ := H
                      replace H : (if t1182 = 0 then (some (t1180 == a0_0 && (t1181 == a0_1))) else (none)) = some r := H
                      have A135 := Aside0.mk A1350
                      clear A1350
                      by_cases c136 : t1182 = 0
                      · rw [if_pos c136] at H
                        have c136b0 : (t1182 == 0) = true := beq_iff_eq.mpr c136
                        have c136b1 : (t1182 != 0) = false := bne_eq_false_iff_eq.mpr c136
                        clear c136
                        obtain rfl := Option.some.inj H
                        have hnb137 := NB1174_1085.out
                        have hnc137 := NB1085_1174.out
                        have hnb138 := NB1174_1086.out
                        have hnc138 := NB1086_1174.out
                        have hnb139 := NB1174_1104.out
                        have hnc139 := NB1104_1174.out
                        have hnb140 := NB1174_1108.out
                        have hnc140 := NB1108_1174.out
                        have hcz141_0 : wc.cell? ⟨gb1174, 0, none⟩ = some (.int .u64 t1171) := (blk_cell BK1174.out 0).trans rfl
                        have hcz141_1 : wc.cell? ⟨gb1174, 1, none⟩ = some (.int .u64 t1172) := (blk_cell BK1174.out 1).trans rfl
                        have hfz141_0 := blk_frozen BK1174.out 0
                        have hfz141_1 := blk_frozen BK1174.out 1
                        have hnb142 := NB1086_1085.out
                        have hnc142 := NB1085_1086.out
                        have hnb143 := NB1086_1104.out
                        have hnc143 := NB1104_1086.out
                        have hnb144 := NB1086_1108.out
                        have hnc144 := NB1108_1086.out
                        have hcz145_0 : wc.cell? ⟨gb1086, 0, none⟩ = some (.int .u64 a1_0) := (blk_cell BK1086.out 0).trans rfl
                        have hcz145_1 : wc.cell? ⟨gb1086, 1, none⟩ = some (.int .u64 a1_1) := (blk_cell BK1086.out 1).trans rfl
                        have hfz145_0 := blk_frozen BK1086.out 0
                        have hfz145_1 := blk_frozen BK1086.out 1
                        go_wp2_with (first | ((with_reducible refine gate_callee (f := 45) rfl ?_); refine goesL_ (some 116) rfl rfl Try.func45 (by kernel_rfl) rfl #[.agg #[.int .u64 t1171, .int .u64 t1172], .agg #[.int .u64 a1_0, .int .u64 a1_1]] rfl (by (try simp only [List.map_toArray, List.map_cons, List.map_nil]); first | done | rfl | (simp only [List.length_drop, List.length_take]; rfl)) ?_; (with_reducible refine (u128_Add.calls t1171 t1172 a1_0 a1_1 t1180 t1181 t1182 _ A135.out).mono ?_); rintro e w146 ⟨rfl, hb⟩; refine ⟨_, rfl, ?_⟩; have n0_ := Aside0.mk (blk_below (g := gb1085) (o := .cells #[.int .u64 a0_0, .int .u64 a0_1] 25 (0, 0)) (by (with_reducible repeat (first | refine blk_drewN ?_ _ | refine blk_drew ?_ | refine blk_alloc ?_ _)); exact BK1085.out) hb); have n1_ := Aside0.mk (blk_below (g := gb1086) (o := .cells #[.int .u64 a1_0, .int .u64 a1_1] 25 (0, 0)) (by (with_reducible repeat (first | refine blk_drewN ?_ _ | refine blk_drew ?_ | refine blk_alloc ?_ _)); exact BK1086.out) hb); have n2_ := Aside0.mk (blk_below (g := gb1104) (o := .cells #[.int .u64 t1101, .int .u64 t1102] 25 (0, 0)) (by (with_reducible repeat (first | refine blk_drewN ?_ _ | refine blk_drew ?_ | refine blk_alloc ?_ _)); exact BK1104.out) hb); have n3_ := Aside0.mk (blk_below (g := gb1108) (o := .cells #[.int .u64 t1105, .int .u64 t1106] 25 (0, 0)) (by (with_reducible repeat (first | refine blk_drewN ?_ _ | refine blk_drew ?_ | refine blk_alloc ?_ _)); exact BK1108.out) hb); have n4_ := Aside0.mk (blk_below (g := gb1174) (o := .cells #[.int .u64 t1171, .int .u64 t1172] 25 (0, 0)) (by (with_reducible repeat (first | refine blk_drewN ?_ _ | refine blk_drew ?_ | refine blk_alloc ?_ _)); exact BK1174.out) hb); have n5_ := Aside0.mk (below_step (by repeat (first | (with_reducible first | exact HB.out | apply below_alloc | apply pw_below_drewN | apply below_drew1 | refine below_set ?_ GE1085.out | refine below_set ?_ GE1086.out | refine below_set ?_ GE1104.out | refine below_set ?_ GE1108.out | refine below_set ?_ GE1174.out) | exact HB.out)) hb); clear BK1085; clear BK1086; clear BK1104; clear BK1108; clear BK1174; clear HB; have BK1085 := n0_; have BK1086 := n1_; have BK1104 := n2_; have BK1108 := n3_; have BK1174 := n4_; have HB := n5_; clear n0_ n1_ n2_ n3_ n4_ n5_; (try clear hb); (try clear hb2); (try clear hk); (try clear hi)) | ((with_reducible refine gate_dst (N := 15) rfl ?_); refine box_event ?hg (N := 15) ?hd (cs := #[.int .u64 0, .int .u64 0]) (t := 25) ?hr ?_; (case hd => rfl); (case hg => rfl); (case hr => first | (go_simp; done) | (go_simp; rfl)); intro gb1183 hg w147 hbox hb; have n0_ := Aside0.mk (blk_below (g := gb1085) (o := .cells #[.int .u64 a0_0, .int .u64 a0_1] 25 (0, 0)) (by (with_reducible repeat (first | refine blk_drewN ?_ _ | refine blk_drew ?_ | refine blk_alloc ?_ _)); exact BK1085.out) hb); have n1_ := Aside0.mk (blk_below (g := gb1086) (o := .cells #[.int .u64 a1_0, .int .u64 a1_1] 25 (0, 0)) (by (with_reducible repeat (first | refine blk_drewN ?_ _ | refine blk_drew ?_ | refine blk_alloc ?_ _)); exact BK1086.out) hb); have n2_ := Aside0.mk (blk_below (g := gb1104) (o := .cells #[.int .u64 t1101, .int .u64 t1102] 25 (0, 0)) (by (with_reducible repeat (first | refine blk_drewN ?_ _ | refine blk_drew ?_ | refine blk_alloc ?_ _)); exact BK1104.out) hb); have n3_ := Aside0.mk (blk_below (g := gb1108) (o := .cells #[.int .u64 t1105, .int .u64 t1106] 25 (0, 0)) (by (with_reducible repeat (first | refine blk_drewN ?_ _ | refine blk_drew ?_ | refine blk_alloc ?_ _)); exact BK1108.out) hb); have n4_ := Aside0.mk (blk_below (g := gb1174) (o := .cells #[.int .u64 t1171, .int .u64 t1172] 25 (0, 0)) (by (with_reducible repeat (first | refine blk_drewN ?_ _ | refine blk_drew ?_ | refine blk_alloc ?_ _)); exact BK1174.out) hb); have n5_ := Aside0.mk (below_step (by repeat (first | (with_reducible first | exact HB.out | apply below_alloc | apply pw_below_drewN | apply below_drew1 | refine below_set ?_ GE1085.out | refine below_set ?_ GE1086.out | refine below_set ?_ GE1104.out | refine below_set ?_ GE1108.out | refine below_set ?_ GE1174.out) | exact HB.out)) hb); have n6_ := Aside0.mk (hbox); have n7_ := Aside0.mk ((by rw [hg]; exact (below_size (by repeat (first | (with_reducible first | exact HB.out | apply below_alloc | apply pw_below_drewN | apply below_drew1 | refine below_set ?_ GE1085.out | refine below_set ?_ GE1086.out | refine below_set ?_ GE1104.out | refine below_set ?_ GE1108.out | refine below_set ?_ GE1174.out) | exact HB.out))) : w.heap.size ≤ gb1183)); have n8_ := Aside0.mk ((by rw [hg]; exact (below_size (by repeat (first | (with_reducible first | exact HB.out | apply below_alloc | apply pw_below_drewN | apply below_drew1 | refine below_set ?_ GE1085.out | refine below_set ?_ GE1086.out | refine below_set ?_ GE1104.out | refine below_set ?_ GE1108.out | refine below_set ?_ GE1174.out) | exact HB.out))) : w.heap.size ≤ gb1183)); have n9_ := Aside0.mk ((by rw [hg]; exact Nat.ne_of_lt (blk_lt (g := gb1085) (o := .cells #[.int .u64 a0_0, .int .u64 a0_1] 25 (0, 0)) (by (with_reducible repeat (first | refine blk_drewN ?_ _ | refine blk_drew ?_ | refine blk_alloc ?_ _)); exact BK1085.out)) : gb1085 ≠ gb1183)); have n10_ := Aside0.mk ((by rw [hg]; exact Nat.ne_of_gt (blk_lt (g := gb1085) (o := .cells #[.int .u64 a0_0, .int .u64 a0_1] 25 (0, 0)) (by (with_reducible repeat (first | refine blk_drewN ?_ _ | refine blk_drew ?_ | refine blk_alloc ?_ _)); exact BK1085.out)) : gb1183 ≠ gb1085)); have n11_ := Aside0.mk ((by rw [hg]; exact Nat.ne_of_lt (blk_lt (g := gb1086) (o := .cells #[.int .u64 a1_0, .int .u64 a1_1] 25 (0, 0)) (by (with_reducible repeat (first | refine blk_drewN ?_ _ | refine blk_drew ?_ | refine blk_alloc ?_ _)); exact BK1086.out)) : gb1086 ≠ gb1183)); have n12_ := Aside0.mk ((by rw [hg]; exact Nat.ne_of_gt (blk_lt (g := gb1086) (o := .cells #[.int .u64 a1_0, .int .u64 a1_1] 25 (0, 0)) (by (with_reducible repeat (first | refine blk_drewN ?_ _ | refine blk_drew ?_ | refine blk_alloc ?_ _)); exact BK1086.out)) : gb1183 ≠ gb1086)); have n13_ := Aside0.mk ((by rw [hg]; exact Nat.ne_of_lt (blk_lt (g := gb1104) (o := .cells #[.int .u64 t1101, .int .u64 t1102] 25 (0, 0)) (by (with_reducible repeat (first | refine blk_drewN ?_ _ | refine blk_drew ?_ | refine blk_alloc ?_ _)); exact BK1104.out)) : gb1104 ≠ gb1183)); have n14_ := Aside0.mk ((by rw [hg]; exact Nat.ne_of_gt (blk_lt (g := gb1104) (o := .cells #[.int .u64 t1101, .int .u64 t1102] 25 (0, 0)) (by (with_reducible repeat (first | refine blk_drewN ?_ _ | refine blk_drew ?_ | refine blk_alloc ?_ _)); exact BK1104.out)) : gb1183 ≠ gb1104)); have n15_ := Aside0.mk ((by rw [hg]; exact Nat.ne_of_lt (blk_lt (g := gb1108) (o := .cells #[.int .u64 t1105, .int .u64 t1106] 25 (0, 0)) (by (with_reducible repeat (first | refine blk_drewN ?_ _ | refine blk_drew ?_ | refine blk_alloc ?_ _)); exact BK1108.out)) : gb1108 ≠ gb1183)); have n16_ := Aside0.mk ((by rw [hg]; exact Nat.ne_of_gt (blk_lt (g := gb1108) (o := .cells #[.int .u64 t1105, .int .u64 t1106] 25 (0, 0)) (by (with_reducible repeat (first | refine blk_drewN ?_ _ | refine blk_drew ?_ | refine blk_alloc ?_ _)); exact BK1108.out)) : gb1183 ≠ gb1108)); have n17_ := Aside0.mk ((by rw [hg]; exact Nat.ne_of_lt (blk_lt (g := gb1174) (o := .cells #[.int .u64 t1171, .int .u64 t1172] 25 (0, 0)) (by (with_reducible repeat (first | refine blk_drewN ?_ _ | refine blk_drew ?_ | refine blk_alloc ?_ _)); exact BK1174.out)) : gb1174 ≠ gb1183)); have n18_ := Aside0.mk ((by rw [hg]; exact Nat.ne_of_gt (blk_lt (g := gb1174) (o := .cells #[.int .u64 t1171, .int .u64 t1172] 25 (0, 0)) (by (with_reducible repeat (first | refine blk_drewN ?_ _ | refine blk_drew ?_ | refine blk_alloc ?_ _)); exact BK1174.out)) : gb1183 ≠ gb1174)); clear BK1085; clear BK1086; clear BK1104; clear BK1108; clear BK1174; clear HB; have BK1085 := n0_; have BK1086 := n1_; have BK1104 := n2_; have BK1108 := n3_; have BK1174 := n4_; have HB := n5_; have BK1183 := n6_; have GW1183 := n7_; have GE1183 := n8_; have NB1085_1183 := n9_; have NB1183_1085 := n10_; have NB1086_1183 := n11_; have NB1183_1086 := n12_; have NB1104_1183 := n13_; have NB1183_1104 := n14_; have NB1108_1183 := n15_; have NB1183_1108 := n16_; have NB1174_1183 := n17_; have NB1183_1174 := n18_; clear n0_ n1_ n2_ n3_ n4_ n5_ n6_ n7_ n8_ n9_ n10_ n11_ n12_ n13_ n14_ n15_ n16_ n17_ n18_; clear hb hbox hg; have hnb148 := NB1183_1085.out; have hnc148 := NB1085_1183.out; have hnb149 := NB1183_1086.out; have hnc149 := NB1086_1183.out; have hnb150 := NB1183_1104.out; have hnc150 := NB1104_1183.out; have hnb151 := NB1183_1108.out; have hnc151 := NB1108_1183.out; have hnb152 := NB1183_1174.out; have hnc152 := NB1174_1183.out; have hcz153_0 : w147.cell? ⟨gb1183, 0, none⟩ = some (.int .u64 0) := (blk_cell BK1183.out 0).trans rfl; have hcz153_1 : w147.cell? ⟨gb1183, 1, none⟩ = some (.int .u64 0) := (blk_cell BK1183.out 1).trans rfl; have hfz153_0 := blk_frozen BK1183.out 0; have hfz153_1 := blk_frozen BK1183.out 1; have hnb154 := NB1085_1104.out; have hnc154 := NB1104_1085.out; have hnb155 := NB1085_1108.out; have hnc155 := NB1108_1085.out; have hcz156_0 : w147.cell? ⟨gb1085, 0, none⟩ = some (.int .u64 a0_0) := (blk_cell BK1085.out 0).trans rfl; have hcz156_1 : w147.cell? ⟨gb1085, 1, none⟩ = some (.int .u64 a0_1) := (blk_cell BK1085.out 1).trans rfl; have hfz156_0 := blk_frozen BK1085.out 0; have hfz156_1 := blk_frozen BK1085.out 1))
                        go_ret
                        exact ⟨by first | rfl | (simp [errW_none, errW_some] <;> rfl) | (simp [*, errW_none, errW_some] <;> rfl), by repeat (first | (with_reducible first | exact HB.out | apply below_alloc | apply pw_below_drewN | apply below_drew1 | refine below_set ?_ GE1085.out | refine below_set ?_ GE1086.out | refine below_set ?_ GE1104.out | refine below_set ?_ GE1108.out | refine below_set ?_ GE1174.out | refine below_set ?_ GE1183.out) | exact HB.out)⟩
                      · rw [if_neg c136] at H
                        exact absurd H (by simp)
                    · rw [if_neg c134] at H
                      have c134b0 : (t1173 == 0) = false := beq_eq_false_iff_ne.mpr c134
                      have c134b1 : (t1173 != 0) = true := bne_iff_ne.mpr c134
                      obtain rfl := Option.some.inj H
                      go_wp2
                      go_ret
                      exact ⟨by first | rfl | (simp [errW_none, errW_some] <;> rfl) | (simp [*, errW_none, errW_some] <;> rfl), by repeat (first | (with_reducible first | exact HB.out | apply below_alloc | apply pw_below_drewN | apply below_drew1 | refine below_set ?_ GE1085.out | refine below_set ?_ GE1086.out | refine below_set ?_ GE1104.out | refine below_set ?_ GE1108.out | refine below_set ?_ GE1174.out) | exact HB.out)⟩
  · replace c4 := Bool.eq_false_iff.mpr c4
    subst c4
    have H1 : (none) = some r := by rw [if_neg (show ¬ (false = true) by decide)] at H; exact H
    clear H
    have H := H1
    clear H1
    exact absurd H (by simp)
end Go.Proofs.Ytpkjpiphjdpegaa.P
namespace Go.Proofs.Ytpkjpiphjdpegaa.P
open Go.RowKit Go.Proofs.YtpkjpiphjdpegaaW.PrintWords Go.Proofs.YtpkjpiphjdpegaaW.PrintLast Go.Proofs.YtpkjpiphjdpegaaW.PrintMore
set_option linter.unusedVariables false
set_option linter.unusedSimpArgs false
theorem awake1 : paymasterlaw01_awake.f = some true := by decide +kernel
theorem u128Back_j2 (k : Nat) (a b c d e x y : Int) (h : (e = 0 ∧ u128_Add.f x y c d = some (a, b, 0)) ∨ e ≠ 0) : paymasterlaw01_U128Back.j2 (k + 1) e false a b c d x y = some true := by
  rw [paymasterlaw01_U128Back.j2, if_neg (by simp)]
  rcases h with ⟨h, h'⟩ | h
  · rw [if_pos h, h']
    simp
  · rw [if_neg h]
theorem u128Back_j1 (k : Nat) (a b c d : Int) (ha : U64 a) (hb : U64 b) (hc : U64 c) (hd : U64 d) : paymasterlaw01_U128Back.j1 (k + 5) a b c d = some true := by
  have va := val_range a b ha hb
  have vc := val_range c d hc hd
  show paymasterlaw01_U128Back.j1 (k + 1 + 3 + 1) a b c d = some true
  rw [paymasterlaw01_U128Back.j1, sub_num a b c d ha hb hc hd, u128_Cmp_is (k + 1) a b c d ha hb hc hd]
  by_cases h : 0 ≤ val a b - val c d
  · have g : cmpI (val a b) (val c d) ≥ 0 := (cmpI_ge0 _ _).2 (by omega)
    obtain ⟨u1, u2⟩ := u_hiOf (val a b - val c d) h (by omega)
    rw [if_pos h]
    simp only [Option.bind_some]
    rw [decide_eq_true g, if_neg (by simp), if_pos trivial]
    refine u128Back_j2 _ _ _ _ _ _ _ _ (.inl ⟨rfl, ?_⟩)
    rw [add_num _ _ _ _ u1 u2 hc hd, val_halves, show val a b - val c d + val c d = val a b by omega, if_pos va.2, hiOf_val a b hb, loOf_val a b hb]
  · have g : ¬ cmpI (val a b) (val c d) ≥ 0 := fun q => h (by have := (cmpI_ge0 _ _).1 q; omega)
    rw [if_neg h]
    simp only [Option.bind_some]
    rw [decide_eq_false g, if_neg (by simp), if_neg (by omega), if_pos trivial, show (!((0 : Int) == 0) || !((0 : Int) == 0)) = false from rfl]
    exact u128Back_j2 _ _ _ _ _ _ _ _ (.inr (by omega))
theorem u128Back_pure (a b c d : Int) (ha : U64 a) (hb : U64 b) (hc : U64 c) (hd : U64 d) : paymasterlaw01_U128Back.f 20 a b c d = some true := by
  have va := val_range a b ha hb
  have vc := val_range c d hc hd
  unfold paymasterlaw01_U128Back.f
  rw [awake1]
  simp only [Option.bind_some, u128_Most.f]
  rw [if_pos trivial, sub_num _ _ a b most_u most_u ha hb, most_val, if_pos (by omega), add_num a b c d ha hb hc hd]
  simp only [Option.bind_some]
  obtain ⟨u1, u2⟩ := u_hiOf (m128 - 1 - val a b) (by omega) (by omega)
  have cm : u128_Cmp.f 20 c d (hiOf (m128 - 1 - val a b)) (loOf (m128 - 1 - val a b)) = some (cmpI (val c d) (m128 - 1 - val a b)) := by
    have := u128_Cmp_is 17 c d _ _ hc hd u1 u2
    rw [val_halves] at this
    exact this
  by_cases h : val a b + val c d < m128
  · have g : cmpI (val c d) (m128 - 1 - val a b) ≤ 0 := (cmpI_le0 _ _).2 (by omega)
    obtain ⟨w1, w2⟩ := u_hiOf (val a b + val c d) (by omega) h
    rw [if_pos h]
    simp only [Option.bind_some]
    rw [if_pos trivial, cm]
    simp only [Option.bind_some]
    rw [decide_eq_true g, if_neg (by simp), if_pos trivial, show (20 : Nat) = 19 + 1 from rfl, paymasterlaw01_U128Back.j0, if_neg (by simp), if_pos rfl, sub_num _ _ c d w1 w2 hc hd, sub_num _ _ a b w1 w2 ha hb, val_halves, if_pos (by omega), if_pos (by omega)]
    simp only [Option.bind_some]
    rw [if_pos trivial, if_pos trivial, show val a b + val c d - val c d = val a b by omega, show val a b + val c d - val a b = val c d by omega, hiOf_val a b hb, loOf_val a b hb, hiOf_val c d hd, loOf_val c d hd, if_neg (by simp), if_neg (by simp)]
    exact u128Back_j1 14 a b c d ha hb hc hd
  · have g : ¬ cmpI (val c d) (m128 - 1 - val a b) ≤ 0 := fun q => h (by have := (cmpI_le0 _ _).1 q; omega)
    rw [if_neg h]
    simp only [Option.bind_some]
    rw [if_pos trivial, cm]
    simp only [Option.bind_some]
    rw [decide_eq_false g, if_neg (by simp), if_neg (by omega), if_pos trivial, show (!((0 : Int) == 0) || !((0 : Int) == 0)) = false from rfl, show (20 : Nat) = 19 + 1 from rfl, paymasterlaw01_U128Back.j0, if_neg (by simp), if_neg (by omega)]
    exact u128Back_j1 14 a b c d ha hb hc hd
theorem u128Back_walk {w : World} (a b : Int) (ha : U64 a) (hb : U64 b) (c d : Int) (hc : U64 c) (hd : U64 d) :
    Calls Try.prog 13 #[.agg #[.int .u64 a, .int .u64 b], .agg #[.int .u64 c, .int .u64 d]] w fun e w' => e = .returned (.bool true) ∧ Below w.heap.size w w' :=
  paymasterlaw01_U128Back.calls 20 a b c d true w (u128Back_pure a b c d ha hb hc hd)
end Go.Proofs.Ytpkjpiphjdpegaa.P
namespace Go.Proofs.Ytpkjpiphjdpegaa.u128Back
open Go.ChangeShapes Go.WideShapes Go.ChangeAt Go.RowKit Go.Proofs.Ytpkjpiphjdpegaa.P
open Go.ChangeMaps (open_string shut_string)
set_option linter.unusedVariables false
theorem own : ownKnob Try.prog.godebug = none := by kernel_rfl
theorem laidOut : laidOutB Try.prog = true := by kernel_rfl
set_option maxRecDepth 100000 in
theorem lifted (os : Os) (started : os.Started) (H : Type) (enc : TypeId × Value → H) :
    ReturnsInHanded {} Try.checked os 13 .any (Rows.u128BackSpec.pre6 enc Try.prog Try.f13 Rows.u128BackRow.domain false) (Rows.u128BackSpec.post enc Try.prog Try.f13 false true false false) := by
  refine returnsInHanded_of_change_sized (C := Try.checked) own started (by kernel_rfl) Try.func13
    (ChangeSpec.witness6 (enc := enc) (C := Try.checked) false ⟨#[], #[.agg #[.int .u64 0, .int .u64 0], .agg #[.int .u64 0, .int .u64 0]], []⟩ 8 (by kernel_rfl) (by kernel_rfl) (by kernel_rfl) (by kernel_rfl)) ?_
  intro W base args ds gs before hval0 hW hcnd hsz0 _
  have hval : ∀ (j : Nat) t v, Try.f13.params[j]? = some t → args[j]? = some v → Value.okWide Try.prog W .any base t v := hval0
  have hW' := hW
  obtain ⟨p, q, hA0, hV, rfl, hfz, hnd⟩ := hW
  have hA : DataW.TrodAll enc Try.prog W 0 (fun _ => true) true Try.f13.params.toList args.toList ds p := hA0
  rw [Try.params13] at hA hval
  have hAll := hA
  obtain ⟨v0, vs0, d0, ds0, p0, q0, hargs, rfl, rfl, h0, r0⟩ := trodAll_cons hA
  obtain ⟨v1, vs1, d1, ds1, p1, q1, rfl, rfl, rfl, h1, r1⟩ := trodAll_cons r0
  obtain ⟨rfl, rfl, rfl⟩ := trodAll_nil r1
  obtain rfl : args = #[v0, v1] := by cases args; simp_all
  obtain ⟨rfl, rfl⟩ := trodVars_none hV
  obtain ⟨a0_0, a0_1, rfl, g0_0, g0_1⟩ := arg_25 (hval 0 25 v0 rfl rfl) h0
  obtain ⟨a1_0, a1_1, rfl, g1_0, g1_1⟩ := arg_25 (hval 1 25 v1 rfl rfl) h1
  clear hA0 hval0 hsz0
  refine (u128Back_walk (w := W) a0_0 a0_1 g0_0 g0_1 a1_0 a1_1 g1_0 g1_1).mono fun e W' ⟨he, bel⟩ => ?_
  subst he
  exact ⟨_, rfl, _, _, _, [], _, [], hW', trodAll_mk1 (shut_bool Try.underlying4 _), args_back laidOut bel (by kernel_rfl) hAll, rfl, bel.frame _, fun h => by cases h⟩
theorem both {a b : Bool} (h : a = true) (k : b = true) : (a && b) = true := by rw [h, k]; rfl
theorem c0 : (Rows.u128BackRow.wf (OpenSpec.ofChange Rows.u128BackSpec)) = true := by kernel_rfl
theorem c1 : (laidOutB Try.prog) = true := by kernel_rfl
theorem c2 : (mapsRowed Try.prog) = true := by kernel_rfl
theorem c3 : (Try.f13.params.all (Try.prog.readableRec ·)) = true := by kernel_rfl
theorem c4 : (namedTie Try.prog Rows.u128BackRow.named Rows.u128BackSpec.vars) = true := by kernel_rfl
theorem c5 : ((Rows.u128BackRow.stops == [])) = true := by kernel_rfl
theorem c6 : ((Try.prog.stops == [])) = true := by kernel_rfl
theorem c7 : ((Rows.u128BackRow.knobs == [])) = true := by kernel_rfl
theorem c8 : ((Try.prog.stopKnobs == [])) = true := by kernel_rfl
theorem c9 : ((Rows.u128BackRow.inPlace == Try.prog.inPlace 13)) = true := by kernel_rfl
theorem c10 : ((Rows.u128BackRow.unfollowed == Try.prog.unfollowed 13)) = true := by kernel_rfl
theorem c11 : ((Rows.u128BackRow.recurses == Try.prog.recurses 13)) = true := by kernel_rfl
theorem c12 : ((Rows.u128BackRow.named == Try.prog.varsNamed 13)) = true := by kernel_rfl
theorem c13 : ((Rows.u128BackRow.maps == (Try.f13.params.toList ++ Rows.u128BackSpec.plain.varTypes Try.prog).any (Try.prog.mapsRec ·))) = true := by kernel_rfl
theorem c14 : ((Rows.u128BackRow.ifaces == (Try.f13.params.toList ++ Rows.u128BackSpec.plain.varTypes Try.prog).any (Try.prog.ifacesRec ·))) = true := by kernel_rfl
theorem c15 : ((Rows.u128BackRow.mapsOut == Try.prog.mapsAmong Try.f13.resultTypes.toList)) = true := by kernel_rfl
theorem c16 : ((Rows.u128BackRow.loops == (Try.f13.params.toList ++ Rows.u128BackSpec.plain.varTypes Try.prog).any (Try.prog.loopsFrom ·))) = true := by kernel_rfl
theorem c17 : ((Rows.u128BackRow.wideKeys == (Try.f13.params.toList ++ Rows.u128BackSpec.plain.varTypes Try.prog ++ Try.f13.resultTypes.toList).any (Try.prog.wideKeysFrom ·))) = true := by kernel_rfl
theorem c18 : (Rows.u128BackSpec.vars.all (Try.prog.varReadable ·)) = true := by kernel_rfl
theorem c19 : (Try.f13.resultTypes.all (fun t => Try.prog.readableRec t && decide (t < Try.prog.types.size))) = true := by kernel_rfl
theorem c20 : ((Rows.u128BackRow.ifacesOut == Try.f13.resultTypes.toList.any (Try.prog.ifacesRec ·))) = true := by kernel_rfl
theorem c21 : ((Rows.u128BackRow.loopsOut == Try.f13.resultTypes.toList.any (Try.prog.loopsFrom ·))) = true := by kernel_rfl
theorem c22 : ((Rows.u128BackRow.plainKeys == Try.prog.plainKeys)) = true := by kernel_rfl
theorem c23 : (Rows.u128BackRow.shortTexts.isNone) = true := by kernel_rfl
theorem c24 : (Try.prog.stopsHeard) = true := by kernel_rfl
theorem c25 : (Try.prog.mayEnter) = true := Facts.mayEnter
theorem c26 : ((Rows.u128BackRow.lifted == Try.prog.liftsFinal)) = true := by rw [Facts.liftsFinal]; kernel_rfl
theorem c27 : ((Try.prog.make == some Rows.u128BackRow.make)) = true := by rw [Facts.make]; kernel_rfl
theorem c28 : ((Rows.u128BackRow.kinds == (if Rows.u128BackRow.domain.isEmpty then [] else Try.f13.params.toList.map fun t => match Try.prog.underlying t with | some (.int k) => some k | _ => none))) = true := by kernel_rfl
theorem c29 : ((Rows.u128BackRow.pinned == Rows.u128BackRow.pinnedBy)) = true := by kernel_rfl
theorem c30 : ((Rows.u128BackRow.veiled == (Try.f13.params.toList ++ Rows.u128BackSpec.plain.varTypes Try.prog ++ Try.f13.resultTypes.toList).any (Try.prog.veiledRec ·))) = true := by kernel_rfl
theorem c31 : (Rows.u128BackRow.veiledFits Try.prog Try.f13.params.toList (Try.f13.params.toList ++ Rows.u128BackSpec.plain.varTypes Try.prog ++ Try.f13.resultTypes.toList)) = true := by kernel_rfl
set_option maxRecDepth 100000 in
theorem closed : joinedFacts Try.prog 13 Try.f13 Rows.u128BackSpec Rows.u128BackRow = true := by
  unfold joinedFacts
  exact both (both (both (both (both (both (both (both (both (both (both (both (both (both (both (both (both (both (both (both (both (both (both (both (both (both (both (both (both (both (both (c0) c1) c2) c3) c4) c5) c6) c7) c8) c9) c10) c11) c12) c13) c14) c15) c16) c17) c18) c19) c20) c21) c22) c23) c24) c25) c26) c27) c28) c29) c30) c31
theorem over : Rows.u128BackRow.holds Try.pinned (OpenSpec.ofChange Rows.u128BackSpec) :=
  OpenClaim.holds_of_wide 13 Try.f13 rfl rfl rfl rfl rfl rfl rfl ⟨rfl, rfl, rfl, rfl, rfl⟩ rfl rfl rfl rfl rfl (by kernel_rfl) Try.func13 closed
    (of_decide_eq_true (by kernel_rfl)) (by unfold Func.isWrapper; first | (rw [if_pos (by decide +kernel)]; kernel_rfl) | (rw [if_neg (by decide +kernel)]; exact ⟨rfl, rfl⟩))
    (fun os started H enc _ => lifted os started H enc)
end Go.Proofs.Ytpkjpiphjdpegaa.u128Back
namespace Go.Proofs.Ytpkjpiphjdpegaa
theorem u128Back_holds : Rows.U128BackSaid := u128Back.over
end Go.Proofs.Ytpkjpiphjdpegaa
