/- A program of this session wrote this text out of the session's own texts. (part 3 of 3) -/
import Derived.Test.YtpkjpiphjdpegaaCLinesJoins2
import Derived.Shelf.Strings.OnBuilder
import Derived.Test.YtpkjpiphjdpegaaProg
import Derived.Shelf.Strings.Search1
import Derived.Shelf.Strings.Search2
import Derived.Shelf.Strings.Search3
import Derived.Shelf.SlicesE.IndexFunc
import Derived.Ground.SlgfProg
import Derived.Lib.IndexAny
import Derived.Test.YtpkjpiphjdpegaaRows
import Derived.WalkKit
import Derived.ProofKit
import Derived.OpenShut
import Derived.ShutString
import Derived.ChangeOld
import Derived.Below
import Derived.SizedLaws
namespace Go.Proofs.Ytpkjpiphjdpegaa.P
open Go.Shelf Go.RowKit
def sh_lays156_ren : Go.Shelf.Ren := ⟨fun | 156 => 95 | 165 => 108 | 166 => 109 | 169 => 110 | 240 => 119 | 241 => 120 | 276 => 128 | 277 => 129 | n => n, fun | 31 => 73 | 9 => 9 | 3 => 3 | 4 => 4 | 0 => 0 | 20 => 20 | 72 => 129 | 76 => 130 | 70 => 127 | 37 => 99 | 75 => 122 | 127 => 138 | 164 => 143 | 5 => 5 | 80 => 132 | n => n, fun | n => n⟩
theorem sh_lays156 : Go.Proofs.Lays.n156 Try.prog sh_lays156_ren := {
  mixed := by kernel_rfl
  f156 := Try.func95.trans (congrArg some (by kernel_rfl))
  f165 := Try.func108.trans (congrArg some (by kernel_rfl))
  f166 := Try.func109.trans (congrArg some (by kernel_rfl))
  f169 := Try.func110.trans (congrArg some (by kernel_rfl))
  f240 := Try.func119.trans (congrArg some (by kernel_rfl))
  f241 := Try.func120.trans (congrArg some (by kernel_rfl))
  f276 := Try.func128.trans (congrArg some (by kernel_rfl))
  f277 := Try.func129.trans (congrArg some (by kernel_rfl))
  t0 := Try.underlying0
  a0 := Try.isAgg0
  z0 := Try.sizeOf0
  v0 := Try.zeroValue0
  t3 := Try.underlying3
  a3 := Try.isAgg3
  z3 := Try.sizeOf3
  v3 := Try.zeroValue3
  t4 := Try.underlying4
  a4 := Try.isAgg4
  z4 := Try.sizeOf4
  v4 := Try.zeroValue4
  t9 := Try.underlying9
  a9 := Try.isAgg9
  z9 := Try.sizeOf9
  v9 := Try.zeroValue9
  t20 := Try.underlying20
  a20 := Try.isAgg20
  z20 := Try.sizeOf20
  v20 := Try.zeroValue20
  t31 := Try.underlying73
  a31 := Try.isAgg73
  z31 := Try.sizeOf73
  v31 := Try.zeroValue73
  t37 := Try.underlying99
  a37 := Try.isAgg99
  z37 := Try.sizeOf99
  v37 := Try.zeroValue99
  t70 := Try.underlying127
  a70 := Try.isAgg127
  z70 := Try.sizeOf127
  v70 := Try.zeroValue127
  t72 := Try.underlying129
  a72 := Try.isAgg129
  z72 := Try.sizeOf129
  v72 := Try.zeroValue129
  t75 := Try.underlying122
  a75 := Try.isAgg122
  z75 := Try.sizeOf122
  v75 := Try.zeroValue122
  t76 := Try.underlying130
  a76 := Try.isAgg130
  z76 := Try.sizeOf130
  v76 := Try.zeroValue130
  t127 := Try.underlying138
  a127 := Try.isAgg138
  z127 := Try.sizeOf138
  v127 := Try.zeroValue138
  t164 := Try.underlying143
  a164 := Try.isAgg143
  z164 := Try.sizeOf143
  v164 := Try.zeroValue143 }
theorem sh_Builder_Extra_156 : Builder.Extra Try.prog sh_lays156_ren := {
  sizeBuilder := by kernel_rfl
  liesBuilder := by kernel_rfl
  t5 := Try.underlying5
  a5 := Try.isAgg5
  z5 := Try.sizeOf5
  v5 := Try.zeroValue5
  infoByte := by kernel_rfl
  cellsByte := by kernel_rfl
  sizeByte := by kernel_rfl
  neB5 := by decide }
open Go.RowKit in
theorem sh_strings_Join_none (a : Option Addr) (c : Nat) (sep : ByteArray) (w : World) :
    Calls Try.prog 95 #[.slice a 0 c, .string sep] w fun e w' => e = .returned (.string ⟨#[]⟩) ∧ w' = w := Any.strings_Join_none sh_lays156 sh_Builder_Extra_156 a c sep w
open Go.RowKit in
theorem sh_strings_Join (bk o c : Nat) (xs : List ByteArray) (sep : ByteArray) (w : World) (hcells : ∀ (j : Nat) x, xs[j]? = some x → w.cell? ⟨bk, o + j, none⟩ = some (.string x)) (hbk : bk < w.heap.size) (hN : xs.length ≤ 140737488355328) (hcap : xs.length ≤ c) (hlen : (Lib.join (xs.map (·.data.toList)) sep.data.toList).length ≤ 140737488355328) :
    Calls Try.prog 95 #[.slice (some ⟨bk, o, none⟩) xs.length c, .string sep] w fun e w' => e = .returned (.string ⟨(Lib.join (xs.map (·.data.toList)) sep.data.toList).toArray⟩) ∧ Below w.heap.size w w' := Any.strings_Join sh_lays156 sh_Builder_Extra_156 bk o c xs sep w hcells hbk hN hcap hlen
end Go.Proofs.Ytpkjpiphjdpegaa.P
namespace Go.Proofs.Ytpkjpiphjdpegaa.P
open Go.Shelf Go.RowKit
def sh_lays144_ren : Go.Shelf.Ren := ⟨fun | 144 => 93 | 143 => 106 | 219 => 118 | 217 => 124 | 225 => 125 | 224 => 126 | 267 => 127 | 266 => 132 | 314 => 133 | n => n, fun | 9 => 9 | 4 => 4 | 3 => 3 | 5 => 5 | 46 => 94 | 146 => 149 | 51 => 148 | n => n, fun | 1 => 2 | n => n⟩
theorem sh_lays144 : Go.Proofs.Lays.n144 Try.prog sh_lays144_ren := {
  mixed := by kernel_rfl
  f143 := Try.func106.trans (congrArg some (by kernel_rfl))
  f144 := Try.func93.trans (congrArg some (by kernel_rfl))
  f217 := Try.func124.trans (congrArg some (by kernel_rfl))
  f219 := Try.func118.trans (congrArg some (by kernel_rfl))
  f224 := Try.func126.trans (congrArg some (by kernel_rfl))
  f225 := Try.func125.trans (congrArg some (by kernel_rfl))
  f266 := Try.func132.trans (congrArg some (by kernel_rfl))
  f267 := Try.func127.trans (congrArg some (by kernel_rfl))
  f314 := Try.func133.trans (congrArg some (by kernel_rfl))
  t3 := Try.underlying3
  a3 := Try.isAgg3
  z3 := Try.sizeOf3
  v3 := Try.zeroValue3
  t4 := Try.underlying4
  a4 := Try.isAgg4
  z4 := Try.sizeOf4
  v4 := Try.zeroValue4
  t5 := Try.underlying5
  a5 := Try.isAgg5
  z5 := Try.sizeOf5
  v5 := Try.zeroValue5
  t9 := Try.underlying9
  a9 := Try.isAgg9
  z9 := Try.sizeOf9
  v9 := Try.zeroValue9
  t46 := Try.underlying94
  a46 := Try.isAgg94
  z46 := Try.sizeOf94
  v46 := Try.zeroValue94
  t51 := Try.underlying148
  a51 := Try.isAgg148
  z51 := Try.sizeOf148
  v51 := Try.zeroValue148
  t146 := Try.underlying149
  a146 := Try.isAgg149
  z146 := Try.sizeOf149
  v146 := Try.zeroValue149
  g1 := by kernel_rfl }
open Go.RowKit Go.Lib in
theorem sh_strings_Contains_one (s : ByteArray) (c : UInt8) (w : World) :
    Calls Try.prog 93 #[.string s, .string ⟨#[c]⟩] w fun e w' => e = .returned (.bool (decide (0 ≤ Lib.indexByte s.data.toList c))) ∧ w' = w := Any.strings_Contains_one sh_lays144 s c w
end Go.Proofs.Ytpkjpiphjdpegaa.P
namespace Go.Proofs.Ytpkjpiphjdpegaa.P
open Go.Shelf Go.RowKit
def sh_lg94_ren : Go.Shelf.Ren := ⟨fun | 8 => 94 | 6 => 107 | n => n, fun | 22 => 73 | 23 => 9 | 25 => 109 | 4 => 4 | 3 => 3 | 0 => 0 | n => n, fun | n => n⟩
theorem sh_lg94 : Go.Proofs.SlLaysH.n8 Try.prog sh_lg94_ren := {
  mixed := by kernel_rfl
  f6 := ⟨Try.f107.name, by decide, Try.func107.trans (congrArg some (by kernel_rfl))⟩
  f8 := ⟨Try.f94.name, by decide, Try.func94.trans (congrArg some (by kernel_rfl))⟩
  t0 := Try.underlying0
  a0 := Try.isAgg0
  z0 := Try.sizeOf0
  v0 := Try.zeroValue0
  t3 := Try.underlying3
  a3 := Try.isAgg3
  z3 := Try.sizeOf3
  v3 := Try.zeroValue3
  t4 := Try.underlying4
  a4 := Try.isAgg4
  z4 := Try.sizeOf4
  v4 := Try.zeroValue4
  t22 := Try.underlying73
  a22 := Try.isAgg73
  z22 := Try.sizeOf73
  v22 := Try.zeroValue73
  a23 := Try.isAgg9
  z23 := Try.sizeOf9
  t25 := Try.underlying109
  a25 := Try.isAgg109
  z25 := Try.sizeOf109
  v25 := Try.zeroValue109 }
end Go.Proofs.Ytpkjpiphjdpegaa.P
namespace Go.Proofs.Ytpkjpiphjdpegaa.P
open Go.RowKit Go.Proofs.YtpkjpiphjdpegaaW.PrintWords Go.Proofs.YtpkjpiphjdpegaaW.PrintLast Go.Proofs.YtpkjpiphjdpegaaW.PrintMore
set_option linter.unusedVariables false
set_option linter.unusedSimpArgs false
def brk (s : ByteArray) : Bool := decide (0 ≤ Lib.indexByte s.data.toList 10)
def joinL (l : List ByteArray) : ByteArray := ⟨(Lib.join (l.map (·.data.toList)) [10]).toArray⟩
def lines_Join.f (l0 : List ByteArray) : Option (ByteArray × Int) :=
  if l0.length ≤ 1000000 ∧ (Lib.join (l0.map (·.data.toList)) [10]).length ≤ 1000000000 then some (if l0.any brk = true then ((⟨#[]⟩ : ByteArray), 2) else (joinL l0, 0)) else none
theorem brk_at (w : World) : Go.Proofs.PredAt Try.prog 92 #[] Value.string brk w := fun W r _ => by
  unfold FnGives
  obtain ⟨b, hb⟩ : ∃ b, brk r = b := ⟨_, rfl⟩
  have C : Calls Try.prog 93 #[.string r, .string ⟨#[10]⟩] W fun e w' => e = .returned (.bool b) ∧ w' = W := by rw [← hb]; exact sh_strings_Contains_one r 10 W
  go_enter Try.func92, Try.ntmps92
  go_wp2_with (first | (go_at_call 93; (with_reducible refine C.mono ?_); rintro e w' ⟨rfl, rfl⟩))
  go_ret
  exact ⟨by rw [hb]; rfl, 0, rfl⟩
theorem cell_lt {w : World} {a : Addr} {v : Value} (h : w.cell? a = some v) : a.block < w.heap.size ∧ a.spot = none := by
  unfold World.cell? at h
  split at h
  · rename_i c _ _ e
    refine ⟨(Array.getElem?_eq_some_iff.1 e).1, ?_⟩
    by_cases q : a.spot.isSome = true
    · rw [if_pos q] at h; cases h
    · simpa using q
  · cases h
theorem strs_in {w : World} {A : Option Addr} {xs : List ByteArray} (h : Kd.C Kd.string w A xs.length xs) (hn : 0 < xs.length) : ∃ b off, A = some ⟨b, off, none⟩ ∧ b < w.heap.size ∧ ∀ j, j < xs.length → w.cell? ⟨b, off + j, none⟩ = some (.string xs[j]!) := by
  obtain ⟨ad, rfl, h0⟩ := Kd.at_string h 0 (by omega) (by omega)
  rw [show (0 : Int).toNat = 0 from rfl] at h0
  have e0 : ad.add 0 = ad := rfl
  rw [e0] at h0
  obtain ⟨q1, q2⟩ := cell_lt h0
  obtain ⟨b, off, sp⟩ := ad
  have q2' : sp = none := q2
  subst q2'
  refine ⟨b, off, rfl, q1, fun j hj => ?_⟩
  obtain ⟨ad', e', h1⟩ := Kd.at_string h (j : Int) (by omega) (by omega)
  obtain rfl := Option.some.inj e'
  have ea : (⟨b, off, none⟩ : Addr).add j = ⟨b, off + j, none⟩ := by
    unfold Addr.add
    by_cases z : j = 0
    · rw [if_pos z, z]; rfl
    · rw [if_neg z]
  rw [Int.toNat_natCast, ea] at h1
  rw [h1]
  unfold rdOf
  rw [Int.toNat_natCast, List.getElem!_eq_getElem?_getD, List.getD_eq_getElem?_getD]
  rfl
set_option maxHeartbeats 4000000 in
set_option maxRecDepth 100000 in
theorem lines_Join.calls (A0 : Option Addr) (c0 : Nat) (l0 : List ByteArray) (r1 : ByteArray) (r2 : Int) (w : World) (hr0 : Kd.C Kd.string w A0 l0.length l0) (hc0 : l0.length ≤ c0) (h : lines_Join.f l0 = some (r1, r2)) :
    Calls Try.prog 67 #[.slice A0 l0.length c0] w fun e w' => e = .returned (.tuple #[.string r1, .int .i64 r2]) ∧ Below w.heap.size w w' := by
  have hu : l0.length ≤ 1000000 ∧ (Lib.join (l0.map (·.data.toList)) [10]).length ≤ 1000000000 := by
    unfold lines_Join.f at h
    split at h
    · assumption
    · cases h
  unfold lines_Join.f at h
  rw [if_pos hu] at h
  have h' := Option.some.inj h
  clear h
  have eg := enters_of Try.func92 (by kernel_rfl) rfl
  have CC : Calls Try.prog 94 #[.slice A0 l0.length c0, .func (.func 92) #[] #[]] w fun e w' => e = .returned (.bool (l0.any brk)) ∧ ∃ q, w' = w.drewN q := by
    by_cases z : 0 < l0.length
    · obtain ⟨b, off, rfl, hb, hc⟩ := strs_in hr0 z
      have := Go.Proofs.AnyE.slices_ContainsFunc sh_lg94 Value.string brk 92 #[] eg b off l0.length c0 l0 w (brk_at w) (Nat.le_refl _) (by omega) hc
      rw [List.take_length] at this
      exact this
    · have e : l0 = [] := List.eq_nil_of_length_eq_zero (by omega)
      subst e
      refine (Go.Proofs.AnyE.slices_ContainsFunc_empty sh_lg94 A0 c0 (.func (.func 92) #[] #[]) w).mono ?_
      rintro e w' ⟨rfl, rfl⟩
      exact ⟨rfl, 0, rfl⟩
  have JJ : ∀ q, Calls Try.prog 95 #[.slice A0 l0.length c0, .string ⟨#[10]⟩] (w.drewN q) fun e w' => e = .returned (.string (joinL l0)) ∧ Below w.heap.size w w' := by
    intro q
    by_cases z : 0 < l0.length
    · obtain ⟨b, off, rfl, hb, hc⟩ := strs_in hr0 z
      refine (sh_strings_Join b off c0 l0 ⟨#[10]⟩ (w.drewN q) (fun j x hx => ?_) hb (by omega) hc0 (by have := hu.2; have e : (⟨#[10]⟩ : ByteArray).data.toList = [10] := rfl; rw [e]; omega)).mono ?_
      · obtain ⟨hj, e⟩ := List.getElem?_eq_some_iff.1 hx
        have := hc j hj
        rw [List.getElem!_eq_getElem?_getD, hx] at this
        exact this
      · rintro e w' ⟨rfl, hb'⟩
        exact ⟨rfl, Below.trans (pw_below_drewN (Below.refl _ w) q) hb'⟩
    · have e : l0 = [] := List.eq_nil_of_length_eq_zero (by omega)
      subst e
      refine (sh_strings_Join_none A0 c0 ⟨#[10]⟩ (w.drewN q)).mono ?_
      rintro e w' ⟨rfl, rfl⟩
      exact ⟨rfl, pw_below_drewN (Below.refl _ w) q⟩
  by_cases b : l0.any brk = true
  · rw [if_pos b] at h'
    cases h'
    rw [b] at CC
    go_enter Try.func67, Try.ntmps67
    go_wp2_with (first | (go_at_call 94; (with_reducible refine CC.mono ?_); rintro e w' ⟨rfl, q, rfl⟩))
    go_ret2
    exact ⟨rfl, pw_below_drewN (Below.refl _ w) q⟩
  · rw [if_neg b] at h'
    cases h'
    have bf : l0.any brk = false := by simpa using b
    rw [bf] at CC
    go_enter Try.func67, Try.ntmps67
    go_wp2_with (first | (go_at_call 94; (with_reducible refine CC.mono ?_); rintro e w' ⟨rfl, q, rfl⟩) | (go_at_call 95; (with_reducible refine (JJ _).mono ?_); rintro e w2 ⟨rfl, hb⟩))
    go_ret2
    exact ⟨rfl, hb⟩
end Go.Proofs.Ytpkjpiphjdpegaa.P
namespace Go.Proofs.Ytpkjpiphjdpegaa.P
open Go.RowKit Go.Proofs.YtpkjpiphjdpegaaW.PrintWords Go.Proofs.YtpkjpiphjdpegaaW.PrintLast Go.Proofs.YtpkjpiphjdpegaaW.PrintMore
attribute [local go_sem] max2_int min2_int max_two min_two max_three min_three max_four min_four
set_option linter.unusedVariables false
set_option linter.unusedSimpArgs false
def paymasterref09_Split.l0 : Nat → ByteArray → List ByteArray → Int → Int → Option (List ByteArray)
  | 0, _, _, _, _ => none
  | k + 1, x0, x3, x4, x5 => if x5 ≤ (x0.size : Int) then (if x5 = (x0.size : Int) then (if 0 ≤ x4 then (if x4 ≤ x5 then (if x3.length < 8796093022208 then (paymasterref09_Split.l0 k x0 (x3 ++ [x0.extract (x4 : Int).toNat (x5 : Int).toNat]) (wrap64 (x5 + 1)) (wrap64 (x5 + 1))) else (none)) else (none)) else (none)) else (if 0 ≤ x5 then (if x5 < (x0.size : Int) then (if (bt x0 x5) = 10 then (if 0 ≤ x4 then (if x4 ≤ x5 then (if x3.length < 8796093022208 then (paymasterref09_Split.l0 k x0 (x3 ++ [x0.extract (x4 : Int).toNat (x5 : Int).toNat]) (wrap64 (x5 + 1)) (wrap64 (x5 + 1))) else (none)) else (none)) else (none)) else (paymasterref09_Split.l0 k x0 x3 x4 (wrap64 (x5 + 1)))) else (none)) else (none))) else (some x3)
def paymasterref09_Split.f (k : Nat) (a0 : ByteArray) : Option (List ByteArray) := paymasterref09_Split.l0 k a0 ([] : List ByteArray) 0 0
set_option maxHeartbeats 8000000 in
set_option maxRecDepth 100000 in
theorem paymasterref09_Split.calls (k : Nat) (a0 : ByteArray) (r : List ByteArray) (w : World) (h : paymasterref09_Split.f k a0 = some r) :
    Calls Try.prog 96 #[.string a0] w fun e w' => ∃ v0_ : Value, e = .returned (v0_) ∧ Kd.R Kd.string 9 w' w.heap.size (fun _ => True) v0_ r ∧ Below w.heap.size w w' := by
  have HB := Aside0.mk (Below.refl w.heap.size w)
  have H : (paymasterref09_Split.l0 k a0 ([] : List ByteArray) 0 0) = some r := h
  clear h
  have H' := Aside0.mk H
  clear H
  go_enter Try.func96, Try.ntmps96
  go_wp2
  go_loopg [3, 4, 5] k (fun kq v3 v4 v5 w' => ∃ (x3_1 : List ByteArray) (x4_1 : Int) (x5_1 : Int), v4 = .int .i64 x4_1 ∧ v5 = .int .i64 x5_1 ∧ Aside0 (paymasterref09_Split.l0 kq a0 x3_1 x4_1 x5_1 = some r) ∧ Aside0 (kq ≤ k) ∧ Aside0 (Kd.R Kd.string 9 w' w.heap.size (fun _ => True) v3 x3_1) ∧ Aside0 (Below w.heap.size w w'))
  case atStart => exact ⟨(([] : List ByteArray)), (0), (0), (by first | rfl | (simp; done) | (simp [*]; done)), (by first | rfl | (simp; done) | (simp [*]; done)), H', ⟨Nat.le_refl _⟩, ⟨by first | exact Kd.R_nil _ _ _ _ _ | exact Kd.N_nil _ _ _ _ _ | exact Kd.V_nil _ _ _ _ _ | exact Kd.Q_nil _ _ _ _ _ | exact Kd.S_nil _ _ _ _ _⟩, ⟨by repeat (first | (with_reducible first | exact HB.out | apply below_alloc | apply pw_below_drewN | apply below_drew1) | exact HB.out)⟩⟩
  case round =>
    clear H'
    obtain ⟨x3_1, x4_1, x5_1, rfl, rfl, HA, HK1, HO_3, HB⟩ := hrel
    cases gk with
    | zero => exact absurd HA.out (by simp [paymasterref09_Split.l0])
    | succ k1 =>
      have H := HA.out
      clear HA
      simp only [paymasterref09_Split.l0] at H
      by_cases c2 : x5_1 ≤ (a0.size : Int)
      · rw [if_pos c2] at H
        have c2b0 : decide (x5_1 ≤ (a0.size : Int)) = true := decide_eq_true c2
        clear c2
        by_cases c3 : x5_1 = (a0.size : Int)
        · rw [if_pos c3] at H
          have c3b0 : (x5_1 == (a0.size : Int)) = true := beq_iff_eq.mpr c3
          have c3b1 : (x5_1 != (a0.size : Int)) = false := bne_eq_false_iff_eq.mpr c3
          clear c3
          by_cases c4 : 0 ≤ x4_1
          · rw [if_pos c4] at H
            have c4b0 := eq_true c4
            have c4b1 : decide (0 ≤ x4_1) = true := decide_eq_true c4
            clear c4
            by_cases c5 : x4_1 ≤ x5_1
            · rw [if_pos c5] at H
              have c5b0 := eq_true c5
              have c5b1 : decide (x4_1 ≤ x5_1) = true := decide_eq_true c5
              clear c5
              have c6b0 := eq_true (of_decide_eq_true (by first | (with_reducible assumption) | assumption) : x5_1 ≤ (a0.size : Int))
              by_cases c7 : x3_1.length < 8796093022208
              · rw [if_pos c7] at H
                have LMc7 := Aside0.mk c7
                clear c7
                obtain ⟨y1465, hy1465⟩ : ∃ y_ : List ByteArray, y_ = (x3_1 ++ [a0.extract (x4_1 : Int).toNat (x5_1 : Int).toNat]) := ⟨_, rfl⟩
                replace H : (paymasterref09_Split.l0 k1 a0 y1465 (wrap64 (x5_1 + 1)) (wrap64 (x5_1 + 1))) = some r := by first | (rw [hy1465]; with_reducible exact H) | (have H2_ := (Option.bind_some _ _).symm.trans H; rw [hy1465]; with_reducible exact H2_) | (have H2_ := (Option.bind_some _ _).symm.trans H; with_reducible exact H2_) | with_reducible exact H | (rw [hy1465]; exact H) | exact H
                have Ny1465 := Aside0.mk hy1465
                clear hy1465
                have H' := Aside0.mk H
                clear H
                go_wp2_with (first | ((with_reducible refine gate_builtin (b := .append) (xs := #[.tmp 22, .tmp 27]) rfl ?_); at_builtin; refine Kd.R_append Kd.string (w0 := w) w.heap.size rfl (.tmp 22) (.tmp 27) 73 9 (.string ⟨#[]⟩) 16 rfl Try.underlying73 info9 rfl (by decide) (by omega) u3 x3_1 (a0.extract (x4_1 : Int).toNat (x5_1 : Int).toNat) [.string (a0.extract (x4_1 : Int).toNat (x5_1 : Int).toNat)] (fun _ => True) (fun _ => False) rfl rfl ?aP (fun _ hk => hk.elim) ?aF ?aO ?aB ?aS ?aL ?_; (case aP => exact rfl); (case aB => exact (by repeat (first | (with_reducible first | exact HB.out | apply below_alloc | apply pw_below_drewN | apply below_drew1) | exact HB.out))); (case aF => exact (fun _ _ => trivial)); (case aO => exact (by (with_reducible repeat (first | apply Kd.R_alloc | apply Kd.R_drewN | apply Kd.R_drew)); exact HO_3.out)); (case aS => exact (below_size (by repeat (first | (with_reducible first | exact HB.out | apply below_alloc | apply pw_below_drewN | apply below_drew1) | exact HB.out)))); (case aL => have := LMc7.out; omega); intro v1466 w8 ho hb hg hat; rw [← Ny1465.out] at ho; have n0_ := Aside0.mk (hb); have n1_ := Aside0.mk (ho); clear HB; clear HO_3; have HB := n0_; have HO1467 := n1_; clear n0_ n1_; clear ho hb hg hat))
                go_roundg k1
                case measure => have := HK1.out; omega
                case rel => exact ⟨(y1465), (wrap64 (x5_1 + 1)), (wrap64 (x5_1 + 1)), (by first | rfl | (simp; done) | (simp [*]; done)), (by first | rfl | (simp; done) | (simp [*]; done)), H', ⟨by have := HK1.out; omega⟩, ⟨by (with_reducible repeat (first | apply Kd.R_alloc | apply Kd.R_drewN | apply Kd.R_drew)); exact HO1467.out⟩, ⟨by repeat (first | (with_reducible first | exact HB.out | apply below_alloc | apply pw_below_drewN | apply below_drew1) | exact HB.out)⟩⟩
              · rw [if_neg c7] at H
                exact absurd H (by simp)
            · rw [if_neg c5] at H
              exact absurd H (by simp)
          · rw [if_neg c4] at H
            exact absurd H (by simp)
        · rw [if_neg c3] at H
          have c3b0 : (x5_1 == (a0.size : Int)) = false := beq_eq_false_iff_ne.mpr c3
          have c3b1 : (x5_1 != (a0.size : Int)) = true := bne_iff_ne.mpr c3
          by_cases c9 : 0 ≤ x5_1
          · rw [if_pos c9] at H
            have c9b0 : decide (0 ≤ x5_1) = true := decide_eq_true c9
            clear c9
            by_cases c10 : x5_1 < (a0.size : Int)
            · rw [if_pos c10] at H
              have c10b0 : decide (x5_1 < (a0.size : Int)) = true := decide_eq_true c10
              clear c10
              by_cases c12 : (bt a0 x5_1) = 10
              · rw [if_pos c12] at H
                have c12b0 : ((bt a0 x5_1) == 10) = true := beq_iff_eq.mpr c12
                have c12b1 : ((bt a0 x5_1) != 10) = false := bne_eq_false_iff_eq.mpr c12
                clear c12
                by_cases c13 : 0 ≤ x4_1
                · rw [if_pos c13] at H
                  have c13b0 := eq_true c13
                  have c13b1 : decide (0 ≤ x4_1) = true := decide_eq_true c13
                  clear c13
                  by_cases c14 : x4_1 ≤ x5_1
                  · rw [if_pos c14] at H
                    have c14b0 := eq_true c14
                    have c14b1 : decide (x4_1 ≤ x5_1) = true := decide_eq_true c14
                    clear c14
                    have c15b0 := eq_true (of_decide_eq_true (by first | (with_reducible assumption) | assumption) : x5_1 ≤ (a0.size : Int))
                    by_cases c16 : x3_1.length < 8796093022208
                    · rw [if_pos c16] at H
                      have LMc16 := Aside0.mk c16
                      clear c16
                      obtain ⟨y1468, hy1468⟩ : ∃ y_ : List ByteArray, y_ = (x3_1 ++ [a0.extract (x4_1 : Int).toNat (x5_1 : Int).toNat]) := ⟨_, rfl⟩
                      replace H : (paymasterref09_Split.l0 k1 a0 y1468 (wrap64 (x5_1 + 1)) (wrap64 (x5_1 + 1))) = some r := by first | (rw [hy1468]; with_reducible exact H) | (have H2_ := (Option.bind_some _ _).symm.trans H; rw [hy1468]; with_reducible exact H2_) | (have H2_ := (Option.bind_some _ _).symm.trans H; with_reducible exact H2_) | with_reducible exact H | (rw [hy1468]; exact H) | exact H
                      have Ny1468 := Aside0.mk hy1468
                      clear hy1468
                      have H' := Aside0.mk H
                      clear H
                      have p11 : 0 ≤ (x5_1 : Int) := of_decide_eq_true (by first | (with_reducible assumption) | assumption)
                      have q11 : x5_1 < (a0.size : Int) := of_decide_eq_true (by first | (with_reducible assumption) | assumption)
                      have hx11 := bt_at a0 x5_1
                      replace p11 := eq_true p11
                      replace q11 := eq_true q11
                      go_wp2_with (first | ((with_reducible refine gate_builtin (b := .append) (xs := #[.tmp 22, .tmp 27]) rfl ?_); at_builtin; refine Kd.R_append Kd.string (w0 := w) w.heap.size rfl (.tmp 22) (.tmp 27) 73 9 (.string ⟨#[]⟩) 16 rfl Try.underlying73 info9 rfl (by decide) (by omega) u3 x3_1 (a0.extract (x4_1 : Int).toNat (x5_1 : Int).toNat) [.string (a0.extract (x4_1 : Int).toNat (x5_1 : Int).toNat)] (fun _ => True) (fun _ => False) rfl rfl ?aP (fun _ hk => hk.elim) ?aF ?aO ?aB ?aS ?aL ?_; (case aP => exact rfl); (case aB => exact (by repeat (first | (with_reducible first | exact HB.out | apply below_alloc | apply pw_below_drewN | apply below_drew1) | exact HB.out))); (case aF => exact (fun _ _ => trivial)); (case aO => exact (by (with_reducible repeat (first | apply Kd.R_alloc | apply Kd.R_drewN | apply Kd.R_drew)); exact HO_3.out)); (case aS => exact (below_size (by repeat (first | (with_reducible first | exact HB.out | apply below_alloc | apply pw_below_drewN | apply below_drew1) | exact HB.out)))); (case aL => have := LMc16.out; omega); intro v1469 w17 ho hb hg hat; rw [← Ny1468.out] at ho; have n0_ := Aside0.mk (hb); have n1_ := Aside0.mk (ho); clear HB; clear HO_3; have HB := n0_; have HO1470 := n1_; clear n0_ n1_; clear ho hb hg hat))
                      go_roundg k1
                      case measure => have := HK1.out; omega
                      case rel => exact ⟨(y1468), (wrap64 (x5_1 + 1)), (wrap64 (x5_1 + 1)), (by first | rfl | (simp; done) | (simp [*]; done)), (by first | rfl | (simp; done) | (simp [*]; done)), H', ⟨by have := HK1.out; omega⟩, ⟨by (with_reducible repeat (first | apply Kd.R_alloc | apply Kd.R_drewN | apply Kd.R_drew)); exact HO1470.out⟩, ⟨by repeat (first | (with_reducible first | exact HB.out | apply below_alloc | apply pw_below_drewN | apply below_drew1) | exact HB.out)⟩⟩
                    · rw [if_neg c16] at H
                      exact absurd H (by simp)
                  · rw [if_neg c14] at H
                    exact absurd H (by simp)
                · rw [if_neg c13] at H
                  exact absurd H (by simp)
              · rw [if_neg c12] at H
                have c12b0 : ((bt a0 x5_1) == 10) = false := beq_eq_false_iff_ne.mpr c12
                have c12b1 : ((bt a0 x5_1) != 10) = true := bne_iff_ne.mpr c12
                have H' := Aside0.mk H
                clear H
                have p11 : 0 ≤ (x5_1 : Int) := of_decide_eq_true (by first | (with_reducible assumption) | assumption)
                have q11 : x5_1 < (a0.size : Int) := of_decide_eq_true (by first | (with_reducible assumption) | assumption)
                have hx11 := bt_at a0 x5_1
                replace p11 := eq_true p11
                replace q11 := eq_true q11
                go_wp2
                go_roundg k1
                case measure => have := HK1.out; omega
                case rel => exact ⟨(x3_1), (x4_1), (wrap64 (x5_1 + 1)), (by first | rfl | (simp; done) | (simp [*]; done)), (by first | rfl | (simp; done) | (simp [*]; done)), H', ⟨by have := HK1.out; omega⟩, ⟨by (with_reducible repeat (first | apply Kd.R_alloc | apply Kd.R_drewN | apply Kd.R_drew)); exact HO_3.out⟩, ⟨by repeat (first | (with_reducible first | exact HB.out | apply below_alloc | apply pw_below_drewN | apply below_drew1) | exact HB.out)⟩⟩
            · rw [if_neg c10] at H
              exact absurd H (by simp)
          · rw [if_neg c9] at H
            exact absurd H (by simp)
      · rw [if_neg c2] at H
        have c2b0 : decide (x5_1 ≤ (a0.size : Int)) = false := decide_eq_false c2
        clear c2
        obtain rfl := Option.some.inj H
        go_wp2
        go_ret
        exact ⟨_, by first | rfl | (simp [errW_none, errW_some] <;> rfl) | (simp [*, errW_none, errW_some] <;> rfl), by (with_reducible repeat (first | apply Kd.R_alloc | apply Kd.R_drewN | apply Kd.R_drew)); exact HO_3.out, by repeat (first | (with_reducible first | exact HB.out | apply below_alloc | apply pw_below_drewN | apply below_drew1) | exact HB.out)⟩
def paymasterref09_Join.l0 : Nat → List ByteArray → ByteArray → Int → Option (ByteArray × Int)
  | 0, _, _, _ => none
  | k + 1, x0, x4, x5 => if x5 < (x0.length : Int) then (if 0 ≤ x5 then ((paymasterref09_Split.f k (rdOf ByteArray.empty x0 x5)).bind fun t1472 => (if (t1472.length : Int) > 1 then (some ((⟨#[]⟩ : ByteArray), 2)) else (if x5 > 0 then (if x4.size + 1 ≤ 9223372036854775807 then (if (x4 ++ (⟨#[10]⟩ : ByteArray)).size + (rdOf ByteArray.empty x0 x5).size ≤ 9223372036854775807 then (paymasterref09_Join.l0 k x0 ((x4 ++ (⟨#[10]⟩ : ByteArray)) ++ (rdOf ByteArray.empty x0 x5)) (wrap64 (x5 + 1))) else (none)) else (none)) else (if x4.size + (rdOf ByteArray.empty x0 x5).size ≤ 9223372036854775807 then (paymasterref09_Join.l0 k x0 (x4 ++ (rdOf ByteArray.empty x0 x5)) (wrap64 (x5 + 1))) else (none))))) else (none)) else (some (x4, 0))
def paymasterref09_Join.f (k : Nat) (l0 : List ByteArray) : Option (ByteArray × Int) := paymasterref09_Join.l0 k l0 (⟨#[]⟩ : ByteArray) 0
set_option maxHeartbeats 8000000 in
set_option maxRecDepth 100000 in
theorem paymasterref09_Join.calls (k : Nat) (A0 : Option Addr) (c0 : Nat) (l0 : List ByteArray) (r1 : ByteArray) (r2 : Int) (w : World) (hr0 : Kd.C Kd.string w A0 l0.length l0) (hc0 : l0.length ≤ c0) (h : paymasterref09_Join.f k l0 = some (r1, r2)) :
    Calls Try.prog 68 #[.slice A0 l0.length c0] w fun e w' => e = .returned (.tuple #[.string r1, .int .i64 r2]) ∧ Below w.heap.size w w' := by
  have HR0 := Aside0.mk hr0
  have HC0 := Aside0.mk hc0
  clear hr0 hc0
  have HB := Aside0.mk (Below.refl w.heap.size w)
  have H : (paymasterref09_Join.l0 k l0 (⟨#[]⟩ : ByteArray) 0) = some (r1, r2) := h
  clear h
  have H' := Aside0.mk H
  clear H
  go_enter Try.func68, Try.ntmps68
  go_wp2
  go_loopg [4, 5] k (fun kq v4 v5 w' => ∃ (x4_1 : ByteArray) (x5_1 : Int), v4 = .string x4_1 ∧ v5 = .int .i64 x5_1 ∧ Aside0 (paymasterref09_Join.l0 kq l0 x4_1 x5_1 = some (r1, r2)) ∧ Aside0 (kq ≤ k) ∧ Aside0 (Below w.heap.size w w'))
  case atStart => exact ⟨((⟨#[]⟩ : ByteArray)), (0), (by first | rfl | (simp; done) | (simp [*]; done)), (by first | rfl | (simp; done) | (simp [*]; done)), H', ⟨Nat.le_refl _⟩, ⟨by repeat (first | (with_reducible first | exact HB.out | apply below_alloc | apply pw_below_drewN | apply below_drew1) | exact HB.out)⟩⟩
  case round =>
    clear H'
    obtain ⟨x4_1, x5_1, rfl, rfl, HA, HK1, HB⟩ := hrel
    cases gk with
    | zero => exact absurd HA.out (by simp [paymasterref09_Join.l0])
    | succ k1 =>
      have H := HA.out
      clear HA
      simp only [paymasterref09_Join.l0] at H
      by_cases c2 : x5_1 < (l0.length : Int)
      · rw [if_pos c2] at H
        have c2b0 : decide (x5_1 < (l0.length : Int)) = true := decide_eq_true c2
        clear c2
        by_cases c3 : 0 ≤ x5_1
        · rw [if_pos c3] at H
          have c3b0 : decide (0 ≤ x5_1) = true := decide_eq_true c3
          clear c3
          replace H := Option.bind_eq_some_iff.mp H
          obtain ⟨t1472, A40, H⟩ := H
          replace H : (if (t1472.length : Int) > 1 then (some ((⟨#[]⟩ : ByteArray), 2)) else (if x5_1 > 0 then (if x4_1.size + 1 ≤ 9223372036854775807 then (if (x4_1 ++ (⟨#[10]⟩ : ByteArray)).size + (rdOf ByteArray.empty l0 x5_1).size ≤ 9223372036854775807 then (paymasterref09_Join.l0 k1 l0 ((x4_1 ++ (⟨#[10]⟩ : ByteArray)) ++ (rdOf ByteArray.empty l0 x5_1)) (wrap64 (x5_1 + 1))) else (none)) else (none)) else (if x4_1.size + (rdOf ByteArray.empty l0 x5_1).size ≤ 9223372036854775807 then (paymasterref09_Join.l0 k1 l0 (x4_1 ++ (rdOf ByteArray.empty l0 x5_1)) (wrap64 (x5_1 + 1))) else (none)))) = some (r1, r2) := H
          have A4 := Aside0.mk A40
          clear A40
          by_cases c5 : (t1472.length : Int) > 1
          · rw [if_pos c5] at H
            have c5b0 : decide (1 < (t1472.length : Int)) = true := decide_eq_true c5
            have c5b1 : decide (1 < t1472.length) = true := decide_eq_true (by omega)
            clear c5
            simp only [Option.some.injEq, Prod.mk.injEq] at H
            obtain ⟨rfl, rfl⟩ := H
            have p1471 : 0 ≤ (x5_1 : Int) := of_decide_eq_true (by first | (with_reducible assumption) | assumption)
            have q1471 : x5_1 < (l0.length : Int) := of_decide_eq_true (by first | (with_reducible assumption) | assumption)
            obtain ⟨ad1471, e1471, hx1471_0⟩ := Kd.at_string HR0.out x5_1 p1471 q1471
            cases e1471
            replace hx1471_0 := (HB.out.cell (World.block_lt_of_cell? w _ hx1471_0)).trans hx1471_0
            replace p1471 := eq_true p1471
            replace q1471 := eq_true q1471
            go_wp2_with (first | ((with_reducible refine gate_callee (f := 96) rfl ?_); refine goesL_ (some 16) rfl rfl Try.func96 (by kernel_rfl) rfl #[.string (rdOf ByteArray.empty l0 x5_1)] rfl (by (try simp only [List.map_toArray, List.map_cons, List.map_nil]); first | done | rfl | (simp only [List.length_drop, List.length_take]; rfl)) ?_; (with_reducible refine (paymasterref09_Split.calls k1 (rdOf ByteArray.empty l0 x5_1) t1472 _ A4.out).mono ?_); rintro e w6 ⟨v1473, rfl, ho0, hb⟩; refine ⟨_, rfl, ?_⟩; have n0_ := Aside0.mk (Kd.R_lower ho0 (below_size (by repeat (first | (with_reducible first | exact HB.out | apply below_alloc | apply pw_below_drewN | apply below_drew1) | exact HB.out)))); have n1_ := Aside0.mk (below_step (by repeat (first | (with_reducible first | exact HB.out | apply below_alloc | apply pw_below_drewN | apply below_drew1) | exact HB.out)) hb); clear HB; have HO1474 := n0_; have HB := n1_; clear n0_ n1_; (try clear hb); (try clear hb2); (try clear hk); (try clear hi); (try clear ho0); obtain ⟨Ao7, co7, eo7⟩ := Kd.R_slice HO1474.out; subst eo7))
            go_ret2
            exact ⟨by first | rfl | (simp [errW_none, errW_some] <;> rfl) | (simp [*, errW_none, errW_some] <;> rfl), by repeat (first | (with_reducible first | exact HB.out | apply below_alloc | apply pw_below_drewN | apply below_drew1) | exact HB.out)⟩
          · rw [if_neg c5] at H
            have c5b0 : decide (1 < (t1472.length : Int)) = false := decide_eq_false c5
            have c5b1 : decide (1 < t1472.length) = false := decide_eq_false (by omega)
            clear c5
            by_cases c8 : x5_1 > 0
            · rw [if_pos c8] at H
              have c8b0 : decide (0 < x5_1) = true := decide_eq_true c8
              clear c8
              by_cases c9 : x4_1.size + 1 ≤ 9223372036854775807
              · rw [if_pos c9] at H
                have c9b0 := eq_true c9
                have c9b1 : decide (x4_1.size + 1 ≤ 9223372036854775807) = true := decide_eq_true c9
                try have c9b2 : (9223372036854775807 < x4_1.size + 1) = False := eq_false (Nat.not_lt.2 c9)
                by_cases c10 : (x4_1 ++ (⟨#[10]⟩ : ByteArray)).size + (rdOf ByteArray.empty l0 x5_1).size ≤ 9223372036854775807
                · rw [if_pos c10] at H
                  have c10b0 := eq_true c10
                  have c10b1 : decide ((x4_1 ++ (⟨#[10]⟩ : ByteArray)).size + (rdOf ByteArray.empty l0 x5_1).size ≤ 9223372036854775807) = true := decide_eq_true c10
                  try have c10b2 : (9223372036854775807 < (x4_1 ++ (⟨#[10]⟩ : ByteArray)).size + (rdOf ByteArray.empty l0 x5_1).size) = False := eq_false (Nat.not_lt.2 c10)
                  have H' := Aside0.mk H
                  clear H
                  have p1471 : 0 ≤ (x5_1 : Int) := of_decide_eq_true (by first | (with_reducible assumption) | assumption)
                  have q1471 : x5_1 < (l0.length : Int) := of_decide_eq_true (by first | (with_reducible assumption) | assumption)
                  obtain ⟨ad1471, e1471, hx1471_0⟩ := Kd.at_string HR0.out x5_1 p1471 q1471
                  cases e1471
                  replace hx1471_0 := (HB.out.cell (World.block_lt_of_cell? w _ hx1471_0)).trans hx1471_0
                  replace p1471 := eq_true p1471
                  replace q1471 := eq_true q1471
                  go_wp2_with (first | ((with_reducible refine gate_callee (f := 96) rfl ?_); refine goesL_ (some 16) rfl rfl Try.func96 (by kernel_rfl) rfl #[.string (rdOf ByteArray.empty l0 x5_1)] rfl (by (try simp only [List.map_toArray, List.map_cons, List.map_nil]); first | done | rfl | (simp only [List.length_drop, List.length_take]; rfl)) ?_; (with_reducible refine (paymasterref09_Split.calls k1 (rdOf ByteArray.empty l0 x5_1) t1472 _ A4.out).mono ?_); rintro e w11 ⟨v1473, rfl, ho0, hb⟩; refine ⟨_, rfl, ?_⟩; have n0_ := Aside0.mk (Kd.R_lower ho0 (below_size (by repeat (first | (with_reducible first | exact HB.out | apply below_alloc | apply pw_below_drewN | apply below_drew1) | exact HB.out)))); have n1_ := Aside0.mk (below_step (by repeat (first | (with_reducible first | exact HB.out | apply below_alloc | apply pw_below_drewN | apply below_drew1) | exact HB.out)) hb); clear HB; have HO1474 := n0_; have HB := n1_; clear n0_ n1_; (try clear hb); (try clear hb2); (try clear hk); (try clear hi); (try clear ho0); obtain ⟨Ao12, co12, eo12⟩ := Kd.R_slice HO1474.out; subst eo12; have p1475 : 0 ≤ (x5_1 : Int) := of_decide_eq_true (by first | (with_reducible assumption) | assumption); have q1475 : x5_1 < (l0.length : Int) := of_decide_eq_true (by first | (with_reducible assumption) | assumption); obtain ⟨ad1475, e1475, hx1475_0⟩ := Kd.at_string HR0.out x5_1 p1475 q1475; obtain rfl : ad1471 = ad1475 := (by injection e1475); replace hx1475_0 := (HB.out.cell (World.block_lt_of_cell? w _ hx1475_0)).trans hx1475_0; replace p1475 := eq_true p1475; replace q1475 := eq_true q1475))
                  go_roundg k1
                  case measure => have := HK1.out; omega
                  case rel => exact ⟨((x4_1 ++ (⟨#[10]⟩ : ByteArray)) ++ (rdOf ByteArray.empty l0 x5_1)), (wrap64 (x5_1 + 1)), (by first | rfl | (simp; done) | (simp [*]; done)), (by first | rfl | (simp; done) | (simp [*]; done)), H', ⟨by have := HK1.out; omega⟩, ⟨by repeat (first | (with_reducible first | exact HB.out | apply below_alloc | apply pw_below_drewN | apply below_drew1) | exact HB.out)⟩⟩
                · rw [if_neg c10] at H
                  exact absurd H (by simp)
              · rw [if_neg c9] at H
                exact absurd H (by simp)
            · rw [if_neg c8] at H
              have c8b0 : decide (0 < x5_1) = false := decide_eq_false c8
              clear c8
              by_cases c13 : x4_1.size + (rdOf ByteArray.empty l0 x5_1).size ≤ 9223372036854775807
              · rw [if_pos c13] at H
                have c13b0 := eq_true c13
                have c13b1 : decide (x4_1.size + (rdOf ByteArray.empty l0 x5_1).size ≤ 9223372036854775807) = true := decide_eq_true c13
                try have c13b2 : (9223372036854775807 < x4_1.size + (rdOf ByteArray.empty l0 x5_1).size) = False := eq_false (Nat.not_lt.2 c13)
                have H' := Aside0.mk H
                clear H
                have p1471 : 0 ≤ (x5_1 : Int) := of_decide_eq_true (by first | (with_reducible assumption) | assumption)
                have q1471 : x5_1 < (l0.length : Int) := of_decide_eq_true (by first | (with_reducible assumption) | assumption)
                obtain ⟨ad1471, e1471, hx1471_0⟩ := Kd.at_string HR0.out x5_1 p1471 q1471
                cases e1471
                replace hx1471_0 := (HB.out.cell (World.block_lt_of_cell? w _ hx1471_0)).trans hx1471_0
                replace p1471 := eq_true p1471
                replace q1471 := eq_true q1471
                go_wp2_with (first | ((with_reducible refine gate_callee (f := 96) rfl ?_); refine goesL_ (some 16) rfl rfl Try.func96 (by kernel_rfl) rfl #[.string (rdOf ByteArray.empty l0 x5_1)] rfl (by (try simp only [List.map_toArray, List.map_cons, List.map_nil]); first | done | rfl | (simp only [List.length_drop, List.length_take]; rfl)) ?_; (with_reducible refine (paymasterref09_Split.calls k1 (rdOf ByteArray.empty l0 x5_1) t1472 _ A4.out).mono ?_); rintro e w14 ⟨v1473, rfl, ho0, hb⟩; refine ⟨_, rfl, ?_⟩; have n0_ := Aside0.mk (Kd.R_lower ho0 (below_size (by repeat (first | (with_reducible first | exact HB.out | apply below_alloc | apply pw_below_drewN | apply below_drew1) | exact HB.out)))); have n1_ := Aside0.mk (below_step (by repeat (first | (with_reducible first | exact HB.out | apply below_alloc | apply pw_below_drewN | apply below_drew1) | exact HB.out)) hb); clear HB; have HO1474 := n0_; have HB := n1_; clear n0_ n1_; (try clear hb); (try clear hb2); (try clear hk); (try clear hi); (try clear ho0); obtain ⟨Ao15, co15, eo15⟩ := Kd.R_slice HO1474.out; subst eo15; have p1476 : 0 ≤ (x5_1 : Int) := of_decide_eq_true (by first | (with_reducible assumption) | assumption); have q1476 : x5_1 < (l0.length : Int) := of_decide_eq_true (by first | (with_reducible assumption) | assumption); obtain ⟨ad1476, e1476, hx1476_0⟩ := Kd.at_string HR0.out x5_1 p1476 q1476; obtain rfl : ad1471 = ad1476 := (by injection e1476); replace hx1476_0 := (HB.out.cell (World.block_lt_of_cell? w _ hx1476_0)).trans hx1476_0; replace p1476 := eq_true p1476; replace q1476 := eq_true q1476))
                go_roundg k1
                case measure => have := HK1.out; omega
                case rel => exact ⟨(x4_1 ++ (rdOf ByteArray.empty l0 x5_1)), (wrap64 (x5_1 + 1)), (by first | rfl | (simp; done) | (simp [*]; done)), (by first | rfl | (simp; done) | (simp [*]; done)), H', ⟨by have := HK1.out; omega⟩, ⟨by repeat (first | (with_reducible first | exact HB.out | apply below_alloc | apply pw_below_drewN | apply below_drew1) | exact HB.out)⟩⟩
              · rw [if_neg c13] at H
                exact absurd H (by simp)
        · rw [if_neg c3] at H
          exact absurd H (by simp)
      · rw [if_neg c2] at H
        have c2b0 : decide (x5_1 < (l0.length : Int)) = false := decide_eq_false c2
        clear c2
        simp only [Option.some.injEq, Prod.mk.injEq] at H
        obtain ⟨rfl, rfl⟩ := H
        go_wp2
        go_ret2
        exact ⟨by first | rfl | (simp [errW_none, errW_some] <;> rfl) | (simp [*, errW_none, errW_some] <;> rfl), by repeat (first | (with_reducible first | exact HB.out | apply below_alloc | apply pw_below_drewN | apply below_drew1) | exact HB.out)⟩
def paymasterref09_Same.l0 : Nat → List ByteArray → List ByteArray → Int → Option (Bool)
  | 0, _, _, _ => none
  | k + 1, x0, x1, x5 => if x5 < (x0.length : Int) then (if 0 ≤ x5 then (if x5 < (x1.length : Int) then (if (rdOf ByteArray.empty x0 x5).toList = (rdOf ByteArray.empty x1 x5).toList then (paymasterref09_Same.l0 k x0 x1 (wrap64 (x5 + 1))) else (some false)) else (none)) else (none)) else (some true)
def paymasterref09_Same.f (k : Nat) (l0 : List ByteArray) (l1 : List ByteArray) : Option (Bool) := if (l0.length : Int) = (l1.length : Int) then (paymasterref09_Same.l0 k l0 l1 0) else (some false)
set_option maxHeartbeats 8000000 in
set_option maxRecDepth 100000 in
theorem paymasterref09_Same.calls (k : Nat) (A0 : Option Addr) (c0 : Nat) (l0 : List ByteArray) (A1 : Option Addr) (c1 : Nat) (l1 : List ByteArray) (r : Bool) (w : World) (hr0 : Kd.C Kd.string w A0 l0.length l0) (hc0 : l0.length ≤ c0) (hr1 : Kd.C Kd.string w A1 l1.length l1) (hc1 : l1.length ≤ c1) (h : paymasterref09_Same.f k l0 l1 = some r) :
    Calls Try.prog 69 #[.slice A0 l0.length c0, .slice A1 l1.length c1] w fun e w' => e = .returned (.bool r) ∧ Drawn0 w w' := by
  have HR0 := Aside0.mk hr0
  have HC0 := Aside0.mk hc0
  clear hr0 hc0
  have HR1 := Aside0.mk hr1
  have HC1 := Aside0.mk hc1
  clear hr1 hc1
  have H : (if (l0.length : Int) = (l1.length : Int) then (paymasterref09_Same.l0 k l0 l1 0) else (some false)) = some r := h
  clear h
  by_cases c3 : (l0.length : Int) = (l1.length : Int)
  · rw [if_pos c3] at H
    have c3b0 : ((l0.length : Int) == (l1.length : Int)) = true := beq_iff_eq.mpr c3
    have c3b1 : ((l0.length : Int) != (l1.length : Int)) = false := bne_eq_false_iff_eq.mpr c3
    have c3b2 : (l0.length == l1.length) = true := by first | simpa using c3 | (simp at c3 ⊢; omega)
    clear c3
    have H' := Aside0.mk H
    clear H
    go_enter Try.func69, Try.ntmps69
    go_wp2
    repeat (go_quiet (fail); try go_wp2)
    go_loopg [5] k (fun kq v5 w' => ∃ (x5_1 : Int), v5 = .int .i64 x5_1 ∧ Aside0 (paymasterref09_Same.l0 kq l0 l1 x5_1 = some r) ∧ Aside0 (kq ≤ k) ∧ Drawn0 w w')
    case atStart => exact ⟨(0), (by first | rfl | (simp; done) | (simp [*]; done)), H', ⟨Nat.le_refl _⟩, by repeat (first | exact Drawn0.refl _ | apply Drawn0.step)⟩
    case round =>
      clear H'
      try clear c1
      try clear p2
      try clear c3
      try clear c3b0
      try clear c3b1
      try clear c3b2
      obtain ⟨x5_1, rfl, HA, HK1, ⟨m1, rfl⟩⟩ := hrel
      cases gk with
      | zero => exact absurd HA.out (by simp [paymasterref09_Same.l0])
      | succ k1 =>
        have H := HA.out
        clear HA
        simp only [paymasterref09_Same.l0] at H
        by_cases c4 : x5_1 < (l0.length : Int)
        · rw [if_pos c4] at H
          have c4b0 : decide (x5_1 < (l0.length : Int)) = true := decide_eq_true c4
          clear c4
          by_cases c5 : 0 ≤ x5_1
          · rw [if_pos c5] at H
            have c5b0 : decide (0 ≤ x5_1) = true := decide_eq_true c5
            clear c5
            by_cases c6 : x5_1 < (l1.length : Int)
            · rw [if_pos c6] at H
              have c6b0 : decide (x5_1 < (l1.length : Int)) = true := decide_eq_true c6
              clear c6
              by_cases c7 : (rdOf ByteArray.empty l0 x5_1).toList = (rdOf ByteArray.empty l1 x5_1).toList
              · rw [if_pos c7] at H
                have c7b0 : ((rdOf ByteArray.empty l0 x5_1).toList == (rdOf ByteArray.empty l1 x5_1).toList) = true := beq_iff_eq.mpr c7
                have c7b1 : ((rdOf ByteArray.empty l0 x5_1).toList != (rdOf ByteArray.empty l1 x5_1).toList) = false := bne_eq_false_iff_eq.mpr c7
                clear c7
                have H' := Aside0.mk H
                clear H
                have p1477 : 0 ≤ (x5_1 : Int) := of_decide_eq_true (by first | (with_reducible assumption) | assumption)
                have q1477 : x5_1 < (l0.length : Int) := of_decide_eq_true (by first | (with_reducible assumption) | assumption)
                obtain ⟨ad1477, e1477, hx1477_0⟩ := Kd.at_string HR0.out x5_1 p1477 q1477
                cases e1477
                replace p1477 := eq_true p1477
                replace q1477 := eq_true q1477
                have p1478 : 0 ≤ (x5_1 : Int) := of_decide_eq_true (by first | (with_reducible assumption) | assumption)
                have q1478 : x5_1 < (l1.length : Int) := of_decide_eq_true (by first | (with_reducible assumption) | assumption)
                obtain ⟨ad1478, e1478, hx1478_0⟩ := Kd.at_string HR1.out x5_1 p1478 q1478
                cases e1478
                replace p1478 := eq_true p1478
                replace q1478 := eq_true q1478
                go_wp2
                repeat (go_quiet (fail); try go_wp2)
                go_roundg k1
                case measure => have := HK1.out; omega
                case rel => exact ⟨(wrap64 (x5_1 + 1)), (by first | rfl | (simp; done) | (simp [*]; done)), H', ⟨by have := HK1.out; omega⟩, by repeat (first | exact Drawn0.refl _ | apply Drawn0.step)⟩
              · rw [if_neg c7] at H
                have c7b0 : ((rdOf ByteArray.empty l0 x5_1).toList == (rdOf ByteArray.empty l1 x5_1).toList) = false := beq_eq_false_iff_ne.mpr c7
                have c7b1 : ((rdOf ByteArray.empty l0 x5_1).toList != (rdOf ByteArray.empty l1 x5_1).toList) = true := bne_iff_ne.mpr c7
                obtain rfl := Option.some.inj H
                have p1477 : 0 ≤ (x5_1 : Int) := of_decide_eq_true (by first | (with_reducible assumption) | assumption)
                have q1477 : x5_1 < (l0.length : Int) := of_decide_eq_true (by first | (with_reducible assumption) | assumption)
                obtain ⟨ad1477, e1477, hx1477_0⟩ := Kd.at_string HR0.out x5_1 p1477 q1477
                cases e1477
                replace p1477 := eq_true p1477
                replace q1477 := eq_true q1477
                have p1478 : 0 ≤ (x5_1 : Int) := of_decide_eq_true (by first | (with_reducible assumption) | assumption)
                have q1478 : x5_1 < (l1.length : Int) := of_decide_eq_true (by first | (with_reducible assumption) | assumption)
                obtain ⟨ad1478, e1478, hx1478_0⟩ := Kd.at_string HR1.out x5_1 p1478 q1478
                cases e1478
                replace p1478 := eq_true p1478
                replace q1478 := eq_true q1478
                go_wp2
                repeat (go_quiet (fail); try go_wp2)
                go_ret
                exact ⟨by first | rfl | (simp; done) | (simp [*]; done), by repeat (first | exact Drawn0.refl _ | apply Drawn0.step)⟩
            · rw [if_neg c6] at H
              exact absurd H (by simp)
          · rw [if_neg c5] at H
            exact absurd H (by simp)
        · rw [if_neg c4] at H
          have c4b0 : decide (x5_1 < (l0.length : Int)) = false := decide_eq_false c4
          clear c4
          obtain rfl := Option.some.inj H
          go_wp2
          repeat (go_quiet (fail); try go_wp2)
          go_ret
          exact ⟨by first | rfl | (simp; done) | (simp [*]; done), by repeat (first | exact Drawn0.refl _ | apply Drawn0.step)⟩
  · rw [if_neg c3] at H
    have c3b0 : ((l0.length : Int) == (l1.length : Int)) = false := beq_eq_false_iff_ne.mpr c3
    have c3b1 : ((l0.length : Int) != (l1.length : Int)) = true := bne_iff_ne.mpr c3
    have c3b2 : (l0.length == l1.length) = false := by first | simpa using c3 | (simp at c3 ⊢; omega)
    obtain rfl := Option.some.inj H
    go_enter Try.func69, Try.ntmps69
    go_wp2
    repeat (go_quiet (fail); try go_wp2)
    go_ret
    exact ⟨by first | rfl | (simp; done) | (simp [*]; done), by repeat (first | exact Drawn0.refl _ | apply Drawn0.step)⟩
def paymasterlaw09_LinesJoins.l0 : Nat → List ByteArray → Int → Option (Bool)
  | 0, _, _ => none
  | k + 1, x0, x3 => if x3 < (x0.length : Int) then (if 0 ≤ x3 then (if ((rdOf ByteArray.empty x0 x3).size : Int) > 200 then (some true) else (paymasterlaw09_LinesJoins.l0 k x0 (wrap64 (x3 + 1)))) else (none)) else ((some (([] : List ByteArray) : List ByteArray)).bind fun y1480 => (if y1480.length + x0.length < 8796093022208 then ((some (y1480 ++ x0 : List ByteArray)).bind fun y1483 => ((lines_Join.f y1483).bind fun bt1486 => ((paymasterref09_Join.f k x0).bind fun bt1488 => (if bt1486.1.toList = bt1488.1.toList then (if bt1486.2 = bt1488.2 then ((paymasterref09_Same.f k y1483 x0).bind fun t1490 => (some t1490)) else (none)) else (none))))) else (none)))
def paymasterlaw09_LinesJoins.f (k : Nat) (l0 : List ByteArray) : Option (Bool) := if (l0.length : Int) > 100 then (some true) else (paymasterlaw09_LinesJoins.l0 k l0 0)
set_option maxHeartbeats 8000000 in
set_option maxRecDepth 100000 in
theorem paymasterlaw09_LinesJoins.calls (k : Nat) (A0 : Option Addr) (c0 : Nat) (l0 : List ByteArray) (r : Bool) (w : World) (hr0 : Kd.C Kd.string w A0 l0.length l0) (hc0 : l0.length ≤ c0) (h : paymasterlaw09_LinesJoins.f k l0 = some r) :
    Calls Try.prog 17 #[.slice A0 l0.length c0] w fun e w' => e = .returned (.bool r) ∧ Below w.heap.size w w' := by
  have HR0 := Aside0.mk hr0
  have HC0 := Aside0.mk hc0
  clear hr0 hc0
  have HB := Aside0.mk (Below.refl w.heap.size w)
  have H : (if (l0.length : Int) > 100 then (some true) else (paymasterlaw09_LinesJoins.l0 k l0 0)) = some r := h
  clear h
  by_cases c2 : (l0.length : Int) > 100
  · rw [if_pos c2] at H
    have c2b0 : decide (100 < (l0.length : Int)) = true := decide_eq_true c2
    have c2b1 : decide (100 < l0.length) = true := decide_eq_true (by omega)
    clear c2
    obtain rfl := Option.some.inj H
    go_enter Try.func17, Try.ntmps17
    go_wp2
    go_ret
    exact ⟨by first | rfl | (simp [errW_none, errW_some] <;> rfl) | (simp [*, errW_none, errW_some] <;> rfl), by repeat (first | (with_reducible first | exact HB.out | apply below_alloc | apply pw_below_drewN | apply below_drew1) | exact HB.out)⟩
  · rw [if_neg c2] at H
    have c2b0 : decide (100 < (l0.length : Int)) = false := decide_eq_false c2
    have c2b1 : decide (100 < l0.length) = false := decide_eq_false (by omega)
    clear c2
    have H' := Aside0.mk H
    clear H
    go_enter Try.func17, Try.ntmps17
    go_wp2
    go_loopg [3] k (fun kq v3 w' => ∃ (x3_1 : Int), v3 = .int .i64 x3_1 ∧ Aside0 (paymasterlaw09_LinesJoins.l0 kq l0 x3_1 = some r) ∧ Aside0 (kq ≤ k) ∧ Aside0 (Below w.heap.size w w'))
    case atStart => exact ⟨(0), (by first | rfl | (simp; done) | (simp [*]; done)), H', ⟨Nat.le_refl _⟩, ⟨by repeat (first | (with_reducible first | exact HB.out | apply below_alloc | apply pw_below_drewN | apply below_drew1) | exact HB.out)⟩⟩
    case round =>
      clear H'
      try clear c1
      try clear c2
      try clear c2b0
      try clear c2b1
      try clear p2
      obtain ⟨x3_1, rfl, HA, HK1, HB⟩ := hrel
      cases gk with
      | zero => exact absurd HA.out (by simp [paymasterlaw09_LinesJoins.l0])
      | succ k1 =>
        have H := HA.out
        clear HA
        simp only [paymasterlaw09_LinesJoins.l0] at H
        by_cases c3 : x3_1 < (l0.length : Int)
        · rw [if_pos c3] at H
          have c3b0 : decide (x3_1 < (l0.length : Int)) = true := decide_eq_true c3
          clear c3
          by_cases c4 : 0 ≤ x3_1
          · rw [if_pos c4] at H
            have c4b0 : decide (0 ≤ x3_1) = true := decide_eq_true c4
            clear c4
            by_cases c5 : ((rdOf ByteArray.empty l0 x3_1).size : Int) > 200
            · rw [if_pos c5] at H
              have c5b0 : decide (200 < ((rdOf ByteArray.empty l0 x3_1).size : Int)) = true := decide_eq_true c5
              have c5b1 : decide (200 < (rdOf ByteArray.empty l0 x3_1).size) = true := decide_eq_true (by omega)
              clear c5
              obtain rfl := Option.some.inj H
              have p1479 : 0 ≤ (x3_1 : Int) := of_decide_eq_true (by first | (with_reducible assumption) | assumption)
              have q1479 : x3_1 < (l0.length : Int) := of_decide_eq_true (by first | (with_reducible assumption) | assumption)
              obtain ⟨ad1479, e1479, hx1479_0⟩ := Kd.at_string HR0.out x3_1 p1479 q1479
              cases e1479
              replace hx1479_0 := (HB.out.cell (World.block_lt_of_cell? w _ hx1479_0)).trans hx1479_0
              replace p1479 := eq_true p1479
              replace q1479 := eq_true q1479
              go_wp2
              go_ret
              exact ⟨by first | rfl | (simp [errW_none, errW_some] <;> rfl) | (simp [*, errW_none, errW_some] <;> rfl), by repeat (first | (with_reducible first | exact HB.out | apply below_alloc | apply pw_below_drewN | apply below_drew1) | exact HB.out)⟩
            · rw [if_neg c5] at H
              have c5b0 : decide (200 < ((rdOf ByteArray.empty l0 x3_1).size : Int)) = false := decide_eq_false c5
              have c5b1 : decide (200 < (rdOf ByteArray.empty l0 x3_1).size) = false := decide_eq_false (by omega)
              clear c5
              have H' := Aside0.mk H
              clear H
              have p1479 : 0 ≤ (x3_1 : Int) := of_decide_eq_true (by first | (with_reducible assumption) | assumption)
              have q1479 : x3_1 < (l0.length : Int) := of_decide_eq_true (by first | (with_reducible assumption) | assumption)
              obtain ⟨ad1479, e1479, hx1479_0⟩ := Kd.at_string HR0.out x3_1 p1479 q1479
              cases e1479
              replace hx1479_0 := (HB.out.cell (World.block_lt_of_cell? w _ hx1479_0)).trans hx1479_0
              replace p1479 := eq_true p1479
              replace q1479 := eq_true q1479
              go_wp2
              go_roundg k1
              case measure => have := HK1.out; omega
              case rel => exact ⟨(wrap64 (x3_1 + 1)), (by first | rfl | (simp; done) | (simp [*]; done)), H', ⟨by have := HK1.out; omega⟩, ⟨by repeat (first | (with_reducible first | exact HB.out | apply below_alloc | apply pw_below_drewN | apply below_drew1) | exact HB.out)⟩⟩
          · rw [if_neg c4] at H
            exact absurd H (by simp)
        · rw [if_neg c3] at H
          have c3b0 : decide (x3_1 < (l0.length : Int)) = false := decide_eq_false c3
          clear c3
          obtain ⟨y1480, hy1480⟩ : ∃ y_ : List ByteArray, y_ = (([] : List ByteArray)) := ⟨_, rfl⟩
          replace H : (if y1480.length + l0.length < 8796093022208 then ((some (y1480 ++ l0 : List ByteArray)).bind fun y1483 => ((lines_Join.f y1483).bind fun bt1486 => ((paymasterref09_Join.f k1 l0).bind fun bt1488 => (if bt1486.1.toList = bt1488.1.toList then (if bt1486.2 = bt1488.2 then ((paymasterref09_Same.f k1 y1483 l0).bind fun t1490 => (some t1490)) else (none)) else (none))))) else (none)) = some r := by first | (rw [hy1480]; with_reducible exact H) | (have H2_ := (Option.bind_some _ _).symm.trans H; rw [hy1480]; with_reducible exact H2_) | (have H2_ := (Option.bind_some _ _).symm.trans H; with_reducible exact H2_) | with_reducible exact H | (rw [hy1480]; exact H) | exact H
          have Ny1480 := Aside0.mk hy1480
          clear hy1480
          by_cases c6 : y1480.length + l0.length < 8796093022208
          · rw [if_pos c6] at H
            have LMc6 := Aside0.mk c6
            clear c6
            obtain ⟨y1483, hy1483⟩ : ∃ y_ : List ByteArray, y_ = (y1480 ++ l0) := ⟨_, rfl⟩
            replace H : ((lines_Join.f y1483).bind fun bt1486 => ((paymasterref09_Join.f k1 l0).bind fun bt1488 => (if bt1486.1.toList = bt1488.1.toList then (if bt1486.2 = bt1488.2 then ((paymasterref09_Same.f k1 y1483 l0).bind fun t1490 => (some t1490)) else (none)) else (none)))) = some r := by first | (rw [hy1483]; with_reducible exact H) | (have H2_ := (Option.bind_some _ _).symm.trans H; rw [hy1483]; with_reducible exact H2_) | (have H2_ := (Option.bind_some _ _).symm.trans H; with_reducible exact H2_) | with_reducible exact H | (rw [hy1483]; exact H) | exact H
            have Ny1483 := Aside0.mk hy1483
            clear hy1483
            replace H := Option.bind_eq_some_iff.mp H
            obtain ⟨⟨t1486, t1487⟩, A70, H⟩ := H
            replace H : ((paymasterref09_Join.f k1 l0).bind fun bt1488 => (if t1486.toList = bt1488.1.toList then (if t1487 = bt1488.2 then ((paymasterref09_Same.f k1 y1483 l0).bind fun t1490 => (some t1490)) else (none)) else (none))) = some r := H
            have A7 := Aside0.mk A70
            clear A70
            replace H := Option.bind_eq_some_iff.mp H
            obtain ⟨⟨t1488, t1489⟩, A80, H⟩ := H
            replace H : (if t1486.toList = t1488.toList then (if t1487 = t1489 then ((paymasterref09_Same.f k1 y1483 l0).bind fun t1490 => (some t1490)) else (none)) else (none)) = some r := H
            have A8 := Aside0.mk A80
            clear A80
            by_cases c9 : t1486.toList = t1488.toList
            · rw [if_pos c9] at H
              have c9b0 : (t1486.toList == t1488.toList) = true := beq_iff_eq.mpr c9
              have c9b1 : (t1486.toList != t1488.toList) = false := bne_eq_false_iff_eq.mpr c9
              clear c9
              by_cases c10 : t1487 = t1489
              · rw [if_pos c10] at H
                have c10b0 : (t1487 == t1489) = true := beq_iff_eq.mpr c10
                have c10b1 : (t1487 != t1489) = false := bne_eq_false_iff_eq.mpr c10
                clear c10
                replace H := Option.bind_eq_some_iff.mp H
                obtain ⟨t1490, A110, H⟩ := H
                replace H : (some t1490) = some r := H
                have A11 := Aside0.mk A110
                clear A110
                obtain rfl := Option.some.inj H
                go_wp2_with (first | ((with_reducible refine gate_dst (N := 24) rfl ?_); refine Kd.R_lit Kd.string _ 9 ?hg (N := 24) ?hd (xs := ([] : List ByteArray)) (inner := []) (ok := fun _ => True) (okp := fun _ => True) ?hr ?hp (fun _ hk => hk) trivial (Below.refl _ _) (Nat.le_refl _) (by simp) ?_; (case hd => rfl); (case hg => rfl); (case hr => first | (go_simp; done) | (go_simp; rfl)); (case hp => exact (Reps.none _ _)); intro v1481 w12 ho13 hb hg_ hnew_; clear hg_ hnew_; (first | rw [← Ny1480.out] at ho13 | (simp only [Int.reduceToNat] at ho13; rw [← Ny1480.out] at ho13)); have n0_ := Aside0.mk (Kd.R_lower ho13 (below_size (by repeat (first | (with_reducible first | exact HB.out | apply below_alloc | apply pw_below_drewN | apply below_drew1) | exact HB.out)))); have n1_ := Aside0.mk (below_step (by repeat (first | (with_reducible first | exact HB.out | apply below_alloc | apply pw_below_drewN | apply below_drew1) | exact HB.out)) hb); clear HB; have HO1482 := n0_; have HB := n1_; clear n0_ n1_; clear hb ho13) | ((with_reducible refine gate_builtin (b := .append) (xs := #[.tmp 24, .tmp 25]) rfl ?_); at_builtin; refine Kd.R_append_rows Kd.string (w0 := w) w.heap.size rfl (.tmp 24) (.tmp 25) 73 9 (.string ⟨#[]⟩) 16 rfl Try.underlying73 info9 rfl (by decide) (by omega) v1481 y1480 l0 _ _ _ (fun _ => True) (fun _ => False) rfl rfl ?aO ?aR (fun _ _ h => h) (fun _ h => h.elim) ?aF ?aB ?aS ?aL ?_; (case aR => repeat (first | exact (Kd.C_below HR0.out HB.out) | (with_reducible refine Kd.C_alloc ?_ _) | (with_reducible refine Kd.C_drewN ?_ _) | (with_reducible refine Kd.C_drew ?_))); (case aB => exact (by repeat (first | (with_reducible first | exact HB.out | apply below_alloc | apply pw_below_drewN | apply below_drew1) | exact HB.out))); (case aF => exact (fun _ _ => trivial)); (case aO => exact (by (with_reducible repeat (first | apply Kd.R_alloc | apply Kd.R_drewN | apply Kd.R_drew)); exact HO1482.out)); (case aS => exact (below_size (by repeat (first | (with_reducible first | exact HB.out | apply below_alloc | apply pw_below_drewN | apply below_drew1) | exact HB.out)))); (case aL => have := LMc6.out; omega); intro v1484 w14 ho hb hg hat; rw [← Ny1483.out] at ho; have n0_ := Aside0.mk (hb); have n1_ := Aside0.mk (ho); clear HB; clear HO1482; have HB := n0_; have HO1485 := n1_; clear n0_ n1_; clear ho hb hg hat; obtain ⟨Ao15, co15, eo15⟩ := Kd.R_slice HO1485.out; subst eo15) | ((with_reducible refine gate_callee (f := 67) rfl ?_); refine goesL_ (some 29) rfl rfl Try.func67 (by kernel_rfl) rfl #[.slice Ao15 y1483.length co15] rfl (by (try simp only [List.map_toArray, List.map_cons, List.map_nil]); first | done | rfl | (simp only [List.length_drop, List.length_take]; rfl)) ?_; (with_reducible refine (lines_Join.calls _ _ y1483 t1486 t1487 _ ?side1 ?side2 A7.out).mono ?_); (case side1 => repeat (first | exact (Kd.R_reads' HO1485.out).2.2 | (with_reducible refine Kd.C_alloc ?_ _) | (with_reducible refine Kd.C_drewN ?_ _) | (with_reducible refine Kd.C_drew ?_))); (case side2 => exact (Kd.R_reads' HO1485.out).2.1); rintro e w16 ⟨rfl, hb⟩; refine ⟨_, rfl, ?_⟩; have n0_ := Aside0.mk (Kd.R_below (by (with_reducible repeat (first | apply Kd.R_alloc | apply Kd.R_drewN | apply Kd.R_drew)); exact HO1485.out) hb); have n1_ := Aside0.mk (below_step (by repeat (first | (with_reducible first | exact HB.out | apply below_alloc | apply pw_below_drewN | apply below_drew1) | exact HB.out)) hb); clear HO1485; clear HB; have HO1485 := n0_; have HB := n1_; clear n0_ n1_; (try clear hb); (try clear hb2); (try clear hk); (try clear hi)) | ((with_reducible refine gate_callee (f := 68) rfl ?_); refine goesL_ (some 34) rfl rfl Try.func68 (by kernel_rfl) rfl #[.slice A0 l0.length c0] rfl (by (try simp only [List.map_toArray, List.map_cons, List.map_nil]); first | done | rfl | (simp only [List.length_drop, List.length_take]; rfl)) ?_; (with_reducible refine (paymasterref09_Join.calls k1 _ _ l0 t1488 t1489 _ ?side1 ?side2 A8.out).mono ?_); (case side1 => repeat (first | exact (Kd.C_below HR0.out HB.out) | (with_reducible refine Kd.C_alloc ?_ _) | (with_reducible refine Kd.C_drewN ?_ _) | (with_reducible refine Kd.C_drew ?_))); (case side2 => exact HC0.out); rintro e w17 ⟨rfl, hb⟩; refine ⟨_, rfl, ?_⟩; have n0_ := Aside0.mk (Kd.R_below (by (with_reducible repeat (first | apply Kd.R_alloc | apply Kd.R_drewN | apply Kd.R_drew)); exact HO1485.out) hb); have n1_ := Aside0.mk (below_step (by repeat (first | (with_reducible first | exact HB.out | apply below_alloc | apply pw_below_drewN | apply below_drew1) | exact HB.out)) hb); clear HO1485; clear HB; have HO1485 := n0_; have HB := n1_; clear n0_ n1_; (try clear hb); (try clear hb2); (try clear hk); (try clear hi)) | (go_at_call 69; (with_reducible refine (paymasterref09_Same.calls k1 _ _ y1483 _ _ l0 t1490 _ ?side1 ?side2 ?side3 ?side4 A11.out).mono ?_); (case side1 => repeat (first | exact (Kd.R_reads' HO1485.out).2.2 | (with_reducible refine Kd.C_alloc ?_ _) | (with_reducible refine Kd.C_drewN ?_ _) | (with_reducible refine Kd.C_drew ?_))); (case side2 => exact (Kd.R_reads' HO1485.out).2.1); (case side3 => repeat (first | exact (Kd.C_below HR0.out HB.out) | (with_reducible refine Kd.C_alloc ?_ _) | (with_reducible refine Kd.C_drewN ?_ _) | (with_reducible refine Kd.C_drew ?_))); (case side4 => exact HC0.out); rintro e w' ⟨rfl, ⟨nd, rfl⟩⟩))
                go_ret
                exact ⟨by first | rfl | (simp [errW_none, errW_some] <;> rfl) | (simp [*, errW_none, errW_some] <;> rfl), by repeat (first | (with_reducible first | exact HB.out | apply below_alloc | apply pw_below_drewN | apply below_drew1) | exact HB.out)⟩
              · rw [if_neg c10] at H
                exact absurd H (by simp)
            · rw [if_neg c9] at H
              exact absurd H (by simp)
          · rw [if_neg c6] at H
            exact absurd H (by simp)
end Go.Proofs.Ytpkjpiphjdpegaa.P
namespace Go.Proofs.Ytpkjpiphjdpegaa.P
open Go.RowKit Go.Proofs.YtpkjpiphjdpegaaW.PrintWords Go.Proofs.YtpkjpiphjdpegaaW.PrintLast Go.Proofs.YtpkjpiphjdpegaaW.PrintMore
set_option linter.unusedVariables false
set_option linter.unusedSimpArgs false
def ends : List Int → Nat
  | [] => 0
  | x :: l => (if x = 10 then 1 else 0) + ends l
theorem nb_next (s : ByteArray) (i : Nat) (h : i < s.size) : (nb s).drop i = bt s (i : Int) :: (nb s).drop (i + 1) := by
  rw [List.drop_eq_getElem_cons (by rw [nb_length]; exact h), bt_nb, List.getD_eq_getElem?_getD, List.getElem?_eq_getElem (by rw [nb_length]; exact h)]
  rfl
theorem split_l0 (s : ByteArray) (hs : s.size ≤ 1000) (k : Nat) : ∀ (t i f : Nat) (l : List ByteArray), i + t = s.size → f ≤ i → l.length ≤ i → ∃ R, paymasterref09_Split.l0 (k + 2 + t) s l (f : Int) (i : Int) = some R ∧ R.length = l.length + ends ((nb s).drop i) + 1
  | 0, i, f, l, h, hf, hl => by
    obtain rfl : i = s.size := by omega
    refine ⟨l ++ [s.extract f s.size], ?_, ?_⟩
    · show paymasterref09_Split.l0 (k + 1 + 1) s l _ _ = _
      rw [paymasterref09_Split.l0, if_pos (Int.le_refl _), if_pos rfl, if_pos (show (0 : Int) ≤ (f : Int) by omega), if_pos (show (f : Int) ≤ (s.size : Int) by omega), if_pos (show l.length < 8796093022208 by omega), Int.toNat_natCast, Int.toNat_natCast, wi _ (by omega) (by omega), paymasterref09_Split.l0, if_neg (by omega)]
    · rw [List.drop_of_length_le (by rw [nb_length]; omega), List.length_append]
      rfl
  | t + 1, i, f, l, h, hf, hl => by
    rw [nb_next s i (by omega)]
    show ∃ R, paymasterref09_Split.l0 (k + 2 + t + 1) s l (f : Int) (i : Int) = some R ∧ _
    rw [paymasterref09_Split.l0, if_pos (show (i : Int) ≤ (s.size : Int) by omega), if_neg (show ¬ (i : Int) = (s.size : Int) by omega), if_pos (show (0 : Int) ≤ (i : Int) by omega), if_pos (show (i : Int) < (s.size : Int) by omega), wi _ (by omega) (by omega), show (i : Int) + 1 = ((i + 1 : Nat) : Int) from by omega]
    by_cases c : bt s (i : Int) = 10
    · obtain ⟨R, h1, h2⟩ := split_l0 s hs k t (i + 1) (i + 1) (l ++ [s.extract f i]) (by omega) (Nat.le_refl _) (by rw [List.length_append, List.length_singleton]; omega)
      refine ⟨R, ?_, ?_⟩
      · rw [if_pos c, if_pos (show (0 : Int) ≤ (f : Int) by omega), if_pos (show (f : Int) ≤ (i : Int) by omega), if_pos (show l.length < 8796093022208 by omega), Int.toNat_natCast, Int.toNat_natCast]
        exact h1
      · rw [h2, List.length_append, List.length_singleton, ends, if_pos c]
        omega
    · obtain ⟨R, h1, h2⟩ := split_l0 s hs k t (i + 1) f l (by omega) (by omega) (by omega)
      refine ⟨R, ?_, ?_⟩
      · rw [if_neg c]
        exact h1
      · rw [h2, ends, if_neg c]
        omega
theorem ends_pos (l : List UInt8) : 0 < ends (l.map fun x => (x.toNat : Int)) ↔ l.contains 10 = true := by
  induction l with
  | nil => simp [ends]
  | cons x l ih =>
    rw [List.map_cons, ends, List.contains_cons, Bool.or_eq_true, ← ih, beq_iff_eq]
    have e : ((x.toNat : Int) = 10) ↔ (10 = x) := by
      constructor
      · intro h
        apply UInt8.toNat_inj.1
        have : x.toNat = 10 := by omega
        rw [this]
        rfl
      · intro h
        rw [← h]
        rfl
    by_cases c : (x.toNat : Int) = 10
    · rw [if_pos c]
      exact ⟨fun _ => .inl (e.1 c), fun _ => by omega⟩
    · rw [if_neg c]
      constructor
      · intro h
        exact .inr (by omega)
      · rintro (h | h)
        · exact absurd (e.2 h) c
        · omega
theorem split_brk (s : ByteArray) (hs : s.size ≤ 200) (k : Nat) : ∃ R, paymasterref09_Split.f (k + 210) s = some R ∧ ((R.length : Int) > 1 ↔ brk s = true) := by
  obtain ⟨R, h1, h2⟩ := split_l0 s (by omega) (k + 208 - s.size) s.size 0 0 [] (by omega) (Nat.le_refl _) (Nat.le_refl _)
  refine ⟨R, ?_, ?_⟩
  · rw [show k + 208 - s.size + 2 + s.size = k + 210 from by omega] at h1
    exact h1
  · rw [List.drop_zero] at h2
    have e := ends_pos s.data.toList
    have e' : brk s = s.data.toList.contains 10 := by
      unfold brk
      rw [Lib.contains_iff_indexByte]
    rw [e', ← e]
    have h3 : R.length = ends (List.map (fun x => (x.toNat : Int)) s.data.toList) + 1 := by rw [h2]; simp [nb]
    omega
theorem join_snoc (l : List ByteArray) (x : ByteArray) (h : l ≠ []) : joinL (l ++ [x]) = joinL l ++ (⟨#[10]⟩ : ByteArray) ++ x := by
  cases l with
  | nil => exact absurd rfl h
  | cons y r =>
    unfold joinL
    rw [List.cons_append, List.map_cons, List.map_cons, Lib.join_cons, Lib.join_cons, List.map_append]
    apply ByteArray.ext
    apply Array.ext'
    rw [ByteArray.data_append, ByteArray.data_append, Array.toList_append, Array.toList_append]
    simp [Lib.joinTail]
theorem join_one (x : ByteArray) : joinL [x] = x := by
  unfold joinL
  rw [List.map_cons, List.map_nil, Lib.join_one]
theorem join_len (l : List ByteArray) (h : ∀ x ∈ l, x.size ≤ 200) : (Lib.join (l.map (·.data.toList)) [10]).length ≤ 201 * l.length := by
  have t : ∀ r : List ByteArray, (∀ x ∈ r, x.size ≤ 200) → (Lib.joinTail [10] (r.map (·.data.toList))).length ≤ 201 * r.length := by
    intro r
    induction r with
    | nil => intro _; simp [Lib.joinTail]
    | cons x r ih =>
      intro h
      have h1 := ih (fun y hy => h y (List.mem_cons_of_mem _ hy))
      have h2 := h x (List.mem_cons_self ..)
      have h3 : x.data.toList.length = x.size := Array.length_toList
      have e : Lib.joinTail [10] ((x :: r).map (·.data.toList)) = [10] ++ x.data.toList ++ Lib.joinTail [10] (r.map (·.data.toList)) := rfl
      rw [e, List.length_append, List.length_append, h3]
      simp only [List.length_cons, List.length_nil]
      omega
  cases l with
  | nil => simp [Lib.join_nil]
  | cons x r =>
    have h1 := t r (fun y hy => h y (List.mem_cons_of_mem _ hy))
    have h2 := h x (List.mem_cons_self ..)
    have h3 : x.data.toList.length = x.size := Array.length_toList
    rw [List.map_cons, Lib.join_cons, List.length_append, List.length_cons]
    omega
theorem rdOf_drop (l : List ByteArray) (i : Nat) (h : i < l.length) : l.drop i = rdOf ByteArray.empty l (i : Int) :: l.drop (i + 1) := by
  rw [List.drop_eq_getElem_cons h]
  congr 1
  unfold rdOf
  rw [Int.toNat_natCast, List.getD_eq_getElem?_getD, List.getElem?_eq_getElem h]
  rfl
theorem joinL_size (l : List ByteArray) : (joinL l).size = (Lib.join (l.map (·.data.toList)) [10]).length := by simp [joinL, ByteArray.size]
theorem refJoin_l0 (l0 : List ByteArray) (h100 : l0.length ≤ 100) (h200 : ∀ x ∈ l0, x.size ≤ 200) (k : Nat) : ∀ (t i : Nat), i + t = l0.length → paymasterref09_Join.l0 (k + 211 + t) l0 (joinL (l0.take i)) (i : Int) = some (if (l0.drop i).any brk = true then ((⟨#[]⟩ : ByteArray), 2) else (joinL l0, 0))
  | 0, i, h => by
    obtain rfl : i = l0.length := by omega
    show paymasterref09_Join.l0 (k + 210 + 1) _ _ _ = _
    rw [paymasterref09_Join.l0, if_neg (by omega), List.drop_length, List.take_length, if_neg (by simp)]
  | t + 1, i, h => by
    have dr := rdOf_drop l0 i (by omega)
    obtain ⟨x, hx⟩ : ∃ x, rdOf ByteArray.empty l0 (i : Int) = x := ⟨_, rfl⟩
    rw [hx] at dr
    have mem : x ∈ l0 := List.mem_of_mem_drop (i := i) (by rw [dr]; exact List.mem_cons_self ..)
    have xs := h200 x mem
    have tk : l0.take (i + 1) = l0.take i ++ [x] := by
      have e : l0[i]? = some x := by
        have q := congrArg (fun l => l[0]?) dr
        simpa [List.getElem?_drop] using q
      rw [List.take_add_one, e]
      rfl
    have ih := refJoin_l0 l0 h100 h200 k t (i + 1) (by omega)
    rw [tk] at ih
    obtain ⟨R, r1, r2⟩ := split_brk x xs (k + 1 + t)
    have sz : (joinL (l0.take i)).size ≤ 20100 := by
      have := join_len (l0.take i) (fun y hy => h200 y (List.mem_of_mem_take hy))
      rw [joinL_size]
      have := List.length_take_le i l0
      omega
    have ten : (joinL (l0.take i) ++ (⟨#[10]⟩ : ByteArray)).size = (joinL (l0.take i)).size + 1 := by
      rw [ByteArray.size_append]
      rfl
    show paymasterref09_Join.l0 (k + 211 + t + 1) _ _ _ = _
    rw [paymasterref09_Join.l0, if_pos (show (i : Int) < (l0.length : Int) by omega), if_pos (show (0 : Int) ≤ (i : Int) by omega), hx, show k + 211 + t = k + 1 + t + 210 from by omega, r1, Option.bind_some, dr, List.any_cons]
    by_cases c : brk x = true
    · rw [if_pos (r2.2 c), c, Bool.true_or, if_pos rfl]
    · have cf : brk x = false := by simpa using c
      rw [if_neg (fun q => c (r2.1 q)), cf, Bool.false_or, wi _ (by omega) (by omega), show (i : Int) + 1 = ((i + 1 : Nat) : Int) from by omega, show k + 1 + t + 210 = k + 211 + t from by omega]
      by_cases z : (i : Int) > 0
      · have ne : l0.take i ≠ [] := by
          intro e
          have := congrArg List.length e
          rw [List.length_take, List.length_nil] at this
          omega
        rw [join_snoc _ _ ne] at ih
        rw [if_pos z, if_pos (show (joinL (l0.take i)).size + 1 ≤ 9223372036854775807 by omega), if_pos (show (joinL (l0.take i) ++ (⟨#[10]⟩ : ByteArray)).size + x.size ≤ 9223372036854775807 by omega)]
        exact ih
      · have z0 : i = 0 := by omega
        subst z0
        rw [if_neg z]
        have e : joinL (l0.take 0) = ⟨#[]⟩ := rfl
        have e2 : joinL (List.take 0 l0 ++ [x]) = joinL (l0.take 0) ++ x := by
          rw [e, List.take_zero, List.nil_append, join_one]
          apply ByteArray.ext
          rw [ByteArray.data_append]
          simp
        rw [if_pos (show (joinL (l0.take 0)).size + x.size ≤ 9223372036854775807 by omega)]
        rw [e2] at ih
        exact ih
theorem same_l0 (l : List ByteArray) (hl : l.length ≤ 100) (k : Nat) : ∀ (t i : Nat), i + t = l.length → paymasterref09_Same.l0 (k + 1 + t) l l (i : Int) = some true
  | 0, i, h => by
    show paymasterref09_Same.l0 (k + 1) _ _ _ = _
    rw [paymasterref09_Same.l0, if_neg (by omega)]
  | t + 1, i, h => by
    have ih := same_l0 l hl k t (i + 1) (by omega)
    show paymasterref09_Same.l0 (k + 1 + t + 1) _ _ _ = _
    rw [paymasterref09_Same.l0, if_pos (show (i : Int) < (l.length : Int) by omega), if_pos (show (0 : Int) ≤ (i : Int) by omega), if_pos (show (i : Int) < (l.length : Int) by omega), if_pos rfl, wi _ (by omega) (by omega), show (i : Int) + 1 = ((i + 1 : Nat) : Int) from by omega]
    exact ih
theorem linesJoins_l0 (l : List ByteArray) (hl : l.length ≤ 100) (k : Nat) : ∀ (t i : Nat), i + t = l.length → (∀ j, j < i → (rdOf ByteArray.empty l (j : Int)).size ≤ 200) → paymasterlaw09_LinesJoins.l0 (k + 312 + t) l (i : Int) = some true
  | 0, i, h, hb => by
    obtain rfl : i = l.length := by omega
    have h200 : ∀ x ∈ l, x.size ≤ 200 := by
      intro x hx
      obtain ⟨j, hj, e⟩ := List.mem_iff_getElem.1 hx
      have := hb j hj
      unfold rdOf at this
      rw [Int.toNat_natCast, List.getD_eq_getElem?_getD, List.getElem?_eq_getElem hj, e] at this
      exact this
    have jl := join_len l h200
    have F : lines_Join.f l = some (if l.any brk = true then ((⟨#[]⟩ : ByteArray), 2) else (joinL l, 0)) := if_pos ⟨by omega, by omega⟩
    have R := refJoin_l0 l hl h200 (k + 100 - l.length) l.length 0 (by omega)
    rw [show k + 100 - l.length + 211 + l.length = k + 311 from by omega, List.drop_zero] at R
    have S := same_l0 l hl (k + 310 - l.length) l.length 0 (by omega)
    rw [show k + 310 - l.length + 1 + l.length = k + 311 from by omega] at S
    have R' : paymasterref09_Join.f (k + 311) l = some (if l.any brk = true then ((⟨#[]⟩ : ByteArray), 2) else (joinL l, 0)) := R
    have S' : paymasterref09_Same.f (k + 311) l l = some true := by
      unfold paymasterref09_Same.f
      rw [if_pos rfl]
      exact S
    show paymasterlaw09_LinesJoins.l0 (k + 311 + 1) _ _ = _
    rw [paymasterlaw09_LinesJoins.l0, if_neg (by omega), Option.bind_some, if_pos (by show 0 + _ < _; omega), Option.bind_some, List.nil_append, F, Option.bind_some, R', Option.bind_some, if_pos rfl, if_pos rfl, S', Option.bind_some]
  | t + 1, i, h, hb => by
    show paymasterlaw09_LinesJoins.l0 (k + 312 + t + 1) _ _ = _
    rw [paymasterlaw09_LinesJoins.l0, if_pos (show (i : Int) < (l.length : Int) by omega), if_pos (show (0 : Int) ≤ (i : Int) by omega)]
    by_cases c : ((rdOf ByteArray.empty l (i : Int)).size : Int) > 200
    · rw [if_pos c]
    · rw [if_neg c, wi _ (by omega) (by omega), show (i : Int) + 1 = ((i + 1 : Nat) : Int) from by omega]
      refine linesJoins_l0 l hl k t (i + 1) (by omega) (fun j hj => ?_)
      by_cases e : j = i
      · subst e; omega
      · exact hb j (by omega)
theorem linesJoins_pure (l : List ByteArray) : paymasterlaw09_LinesJoins.f 412 l = some true := by
  unfold paymasterlaw09_LinesJoins.f
  by_cases c : (l.length : Int) > 100
  · rw [if_pos c]
  · rw [if_neg c]
    have := linesJoins_l0 l (by omega) (100 - l.length) l.length 0 (by omega) (fun j hj => by omega)
    rw [show 100 - l.length + 312 + l.length = 412 from by omega] at this
    exact this
section
open Go.ChangeShapes Go.WideShapes Go.ChangeAt
variable {H : Type} {enc : TypeId × Value → H} {w : World} {base : Nat} {spare : Nat → Bool} {held : Bool}
set_option maxRecDepth 100000 in
theorem arg_row9 {r : Reach} {b0 : Nat} {v : Value} {D : DataW H} {p : List MemPlace} (hv : Value.okWide Try.prog w r b0 73 v) (h : DataW.Trod enc Try.prog w base spare held 73 v D p) :
    ∃ (A : Option Addr) (c : Nat) (l : List ByteArray), v = .slice A l.length c ∧ l.length ≤ c ∧ Kd.string.C w A l.length l ∧ ∀ y ∈ l, True :=
  came_row Kd.string (fun _ => True) Try.underlying73 (cells9.symm ▸ rfl) (fun n cs x hx => by
    obtain ⟨s, rfl, _⟩ := DataW.trod_string Try.underlying9 hx
    exact ⟨s, rfl, trivial⟩) hv h
end
theorem linesJoins_walk {w : World} (A0 : Option Addr) (c0 : Nat) (l0 : List ByteArray) (hr0 : Kd.string.C w A0 l0.length l0) (hc0 : l0.length ≤ c0) (g0 : ∀ y ∈ l0, True) :
    Calls Try.prog 17 #[.slice A0 l0.length c0] w fun e w' => e = .returned (.bool true) ∧ Below w.heap.size w w' :=
  paymasterlaw09_LinesJoins.calls 412 A0 c0 l0 true w hr0 hc0 (linesJoins_pure l0)
end Go.Proofs.Ytpkjpiphjdpegaa.P
namespace Go.Proofs.Ytpkjpiphjdpegaa.linesJoins
open Go.ChangeShapes Go.WideShapes Go.ChangeAt Go.RowKit Go.Proofs.Ytpkjpiphjdpegaa.P
open Go.ChangeMaps (open_string shut_string)
set_option linter.unusedVariables false
theorem own : ownKnob Try.prog.godebug = none := by kernel_rfl
theorem laidOut : laidOutB Try.prog = true := by kernel_rfl
set_option maxRecDepth 100000 in
theorem lifted (os : Os) (started : os.Started) (H : Type) (enc : TypeId × Value → H) :
    ReturnsInHanded {} Try.checked os 17 .any (Rows.linesJoinsSpec.pre6 enc Try.prog Try.f17 Rows.linesJoinsRow.domain false) (Rows.linesJoinsSpec.post enc Try.prog Try.f17 false true false false) := by
  refine returnsInHanded_of_change_sized (C := Try.checked) own started (by kernel_rfl) Try.func17
    (ChangeSpec.witness6 (enc := enc) (C := Try.checked) false ⟨#[], #[.slice none 0 0], []⟩ 8 (by kernel_rfl) (by kernel_rfl) (by kernel_rfl) (by kernel_rfl)) ?_
  intro W base args ds gs before hval0 hW hcnd hsz0 _
  have hval : ∀ (j : Nat) t v, Try.f17.params[j]? = some t → args[j]? = some v → Value.okWide Try.prog W .any base t v := hval0
  have hW' := hW
  obtain ⟨p, q, hA0, hV, rfl, hfz, hnd⟩ := hW
  have hA : DataW.TrodAll enc Try.prog W 0 (fun _ => true) true Try.f17.params.toList args.toList ds p := hA0
  rw [Try.params17] at hA hval
  have hAll := hA
  obtain ⟨v0, vs0, d0, ds0, p0, q0, hargs, rfl, rfl, h0, r0⟩ := trodAll_cons hA
  obtain ⟨rfl, rfl, rfl⟩ := trodAll_nil r0
  obtain rfl : args = #[v0] := by cases args; simp_all
  obtain ⟨rfl, rfl⟩ := trodVars_none hV
  obtain ⟨A0, c0, l0, rfl, hc0, hr0, g0⟩ := arg_row9 (hval 0 73 v0 rfl rfl) h0
  clear hA0 hval0 hsz0
  refine (linesJoins_walk (w := W) A0 c0 l0 hr0 hc0 g0).mono fun e W' ⟨he, bel⟩ => ?_
  subst he
  exact ⟨_, rfl, _, _, _, [], _, [], hW', trodAll_mk1 (shut_bool Try.underlying4 _), args_back laidOut bel (by kernel_rfl) hAll, rfl, bel.frame _, fun h => by cases h⟩
theorem both {a b : Bool} (h : a = true) (k : b = true) : (a && b) = true := by rw [h, k]; rfl
theorem c0 : (Rows.linesJoinsRow.wf (OpenSpec.ofChange Rows.linesJoinsSpec)) = true := by kernel_rfl
theorem c1 : (laidOutB Try.prog) = true := by kernel_rfl
theorem c2 : (mapsRowed Try.prog) = true := by kernel_rfl
theorem c3 : (Try.f17.params.all (Try.prog.readableRec ·)) = true := by kernel_rfl
theorem c4 : (namedTie Try.prog Rows.linesJoinsRow.named Rows.linesJoinsSpec.vars) = true := by kernel_rfl
theorem c5 : ((Rows.linesJoinsRow.stops == [])) = true := by kernel_rfl
theorem c6 : ((Try.prog.stops == [])) = true := by kernel_rfl
theorem c7 : ((Rows.linesJoinsRow.knobs == [])) = true := by kernel_rfl
theorem c8 : ((Try.prog.stopKnobs == [])) = true := by kernel_rfl
theorem c9 : ((Rows.linesJoinsRow.inPlace == Try.prog.inPlace 17)) = true := by kernel_rfl
theorem c10 : ((Rows.linesJoinsRow.unfollowed == Try.prog.unfollowed 17)) = true := by kernel_rfl
theorem c11 : ((Rows.linesJoinsRow.recurses == Try.prog.recurses 17)) = true := by kernel_rfl
theorem c12 : ((Rows.linesJoinsRow.named == Try.prog.varsNamed 17)) = true := by kernel_rfl
theorem c13 : ((Rows.linesJoinsRow.maps == (Try.f17.params.toList ++ Rows.linesJoinsSpec.plain.varTypes Try.prog).any (Try.prog.mapsRec ·))) = true := by kernel_rfl
theorem c14 : ((Rows.linesJoinsRow.ifaces == (Try.f17.params.toList ++ Rows.linesJoinsSpec.plain.varTypes Try.prog).any (Try.prog.ifacesRec ·))) = true := by kernel_rfl
theorem c15 : ((Rows.linesJoinsRow.mapsOut == Try.prog.mapsAmong Try.f17.resultTypes.toList)) = true := by kernel_rfl
theorem c16 : ((Rows.linesJoinsRow.loops == (Try.f17.params.toList ++ Rows.linesJoinsSpec.plain.varTypes Try.prog).any (Try.prog.loopsFrom ·))) = true := by kernel_rfl
theorem c17 : ((Rows.linesJoinsRow.wideKeys == (Try.f17.params.toList ++ Rows.linesJoinsSpec.plain.varTypes Try.prog ++ Try.f17.resultTypes.toList).any (Try.prog.wideKeysFrom ·))) = true := by kernel_rfl
theorem c18 : (Rows.linesJoinsSpec.vars.all (Try.prog.varReadable ·)) = true := by kernel_rfl
theorem c19 : (Try.f17.resultTypes.all (fun t => Try.prog.readableRec t && decide (t < Try.prog.types.size))) = true := by kernel_rfl
theorem c20 : ((Rows.linesJoinsRow.ifacesOut == Try.f17.resultTypes.toList.any (Try.prog.ifacesRec ·))) = true := by kernel_rfl
theorem c21 : ((Rows.linesJoinsRow.loopsOut == Try.f17.resultTypes.toList.any (Try.prog.loopsFrom ·))) = true := by kernel_rfl
theorem c22 : ((Rows.linesJoinsRow.plainKeys == Try.prog.plainKeys)) = true := by kernel_rfl
theorem c23 : (Rows.linesJoinsRow.shortTexts.isNone) = true := by kernel_rfl
theorem c24 : (Try.prog.stopsHeard) = true := by kernel_rfl
theorem c25 : (Try.prog.mayEnter) = true := Facts.mayEnter
theorem c26 : ((Rows.linesJoinsRow.lifted == Try.prog.liftsFinal)) = true := by rw [Facts.liftsFinal]; kernel_rfl
theorem c27 : ((Try.prog.make == some Rows.linesJoinsRow.make)) = true := by rw [Facts.make]; kernel_rfl
theorem c28 : ((Rows.linesJoinsRow.kinds == (if Rows.linesJoinsRow.domain.isEmpty then [] else Try.f17.params.toList.map fun t => match Try.prog.underlying t with | some (.int k) => some k | _ => none))) = true := by kernel_rfl
theorem c29 : ((Rows.linesJoinsRow.pinned == Rows.linesJoinsRow.pinnedBy)) = true := by kernel_rfl
theorem c30 : ((Rows.linesJoinsRow.veiled == (Try.f17.params.toList ++ Rows.linesJoinsSpec.plain.varTypes Try.prog ++ Try.f17.resultTypes.toList).any (Try.prog.veiledRec ·))) = true := by kernel_rfl
theorem c31 : (Rows.linesJoinsRow.veiledFits Try.prog Try.f17.params.toList (Try.f17.params.toList ++ Rows.linesJoinsSpec.plain.varTypes Try.prog ++ Try.f17.resultTypes.toList)) = true := by kernel_rfl
set_option maxRecDepth 100000 in
theorem closed : joinedFacts Try.prog 17 Try.f17 Rows.linesJoinsSpec Rows.linesJoinsRow = true := by
  unfold joinedFacts
  exact both (both (both (both (both (both (both (both (both (both (both (both (both (both (both (both (both (both (both (both (both (both (both (both (both (both (both (both (both (both (both (c0) c1) c2) c3) c4) c5) c6) c7) c8) c9) c10) c11) c12) c13) c14) c15) c16) c17) c18) c19) c20) c21) c22) c23) c24) c25) c26) c27) c28) c29) c30) c31
theorem over : Rows.linesJoinsRow.holds Try.pinned (OpenSpec.ofChange Rows.linesJoinsSpec) :=
  OpenClaim.holds_of_wide 17 Try.f17 rfl rfl rfl rfl rfl rfl rfl ⟨rfl, rfl, rfl, rfl, rfl⟩ rfl rfl rfl rfl rfl (by kernel_rfl) Try.func17 closed
    (of_decide_eq_true (by kernel_rfl)) (by unfold Func.isWrapper; first | (rw [if_pos (by decide +kernel)]; kernel_rfl) | (rw [if_neg (by decide +kernel)]; exact ⟨rfl, rfl⟩))
    (fun os started H enc _ => lifted os started H enc)
end Go.Proofs.Ytpkjpiphjdpegaa.linesJoins
namespace Go.Proofs.Ytpkjpiphjdpegaa
theorem linesJoins_holds : Rows.LinesJoinsSaid := linesJoins.over
end Go.Proofs.Ytpkjpiphjdpegaa
