/- A program of this session wrote this text out of the session's own texts. (part 5 of 6) -/
import Derived.Test.YtpkjpiphjdpegaaDoorCRowAll4
import Derived.Shelf.Unicode.ValidAny
import Derived.Lib.LaidU8T
import Derived.Ground.NamesProg
import Derived.Test.YtpkjpiphjdpegaaDoorProg
import Derived.Test.YtpkjpiphjdpegaaDoorRows
import Derived.Lay
import Derived.LaidMore
import Derived.Shelf.SlicesE.IndexFunc
import Derived.Ground.SlgfProg
import Derived.Shelf.Small.Utf8
import Derived.Lib.OthersKept
import Derived.Laws.Cover4
import Derived.Shelf.Strings.Search2
import Derived.Lib.IndexLaws
import Derived.Shelf.Abstract
import Derived.Shelf.RegionOpen
import Derived.WalkKit
import Derived.OwnWalkIn
import Derived.TacticsInMore
import Derived.LoopNIn
import Derived.LoopIn
import Derived.Maps.AppendAt
import Derived.Maps.OwnIn
import Derived.Lib.ValidLaws
import Derived.Lib.TrimUEq
import Derived.Laws.Bits64
import Derived.Laws.Externs
import Derived.Shelf.Spec.BitsCarry
import Derived.Laws.BitsLemmas
import Derived.Laws.Bits64b
import Derived.Shelf.Bits.Mul64
import Derived.Lib.Mul64
import Derived.Ground.GgwProg
import Derived.Shelf.GgClosure.StringsIndexFuncTop
import Derived.Laws.RangeAny
import Derived.Lib.ConvBytes
import Derived.Deep.RegionWith
import Derived.Shelf.Strings.OnBuilder
import Derived.Shelf.Strings.Search1
import Derived.Shelf.Strings.Search3
import Derived.Shelf.SlicesQ.IndexFunc
import Derived.Lib.SliceRun
import Derived.Lib.IndexAny
import Derived.Shelf.Utf8.RuneCount
import Derived.Shelf.Strings.Runes
import Derived.Shelf.Small.Strs
import Derived.Laws.Runes
import Derived.Lib.Walk
import Derived.WalkMore
import Derived.Test.YtpkjpiphjdpegaaDoorTie
import Derived.Test.YtpkjpiphjdpegaaDoorCards
import Derived.SevenTiedAt
import Derived.ProofKit
import Derived.OpenShut
import Derived.ShutString
import Derived.ChangeOld
import Derived.Below
import Derived.SizedLaws
namespace Go.Proofs.YtpkjpiphjdpegaaDoor.P
open Go.Shelf Go.RowKit
def sh_laysValid_ren : Go.Shelf.Ren := ⟨fun | 196 => 58 | 259 => 93 | n => n, fun | 9 => 9 | 4 => 4 | 3 => 3 | 5 => 5 | 12 => 12 | 119 => 134 | 0 => 0 | 46 => 138 | 139 => 137 | 138 => 136 | 53 => 40 | n => n, fun | 3 => 0 | 4 => 1 | n => n⟩
theorem sh_laysValid : Go.Proofs.Lays.n196 Tryd.prog sh_laysValid_ren := {
  mixed := by kernel_rfl
  f196 := Tryd.func58.trans (congrArg some (by kernel_rfl))
  f259 := Tryd.func93.trans (congrArg some (by kernel_rfl))
  t0 := Tryd.underlying0
  a0 := Tryd.isAgg0
  z0 := Tryd.sizeOf0
  v0 := Tryd.zeroValue0
  t3 := Tryd.underlying3
  a3 := Tryd.isAgg3
  z3 := Tryd.sizeOf3
  v3 := Tryd.zeroValue3
  t4 := Tryd.underlying4
  a4 := Tryd.isAgg4
  z4 := Tryd.sizeOf4
  v4 := Tryd.zeroValue4
  t5 := Tryd.underlying5
  a5 := Tryd.isAgg5
  z5 := Tryd.sizeOf5
  v5 := Tryd.zeroValue5
  t9 := Tryd.underlying9
  a9 := Tryd.isAgg9
  z9 := Tryd.sizeOf9
  v9 := Tryd.zeroValue9
  t12 := Tryd.underlying12
  a12 := Tryd.isAgg12
  z12 := Tryd.sizeOf12
  v12 := Tryd.zeroValue12
  t46 := Tryd.underlying138
  a46 := Tryd.isAgg138
  z46 := Tryd.sizeOf138
  v46 := Tryd.zeroValue138
  t53 := Tryd.underlying40
  a53 := Tryd.isAgg40
  z53 := Tryd.sizeOf40
  v53 := Tryd.zeroValue40
  t119 := Tryd.underlying134
  a119 := Tryd.isAgg134
  z119 := Tryd.sizeOf134
  t138 := Tryd.underlying136
  a138 := Tryd.isAgg136
  z138 := Tryd.sizeOf136
  v138 := Tryd.zeroValue136
  t139 := Tryd.underlying137
  a139 := Tryd.isAgg137
  z139 := Tryd.sizeOf137
  v139 := Tryd.zeroValue137
  g3 := by kernel_rfl
  g4 := by kernel_rfl }
theorem sh_u8Extra : U8Extra Tryd.prog sh_laysValid_ren := {
  n3 := by kernel_rfl
  n4 := by kernel_rfl
  y3 := by kernel_rfl
  y4 := by kernel_rfl
  c5 := by kernel_rfl
  c119 := by kernel_rfl
  c138 := by kernel_rfl }
end Go.Proofs.YtpkjpiphjdpegaaDoor.P
namespace Go.Proofs.YtpkjpiphjdpegaaDoor.P
open Go.Shelf Go.RowKit
def GT (w : World) : Prop := Lib.Utf8Tabs 0 1 w
theorem gt_below {w w' : World} (h : GT w) (b : Below w.heap.size w w') : GT w' := Utf8Tabs_below h b
theorem valid_is (s : ByteArray) (w : World) (hs : s.size ≤ 9223372036854775807) (hT : GT w) :
    Calls Tryd.prog 58 #[.string s] w fun e w' => e = .returned (.bool (Lib.validD s.data.toList)) ∧ Below w.heap.size w w' :=
  Any.utf8_ValidString sh_laysValid s w hs hT
end Go.Proofs.YtpkjpiphjdpegaaDoor.P
namespace Go.Proofs.YtpkjpiphjdpegaaDoor.P
open Go.Shelf Go.RowKit
set_option maxRecDepth 100000
def laid : List (String × DataW Unit) := [("unicode/utf8.acceptRanges", Rows.laid_unicode_utf8_acceptRanges), ("unicode/utf8.first", Rows.laid_unicode_utf8_first)]
theorem first_is : Rows.laid_unicode_utf8_first = Lib.firstData := by kernel_rfl
theorem accept_is : (Rows.laid_unicode_utf8_acceptRanges : DataW Unit) = Lib.acceptData := by kernel_rfl
theorem plain_is {W : World} : laidMetH Tryd.prog laid W = laidMet Tryd.prog laid W := MakeChecks.laidMetH_plain _ _ _ (by kernel_rfl)
theorem gt_of {W : World} (h : laidMetH Tryd.prog laid W) : GT W := by
  rw [plain_is] at h
  exact utf8Tabs_of_readsT (U8Types.of196 sh_laysValid) sh_u8Extra (first_is ▸ Lib.laidMet.reads h (.tail _ (.head _))) (accept_is ▸ Lib.laidMet.reads h (.head _))
theorem own : ownKnob Tryd.prog.godebug = none := by kernel_rfl
theorem laidOut : laidOutB Tryd.prog = true := by kernel_rfl
theorem laid_met (os : Os) (args : Array Value) : laidMetH Tryd.prog laid ((World.laidAll Tryd.prog os laid).forCall (fun _ _ => 0) ⟨#[], args, []⟩).memory := by
  rw [plain_is]
  exact laidMet_laidAll _ (by kernel_rfl) (by kernel_rfl)
end Go.Proofs.YtpkjpiphjdpegaaDoor.P
namespace Go.Proofs.YtpkjpiphjdpegaaDoor.P
open Go.Shelf Go.RowKit
def sh_lays119_ren : Go.Shelf.Ren := ⟨fun | 119 => 61 | n => n, fun | 21 => 21 | 4 => 4 | n => n, fun | n => n⟩
theorem sh_lays119 : Go.Proofs.Lays.n119 Tryd.prog sh_lays119_ren := {
  mixed := by kernel_rfl
  f119 := Tryd.func61.trans (congrArg some (by kernel_rfl))
  t4 := Tryd.underlying4
  a4 := Tryd.isAgg4
  z4 := Tryd.sizeOf4
  v4 := Tryd.zeroValue4
  t21 := Tryd.underlying21
  a21 := Tryd.isAgg21
  z21 := Tryd.sizeOf21
  v21 := Tryd.zeroValue21 }
theorem sh_utf8_ValidRune (r : Int) (w : World) :
    Calls Tryd.prog 61 #[.int .i32 r] w fun e w' => e = .returned (.bool (Lib.validRune r)) ∧ w' = w := Any.utf8_ValidRune sh_lays119 r w
end Go.Proofs.YtpkjpiphjdpegaaDoor.P
namespace Go.Proofs.YtpkjpiphjdpegaaDoor.P
open Go.RowKit Go.Proofs.YtpkjpiphjdpegaaDoorW.PrintWords Go.Proofs.YtpkjpiphjdpegaaDoorW.PrintLast Go.Proofs.YtpkjpiphjdpegaaDoorW.PrintMore
set_option linter.unusedVariables false
set_option linter.unusedSimpArgs false
def runesAt (s : ByteArray) : Nat → Nat → List Int
  | 0, _ => []
  | n + 1, p => if p < s.size then ((Utf8.decode s p).1 : Int) :: runesAt s n (p + (Utf8.decode s p).2) else []
theorem runesAt_end (s : ByteArray) (n p : Nat) (h : ¬ p < s.size) : runesAt s n p = [] := by
  cases n with
  | zero => rfl
  | succ n => rw [runesAt, if_neg h]
def lines_Runes.f (a0 : ByteArray) : Option (List Int × Int) :=
  if a0.size ≤ 1000000000 then some (if Lib.validD a0.data.toList = true then (runesAt a0 a0.size 0, 0) else ([], 90)) else none
theorem wide_pos (s : ByteArray) (pos : Nat) (h : pos < s.size) : 1 ≤ (Utf8.decode s pos).2 := by
  by_cases ha : (s[pos]'h).toNat < 128
  · rw [decode_ascii s pos h ha]
    exact Nat.le_refl _
  · exact (decode_high s pos h (by omega)).2
theorem iter_grown (w : World) (k : Nat) (s : ByteArray) (p : Nat) : w.grownBy (w.iterAt k s p) (some k) :=
  ⟨rfl, rfl, rfl, by rw [Lib.iterAt_size]; exact Nat.le_refl _, fun j hj hk => Lib.iterAt_other w k j s p (fun e => hk (by rw [e]))⟩
set_option maxHeartbeats 8000000 in
set_option maxRecDepth 100000 in
theorem lines_Runes.calls (a0 : ByteArray) (r1 : List Int) (r2 : Int) (w : World) (hG : GT w) (h : lines_Runes.f a0 = some (r1, r2)) :
    Calls Tryd.prog 20 #[.string a0] w fun e w' => ∃ v0_ : Value, e = .returned (.tuple #[v0_, .int .i64 r2]) ∧ Kd.R (Kd.int .i32) 21 w' w.heap.size (fun _ => True) v0_ r1 ∧ Below w.heap.size w w' := by
  have hs : a0.size ≤ 1000000000 := by
    unfold lines_Runes.f at h
    split at h
    · assumption
    · cases h
  unfold lines_Runes.f at h
  rw [if_pos hs] at h
  have V := valid_is a0 w (by omega) hG
  by_cases b : Lib.validD a0.data.toList = true
  · rw [if_pos b] at h
    cases h
    rw [b] at V
    go_enter Tryd.func20, Tryd.ntmps20
    go_wp2_with (first | (go_at_call 58; (with_reducible refine V.mono ?_); rintro e W1 ⟨rfl, hb1⟩))
    have hwib : w.heap.size ≤ W1.heap.size := hb1.size
    go_loopg [4] a0.size (fun gk v4 wr => ∃ (x4 : List Int) (p : Nat), Aside0 (x4 ++ runesAt a0 gk p = runesAt a0 a0.size 0 ∧ x4.length ≤ p ∧ a0.size ≤ p + gk) ∧ wr.heap[W1.heap.size]? = some (.stringIter a0 p) ∧ Aside0 (Kd.R (Kd.int .i32) 21 wr w.heap.size (fun _ => True) v4 x4) ∧ Aside0 (Below w.heap.size w wr))
    case atStart =>
      refine ⟨[], 0, ⟨rfl, Nat.le_refl _, by omega⟩, ?_, ⟨Kd.R_nil _ _ _ _ _⟩, ⟨?_⟩⟩
      · exact World.iter_heap W1 a0 0
      · exact below_alloc hb1 _
    case round =>
      obtain ⟨x4, p, HX, hit, HO, HB⟩ := hrel
      have hlt : W1.heap.size < wr.heap.size := (Array.getElem?_eq_some_iff.1 hit).1
      by_cases hp : p < a0.size
      · have hnx : ∀ ty, (Instr.next (.pointer (some ⟨W1.heap.size, 0, none⟩)) true ty).run Tryd.prog wr = _ := fun ty => Lib.run_next_any_at wr W1.heap.size a0 p ty hit hp
        have hwd := wide_pos a0 p hp
        obtain ⟨k1, rfl⟩ : ∃ k1, gk = k1 + 1 := ⟨gk - 1, by have := HX.out.2.2; omega⟩
        have hne : some W1.heap.size ≠ u4.ownBlock := fun e => by
          obtain ⟨cells, hc⟩ := Kd.R_typed HO.out W1.heap.size e.symm
          rw [hit] at hc
          cases hc
        obtain ⟨W2, hW2⟩ : ∃ W2, wr.iterAt W1.heap.size a0 (p + (Utf8.decode a0 p).2) = W2 := ⟨_, rfl⟩
        have HO2 : Aside0 (Kd.R (Kd.int .i32) 21 W2 w.heap.size (fun _ => True) u4 x4) := ⟨by rw [← hW2]; exact Kd.R_grown2 HO.out rfl (iter_grown wr W1.heap.size a0 _) (fun k e => by cases e; exact hne)⟩
        have HB2 : Aside0 (Below w.heap.size w W2) := ⟨by rw [← hW2]; exact Lib.below_iterAt HB.out hwib a0 _⟩
        have hit2 : W2.heap[W1.heap.size]? = some (.stringIter a0 (p + (Utf8.decode a0 p).2)) := by rw [← hW2]; exact Lib.iterAt_heap wr W1.heap.size a0 p _ hit
        rw [hW2] at hnx
        have hx : x4.length ≤ 1000000000 := by have := HX.out.2.1; omega
        go_wp2_with (first | ((with_reducible refine gate_builtin (b := .append) (xs := #[.tmp 15, .tmp 17]) rfl ?_); at_builtin; refine Kd.R_append (Kd.int .i32) (w0 := w) w.heap.size rfl (.tmp 15) (.tmp 17) 22 21 (.int .i32 0) 4 rfl Tryd.underlying22 info21 rfl (by decide) (by omega) u4 x4 ((Utf8.decode a0 p).1 : Int) [.int .i32 ((Utf8.decode a0 p).1 : Int)] (fun _ => True) (fun _ => False) rfl rfl ?aP (fun _ hk => hk.elim) ?aF ?aO ?aB ?aS ?aL ?_; (case aP => exact rfl); (case aB => exact HB2.out); (case aF => exact (fun _ _ => trivial)); (case aO => exact HO2.out); (case aS => exact (below_size HB2.out)); (case aL => omega); intro v111 w6 ho hb hg hat))
        go_roundg k1
        case measure => omega
        case rel =>
          refine ⟨x4 ++ [((Utf8.decode a0 p).1 : Int)], p + (Utf8.decode a0 p).2, ⟨?_, ?_, ?_⟩, ?_, ⟨ho⟩, ⟨hb⟩⟩
          · rw [← HX.out.1, runesAt, if_pos hp, List.append_assoc]; rfl
          · have := HX.out.2.1; simp; omega
          · have := HX.out.2.2; omega
          · rw [hg.block W1.heap.size (by have := (Array.getElem?_eq_some_iff.1 hit2).1; exact this) hne]; exact hit2
      · have hnx : ∀ ty, (Instr.next (.pointer (some ⟨W1.heap.size, 0, none⟩)) true ty).run Tryd.prog wr = _ := fun ty => Lib.run_next_end_at wr W1.heap.size a0 p ty hit hp
        have e : x4 = runesAt a0 a0.size 0 := by have := HX.out.1; rw [runesAt_end a0 gk p hp, List.append_nil] at this; exact this
        go_wp2
        go_ret2
        exact ⟨_, rfl, by rw [← e]; exact HO.out, HB.out⟩
  · have b : Lib.validD a0.data.toList = false := by simpa using b
    rw [if_neg (by rw [b]; decide)] at h
    cases h
    rw [b] at V
    go_enter Tryd.func20, Tryd.ntmps20
    go_wp2_with (first | (go_at_call 58; (with_reducible refine V.mono ?_); rintro e W1 ⟨rfl, hb1⟩))
    go_ret2
    exact ⟨_, rfl, Kd.R_nil _ _ _ _ _, hb1⟩
end Go.Proofs.YtpkjpiphjdpegaaDoor.P
namespace Go.Proofs.YtpkjpiphjdpegaaDoor.P
open Go.Shelf Go.RowKit
def sh_lays219_ren : Go.Shelf.Ren := ⟨fun | 219 => 125 | 217 => 135 | 225 => 136 | 224 => 137 | 267 => 138 | 266 => 145 | 314 => 146 | n => n, fun | 9 => 9 | 3 => 3 | 4 => 4 | 5 => 5 | 46 => 138 | 146 => 189 | 51 => 188 | n => n, fun | 1 => 2 | n => n⟩
theorem sh_lays219 : Go.Proofs.Lays.n219 Tryd.prog sh_lays219_ren := {
  mixed := by kernel_rfl
  f217 := Tryd.func135.trans (congrArg some (by kernel_rfl))
  f219 := Tryd.func125.trans (congrArg some (by kernel_rfl))
  f224 := Tryd.func137.trans (congrArg some (by kernel_rfl))
  f225 := Tryd.func136.trans (congrArg some (by kernel_rfl))
  f266 := Tryd.func145.trans (congrArg some (by kernel_rfl))
  f267 := Tryd.func138.trans (congrArg some (by kernel_rfl))
  f314 := Tryd.func146.trans (congrArg some (by kernel_rfl))
  t3 := Tryd.underlying3
  a3 := Tryd.isAgg3
  z3 := Tryd.sizeOf3
  v3 := Tryd.zeroValue3
  t4 := Tryd.underlying4
  a4 := Tryd.isAgg4
  z4 := Tryd.sizeOf4
  v4 := Tryd.zeroValue4
  t5 := Tryd.underlying5
  a5 := Tryd.isAgg5
  z5 := Tryd.sizeOf5
  v5 := Tryd.zeroValue5
  t9 := Tryd.underlying9
  a9 := Tryd.isAgg9
  z9 := Tryd.sizeOf9
  v9 := Tryd.zeroValue9
  t46 := Tryd.underlying138
  a46 := Tryd.isAgg138
  z46 := Tryd.sizeOf138
  v46 := Tryd.zeroValue138
  t51 := Tryd.underlying188
  a51 := Tryd.isAgg188
  z51 := Tryd.sizeOf188
  v51 := Tryd.zeroValue188
  t146 := Tryd.underlying189
  a146 := Tryd.isAgg189
  z146 := Tryd.sizeOf189
  v146 := Tryd.zeroValue189
  g1 := by kernel_rfl }
open Go.RowKit Go.Lib in
theorem sh_stringslite_Index_one (s : ByteArray) (c : UInt8) (w : World) :
    Calls Tryd.prog 125 #[.string s, .string ⟨#[c]⟩] w fun e w' => e = .returned (.int .i64 (Lib.indexByte s.data.toList c)) ∧ w' = w := Any.stringslite_Index_one sh_lays219 s c w
end Go.Proofs.YtpkjpiphjdpegaaDoor.P
namespace Go.Proofs.YtpkjpiphjdpegaaDoor.P
open Go.RowKit Go.Proofs.YtpkjpiphjdpegaaDoorW.PrintWords Go.Proofs.YtpkjpiphjdpegaaDoorW.PrintLast Go.Proofs.YtpkjpiphjdpegaaDoorW.PrintMore
attribute [local go_sem] max2_int min2_int max_two min_two max_three min_three max_four min_four
set_option linter.unusedVariables false
set_option linter.unusedSimpArgs false
def stringslite_Index.f (s sub : ByteArray) : Option Int := if sub.data.toList.length = 1 then some (Lib.indexByte s.data.toList (sub.data.toList.getD 0 0)) else none
theorem stringslite_Index.calls (a0 : ByteArray) (a1 : ByteArray) (r : Int) (w : World) (h : stringslite_Index.f a0 a1 = some r) :
    Calls Tryd.prog 125 #[.string a0, .string a1] w fun e w' => e = .returned (.int .i64 r) ∧ Below w.heap.size w w' := by
  unfold stringslite_Index.f at h
  split at h
  · rename_i q
    obtain rfl := Option.some.inj h
    obtain ⟨⟨l⟩⟩ := a1
    match l, q with
    | [c], _ => exact (sh_stringslite_Index_one a0 c w).mono fun e w' hh => ⟨hh.1, hh.2 ▸ Below.refl _ _⟩
  · cases h
def lines_wrong.f (a0 : ByteArray) : Option (Int) := (lines_Runes.f a0).bind fun bt108 => (if bt108.2 = 0 then (if (bt108.1.length : Int) > 80 then (some 91) else (some bt108.2)) else (some bt108.2))
set_option maxHeartbeats 8000000 in
set_option maxRecDepth 100000 in
theorem lines_wrong.calls (a0 : ByteArray) (r : Int) (w : World) (hG : GT w) (h : lines_wrong.f a0 = some r) :
    Calls Tryd.prog 75 #[.string a0] w fun e w' => e = .returned (.int .i64 r) ∧ Below w.heap.size w w' := by
  have HB := Aside0.mk (Below.refl w.heap.size w)
  have H : ((lines_Runes.f a0).bind fun bt108 => (if bt108.2 = 0 then (if (bt108.1.length : Int) > 80 then (some 91) else (some bt108.2)) else (some bt108.2))) = some r := h
  clear h
  replace H := Option.bind_eq_some_iff.mp H
  obtain ⟨⟨t108, t109⟩, A20, H⟩ := H
  replace H : (if t109 = 0 then (if (t108.length : Int) > 80 then (some 91) else (some t109)) else (some t109)) = some r := H
  have A2 := Aside0.mk A20
  clear A20
  by_cases c3 : t109 = 0
  · rw [if_pos c3] at H
    have c3b0 : (t109 == 0) = true := beq_iff_eq.mpr c3
    have c3b1 : (t109 != 0) = false := bne_eq_false_iff_eq.mpr c3
    clear c3
    by_cases c4 : (t108.length : Int) > 80
    · rw [if_pos c4] at H
      have c4b0 : decide (80 < (t108.length : Int)) = true := decide_eq_true c4
      have c4b1 : decide (80 < t108.length) = true := decide_eq_true (by omega)
      clear c4
      obtain rfl := Option.some.inj H
      go_enter Tryd.func75, Tryd.ntmps75
      go_wp2_with (first | ((with_reducible refine gate_callee (f := 20) rfl ?_); refine goesL_ (some 7) rfl rfl Tryd.func20 (by kernel_rfl) rfl #[.string a0] rfl (by (try simp only [List.map_toArray, List.map_cons, List.map_nil]); first | done | rfl | (simp only [List.length_drop, List.length_take]; rfl)) ?_; (with_reducible refine (lines_Runes.calls a0 t108 t109 _ ?side1 A2.out).mono ?_); (case side1 => exact gt_below hG (by repeat (first | (with_reducible first | exact HB.out | apply below_alloc | apply pw_below_drewN | apply below_drew1) | exact HB.out))); rintro e w5 ⟨v110, rfl, ho0, hb⟩; refine ⟨_, rfl, ?_⟩; have n0_ := Aside0.mk (Kd.R_lower ho0 (below_size (by repeat (first | (with_reducible first | exact HB.out | apply below_alloc | apply pw_below_drewN | apply below_drew1) | exact HB.out)))); have n1_ := Aside0.mk (below_step (by repeat (first | (with_reducible first | exact HB.out | apply below_alloc | apply pw_below_drewN | apply below_drew1) | exact HB.out)) hb); clear HB; have HO111 := n0_; have HB := n1_; clear n0_ n1_; (try clear hb); (try clear hb2); (try clear hk); (try clear hi); (try clear ho0); obtain ⟨Ao6, co6, eo6⟩ := Kd.R_slice HO111.out; subst eo6))
      go_ret
      exact ⟨by first | rfl | (simp [errW_none, errW_some] <;> rfl) | (simp [*, errW_none, errW_some] <;> rfl), by repeat (first | (with_reducible first | exact HB.out | apply below_alloc | apply pw_below_drewN | apply below_drew1) | exact HB.out)⟩
    · rw [if_neg c4] at H
      have c4b0 : decide (80 < (t108.length : Int)) = false := decide_eq_false c4
      have c4b1 : decide (80 < t108.length) = false := decide_eq_false (by omega)
      clear c4
      obtain rfl := Option.some.inj H
      go_enter Tryd.func75, Tryd.ntmps75
      go_wp2_with (first | ((with_reducible refine gate_callee (f := 20) rfl ?_); refine goesL_ (some 7) rfl rfl Tryd.func20 (by kernel_rfl) rfl #[.string a0] rfl (by (try simp only [List.map_toArray, List.map_cons, List.map_nil]); first | done | rfl | (simp only [List.length_drop, List.length_take]; rfl)) ?_; (with_reducible refine (lines_Runes.calls a0 t108 t109 _ ?side1 A2.out).mono ?_); (case side1 => exact gt_below hG (by repeat (first | (with_reducible first | exact HB.out | apply below_alloc | apply pw_below_drewN | apply below_drew1) | exact HB.out))); rintro e w7 ⟨v110, rfl, ho0, hb⟩; refine ⟨_, rfl, ?_⟩; have n0_ := Aside0.mk (Kd.R_lower ho0 (below_size (by repeat (first | (with_reducible first | exact HB.out | apply below_alloc | apply pw_below_drewN | apply below_drew1) | exact HB.out)))); have n1_ := Aside0.mk (below_step (by repeat (first | (with_reducible first | exact HB.out | apply below_alloc | apply pw_below_drewN | apply below_drew1) | exact HB.out)) hb); clear HB; have HO111 := n0_; have HB := n1_; clear n0_ n1_; (try clear hb); (try clear hb2); (try clear hk); (try clear hi); (try clear ho0); obtain ⟨Ao8, co8, eo8⟩ := Kd.R_slice HO111.out; subst eo8))
      go_ret
      exact ⟨by first | rfl | (simp [errW_none, errW_some] <;> rfl) | (simp [*, errW_none, errW_some] <;> rfl), by repeat (first | (with_reducible first | exact HB.out | apply below_alloc | apply pw_below_drewN | apply below_drew1) | exact HB.out)⟩
  · rw [if_neg c3] at H
    have c3b0 : (t109 == 0) = false := beq_eq_false_iff_ne.mpr c3
    have c3b1 : (t109 != 0) = true := bne_iff_ne.mpr c3
    obtain rfl := Option.some.inj H
    go_enter Tryd.func75, Tryd.ntmps75
    go_wp2_with (first | ((with_reducible refine gate_callee (f := 20) rfl ?_); refine goesL_ (some 7) rfl rfl Tryd.func20 (by kernel_rfl) rfl #[.string a0] rfl (by (try simp only [List.map_toArray, List.map_cons, List.map_nil]); first | done | rfl | (simp only [List.length_drop, List.length_take]; rfl)) ?_; (with_reducible refine (lines_Runes.calls a0 t108 t109 _ ?side1 A2.out).mono ?_); (case side1 => exact gt_below hG (by repeat (first | (with_reducible first | exact HB.out | apply below_alloc | apply pw_below_drewN | apply below_drew1) | exact HB.out))); rintro e w9 ⟨v110, rfl, ho0, hb⟩; refine ⟨_, rfl, ?_⟩; have n0_ := Aside0.mk (Kd.R_lower ho0 (below_size (by repeat (first | (with_reducible first | exact HB.out | apply below_alloc | apply pw_below_drewN | apply below_drew1) | exact HB.out)))); have n1_ := Aside0.mk (below_step (by repeat (first | (with_reducible first | exact HB.out | apply below_alloc | apply pw_below_drewN | apply below_drew1) | exact HB.out)) hb); clear HB; have HO111 := n0_; have HB := n1_; clear n0_ n1_; (try clear hb); (try clear hb2); (try clear hk); (try clear hi); (try clear ho0)))
    go_ret
    exact ⟨by first | rfl | (simp [errW_none, errW_some] <;> rfl) | (simp [*, errW_none, errW_some] <;> rfl), by repeat (first | (with_reducible first | exact HB.out | apply below_alloc | apply pw_below_drewN | apply below_drew1) | exact HB.out)⟩
def stringslite_Cut.f (a0 : ByteArray) (a1 : ByteArray) : Option (ByteArray × ByteArray × Bool) := (stringslite_Index.f a0 a1).bind fun t114 => (if t114 ≥ 0 then (if 0 ≤ t114 then (if t114 ≤ (a0.size : Int) then (if 0 ≤ (wrap64 (t114 + (a1.size : Int))) then (if (wrap64 (t114 + (a1.size : Int))) ≤ (a0.size : Int) then (some (a0.extract 0 (t114 : Int).toNat, a0.extract ((wrap64 (t114 + (a1.size : Int))) : Int).toNat a0.size, true)) else (none)) else (none)) else (none)) else (none)) else (some (a0, (⟨#[]⟩ : ByteArray), false)))
set_option maxHeartbeats 8000000 in
set_option maxRecDepth 100000 in
theorem stringslite_Cut.calls (a0 : ByteArray) (a1 : ByteArray) (r1 : ByteArray) (r2 : ByteArray) (r3 : Bool) (w : World) (h : stringslite_Cut.f a0 a1 = some (r1, r2, r3)) :
    Calls Tryd.prog 103 #[.string a0, .string a1] w fun e w' => e = .returned (.tuple #[.string r1, .string r2, .bool r3]) ∧ Below w.heap.size w w' := by
  have HB := Aside0.mk (Below.refl w.heap.size w)
  have H : ((stringslite_Index.f a0 a1).bind fun t114 => (if t114 ≥ 0 then (if 0 ≤ t114 then (if t114 ≤ (a0.size : Int) then (if 0 ≤ (wrap64 (t114 + (a1.size : Int))) then (if (wrap64 (t114 + (a1.size : Int))) ≤ (a0.size : Int) then (some (a0.extract 0 (t114 : Int).toNat, a0.extract ((wrap64 (t114 + (a1.size : Int))) : Int).toNat a0.size, true)) else (none)) else (none)) else (none)) else (none)) else (some (a0, (⟨#[]⟩ : ByteArray), false)))) = some (r1, r2, r3) := h
  clear h
  replace H := Option.bind_eq_some_iff.mp H
  obtain ⟨t114, A30, H⟩ := H
  replace H : (if t114 ≥ 0 then (if 0 ≤ t114 then (if t114 ≤ (a0.size : Int) then (if 0 ≤ (wrap64 (t114 + (a1.size : Int))) then (if (wrap64 (t114 + (a1.size : Int))) ≤ (a0.size : Int) then (some (a0.extract 0 (t114 : Int).toNat, a0.extract ((wrap64 (t114 + (a1.size : Int))) : Int).toNat a0.size, true)) else (none)) else (none)) else (none)) else (none)) else (some (a0, (⟨#[]⟩ : ByteArray), false))) = some (r1, r2, r3) := H
  have A3 := Aside0.mk A30
  clear A30
  by_cases c4 : t114 ≥ 0
  · rw [if_pos c4] at H
    have c4b0 : decide (0 ≤ t114) = true := decide_eq_true c4
    clear c4
    by_cases c5 : 0 ≤ t114
    · rw [if_pos c5] at H
      have c5b0 := eq_true c5
      have c5b1 : decide (0 ≤ t114) = true := decide_eq_true c5
      clear c5
      by_cases c6 : t114 ≤ (a0.size : Int)
      · rw [if_pos c6] at H
        have c6b0 := eq_true c6
        have c6b1 : decide (t114 ≤ (a0.size : Int)) = true := decide_eq_true c6
        clear c6
        obtain ⟨ji7, hji7⟩ : ∃ j_ : Int, (wrap64 (t114 + (a1.size : Int))) = j_ := ⟨_, rfl⟩
        replace H : (if 0 ≤ (ji7) then (if (ji7) ≤ (a0.size : Int) then (some (a0.extract 0 (t114 : Int).toNat, a0.extract ((ji7) : Int).toNat a0.size, true)) else (none)) else (none)) = some (r1, r2, r3) := by first | (rw [hji7] at H; exact H) | (simp only [hji7] at H ⊢; exact H)
        (try rw [hji7] at A3)
        have hji7w : (IntKind.i64.wrap (t114 + (a1.size : Int))) = ji7 := (i64_w _).trans hji7
        by_cases c8 : 0 ≤ (ji7)
        · rw [if_pos c8] at H
          have c8b0 := eq_true c8
          have c8b1 : decide (0 ≤ (ji7)) = true := decide_eq_true c8
          clear c8
          by_cases c9 : (ji7) ≤ (a0.size : Int)
          · rw [if_pos c9] at H
            have c9b0 := eq_true c9
            have c9b1 : decide ((ji7) ≤ (a0.size : Int)) = true := decide_eq_true c9
            clear c9
            simp only [Option.some.injEq, Prod.mk.injEq] at H
            obtain ⟨rfl, rfl, rfl⟩ := H
            go_enter Tryd.func103, Tryd.ntmps103
            go_wp2_with (first | (go_at_call 125; (with_reducible refine (stringslite_Index.calls a0 a1 t114 _ A3.out).mono ?_); rintro e w10 ⟨rfl, hb⟩; have n0_ := Aside0.mk (below_step (by repeat (first | (with_reducible first | exact HB.out | apply below_alloc | apply pw_below_drewN | apply below_drew1) | exact HB.out)) hb); clear HB; have HB := n0_; clear n0_; (try clear hb); (try clear hb2); (try clear hk); (try clear hi)))
            repeat (go_quiet (first | (go_at_call 125; (with_reducible refine (stringslite_Index.calls a0 a1 t114 _ A3.out).mono ?_); rintro e w10 ⟨rfl, hb⟩; have n0_ := Aside0.mk (below_step (by repeat (first | (with_reducible first | exact HB.out | apply below_alloc | apply pw_below_drewN | apply below_drew1) | exact HB.out)) hb); clear HB; have HB := n0_; clear n0_; (try clear hb); (try clear hb2); (try clear hk); (try clear hi))); try go_wp2_with (first | (go_at_call 125; (with_reducible refine (stringslite_Index.calls a0 a1 t114 _ A3.out).mono ?_); rintro e w10 ⟨rfl, hb⟩; have n0_ := Aside0.mk (below_step (by repeat (first | (with_reducible first | exact HB.out | apply below_alloc | apply pw_below_drewN | apply below_drew1) | exact HB.out)) hb); clear HB; have HB := n0_; clear n0_; (try clear hb); (try clear hb2); (try clear hk); (try clear hi))))
            go_ret3
            exact ⟨by first | rfl | (simp [errW_none, errW_some] <;> rfl) | (simp only [← hji7]; first | rfl | (simp [errW_none, errW_some] <;> rfl)) | (simp [*, errW_none, errW_some] <;> rfl), by repeat (first | (with_reducible first | exact HB.out | apply below_alloc | apply pw_below_drewN | apply below_drew1) | exact HB.out)⟩
          · rw [if_neg c9] at H
            exact absurd H (by simp)
        · rw [if_neg c8] at H
          exact absurd H (by simp)
      · rw [if_neg c6] at H
        exact absurd H (by simp)
    · rw [if_neg c5] at H
      exact absurd H (by simp)
  · rw [if_neg c4] at H
    have c4b0 : decide (0 ≤ t114) = false := decide_eq_false c4
    clear c4
    simp only [Option.some.injEq, Prod.mk.injEq] at H
    obtain ⟨rfl, rfl, rfl⟩ := H
    go_enter Tryd.func103, Tryd.ntmps103
    go_wp2_with (first | (go_at_call 125; (with_reducible refine (stringslite_Index.calls a0 a1 t114 _ A3.out).mono ?_); rintro e w11 ⟨rfl, hb⟩; have n0_ := Aside0.mk (below_step (by repeat (first | (with_reducible first | exact HB.out | apply below_alloc | apply pw_below_drewN | apply below_drew1) | exact HB.out)) hb); clear HB; have HB := n0_; clear n0_; (try clear hb); (try clear hb2); (try clear hk); (try clear hi)))
    repeat (go_quiet (first | (go_at_call 125; (with_reducible refine (stringslite_Index.calls a0 a1 t114 _ A3.out).mono ?_); rintro e w11 ⟨rfl, hb⟩; have n0_ := Aside0.mk (below_step (by repeat (first | (with_reducible first | exact HB.out | apply below_alloc | apply pw_below_drewN | apply below_drew1) | exact HB.out)) hb); clear HB; have HB := n0_; clear n0_; (try clear hb); (try clear hb2); (try clear hk); (try clear hi))); try go_wp2_with (first | (go_at_call 125; (with_reducible refine (stringslite_Index.calls a0 a1 t114 _ A3.out).mono ?_); rintro e w11 ⟨rfl, hb⟩; have n0_ := Aside0.mk (below_step (by repeat (first | (with_reducible first | exact HB.out | apply below_alloc | apply pw_below_drewN | apply below_drew1) | exact HB.out)) hb); clear HB; have HB := n0_; clear n0_; (try clear hb); (try clear hb2); (try clear hk); (try clear hi))))
    go_ret3
    exact ⟨by first | rfl | (simp [errW_none, errW_some] <;> rfl) | (simp [*, errW_none, errW_some] <;> rfl), by repeat (first | (with_reducible first | exact HB.out | apply below_alloc | apply pw_below_drewN | apply below_drew1) | exact HB.out)⟩
def strings_Cut.f (a0 : ByteArray) (a1 : ByteArray) : Option (ByteArray × ByteArray × Bool) := (stringslite_Cut.f a0 a1).bind fun bt115 => (some (bt115.1, bt115.2.1, bt115.2.2))
set_option maxHeartbeats 8000000 in
set_option maxRecDepth 100000 in
theorem strings_Cut.calls (a0 : ByteArray) (a1 : ByteArray) (r1 : ByteArray) (r2 : ByteArray) (r3 : Bool) (w : World) (h : strings_Cut.f a0 a1 = some (r1, r2, r3)) :
    Calls Tryd.prog 74 #[.string a0, .string a1] w fun e w' => e = .returned (.tuple #[.string r1, .string r2, .bool r3]) ∧ Below w.heap.size w w' := by
  have HB := Aside0.mk (Below.refl w.heap.size w)
  have H : ((stringslite_Cut.f a0 a1).bind fun bt115 => (some (bt115.1, bt115.2.1, bt115.2.2))) = some (r1, r2, r3) := h
  clear h
  replace H := Option.bind_eq_some_iff.mp H
  obtain ⟨⟨t115, t116, t117⟩, A30, H⟩ := H
  replace H : (some (t115, t116, t117)) = some (r1, r2, r3) := H
  have A3 := Aside0.mk A30
  clear A30
  simp only [Option.some.injEq, Prod.mk.injEq] at H
  obtain ⟨rfl, rfl, rfl⟩ := H
  go_enter Tryd.func74, Tryd.ntmps74
  go_wp2_with (first | ((with_reducible refine gate_callee (f := 103) rfl ?_); refine goesL_ (some 9) rfl rfl Tryd.func103 (by kernel_rfl) rfl #[.string a0, .string a1] rfl (by (try simp only [List.map_toArray, List.map_cons, List.map_nil]); first | done | rfl | (simp only [List.length_drop, List.length_take]; rfl)) ?_; (with_reducible refine (stringslite_Cut.calls a0 a1 t115 t116 t117 _ A3.out).mono ?_); rintro e w4 ⟨rfl, hb⟩; refine ⟨_, rfl, ?_⟩; have n0_ := Aside0.mk (below_step (by repeat (first | (with_reducible first | exact HB.out | apply below_alloc | apply pw_below_drewN | apply below_drew1) | exact HB.out)) hb); clear HB; have HB := n0_; clear n0_; (try clear hb); (try clear hb2); (try clear hk); (try clear hi)))
  go_ret3
  exact ⟨by first | rfl | (simp [errW_none, errW_some] <;> rfl) | (simp [*, errW_none, errW_some] <;> rfl), by repeat (first | (with_reducible first | exact HB.out | apply below_alloc | apply pw_below_drewN | apply below_drew1) | exact HB.out)⟩
def stringslite_HasPrefix.f (a0 : ByteArray) (a1 : ByteArray) : Option (Bool) := if (a0.size : Int) ≥ (a1.size : Int) then (if 0 ≤ (a1.size : Int) then (if (a1.size : Int) ≤ (a0.size : Int) then (some ((a0.extract 0 ((a1.size : Int) : Int).toNat).toList == a1.toList)) else (none)) else (none)) else (some false)
set_option maxHeartbeats 8000000 in
set_option maxRecDepth 100000 in
theorem stringslite_HasPrefix.calls (a0 : ByteArray) (a1 : ByteArray) (r : Bool) (w : World) (h : stringslite_HasPrefix.f a0 a1 = some r) :
    Calls Tryd.prog 102 #[.string a0, .string a1] w fun e w' => e = .returned (.bool r) ∧ Drawn0 w w' := by
  have H : (if (a0.size : Int) ≥ (a1.size : Int) then (if 0 ≤ (a1.size : Int) then (if (a1.size : Int) ≤ (a0.size : Int) then (some ((a0.extract 0 ((a1.size : Int) : Int).toNat).toList == a1.toList)) else (none)) else (none)) else (some false)) = some r := h
  clear h
  by_cases c3 : (a0.size : Int) ≥ (a1.size : Int)
  · rw [if_pos c3] at H
    have c3b0 : decide ((a1.size : Int) ≤ (a0.size : Int)) = true := decide_eq_true c3
    have c3b1 : decide (a1.size ≤ a0.size) = true := decide_eq_true (Int.ofNat_le.mp c3)
    clear c3
    by_cases c4 : 0 ≤ (a1.size : Int)
    · rw [if_pos c4] at H
      have c4b0 := eq_true c4
      have c4b1 : decide (0 ≤ (a1.size : Int)) = true := decide_eq_true c4
      clear c4
      by_cases c5 : (a1.size : Int) ≤ (a0.size : Int)
      · rw [if_pos c5] at H
        have c5b0 := eq_true c5
        have c5b1 : decide ((a1.size : Int) ≤ (a0.size : Int)) = true := decide_eq_true c5
        clear c5
        obtain rfl := Option.some.inj H
        go_enter Tryd.func102, Tryd.ntmps102
        go_wp2
        go_ret
        exact ⟨by first | rfl | (simp; done) | (simp [*]; done), by repeat (first | exact Drawn0.refl _ | apply Drawn0.step)⟩
      · rw [if_neg c5] at H
        exact absurd H (by simp)
    · rw [if_neg c4] at H
      exact absurd H (by simp)
  · rw [if_neg c3] at H
    have c3b0 : decide ((a1.size : Int) ≤ (a0.size : Int)) = false := decide_eq_false c3
    have c3b1 : decide (a1.size ≤ a0.size) = false := decide_eq_false (fun h => c3 (Int.ofNat_le.mpr h))
    clear c3
    obtain rfl := Option.some.inj H
    go_enter Tryd.func102, Tryd.ntmps102
    go_wp2
    go_ret
    exact ⟨by first | rfl | (simp; done) | (simp [*]; done), by repeat (first | exact Drawn0.refl _ | apply Drawn0.step)⟩
def strings_HasPrefix.f (a0 : ByteArray) (a1 : ByteArray) : Option (Bool) := (stringslite_HasPrefix.f a0 a1).bind fun t118 => (some t118)
set_option maxHeartbeats 8000000 in
set_option maxRecDepth 100000 in
theorem strings_HasPrefix.calls0 (a0 : ByteArray) (a1 : ByteArray) (r : Bool) (w : World) (h : strings_HasPrefix.f a0 a1 = some r) :
    Calls Tryd.prog 72 #[.string a0, .string a1] w fun e w' => e = .returned (.bool r) ∧ Drawn0 w w' := by
  have H : ((stringslite_HasPrefix.f a0 a1).bind fun t118 => (some t118)) = some r := h
  clear h
  replace H := Option.bind_eq_some_iff.mp H
  obtain ⟨t118, A30, H⟩ := H
  replace H : (some t118) = some r := H
  have A3 := Aside0.mk A30
  clear A30
  obtain rfl := Option.some.inj H
  go_enter Tryd.func72, Tryd.ntmps72
  go_wp2_with (first | ((with_reducible refine gate_callee (f := 102) rfl ?_); refine goesL_ (some 7) rfl rfl Tryd.func102 (by kernel_rfl) rfl #[.string a0, .string a1] rfl (by (try simp only [List.map_toArray, List.map_cons, List.map_nil]); first | done | rfl | (simp only [List.length_drop, List.length_take]; rfl)) ?_; (with_reducible refine (stringslite_HasPrefix.calls a0 a1 t118 _ A3.out).mono ?_); rintro e w' ⟨rfl, ⟨nd, rfl⟩⟩; refine ⟨_, rfl, ?_⟩))
  go_ret
  exact ⟨by first | rfl | (simp; done) | (simp [*]; done), by repeat (first | exact Drawn0.refl _ | apply Drawn0.step)⟩
theorem strings_HasPrefix.calls (a0 : ByteArray) (a1 : ByteArray) (r : Bool) (w : World) (h : strings_HasPrefix.f a0 a1 = some r) :
    Calls Tryd.prog 72 #[.string a0, .string a1] w fun e w' => e = .returned (.bool r) ∧ Below w.heap.size w w' :=
  (strings_HasPrefix.calls0 a0 a1 r w h).mono fun e w' hh => ⟨hh.1, hh.2.below⟩
def lines_Kind.f (a0 : ByteArray) : Option (Int) := if a0.toList = ([] : List UInt8) then (some 0) else ((strings_HasPrefix.f a0 (⟨#[35]⟩ : ByteArray)).bind fun t186 => (if t186 = true then (some 1) else (some 2)))
set_option maxHeartbeats 8000000 in
set_option maxRecDepth 100000 in
theorem lines_Kind.calls (a0 : ByteArray) (r : Int) (w : World) (h : lines_Kind.f a0 = some r) :
    Calls Tryd.prog 37 #[.string a0] w fun e w' => e = .returned (.int .u8 r) ∧ Below w.heap.size w w' := by
  have HB := Aside0.mk (Below.refl w.heap.size w)
  have H : (if a0.toList = ([] : List UInt8) then (some 0) else ((strings_HasPrefix.f a0 (⟨#[35]⟩ : ByteArray)).bind fun t186 => (if t186 = true then (some 1) else (some 2)))) = some r := h
  clear h
  by_cases c2 : a0.toList = ([] : List UInt8)
  · rw [if_pos c2] at H
    have c2b0 : (a0.toList == ([] : List UInt8)) = true := beq_iff_eq.mpr c2
    have c2b1 : (a0.toList != ([] : List UInt8)) = false := bne_eq_false_iff_eq.mpr c2
    clear c2
    obtain rfl := Option.some.inj H
    go_enter Tryd.func37, Tryd.ntmps37
    go_wp2
    go_ret
    exact ⟨by first | rfl | (simp [errW_none, errW_some] <;> rfl) | (simp [*, errW_none, errW_some] <;> rfl), by repeat (first | (with_reducible first | exact HB.out | apply below_alloc | apply pw_below_drewN | apply below_drew1) | exact HB.out)⟩
  · rw [if_neg c2] at H
    have c2b0 : (a0.toList == ([] : List UInt8)) = false := beq_eq_false_iff_ne.mpr c2
    have c2b1 : (a0.toList != ([] : List UInt8)) = true := bne_iff_ne.mpr c2
    replace H := Option.bind_eq_some_iff.mp H
    obtain ⟨t186, A30, H⟩ := H
    replace H : (if t186 = true then (some 1) else (some 2)) = some r := H
    have A3 := Aside0.mk A30
    clear A30
    by_cases c4 : t186 = true
    · subst c4
      have H1 : (some 1) = some r := by rw [if_pos rfl] at H; exact H
      clear H
      have H := H1
      clear H1
      obtain rfl := Option.some.inj H
      go_enter Tryd.func37, Tryd.ntmps37
      go_wp2_with (first | ((with_reducible refine gate_callee (f := 72) rfl ?_); refine goesL_ (some 8) rfl rfl Tryd.func72 (by kernel_rfl) rfl #[.string a0, .string (⟨#[35]⟩ : ByteArray)] rfl (by (try simp only [List.map_toArray, List.map_cons, List.map_nil]); first | done | rfl | (simp only [List.length_drop, List.length_take]; rfl)) ?_; (with_reducible refine (strings_HasPrefix.calls a0 (⟨#[35]⟩ : ByteArray) true _ A3.out).mono ?_); rintro e w5 ⟨rfl, hb⟩; refine ⟨_, rfl, ?_⟩; have n0_ := Aside0.mk (below_step (by repeat (first | (with_reducible first | exact HB.out | apply below_alloc | apply pw_below_drewN | apply below_drew1) | exact HB.out)) hb); clear HB; have HB := n0_; clear n0_; (try clear hb); (try clear hb2); (try clear hk); (try clear hi)))
      go_ret
      exact ⟨by first | rfl | (simp [errW_none, errW_some] <;> rfl) | (simp [*, errW_none, errW_some] <;> rfl), by repeat (first | (with_reducible first | exact HB.out | apply below_alloc | apply pw_below_drewN | apply below_drew1) | exact HB.out)⟩
    · replace c4 := Bool.eq_false_iff.mpr c4
      subst c4
      have H1 : (some 2) = some r := by rw [if_neg (show ¬ (false = true) by decide)] at H; exact H
      clear H
      have H := H1
      clear H1
      obtain rfl := Option.some.inj H
      go_enter Tryd.func37, Tryd.ntmps37
      go_wp2_with (first | ((with_reducible refine gate_callee (f := 72) rfl ?_); refine goesL_ (some 8) rfl rfl Tryd.func72 (by kernel_rfl) rfl #[.string a0, .string (⟨#[35]⟩ : ByteArray)] rfl (by (try simp only [List.map_toArray, List.map_cons, List.map_nil]); first | done | rfl | (simp only [List.length_drop, List.length_take]; rfl)) ?_; (with_reducible refine (strings_HasPrefix.calls a0 (⟨#[35]⟩ : ByteArray) false _ A3.out).mono ?_); rintro e w6 ⟨rfl, hb⟩; refine ⟨_, rfl, ?_⟩; have n0_ := Aside0.mk (below_step (by repeat (first | (with_reducible first | exact HB.out | apply below_alloc | apply pw_below_drewN | apply below_drew1) | exact HB.out)) hb); clear HB; have HB := n0_; clear n0_; (try clear hb); (try clear hb2); (try clear hk); (try clear hi)))
      go_ret
      exact ⟨by first | rfl | (simp [errW_none, errW_some] <;> rfl) | (simp [*, errW_none, errW_some] <;> rfl), by repeat (first | (with_reducible first | exact HB.out | apply below_alloc | apply pw_below_drewN | apply below_drew1) | exact HB.out)⟩
end Go.Proofs.YtpkjpiphjdpegaaDoor.P
namespace Go.Proofs.YtpkjpiphjdpegaaDoor.P
open Go.RowKit Go.Proofs.YtpkjpiphjdpegaaDoorW.PrintWords Go.Proofs.YtpkjpiphjdpegaaDoorW.PrintLast Go.Proofs.YtpkjpiphjdpegaaDoorW.PrintMore
set_option linter.unusedVariables false
set_option linter.unusedSimpArgs false
def mk (l : List UInt8) : ByteArray := ⟨l.toArray⟩
theorem mk_list (l : List UInt8) : (mk l).data.toList = l := rfl
theorem mk_size (l : List UInt8) : (mk l).size = l.length := by simp [mk, ByteArray.size]
theorem mk_of (s : ByteArray) : mk s.data.toList = s := by
  obtain ⟨⟨l⟩⟩ := s
  rfl
theorem toList_eq (s : ByteArray) : s.toList = s.data.toList := Go.ByteArray.toList_eq s
def splitB : List UInt8 → List (List UInt8)
  | [] => [[]]
  | b :: l => if b = 10 then [] :: splitB l else match splitB l with
    | [] => [[b]]
    | h :: r => (b :: h) :: r
theorem splitB_ne (l : List UInt8) : splitB l ≠ [] := by
  cases l with
  | nil => simp [splitB]
  | cons b l =>
    rw [splitB]
    split
    · simp
    · split <;> simp
theorem splitB_none : ∀ {l : List UInt8}, Lib.indexByte l 10 = -1 → splitB l = [l]
  | [], _ => rfl
  | b :: l, h => by
    have hb : ¬ b = 10 := fun e => by
      have := Lib.indexByte_none h 0
      rw [e] at this
      simp at this
    have hl : Lib.indexByte l 10 = -1 := by
      have hge := Lib.indexByte_ge l 10
      rw [Lib.indexByte, if_neg (by simp [hb])] at h
      split at h
      · rename_i q; simpa using q
      · omega
    rw [splitB, if_neg hb, splitB_none hl]
theorem splitB_some : ∀ {l : List UInt8} {i : Nat}, Lib.indexByte l 10 = (i : Int) → splitB l = l.take i :: splitB (l.drop (i + 1)) ∧ i < l.length
  | [], i, h => by simp [Lib.indexByte] at h
  | b :: l, i, h => by
    rw [Lib.indexByte] at h
    by_cases hb : b = 10
    · rw [if_pos (by simp [hb])] at h
      obtain rfl : i = 0 := by omega
      rw [splitB, if_pos hb]
      simp
    · rw [if_neg (by simp [hb])] at h
      split at h
      · omega
      · have hge := Lib.indexByte_ge l 10
        rename_i q
        have q' : Lib.indexByte l 10 ≠ -1 := by simpa using q
        obtain ⟨k, rfl⟩ : ∃ k, i = k + 1 := ⟨i - 1, by omega⟩
        obtain ⟨e, hk⟩ := splitB_some (l := l) (i := k) (by omega)
        rw [splitB, if_neg hb, e]
        simp
        omega
def kindOf : List UInt8 → Int
  | [] => 0
  | b :: _ => if b = 35 then 1 else 2
def wrongOf (h : List UInt8) : Int := if Lib.validD h = true then (if (runesAt (mk h) h.length 0).length > 80 then 91 else 0) else 90
def lineOf (n : Int) (h : List UInt8) : S56 := ⟨n, mk h, kindOf h, wrongOf h⟩
def linesL (n : Int) : List (List UInt8) → List S56
  | [] => []
  | h :: r => lineOf n h :: linesL (n + 1) r
def allL (s : ByteArray) : List S56 := linesL 1 (splitB s.data.toList)
theorem linesL_len : ∀ (l : List (List UInt8)) (n : Int), (linesL n l).length = l.length
  | [], n => rfl
  | h :: r, n => by rw [linesL, List.length_cons, linesL_len r, List.length_cons]
theorem splitB_len (l : List UInt8) : (splitB l).length ≤ l.length + 1 := by
  induction l with
  | nil => simp [splitB]
  | cons b l ih =>
    rw [splitB]
    split
    · simp; omega
    · split
      · simp
      · rename_i q; rw [q] at ih; simp at ih ⊢; omega
theorem splitB_size : ∀ (l : List UInt8), ∀ h ∈ splitB l, h.length ≤ l.length
  | [], h, hh => by simp [splitB] at hh; subst hh; simp
  | b :: l, h, hh => by
    have ih := splitB_size l
    rw [splitB] at hh
    split at hh
    · rcases List.mem_cons.1 hh with rfl | hh
      · simp
      · have := ih h hh; simp; omega
    · split at hh
      · simp at hh; subst hh; simp
      · rename_i q
        rw [q] at ih
        rcases List.mem_cons.1 hh with rfl | hh
        · have := ih _ (List.mem_cons_self ..); simp; omega
        · have := ih h (List.mem_cons_of_mem _ hh); simp; omega
theorem extract_mk (l : List UInt8) (i j : Nat) : (mk l).extract i j = mk ((l.take j).drop i) := by
  apply ByteArray.ext
  rw [ByteArray.data_extract]
  apply Array.ext'
  rw [Array.toList_extract]
  show l.extract i j = _
  rw [List.extract_eq_take_drop, List.drop_take]
  rfl
theorem cut_none {l : List UInt8} (h : Lib.indexByte l 10 = -1) : strings_Cut.f (mk l) (⟨#[10]⟩ : ByteArray) = some (mk l, (⟨#[]⟩ : ByteArray), false) := by
  have e : stringslite_Index.f (mk l) (⟨#[10]⟩ : ByteArray) = some (-1) := by
    unfold stringslite_Index.f
    rw [if_pos (show (⟨#[10]⟩ : ByteArray).data.toList.length = 1 from rfl), mk_list]
    exact congrArg some h
  unfold strings_Cut.f stringslite_Cut.f
  rw [e, Option.bind_some, if_neg (by omega), Option.bind_some]
theorem cut_some {l : List UInt8} {i : Nat} (hs : l.length ≤ 1000000000) (h : Lib.indexByte l 10 = (i : Int)) : strings_Cut.f (mk l) (⟨#[10]⟩ : ByteArray) = some (mk (l.take i), mk (l.drop (i + 1)), true) := by
  have e : stringslite_Index.f (mk l) (⟨#[10]⟩ : ByteArray) = some (i : Int) := by
    unfold stringslite_Index.f
    rw [if_pos (show (⟨#[10]⟩ : ByteArray).data.toList.length = 1 from rfl), mk_list]
    exact congrArg some h
  have hi := (splitB_some h).2
  have h1 : ((⟨#[10]⟩ : ByteArray).size : Int) = 1 := rfl
  have w1 : wrap64 ((i : Int) + 1) = ((i + 1 : Nat) : Int) := by unfold wrap64; push_cast; omega
  unfold strings_Cut.f stringslite_Cut.f
  rw [e, Option.bind_some, if_pos (by omega), if_pos (by omega), mk_size, if_pos (by omega), h1, w1, if_pos (by omega), if_pos (by omega), Option.bind_some]
  rw [Int.toNat_natCast, Int.toNat_natCast, extract_mk, extract_mk, List.drop_zero, List.take_length]
theorem kind_is (h : List UInt8) (hs : h.length ≤ 1000000000) : lines_Kind.f (mk h) = some (kindOf h) := by
  unfold lines_Kind.f
  cases h with
  | nil => rw [if_pos (by rw [toList_eq]; rfl)]; rfl
  | cons b l =>
    rw [if_neg (by rw [toList_eq]; simp [mk])]
    have e1 : ((⟨#[35]⟩ : ByteArray).size : Int) = 1 := rfl
    have e2 : ((mk (b :: l)).size : Int) = (l.length : Int) + 1 := by rw [mk_size]; simp
    have P : strings_HasPrefix.f (mk (b :: l)) (⟨#[35]⟩ : ByteArray) = some (b == 35) := by
      unfold strings_HasPrefix.f stringslite_HasPrefix.f
      rw [e1, e2, if_pos (by omega), if_pos (by omega), if_pos (by omega), Option.bind_some]
      rw [toList_eq, toList_eq, show ((1 : Int)).toNat = 1 from rfl, extract_mk]
      congr 1
      show ([b] == [35]) = (b == 35)
      simp
    rw [P, Option.bind_some]
    show _ = some (if b = 35 then 1 else 2)
    by_cases q : b = 35
    · rw [if_pos (by simp [q]), if_pos q]
    · rw [if_neg (by simp [q]), if_neg q]
theorem wrong_is (h : List UInt8) (hs : h.length ≤ 1000000000) : lines_wrong.f (mk h) = some (wrongOf h) := by
  unfold lines_wrong.f lines_Runes.f
  rw [mk_size, if_pos hs, Option.bind_some, mk_list]
  unfold wrongOf
  by_cases v : Lib.validD h = true
  · rw [if_pos v, if_pos v, if_pos rfl]
    by_cases q : (runesAt (mk h) h.length 0).length > 80
    · rw [if_pos (by simp; omega), if_pos q]
    · rw [if_neg (by simp; omega), if_neg q]
  · rw [if_neg v, if_neg v, if_neg (by decide)]
end Go.Proofs.YtpkjpiphjdpegaaDoor.P
namespace Go.Proofs.YtpkjpiphjdpegaaDoor.P
open Go.RowKit Go.Shelf Go.Proofs.YtpkjpiphjdpegaaDoor.RF Go.Proofs.YtpkjpiphjdpegaaDoorW.PrintWords
attribute [local go_sem] Oper.semAt_some
set_option linter.unusedVariables false
set_option linter.unusedSimpArgs false
def lineV (x : S56) : Value := .agg #[.int .i64 x.f0, .string x.f1, .int .u8 x.f2, .int .i64 x.f3]
theorem gt_same {n₀ : Nat} {w W : World} (h : GT w) (hn : w.heap.size ≤ n₀) (hb : Below n₀ w W) : GT W := by
  exact gt_below h (hb.mono hn)
def KpE (n₀ Bx : Nat) (W W' : World) : Prop := Below n₀ W W' ∧ W'.heap[Bx]? = W.heap[Bx]?
def leftE (Bx : Nat) (W : World) : Nat := match W.cell? ⟨Bx, 0, none⟩ with | some (.string t) => t.size + 1 | _ => 0
set_option maxHeartbeats 1000000 in
theorem each_in (n : Nat) (s : ByteArray) (w : World) :
    CallsIn Fence.wide n Tryd.prog 38 #[.string s] w fun e w' => e = .returned (.func (.func 73) #[] #[.pointer (some ⟨w.heap.size, 0, none⟩)]) ∧ w' = w.alloc (.cells #[.string s] 9) := by
  refine callsIn_of_wp Tryd.func38 rfl trivial ?_ rfl
  simp only [Tryd.ntmps38, List.size_toArray, List.length_cons, List.length_nil, Nat.reduceAdd, Nat.reduceSub, Array.replicate_succ, Array.replicate_zero, List.push_toArray, List.append_toArray, List.nil_append, List.cons_append]
  gi_wp2
  go_ret
  exact ⟨rfl, rfl⟩
end Go.Proofs.YtpkjpiphjdpegaaDoor.P
namespace Go.Proofs.YtpkjpiphjdpegaaDoor.P
open Go.RowKit Go.Shelf Go.Proofs.YtpkjpiphjdpegaaDoor.RF Go.Proofs.YtpkjpiphjdpegaaDoorW.PrintWords
attribute [local go_sem] Oper.semAt_some
set_option linter.unusedVariables false
set_option linter.unusedSimpArgs false
def lineC (x : S56) : Array Value := #[.int .i64 x.f0, .string x.f1, .int .u8 x.f2, .int .i64 x.f3]
theorem cells_new (W : World) (cs : Array Value) (t : TypeId) : ∀ (j : Nat) u, cs.toList[j]? = some u → (W.alloc (.cells cs t)).cell? ((⟨W.heap.size, 0, none⟩ : Addr).add j) = some u := by
  intro j u hj
  have ea : (⟨W.heap.size, 0, none⟩ : Addr).add j = ⟨W.heap.size, j, none⟩ := by
    unfold Addr.add
    by_cases z : j = 0
    · rw [if_pos z, z]
    · rw [if_neg z, Nat.zero_add]
  have hn : (W.alloc (.cells cs t)).heap[W.heap.size]? = some (.cells cs t) := World.alloc_heap_new W _
  rw [ea]
  unfold World.cell?
  simp only [hn]
  simpa using hj
theorem each_call (s : ByteArray) (w : World) : Calls Tryd.prog 38 #[.string s] w fun e w' => e = .returned (.func (.func 73) #[] #[.pointer (some ⟨w.heap.size, 0, none⟩)]) ∧ w' = w.alloc (.cells #[.string s] 9) :=
  callsIn_wide.1 (each_in 5 s w)
end Go.Proofs.YtpkjpiphjdpegaaDoor.P
namespace Go.Proofs.YtpkjpiphjdpegaaDoor.P
open Go.RowKit Go.Shelf Go.Proofs.YtpkjpiphjdpegaaDoor.RF Go.Proofs.YtpkjpiphjdpegaaDoorW.PrintWords
attribute [local go_sem] Oper.semAt_some
set_option linter.unusedVariables false
set_option linter.unusedSimpArgs false
theorem boxed_ab {β : Type} (Bx B b : Nat) (t : TypeId) (f : β → Value) (hne : b ≠ Bx) : AbX Bx B (fun (s : β) W => Boxed W b t (f s)) :=
  abX_block (fun s => .cells #[f s] t (0, 0)) (fun _ => rfl) hne
end Go.Proofs.YtpkjpiphjdpegaaDoor.P
namespace Go.Proofs.YtpkjpiphjdpegaaDoor.P
open Go.RowKit Go.Proofs.YtpkjpiphjdpegaaDoorW.PrintWords Go.Proofs.YtpkjpiphjdpegaaDoorW.PrintLast Go.Proofs.YtpkjpiphjdpegaaDoorW.PrintMore
set_option linter.unusedVariables false
set_option linter.unusedSimpArgs false
theorem splitB_app : ∀ (a b : List UInt8), splitB (a ++ 10 :: b) = splitB a ++ splitB b
  | [], b => by show splitB (10 :: b) = [] :: splitB b; rw [splitB, if_pos rfl]
  | x :: a, b => by
    have ih := splitB_app a b
    rw [List.cons_append, splitB, splitB]
    by_cases c : x = 10
    · rw [if_pos c, if_pos c, ih]; rfl
    · rw [if_neg c, if_neg c, ih]
      cases h : splitB a with
      | nil => exact absurd h (splitB_ne a)
      | cons y r => rfl
theorem splitB_one : ∀ (h : List UInt8), (∀ b ∈ h, b ≠ 10) → splitB h = [h]
  | [], _ => rfl
  | x :: h, c => by
    rw [splitB, if_neg (c x (List.mem_cons_self ..)), splitB_one h fun b hb => c b (List.mem_cons_of_mem _ hb)]
theorem wrapI (x : Int) (h0 : -9223372036854775808 ≤ x) (h1 : x ≤ 9223372036854775807) : wrap64 x = x := by unfold wrap64; omega
end Go.Proofs.YtpkjpiphjdpegaaDoor.P
namespace Go.Proofs.YtpkjpiphjdpegaaDoor.P
open Go.RowKit Go.Proofs.YtpkjpiphjdpegaaDoorW.PrintWords Go.Proofs.YtpkjpiphjdpegaaDoorW.PrintLast Go.Proofs.YtpkjpiphjdpegaaDoorW.PrintMore
attribute [local go_sem] max2_int min2_int max_two min_two max_three min_three max_four min_four
set_option linter.unusedVariables false
set_option linter.unusedSimpArgs false
def paymasterref09_Split.l0 : Nat → ByteArray → List ByteArray → Int → Int → Option (List ByteArray)
  | 0, _, _, _, _ => none
  | k + 1, x0, x3, x4, x5 => if x5 ≤ (x0.size : Int) then (if x5 = (x0.size : Int) then (if 0 ≤ x4 then (if x4 ≤ x5 then (if x3.length < 8796093022208 then (paymasterref09_Split.l0 k x0 (x3 ++ [x0.extract (x4 : Int).toNat (x5 : Int).toNat]) (wrap64 (x5 + 1)) (wrap64 (x5 + 1))) else (none)) else (none)) else (none)) else (if 0 ≤ x5 then (if x5 < (x0.size : Int) then (if (bt x0 x5) = 10 then (if 0 ≤ x4 then (if x4 ≤ x5 then (if x3.length < 8796093022208 then (paymasterref09_Split.l0 k x0 (x3 ++ [x0.extract (x4 : Int).toNat (x5 : Int).toNat]) (wrap64 (x5 + 1)) (wrap64 (x5 + 1))) else (none)) else (none)) else (none)) else (paymasterref09_Split.l0 k x0 x3 x4 (wrap64 (x5 + 1)))) else (none)) else (none))) else (some x3)
def paymasterref09_Split.f (k : Nat) (a0 : ByteArray) : Option (List ByteArray) := paymasterref09_Split.l0 k a0 ([] : List ByteArray) 0 0
set_option maxHeartbeats 8000000 in
set_option maxRecDepth 100000 in
theorem paymasterref09_Split.calls (k : Nat) (a0 : ByteArray) (r : List ByteArray) (w : World) (h : paymasterref09_Split.f k a0 = some r) :
    Calls Tryd.prog 33 #[.string a0] w fun e w' => ∃ v0_ : Value, e = .returned (v0_) ∧ Kd.R Kd.string 9 w' w.heap.size (fun _ => True) v0_ r ∧ Below w.heap.size w w' := by
  have HB := Aside0.mk (Below.refl w.heap.size w)
  have H : (paymasterref09_Split.l0 k a0 ([] : List ByteArray) 0 0) = some r := h
  clear h
  have H' := Aside0.mk H
  clear H
  go_enter Tryd.func33, Tryd.ntmps33
  go_wp2
  go_loopg [3, 4, 5] k (fun kq v3 v4 v5 w' => ∃ (x3_1 : List ByteArray) (x4_1 : Int) (x5_1 : Int), v4 = .int .i64 x4_1 ∧ v5 = .int .i64 x5_1 ∧ Aside0 (paymasterref09_Split.l0 kq a0 x3_1 x4_1 x5_1 = some r) ∧ Aside0 (kq ≤ k) ∧ Aside0 (Kd.R Kd.string 9 w' w.heap.size (fun _ => True) v3 x3_1) ∧ Aside0 (Below w.heap.size w w'))
  case atStart => exact ⟨(([] : List ByteArray)), (0), (0), (by first | rfl | (simp; done) | (simp [*]; done)), (by first | rfl | (simp; done) | (simp [*]; done)), H', ⟨Nat.le_refl _⟩, ⟨by first | exact Kd.R_nil _ _ _ _ _ | exact Kd.N_nil _ _ _ _ _ | exact Kd.V_nil _ _ _ _ _ | exact Kd.Q_nil _ _ _ _ _ | exact Kd.S_nil _ _ _ _ _⟩, ⟨by repeat (first | (with_reducible first | exact HB.out | apply below_alloc | apply pw_below_drewN | apply below_drew1) | exact HB.out)⟩⟩
  case round =>
    clear H'
    obtain ⟨x3_1, x4_1, x5_1, rfl, rfl, HA, HK1, HO_3, HB⟩ := hrel
    cases gk with
    | zero => exact absurd HA.out (by simp [paymasterref09_Split.l0])
    | succ k1 =>
      have H := HA.out
      clear HA
      simp only [paymasterref09_Split.l0] at H
      by_cases c2 : x5_1 ≤ (a0.size : Int)
      · rw [if_pos c2] at H
        have c2b0 : decide (x5_1 ≤ (a0.size : Int)) = true := decide_eq_true c2
        clear c2
        by_cases c3 : x5_1 = (a0.size : Int)
        · rw [if_pos c3] at H
          have c3b0 : (x5_1 == (a0.size : Int)) = true := beq_iff_eq.mpr c3
          have c3b1 : (x5_1 != (a0.size : Int)) = false := bne_eq_false_iff_eq.mpr c3
          clear c3
          by_cases c4 : 0 ≤ x4_1
          · rw [if_pos c4] at H
            have c4b0 := eq_true c4
            have c4b1 : decide (0 ≤ x4_1) = true := decide_eq_true c4
            clear c4
            by_cases c5 : x4_1 ≤ x5_1
            · rw [if_pos c5] at H
              have c5b0 := eq_true c5
              have c5b1 : decide (x4_1 ≤ x5_1) = true := decide_eq_true c5
              clear c5
              have c6b0 := eq_true (of_decide_eq_true (by first | (with_reducible assumption) | assumption) : x5_1 ≤ (a0.size : Int))
              by_cases c7 : x3_1.length < 8796093022208
              · rw [if_pos c7] at H
                have LMc7 := Aside0.mk c7
                clear c7
                obtain ⟨y176, hy176⟩ : ∃ y_ : List ByteArray, y_ = (x3_1 ++ [a0.extract (x4_1 : Int).toNat (x5_1 : Int).toNat]) := ⟨_, rfl⟩
                replace H : (paymasterref09_Split.l0 k1 a0 y176 (wrap64 (x5_1 + 1)) (wrap64 (x5_1 + 1))) = some r := by first | (rw [hy176]; with_reducible exact H) | (have H2_ := (Option.bind_some _ _).symm.trans H; rw [hy176]; with_reducible exact H2_) | (have H2_ := (Option.bind_some _ _).symm.trans H; with_reducible exact H2_) | with_reducible exact H | (rw [hy176]; exact H) | exact H
                have Ny176 := Aside0.mk hy176
                clear hy176
                have H' := Aside0.mk H
                clear H
                go_wp2_with (first | ((with_reducible refine gate_builtin (b := .append) (xs := #[.tmp 22, .tmp 27]) rfl ?_); at_builtin; refine Kd.R_append Kd.string (w0 := w) w.heap.size rfl (.tmp 22) (.tmp 27) 51 9 (.string ⟨#[]⟩) 16 rfl Tryd.underlying51 info9 rfl (by decide) (by omega) u3 x3_1 (a0.extract (x4_1 : Int).toNat (x5_1 : Int).toNat) [.string (a0.extract (x4_1 : Int).toNat (x5_1 : Int).toNat)] (fun _ => True) (fun _ => False) rfl rfl ?aP (fun _ hk => hk.elim) ?aF ?aO ?aB ?aS ?aL ?_; (case aP => exact rfl); (case aB => exact (by repeat (first | (with_reducible first | exact HB.out | apply below_alloc | apply pw_below_drewN | apply below_drew1) | exact HB.out))); (case aF => exact (fun _ _ => trivial)); (case aO => exact (by (with_reducible repeat (first | apply Kd.R_alloc | apply Kd.R_drewN | apply Kd.R_drew)); exact HO_3.out)); (case aS => exact (below_size (by repeat (first | (with_reducible first | exact HB.out | apply below_alloc | apply pw_below_drewN | apply below_drew1) | exact HB.out)))); (case aL => have := LMc7.out; omega); intro v177 w8 ho hb hg hat; rw [← Ny176.out] at ho; have n0_ := Aside0.mk (hb); have n1_ := Aside0.mk (ho); clear HB; clear HO_3; have HB := n0_; have HO178 := n1_; clear n0_ n1_; clear ho hb hg hat))
                go_roundg k1
                case measure => have := HK1.out; omega
                case rel => exact ⟨(y176), (wrap64 (x5_1 + 1)), (wrap64 (x5_1 + 1)), (by first | rfl | (simp; done) | (simp [*]; done)), (by first | rfl | (simp; done) | (simp [*]; done)), H', ⟨by have := HK1.out; omega⟩, ⟨by (with_reducible repeat (first | apply Kd.R_alloc | apply Kd.R_drewN | apply Kd.R_drew)); exact HO178.out⟩, ⟨by repeat (first | (with_reducible first | exact HB.out | apply below_alloc | apply pw_below_drewN | apply below_drew1) | exact HB.out)⟩⟩
              · rw [if_neg c7] at H
                exact absurd H (by simp)
            · rw [if_neg c5] at H
              exact absurd H (by simp)
          · rw [if_neg c4] at H
            exact absurd H (by simp)
        · rw [if_neg c3] at H
          have c3b0 : (x5_1 == (a0.size : Int)) = false := beq_eq_false_iff_ne.mpr c3
          have c3b1 : (x5_1 != (a0.size : Int)) = true := bne_iff_ne.mpr c3
          by_cases c9 : 0 ≤ x5_1
          · rw [if_pos c9] at H
            have c9b0 : decide (0 ≤ x5_1) = true := decide_eq_true c9
            clear c9
            by_cases c10 : x5_1 < (a0.size : Int)
            · rw [if_pos c10] at H
              have c10b0 : decide (x5_1 < (a0.size : Int)) = true := decide_eq_true c10
              clear c10
              by_cases c12 : (bt a0 x5_1) = 10
              · rw [if_pos c12] at H
                have c12b0 : ((bt a0 x5_1) == 10) = true := beq_iff_eq.mpr c12
                have c12b1 : ((bt a0 x5_1) != 10) = false := bne_eq_false_iff_eq.mpr c12
                clear c12
                by_cases c13 : 0 ≤ x4_1
                · rw [if_pos c13] at H
                  have c13b0 := eq_true c13
                  have c13b1 : decide (0 ≤ x4_1) = true := decide_eq_true c13
                  clear c13
                  by_cases c14 : x4_1 ≤ x5_1
                  · rw [if_pos c14] at H
                    have c14b0 := eq_true c14
                    have c14b1 : decide (x4_1 ≤ x5_1) = true := decide_eq_true c14
                    clear c14
                    have c15b0 := eq_true (of_decide_eq_true (by first | (with_reducible assumption) | assumption) : x5_1 ≤ (a0.size : Int))
                    by_cases c16 : x3_1.length < 8796093022208
                    · rw [if_pos c16] at H
                      have LMc16 := Aside0.mk c16
                      clear c16
                      obtain ⟨y179, hy179⟩ : ∃ y_ : List ByteArray, y_ = (x3_1 ++ [a0.extract (x4_1 : Int).toNat (x5_1 : Int).toNat]) := ⟨_, rfl⟩
                      replace H : (paymasterref09_Split.l0 k1 a0 y179 (wrap64 (x5_1 + 1)) (wrap64 (x5_1 + 1))) = some r := by first | (rw [hy179]; with_reducible exact H) | (have H2_ := (Option.bind_some _ _).symm.trans H; rw [hy179]; with_reducible exact H2_) | (have H2_ := (Option.bind_some _ _).symm.trans H; with_reducible exact H2_) | with_reducible exact H | (rw [hy179]; exact H) | exact H
                      have Ny179 := Aside0.mk hy179
                      clear hy179
                      have H' := Aside0.mk H
                      clear H
                      have p11 : 0 ≤ (x5_1 : Int) := of_decide_eq_true (by first | (with_reducible assumption) | assumption)
                      have q11 : x5_1 < (a0.size : Int) := of_decide_eq_true (by first | (with_reducible assumption) | assumption)
                      have hx11 := bt_at a0 x5_1
                      replace p11 := eq_true p11
                      replace q11 := eq_true q11
                      go_wp2_with (first | ((with_reducible refine gate_builtin (b := .append) (xs := #[.tmp 22, .tmp 27]) rfl ?_); at_builtin; refine Kd.R_append Kd.string (w0 := w) w.heap.size rfl (.tmp 22) (.tmp 27) 51 9 (.string ⟨#[]⟩) 16 rfl Tryd.underlying51 info9 rfl (by decide) (by omega) u3 x3_1 (a0.extract (x4_1 : Int).toNat (x5_1 : Int).toNat) [.string (a0.extract (x4_1 : Int).toNat (x5_1 : Int).toNat)] (fun _ => True) (fun _ => False) rfl rfl ?aP (fun _ hk => hk.elim) ?aF ?aO ?aB ?aS ?aL ?_; (case aP => exact rfl); (case aB => exact (by repeat (first | (with_reducible first | exact HB.out | apply below_alloc | apply pw_below_drewN | apply below_drew1) | exact HB.out))); (case aF => exact (fun _ _ => trivial)); (case aO => exact (by (with_reducible repeat (first | apply Kd.R_alloc | apply Kd.R_drewN | apply Kd.R_drew)); exact HO_3.out)); (case aS => exact (below_size (by repeat (first | (with_reducible first | exact HB.out | apply below_alloc | apply pw_below_drewN | apply below_drew1) | exact HB.out)))); (case aL => have := LMc16.out; omega); intro v180 w17 ho hb hg hat; rw [← Ny179.out] at ho; have n0_ := Aside0.mk (hb); have n1_ := Aside0.mk (ho); clear HB; clear HO_3; have HB := n0_; have HO181 := n1_; clear n0_ n1_; clear ho hb hg hat))
                      go_roundg k1
                      case measure => have := HK1.out; omega
                      case rel => exact ⟨(y179), (wrap64 (x5_1 + 1)), (wrap64 (x5_1 + 1)), (by first | rfl | (simp; done) | (simp [*]; done)), (by first | rfl | (simp; done) | (simp [*]; done)), H', ⟨by have := HK1.out; omega⟩, ⟨by (with_reducible repeat (first | apply Kd.R_alloc | apply Kd.R_drewN | apply Kd.R_drew)); exact HO181.out⟩, ⟨by repeat (first | (with_reducible first | exact HB.out | apply below_alloc | apply pw_below_drewN | apply below_drew1) | exact HB.out)⟩⟩
                    · rw [if_neg c16] at H
                      exact absurd H (by simp)
                  · rw [if_neg c14] at H
                    exact absurd H (by simp)
                · rw [if_neg c13] at H
                  exact absurd H (by simp)
              · rw [if_neg c12] at H
                have c12b0 : ((bt a0 x5_1) == 10) = false := beq_eq_false_iff_ne.mpr c12
                have c12b1 : ((bt a0 x5_1) != 10) = true := bne_iff_ne.mpr c12
                have H' := Aside0.mk H
                clear H
                have p11 : 0 ≤ (x5_1 : Int) := of_decide_eq_true (by first | (with_reducible assumption) | assumption)
                have q11 : x5_1 < (a0.size : Int) := of_decide_eq_true (by first | (with_reducible assumption) | assumption)
                have hx11 := bt_at a0 x5_1
                replace p11 := eq_true p11
                replace q11 := eq_true q11
                go_wp2
                go_roundg k1
                case measure => have := HK1.out; omega
                case rel => exact ⟨(x3_1), (x4_1), (wrap64 (x5_1 + 1)), (by first | rfl | (simp; done) | (simp [*]; done)), (by first | rfl | (simp; done) | (simp [*]; done)), H', ⟨by have := HK1.out; omega⟩, ⟨by (with_reducible repeat (first | apply Kd.R_alloc | apply Kd.R_drewN | apply Kd.R_drew)); exact HO_3.out⟩, ⟨by repeat (first | (with_reducible first | exact HB.out | apply below_alloc | apply pw_below_drewN | apply below_drew1) | exact HB.out)⟩⟩
            · rw [if_neg c10] at H
              exact absurd H (by simp)
          · rw [if_neg c9] at H
            exact absurd H (by simp)
      · rw [if_neg c2] at H
        have c2b0 : decide (x5_1 ≤ (a0.size : Int)) = false := decide_eq_false c2
        clear c2
        obtain rfl := Option.some.inj H
        go_wp2
        go_ret
        exact ⟨_, by first | rfl | (simp [errW_none, errW_some] <;> rfl) | (simp [*, errW_none, errW_some] <;> rfl), by (with_reducible repeat (first | apply Kd.R_alloc | apply Kd.R_drewN | apply Kd.R_drew)); exact HO_3.out, by repeat (first | (with_reducible first | exact HB.out | apply below_alloc | apply pw_below_drewN | apply below_drew1) | exact HB.out)⟩
end Go.Proofs.YtpkjpiphjdpegaaDoor.P
namespace Go.Proofs.YtpkjpiphjdpegaaDoor.P
open Go.RowKit Go.Proofs.YtpkjpiphjdpegaaDoorW.PrintWords Go.Proofs.YtpkjpiphjdpegaaDoorW.PrintLast Go.Proofs.YtpkjpiphjdpegaaDoorW.PrintMore
attribute [local go_sem] max2_int min2_int max_two min_two max_three min_three max_four min_four
set_option linter.unusedVariables false
set_option linter.unusedSimpArgs false
attribute [local go_sem high] eqA56
def paymasterref09_Wrong.f (k : Nat) (a0 : ByteArray) : Option (Int) := (paymasterref09_Runes.f k a0).bind fun bt182 => (if bt182.2 = 0 then (if (bt182.1.length : Int) > 80 then (some 91) else (some 0)) else (some bt182.2))
set_option maxHeartbeats 8000000 in
set_option maxRecDepth 100000 in
theorem paymasterref09_Wrong.calls (k : Nat) (a0 : ByteArray) (r : Int) (w : World) (h : paymasterref09_Wrong.f k a0 = some r) :
    Calls Tryd.prog 36 #[.string a0] w fun e w' => e = .returned (.int .i64 r) ∧ Below w.heap.size w w' := by
  have HB := Aside0.mk (Below.refl w.heap.size w)
  have H : ((paymasterref09_Runes.f k a0).bind fun bt182 => (if bt182.2 = 0 then (if (bt182.1.length : Int) > 80 then (some 91) else (some 0)) else (some bt182.2))) = some r := h
  clear h
  replace H := Option.bind_eq_some_iff.mp H
  obtain ⟨⟨t182, t183⟩, A20, H⟩ := H
  replace H : (if t183 = 0 then (if (t182.length : Int) > 80 then (some 91) else (some 0)) else (some t183)) = some r := H
  have A2 := Aside0.mk A20
  clear A20
  by_cases c3 : t183 = 0
  · rw [if_pos c3] at H
    have c3b0 : (t183 == 0) = true := beq_iff_eq.mpr c3
    have c3b1 : (t183 != 0) = false := bne_eq_false_iff_eq.mpr c3
    clear c3
    by_cases c4 : (t182.length : Int) > 80
    · rw [if_pos c4] at H
      have c4b0 : decide (80 < (t182.length : Int)) = true := decide_eq_true c4
      have c4b1 : decide (80 < t182.length) = true := decide_eq_true (by omega)
      clear c4
      obtain rfl := Option.some.inj H
      go_enter Tryd.func36, Tryd.ntmps36
      go_wp2_with (first | ((with_reducible refine gate_callee (f := 21) rfl ?_); refine goesL_ (some 7) rfl rfl Tryd.func21 (by kernel_rfl) rfl #[.string a0] rfl (by (try simp only [List.map_toArray, List.map_cons, List.map_nil]); first | done | rfl | (simp only [List.length_drop, List.length_take]; rfl)) ?_; (with_reducible refine (paymasterref09_Runes.calls k a0 t182 t183 _ A2.out).mono ?_); rintro e w5 ⟨v184, rfl, ho0, hb⟩; refine ⟨_, rfl, ?_⟩; have n0_ := Aside0.mk (Kd.R_lower ho0 (below_size (by repeat (first | (with_reducible first | exact HB.out | apply below_alloc | apply pw_below_drewN | apply below_drew1) | exact HB.out)))); have n1_ := Aside0.mk (below_step (by repeat (first | (with_reducible first | exact HB.out | apply below_alloc | apply pw_below_drewN | apply below_drew1) | exact HB.out)) hb); clear HB; have HO185 := n0_; have HB := n1_; clear n0_ n1_; (try clear hb); (try clear hb2); (try clear hk); (try clear hi); (try clear ho0); obtain ⟨Ao6, co6, eo6⟩ := Kd.R_slice HO185.out; subst eo6))
      go_ret
      exact ⟨by first | rfl | (simp [errW_none, errW_some] <;> rfl) | (simp [*, errW_none, errW_some] <;> rfl), by repeat (first | (with_reducible first | exact HB.out | apply below_alloc | apply pw_below_drewN | apply below_drew1) | exact HB.out)⟩
    · rw [if_neg c4] at H
      have c4b0 : decide (80 < (t182.length : Int)) = false := decide_eq_false c4
      have c4b1 : decide (80 < t182.length) = false := decide_eq_false (by omega)
      clear c4
      obtain rfl := Option.some.inj H
      go_enter Tryd.func36, Tryd.ntmps36
      go_wp2_with (first | ((with_reducible refine gate_callee (f := 21) rfl ?_); refine goesL_ (some 7) rfl rfl Tryd.func21 (by kernel_rfl) rfl #[.string a0] rfl (by (try simp only [List.map_toArray, List.map_cons, List.map_nil]); first | done | rfl | (simp only [List.length_drop, List.length_take]; rfl)) ?_; (with_reducible refine (paymasterref09_Runes.calls k a0 t182 t183 _ A2.out).mono ?_); rintro e w7 ⟨v184, rfl, ho0, hb⟩; refine ⟨_, rfl, ?_⟩; have n0_ := Aside0.mk (Kd.R_lower ho0 (below_size (by repeat (first | (with_reducible first | exact HB.out | apply below_alloc | apply pw_below_drewN | apply below_drew1) | exact HB.out)))); have n1_ := Aside0.mk (below_step (by repeat (first | (with_reducible first | exact HB.out | apply below_alloc | apply pw_below_drewN | apply below_drew1) | exact HB.out)) hb); clear HB; have HO185 := n0_; have HB := n1_; clear n0_ n1_; (try clear hb); (try clear hb2); (try clear hk); (try clear hi); (try clear ho0); obtain ⟨Ao8, co8, eo8⟩ := Kd.R_slice HO185.out; subst eo8))
      go_ret
      exact ⟨by first | rfl | (simp [errW_none, errW_some] <;> rfl) | (simp [*, errW_none, errW_some] <;> rfl), by repeat (first | (with_reducible first | exact HB.out | apply below_alloc | apply pw_below_drewN | apply below_drew1) | exact HB.out)⟩
  · rw [if_neg c3] at H
    have c3b0 : (t183 == 0) = false := beq_eq_false_iff_ne.mpr c3
    have c3b1 : (t183 != 0) = true := bne_iff_ne.mpr c3
    obtain rfl := Option.some.inj H
    go_enter Tryd.func36, Tryd.ntmps36
    go_wp2_with (first | ((with_reducible refine gate_callee (f := 21) rfl ?_); refine goesL_ (some 7) rfl rfl Tryd.func21 (by kernel_rfl) rfl #[.string a0] rfl (by (try simp only [List.map_toArray, List.map_cons, List.map_nil]); first | done | rfl | (simp only [List.length_drop, List.length_take]; rfl)) ?_; (with_reducible refine (paymasterref09_Runes.calls k a0 t182 t183 _ A2.out).mono ?_); rintro e w9 ⟨v184, rfl, ho0, hb⟩; refine ⟨_, rfl, ?_⟩; have n0_ := Aside0.mk (Kd.R_lower ho0 (below_size (by repeat (first | (with_reducible first | exact HB.out | apply below_alloc | apply pw_below_drewN | apply below_drew1) | exact HB.out)))); have n1_ := Aside0.mk (below_step (by repeat (first | (with_reducible first | exact HB.out | apply below_alloc | apply pw_below_drewN | apply below_drew1) | exact HB.out)) hb); clear HB; have HO185 := n0_; have HB := n1_; clear n0_ n1_; (try clear hb); (try clear hb2); (try clear hk); (try clear hi); (try clear ho0)))
    go_ret
    exact ⟨by first | rfl | (simp [errW_none, errW_some] <;> rfl) | (simp [*, errW_none, errW_some] <;> rfl), by repeat (first | (with_reducible first | exact HB.out | apply below_alloc | apply pw_below_drewN | apply below_drew1) | exact HB.out)⟩
end Go.Proofs.YtpkjpiphjdpegaaDoor.P
namespace Go.Proofs.YtpkjpiphjdpegaaDoor.P
open Go.RowKit Go.Proofs.YtpkjpiphjdpegaaDoorW.PrintWords Go.Proofs.YtpkjpiphjdpegaaDoorW.PrintLast Go.Proofs.YtpkjpiphjdpegaaDoorW.PrintMore
set_option linter.unusedVariables false
set_option linter.unusedSimpArgs false
theorem valid_at (s : ByteArray) (p : Nat) (hp : p < s.size) : Lib.validD (s.data.toList.drop p) = if badAt s p then false else Lib.validD (s.data.toList.drop (p + (Utf8.decode s p).2)) := by
  have hl : s.data.toList.length = s.size := by simp
  rw [Lib.validD_step _ (by intro e; have := congrArg List.length e; rw [List.length_drop, hl] at this; simp at this; omega), Lib.decodeL_drop, List.drop_drop]
theorem valid_end (s : ByteArray) (p : Nat) (hp : ¬ p < s.size) : Lib.validD (s.data.toList.drop p) = true := by
  have hl : s.data.toList.length = s.size := by simp
  rw [List.drop_eq_nil_of_le (by rw [hl]; omega), Lib.validD_nil]
theorem wide_4 (s : ByteArray) (p : Nat) : (Utf8.decode s p).2 ≤ 4 := by
  rw [dec_is]
  repeat' split
  all_goals simp
theorem refRunes_loop (s : ByteArray) (hs : s.size ≤ 1000000000) : ∀ (n p : Nat) (x : List Int), s.size ≤ p + n → x.length ≤ p → p ≤ s.size + 4 →
    paymasterref09_Runes.l0 (n + 11) s x p = some (if Lib.validD (s.data.toList.drop p) = true then (x ++ runesAt s n p, 0) else ([], 90))
  | n, p, x, h, hx, hp4 => by
    by_cases hp : p < s.size
    · obtain ⟨m, rfl⟩ : ∃ m, n = m + 1 := ⟨n - 1, by omega⟩
      have w1 := wide_pos s p hp
      have w4 := wide_4 s p
      have r1 := Lib.rune_le s p
      rw [paymasterref09_Runes.l0, if_pos (by omega), show m + 11 = (m + 1) + 10 from rfl, rune_is (m + 1) s p hp hs, Option.bind_some, runeR_is, valid_at s p hp]
      by_cases b : badAt s p
      · have e : decR (Utf8.decode s p) = (0, 0) := by unfold decR; rw [if_pos b]
        rw [e, if_pos b, if_pos rfl, if_neg (by decide)]
      · have e : decR (Utf8.decode s p) = (((Utf8.decode s p).1 : Int), ((Utf8.decode s p).2 : Int)) := by unfold decR; rw [if_neg b]
        rw [e, if_neg b, if_neg (show ¬ (((Utf8.decode s p).2 : Nat) : Int) = 0 by omega), if_pos (by omega)]
        have wr : wrap32 (((Utf8.decode s p).1 : Nat) : Int) = (((Utf8.decode s p).1 : Nat) : Int) := by unfold wrap32; omega
        have wp : wrap64 ((p : Int) + (((Utf8.decode s p).2 : Nat) : Int)) = ((p + (Utf8.decode s p).2 : Nat) : Int) := by rw [wrap64_in _ (by omega)]; push_cast; rfl
        rw [wr, wp, show m + 1 + 10 = m + 11 by omega, refRunes_loop s hs m (p + (Utf8.decode s p).2) (x ++ [(((Utf8.decode s p).1 : Nat) : Int)]) (by omega) (by simp; omega) (by omega)]
        rw [runesAt, if_pos hp, List.append_assoc]
        rfl
    · rw [paymasterref09_Runes.l0, if_neg (by omega), valid_end s p hp, if_pos rfl, runesAt_end s n p hp, List.append_nil]
theorem refRunes_is (s : ByteArray) (hs : s.size ≤ 1000000000) : paymasterref09_Runes.f (s.size + 11) s = some (if Lib.validD s.data.toList = true then (runesAt s s.size 0, 0) else ([], 90)) := by
  have := refRunes_loop s hs s.size 0 [] (by omega) (Nat.le_refl _) (by omega)
  unfold paymasterref09_Runes.f
  rw [show (((0 : Nat) : Int)) = 0 from rfl] at this
  rw [this]
  rfl
def enc (c : Int) : List Int := nb (Utf8.encode c)
end Go.Proofs.YtpkjpiphjdpegaaDoor.P
namespace Go.Proofs.YtpkjpiphjdpegaaDoor.P
open Go.RowKit Go.Proofs.YtpkjpiphjdpegaaDoorW.PrintWords Go.Proofs.YtpkjpiphjdpegaaDoorW.PrintLast Go.Proofs.YtpkjpiphjdpegaaDoorW.PrintMore
set_option linter.unusedVariables false
set_option linter.unusedSimpArgs false
theorem up {β : Type} {F : Nat → Option β} (m : ∀ k, LeO (F k) (F (k + 1))) {a : Nat} {r : β} (h : F a = some r) : ∀ b, a ≤ b → F b = some r := by
  intro b hb
  induction b with
  | zero =>
    obtain rfl : a = 0 := by omega
    exact h
  | succ b ih =>
    by_cases e : a = b + 1
    · rw [← e]; exact h
    · exact m b r (ih (by omega))
theorem refRunes_up (s : ByteArray) (hs : s.size ≤ 1000000000) (k : Nat) (hk : s.size + 11 ≤ k) : paymasterref09_Runes.f k s = some (if Lib.validD s.data.toList = true then (runesAt s s.size 0, 0) else ([], 90)) :=
  up (F := fun k => paymasterref09_Runes.f k s) (paymasterref09_Runes.mono s) (refRunes_is s hs) k hk
end Go.Proofs.YtpkjpiphjdpegaaDoor.P
namespace Go.Proofs.YtpkjpiphjdpegaaDoor.P
open Go.RowKit Go.Proofs.YtpkjpiphjdpegaaDoorW.PrintWords Go.Proofs.YtpkjpiphjdpegaaDoorW.PrintLast Go.Proofs.YtpkjpiphjdpegaaDoorW.PrintMore
set_option linter.unusedVariables false
set_option linter.unusedSimpArgs false
theorem bt_mk (l : List UInt8) (i : Nat) (h : i < l.length) : bt (mk l) (i : Int) = ((l.getD i 0).toNat : Int) := by
  rw [bt_nb]
  unfold nb
  rw [mk_list, List.getD_eq_getElem?_getD, List.getD_eq_getElem?_getD, List.getElem?_map, List.getElem?_eq_getElem h]
  rfl
theorem u8_is (x : UInt8) (n : Nat) (hn : n < 256) : ((x.toNat : Int) = (n : Int)) ↔ x = UInt8.ofNat n := by
  constructor
  · intro h
    apply UInt8.toNat_inj.1
    rw [UInt8.toNat_ofNat']
    omega
  · intro h
    rw [h, UInt8.toNat_ofNat']
    omega
theorem ten_is (x : UInt8) : ((x.toNat : Int) = 10) ↔ x = 10 := u8_is x 10 (by omega)
theorem b35_is (x : UInt8) : ((x.toNat : Int) = 35) ↔ x = 35 := u8_is x 35 (by omega)
theorem b32_is (x : UInt8) : ((x.toNat : Int) = 32) ↔ x = 32 := u8_is x 32 (by omega)
theorem split_at (l : List UInt8) (f i : Nat) (h : f ≤ i) (hi : i ≤ l.length) : l.drop f = (l.take i).drop f ++ l.drop i := by
  conv => lhs; rw [← List.take_append_drop i l]
  rw [List.drop_append_of_le_length (by rw [List.length_take]; omega)]
theorem refSplit_l0 (l : List UInt8) (hs : l.length ≤ 1000000000) (k : Nat) : ∀ (t i f : Nat) (x : List ByteArray), i + t = l.length → f ≤ i → (∀ b ∈ (l.take i).drop f, b ≠ 10) → x.length ≤ i →
    paymasterref09_Split.l0 (k + 2 + t) (mk l) x (f : Int) (i : Int) = some (x ++ (splitB (l.drop f)).map mk)
  | 0, i, f, x, h, hf, hc, hx => by
    obtain rfl : i = l.length := by omega
    rw [List.take_length] at hc
    show paymasterref09_Split.l0 (k + 1 + 1) (mk l) x _ _ = _
    rw [paymasterref09_Split.l0, mk_size, if_pos (Int.le_refl _), if_pos rfl, if_pos (show (0 : Int) ≤ (f : Int) by omega), if_pos (show (f : Int) ≤ (l.length : Int) by omega), if_pos (show x.length < 8796093022208 by omega), Int.toNat_natCast, Int.toNat_natCast, wrapI _ (by omega) (by omega), paymasterref09_Split.l0, mk_size, if_neg (by omega), extract_mk, List.take_length, splitB_one _ hc]
    rfl
  | t + 1, i, f, x, h, hf, hc, hx => by
    show paymasterref09_Split.l0 (k + 2 + t + 1) (mk l) x _ _ = _
    have sp := split_at l f i hf (by omega)
    have nx : l.drop i = l.getD i 0 :: l.drop (i + 1) := by
      rw [List.drop_eq_getElem_cons (by omega), List.getD_eq_getElem?_getD, List.getElem?_eq_getElem (by omega)]; rfl
    rw [nx] at sp
    rw [paymasterref09_Split.l0, mk_size, if_pos (show (i : Int) ≤ (l.length : Int) by omega), if_neg (show ¬ (i : Int) = (l.length : Int) by omega), if_pos (show (0 : Int) ≤ (i : Int) by omega), if_pos (show (i : Int) < (l.length : Int) by omega), bt_mk l i (by omega), wrapI _ (by omega) (by omega), show (i : Int) + 1 = ((i + 1 : Nat) : Int) from by omega]
    by_cases c : l.getD i 0 = 10
    · rw [if_pos ((ten_is _).2 c), if_pos (show (0 : Int) ≤ (f : Int) by omega), if_pos (show (f : Int) ≤ (i : Int) by omega), if_pos (show x.length < 8796093022208 by omega), Int.toNat_natCast, Int.toNat_natCast, extract_mk]
      rw [refSplit_l0 l hs k t (i + 1) (i + 1) _ (by omega) (Nat.le_refl _) (by rw [List.drop_of_length_le (by rw [List.length_take]; omega)]; simp) (by rw [List.length_append, List.length_singleton]; omega)]
      rw [sp, c, splitB_app, splitB_one _ hc, List.map_append, List.append_assoc]
      rfl
    · rw [if_neg (fun q => c ((ten_is _).1 q))]
      refine refSplit_l0 l hs k t (i + 1) f x (by omega) (by omega) ?_ (by omega)
      have e : (l.take (i + 1)).drop f = (l.take i).drop f ++ [l.getD i 0] := by
        rw [List.take_succ_eq_append_getElem (by omega), List.drop_append_of_le_length (by rw [List.length_take]; omega), List.getD_eq_getElem?_getD, List.getElem?_eq_getElem (by omega)]; rfl
      rw [e]
      intro b hb
      rcases List.mem_append.1 hb with q | q
      · exact hc b q
      · rw [List.mem_singleton.1 q]; exact c
theorem refSplit_is (s : ByteArray) (hs : s.size ≤ 1000000000) (k : Nat) (hk : s.size + 2 ≤ k) : paymasterref09_Split.f k s = some ((splitB s.data.toList).map mk) := by
  have e : s.data.toList.length = s.size := Array.length_toList
  have := refSplit_l0 s.data.toList (by omega) (k - 2 - s.size) s.size 0 0 [] (by omega) (Nat.le_refl _) (by simp) (Nat.le_refl _)
  rw [show k - 2 - s.size + 2 + s.size = k by omega, mk_of] at this
  exact this
theorem refWrong_is (h : List UInt8) (hs : h.length ≤ 1000000000) (k : Nat) (hk : h.length + 11 ≤ k) : paymasterref09_Wrong.f k (mk h) = some (wrongOf h) := by
  unfold paymasterref09_Wrong.f
  rw [refRunes_up (mk h) (by rw [mk_size]; omega) k (by rw [mk_size]; omega), Option.bind_some, mk_list, mk_size]
  unfold wrongOf
  by_cases v : Lib.validD h = true
  · rw [if_pos v, if_pos v, if_pos rfl]
    by_cases q : (runesAt (mk h) h.length 0).length > 80
    · rw [if_pos (by simp; omega), if_pos q]
    · rw [if_neg (by simp; omega), if_neg q]
  · rw [if_neg v, if_neg v, if_neg (by decide)]
theorem rdOf_mk (L : List (List UInt8)) (i : Nat) (hi : i < L.length) : rdOf ByteArray.empty (L.map mk) (i : Int) = mk (L.getD i []) := by
  unfold rdOf
  rw [Int.toNat_natCast, List.getD_eq_getElem?_getD, List.getD_eq_getElem?_getD, List.getElem?_map, List.getElem?_eq_getElem hi]
  rfl
end Go.Proofs.YtpkjpiphjdpegaaDoor.P
namespace Go.Proofs.YtpkjpiphjdpegaaDoor.P
set_option linter.unusedVariables false
set_option linter.unusedSimpArgs false
def valD (l : List Int) : Int := l.foldl (fun a d => a * 10 + d) 0
def Dig (l : List Int) : Prop := ∀ d, d ∈ l → 0 ≤ d ∧ d < 10
theorem ten_pos (k : Nat) : (0 : Int) < 10 ^ k := Int.pow_pos (by omega)
theorem fold_cons : ∀ (l : List Int) (a : Int), l.foldl (fun a d => a * 10 + d) a = a * 10 ^ l.length + l.foldl (fun a d => a * 10 + d) 0
  | [], a => by simp
  | x :: l, a => by
    rw [List.foldl_cons, List.foldl_cons, fold_cons l (a * 10 + x), fold_cons l (0 * 10 + x), List.length_cons, Int.pow_succ, Int.add_mul, Int.mul_assoc a 10, Int.mul_comm 10, Int.zero_mul, Int.zero_add]
    omega
theorem valD_cons (x : Int) (l : List Int) : valD (x :: l) = x * 10 ^ l.length + valD l := by
  unfold valD
  rw [List.foldl_cons, fold_cons l (0 * 10 + x), Int.zero_mul, Int.zero_add]
theorem valD_range : ∀ (l : List Int), Dig l → 0 ≤ valD l ∧ valD l < 10 ^ l.length
  | [], _ => by simp [valD]
  | x :: l, h => by
    have h0 := valD_range l (fun d hd => h d (List.mem_cons_of_mem _ hd))
    have h1 := h x (List.mem_cons_self ..)
    have p := ten_pos l.length
    rw [valD_cons, List.length_cons, Int.pow_succ]
    have h2 : x * 10 ^ l.length ≤ 9 * 10 ^ l.length := Int.mul_le_mul_of_nonneg_right (by omega) (by omega)
    have h3 : 0 ≤ x * 10 ^ l.length := Int.mul_nonneg h1.1 (by omega)
    omega
end Go.Proofs.YtpkjpiphjdpegaaDoor.P
namespace Go.Proofs.YtpkjpiphjdpegaaDoor.P
open Go.RowKit Go.Proofs.YtpkjpiphjdpegaaDoorW.PrintWords Go.Proofs.YtpkjpiphjdpegaaDoorW.PrintLast Go.Proofs.YtpkjpiphjdpegaaDoorW.PrintMore
set_option linter.unusedVariables false
set_option linter.unusedSimpArgs false
def val (hi lo : Int) : Int := hi * 18446744073709551616 + lo
def hiOf (n : Int) : Int := n / 18446744073709551616
def loOf (n : Int) : Int := n % 18446744073709551616
def m128 : Int := 340282366920938463463374607431768211456
theorem call_add64 (x y c : Int) (hx : 0 ≤ x) (hy : 0 ≤ y) (hc0 : 0 ≤ c) (hc : c ≤ 1) (w : World) :
    (callFunc 124 #[.int .u64 x, .int .u64 y, .int .u64 c]).run Tryd.prog w =
      .ok (.value (.tuple #[.int .u64 ((x + y + c) % 18446744073709551616), .int .u64 ((x + y + c) / 18446744073709551616)])) w := by
  rw [run_callFunc_extern Tryd.func124 (by kernel_rfl) (by kernel_rfl) (by kernel_rfl) (e := add64Entry) (by kernel_rfl), run_add64 x y c hx hy hc0 hc]
  rfl
def u128_Add.f (a0_0 a0_1 a1_0 a1_1 : Int) : Option (Int × Int × Int) :=
  if U64 a0_0 ∧ U64 a0_1 ∧ U64 a1_0 ∧ U64 a1_1 then
    (if val a0_0 a0_1 + val a1_0 a1_1 < m128 then some (hiOf (val a0_0 a0_1 + val a1_0 a1_1), loOf (val a0_0 a0_1 + val a1_0 a1_1), 0) else some (0, 0, 10))
  else none
theorem add_plan (a b c d : Int) (ha : U64 a) (hb : U64 b) (hc : U64 c) (hd : U64 d) :
    ∃ lo c1 hi c2, (b + d + 0) % 18446744073709551616 = lo ∧ (b + d + 0) / 18446744073709551616 = c1 ∧ (a + c + c1) % 18446744073709551616 = hi ∧ (a + c + c1) / 18446744073709551616 = c2 ∧ 0 ≤ c1 ∧ c1 ≤ 1 ∧ 0 ≤ c2 ∧
      ((c2 = 0 ∧ u128_Add.f a b c d = some (hi, lo, 0)) ∨ (c2 ≠ 0 ∧ u128_Add.f a b c d = some (0, 0, 10))) := by
  refine ⟨_, _, _, _, rfl, rfl, rfl, rfl, by omega, by omega, by omega, ?_⟩
  by_cases h : val a b + val c d < m128
  · left
    unfold u128_Add.f
    rw [if_pos ⟨ha, hb, hc, hd⟩, if_pos h]
    unfold val m128 hiOf loOf at *
    refine ⟨by omega, ?_⟩
    congr 2
    · omega
    · congr 1
      omega
  · right
    unfold u128_Add.f
    rw [if_pos ⟨ha, hb, hc, hd⟩, if_neg h]
    unfold val m128 at *
    exact ⟨by omega, rfl⟩
end Go.Proofs.YtpkjpiphjdpegaaDoor.P
namespace Go.Proofs.YtpkjpiphjdpegaaDoor.P
open Go.RowKit Go.Proofs.YtpkjpiphjdpegaaDoorW.PrintWords Go.Proofs.YtpkjpiphjdpegaaDoorW.PrintLast Go.Proofs.YtpkjpiphjdpegaaDoorW.PrintMore
set_option linter.unusedVariables false
set_option linter.unusedSimpArgs false
theorem wu (x : Int) (h0 : 0 ≤ x) (h1 : x < 18446744073709551616) : IntKind.u64.wrap x = x := by rw [IntKind.wrap_u64]; omega
theorem wi (x : Int) (h0 : -9223372036854775808 ≤ x) (h1 : x < 9223372036854775808) : wrap64 x = x := by unfold wrap64; omega
def hf (a b c d : Int) : Int := ((d * 65536 + c) * 65536 + b) * 65536 + a
end Go.Proofs.YtpkjpiphjdpegaaDoor.P
namespace Go.Proofs.YtpkjpiphjdpegaaDoor.P
open Go.RowKit Go.Proofs.YtpkjpiphjdpegaaDoorW.PrintWords Go.Proofs.YtpkjpiphjdpegaaDoorW.PrintLast Go.Proofs.YtpkjpiphjdpegaaDoorW.PrintMore
set_option linter.unusedVariables false
set_option linter.unusedSimpArgs false
theorem quot_lt {y Q R T q : Int} (hy : 0 < y) (e : Q * y + R = T) (hR : 0 ≤ R) (h : T < q * y) : Q < q := by
  rcases Int.lt_or_le Q q with h1 | h1
  · exact h1
  · have := Int.mul_le_mul_of_nonneg_right h1 (Int.le_of_lt hy)
    omega
theorem quot_le {y Q R T q : Int} (hy : 0 < y) (e : Q * y + R = T) (hR : R < y) (h : q * y ≤ T) : q ≤ Q := by
  rcases Int.lt_or_le Q q with h1 | h1
  · have h2 : Q + 1 ≤ q := h1
    have := Int.mul_le_mul_of_nonneg_right h2 (Int.le_of_lt hy)
    rw [Int.add_mul, Int.one_mul] at this
    omega
  · exact h1
structure Est (x2 v1 v0 u d Q R : Int) : Prop where
  hy : x2 = v1 * 4294967296 + v0
  v1l : 2147483648 ≤ v1
  v1u : v1 < 4294967296
  v0l : 0 ≤ v0
  v0u : v0 < 4294967296
  dl : 0 ≤ d
  du : d < 4294967296
  ul : 0 ≤ u
  hQ : Q * x2 + R = u * 4294967296 + d
  Rl : 0 ≤ R
  Ru : R < x2
  Ql : 0 ≤ Q
  Qu : Q < 4294967296
theorem Est.made {x2 v1 v0 u d Q R q rh : Int} (h : Est x2 v1 v0 u d Q R) (e : q * v1 + rh = u) : q * x2 = (u - rh) * 4294967296 + q * v0 := by
  rw [h.hy, Int.mul_add, ← Int.mul_assoc, show q * v1 = u - rh by omega]
theorem Est.pos {x2 v1 v0 u d Q R : Int} (h : Est x2 v1 v0 u d Q R) : 0 < x2 := by
  have := h.hy
  have := h.v1l
  have := h.v0l
  omega
theorem Est.big {x2 v1 v0 u d Q R q rh : Int} (h : Est x2 v1 v0 u d Q R) (e : q * v1 + rh = u) (t : q ≥ 4294967296 ∨ q * v0 > 4294967296 * rh + d) : Q < q := by
  rcases t with t | t
  · have := h.Qu
    omega
  · have m := h.made e
    exact quot_lt h.pos h.hQ h.Rl (by omega)
theorem Est.over {x2 v1 v0 u d Q R q rh : Int} (h : Est x2 v1 v0 u d Q R) (e : q * v1 + rh = u) (hq : Q ≤ q) (hq' : q ≤ 4294967296) (t : rh ≥ 4294967296) : q = Q := by
  have m := h.made e
  have h0 : 0 ≤ q := by
    have := h.Ql
    omega
  have w : q * v0 ≤ 4294967296 * v0 := Int.mul_le_mul_of_nonneg_right hq' h.v0l
  have := h.v0u
  have := h.dl
  have := quot_le h.pos h.hQ h.Ru (q := q) (by omega)
  omega
end Go.Proofs.YtpkjpiphjdpegaaDoor.P
namespace Go.Proofs.YtpkjpiphjdpegaaDoor.P
open Go.RowKit Go.Proofs.YtpkjpiphjdpegaaDoorW.PrintWords Go.Proofs.YtpkjpiphjdpegaaDoorW.PrintLast Go.Proofs.YtpkjpiphjdpegaaDoorW.PrintMore
set_option linter.unusedVariables false
set_option linter.unusedSimpArgs false
theorem Est.first {x2 v1 v0 u d Q R : Int} (h : Est x2 v1 v0 u d Q R) : Q ≤ u / v1 ∧ u / v1 ≤ 4294967297 ∧ u / v1 * v1 + u % v1 = u ∧ 0 ≤ u % v1 ∧ u % v1 < 4294967296 := by
  obtain ⟨hy, v1l, v1u, v0l, v0u, dl, du, ul, hQ, Rl, Ru, Ql, Qu⟩ := h
  have e : Q * x2 = Q * v1 * 4294967296 + Q * v0 := by rw [hy, Int.mul_add, ← Int.mul_assoc]
  have w := Int.mul_nonneg Ql v0l
  have hv : 0 < v1 := by omega
  have q1 := Int.emod_lt_of_pos u hv
  have q0 := Int.emod_nonneg u (show v1 ≠ 0 by omega)
  have hm : Q * x2 ≤ 4294967295 * x2 := Int.mul_le_mul_of_nonneg_right (by omega) (by omega)
  have hlt : u < 4294967298 * v1 := by omega
  have := Int.ediv_lt_of_lt_mul hv hlt
  exact ⟨Int.le_ediv_of_mul_le hv (by omega), by omega, Int.ediv_mul_add_emod _ _, q0, by omega⟩
end Go.Proofs.YtpkjpiphjdpegaaDoor.P
namespace Go.Proofs.YtpkjpiphjdpegaaDoor.P
open Go.RowKit Go.Proofs.YtpkjpiphjdpegaaDoorW.PrintWords Go.Proofs.YtpkjpiphjdpegaaDoorW.PrintLast Go.Proofs.YtpkjpiphjdpegaaDoorW.PrintMore
set_option linter.unusedVariables false
set_option linter.unusedSimpArgs false
theorem halves (n hi lo : Int) (h : U64 lo) (e : n = hi * 18446744073709551616 + lo) : hiOf n = hi ∧ loOf n = lo := by
  unfold hiOf loOf; constructor <;> omega
end Go.Proofs.YtpkjpiphjdpegaaDoor.P
namespace Go.Proofs.YtpkjpiphjdpegaaDoor.P
open Go.RowKit Go.Proofs.YtpkjpiphjdpegaaDoorW.PrintWords Go.Proofs.YtpkjpiphjdpegaaDoorW.PrintLast Go.Proofs.YtpkjpiphjdpegaaDoorW.PrintMore
set_option linter.unusedVariables false
set_option linter.unusedSimpArgs false
open Go.Proofs.Mul64 in
theorem mul64_nat (x y : Nat) (hx : x < 18446744073709551616) (hy : y < 18446744073709551616) :
    bits_Mul64.f (x : Int) (y : Int) = some (((x * y / 18446744073709551616 : Nat) : Int), ((x * y % 18446744073709551616 : Nat) : Int)) := by
  obtain ⟨bd, bt, bw, hhi⟩ := Lib.mul64_hi x y hx hy
  have ba := Lib.half_mul_le (a := x / 4294967296) (b := y / 4294967296) (by omega) (by omega)
  have bb := Lib.half_mul_le (a := x / 4294967296) (b := y % 4294967296) (by omega) (by omega)
  have bc := Lib.half_mul_le (a := x % 4294967296) (b := y / 4294967296) (by omega) (by omega)
  have ba' : x / 4294967296 * (y / 4294967296) < 18446744073709551616 := by omega
  have bb' : x / 4294967296 * (y % 4294967296) < 18446744073709551616 := by omega
  have bc' : x % 4294967296 * (y / 4294967296) < 18446744073709551616 := by omega
  have bh1 : x / 4294967296 * (y / 4294967296) + (x / 4294967296 * (y % 4294967296) + x % 4294967296 * (y % 4294967296) / 4294967296) / 4294967296 < 18446744073709551616 := by omega
  have bh : x / 4294967296 * (y / 4294967296) + (x / 4294967296 * (y % 4294967296) + x % 4294967296 * (y % 4294967296) / 4294967296) / 4294967296 + ((x / 4294967296 * (y % 4294967296) + x % 4294967296 * (y % 4294967296) / 4294967296) % 4294967296 + x % 4294967296 * (y / 4294967296)) / 4294967296 < 18446744073709551616 := by omega
  unfold bits_Mul64.f
  rw [maskN x hx, maskN y hy, divN x, divN y]
  simp only [mulN, addN, divN]
  rw [wrapN _ ba', wrapN _ bb', wrapN _ bc', wrapN _ bd]
  simp only [mulN, addN, divN]
  rw [wrapN _ bt]
  simp only [mulN, addN, divN]
  rw [maskN _ bt, wrapN _ bh1]
  simp only [mulN, addN, divN]
  rw [wrapN _ bw]
  simp only [mulN, addN, divN]
  rw [wrapN _ bh, wrapM, hhi]
theorem mul64_is (x y : Int) (hx : U64 x) (hy : U64 y) : bits_Mul64.f x y = some (hiOf (x * y), loOf (x * y)) := by
  obtain ⟨x1, x2⟩ := hx
  obtain ⟨y1, y2⟩ := hy
  obtain ⟨X, rfl⟩ := Int.eq_ofNat_of_zero_le x1
  obtain ⟨Y, rfl⟩ := Int.eq_ofNat_of_zero_le y1
  rw [mul64_nat X Y (by omega) (by omega)]
  unfold hiOf loOf
  rw [← Int.natCast_mul]
  rfl
theorem idx105_0 (x y : Int) (W : World) : (Instr.index 177 (.agg #[.int .u64 x, .int .u64 y]) (.int .i64 0)).run Tryd.prog W = .ok (.int .u64 x) W := by
  simp [Instr.index, run_underlying Tryd.underlying177, asIntOf, go_sem]
theorem idx105_1 (x y : Int) (W : World) : (Instr.index 177 (.agg #[.int .u64 x, .int .u64 y]) (.int .i64 1)).run Tryd.prog W = .ok (.int .u64 y) W := by
  simp [Instr.index, run_underlying Tryd.underlying177, asIntOf, go_sem]
attribute [local go_sem] idx105_0 idx105_1
def u128_Times.f (a0_0 a0_1 a1 : Int) : Option (Int × Int × Int) :=
  if U64 a0_0 ∧ U64 a0_1 ∧ U64 a1 then
    (if val a0_0 a0_1 * a1 < m128 then some (hiOf (val a0_0 a0_1 * a1), loOf (val a0_0 a0_1 * a1), 0) else some (0, 0, 10))
  else none
theorem times_plan (a b n : Int) (ha : U64 a) (hb : U64 b) (hn : U64 n) :
    ∃ H0 L0 H1 L1 hi c, bits_Mul64.f b n = some (H0, L0) ∧ bits_Mul64.f a n = some (H1, L1) ∧ 0 ≤ L1 ∧ 0 ≤ H0 ∧ (L1 + H0 + 0) % 18446744073709551616 = hi ∧ (L1 + H0 + 0) / 18446744073709551616 = c ∧
      ((c = 0 ∧ H1 = 0 ∧ u128_Times.f a b n = some (hi, L0, 0)) ∨ (c = 0 ∧ H1 ≠ 0 ∧ u128_Times.f a b n = some (0, 0, 10)) ∨ (c ≠ 0 ∧ u128_Times.f a b n = some (0, 0, 10))) := by
  have h0 : 0 ≤ a * n := Int.mul_nonneg ha.1 hn.1
  have h1 : 0 ≤ b * n := Int.mul_nonneg hb.1 hn.1
  have e : val a b * n = a * n * 18446744073709551616 + b * n := by
    unfold val
    rw [Int.add_mul, Int.mul_right_comm]
  refine ⟨_, _, _, _, _, _, mul64_is b n hb hn, mul64_is a n ha hn, by unfold loOf; omega, by unfold hiOf; omega, rfl, rfl, ?_⟩
  unfold u128_Times.f
  rw [if_pos ⟨ha, hb, hn⟩, e]
  generalize a * n = X at *
  generalize b * n = Y at *
  clear e
  by_cases hc : (loOf X + hiOf Y + 0) / 18446744073709551616 = 0
  · by_cases hh : hiOf X = 0
    · left
      refine ⟨hc, hh, ?_⟩
      unfold hiOf loOf m128 at *
      rw [if_pos (by omega)]
      congr 2
      · omega
      · congr 1
        omega
    · right; left
      refine ⟨hc, hh, ?_⟩
      unfold hiOf loOf m128 at *
      rw [if_neg (by omega)]
  · right; right
    refine ⟨hc, ?_⟩
    unfold hiOf loOf m128 at *
    rw [if_neg (by omega)]
set_option maxHeartbeats 4000000 in
set_option maxRecDepth 100000 in
theorem u128_Times.calls (a0_0 a0_1 a1 r1 r2 r3 : Int) (w : World) (h : u128_Times.f a0_0 a0_1 a1 = some (r1, r2, r3)) :
    Calls Tryd.prog 114 #[.agg #[.int .u64 a0_0, .int .u64 a0_1], .int .u64 a1] w fun e w' => e = .returned (.tuple #[.agg #[.int .u64 r1, .int .u64 r2], .int .i64 r3]) ∧ Below w.heap.size w w' := by
  have hu : U64 a0_0 ∧ U64 a0_1 ∧ U64 a1 := by
    unfold u128_Times.f at h
    split at h
    · assumption
    · cases h
  obtain ⟨H0, L0, H1, L1, hi, c, m0, m1, l1, l2, e1, e2, hf⟩ := times_plan a0_0 a0_1 a1 hu.1 hu.2.1 hu.2.2
  have k1 : ∀ W : World, (callFunc 124 #[.int .u64 L1, .int .u64 H0, .int .u64 0]).run Tryd.prog W = .ok (.value (.tuple #[.int .u64 hi, .int .u64 c])) W := by
    intro W
    rw [call_add64 _ _ _ l1 l2 (by omega) (by omega), e1, e2]
  have M0 := Aside0.mk m0
  have M1 := Aside0.mk m1
  clear e1 e2 l1 l2 hu m0 m1
  rcases hf with ⟨hc, hh, hf⟩ | ⟨hc, hh, hf⟩ | ⟨hc, hf⟩
  · rw [hf] at h
    simp only [Option.some.injEq, Prod.mk.injEq] at h
    obtain ⟨rfl, rfl, rfl⟩ := h
    subst hc
    subst hh
    clear hf
    go_enter Tryd.func114, Tryd.ntmps114
    go_wp2
    refine wp_loop_rounds 3 ?_
    rw [rounds_succ]
    go_wp2_with (first | (go_at_call 131; (with_reducible refine (bits_Mul64.calls _ _ _ _ _ M0.out).mono ?_); rintro e w' ⟨rfl, ⟨nd, rfl⟩⟩) | (go_at_call 131; (with_reducible refine (bits_Mul64.calls _ _ _ _ _ M1.out).mono ?_); rintro e w' ⟨rfl, ⟨nd', rfl⟩⟩))
    rw [rounds_succ]
    go_wp2_with (first | (go_at_call 131; (with_reducible refine (bits_Mul64.calls _ _ _ _ _ M0.out).mono ?_); rintro e w' ⟨rfl, ⟨nd, rfl⟩⟩) | (go_at_call 131; (with_reducible refine (bits_Mul64.calls _ _ _ _ _ M1.out).mono ?_); rintro e w' ⟨rfl, ⟨nd', rfl⟩⟩))
    rw [rounds_succ]
    go_wp2
    exact bodyPost_ret (v := .tuple #[.agg #[.int .u64 hi, .int .u64 L0], .int .i64 0]) (by simp [results, Tryd.results114, go_sem]) rfl ⟨rfl, by repeat (first | (with_reducible exact Below.refl _ _) | (with_reducible apply below_alloc) | (with_reducible apply pw_below_drewN) | (with_reducible refine below_set ?_ (by omega)))⟩
  · rw [hf] at h
    simp only [Option.some.injEq, Prod.mk.injEq] at h
    obtain ⟨rfl, rfl, rfl⟩ := h
    subst hc
    have hn : (H1 != 0) = true := by simpa using hh
    clear hf hh
    go_enter Tryd.func114, Tryd.ntmps114
    go_wp2
    refine wp_loop_rounds 3 ?_
    rw [rounds_succ]
    go_wp2_with (first | (go_at_call 131; (with_reducible refine (bits_Mul64.calls _ _ _ _ _ M0.out).mono ?_); rintro e w' ⟨rfl, ⟨nd, rfl⟩⟩) | (go_at_call 131; (with_reducible refine (bits_Mul64.calls _ _ _ _ _ M1.out).mono ?_); rintro e w' ⟨rfl, ⟨nd', rfl⟩⟩))
    rw [rounds_succ]
    go_wp2_with (first | (go_at_call 131; (with_reducible refine (bits_Mul64.calls _ _ _ _ _ M0.out).mono ?_); rintro e w' ⟨rfl, ⟨nd, rfl⟩⟩) | (go_at_call 131; (with_reducible refine (bits_Mul64.calls _ _ _ _ _ M1.out).mono ?_); rintro e w' ⟨rfl, ⟨nd', rfl⟩⟩))
    rw [rounds_succ]
    go_wp2
    exact bodyPost_ret (v := .tuple #[.agg #[.int .u64 0, .int .u64 0], .int .i64 10]) (by simp [results, Tryd.results114, go_sem]) rfl ⟨rfl, by repeat (first | (with_reducible exact Below.refl _ _) | (with_reducible apply below_alloc) | (with_reducible apply pw_below_drewN) | (with_reducible refine below_set ?_ (by omega)))⟩
  · rw [hf] at h
    simp only [Option.some.injEq, Prod.mk.injEq] at h
    obtain ⟨rfl, rfl, rfl⟩ := h
    have hn : (c != 0) = true := by simpa using hc
    clear hf hc
    go_enter Tryd.func114, Tryd.ntmps114
    go_wp2
    refine wp_loop_rounds 3 ?_
    rw [rounds_succ]
    go_wp2_with (first | (go_at_call 131; (with_reducible refine (bits_Mul64.calls _ _ _ _ _ M0.out).mono ?_); rintro e w' ⟨rfl, ⟨nd, rfl⟩⟩) | (go_at_call 131; (with_reducible refine (bits_Mul64.calls _ _ _ _ _ M1.out).mono ?_); rintro e w' ⟨rfl, ⟨nd', rfl⟩⟩))
    rw [rounds_succ]
    go_wp2_with (first | (go_at_call 131; (with_reducible refine (bits_Mul64.calls _ _ _ _ _ M0.out).mono ?_); rintro e w' ⟨rfl, ⟨nd, rfl⟩⟩) | (go_at_call 131; (with_reducible refine (bits_Mul64.calls _ _ _ _ _ M1.out).mono ?_); rintro e w' ⟨rfl, ⟨nd', rfl⟩⟩))
    rw [rounds_succ]
    go_wp2
    exact bodyPost_ret (v := .tuple #[.agg #[.int .u64 0, .int .u64 0], .int .i64 10]) (by simp [results, Tryd.results114, go_sem]) rfl ⟨rfl, by repeat (first | (with_reducible exact Below.refl _ _) | (with_reducible apply below_alloc) | (with_reducible apply pw_below_drewN) | (with_reducible refine below_set ?_ (by omega)))⟩
end Go.Proofs.YtpkjpiphjdpegaaDoor.P
namespace Go.Proofs.YtpkjpiphjdpegaaDoor.P
open Go.RowKit Go.Proofs.YtpkjpiphjdpegaaDoorW.PrintWords Go.Proofs.YtpkjpiphjdpegaaDoorW.PrintLast Go.Proofs.YtpkjpiphjdpegaaDoorW.PrintMore
set_option linter.unusedVariables false
set_option linter.unusedSimpArgs false
theorem u_hiOf (n : Int) (h : 0 ≤ n) (h' : n < m128) : U64 (hiOf n) ∧ U64 (loOf n) := by unfold hiOf loOf m128 at *; constructor <;> constructor <;> omega
theorem val_halves (n : Int) : val (hiOf n) (loOf n) = n := by unfold val hiOf loOf; omega
theorem val_range (a b : Int) (ha : U64 a) (hb : U64 b) : 0 ≤ val a b ∧ val a b < m128 := by
  obtain ⟨a0, a1⟩ := ha
  obtain ⟨b0, b1⟩ := hb
  unfold val m128; omega
end Go.Proofs.YtpkjpiphjdpegaaDoor.P
namespace Go.Proofs.YtpkjpiphjdpegaaDoor.P
open Go.RowKit Go.Proofs.YtpkjpiphjdpegaaDoorW.PrintWords Go.Proofs.YtpkjpiphjdpegaaDoorW.PrintLast Go.Proofs.YtpkjpiphjdpegaaDoorW.PrintMore
set_option linter.unusedVariables false
set_option linter.unusedSimpArgs false
theorem add_num (a b c d : Int) (ha : U64 a) (hb : U64 b) (hc : U64 c) (hd : U64 d) :
    u128_Add.f a b c d = if val a b + val c d < m128 then some (hiOf (val a b + val c d), loOf (val a b + val c d), 0) else some (0, 0, 10) := by
  unfold u128_Add.f
  rw [if_pos ⟨ha, hb, hc, hd⟩]
theorem hiOf_val (a b : Int) (hb : U64 b) : hiOf (val a b) = a := by
  obtain ⟨h1, h2⟩ := hb
  unfold hiOf val
  omega
theorem loOf_val (a b : Int) (hb : U64 b) : loOf (val a b) = b := by
  obtain ⟨h1, h2⟩ := hb
  unfold loOf val
  omega
end Go.Proofs.YtpkjpiphjdpegaaDoor.P
namespace Go.Proofs.YtpkjpiphjdpegaaDoor.P
open Go.RowKit Go.Proofs.YtpkjpiphjdpegaaDoorW.PrintWords Go.Proofs.YtpkjpiphjdpegaaDoorW.PrintLast Go.Proofs.YtpkjpiphjdpegaaDoorW.PrintMore
set_option linter.unusedVariables false
set_option linter.unusedSimpArgs false
theorem times_num (a b n : Int) (ha : U64 a) (hb : U64 b) (hn : U64 n) :
    u128_Times.f a b n = if val a b * n < m128 then some (hiOf (val a b * n), loOf (val a b * n), 0) else some (0, 0, 10) := by
  unfold u128_Times.f
  rw [if_pos ⟨ha, hb, hn⟩]
theorem small_val (x : Int) : val 0 x = x := by unfold val; omega
end Go.Proofs.YtpkjpiphjdpegaaDoor.P
namespace Go.Proofs.YtpkjpiphjdpegaaDoor.P
open Go.RowKit Go.Proofs.YtpkjpiphjdpegaaDoorW.PrintWords Go.Proofs.YtpkjpiphjdpegaaDoorW.PrintLast Go.Proofs.YtpkjpiphjdpegaaDoorW.PrintMore
set_option linter.unusedVariables false
set_option linter.unusedSimpArgs false
def unasc (l : List Int) : List Int := l.map (· - 48)
def noNum (l : List Int) : Bool := l.isEmpty || l.any (fun c => decide (c < 48) || decide (c > 57)) || (decide (1 < l.length) && l.head? == some 48)
def parseOf (l : List Int) : Int × Int × Int := if noNum l = true then (0, 0, 20) else if valD (unasc l) < m128 then (hiOf (valD (unasc l)), loOf (valD (unasc l)), 0) else (0, 0, 10)
def decimal_Parse.f (a0 : ByteArray) : Option (Int × Int × Int) := if a0.size ≤ 1000000000 then some (parseOf (nb a0)) else none
theorem parse_num (s : ByteArray) (h : s.size ≤ 1000000000) : decimal_Parse.f s = some (parseOf (nb s)) := if_pos h
end Go.Proofs.YtpkjpiphjdpegaaDoor.P
namespace Go.Proofs.YtpkjpiphjdpegaaDoor.P
open Go.Shelf Go.RowKit
def shGw17_ren : Go.Shelf.Ren := ⟨fun | 17 => 113 | 15 => 130 | 20 => 141 | n => n, fun | 9 => 9 | 23 => 99 | 4 => 4 | 3 => 3 | 0 => 0 | 21 => 21 | n => n, fun | n => n⟩
theorem shGw17 : Go.Proofs.LaysGw.n17 Tryd.prog shGw17_ren := {
  mixed := by kernel_rfl
  f15 := Tryd.func130.trans (congrArg some (by kernel_rfl))
  f17 := Tryd.func113.trans (congrArg some (by kernel_rfl))
  f20 := Tryd.func141.trans (congrArg some (by kernel_rfl))
  t0 := Tryd.underlying0
  a0 := Tryd.isAgg0
  z0 := Tryd.sizeOf0
  v0 := Tryd.zeroValue0
  i0 := by kernel_rfl
  t3 := Tryd.underlying3
  a3 := Tryd.isAgg3
  z3 := Tryd.sizeOf3
  v3 := Tryd.zeroValue3
  i3 := by kernel_rfl
  t4 := Tryd.underlying4
  a4 := Tryd.isAgg4
  z4 := Tryd.sizeOf4
  v4 := Tryd.zeroValue4
  i4 := by kernel_rfl
  t9 := Tryd.underlying9
  a9 := Tryd.isAgg9
  z9 := Tryd.sizeOf9
  v9 := Tryd.zeroValue9
  i9 := by kernel_rfl
  t21 := Tryd.underlying21
  a21 := Tryd.isAgg21
  z21 := Tryd.sizeOf21
  v21 := Tryd.zeroValue21
  i21 := by kernel_rfl
  t23 := Tryd.underlying99
  a23 := Tryd.isAgg99
  z23 := Tryd.sizeOf99
  v23 := Tryd.zeroValue99
  i23 := by kernel_rfl }
open Go.RowKit Go.Lib in
theorem sh_ContainsFunc (g : Nat) (lb : Array Value) (eg : ∀ args w, (callFunc g args).run Tryd.prog w = .ok (.enter g args) w) (p : Nat → Bool) (s : ByteArray) (w : World) (hp : PredAt Tryd.prog g lb encR p w) :
    Calls Tryd.prog 113 #[.string s, .func (.func g) #[] lb] w fun e w' => e = .returned (.bool (decide (0 ≤ Lib.idxFunc p true s))) ∧ Below w.heap.size w w' := Any.strings_ContainsFunc shGw17 g lb eg p s w hp
end Go.Proofs.YtpkjpiphjdpegaaDoor.P
namespace Go.Proofs.YtpkjpiphjdpegaaDoor.P
open Go.RowKit Go.Proofs.YtpkjpiphjdpegaaDoorW.PrintWords Go.Proofs.YtpkjpiphjdpegaaDoorW.PrintLast Go.Proofs.YtpkjpiphjdpegaaDoorW.PrintMore
set_option linter.unusedVariables false
set_option linter.unusedSimpArgs false
def odd (r : Nat) : Bool := decide (r < 48) || decide (57 < r)
theorem oddP_at (w : World) : PredAt Tryd.prog 112 #[] encR odd w := fun W r _ => by
  unfold FnGives odd
  by_cases h1 : r < 48 <;> by_cases h2 : 57 < r
  all_goals
    have z1 : (r : Int) < 48 ↔ r < 48 := by omega
    have z2 : (57 : Int) < (r : Int) ↔ 57 < r := by omega
    go_enter Tryd.func112, Tryd.ntmps112
    go_wp2
    all_goals first | (exfalso; omega) | (go_ret; exact ⟨by simp [h1, h2], 0, rfl⟩)
def badB (c : Int) : Bool := decide (c < 48) || decide (c > 57)
theorem nb_cons (s : ByteArray) (i : Nat) (h : i < s.size) : (nb s).drop i = ((s[i]'h).toNat : Int) :: (nb s).drop (i + 1) := by
  rw [List.drop_eq_getElem_cons (by rw [nb_length]; exact h)]
  congr 1
  unfold nb
  rw [List.getElem_map, Array.getElem_toList]
  rfl
theorem odd_from (s : ByteArray) : ∀ (f pos : Nat), s.size ≤ pos + f → (0 ≤ Lib.idxFuncFrom odd true s f pos ↔ ((nb s).drop pos).any badB = true)
  | 0, pos, h => by
    rw [List.drop_of_length_le (by rw [nb_length]; omega)]
    simp [Lib.idxFuncFrom]
  | f + 1, pos, h => by
    unfold Lib.idxFuncFrom
    by_cases hp : pos < s.size
    · rw [if_pos hp, nb_cons s pos hp, List.any_cons]
      have hb := (s[pos]'hp).toNat_lt
      by_cases ha : (s[pos]'hp).toNat < 128
      · rw [decode_ascii s pos hp ha]
        show 0 ≤ (if odd (s[pos]'hp).toNat = true then (pos : Int) else Lib.idxFuncFrom odd true s f (pos + 1)) ↔ _
        have e : odd (s[pos]'hp).toNat = badB ((s[pos]'hp).toNat : Int) := by
          unfold odd badB
          generalize (s[pos]'hp).toNat = x
          rw [Bool.eq_iff_iff]
          simp only [Bool.or_eq_true, decide_eq_true_eq]
          omega
        rw [e]
        by_cases c : badB ((s[pos]'hp).toNat : Int) = true
        · rw [if_pos c, c]
          simp
        · rw [if_neg c, odd_from s f (pos + 1) (by omega)]
          simp [c]
      · have d := decode_high s pos hp (by omega)
        have c : badB ((s[pos]'hp).toNat : Int) = true := by unfold badB; simp; omega
        have o : odd (Utf8.decode s pos).1 = true := by unfold odd; simp; omega
        rw [if_pos o, c]
        simp
    · rw [if_neg hp, List.drop_of_length_le (by rw [nb_length]; omega)]
      simp
theorem oddP_is (s : ByteArray) : decide (0 ≤ Lib.idxFunc odd true s) = (nb s).any badB := by
  rw [Bool.eq_iff_iff, decide_eq_true_eq]
  have := odd_from s s.size 0 (by omega)
  rw [List.drop_zero] at this
  exact this
theorem contains_odd (s : ByteArray) (w : World) : Calls Tryd.prog 113 #[.string s, .func (.func 112) #[] #[]] w fun e w' => e = .returned (.bool ((nb s).any badB)) ∧ Below w.heap.size w w' := by
  rw [← oddP_is]
  exact sh_ContainsFunc 112 #[] (enters_of Tryd.func112 (by kernel_rfl) rfl) odd s w (oddP_at w)
theorem of_exact (d : Int) (w : World) : Calls Tryd.prog 67 #[.int .u64 d] w fun e w' => e = .returned (.agg #[.int .u64 0, .int .u64 d]) ∧ ∃ o, w' = w.alloc o := by
  go_enter Tryd.func67, Tryd.ntmps67
  go_wp2
  exact bodyPost_ret (v := .agg #[.int .u64 0, .int .u64 d]) (by simp [results, Tryd.results67, go_sem]) rfl ⟨rfl, _, rfl⟩
set_option maxHeartbeats 1000000 in
set_option maxRecDepth 100000 in
theorem add_exact (a0_0 a0_1 a1_0 a1_1 r1 r2 r3 : Int) (w : World) (h : u128_Add.f a0_0 a0_1 a1_0 a1_1 = some (r1, r2, r3)) :
    Calls Tryd.prog 97 #[.agg #[.int .u64 a0_0, .int .u64 a0_1], .agg #[.int .u64 a1_0, .int .u64 a1_1]] w fun e w' => e = .returned (.tuple #[.agg #[.int .u64 r1, .int .u64 r2], .int .i64 r3]) ∧ ∃ o1 o2 o3, w' = ((w.alloc o1).alloc o2).alloc o3 := by
  have hu : U64 a0_0 ∧ U64 a0_1 ∧ U64 a1_0 ∧ U64 a1_1 := by
    unfold u128_Add.f at h
    split at h
    · assumption
    · cases h
  obtain ⟨h1, h2, h3, h4⟩ := hu
  obtain ⟨lo, c1, hi, c2, e1, e2, e3, e4, l1, l2, l3, hf⟩ := add_plan a0_0 a0_1 a1_0 a1_1 h1 h2 h3 h4
  have k1 : ∀ W : World, (callFunc 124 #[.int .u64 a0_1, .int .u64 a1_1, .int .u64 0]).run Tryd.prog W = .ok (.value (.tuple #[.int .u64 lo, .int .u64 c1])) W := by
    intro W
    rw [call_add64 _ _ _ h2.1 h4.1 (by omega) (by omega), e1, e2]
  have k2 : ∀ W : World, (callFunc 124 #[.int .u64 a0_0, .int .u64 a1_0, .int .u64 c1]).run Tryd.prog W = .ok (.value (.tuple #[.int .u64 hi, .int .u64 c2])) W := by
    intro W
    rw [call_add64 _ _ _ h1.1 h3.1 l1 l2, e3, e4]
  clear e1 e2 e3 e4 h1 h2 h3 h4 l1 l2 l3
  rcases hf with ⟨hc, hf⟩ | ⟨hc, hf⟩
  · rw [hf] at h
    simp only [Option.some.injEq, Prod.mk.injEq] at h
    obtain ⟨rfl, rfl, rfl⟩ := h
    subst hc
    clear hf
    go_enter Tryd.func97, Tryd.ntmps97
    go_wp2
    exact bodyPost_ret (v := .tuple #[.agg #[.int .u64 hi, .int .u64 lo], .int .i64 0]) (by simp [results, Tryd.results97, go_sem]) rfl ⟨rfl, _, _, _, rfl⟩
  · rw [hf] at h
    simp only [Option.some.injEq, Prod.mk.injEq] at h
    obtain ⟨rfl, rfl, rfl⟩ := h
    have hn : (c2 != 0) = true := by simpa using hc
    clear hf hc
    go_enter Tryd.func97, Tryd.ntmps97
    go_wp2
    exact bodyPost_ret (v := .tuple #[.agg #[.int .u64 0, .int .u64 0], .int .i64 10]) (by simp [results, Tryd.results97, go_sem]) rfl ⟨rfl, _, _, _, rfl⟩
theorem conv_str (W : World) (s : ByteArray) : ∃ cap W' C fr, (convert 9 82 (.string s)).run Tryd.prog W = .ok (.slice (some ⟨W.heap.size, 0, none⟩) s.size cap) W' ∧ Below W.heap.size W W' ∧ W'.heap[W.heap.size]? = some (.cells C 5 fr) ∧ ∀ j : Nat, j < s.size → C[j]? = some (.int .u8 (bt s (j : Int))) := by
  refine ⟨_, _, _, _, Lib.run_convert_string_bytes W 9 82 5 s Tryd.underlying9 Tryd.underlying82 Tryd.underlying5, ?_, Lib.bytesWorld_at_new W 5 s, fun j hj => ?_⟩
  · refine ⟨rfl, rfl, rfl, ?_, fun k hk => Lib.bytesWorld_at_old W 5 s k hk⟩
    rw [Lib.bytesWorld_size]
    omega
  · rw [← cell_of_row _ _ j _ _ _ (Lib.bytesWorld_at_new W 5 s), Lib.bytesWorld_cell W 5 s j hj]
    congr 2
    have e := bt_nb s j
    rw [e]
    unfold nb
    rw [List.getD_eq_getElem?_getD, List.getD_eq_getElem?_getD, List.getElem?_map, List.getElem?_eq_getElem (by simpa using hj)]
    rfl
theorem head48 (s : ByteArray) (h : 1 < s.size) : ((nb s).head? == some 48) = (bt s 0 == 48) := by
  have e := bt_nb s 0
  rw [show ((0 : Nat) : Int) = 0 from rfl] at e
  rw [e]
  have l := nb_length s
  cases hn : nb s with
  | nil => rw [hn] at l; simp at l; omega
  | cons x t => simp
theorem fold_up (l : List Int) (a : Int) (ha : 0 ≤ a) (hl : Dig l) : a ≤ l.foldl (fun a d => a * 10 + d) a := by
  have h := (valD_range l hl).1
  unfold valD at h
  rw [fold_cons]
  have p := ten_pos l.length
  have : a * 1 ≤ a * 10 ^ l.length := Int.mul_le_mul_of_nonneg_left (by omega) ha
  omega
theorem parse_step (x y d : Int) (hx : U64 x) (hy : U64 y) (d0 : 0 ≤ d) (d1 : d < 10) : ∃ t1 t2 t3 s1 s2 s3, u128_Times.f x y 10 = some (t1, t2, t3) ∧ u128_Add.f t1 t2 0 d = some (s1, s2, s3) ∧
    ((t3 = 0 ∧ s3 = 0 ∧ U64 s1 ∧ U64 s2 ∧ val s1 s2 = val x y * 10 + d) ∨ ((t3 ≠ 0 ∨ s3 ≠ 0) ∧ m128 ≤ val x y * 10 + d)) := by
  have vr := val_range x y hx hy
  have ud : U64 d := ⟨by omega, by omega⟩
  have z : U64 0 := ⟨by omega, by omega⟩
  by_cases c2 : val x y * 10 < m128
  · have ut := u_hiOf (val x y * 10) (by omega) c2
    by_cases c3 : val x y * 10 + d < m128
    · have un := u_hiOf (val x y * 10 + d) (by omega) c3
      refine ⟨hiOf (val x y * 10), loOf (val x y * 10), 0, hiOf (val x y * 10 + d), loOf (val x y * 10 + d), 0, ?_, ?_, .inl ⟨rfl, rfl, un.1, un.2, val_halves _⟩⟩
      · rw [times_num x y 10 hx hy ⟨by omega, by omega⟩, if_pos c2]
      · rw [add_num _ _ _ _ ut.1 ut.2 z ud, val_halves, small_val, if_pos c3]
    · refine ⟨hiOf (val x y * 10), loOf (val x y * 10), 0, 0, 0, 10, ?_, ?_, .inr ⟨.inr (by omega), by omega⟩⟩
      · rw [times_num x y 10 hx hy ⟨by omega, by omega⟩, if_pos c2]
      · rw [add_num _ _ _ _ ut.1 ut.2 z ud, val_halves, small_val, if_neg c3]
  · refine ⟨0, 0, 10, hiOf (0 + d), loOf (0 + d), 0, ?_, ?_, .inr ⟨.inl (by omega), by omega⟩⟩
    · rw [times_num x y 10 hx hy ⟨by omega, by omega⟩, if_neg c2]
    · rw [add_num _ _ _ _ z z z ud, small_val, small_val, if_pos (by unfold m128; omega)]
theorem blk_new_at (W : World) (o : Obj) (g : Nat) (h : W.heap.size = g) : (W.alloc o).heap[g]? = some o := h ▸ blk_new W o
theorem abs_world {Kx : Exit → Act → World → Prop} {e : Exit} {a : Act} {W : World} (F : World → Prop) (hF : F W) (h : ∀ W', F W' → Kx e a W') : Kx e a W := h W hF
def kept9 (w : World) (g5 g10 : Nat) (x y p q : Int) (C : Array Value) (fr : Nat × Nat) (W : World) : Prop :=
  W.heap[w.heap.size]? = some (.cells #[.int .u64 0, .int .u64 0] 42 (0, 0)) ∧ W.heap[g5]? = some (.cells #[.int .u64 x, .int .u64 y] 42 (0, 0)) ∧ W.heap[g5 + 1]? = some (.cells C 5 fr) ∧ W.heap[g10]? = some (.cells #[.int .u64 p, .int .u64 q] 42 (0, 0)) ∧ Below w.heap.size w W
set_option maxHeartbeats 4000000 in
set_option maxRecDepth 100000 in
theorem decimal_Parse.calls (a0 : ByteArray) (r1 r2 r3 : Int) (w : World) (h : decimal_Parse.f a0 = some (r1, r2, r3)) :
    Calls Tryd.prog 84 #[.string a0] w fun e w' => e = .returned (.tuple #[.agg #[.int .u64 r1, .int .u64 r2], .int .i64 r3]) ∧ Below w.heap.size w w' := by
  have hs : a0.size ≤ 1000000000 := by
    unfold decimal_Parse.f at h
    split at h
    · assumption
    · cases h
  rw [parse_num a0 hs] at h
  have h' := Option.some.inj h
  clear h
  unfold parseOf noNum at h'
  have co := contains_odd a0
  have bd : (nb a0).any (fun c => decide (c < 48) || decide (c > 57)) = (nb a0).any badB := rfl
  rw [bd] at h'
  have nl := nb_length a0
  by_cases z : a0.size = 0
  · have e0 : a0 = ⟨#[]⟩ := by
      apply ByteArray.ext
      exact Array.eq_empty_of_size_eq_zero z
    have en : (nb a0).isEmpty = true := by
      rw [List.eq_nil_of_length_eq_zero (show (nb a0).length = 0 by omega)]
      rfl
    rw [en, Bool.true_or, Bool.true_or, if_pos rfl] at h'
    cases h'
    subst e0
    go_enter Tryd.func84, Tryd.ntmps84
    go_wp2
    exact bodyPost_ret (v := .tuple #[.agg #[.int .u64 0, .int .u64 0], .int .i64 20]) (by simp [results, Tryd.results84, go_sem]) rfl ⟨rfl, below_alloc (Below.refl _ _) _⟩
  · have ne : (nb a0).isEmpty = false := by
      cases hn : nb a0 with
      | nil => rw [hn] at nl; simp at nl; omega
      | cons x t => rfl
    have s0 : (a0.toList == ([] : List UInt8)) = false := by
      rw [beq_eq_false_iff_ne]
      intro e
      rw [Lib.toList_data] at e
      have := congrArg List.length e
      simp at this
      exact z (by simp [ByteArray.size, this])
    rw [ne, Bool.false_or] at h'
    by_cases b : (nb a0).any badB = true
    · rw [b, Bool.true_or, if_pos rfl] at h'
      cases h'
      rw [b] at co
      go_enter Tryd.func84, Tryd.ntmps84
      go_wp2_with (first | (go_at_call 113; (with_reducible refine (co _).mono ?_); rintro e w' ⟨rfl, hb⟩; have BK := Aside0.mk (blk_below (blk_new w (.cells #[.int .u64 0, .int .u64 0] 42)) hb); have cz0 : w'.cell? ⟨w.heap.size, 0, none⟩ = some (.int .u64 0) := (blk_cell BK.out 0).trans rfl; have cz1 : w'.cell? ⟨w.heap.size, 1, none⟩ = some (.int .u64 0) := (blk_cell BK.out 1).trans rfl; have fz0 := blk_frozen BK.out 0; have fz1 := blk_frozen BK.out 1; have HB := Aside0.mk (below_step (below_alloc (Below.refl _ _) _) hb)))
      exact bodyPost_ret (v := .tuple #[.agg #[.int .u64 0, .int .u64 0], .int .i64 20]) (by simp [results, Tryd.results84, go_sem, cz0, cz1]) rfl ⟨rfl, below_set (below_set HB.out (Nat.le_refl _)) (Nat.le_refl _)⟩
    · have bf : (nb a0).any badB = false := by simpa using b
      rw [bf] at co
      rw [bf, Bool.false_or] at h'
      have p0 : 0 < a0.size := by omega
      by_cases q : 1 < a0.size ∧ bt a0 0 = 48
      · rw [decide_eq_true (show 1 < (nb a0).length by omega), head48 a0 q.1, q.2, Bool.true_and, if_pos (show ((48 : Int) == 48) = true from rfl)] at h'
        cases h'
        have l1 : decide ((1 : Int) < (a0.size : Int)) = true := decide_eq_true (by omega)
        have l0 : decide ((0 : Int) < (a0.size : Int)) = true := decide_eq_true (by omega)
        have b0 : ((a0[0]'p0).toNat : Int) = 48 := by rw [← q.2]; exact bt_at a0 0 p0
        go_enter Tryd.func84, Tryd.ntmps84
        go_wp2_with (first | (go_at_call 113; (with_reducible refine (co _).mono ?_); rintro e w' ⟨rfl, hb⟩; have BK := Aside0.mk (blk_below (blk_new w (.cells #[.int .u64 0, .int .u64 0] 42)) hb); have cz0 : w'.cell? ⟨w.heap.size, 0, none⟩ = some (.int .u64 0) := (blk_cell BK.out 0).trans rfl; have cz1 : w'.cell? ⟨w.heap.size, 1, none⟩ = some (.int .u64 0) := (blk_cell BK.out 1).trans rfl; have fz0 := blk_frozen BK.out 0; have fz1 := blk_frozen BK.out 1; have HB := Aside0.mk (below_step (below_alloc (Below.refl _ _) _) hb)))
        exact bodyPost_ret (v := .tuple #[.agg #[.int .u64 0, .int .u64 0], .int .i64 20]) (by simp [results, Tryd.results84, go_sem, cz0, cz1]) rfl ⟨rfl, below_set (below_set HB.out (Nat.le_refl _)) (Nat.le_refl _)⟩
      · have nz : (decide (1 < (nb a0).length) && (nb a0).head? == some 48) = false := by
          by_cases l : 1 < a0.size
          · rw [head48 a0 l]
            have : (bt a0 0 == 48) = false := by rw [beq_eq_false_iff_ne]; exact fun e => q ⟨l, e⟩
            rw [this, Bool.and_false]
          · rw [decide_eq_false (show ¬ 1 < (nb a0).length by omega), Bool.false_and]
        rw [nz, if_neg (by simp)] at h'
        have dN : Dig (unasc (nb a0)) := by
          intro d hd
          obtain ⟨c, hc, rfl⟩ := List.mem_map.1 hd
          have := (List.any_eq_false.1 bf) c hc
          unfold badB at this
          simp at this
          omega
        by_cases l : 1 < a0.size
        · have l1 : decide ((1 : Int) < (a0.size : Int)) = true := decide_eq_true (by omega)
          have l0 : decide ((0 : Int) < (a0.size : Int)) = true := decide_eq_true (by omega)
          have b0 : ((a0[0]'p0).toNat : Int) = bt a0 0 := bt_at a0 0 p0
          have b1 : (bt a0 0 == 48) = false := by rw [beq_eq_false_iff_ne]; exact fun e => q ⟨l, e⟩
          go_enter Tryd.func84, Tryd.ntmps84
          go_wp2_with (first | (go_at_call 113; (with_reducible refine (co _).mono ?_); rintro e w' ⟨rfl, hb⟩; have BK := Aside0.mk (blk_below (blk_new w (.cells #[.int .u64 0, .int .u64 0] 42)) hb); have cz0 : w'.cell? ⟨w.heap.size, 0, none⟩ = some (.int .u64 0) := (blk_cell BK.out 0).trans rfl; have cz1 : w'.cell? ⟨w.heap.size, 1, none⟩ = some (.int .u64 0) := (blk_cell BK.out 1).trans rfl; have fz0 := blk_frozen BK.out 0; have fz1 := blk_frozen BK.out 1; have HB := Aside0.mk (below_step (below_alloc (Below.refl _ _) _) hb); obtain ⟨cap, W2, C, fr, ecv, hb2, S2, SC⟩ := conv_str (w'.alloc (.cells #[.int .u64 0, .int .u64 0] 42)) a0; have R2 := Aside0.mk (blk_below (blk_alloc BK.out _) hb2); have A2 := Aside0.mk (blk_below (blk_new w' (.cells #[.int .u64 0, .int .u64 0] 42)) hb2); rw [World.size_alloc] at S2; have HB2 := Aside0.mk (below_step (below_alloc HB.out _) hb2); have lt5 := blk_lt BK.out; replace S2 := Aside0.mk S2; replace SC := Aside0.mk SC; clear hb hb2 BK cz0 cz1 fz0 fz1 HB; obtain ⟨g5, hg5⟩ : ∃ g, w'.heap.size = g := ⟨_, rfl⟩; rw [hg5] at S2 A2 lt5))
          go_loopg [33] (a0.size + 1) (fun g v33 W => ∃ (i : Nat) (x y : Int), v33 = .int .i64 (i : Int) ∧ Aside0 (i ≤ a0.size ∧ a0.size ≤ i + g) ∧ Aside0 (U64 x ∧ U64 y ∧ (unasc ((nb a0).drop i)).foldl (fun a d => a * 10 + d) (val x y) = valD (unasc (nb a0))) ∧ Aside0 (W.heap[w.heap.size]? = some (.cells #[.int .u64 0, .int .u64 0] 42 (0, 0))) ∧ Aside0 (W.heap[g5]? = some (.cells #[.int .u64 x, .int .u64 y] 42 (0, 0))) ∧ Aside0 (W.heap[g5 + 1]? = some (.cells C 5 fr)) ∧ Aside0 (Below w.heap.size w W))
          case atStart =>
            refine ⟨0, 0, 0, rfl, ⟨by omega, by omega⟩, ⟨⟨by omega, by omega⟩, ⟨by omega, by omega⟩, rfl⟩, R2, A2, S2, HB2⟩
          case round =>
            clear R2 A2 S2 HB2
            obtain ⟨i, x, y, rfl, J, V, R, A, S, HB⟩ := hrel
            have ay0 : wr.cell? ⟨g5, 0, none⟩ = some (.int .u64 x) := (blk_cell A.out 0).trans rfl
            have ay1 : wr.cell? ⟨g5, 1, none⟩ = some (.int .u64 y) := (blk_cell A.out 1).trans rfl
            have ry0 : wr.cell? ⟨w.heap.size, 0, none⟩ = some (.int .u64 0) := (blk_cell R.out 0).trans rfl
            have ry1 : wr.cell? ⟨w.heap.size, 1, none⟩ = some (.int .u64 0) := (blk_cell R.out 1).trans rfl
            have rz0 := blk_frozen R.out 0
            have rz1 := blk_frozen R.out 1
            have vr := val_range x y V.out.1 V.out.2.1
            by_cases c : i < a0.size
            · have cb : decide ((i : Int) < (a0.size : Int)) = true := decide_eq_true (by omega)
              obtain ⟨gi, rfl⟩ : ∃ g, gk = g + 1 := ⟨gk - 1, by have := J.out; omega⟩
              have cs := (cell_of_row wr (g5 + 1) i _ _ _ S.out).trans (SC.out i c)
              have dr : (nb a0).drop i = bt a0 (i : Int) :: (nb a0).drop (i + 1) := by
                rw [nb_cons a0 i c]
                congr 1
                exact bt_at a0 (i : Int) (by simpa using c)
              have fv := V.out.2.2
              rw [dr] at fv
              have hb48 : 0 ≤ bt a0 (i : Int) - 48 ∧ bt a0 (i : Int) - 48 < 10 := by
                refine dN _ (List.mem_map.2 ⟨bt a0 (i : Int), ?_, rfl⟩)
                refine List.mem_of_mem_drop (i := i) ?_
                rw [dr]
                exact List.mem_cons_self ..
              have fv' : (unasc ((nb a0).drop (i + 1))).foldl (fun a d => a * 10 + d) (val x y * 10 + (bt a0 (i : Int) - 48)) = valD (unasc (nb a0)) := fv
              have dT : Dig (unasc ((nb a0).drop (i + 1))) := fun d hd => dN d (by
                obtain ⟨q, hq, rfl⟩ := List.mem_map.1 hd
                exact List.mem_map.2 ⟨q, List.mem_of_mem_drop hq, rfl⟩)
              generalize bt a0 (i : Int) = bc at *
              have wd : IntKind.u8.wrap (bc - 48) = bc - 48 := by rw [IntKind.wrap_u8]; omega
              have wd2 : IntKind.u64.wrap (bc - 48) = bc - 48 := wu _ (by omega) (by omega)
              have wd3 : (bc - 48) % 256 = bc - 48 := by omega
              obtain ⟨d, hd⟩ : ∃ d, bc - 48 = d := ⟨_, rfl⟩
              rw [hd] at wd wd2 wd3 hb48 fv'
              have hO : u128_Of.f d = some (0, d) := rfl
              have wdd : IntKind.u64.wrap (IntKind.u8.wrap (bc - 48)) = d := by rw [hd, wd, wd2]
              clear cb fv dr hd
              obtain ⟨t1, t2, t3, s1, s2, s3, hT, hA, O⟩ := parse_step x y d V.out.1 V.out.2.1 hb48.1 hb48.2
              replace O := Aside0.mk O
              replace fv' := Aside0.mk fv'
              replace dT := Aside0.mk dT
              replace vr := Aside0.mk vr
              replace h' := Aside0.mk h'
              go_wp2_with (first
                | (go_at_call 114; (with_reducible refine (u128_Times.calls x y 10 _ _ _ _ hT).mono ?_); rintro e W3 ⟨rfl, hb3⟩; have A3 := Aside0.mk (blk_below A.out hb3); have R3 := Aside0.mk (blk_below R.out hb3); have S3 := Aside0.mk (blk_below S.out hb3); have HB3 := Aside0.mk (below_step HB.out hb3); clear hb3; clear ay0 ay1 ry0 ry1 rz0 rz1 A R S HB))
              clear cs SC hT co bd nl z ne s0 b bf nz dN wd wd2 wd3
              go_region_with (first
                | (go_at_call 67; (with_reducible refine (of_exact d _).mono ?_); rintro e W4 ⟨rfl, o0, rfl⟩)
                | (go_at_call 97; (with_reducible refine (add_exact _ _ _ _ _ _ _ _ hA).mono ?_); rintro e W5 ⟨rfl, o1, o2, o3, rfl⟩))
              all_goals
                (first
                  | (refine abs_world (kept9 w g5 (W3.heap.size + 1) x y s1 s2 C fr) ⟨blk_drew (blk_alloc (blk_alloc (blk_alloc (blk_alloc (blk_alloc (blk_alloc R3.out _) _) _) _) _) _), blk_drew (blk_alloc (blk_alloc (blk_alloc (blk_alloc (blk_alloc (blk_alloc A3.out _) _) _) _) _) _), blk_drew (blk_alloc (blk_alloc (blk_alloc (blk_alloc (blk_alloc (blk_alloc S3.out _) _) _) _) _) _), ?_, below_drew1 (below_alloc (below_alloc (below_alloc (below_alloc (below_alloc (below_alloc HB3.out _) _) _) _) _) _)⟩ ?_; (refine blk_drew ?_; repeat (first | (focus (refine blk_new_at _ _ _ ?_; simp; done)) | refine blk_alloc ?_ _)); intro W6 K9)
                  | (refine abs_world (kept9 w g5 (W3.heap.size + 1 + 1) x y s1 s2 C fr) ⟨blk_drew (blk_alloc (blk_alloc (blk_alloc (blk_alloc (blk_alloc (blk_alloc R3.out _) _) _) _) _) _), blk_drew (blk_alloc (blk_alloc (blk_alloc (blk_alloc (blk_alloc (blk_alloc A3.out _) _) _) _) _) _), blk_drew (blk_alloc (blk_alloc (blk_alloc (blk_alloc (blk_alloc (blk_alloc S3.out _) _) _) _) _) _), ?_, below_drew1 (below_alloc (below_alloc (below_alloc (below_alloc (below_alloc (below_alloc HB3.out _) _) _) _) _) _)⟩ ?_; (refine blk_drew ?_; repeat (first | (focus (refine blk_new_at _ _ _ ?_; simp; done)) | refine blk_alloc ?_ _)); intro W6 K9)
                  | (refine abs_world (kept9 w g5 (W3.heap.size + 1 + 1 + 1 + 1 + 1) x y s1 s2 C fr) ⟨blk_drew (blk_alloc (blk_alloc (blk_alloc (blk_alloc (blk_alloc (blk_alloc R3.out _) _) _) _) _) _), blk_drew (blk_alloc (blk_alloc (blk_alloc (blk_alloc (blk_alloc (blk_alloc A3.out _) _) _) _) _) _), blk_drew (blk_alloc (blk_alloc (blk_alloc (blk_alloc (blk_alloc (blk_alloc S3.out _) _) _) _) _) _), ?_, below_drew1 (below_alloc (below_alloc (below_alloc (below_alloc (below_alloc (below_alloc HB3.out _) _) _) _) _) _)⟩ ?_; (refine blk_drew ?_; repeat (first | (focus (refine blk_new_at _ _ _ ?_; simp; done)) | refine blk_alloc ?_ _)); intro W6 K9))
                clear A3 R3 S3 HB3 o0 o1 o2 o3 wdd hA
                obtain ⟨R6, A6, S6, T6, HB6⟩ := K9
                have ty0 := (blk_cell T6 0).trans (show _ = some (Value.int .u64 s1) from rfl)
                have ty1 := (blk_cell T6 1).trans (show _ = some (Value.int .u64 s2) from rfl)
                have ay0 : W6.cell? ⟨g5, 0, none⟩ = some (.int .u64 x) := (blk_cell A6 0).trans rfl
                have ay1 : W6.cell? ⟨g5, 1, none⟩ = some (.int .u64 y) := (blk_cell A6 1).trans rfl
                have az0 := blk_frozen A6 0
                have az1 := blk_frozen A6 1
                have ry0 : W6.cell? ⟨w.heap.size, 0, none⟩ = some (.int .u64 0) := (blk_cell R6 0).trans rfl
                have ry1 : W6.cell? ⟨w.heap.size, 1, none⟩ = some (.int .u64 0) := (blk_cell R6 1).trans rfl
                have rz0 := blk_frozen R6 0
                have rz1 := blk_frozen R6 1
                replace R6 := Aside0.mk R6
                replace A6 := Aside0.mk A6
                replace S6 := Aside0.mk S6
                replace HB6 := Aside0.mk HB6
                clear T6
                rcases O.out with ⟨rfl, rfl, u1, u2, ve⟩ | ⟨oe, ge⟩
                · clear O
                  go_wp2
                  go_roundg gi
                  case measure => omega
                  case rel =>
                    refine ⟨i + 1, s1, s2, ?_, ⟨?_⟩, ⟨u1, u2, ?_⟩, ⟨?_⟩, ⟨?_⟩, ⟨?_⟩, ⟨?_⟩⟩
                    · rw [show ((i + 1 : Nat) : Int) = (i : Int) + 1 from by omega]
                    · have := J.out; omega
                    · rw [ve]; exact fv'.out
                    · exact blk_far (blk_far R6.out (by show w.heap.size ≠ g5; omega) _) (by show w.heap.size ≠ g5; omega) _
                    · exact blk_put (blk_put A6.out 0 _ rfl) 1 _ rfl
                    · exact (Below.heap_setCell _ ⟨g5, 1, none⟩ _ (g5 + 1) (by show g5 + 1 ≠ g5; omega)).trans ((Below.heap_setCell _ ⟨g5, 0, none⟩ _ (g5 + 1) (by show g5 + 1 ≠ g5; omega)).trans S6.out)
                    · exact below_set (below_set HB6.out (by omega)) (by omega)
                · have big : ¬ valD (unasc (nb a0)) < m128 := by
                    rw [← fv'.out]
                    have v0 := vr.out.1
                    have d0 : 0 ≤ d := by omega
                    have := fold_up _ (val x y * 10 + d) (by omega) dT.out
                    omega
                  have hh := h'.out
                  rw [if_neg big] at hh
                  cases hh
                  clear O
                  by_cases t : t3 = 0
                  · subst t
                    have s3b : (s3 != 0) = true := by
                      rw [bne_iff_ne]
                      rcases oe with h | h
                      · exact absurd rfl h
                      · exact h
                    go_wp2
                    exact bodyPost_ret (v := .tuple #[.agg #[.int .u64 0, .int .u64 0], .int .i64 10]) (by simp [results, Tryd.results84, go_sem, ry0, ry1]) rfl ⟨rfl, below_set (below_set HB6.out (Nat.le_refl _)) (Nat.le_refl _)⟩
                  · have t3b : (t3 != 0) = true := bne_iff_ne.mpr t
                    go_wp2
                    exact bodyPost_ret (v := .tuple #[.agg #[.int .u64 0, .int .u64 0], .int .i64 10]) (by simp [results, Tryd.results84, go_sem, ry0, ry1]) rfl ⟨rfl, below_set (below_set HB6.out (Nat.le_refl _)) (Nat.le_refl _)⟩
            · have cb : decide ((i : Int) < (a0.size : Int)) = false := decide_eq_false (by omega)
              obtain rfl : i = a0.size := by have := J.out; omega
              go_wp2
              have vv : val x y = valD (unasc (nb a0)) := by
                rw [← V.out.2.2, List.drop_of_length_le (by omega)]
                rfl
              rw [← vv, if_pos vr.2, hiOf_val x y V.out.2.1, loOf_val x y V.out.2.1] at h'
              cases h'
              exact bodyPost_ret (v := .tuple #[.agg #[.int .u64 r1, .int .u64 r2], .int .i64 0]) (by simp [results, Tryd.results84, go_sem, ry0, ry1]) rfl ⟨rfl, below_set (below_set HB.out (Nat.le_refl _)) (Nat.le_refl _)⟩
        · have l1 : decide ((1 : Int) < (a0.size : Int)) = false := decide_eq_false (by omega)
          go_enter Tryd.func84, Tryd.ntmps84
          go_wp2_with (first | (go_at_call 113; (with_reducible refine (co _).mono ?_); rintro e w' ⟨rfl, hb⟩; have BK := Aside0.mk (blk_below (blk_new w (.cells #[.int .u64 0, .int .u64 0] 42)) hb); have cz0 : w'.cell? ⟨w.heap.size, 0, none⟩ = some (.int .u64 0) := (blk_cell BK.out 0).trans rfl; have cz1 : w'.cell? ⟨w.heap.size, 1, none⟩ = some (.int .u64 0) := (blk_cell BK.out 1).trans rfl; have fz0 := blk_frozen BK.out 0; have fz1 := blk_frozen BK.out 1; have HB := Aside0.mk (below_step (below_alloc (Below.refl _ _) _) hb); obtain ⟨cap, W2, C, fr, ecv, hb2, S2, SC⟩ := conv_str (w'.alloc (.cells #[.int .u64 0, .int .u64 0] 42)) a0; have R2 := Aside0.mk (blk_below (blk_alloc BK.out _) hb2); have A2 := Aside0.mk (blk_below (blk_new w' (.cells #[.int .u64 0, .int .u64 0] 42)) hb2); rw [World.size_alloc] at S2; have HB2 := Aside0.mk (below_step (below_alloc HB.out _) hb2); have lt5 := blk_lt BK.out; replace S2 := Aside0.mk S2; replace SC := Aside0.mk SC; clear hb hb2 BK cz0 cz1 fz0 fz1 HB; obtain ⟨g5, hg5⟩ : ∃ g, w'.heap.size = g := ⟨_, rfl⟩; rw [hg5] at S2 A2 lt5))
          go_loopg [33] (a0.size + 1) (fun g v33 W => ∃ (i : Nat) (x y : Int), v33 = .int .i64 (i : Int) ∧ Aside0 (i ≤ a0.size ∧ a0.size ≤ i + g) ∧ Aside0 (U64 x ∧ U64 y ∧ (unasc ((nb a0).drop i)).foldl (fun a d => a * 10 + d) (val x y) = valD (unasc (nb a0))) ∧ Aside0 (W.heap[w.heap.size]? = some (.cells #[.int .u64 0, .int .u64 0] 42 (0, 0))) ∧ Aside0 (W.heap[g5]? = some (.cells #[.int .u64 x, .int .u64 y] 42 (0, 0))) ∧ Aside0 (W.heap[g5 + 1]? = some (.cells C 5 fr)) ∧ Aside0 (Below w.heap.size w W))
          case atStart =>
            refine ⟨0, 0, 0, rfl, ⟨by omega, by omega⟩, ⟨⟨by omega, by omega⟩, ⟨by omega, by omega⟩, rfl⟩, R2, A2, S2, HB2⟩
          case round =>
            clear R2 A2 S2 HB2
            obtain ⟨i, x, y, rfl, J, V, R, A, S, HB⟩ := hrel
            have ay0 : wr.cell? ⟨g5, 0, none⟩ = some (.int .u64 x) := (blk_cell A.out 0).trans rfl
            have ay1 : wr.cell? ⟨g5, 1, none⟩ = some (.int .u64 y) := (blk_cell A.out 1).trans rfl
            have ry0 : wr.cell? ⟨w.heap.size, 0, none⟩ = some (.int .u64 0) := (blk_cell R.out 0).trans rfl
            have ry1 : wr.cell? ⟨w.heap.size, 1, none⟩ = some (.int .u64 0) := (blk_cell R.out 1).trans rfl
            have rz0 := blk_frozen R.out 0
            have rz1 := blk_frozen R.out 1
            have vr := val_range x y V.out.1 V.out.2.1
            by_cases c : i < a0.size
            · have cb : decide ((i : Int) < (a0.size : Int)) = true := decide_eq_true (by omega)
              obtain ⟨gi, rfl⟩ : ∃ g, gk = g + 1 := ⟨gk - 1, by have := J.out; omega⟩
              have cs := (cell_of_row wr (g5 + 1) i _ _ _ S.out).trans (SC.out i c)
              have dr : (nb a0).drop i = bt a0 (i : Int) :: (nb a0).drop (i + 1) := by
                rw [nb_cons a0 i c]
                congr 1
                exact bt_at a0 (i : Int) (by simpa using c)
              have fv := V.out.2.2
              rw [dr] at fv
              have hb48 : 0 ≤ bt a0 (i : Int) - 48 ∧ bt a0 (i : Int) - 48 < 10 := by
                refine dN _ (List.mem_map.2 ⟨bt a0 (i : Int), ?_, rfl⟩)
                refine List.mem_of_mem_drop (i := i) ?_
                rw [dr]
                exact List.mem_cons_self ..
              have fv' : (unasc ((nb a0).drop (i + 1))).foldl (fun a d => a * 10 + d) (val x y * 10 + (bt a0 (i : Int) - 48)) = valD (unasc (nb a0)) := fv
              have dT : Dig (unasc ((nb a0).drop (i + 1))) := fun d hd => dN d (by
                obtain ⟨q, hq, rfl⟩ := List.mem_map.1 hd
                exact List.mem_map.2 ⟨q, List.mem_of_mem_drop hq, rfl⟩)
              generalize bt a0 (i : Int) = bc at *
              have wd : IntKind.u8.wrap (bc - 48) = bc - 48 := by rw [IntKind.wrap_u8]; omega
              have wd2 : IntKind.u64.wrap (bc - 48) = bc - 48 := wu _ (by omega) (by omega)
              have wd3 : (bc - 48) % 256 = bc - 48 := by omega
              obtain ⟨d, hd⟩ : ∃ d, bc - 48 = d := ⟨_, rfl⟩
              rw [hd] at wd wd2 wd3 hb48 fv'
              have hO : u128_Of.f d = some (0, d) := rfl
              have wdd : IntKind.u64.wrap (IntKind.u8.wrap (bc - 48)) = d := by rw [hd, wd, wd2]
              clear cb fv dr hd
              obtain ⟨t1, t2, t3, s1, s2, s3, hT, hA, O⟩ := parse_step x y d V.out.1 V.out.2.1 hb48.1 hb48.2
              replace O := Aside0.mk O
              replace fv' := Aside0.mk fv'
              replace dT := Aside0.mk dT
              replace vr := Aside0.mk vr
              replace h' := Aside0.mk h'
              go_wp2_with (first
                | (go_at_call 114; (with_reducible refine (u128_Times.calls x y 10 _ _ _ _ hT).mono ?_); rintro e W3 ⟨rfl, hb3⟩; have A3 := Aside0.mk (blk_below A.out hb3); have R3 := Aside0.mk (blk_below R.out hb3); have S3 := Aside0.mk (blk_below S.out hb3); have HB3 := Aside0.mk (below_step HB.out hb3); clear hb3; clear ay0 ay1 ry0 ry1 rz0 rz1 A R S HB))
              clear cs SC hT co bd nl z ne s0 b bf nz dN wd wd2 wd3
              go_region_with (first
                | (go_at_call 67; (with_reducible refine (of_exact d _).mono ?_); rintro e W4 ⟨rfl, o0, rfl⟩)
                | (go_at_call 97; (with_reducible refine (add_exact _ _ _ _ _ _ _ _ hA).mono ?_); rintro e W5 ⟨rfl, o1, o2, o3, rfl⟩))
              all_goals
                (first
                  | (refine abs_world (kept9 w g5 (W3.heap.size + 1) x y s1 s2 C fr) ⟨blk_drew (blk_alloc (blk_alloc (blk_alloc (blk_alloc (blk_alloc (blk_alloc R3.out _) _) _) _) _) _), blk_drew (blk_alloc (blk_alloc (blk_alloc (blk_alloc (blk_alloc (blk_alloc A3.out _) _) _) _) _) _), blk_drew (blk_alloc (blk_alloc (blk_alloc (blk_alloc (blk_alloc (blk_alloc S3.out _) _) _) _) _) _), ?_, below_drew1 (below_alloc (below_alloc (below_alloc (below_alloc (below_alloc (below_alloc HB3.out _) _) _) _) _) _)⟩ ?_; (refine blk_drew ?_; repeat (first | (focus (refine blk_new_at _ _ _ ?_; simp; done)) | refine blk_alloc ?_ _)); intro W6 K9)
                  | (refine abs_world (kept9 w g5 (W3.heap.size + 1 + 1) x y s1 s2 C fr) ⟨blk_drew (blk_alloc (blk_alloc (blk_alloc (blk_alloc (blk_alloc (blk_alloc R3.out _) _) _) _) _) _), blk_drew (blk_alloc (blk_alloc (blk_alloc (blk_alloc (blk_alloc (blk_alloc A3.out _) _) _) _) _) _), blk_drew (blk_alloc (blk_alloc (blk_alloc (blk_alloc (blk_alloc (blk_alloc S3.out _) _) _) _) _) _), ?_, below_drew1 (below_alloc (below_alloc (below_alloc (below_alloc (below_alloc (below_alloc HB3.out _) _) _) _) _) _)⟩ ?_; (refine blk_drew ?_; repeat (first | (focus (refine blk_new_at _ _ _ ?_; simp; done)) | refine blk_alloc ?_ _)); intro W6 K9)
                  | (refine abs_world (kept9 w g5 (W3.heap.size + 1 + 1 + 1 + 1 + 1) x y s1 s2 C fr) ⟨blk_drew (blk_alloc (blk_alloc (blk_alloc (blk_alloc (blk_alloc (blk_alloc R3.out _) _) _) _) _) _), blk_drew (blk_alloc (blk_alloc (blk_alloc (blk_alloc (blk_alloc (blk_alloc A3.out _) _) _) _) _) _), blk_drew (blk_alloc (blk_alloc (blk_alloc (blk_alloc (blk_alloc (blk_alloc S3.out _) _) _) _) _) _), ?_, below_drew1 (below_alloc (below_alloc (below_alloc (below_alloc (below_alloc (below_alloc HB3.out _) _) _) _) _) _)⟩ ?_; (refine blk_drew ?_; repeat (first | (focus (refine blk_new_at _ _ _ ?_; simp; done)) | refine blk_alloc ?_ _)); intro W6 K9))
                clear A3 R3 S3 HB3 o0 o1 o2 o3 wdd hA
                obtain ⟨R6, A6, S6, T6, HB6⟩ := K9
                have ty0 := (blk_cell T6 0).trans (show _ = some (Value.int .u64 s1) from rfl)
                have ty1 := (blk_cell T6 1).trans (show _ = some (Value.int .u64 s2) from rfl)
                have ay0 : W6.cell? ⟨g5, 0, none⟩ = some (.int .u64 x) := (blk_cell A6 0).trans rfl
                have ay1 : W6.cell? ⟨g5, 1, none⟩ = some (.int .u64 y) := (blk_cell A6 1).trans rfl
                have az0 := blk_frozen A6 0
                have az1 := blk_frozen A6 1
                have ry0 : W6.cell? ⟨w.heap.size, 0, none⟩ = some (.int .u64 0) := (blk_cell R6 0).trans rfl
                have ry1 : W6.cell? ⟨w.heap.size, 1, none⟩ = some (.int .u64 0) := (blk_cell R6 1).trans rfl
                have rz0 := blk_frozen R6 0
                have rz1 := blk_frozen R6 1
                replace R6 := Aside0.mk R6
                replace A6 := Aside0.mk A6
                replace S6 := Aside0.mk S6
                replace HB6 := Aside0.mk HB6
                clear T6
                rcases O.out with ⟨rfl, rfl, u1, u2, ve⟩ | ⟨oe, ge⟩
                · clear O
                  go_wp2
                  go_roundg gi
                  case measure => omega
                  case rel =>
                    refine ⟨i + 1, s1, s2, ?_, ⟨?_⟩, ⟨u1, u2, ?_⟩, ⟨?_⟩, ⟨?_⟩, ⟨?_⟩, ⟨?_⟩⟩
                    · rw [show ((i + 1 : Nat) : Int) = (i : Int) + 1 from by omega]
                    · have := J.out; omega
                    · rw [ve]; exact fv'.out
                    · exact blk_far (blk_far R6.out (by show w.heap.size ≠ g5; omega) _) (by show w.heap.size ≠ g5; omega) _
                    · exact blk_put (blk_put A6.out 0 _ rfl) 1 _ rfl
                    · exact (Below.heap_setCell _ ⟨g5, 1, none⟩ _ (g5 + 1) (by show g5 + 1 ≠ g5; omega)).trans ((Below.heap_setCell _ ⟨g5, 0, none⟩ _ (g5 + 1) (by show g5 + 1 ≠ g5; omega)).trans S6.out)
                    · exact below_set (below_set HB6.out (by omega)) (by omega)
                · have big : ¬ valD (unasc (nb a0)) < m128 := by
                    rw [← fv'.out]
                    have v0 := vr.out.1
                    have d0 : 0 ≤ d := by omega
                    have := fold_up _ (val x y * 10 + d) (by omega) dT.out
                    omega
                  have hh := h'.out
                  rw [if_neg big] at hh
                  cases hh
                  clear O
                  by_cases t : t3 = 0
                  · subst t
                    have s3b : (s3 != 0) = true := by
                      rw [bne_iff_ne]
                      rcases oe with h | h
                      · exact absurd rfl h
                      · exact h
                    go_wp2
                    exact bodyPost_ret (v := .tuple #[.agg #[.int .u64 0, .int .u64 0], .int .i64 10]) (by simp [results, Tryd.results84, go_sem, ry0, ry1]) rfl ⟨rfl, below_set (below_set HB6.out (Nat.le_refl _)) (Nat.le_refl _)⟩
                  · have t3b : (t3 != 0) = true := bne_iff_ne.mpr t
                    go_wp2
                    exact bodyPost_ret (v := .tuple #[.agg #[.int .u64 0, .int .u64 0], .int .i64 10]) (by simp [results, Tryd.results84, go_sem, ry0, ry1]) rfl ⟨rfl, below_set (below_set HB6.out (Nat.le_refl _)) (Nat.le_refl _)⟩
            · have cb : decide ((i : Int) < (a0.size : Int)) = false := decide_eq_false (by omega)
              obtain rfl : i = a0.size := by have := J.out; omega
              go_wp2
              have vv : val x y = valD (unasc (nb a0)) := by
                rw [← V.out.2.2, List.drop_of_length_le (by omega)]
                rfl
              rw [← vv, if_pos vr.2, hiOf_val x y V.out.2.1, loOf_val x y V.out.2.1] at h'
              cases h'
              exact bodyPost_ret (v := .tuple #[.agg #[.int .u64 r1, .int .u64 r2], .int .i64 0]) (by simp [results, Tryd.results84, go_sem, ry0, ry1]) rfl ⟨rfl, below_set (below_set HB.out (Nat.le_refl _)) (Nat.le_refl _)⟩
end Go.Proofs.YtpkjpiphjdpegaaDoor.P
namespace Go.Proofs.YtpkjpiphjdpegaaDoor.P
open Go.Shelf Go.RowKit
def sh_lays137_ren : Go.Shelf.Ren := ⟨fun | 137 => 143 | 217 => 135 | 266 => 145 | n => n, fun | 9 => 9 | 5 => 5 | 3 => 3 | n => n, fun | n => n⟩
theorem sh_lays137 : Go.Proofs.Lays.n137 Tryd.prog sh_lays137_ren := {
  mixed := by kernel_rfl
  f137 := Tryd.func143.trans (congrArg some (by kernel_rfl))
  f217 := Tryd.func135.trans (congrArg some (by kernel_rfl))
  f266 := Tryd.func145.trans (congrArg some (by kernel_rfl))
  t3 := Tryd.underlying3
  a3 := Tryd.isAgg3
  z3 := Tryd.sizeOf3
  v3 := Tryd.zeroValue3
  t5 := Tryd.underlying5
  a5 := Tryd.isAgg5
  z5 := Tryd.sizeOf5
  v5 := Tryd.zeroValue5
  t9 := Tryd.underlying9
  a9 := Tryd.isAgg9
  z9 := Tryd.sizeOf9
  v9 := Tryd.zeroValue9 }
open Go.RowKit in
theorem sh_strings_IndexByte (s : ByteArray) (c : Int) (w : World) :
    Calls Tryd.prog 143 #[.string s, .int .u8 c] w fun e w' => e = .returned (.int .i64 (Lib.indexByte s.data.toList c.toNat.toUInt8)) ∧ w' = w := Any.strings_IndexByte sh_lays137 s c w
def sh_lays195_ren : Go.Shelf.Ren := ⟨fun | 195 => 89 | n => n, fun | 9 => 9 | 3 => 3 | 0 => 0 | 4 => 4 | n => n, fun | n => n⟩
theorem sh_lays195 : Go.Proofs.Lays.n195 Tryd.prog sh_lays195_ren := {
  mixed := by kernel_rfl
  f195 := Tryd.func89.trans (congrArg some (by kernel_rfl))
  t0 := Tryd.underlying0
  a0 := Tryd.isAgg0
  z0 := Tryd.sizeOf0
  v0 := Tryd.zeroValue0
  t3 := Tryd.underlying3
  a3 := Tryd.isAgg3
  z3 := Tryd.sizeOf3
  v3 := Tryd.zeroValue3
  t4 := Tryd.underlying4
  a4 := Tryd.isAgg4
  z4 := Tryd.sizeOf4
  v4 := Tryd.zeroValue4
  t9 := Tryd.underlying9
  a9 := Tryd.isAgg9
  z9 := Tryd.sizeOf9
  v9 := Tryd.zeroValue9 }
open Go.RowKit in
theorem sh_utf8_RuneCountInString (s : ByteArray) (w : World) (hs : s.size < 9223372036854775807) :
    Calls Tryd.prog 89 #[.string s] w fun e w' => e = .returned (.int .i64 (Lib.runeCount s)) ∧ ∃ pos, w' = w.iter s pos := Any.utf8_RuneCountInString sh_lays195 s w hs
def sh_lays151_ren : Go.Shelf.Ren := ⟨fun | 151 => 119 | 152 => 133 | 137 => 143 | 119 => 61 | 224 => 137 | 225 => 136 | 217 => 135 | 266 => 145 | n => n, fun | 9 => 9 | 21 => 21 | 4 => 4 | 3 => 3 | 5 => 5 | 0 => 0 | 46 => 138 | n => n, fun | n => n⟩
theorem sh_lays151 : Go.Proofs.Lays.n151 Tryd.prog sh_lays151_ren := {
  mixed := by kernel_rfl
  f119 := Tryd.func61.trans (congrArg some (by kernel_rfl))
  f137 := Tryd.func143.trans (congrArg some (by kernel_rfl))
  f151 := Tryd.func119.trans (congrArg some (by kernel_rfl))
  f152 := Tryd.func133.trans (congrArg some (by kernel_rfl))
  f217 := Tryd.func135.trans (congrArg some (by kernel_rfl))
  f224 := Tryd.func137.trans (congrArg some (by kernel_rfl))
  f225 := Tryd.func136.trans (congrArg some (by kernel_rfl))
  f266 := Tryd.func145.trans (congrArg some (by kernel_rfl))
  t0 := Tryd.underlying0
  a0 := Tryd.isAgg0
  z0 := Tryd.sizeOf0
  v0 := Tryd.zeroValue0
  t3 := Tryd.underlying3
  a3 := Tryd.isAgg3
  z3 := Tryd.sizeOf3
  v3 := Tryd.zeroValue3
  t4 := Tryd.underlying4
  a4 := Tryd.isAgg4
  z4 := Tryd.sizeOf4
  v4 := Tryd.zeroValue4
  t5 := Tryd.underlying5
  a5 := Tryd.isAgg5
  z5 := Tryd.sizeOf5
  v5 := Tryd.zeroValue5
  t9 := Tryd.underlying9
  a9 := Tryd.isAgg9
  z9 := Tryd.sizeOf9
  v9 := Tryd.zeroValue9
  t21 := Tryd.underlying21
  a21 := Tryd.isAgg21
  z21 := Tryd.sizeOf21
  v21 := Tryd.zeroValue21
  t46 := Tryd.underlying138
  a46 := Tryd.isAgg138
  z46 := Tryd.sizeOf138
  v46 := Tryd.zeroValue138 }
open Go.RowKit Go.Lib in
theorem sh_strings_ContainsRune_ascii (s : ByteArray) (r : Int) (w : World) (h0 : 0 ≤ r) (h1 : r < 128) :
    Calls Tryd.prog 119 #[.string s, .int .i32 r] w fun e w' => e = .returned (.bool (decide (0 ≤ Lib.indexByte s.data.toList r.toNat.toUInt8))) ∧ w' = w := Any.strings_ContainsRune_ascii sh_lays151 s r w h0 h1
end Go.Proofs.YtpkjpiphjdpegaaDoor.P
namespace Go.Proofs.YtpkjpiphjdpegaaDoor.P
open Go.RowKit Go.Proofs.YtpkjpiphjdpegaaDoorW.PrintWords Go.Proofs.YtpkjpiphjdpegaaDoorW.PrintLast Go.Proofs.YtpkjpiphjdpegaaDoorW.PrintMore
set_option linter.unusedVariables false
set_option linter.unusedSimpArgs false
abbrev signs : ByteArray := ⟨#[46, 95, 45]⟩
theorem big_byte (n : Nat) (h : 128 ≤ n) (h' : n < 256) : 128 ≤ (UInt8.ofNat n).toNat := by
  rw [UInt8.toNat_ofNat']
  omega
theorem enc_w2 (r : Int) (h0 : 128 ≤ r) (h1 : r < 2048) : ∃ a b : UInt8, Utf8.encode r = ⟨#[a, b]⟩ ∧ 128 ≤ b.toNat := by
  have v : Utf8.valid r = true := by unfold Utf8.valid; simp; omega
  refine ⟨UInt8.ofNat (0xC0 + r.toNat / 64), UInt8.ofNat (0x80 + r.toNat % 64), ?_, big_byte _ (by omega) (by omega)⟩
  unfold Utf8.encode
  simp only [v, if_true]
  rw [if_neg (by omega), if_pos (by omega)]
theorem enc_w3 (r : Int) (h0 : 2048 ≤ r) (h1 : r < 65536) (v : Utf8.valid r = true) : ∃ a b c : UInt8, Utf8.encode r = ⟨#[a, b, c]⟩ ∧ 128 ≤ c.toNat := by
  refine ⟨UInt8.ofNat (0xE0 + r.toNat / 4096), UInt8.ofNat (0x80 + r.toNat / 64 % 64), UInt8.ofNat (0x80 + r.toNat % 64), ?_, big_byte _ (by omega) (by omega)⟩
  unfold Utf8.encode
  simp only [v, if_true]
  rw [if_neg (by omega), if_neg (by omega), if_pos (by omega)]
theorem enc_w4 (r : Int) (h0 : 65536 ≤ r) (v : Utf8.valid r = true) : ∃ a b c d : UInt8, Utf8.encode r = ⟨#[a, b, c, d]⟩ := by
  refine ⟨UInt8.ofNat (0xF0 + r.toNat / 262144), UInt8.ofNat (0x80 + r.toNat / 4096 % 64), UInt8.ofNat (0x80 + r.toNat / 64 % 64), UInt8.ofNat (0x80 + r.toNat % 64), ?_⟩
  unfold Utf8.encode
  simp only [v, if_true]
  rw [if_neg (by omega), if_neg (by omega), if_neg (by omega)]
theorem index_one (b : UInt8) (h : 128 ≤ b.toNat) : Lib.indexByte [45] b = -1 := by
  have e : ¬ ((45 : UInt8) = b) := fun e => by rw [← e] at h; revert h; decide
  unfold Lib.indexByte
  rw [if_neg (by simpa using e)]
  rfl
theorem ext23 : (signs.extract 2 3).data.toList = [45] := by
  rw [ByteArray.data_extract]
  rfl
theorem ext33 : (signs.extract 3 3).data.toList = [] := by
  rw [ByteArray.data_extract]
  rfl
theorem index_nil (b : UInt8) : Lib.indexByte [] b = -1 := rfl
set_option maxHeartbeats 4000000 in
set_option maxRecDepth 100000 in
theorem indexRune_w2 (r : Int) (h0 : 128 ≤ r) (h1 : r < 2048) (w : World) : Calls Tryd.prog 133 #[.string signs, .int .i32 r] w fun e w' => e = .returned (.int .i64 (-1)) ∧ Below w.heap.size w w' := by
  obtain ⟨a, b, he, hb⟩ := enc_w2 r h0 h1
  have vr : Lib.validRune r = true := by unfold Lib.validRune; simp; omega
  have C : ∀ W, Calls Tryd.prog 61 #[.int .i32 r] W fun e w' => e = .returned (.bool true) ∧ w' = W := fun W => by have := sh_utf8_ValidRune r W; rw [vr] at this; exact this
  have I : ∀ (t : ByteArray) (x : Int) W, t.data.toList = [45] → x = (b.toNat : Int) → Calls Tryd.prog 143 #[.string t, .int .u8 x] W fun e w' => e = .returned (.int .i64 (-1)) ∧ w' = W := fun t x W ht hx => by
    have := sh_strings_IndexByte t x W
    rw [hx, show ((b.toNat : Int)).toNat.toUInt8 = b by simp, ht, index_one b hb, ← hx] at this
    exact this
  have n1 : ∀ (p1 : 1 < signs.size) (p2 : 1 < (⟨#[a, b]⟩ : ByteArray).size), (((signs[1]'p1).toNat : Int) != (((⟨#[a, b]⟩ : ByteArray)[1]'p2).toNat : Int)) = true := by
    intro p1 p2
    show ((95 : Int) != (b.toNat : Int)) = true
    simp; omega
  have r2 : IntKind.i64.wrap 2 = 2 := by decide
  have g1 : ¬ (r < 128) := by omega
  have g2 : (r == 65533) = false := by simp; omega
  have mixed : Tryd.prog.follows .mixedOrders = true := by kernel_rfl
  clear vr
  go_enter Tryd.func133, Tryd.ntmps133
  go_wp2_with (first | (go_at_call 61; (with_reducible refine (C _).mono ?_); rintro e w' ⟨rfl, rfl⟩))
  go_step3
  go_wp2
  refine wp_loop_rounds 1 ?_
  rw [rounds_succ]
  go_wp2
  go_step3
  go_wp2_with fail
  go_big_region_o
  have B1 := below_drew1 (Below.refl w'.heap.size w')
  generalize World.drew w' = w1 at B1 ⊢
  go_wp2_with fail
  go_quiet (first | (go_at_call 143; refine Calls.quiet_of_same (I _ _ _ ext23 ?_); rfl))
  go_wp2
  rw [Exit.noGoto_ret]
  try go_wp2
  try rw [Exit.noGoto_ret]
  go_ret
  exact ⟨rfl, pw_below_drewN B1 nq⟩
set_option maxHeartbeats 4000000 in
set_option maxRecDepth 100000 in
theorem indexRune_w3 (r : Int) (h0 : 2048 ≤ r) (h1 : r < 65536) (hs : r < 55296 ∨ 57344 ≤ r) (hn : r ≠ 65533) (w : World) : Calls Tryd.prog 133 #[.string signs, .int .i32 r] w fun e w' => e = .returned (.int .i64 (-1)) ∧ Below w.heap.size w w' := by
  have v : Utf8.valid r = true := by unfold Utf8.valid; simp; omega
  obtain ⟨a, b, c, he, hb⟩ := enc_w3 r h0 h1 v
  have vr : Lib.validRune r = true := by unfold Lib.validRune; simp; omega
  have C : ∀ W, Calls Tryd.prog 61 #[.int .i32 r] W fun e w' => e = .returned (.bool true) ∧ w' = W := fun W => by have := sh_utf8_ValidRune r W; rw [vr] at this; exact this
  have I : ∀ (t : ByteArray) (x : Int) W, t.data.toList = [] → x = (c.toNat : Int) → Calls Tryd.prog 143 #[.string t, .int .u8 x] W fun e w' => e = .returned (.int .i64 (-1)) ∧ w' = W := fun t x W ht hx => by
    have := sh_strings_IndexByte t x W
    rw [hx, show ((c.toNat : Int)).toNat.toUInt8 = c by simp, ht, index_nil c, ← hx] at this
    exact this
  have n1 : ∀ (p1 : 2 < signs.size) (p2 : 2 < (⟨#[a, b, c]⟩ : ByteArray).size), (((signs[2]'p1).toNat : Int) != (((⟨#[a, b, c]⟩ : ByteArray)[2]'p2).toNat : Int)) = true := by
    intro p1 p2
    show ((45 : Int) != (c.toNat : Int)) = true
    simp; omega
  have r2 : IntKind.i64.wrap 3 = 3 := by decide
  have g1 : ¬ (r < 128) := by omega
  have g2 : (r == 65533) = false := by simp; omega
  have mixed : Tryd.prog.follows .mixedOrders = true := by kernel_rfl
  clear vr
  go_enter Tryd.func133, Tryd.ntmps133
  go_wp2_with (first | (go_at_call 61; (with_reducible refine (C _).mono ?_); rintro e w' ⟨rfl, rfl⟩))
  go_step3
  go_wp2
  refine wp_loop_rounds 1 ?_
  rw [rounds_succ]
  go_wp2
  go_step3
  go_wp2_with fail
  go_big_region_o
  have B1 := below_drew1 (Below.refl w'.heap.size w')
  generalize World.drew w' = w1 at B1 ⊢
  go_wp2_with fail
  go_quiet (first | (go_at_call 143; refine Calls.quiet_of_same (I _ _ _ ext33 ?_); rfl))
  go_wp2
  rw [Exit.noGoto_ret]
  try go_wp2
  try rw [Exit.noGoto_ret]
  go_ret
  exact ⟨rfl, pw_below_drewN B1 nq⟩
set_option maxHeartbeats 4000000 in
set_option maxRecDepth 100000 in
theorem indexRune_w4 (r : Int) (h0 : 65536 ≤ r) (h1 : r ≤ 1114111) (w : World) : Calls Tryd.prog 133 #[.string signs, .int .i32 r] w fun e w' => e = .returned (.int .i64 (-1)) ∧ Below w.heap.size w w' := by
  have v : Utf8.valid r = true := by unfold Utf8.valid; simp; omega
  obtain ⟨a, b, c, d, he⟩ := enc_w4 r h0 v
  have vr : Lib.validRune r = true := by unfold Lib.validRune; simp; omega
  have C : ∀ W, Calls Tryd.prog 61 #[.int .i32 r] W fun e w' => e = .returned (.bool true) ∧ w' = W := fun W => by have := sh_utf8_ValidRune r W; rw [vr] at this; exact this
  have g1 : ¬ (r < 128) := by omega
  have g2 : (r == 65533) = false := by simp; omega
  have mixed : Tryd.prog.follows .mixedOrders = true := by kernel_rfl
  clear vr
  go_enter Tryd.func133, Tryd.ntmps133
  go_wp2_with (first | (go_at_call 61; (with_reducible refine (C _).mono ?_); rintro e w' ⟨rfl, rfl⟩))
  go_step3
  go_wp2
  refine wp_loop_rounds 1 ?_
  rw [rounds_succ]
  go_wp2
  rw [Exit.noGoto_ret]
  try go_wp2
  try rw [Exit.noGoto_ret]
  go_ret
  exact ⟨rfl, Below.refl _ _⟩
end Go.Proofs.YtpkjpiphjdpegaaDoor.P
namespace Go.Proofs.YtpkjpiphjdpegaaDoor.P
open Go.RowKit Go.Proofs.YtpkjpiphjdpegaaDoorW.PrintWords Go.Proofs.YtpkjpiphjdpegaaDoorW.PrintLast Go.Proofs.YtpkjpiphjdpegaaDoorW.PrintMore
set_option linter.unusedVariables false
set_option linter.unusedSimpArgs false
def withinR (c : Int) : Bool := decide (97 ≤ c ∧ c ≤ 122 ∨ 65 ≤ c ∧ c ≤ 90 ∨ 48 ≤ c ∧ c ≤ 57 ∨ c = 46 ∨ c = 95 ∨ c = 45 ∨ 161 ≤ c)
def mayId (s : ByteArray) : Bool := Lib.validD s.data.toList && (runesAt s s.size 0).all withinR && decide (1 ≤ (runesAt s s.size 0).length ∧ (runesAt s s.size 0).length ≤ 24)
def tag_MayId.f (a0 : ByteArray) : Option Bool := if a0.size ≤ 1000000000 then some (mayId a0) else none
theorem count_is (s : ByteArray) : ∀ n p, Lib.runeCountFrom s n p = (runesAt s n p).length
  | 0, p => rfl
  | n + 1, p => by
    rw [Lib.runeCountFrom, runesAt]
    by_cases h : p < s.size
    · rw [if_pos h, if_pos h, List.length_cons, count_is s n]; omega
    · rw [if_neg h, if_neg h]; rfl
theorem dec_signs (p : Nat) (h : p < 3) : ((Utf8.decode signs p).1 : Int) ≠ 65533 ∧ (Utf8.decode signs p).2 = 1 := by
  match p, h with
  | 0, _ => decide
  | 1, _ => decide
  | 2, _ => decide
set_option maxHeartbeats 4000000 in
set_option maxRecDepth 100000 in
theorem indexRune_fffd (w : World) : Calls Tryd.prog 133 #[.string signs, .int .i32 65533] w fun e w' => e = .returned (.int .i64 (-1)) ∧ Below w.heap.size w w' := by
  go_enter Tryd.func133, Tryd.ntmps133
  go_wp2
  go_loopg [5, 6] 3 (fun gk v5 v6 wr => ∃ p : Nat, p + gk = 3 ∧ wr.heap[w.heap.size]? = some (.stringIter signs p) ∧ Aside0 (Below w.heap.size w wr))
  case atStart => exact ⟨0, rfl, World.iter_heap w signs 0, ⟨below_alloc (Below.refl _ _) _⟩⟩
  case round =>
    obtain ⟨p, hg, hit, HB⟩ := hrel
    have hwib : w.heap.size ≤ w.heap.size := Nat.le_refl _
    have sz : signs.size = 3 := rfl
    by_cases hp : p < signs.size
    · have hnx : ∀ ty, (Instr.next (.pointer (some ⟨w.heap.size, 0, none⟩)) true ty).run Tryd.prog wr = _ := fun ty => Lib.run_next_any_at wr w.heap.size signs p ty hit hp
      obtain ⟨d1, d2⟩ := dec_signs p (by omega)
      rw [d2] at hnx
      have dn : (((Utf8.decode signs p).1 : Int) == 65533) = false := by simpa using d1
      obtain ⟨W2, hW2⟩ : ∃ W2, wr.iterAt w.heap.size signs (p + 1) = W2 := ⟨_, rfl⟩
      have HB2 : Aside0 (Below w.heap.size w W2) := ⟨by rw [← hW2]; exact Lib.below_iterAt HB.out hwib signs _⟩
      have hit2 : W2.heap[w.heap.size]? = some (.stringIter signs (p + 1)) := by rw [← hW2]; exact Lib.iterAt_heap wr w.heap.size signs p _ hit
      rw [hW2] at hnx
      clear d1 d2 hit
      go_wp2
      go_roundg (3 - (p + 1))
      case measure => omega
      case rel => exact ⟨p + 1, by omega, hit2, HB2⟩
    · have hnx : ∀ ty, (Instr.next (.pointer (some ⟨w.heap.size, 0, none⟩)) true ty).run Tryd.prog wr = _ := fun ty => Lib.run_next_end_at wr w.heap.size signs p ty hit hp
      go_wp2
      go_ret
      exact ⟨rfl, HB.out⟩
set_option maxHeartbeats 4000000 in
set_option maxRecDepth 100000 in
theorem indexRune_sur (r : Int) (h0 : 55296 ≤ r) (h1 : r < 57344) (w : World) : Calls Tryd.prog 133 #[.string signs, .int .i32 r] w fun e w' => e = .returned (.int .i64 (-1)) ∧ Below w.heap.size w w' := by
  have vr : Lib.validRune r = false := by unfold Lib.validRune; simp; omega
  have C : ∀ W, Calls Tryd.prog 61 #[.int .i32 r] W fun e w' => e = .returned (.bool false) ∧ w' = W := fun W => by have := sh_utf8_ValidRune r W; rw [vr] at this; exact this
  have g1 : ¬ (r < 128) := by omega
  have g2 : (r == 65533) = false := by simp; omega
  clear vr
  go_enter Tryd.func133, Tryd.ntmps133
  go_wp2_with (first | (go_at_call 61; (with_reducible refine (C _).mono ?_); rintro e w' ⟨rfl, rfl⟩))
  go_ret
  exact ⟨rfl, Below.refl _ _⟩
theorem indexRune_high (r : Int) (h0 : 128 ≤ r) (h1 : r ≤ 1114111) (w : World) : Calls Tryd.prog 133 #[.string signs, .int .i32 r] w fun e w' => e = .returned (.int .i64 (-1)) ∧ Below w.heap.size w w' := by
  by_cases c1 : r < 2048
  · exact indexRune_w2 r h0 c1 w
  · by_cases c2 : 55296 ≤ r ∧ r < 57344
    · exact indexRune_sur r c2.1 c2.2 w
    · by_cases c3 : r = 65533
      · rw [c3]; exact indexRune_fffd w
      · by_cases c4 : r < 65536
        · exact indexRune_w3 r (by omega) c4 (by omega) c3 w
        · exact indexRune_w4 r (by omega) h1 w
def sign (r : Int) : Bool := decide (r = 46 ∨ r = 95 ∨ r = 45)
theorem sign_ascii (r : Int) (h0 : 0 ≤ r) (h1 : r < 128) : decide (0 ≤ Lib.indexByte signs.data.toList r.toNat.toUInt8) = sign r := by
  rw [← Lib.contains_iff_indexByte]
  unfold sign
  rw [Bool.eq_iff_iff, decide_eq_true_eq]
  show (([46, 95, 45] : List UInt8).contains r.toNat.toUInt8 = true) ↔ _
  have e : ∀ k : Nat, k < 128 → ((r.toNat.toUInt8 = k.toUInt8) ↔ r = (k : Int)) := fun k hk => by
    constructor
    · intro h
      have := congrArg UInt8.toNat h
      simp only [Nat.toUInt8, UInt8.toNat_ofNat'] at this
      omega
    · intro h; rw [h]; rfl
  have e1 := e 46 (by omega)
  have e2 := e 95 (by omega)
  have e3 := e 45 (by omega)
  rw [List.contains_iff_mem]
  simp only [List.mem_cons, List.not_mem_nil, or_false]
  exact or_congr e1 (or_congr e2 e3)
set_option maxHeartbeats 4000000 in
set_option maxRecDepth 100000 in
theorem contains_is (r : Int) (h0 : 0 ≤ r) (h1 : r ≤ 1114111) (w : World) : Calls Tryd.prog 119 #[.string signs, .int .i32 r] w fun e w' => e = .returned (.bool (sign r)) ∧ Below w.heap.size w w' := by
  by_cases c : r < 128
  · have := sh_strings_ContainsRune_ascii signs r w h0 c
    rw [sign_ascii r h0 c] at this
    exact this.mono fun e w' ⟨he, hw⟩ => ⟨he, by rw [hw]; exact Below.refl _ _⟩
  · have hs : sign r = false := by unfold sign; rw [decide_eq_false]; omega
    rw [hs]
    have C := indexRune_high r (by omega) h1
    go_enter Tryd.func119, Tryd.ntmps119
    go_wp2_with (first | (go_at_call 133; (with_reducible refine (C _).mono ?_); rintro e w' ⟨rfl, hb⟩))
    go_ret
    exact ⟨by simp, hb⟩
set_option maxHeartbeats 4000000 in
set_option maxRecDepth 100000 in
theorem within_is (r : Int) (h0 : 0 ≤ r) (h1 : r ≤ 1114111) (w : World) : Calls Tryd.prog 90 #[.int .i32 r] w fun e w' => e = .returned (.bool (withinR r)) ∧ Below w.heap.size w w' := by
  have C := contains_is r h0 h1
  obtain ⟨b, hb⟩ : ∃ b, sign r = b := ⟨_, rfl⟩
  rw [hb] at C
  obtain ⟨v, hv⟩ : ∃ v, withinR r = v := ⟨_, rfl⟩
  rw [hv]
  have V := hv
  unfold withinR at V
  unfold sign at hb
  by_cases a1 : 97 ≤ r
  · by_cases a2 : r ≤ 122
    · have e : v = true := by rw [← V]; simp; omega
      subst e
      clear V hb hv
      go_enter Tryd.func90, Tryd.ntmps90
      go_wp2
      go_ret
      exact ⟨by simp, Below.refl _ _⟩
    · have q1 : ¬ r ≤ 90 := by omega
      have q2 : ¬ r ≤ 57 := by omega
      have q3 : 65 ≤ r := by omega
      have q4 : 48 ≤ r := by omega
      have eb : b = false := by rw [← hb]; simp; omega
      have e : v = decide (161 ≤ r) := by rw [← V, decide_eq_decide]; omega
      subst eb e
      clear V hb hv
      go_enter Tryd.func90, Tryd.ntmps90
      go_wp2_with (first | (go_at_call 119; (with_reducible refine (C _).mono ?_); rintro e w' ⟨rfl, hb⟩))
      go_ret
      exact ⟨by simp, hb⟩
  · by_cases a3 : 65 ≤ r
    · have q4 : 48 ≤ r := by omega
      by_cases a4 : r ≤ 90
      · have e : v = true := by rw [← V]; simp; omega
        subst e
        clear V hb hv
        go_enter Tryd.func90, Tryd.ntmps90
        go_wp2
        go_ret
        exact ⟨by simp, Below.refl _ _⟩
      · have q2 : ¬ r ≤ 57 := by omega
        have q5 : ¬ 161 ≤ r := by omega
        have e : v = b := by rw [← V, ← hb, decide_eq_decide]; omega
        subst e
        clear V hb hv
        go_enter Tryd.func90, Tryd.ntmps90
        cases v
        all_goals
          go_wp2_with (first | (go_at_call 119; (with_reducible refine (C _).mono ?_); rintro e w' ⟨rfl, hb⟩))
          go_ret
          exact ⟨by first | (simp; done) | (simp; omega), hb⟩
    · have q5 : ¬ 161 ≤ r := by omega
      by_cases a5 : 48 ≤ r
      · by_cases a6 : r ≤ 57
        · have e : v = true := by rw [← V]; simp; omega
          subst e
          clear V hb hv
          go_enter Tryd.func90, Tryd.ntmps90
          go_wp2
          go_ret
          exact ⟨by simp, Below.refl _ _⟩
        · have e : v = b := by rw [← V, ← hb, decide_eq_decide]; omega
          subst e
          clear V hb hv
          go_enter Tryd.func90, Tryd.ntmps90
          cases v
          all_goals
            go_wp2_with (first | (go_at_call 119; (with_reducible refine (C _).mono ?_); rintro e w' ⟨rfl, hb⟩))
            go_ret
            exact ⟨by first | (simp; done) | (simp; omega), hb⟩
      · have e : v = b := by rw [← V, ← hb, decide_eq_decide]; omega
        subst e
        clear V hb hv
        go_enter Tryd.func90, Tryd.ntmps90
        cases v
        all_goals
          go_wp2_with (first | (go_at_call 119; (with_reducible refine (C _).mono ?_); rintro e w' ⟨rfl, hb⟩))
          go_ret
          exact ⟨by first | (simp; done) | (simp; omega), hb⟩
set_option maxHeartbeats 4000000 in
set_option maxRecDepth 100000 in
theorem tag_MayId.calls (a0 : ByteArray) (r : Bool) (w : World) (hG : GT w) (h : tag_MayId.f a0 = some r) :
    Calls Tryd.prog 51 #[.string a0] w fun e w' => e = .returned (.bool r) ∧ Below w.heap.size w w' := by
  have hs : a0.size ≤ 1000000000 := by
    unfold tag_MayId.f at h
    split at h
    · assumption
    · cases h
  unfold tag_MayId.f at h
  rw [if_pos hs] at h
  have h' := Option.some.inj h
  clear h
  obtain ⟨n, hn⟩ : ∃ n, (runesAt a0 a0.size 0).length = n := ⟨_, rfl⟩
  have N : ∀ W, Calls Tryd.prog 89 #[.string a0] W fun e w' => e = .returned (.int .i64 (n : Int)) ∧ Below W.heap.size W w' := fun W => by
    refine (sh_utf8_RuneCountInString a0 W (by omega)).mono ?_
    rintro e w' ⟨he, pos, rfl⟩
    refine ⟨?_, below_alloc (Below.refl _ _) _⟩
    rw [he]
    unfold Lib.runeCount
    rw [count_is, hn]
  have V : ∀ W, Below w.heap.size w W → Calls Tryd.prog 58 #[.string a0] W fun e w' => e = .returned (.bool (Lib.validD a0.data.toList)) ∧ Below W.heap.size W w' := fun W hb => valid_is a0 W (by omega) (gt_below hG hb)
  unfold mayId at h'
  rw [hn] at h'
  by_cases c1 : (n : Int) < 1
  · have e : r = false := by rw [← h', decide_eq_false (show ¬ (1 ≤ n ∧ n ≤ 24) by omega), Bool.and_false]
    subst e
    clear h' V hn
    go_enter Tryd.func51, Tryd.ntmps51
    go_wp2_with (first | (go_at_call 89; (with_reducible refine (N _).mono ?_); rintro e w1 ⟨rfl, hb1⟩))
    go_ret
    exact ⟨rfl, hb1⟩
  · by_cases c2 : (24 : Int) < (n : Int)
    · have e : r = false := by rw [← h', decide_eq_false (show ¬ (1 ≤ n ∧ n ≤ 24) by omega), Bool.and_false]
      subst e
      clear h' V hn
      go_enter Tryd.func51, Tryd.ntmps51
      go_wp2_with (first | (go_at_call 89; (with_reducible refine (N _).mono ?_); rintro e w1 ⟨rfl, hb1⟩))
      go_ret
      exact ⟨rfl, hb1⟩
    · rw [decide_eq_true (show 1 ≤ n ∧ n ≤ 24 by omega), Bool.and_true] at h'
      by_cases v : Lib.validD a0.data.toList = true
      · rw [v, Bool.true_and] at h'
        rw [v] at V
        clear v
        go_enter Tryd.func51, Tryd.ntmps51
        go_wp2_with (first | (go_at_call 89; (with_reducible refine (N _).mono ?_); rintro e w1 ⟨rfl, hb1⟩) | (go_at_call 58; (with_reducible refine (V _ hb1).mono ?_); rintro e w2 ⟨rfl, hb2⟩; have hb3 := below_step hb1 hb2))
        have hwib : w.heap.size ≤ w2.heap.size := hb3.size
        go_loopg [5] a0.size (fun gk v5 wr => ∃ p : Nat, Aside0 ((runesAt a0 gk p).all withinR = r ∧ a0.size ≤ p + gk) ∧ wr.heap[w2.heap.size]? = some (.stringIter a0 p) ∧ Aside0 (Below w.heap.size w wr))
        case atStart => exact ⟨0, ⟨h', by omega⟩, World.iter_heap w2 a0 0, ⟨below_alloc hb3 _⟩⟩
        case round =>
          obtain ⟨p, HX, hit, HB⟩ := hrel
          by_cases hp : p < a0.size
          · have hnx : ∀ ty, (Instr.next (.pointer (some ⟨w2.heap.size, 0, none⟩)) true ty).run Tryd.prog wr = _ := fun ty => Lib.run_next_any_at wr w2.heap.size a0 p ty hit hp
            have hwd := wide_pos a0 p hp
            have hrl := Lib.rune_le a0 p
            obtain ⟨k1, rfl⟩ : ∃ k1, gk = k1 + 1 := ⟨gk - 1, by have := HX.out.2; omega⟩
            obtain ⟨W2, hW2⟩ : ∃ W2, wr.iterAt w2.heap.size a0 (p + (Utf8.decode a0 p).2) = W2 := ⟨_, rfl⟩
            have HB2 : Aside0 (Below w.heap.size w W2) := ⟨by rw [← hW2]; exact Lib.below_iterAt HB.out hwib a0 _⟩
            have hit2 : W2.heap[w2.heap.size]? = some (.stringIter a0 (p + (Utf8.decode a0 p).2)) := by rw [← hW2]; exact Lib.iterAt_heap wr w2.heap.size a0 p _ hit
            rw [hW2] at hnx
            have X := HX.out.1
            rw [runesAt, if_pos hp, List.all_cons] at X
            obtain ⟨cr, hcr⟩ : ∃ cr : Nat, (Utf8.decode a0 p).1 = cr := ⟨_, rfl⟩
            obtain ⟨cw, hcw⟩ : ∃ cw : Nat, (Utf8.decode a0 p).2 = cw := ⟨_, rfl⟩
            rw [hcr] at hnx hrl X
            rw [hcw] at hwd hit2 X
            have C := within_is (cr : Int) (by omega) (by omega)
            by_cases q : withinR (cr : Int) = true
            · rw [q] at C
              rw [q, Bool.true_and] at X
              have X' := Aside0.mk X
              clear X h' N V hcr hcw hit
              go_wp2_with (first | (go_at_call 90; (with_reducible refine (C _).mono ?_); rintro e w4 ⟨rfl, hb4⟩; have HB4 := Aside0.mk (below_step HB2.out hb4); have hit4 := (hb4.block w2.heap.size (Array.getElem?_eq_some_iff.1 hit2).1).trans hit2))
              go_roundg k1
              case measure => omega
              case rel => exact ⟨p + cw, ⟨X'.out, by have := HX.out.2; omega⟩, hit4, HB4⟩
            · have q : withinR (cr : Int) = false := by simpa using q
              rw [q] at C
              rw [q, Bool.false_and] at X
              subst X
              clear h' N V hcr hcw hit
              go_wp2_with (first | (go_at_call 90; (with_reducible refine (C _).mono ?_); rintro e w4 ⟨rfl, hb4⟩; have HB4 := Aside0.mk (below_step HB2.out hb4)))
              go_ret
              exact ⟨rfl, HB4.out⟩
          · have hnx : ∀ ty, (Instr.next (.pointer (some ⟨w2.heap.size, 0, none⟩)) true ty).run Tryd.prog wr = _ := fun ty => Lib.run_next_end_at wr w2.heap.size a0 p ty hit hp
            have X := HX.out.1
            rw [runesAt_end a0 gk p hp] at X
            subst X
            clear h' N V
            go_wp2
            go_ret
            exact ⟨rfl, HB.out⟩
      · have v : Lib.validD a0.data.toList = false := by simpa using v
        rw [v, Bool.false_and] at h'
        subst h'
        rw [v] at V
        clear v
        go_enter Tryd.func51, Tryd.ntmps51
        go_wp2_with (first | (go_at_call 89; (with_reducible refine (N _).mono ?_); rintro e w1 ⟨rfl, hb1⟩) | (go_at_call 58; (with_reducible refine (V _ hb1).mono ?_); rintro e w2 ⟨rfl, hb2⟩; have hb3 := below_step hb1 hb2))
        go_ret
        exact ⟨rfl, hb3⟩
end Go.Proofs.YtpkjpiphjdpegaaDoor.P
namespace Go.Proofs.YtpkjpiphjdpegaaDoor.P
open Go.RowKit Go.Proofs.YtpkjpiphjdpegaaDoorW.PrintWords Go.Proofs.YtpkjpiphjdpegaaDoorW.PrintLast Go.Proofs.YtpkjpiphjdpegaaDoorW.PrintMore
attribute [local go_sem] max2_int min2_int max_two min_two max_three min_three max_four min_four
set_option linter.unusedVariables false
set_option linter.unusedSimpArgs false
def row_Parse.f (a0 : ByteArray) : Option (ByteArray × Int × Int × Int) := (strings_Cut.f a0 (⟨#[32]⟩ : ByteArray)).bind fun bt366 => ((decimal_Parse.f bt366.2.1).bind fun bt369 => (if bt366.2.2 = true then ((tag_MayId.f bt366.1).bind fun t373 => (if t373 = true then (if bt369.2.2 = 0 then (some (bt366.1, bt369.1, bt369.2.1, 0)) else (some ((⟨#[]⟩ : ByteArray), 0, 0, 102))) else (some ((⟨#[]⟩ : ByteArray), 0, 0, 101)))) else (some ((⟨#[]⟩ : ByteArray), 0, 0, 100))))
set_option maxHeartbeats 8000000 in
set_option maxRecDepth 100000 in
theorem row_Parse.calls (a0 : ByteArray) (r1 : ByteArray) (r2 : Int) (r3 : Int) (r4 : Int) (w : World) (hG : GT w) (h : row_Parse.f a0 = some (r1, r2, r3, r4)) :
    Calls Tryd.prog 47 #[.string a0] w fun e w' => e = .returned (.tuple #[.agg #[.string r1, .int .u64 r2, .int .u64 r3], .int .i64 r4]) ∧ Below w.heap.size w w' := by
  have hu44 := Tryd.underlying44
  have hu42 := Tryd.underlying42
  have HB := Aside0.mk (Below.refl w.heap.size w)
  have H : ((strings_Cut.f a0 (⟨#[32]⟩ : ByteArray)).bind fun bt366 => ((decimal_Parse.f bt366.2.1).bind fun bt369 => (if bt366.2.2 = true then ((tag_MayId.f bt366.1).bind fun t373 => (if t373 = true then (if bt369.2.2 = 0 then (some (bt366.1, bt369.1, bt369.2.1, 0)) else (some ((⟨#[]⟩ : ByteArray), 0, 0, 102))) else (some ((⟨#[]⟩ : ByteArray), 0, 0, 101)))) else (some ((⟨#[]⟩ : ByteArray), 0, 0, 100))))) = some (r1, r2, r3, r4) := h
  clear h
  replace H := Option.bind_eq_some_iff.mp H
  obtain ⟨⟨t366, t367, t368⟩, A20, H⟩ := H
  replace H : ((decimal_Parse.f t367).bind fun bt369 => (if t368 = true then ((tag_MayId.f t366).bind fun t373 => (if t373 = true then (if bt369.2.2 = 0 then (some (t366, bt369.1, bt369.2.1, 0)) else (some ((⟨#[]⟩ : ByteArray), 0, 0, 102))) else (some ((⟨#[]⟩ : ByteArray), 0, 0, 101)))) else (some ((⟨#[]⟩ : ByteArray), 0, 0, 100)))) = some (r1, r2, r3, r4) := H
  have A2 := Aside0.mk A20
  clear A20
  replace H := Option.bind_eq_some_iff.mp H
  obtain ⟨⟨t369, t370, t371⟩, A30, H⟩ := H
  replace H : (if t368 = true then ((tag_MayId.f t366).bind fun t373 => (if t373 = true then (if t371 = 0 then (some (t366, t369, t370, 0)) else (some ((⟨#[]⟩ : ByteArray), 0, 0, 102))) else (some ((⟨#[]⟩ : ByteArray), 0, 0, 101)))) else (some ((⟨#[]⟩ : ByteArray), 0, 0, 100))) = some (r1, r2, r3, r4) := H
  have A3 := Aside0.mk A30
  clear A30
  by_cases c4 : t368 = true
  · subst c4
    have H1 : ((tag_MayId.f t366).bind fun t373 => (if t373 = true then (if t371 = 0 then (some (t366, t369, t370, 0)) else (some ((⟨#[]⟩ : ByteArray), 0, 0, 102))) else (some ((⟨#[]⟩ : ByteArray), 0, 0, 101)))) = some (r1, r2, r3, r4) := by rw [if_pos rfl] at H; exact H
    clear H
    have H := H1
    clear H1
    replace H := Option.bind_eq_some_iff.mp H
    obtain ⟨t373, A50, H⟩ := H
    replace H : (if t373 = true then (if t371 = 0 then (some (t366, t369, t370, 0)) else (some ((⟨#[]⟩ : ByteArray), 0, 0, 102))) else (some ((⟨#[]⟩ : ByteArray), 0, 0, 101))) = some (r1, r2, r3, r4) := H
    have A5 := Aside0.mk A50
    clear A50
    by_cases c6 : t373 = true
    · subst c6
      have H1 : (if t371 = 0 then (some (t366, t369, t370, 0)) else (some ((⟨#[]⟩ : ByteArray), 0, 0, 102))) = some (r1, r2, r3, r4) := by rw [if_pos rfl] at H; exact H
      clear H
      have H := H1
      clear H1
      by_cases c7 : t371 = 0
      · rw [if_pos c7] at H
        have c7b0 : (t371 == 0) = true := beq_iff_eq.mpr c7
        have c7b1 : (t371 != 0) = false := bne_eq_false_iff_eq.mpr c7
        clear c7
        simp only [Option.some.injEq, Prod.mk.injEq] at H
        obtain ⟨rfl, rfl, rfl, rfl⟩ := H
        go_enter Tryd.func47, Tryd.ntmps47
        go_wp2_with (first | ((with_reducible refine gate_dst (N := 2) rfl ?_); refine box_event ?hg (N := 2) ?hd (cs := #[.string (⟨#[]⟩ : ByteArray), .int .u64 0, .int .u64 0]) (t := 44) ?hr ?_; (case hd => rfl); (case hg => rfl); (case hr => first | (go_simp; done) | (go_simp; rfl)); intro gb365 hg w8 hbox hb; have n0_ := Aside0.mk (below_step (by repeat (first | (with_reducible first | exact HB.out | apply below_alloc | apply pw_below_drewN | apply below_drew1) | exact HB.out)) hb); have n1_ := Aside0.mk (hbox); have n2_ := Aside0.mk ((by rw [hg]; exact (below_size (by repeat (first | (with_reducible first | exact HB.out | apply below_alloc | apply pw_below_drewN | apply below_drew1) | exact HB.out))) : w.heap.size ≤ gb365)); have n3_ := Aside0.mk ((by rw [hg]; exact (below_size (by repeat (first | (with_reducible first | exact HB.out | apply below_alloc | apply pw_below_drewN | apply below_drew1) | exact HB.out))) : w.heap.size ≤ gb365)); clear HB; have HB := n0_; have BK365 := n1_; have GW365 := n2_; have GE365 := n3_; clear n0_ n1_ n2_ n3_; clear hb hbox hg) | ((with_reducible refine gate_callee (f := 74) rfl ?_); refine goesL_ (some 11) rfl rfl Tryd.func74 (by kernel_rfl) rfl #[.string a0, .string (⟨#[32]⟩ : ByteArray)] rfl (by (try simp only [List.map_toArray, List.map_cons, List.map_nil]); first | done | rfl | (simp only [List.length_drop, List.length_take]; rfl)) ?_; (with_reducible refine (strings_Cut.calls a0 (⟨#[32]⟩ : ByteArray) t366 t367 true _ A2.out).mono ?_); rintro e w9 ⟨rfl, hb⟩; refine ⟨_, rfl, ?_⟩; have n0_ := Aside0.mk (blk_below (g := gb365) (o := .cells #[.string (⟨#[]⟩ : ByteArray), .int .u64 0, .int .u64 0] 44 (0, 0)) (by (with_reducible repeat (first | refine blk_drewN ?_ _ | refine blk_drew ?_ | refine blk_alloc ?_ _)); exact BK365.out) hb); have n1_ := Aside0.mk (below_step (by repeat (first | (with_reducible first | exact HB.out | apply below_alloc | apply pw_below_drewN | apply below_drew1 | refine below_set ?_ GE365.out) | exact HB.out)) hb); clear BK365; clear HB; have BK365 := n0_; have HB := n1_; clear n0_ n1_; (try clear hb); (try clear hb2); (try clear hk); (try clear hi)) | ((with_reducible refine gate_callee (f := 84) rfl ?_); refine goesL_ (some 17) rfl rfl Tryd.func84 (by kernel_rfl) rfl #[.string t367] rfl (by (try simp only [List.map_toArray, List.map_cons, List.map_nil]); first | done | rfl | (simp only [List.length_drop, List.length_take]; rfl)) ?_; (with_reducible refine (decimal_Parse.calls t367 t369 t370 t371 _ A3.out).mono ?_); rintro e w10 ⟨rfl, hb⟩; refine ⟨_, rfl, ?_⟩; have n0_ := Aside0.mk (blk_below (g := gb365) (o := .cells #[.string (⟨#[]⟩ : ByteArray), .int .u64 0, .int .u64 0] 44 (0, 0)) (by (with_reducible repeat (first | refine blk_drewN ?_ _ | refine blk_drew ?_ | refine blk_alloc ?_ _)); exact BK365.out) hb); have n1_ := Aside0.mk (below_step (by repeat (first | (with_reducible first | exact HB.out | apply below_alloc | apply pw_below_drewN | apply below_drew1 | refine below_set ?_ GE365.out) | exact HB.out)) hb); clear BK365; clear HB; have BK365 := n0_; have HB := n1_; clear n0_ n1_; (try clear hb); (try clear hb2); (try clear hk); (try clear hi)) | ((with_reducible refine gate_dst (N := 7) rfl ?_); refine box_event ?hg (N := 7) ?hd (cs := #[.int .u64 0, .int .u64 0]) (t := 42) ?hr ?_; (case hd => rfl); (case hg => rfl); (case hr => first | (go_simp; done) | (go_simp; rfl)); intro gb372 hg w11 hbox hb; have n0_ := Aside0.mk (blk_below (g := gb365) (o := .cells #[.string (⟨#[]⟩ : ByteArray), .int .u64 0, .int .u64 0] 44 (0, 0)) (by (with_reducible repeat (first | refine blk_drewN ?_ _ | refine blk_drew ?_ | refine blk_alloc ?_ _)); exact BK365.out) hb); have n1_ := Aside0.mk (below_step (by repeat (first | (with_reducible first | exact HB.out | apply below_alloc | apply pw_below_drewN | apply below_drew1 | refine below_set ?_ GE365.out) | exact HB.out)) hb); have n2_ := Aside0.mk (hbox); have n3_ := Aside0.mk ((by rw [hg]; exact (below_size (by repeat (first | (with_reducible first | exact HB.out | apply below_alloc | apply pw_below_drewN | apply below_drew1 | refine below_set ?_ GE365.out) | exact HB.out))) : w.heap.size ≤ gb372)); have n4_ := Aside0.mk ((by rw [hg]; exact (below_size (by repeat (first | (with_reducible first | exact HB.out | apply below_alloc | apply pw_below_drewN | apply below_drew1 | refine below_set ?_ GE365.out) | exact HB.out))) : w.heap.size ≤ gb372)); have n5_ := Aside0.mk ((by rw [hg]; exact Nat.ne_of_lt (blk_lt (g := gb365) (o := .cells #[.string (⟨#[]⟩ : ByteArray), .int .u64 0, .int .u64 0] 44 (0, 0)) (by (with_reducible repeat (first | refine blk_drewN ?_ _ | refine blk_drew ?_ | refine blk_alloc ?_ _)); exact BK365.out)) : gb365 ≠ gb372)); have n6_ := Aside0.mk ((by rw [hg]; exact Nat.ne_of_gt (blk_lt (g := gb365) (o := .cells #[.string (⟨#[]⟩ : ByteArray), .int .u64 0, .int .u64 0] 44 (0, 0)) (by (with_reducible repeat (first | refine blk_drewN ?_ _ | refine blk_drew ?_ | refine blk_alloc ?_ _)); exact BK365.out)) : gb372 ≠ gb365)); clear BK365; clear HB; have BK365 := n0_; have HB := n1_; have BK372 := n2_; have GW372 := n3_; have GE372 := n4_; have NB365_372 := n5_; have NB372_365 := n6_; clear n0_ n1_ n2_ n3_ n4_ n5_ n6_; clear hb hbox hg; have hnb12 := NB372_365.out; have hnc12 := NB365_372.out; have hcz13_0 : w11.cell? ⟨gb372, 0, none⟩ = some (.int .u64 0) := (blk_cell BK372.out 0).trans rfl; have hcz13_1 : w11.cell? ⟨gb372, 1, none⟩ = some (.int .u64 0) := (blk_cell BK372.out 1).trans rfl; have hfz13_0 := blk_frozen BK372.out 0; have hfz13_1 := blk_frozen BK372.out 1) | ((with_reducible refine gate_callee (f := 51) rfl ?_); refine goesL_ (some 26) rfl rfl Tryd.func51 (by kernel_rfl) rfl #[.string t366] rfl (by (try simp only [List.map_toArray, List.map_cons, List.map_nil]); first | done | rfl | (simp only [List.length_drop, List.length_take]; rfl)) ?_; (with_reducible refine (tag_MayId.calls t366 true _ ?side1 A5.out).mono ?_); (case side1 => exact gt_below hG (by repeat (first | (with_reducible first | exact HB.out | apply below_alloc | apply pw_below_drewN | apply below_drew1 | refine below_set ?_ GE365.out | refine below_set ?_ GE372.out) | exact HB.out))); rintro e w14 ⟨rfl, hb⟩; refine ⟨_, rfl, ?_⟩; have n0_ := Aside0.mk (blk_below (g := gb365) (o := .cells #[.string (⟨#[]⟩ : ByteArray), .int .u64 0, .int .u64 0] 44 (0, 0)) (by (with_reducible repeat (first | refine blk_drewN ?_ _ | refine blk_drew ?_ | refine blk_alloc ?_ _)); refine blk_far ?_ NB365_372.out _; (with_reducible repeat (first | refine blk_drewN ?_ _ | refine blk_drew ?_ | refine blk_alloc ?_ _)); refine blk_far ?_ NB365_372.out _; (with_reducible repeat (first | refine blk_drewN ?_ _ | refine blk_drew ?_ | refine blk_alloc ?_ _)); exact BK365.out) hb); have n1_ := Aside0.mk (blk_below (g := gb372) (o := .cells #[.int .u64 t369, .int .u64 t370] 42 (0, 0)) (by (with_reducible repeat (first | refine blk_drewN ?_ _ | refine blk_drew ?_ | refine blk_alloc ?_ _)); refine blk_put (cs := #[.int .u64 t369, .int .u64 0]) ?_ 1 _ rfl; (with_reducible repeat (first | refine blk_drewN ?_ _ | refine blk_drew ?_ | refine blk_alloc ?_ _)); refine blk_put (cs := #[.int .u64 0, .int .u64 0]) ?_ 0 _ rfl; (with_reducible repeat (first | refine blk_drewN ?_ _ | refine blk_drew ?_ | refine blk_alloc ?_ _)); exact BK372.out) hb); have n2_ := Aside0.mk (below_step (by repeat (first | (with_reducible first | exact HB.out | apply below_alloc | apply pw_below_drewN | apply below_drew1 | refine below_set ?_ GE365.out | refine below_set ?_ GE372.out) | exact HB.out)) hb); clear BK365; clear BK372; clear HB; have BK365 := n0_; have BK372 := n1_; have HB := n2_; clear n0_ n1_ n2_; (try clear hb); (try clear hb2); (try clear hk); (try clear hi); have hcz15_0 : w14.cell? ⟨gb372, 0, none⟩ = some (.int .u64 t369) := (blk_cell BK372.out 0).trans rfl; have hcz15_1 : w14.cell? ⟨gb372, 1, none⟩ = some (.int .u64 t370) := (blk_cell BK372.out 1).trans rfl; have hfz15_0 := blk_frozen BK372.out 0; have hfz15_1 := blk_frozen BK372.out 1; have hcz16_0 : w14.cell? ⟨gb365, 0, none⟩ = some (.string (⟨#[]⟩ : ByteArray)) := (blk_cell BK365.out 0).trans rfl; have hcz16_1 : w14.cell? ⟨gb365, 1, none⟩ = some (.int .u64 0) := (blk_cell BK365.out 1).trans rfl; have hcz16_2 : w14.cell? ⟨gb365, 2, none⟩ = some (.int .u64 0) := (blk_cell BK365.out 2).trans rfl; have hfz16_0 := blk_frozen BK365.out 0; have hfz16_1 := blk_frozen BK365.out 1; have hfz16_2 := blk_frozen BK365.out 2))
        refine bodyPost_ret (results_ct rfl _ _ gb365 44 #[.string t366, .int .u64 t369, .int .u64 t370] (0, 0) _ rfl (by (with_reducible repeat (first | refine blk_drewN ?_ _ | refine blk_drew ?_ | refine blk_alloc ?_ _)); refine blk_put (cs := #[.string t366, .int .u64 t369, .int .u64 0]) ?_ 2 _ rfl; (with_reducible repeat (first | refine blk_drewN ?_ _ | refine blk_drew ?_ | refine blk_alloc ?_ _)); refine blk_put (cs := #[.string t366, .int .u64 0, .int .u64 0]) ?_ 1 _ rfl; (with_reducible repeat (first | refine blk_drewN ?_ _ | refine blk_drew ?_ | refine blk_alloc ?_ _)); refine blk_put (cs := #[.string (⟨#[]⟩ : ByteArray), .int .u64 0, .int .u64 0]) ?_ 0 _ rfl; (with_reducible repeat (first | refine blk_drewN ?_ _ | refine blk_drew ?_ | refine blk_alloc ?_ _)); exact BK365.out) Tryd.underlying44 rfl (by kernel_rfl)) rfl ?_
        exact ⟨by first | rfl | (simp [errW_none, errW_some] <;> rfl) | (simp [*, errW_none, errW_some] <;> rfl), by repeat (first | (with_reducible first | exact HB.out | apply below_alloc | apply pw_below_drewN | apply below_drew1 | refine below_set ?_ GE365.out | refine below_set ?_ GE372.out) | exact HB.out)⟩
      · rw [if_neg c7] at H
        have c7b0 : (t371 == 0) = false := beq_eq_false_iff_ne.mpr c7
        have c7b1 : (t371 != 0) = true := bne_iff_ne.mpr c7
        simp only [Option.some.injEq, Prod.mk.injEq] at H
        obtain ⟨rfl, rfl, rfl, rfl⟩ := H
        go_enter Tryd.func47, Tryd.ntmps47
        go_wp2_with (first | ((with_reducible refine gate_dst (N := 2) rfl ?_); refine box_event ?hg (N := 2) ?hd (cs := #[.string (⟨#[]⟩ : ByteArray), .int .u64 0, .int .u64 0]) (t := 44) ?hr ?_; (case hd => rfl); (case hg => rfl); (case hr => first | (go_simp; done) | (go_simp; rfl)); intro gb365 hg w17 hbox hb; have n0_ := Aside0.mk (below_step (by repeat (first | (with_reducible first | exact HB.out | apply below_alloc | apply pw_below_drewN | apply below_drew1) | exact HB.out)) hb); have n1_ := Aside0.mk (hbox); have n2_ := Aside0.mk ((by rw [hg]; exact (below_size (by repeat (first | (with_reducible first | exact HB.out | apply below_alloc | apply pw_below_drewN | apply below_drew1) | exact HB.out))) : w.heap.size ≤ gb365)); have n3_ := Aside0.mk ((by rw [hg]; exact (below_size (by repeat (first | (with_reducible first | exact HB.out | apply below_alloc | apply pw_below_drewN | apply below_drew1) | exact HB.out))) : w.heap.size ≤ gb365)); clear HB; have HB := n0_; have BK365 := n1_; have GW365 := n2_; have GE365 := n3_; clear n0_ n1_ n2_ n3_; clear hb hbox hg) | ((with_reducible refine gate_callee (f := 74) rfl ?_); refine goesL_ (some 11) rfl rfl Tryd.func74 (by kernel_rfl) rfl #[.string a0, .string (⟨#[32]⟩ : ByteArray)] rfl (by (try simp only [List.map_toArray, List.map_cons, List.map_nil]); first | done | rfl | (simp only [List.length_drop, List.length_take]; rfl)) ?_; (with_reducible refine (strings_Cut.calls a0 (⟨#[32]⟩ : ByteArray) t366 t367 true _ A2.out).mono ?_); rintro e w18 ⟨rfl, hb⟩; refine ⟨_, rfl, ?_⟩; have n0_ := Aside0.mk (blk_below (g := gb365) (o := .cells #[.string (⟨#[]⟩ : ByteArray), .int .u64 0, .int .u64 0] 44 (0, 0)) (by (with_reducible repeat (first | refine blk_drewN ?_ _ | refine blk_drew ?_ | refine blk_alloc ?_ _)); exact BK365.out) hb); have n1_ := Aside0.mk (below_step (by repeat (first | (with_reducible first | exact HB.out | apply below_alloc | apply pw_below_drewN | apply below_drew1 | refine below_set ?_ GE365.out) | exact HB.out)) hb); clear BK365; clear HB; have BK365 := n0_; have HB := n1_; clear n0_ n1_; (try clear hb); (try clear hb2); (try clear hk); (try clear hi)) | ((with_reducible refine gate_callee (f := 84) rfl ?_); refine goesL_ (some 17) rfl rfl Tryd.func84 (by kernel_rfl) rfl #[.string t367] rfl (by (try simp only [List.map_toArray, List.map_cons, List.map_nil]); first | done | rfl | (simp only [List.length_drop, List.length_take]; rfl)) ?_; (with_reducible refine (decimal_Parse.calls t367 t369 t370 t371 _ A3.out).mono ?_); rintro e w19 ⟨rfl, hb⟩; refine ⟨_, rfl, ?_⟩; have n0_ := Aside0.mk (blk_below (g := gb365) (o := .cells #[.string (⟨#[]⟩ : ByteArray), .int .u64 0, .int .u64 0] 44 (0, 0)) (by (with_reducible repeat (first | refine blk_drewN ?_ _ | refine blk_drew ?_ | refine blk_alloc ?_ _)); exact BK365.out) hb); have n1_ := Aside0.mk (below_step (by repeat (first | (with_reducible first | exact HB.out | apply below_alloc | apply pw_below_drewN | apply below_drew1 | refine below_set ?_ GE365.out) | exact HB.out)) hb); clear BK365; clear HB; have BK365 := n0_; have HB := n1_; clear n0_ n1_; (try clear hb); (try clear hb2); (try clear hk); (try clear hi)) | ((with_reducible refine gate_dst (N := 7) rfl ?_); refine box_event ?hg (N := 7) ?hd (cs := #[.int .u64 0, .int .u64 0]) (t := 42) ?hr ?_; (case hd => rfl); (case hg => rfl); (case hr => first | (go_simp; done) | (go_simp; rfl)); intro gb372 hg w20 hbox hb; have n0_ := Aside0.mk (blk_below (g := gb365) (o := .cells #[.string (⟨#[]⟩ : ByteArray), .int .u64 0, .int .u64 0] 44 (0, 0)) (by (with_reducible repeat (first | refine blk_drewN ?_ _ | refine blk_drew ?_ | refine blk_alloc ?_ _)); exact BK365.out) hb); have n1_ := Aside0.mk (below_step (by repeat (first | (with_reducible first | exact HB.out | apply below_alloc | apply pw_below_drewN | apply below_drew1 | refine below_set ?_ GE365.out) | exact HB.out)) hb); have n2_ := Aside0.mk (hbox); have n3_ := Aside0.mk ((by rw [hg]; exact (below_size (by repeat (first | (with_reducible first | exact HB.out | apply below_alloc | apply pw_below_drewN | apply below_drew1 | refine below_set ?_ GE365.out) | exact HB.out))) : w.heap.size ≤ gb372)); have n4_ := Aside0.mk ((by rw [hg]; exact (below_size (by repeat (first | (with_reducible first | exact HB.out | apply below_alloc | apply pw_below_drewN | apply below_drew1 | refine below_set ?_ GE365.out) | exact HB.out))) : w.heap.size ≤ gb372)); have n5_ := Aside0.mk ((by rw [hg]; exact Nat.ne_of_lt (blk_lt (g := gb365) (o := .cells #[.string (⟨#[]⟩ : ByteArray), .int .u64 0, .int .u64 0] 44 (0, 0)) (by (with_reducible repeat (first | refine blk_drewN ?_ _ | refine blk_drew ?_ | refine blk_alloc ?_ _)); exact BK365.out)) : gb365 ≠ gb372)); have n6_ := Aside0.mk ((by rw [hg]; exact Nat.ne_of_gt (blk_lt (g := gb365) (o := .cells #[.string (⟨#[]⟩ : ByteArray), .int .u64 0, .int .u64 0] 44 (0, 0)) (by (with_reducible repeat (first | refine blk_drewN ?_ _ | refine blk_drew ?_ | refine blk_alloc ?_ _)); exact BK365.out)) : gb372 ≠ gb365)); clear BK365; clear HB; have BK365 := n0_; have HB := n1_; have BK372 := n2_; have GW372 := n3_; have GE372 := n4_; have NB365_372 := n5_; have NB372_365 := n6_; clear n0_ n1_ n2_ n3_ n4_ n5_ n6_; clear hb hbox hg; have hnb21 := NB372_365.out; have hnc21 := NB365_372.out; have hcz22_0 : w20.cell? ⟨gb372, 0, none⟩ = some (.int .u64 0) := (blk_cell BK372.out 0).trans rfl; have hcz22_1 : w20.cell? ⟨gb372, 1, none⟩ = some (.int .u64 0) := (blk_cell BK372.out 1).trans rfl; have hfz22_0 := blk_frozen BK372.out 0; have hfz22_1 := blk_frozen BK372.out 1) | ((with_reducible refine gate_callee (f := 51) rfl ?_); refine goesL_ (some 26) rfl rfl Tryd.func51 (by kernel_rfl) rfl #[.string t366] rfl (by (try simp only [List.map_toArray, List.map_cons, List.map_nil]); first | done | rfl | (simp only [List.length_drop, List.length_take]; rfl)) ?_; (with_reducible refine (tag_MayId.calls t366 true _ ?side1 A5.out).mono ?_); (case side1 => exact gt_below hG (by repeat (first | (with_reducible first | exact HB.out | apply below_alloc | apply pw_below_drewN | apply below_drew1 | refine below_set ?_ GE365.out | refine below_set ?_ GE372.out) | exact HB.out))); rintro e w23 ⟨rfl, hb⟩; refine ⟨_, rfl, ?_⟩; have n0_ := Aside0.mk (blk_below (g := gb365) (o := .cells #[.string (⟨#[]⟩ : ByteArray), .int .u64 0, .int .u64 0] 44 (0, 0)) (by (with_reducible repeat (first | refine blk_drewN ?_ _ | refine blk_drew ?_ | refine blk_alloc ?_ _)); refine blk_far ?_ NB365_372.out _; (with_reducible repeat (first | refine blk_drewN ?_ _ | refine blk_drew ?_ | refine blk_alloc ?_ _)); refine blk_far ?_ NB365_372.out _; (with_reducible repeat (first | refine blk_drewN ?_ _ | refine blk_drew ?_ | refine blk_alloc ?_ _)); exact BK365.out) hb); have n1_ := Aside0.mk (blk_below (g := gb372) (o := .cells #[.int .u64 t369, .int .u64 t370] 42 (0, 0)) (by (with_reducible repeat (first | refine blk_drewN ?_ _ | refine blk_drew ?_ | refine blk_alloc ?_ _)); refine blk_put (cs := #[.int .u64 t369, .int .u64 0]) ?_ 1 _ rfl; (with_reducible repeat (first | refine blk_drewN ?_ _ | refine blk_drew ?_ | refine blk_alloc ?_ _)); refine blk_put (cs := #[.int .u64 0, .int .u64 0]) ?_ 0 _ rfl; (with_reducible repeat (first | refine blk_drewN ?_ _ | refine blk_drew ?_ | refine blk_alloc ?_ _)); exact BK372.out) hb); have n2_ := Aside0.mk (below_step (by repeat (first | (with_reducible first | exact HB.out | apply below_alloc | apply pw_below_drewN | apply below_drew1 | refine below_set ?_ GE365.out | refine below_set ?_ GE372.out) | exact HB.out)) hb); clear BK365; clear BK372; clear HB; have BK365 := n0_; have BK372 := n1_; have HB := n2_; clear n0_ n1_ n2_; (try clear hb); (try clear hb2); (try clear hk); (try clear hi); have hcz24_0 : w23.cell? ⟨gb365, 0, none⟩ = some (.string (⟨#[]⟩ : ByteArray)) := (blk_cell BK365.out 0).trans rfl; have hcz24_1 : w23.cell? ⟨gb365, 1, none⟩ = some (.int .u64 0) := (blk_cell BK365.out 1).trans rfl; have hcz24_2 : w23.cell? ⟨gb365, 2, none⟩ = some (.int .u64 0) := (blk_cell BK365.out 2).trans rfl; have hfz24_0 := blk_frozen BK365.out 0; have hfz24_1 := blk_frozen BK365.out 1; have hfz24_2 := blk_frozen BK365.out 2))
        refine bodyPost_ret (results_ct rfl _ _ gb365 44 #[.string (⟨#[]⟩ : ByteArray), .int .u64 0, .int .u64 0] (0, 0) _ rfl (by (with_reducible repeat (first | refine blk_drewN ?_ _ | refine blk_drew ?_ | refine blk_alloc ?_ _)); refine blk_put (cs := #[.string (⟨#[]⟩ : ByteArray), .int .u64 0, .int .u64 0]) ?_ 2 _ rfl; (with_reducible repeat (first | refine blk_drewN ?_ _ | refine blk_drew ?_ | refine blk_alloc ?_ _)); refine blk_put (cs := #[.string (⟨#[]⟩ : ByteArray), .int .u64 0, .int .u64 0]) ?_ 1 _ rfl; (with_reducible repeat (first | refine blk_drewN ?_ _ | refine blk_drew ?_ | refine blk_alloc ?_ _)); refine blk_put (cs := #[.string (⟨#[]⟩ : ByteArray), .int .u64 0, .int .u64 0]) ?_ 0 _ rfl; (with_reducible repeat (first | refine blk_drewN ?_ _ | refine blk_drew ?_ | refine blk_alloc ?_ _)); exact BK365.out) Tryd.underlying44 rfl (by kernel_rfl)) rfl ?_
        exact ⟨by first | rfl | (simp [errW_none, errW_some] <;> rfl) | (simp [*, errW_none, errW_some] <;> rfl), by repeat (first | (with_reducible first | exact HB.out | apply below_alloc | apply pw_below_drewN | apply below_drew1 | refine below_set ?_ GE365.out | refine below_set ?_ GE372.out) | exact HB.out)⟩
    · replace c6 := Bool.eq_false_iff.mpr c6
      subst c6
      have H1 : (some ((⟨#[]⟩ : ByteArray), 0, 0, 101)) = some (r1, r2, r3, r4) := by rw [if_neg (show ¬ (false = true) by decide)] at H; exact H
      clear H
      have H := H1
      clear H1
      simp only [Option.some.injEq, Prod.mk.injEq] at H
      obtain ⟨rfl, rfl, rfl, rfl⟩ := H
      go_enter Tryd.func47, Tryd.ntmps47
      go_wp2_with (first | ((with_reducible refine gate_dst (N := 2) rfl ?_); refine box_event ?hg (N := 2) ?hd (cs := #[.string (⟨#[]⟩ : ByteArray), .int .u64 0, .int .u64 0]) (t := 44) ?hr ?_; (case hd => rfl); (case hg => rfl); (case hr => first | (go_simp; done) | (go_simp; rfl)); intro gb365 hg w25 hbox hb; have n0_ := Aside0.mk (below_step (by repeat (first | (with_reducible first | exact HB.out | apply below_alloc | apply pw_below_drewN | apply below_drew1) | exact HB.out)) hb); have n1_ := Aside0.mk (hbox); have n2_ := Aside0.mk ((by rw [hg]; exact (below_size (by repeat (first | (with_reducible first | exact HB.out | apply below_alloc | apply pw_below_drewN | apply below_drew1) | exact HB.out))) : w.heap.size ≤ gb365)); have n3_ := Aside0.mk ((by rw [hg]; exact (below_size (by repeat (first | (with_reducible first | exact HB.out | apply below_alloc | apply pw_below_drewN | apply below_drew1) | exact HB.out))) : w.heap.size ≤ gb365)); clear HB; have HB := n0_; have BK365 := n1_; have GW365 := n2_; have GE365 := n3_; clear n0_ n1_ n2_ n3_; clear hb hbox hg) | ((with_reducible refine gate_callee (f := 74) rfl ?_); refine goesL_ (some 11) rfl rfl Tryd.func74 (by kernel_rfl) rfl #[.string a0, .string (⟨#[32]⟩ : ByteArray)] rfl (by (try simp only [List.map_toArray, List.map_cons, List.map_nil]); first | done | rfl | (simp only [List.length_drop, List.length_take]; rfl)) ?_; (with_reducible refine (strings_Cut.calls a0 (⟨#[32]⟩ : ByteArray) t366 t367 true _ A2.out).mono ?_); rintro e w26 ⟨rfl, hb⟩; refine ⟨_, rfl, ?_⟩; have n0_ := Aside0.mk (blk_below (g := gb365) (o := .cells #[.string (⟨#[]⟩ : ByteArray), .int .u64 0, .int .u64 0] 44 (0, 0)) (by (with_reducible repeat (first | refine blk_drewN ?_ _ | refine blk_drew ?_ | refine blk_alloc ?_ _)); exact BK365.out) hb); have n1_ := Aside0.mk (below_step (by repeat (first | (with_reducible first | exact HB.out | apply below_alloc | apply pw_below_drewN | apply below_drew1 | refine below_set ?_ GE365.out) | exact HB.out)) hb); clear BK365; clear HB; have BK365 := n0_; have HB := n1_; clear n0_ n1_; (try clear hb); (try clear hb2); (try clear hk); (try clear hi)) | ((with_reducible refine gate_callee (f := 84) rfl ?_); refine goesL_ (some 17) rfl rfl Tryd.func84 (by kernel_rfl) rfl #[.string t367] rfl (by (try simp only [List.map_toArray, List.map_cons, List.map_nil]); first | done | rfl | (simp only [List.length_drop, List.length_take]; rfl)) ?_; (with_reducible refine (decimal_Parse.calls t367 t369 t370 t371 _ A3.out).mono ?_); rintro e w27 ⟨rfl, hb⟩; refine ⟨_, rfl, ?_⟩; have n0_ := Aside0.mk (blk_below (g := gb365) (o := .cells #[.string (⟨#[]⟩ : ByteArray), .int .u64 0, .int .u64 0] 44 (0, 0)) (by (with_reducible repeat (first | refine blk_drewN ?_ _ | refine blk_drew ?_ | refine blk_alloc ?_ _)); exact BK365.out) hb); have n1_ := Aside0.mk (below_step (by repeat (first | (with_reducible first | exact HB.out | apply below_alloc | apply pw_below_drewN | apply below_drew1 | refine below_set ?_ GE365.out) | exact HB.out)) hb); clear BK365; clear HB; have BK365 := n0_; have HB := n1_; clear n0_ n1_; (try clear hb); (try clear hb2); (try clear hk); (try clear hi)) | ((with_reducible refine gate_dst (N := 7) rfl ?_); refine box_event ?hg (N := 7) ?hd (cs := #[.int .u64 0, .int .u64 0]) (t := 42) ?hr ?_; (case hd => rfl); (case hg => rfl); (case hr => first | (go_simp; done) | (go_simp; rfl)); intro gb372 hg w28 hbox hb; have n0_ := Aside0.mk (blk_below (g := gb365) (o := .cells #[.string (⟨#[]⟩ : ByteArray), .int .u64 0, .int .u64 0] 44 (0, 0)) (by (with_reducible repeat (first | refine blk_drewN ?_ _ | refine blk_drew ?_ | refine blk_alloc ?_ _)); exact BK365.out) hb); have n1_ := Aside0.mk (below_step (by repeat (first | (with_reducible first | exact HB.out | apply below_alloc | apply pw_below_drewN | apply below_drew1 | refine below_set ?_ GE365.out) | exact HB.out)) hb); have n2_ := Aside0.mk (hbox); have n3_ := Aside0.mk ((by rw [hg]; exact (below_size (by repeat (first | (with_reducible first | exact HB.out | apply below_alloc | apply pw_below_drewN | apply below_drew1 | refine below_set ?_ GE365.out) | exact HB.out))) : w.heap.size ≤ gb372)); have n4_ := Aside0.mk ((by rw [hg]; exact (below_size (by repeat (first | (with_reducible first | exact HB.out | apply below_alloc | apply pw_below_drewN | apply below_drew1 | refine below_set ?_ GE365.out) | exact HB.out))) : w.heap.size ≤ gb372)); have n5_ := Aside0.mk ((by rw [hg]; exact Nat.ne_of_lt (blk_lt (g := gb365) (o := .cells #[.string (⟨#[]⟩ : ByteArray), .int .u64 0, .int .u64 0] 44 (0, 0)) (by (with_reducible repeat (first | refine blk_drewN ?_ _ | refine blk_drew ?_ | refine blk_alloc ?_ _)); exact BK365.out)) : gb365 ≠ gb372)); have n6_ := Aside0.mk ((by rw [hg]; exact Nat.ne_of_gt (blk_lt (g := gb365) (o := .cells #[.string (⟨#[]⟩ : ByteArray), .int .u64 0, .int .u64 0] 44 (0, 0)) (by (with_reducible repeat (first | refine blk_drewN ?_ _ | refine blk_drew ?_ | refine blk_alloc ?_ _)); exact BK365.out)) : gb372 ≠ gb365)); clear BK365; clear HB; have BK365 := n0_; have HB := n1_; have BK372 := n2_; have GW372 := n3_; have GE372 := n4_; have NB365_372 := n5_; have NB372_365 := n6_; clear n0_ n1_ n2_ n3_ n4_ n5_ n6_; clear hb hbox hg; have hnb29 := NB372_365.out; have hnc29 := NB365_372.out; have hcz30_0 : w28.cell? ⟨gb372, 0, none⟩ = some (.int .u64 0) := (blk_cell BK372.out 0).trans rfl; have hcz30_1 : w28.cell? ⟨gb372, 1, none⟩ = some (.int .u64 0) := (blk_cell BK372.out 1).trans rfl; have hfz30_0 := blk_frozen BK372.out 0; have hfz30_1 := blk_frozen BK372.out 1) | ((with_reducible refine gate_callee (f := 51) rfl ?_); refine goesL_ (some 26) rfl rfl Tryd.func51 (by kernel_rfl) rfl #[.string t366] rfl (by (try simp only [List.map_toArray, List.map_cons, List.map_nil]); first | done | rfl | (simp only [List.length_drop, List.length_take]; rfl)) ?_; (with_reducible refine (tag_MayId.calls t366 false _ ?side1 A5.out).mono ?_); (case side1 => exact gt_below hG (by repeat (first | (with_reducible first | exact HB.out | apply below_alloc | apply pw_below_drewN | apply below_drew1 | refine below_set ?_ GE365.out | refine below_set ?_ GE372.out) | exact HB.out))); rintro e w31 ⟨rfl, hb⟩; refine ⟨_, rfl, ?_⟩; have n0_ := Aside0.mk (blk_below (g := gb365) (o := .cells #[.string (⟨#[]⟩ : ByteArray), .int .u64 0, .int .u64 0] 44 (0, 0)) (by (with_reducible repeat (first | refine blk_drewN ?_ _ | refine blk_drew ?_ | refine blk_alloc ?_ _)); refine blk_far ?_ NB365_372.out _; (with_reducible repeat (first | refine blk_drewN ?_ _ | refine blk_drew ?_ | refine blk_alloc ?_ _)); refine blk_far ?_ NB365_372.out _; (with_reducible repeat (first | refine blk_drewN ?_ _ | refine blk_drew ?_ | refine blk_alloc ?_ _)); exact BK365.out) hb); have n1_ := Aside0.mk (blk_below (g := gb372) (o := .cells #[.int .u64 t369, .int .u64 t370] 42 (0, 0)) (by (with_reducible repeat (first | refine blk_drewN ?_ _ | refine blk_drew ?_ | refine blk_alloc ?_ _)); refine blk_put (cs := #[.int .u64 t369, .int .u64 0]) ?_ 1 _ rfl; (with_reducible repeat (first | refine blk_drewN ?_ _ | refine blk_drew ?_ | refine blk_alloc ?_ _)); refine blk_put (cs := #[.int .u64 0, .int .u64 0]) ?_ 0 _ rfl; (with_reducible repeat (first | refine blk_drewN ?_ _ | refine blk_drew ?_ | refine blk_alloc ?_ _)); exact BK372.out) hb); have n2_ := Aside0.mk (below_step (by repeat (first | (with_reducible first | exact HB.out | apply below_alloc | apply pw_below_drewN | apply below_drew1 | refine below_set ?_ GE365.out | refine below_set ?_ GE372.out) | exact HB.out)) hb); clear BK365; clear BK372; clear HB; have BK365 := n0_; have BK372 := n1_; have HB := n2_; clear n0_ n1_ n2_; (try clear hb); (try clear hb2); (try clear hk); (try clear hi); have hcz32_0 : w31.cell? ⟨gb365, 0, none⟩ = some (.string (⟨#[]⟩ : ByteArray)) := (blk_cell BK365.out 0).trans rfl; have hcz32_1 : w31.cell? ⟨gb365, 1, none⟩ = some (.int .u64 0) := (blk_cell BK365.out 1).trans rfl; have hcz32_2 : w31.cell? ⟨gb365, 2, none⟩ = some (.int .u64 0) := (blk_cell BK365.out 2).trans rfl; have hfz32_0 := blk_frozen BK365.out 0; have hfz32_1 := blk_frozen BK365.out 1; have hfz32_2 := blk_frozen BK365.out 2))
      refine bodyPost_ret (results_ct rfl _ _ gb365 44 #[.string (⟨#[]⟩ : ByteArray), .int .u64 0, .int .u64 0] (0, 0) _ rfl (by (with_reducible repeat (first | refine blk_drewN ?_ _ | refine blk_drew ?_ | refine blk_alloc ?_ _)); refine blk_put (cs := #[.string (⟨#[]⟩ : ByteArray), .int .u64 0, .int .u64 0]) ?_ 2 _ rfl; (with_reducible repeat (first | refine blk_drewN ?_ _ | refine blk_drew ?_ | refine blk_alloc ?_ _)); refine blk_put (cs := #[.string (⟨#[]⟩ : ByteArray), .int .u64 0, .int .u64 0]) ?_ 1 _ rfl; (with_reducible repeat (first | refine blk_drewN ?_ _ | refine blk_drew ?_ | refine blk_alloc ?_ _)); refine blk_put (cs := #[.string (⟨#[]⟩ : ByteArray), .int .u64 0, .int .u64 0]) ?_ 0 _ rfl; (with_reducible repeat (first | refine blk_drewN ?_ _ | refine blk_drew ?_ | refine blk_alloc ?_ _)); exact BK365.out) Tryd.underlying44 rfl (by kernel_rfl)) rfl ?_
      exact ⟨by first | rfl | (simp [errW_none, errW_some] <;> rfl) | (simp [*, errW_none, errW_some] <;> rfl), by repeat (first | (with_reducible first | exact HB.out | apply below_alloc | apply pw_below_drewN | apply below_drew1 | refine below_set ?_ GE365.out | refine below_set ?_ GE372.out) | exact HB.out)⟩
  · replace c4 := Bool.eq_false_iff.mpr c4
    subst c4
    have H1 : (some ((⟨#[]⟩ : ByteArray), 0, 0, 100)) = some (r1, r2, r3, r4) := by rw [if_neg (show ¬ (false = true) by decide)] at H; exact H
    clear H
    have H := H1
    clear H1
    simp only [Option.some.injEq, Prod.mk.injEq] at H
    obtain ⟨rfl, rfl, rfl, rfl⟩ := H
    go_enter Tryd.func47, Tryd.ntmps47
    go_wp2_with (first | ((with_reducible refine gate_dst (N := 2) rfl ?_); refine box_event ?hg (N := 2) ?hd (cs := #[.string (⟨#[]⟩ : ByteArray), .int .u64 0, .int .u64 0]) (t := 44) ?hr ?_; (case hd => rfl); (case hg => rfl); (case hr => first | (go_simp; done) | (go_simp; rfl)); intro gb365 hg w33 hbox hb; have n0_ := Aside0.mk (below_step (by repeat (first | (with_reducible first | exact HB.out | apply below_alloc | apply pw_below_drewN | apply below_drew1) | exact HB.out)) hb); have n1_ := Aside0.mk (hbox); have n2_ := Aside0.mk ((by rw [hg]; exact (below_size (by repeat (first | (with_reducible first | exact HB.out | apply below_alloc | apply pw_below_drewN | apply below_drew1) | exact HB.out))) : w.heap.size ≤ gb365)); have n3_ := Aside0.mk ((by rw [hg]; exact (below_size (by repeat (first | (with_reducible first | exact HB.out | apply below_alloc | apply pw_below_drewN | apply below_drew1) | exact HB.out))) : w.heap.size ≤ gb365)); clear HB; have HB := n0_; have BK365 := n1_; have GW365 := n2_; have GE365 := n3_; clear n0_ n1_ n2_ n3_; clear hb hbox hg) | ((with_reducible refine gate_callee (f := 74) rfl ?_); refine goesL_ (some 11) rfl rfl Tryd.func74 (by kernel_rfl) rfl #[.string a0, .string (⟨#[32]⟩ : ByteArray)] rfl (by (try simp only [List.map_toArray, List.map_cons, List.map_nil]); first | done | rfl | (simp only [List.length_drop, List.length_take]; rfl)) ?_; (with_reducible refine (strings_Cut.calls a0 (⟨#[32]⟩ : ByteArray) t366 t367 false _ A2.out).mono ?_); rintro e w34 ⟨rfl, hb⟩; refine ⟨_, rfl, ?_⟩; have n0_ := Aside0.mk (blk_below (g := gb365) (o := .cells #[.string (⟨#[]⟩ : ByteArray), .int .u64 0, .int .u64 0] 44 (0, 0)) (by (with_reducible repeat (first | refine blk_drewN ?_ _ | refine blk_drew ?_ | refine blk_alloc ?_ _)); exact BK365.out) hb); have n1_ := Aside0.mk (below_step (by repeat (first | (with_reducible first | exact HB.out | apply below_alloc | apply pw_below_drewN | apply below_drew1 | refine below_set ?_ GE365.out) | exact HB.out)) hb); clear BK365; clear HB; have BK365 := n0_; have HB := n1_; clear n0_ n1_; (try clear hb); (try clear hb2); (try clear hk); (try clear hi)) | ((with_reducible refine gate_callee (f := 84) rfl ?_); refine goesL_ (some 17) rfl rfl Tryd.func84 (by kernel_rfl) rfl #[.string t367] rfl (by (try simp only [List.map_toArray, List.map_cons, List.map_nil]); first | done | rfl | (simp only [List.length_drop, List.length_take]; rfl)) ?_; (with_reducible refine (decimal_Parse.calls t367 t369 t370 t371 _ A3.out).mono ?_); rintro e w35 ⟨rfl, hb⟩; refine ⟨_, rfl, ?_⟩; have n0_ := Aside0.mk (blk_below (g := gb365) (o := .cells #[.string (⟨#[]⟩ : ByteArray), .int .u64 0, .int .u64 0] 44 (0, 0)) (by (with_reducible repeat (first | refine blk_drewN ?_ _ | refine blk_drew ?_ | refine blk_alloc ?_ _)); exact BK365.out) hb); have n1_ := Aside0.mk (below_step (by repeat (first | (with_reducible first | exact HB.out | apply below_alloc | apply pw_below_drewN | apply below_drew1 | refine below_set ?_ GE365.out) | exact HB.out)) hb); clear BK365; clear HB; have BK365 := n0_; have HB := n1_; clear n0_ n1_; (try clear hb); (try clear hb2); (try clear hk); (try clear hi)) | ((with_reducible refine gate_dst (N := 7) rfl ?_); refine box_event ?hg (N := 7) ?hd (cs := #[.int .u64 0, .int .u64 0]) (t := 42) ?hr ?_; (case hd => rfl); (case hg => rfl); (case hr => first | (go_simp; done) | (go_simp; rfl)); intro gb372 hg w36 hbox hb; have n0_ := Aside0.mk (blk_below (g := gb365) (o := .cells #[.string (⟨#[]⟩ : ByteArray), .int .u64 0, .int .u64 0] 44 (0, 0)) (by (with_reducible repeat (first | refine blk_drewN ?_ _ | refine blk_drew ?_ | refine blk_alloc ?_ _)); exact BK365.out) hb); have n1_ := Aside0.mk (below_step (by repeat (first | (with_reducible first | exact HB.out | apply below_alloc | apply pw_below_drewN | apply below_drew1 | refine below_set ?_ GE365.out) | exact HB.out)) hb); have n2_ := Aside0.mk (hbox); have n3_ := Aside0.mk ((by rw [hg]; exact (below_size (by repeat (first | (with_reducible first | exact HB.out | apply below_alloc | apply pw_below_drewN | apply below_drew1 | refine below_set ?_ GE365.out) | exact HB.out))) : w.heap.size ≤ gb372)); have n4_ := Aside0.mk ((by rw [hg]; exact (below_size (by repeat (first | (with_reducible first | exact HB.out | apply below_alloc | apply pw_below_drewN | apply below_drew1 | refine below_set ?_ GE365.out) | exact HB.out))) : w.heap.size ≤ gb372)); have n5_ := Aside0.mk ((by rw [hg]; exact Nat.ne_of_lt (blk_lt (g := gb365) (o := .cells #[.string (⟨#[]⟩ : ByteArray), .int .u64 0, .int .u64 0] 44 (0, 0)) (by (with_reducible repeat (first | refine blk_drewN ?_ _ | refine blk_drew ?_ | refine blk_alloc ?_ _)); exact BK365.out)) : gb365 ≠ gb372)); have n6_ := Aside0.mk ((by rw [hg]; exact Nat.ne_of_gt (blk_lt (g := gb365) (o := .cells #[.string (⟨#[]⟩ : ByteArray), .int .u64 0, .int .u64 0] 44 (0, 0)) (by (with_reducible repeat (first | refine blk_drewN ?_ _ | refine blk_drew ?_ | refine blk_alloc ?_ _)); exact BK365.out)) : gb372 ≠ gb365)); clear BK365; clear HB; have BK365 := n0_; have HB := n1_; have BK372 := n2_; have GW372 := n3_; have GE372 := n4_; have NB365_372 := n5_; have NB372_365 := n6_; clear n0_ n1_ n2_ n3_ n4_ n5_ n6_; clear hb hbox hg; have hnb37 := NB372_365.out; have hnc37 := NB365_372.out; have hcz38_0 : w36.cell? ⟨gb372, 0, none⟩ = some (.int .u64 0) := (blk_cell BK372.out 0).trans rfl; have hcz38_1 : w36.cell? ⟨gb372, 1, none⟩ = some (.int .u64 0) := (blk_cell BK372.out 1).trans rfl; have hfz38_0 := blk_frozen BK372.out 0; have hfz38_1 := blk_frozen BK372.out 1; have hcz39_0 : w36.cell? ⟨gb365, 0, none⟩ = some (.string (⟨#[]⟩ : ByteArray)) := (blk_cell BK365.out 0).trans rfl; have hcz39_1 : w36.cell? ⟨gb365, 1, none⟩ = some (.int .u64 0) := (blk_cell BK365.out 1).trans rfl; have hcz39_2 : w36.cell? ⟨gb365, 2, none⟩ = some (.int .u64 0) := (blk_cell BK365.out 2).trans rfl; have hfz39_0 := blk_frozen BK365.out 0; have hfz39_1 := blk_frozen BK365.out 1; have hfz39_2 := blk_frozen BK365.out 2))
    refine bodyPost_ret (results_ct rfl _ _ gb365 44 #[.string (⟨#[]⟩ : ByteArray), .int .u64 0, .int .u64 0] (0, 0) _ rfl (by (with_reducible repeat (first | refine blk_drewN ?_ _ | refine blk_drew ?_ | refine blk_alloc ?_ _)); refine blk_put (cs := #[.string (⟨#[]⟩ : ByteArray), .int .u64 0, .int .u64 0]) ?_ 2 _ rfl; (with_reducible repeat (first | refine blk_drewN ?_ _ | refine blk_drew ?_ | refine blk_alloc ?_ _)); refine blk_put (cs := #[.string (⟨#[]⟩ : ByteArray), .int .u64 0, .int .u64 0]) ?_ 1 _ rfl; (with_reducible repeat (first | refine blk_drewN ?_ _ | refine blk_drew ?_ | refine blk_alloc ?_ _)); refine blk_put (cs := #[.string (⟨#[]⟩ : ByteArray), .int .u64 0, .int .u64 0]) ?_ 0 _ rfl; (with_reducible repeat (first | refine blk_drewN ?_ _ | refine blk_drew ?_ | refine blk_alloc ?_ _)); refine blk_far ?_ NB365_372.out _; (with_reducible repeat (first | refine blk_drewN ?_ _ | refine blk_drew ?_ | refine blk_alloc ?_ _)); refine blk_far ?_ NB365_372.out _; (with_reducible repeat (first | refine blk_drewN ?_ _ | refine blk_drew ?_ | refine blk_alloc ?_ _)); exact BK365.out) Tryd.underlying44 rfl (by kernel_rfl)) rfl ?_
    exact ⟨by first | rfl | (simp [errW_none, errW_some] <;> rfl) | (simp [*, errW_none, errW_some] <;> rfl), by repeat (first | (with_reducible first | exact HB.out | apply below_alloc | apply pw_below_drewN | apply below_drew1 | refine below_set ?_ GE365.out | refine below_set ?_ GE372.out) | exact HB.out)⟩
def row_Of.f (a0_0 : Int) (a0_1 : ByteArray) (a0_2 : Int) (a0_3 : Int) : Option (ByteArray × Int × Int × Bool × Int) := if a0_3 = 0 then (if a0_2 = 2 then ((row_Parse.f a0_1).bind fun bt376 => (some (bt376.1, bt376.2.1, bt376.2.2.1, (bt376.2.2.2 == 0), bt376.2.2.2))) else (some ((⟨#[]⟩ : ByteArray), 0, 0, false, 0))) else (some ((⟨#[]⟩ : ByteArray), 0, 0, false, a0_3))
set_option maxHeartbeats 8000000 in
set_option maxRecDepth 100000 in
theorem row_Of.calls (a0_0 : Int) (a0_1 : ByteArray) (a0_2 : Int) (a0_3 : Int) (r1 : ByteArray) (r2 : Int) (r3 : Int) (r4 : Bool) (r5 : Int) (w : World) (hG : GT w) (h : row_Of.f a0_0 a0_1 a0_2 a0_3 = some (r1, r2, r3, r4, r5)) :
    Calls Tryd.prog 43 #[.agg #[.int .i64 a0_0, .string a0_1, .int .u8 a0_2, .int .i64 a0_3]] w fun e w' => e = .returned (.tuple #[.agg #[.string r1, .int .u64 r2, .int .u64 r3], .bool r4, .int .i64 r5]) ∧ Below w.heap.size w w' := by
  have hu56 := Tryd.underlying56
  have hu44 := Tryd.underlying44
  have HB := Aside0.mk (Below.refl w.heap.size w)
  have H : (if a0_3 = 0 then (if a0_2 = 2 then ((row_Parse.f a0_1).bind fun bt376 => (some (bt376.1, bt376.2.1, bt376.2.2.1, (bt376.2.2.2 == 0), bt376.2.2.2))) else (some ((⟨#[]⟩ : ByteArray), 0, 0, false, 0))) else (some ((⟨#[]⟩ : ByteArray), 0, 0, false, a0_3))) = some (r1, r2, r3, r4, r5) := h
  clear h
  by_cases c2 : a0_3 = 0
  · rw [if_pos c2] at H
    have c2b0 : (a0_3 == 0) = true := beq_iff_eq.mpr c2
    have c2b1 : (a0_3 != 0) = false := bne_eq_false_iff_eq.mpr c2
    clear c2
    by_cases c3 : a0_2 = 2
    · rw [if_pos c3] at H
      have c3b0 : (a0_2 == 2) = true := beq_iff_eq.mpr c3
      have c3b1 : (a0_2 != 2) = false := bne_eq_false_iff_eq.mpr c3
      clear c3
      replace H := Option.bind_eq_some_iff.mp H
      obtain ⟨⟨t376, t377, t378, t379⟩, A40, H⟩ := H
      replace H : (some (t376, t377, t378, (t379 == 0), t379)) = some (r1, r2, r3, r4, r5) := H
      have A4 := Aside0.mk A40
      clear A40
      simp only [Option.some.injEq, Prod.mk.injEq] at H
      obtain ⟨rfl, rfl, rfl, rfl, rfl⟩ := H
      go_enter Tryd.func43, Tryd.ntmps43
      go_wp2_with (first | ((with_reducible refine gate_dst (N := 1) rfl ?_); refine box_event ?hg (N := 1) ?hd (cs := #[.int .i64 a0_0, .string a0_1, .int .u8 a0_2, .int .i64 a0_3]) (t := 56) ?hr ?_; (case hd => rfl); (case hg => rfl); (case hr => first | (go_simp; done) | (go_simp; rfl)); intro gb374 hg w5 hbox hb; have n0_ := Aside0.mk (below_step (by repeat (first | (with_reducible first | exact HB.out | apply below_alloc | apply pw_below_drewN | apply below_drew1) | exact HB.out)) hb); have n1_ := Aside0.mk (hbox); have n2_ := Aside0.mk ((by rw [hg]; exact (below_size (by repeat (first | (with_reducible first | exact HB.out | apply below_alloc | apply pw_below_drewN | apply below_drew1) | exact HB.out))) : w.heap.size ≤ gb374)); have n3_ := Aside0.mk ((by rw [hg]; exact (below_size (by repeat (first | (with_reducible first | exact HB.out | apply below_alloc | apply pw_below_drewN | apply below_drew1) | exact HB.out))) : w.heap.size ≤ gb374)); clear HB; have HB := n0_; have BK374 := n1_; have GW374 := n2_; have GE374 := n3_; clear n0_ n1_ n2_ n3_; clear hb hbox hg) | ((with_reducible refine gate_dst (N := 2) rfl ?_); refine box_event ?hg (N := 2) ?hd (cs := #[.string (⟨#[]⟩ : ByteArray), .int .u64 0, .int .u64 0]) (t := 44) ?hr ?_; (case hd => rfl); (case hg => rfl); (case hr => first | (go_simp; done) | (go_simp; rfl)); intro gb375 hg w6 hbox hb; have n0_ := Aside0.mk (blk_below (g := gb374) (o := .cells #[.int .i64 a0_0, .string a0_1, .int .u8 a0_2, .int .i64 a0_3] 56 (0, 0)) (by (with_reducible repeat (first | refine blk_drewN ?_ _ | refine blk_drew ?_ | refine blk_alloc ?_ _)); exact BK374.out) hb); have n1_ := Aside0.mk (below_step (by repeat (first | (with_reducible first | exact HB.out | apply below_alloc | apply pw_below_drewN | apply below_drew1 | refine below_set ?_ GE374.out) | exact HB.out)) hb); have n2_ := Aside0.mk (hbox); have n3_ := Aside0.mk ((by rw [hg]; exact (below_size (by repeat (first | (with_reducible first | exact HB.out | apply below_alloc | apply pw_below_drewN | apply below_drew1 | refine below_set ?_ GE374.out) | exact HB.out))) : w.heap.size ≤ gb375)); have n4_ := Aside0.mk ((by rw [hg]; exact (below_size (by repeat (first | (with_reducible first | exact HB.out | apply below_alloc | apply pw_below_drewN | apply below_drew1 | refine below_set ?_ GE374.out) | exact HB.out))) : w.heap.size ≤ gb375)); have n5_ := Aside0.mk ((by rw [hg]; exact Nat.ne_of_lt (blk_lt (g := gb374) (o := .cells #[.int .i64 a0_0, .string a0_1, .int .u8 a0_2, .int .i64 a0_3] 56 (0, 0)) (by (with_reducible repeat (first | refine blk_drewN ?_ _ | refine blk_drew ?_ | refine blk_alloc ?_ _)); exact BK374.out)) : gb374 ≠ gb375)); have n6_ := Aside0.mk ((by rw [hg]; exact Nat.ne_of_gt (blk_lt (g := gb374) (o := .cells #[.int .i64 a0_0, .string a0_1, .int .u8 a0_2, .int .i64 a0_3] 56 (0, 0)) (by (with_reducible repeat (first | refine blk_drewN ?_ _ | refine blk_drew ?_ | refine blk_alloc ?_ _)); exact BK374.out)) : gb375 ≠ gb374)); clear BK374; clear HB; have BK374 := n0_; have HB := n1_; have BK375 := n2_; have GW375 := n3_; have GE375 := n4_; have NB374_375 := n5_; have NB375_374 := n6_; clear n0_ n1_ n2_ n3_ n4_ n5_ n6_; clear hb hbox hg; have hnb7 := NB374_375.out; have hnc7 := NB375_374.out; have hcz8_0 : w6.cell? ⟨gb374, 0, none⟩ = some (.int .i64 a0_0) := (blk_cell BK374.out 0).trans rfl; have hcz8_1 : w6.cell? ⟨gb374, 1, none⟩ = some (.string a0_1) := (blk_cell BK374.out 1).trans rfl; have hcz8_2 : w6.cell? ⟨gb374, 2, none⟩ = some (.int .u8 a0_2) := (blk_cell BK374.out 2).trans rfl; have hcz8_3 : w6.cell? ⟨gb374, 3, none⟩ = some (.int .i64 a0_3) := (blk_cell BK374.out 3).trans rfl; have hfz8_0 := blk_frozen BK374.out 0; have hfz8_1 := blk_frozen BK374.out 1; have hfz8_2 := blk_frozen BK374.out 2; have hfz8_3 := blk_frozen BK374.out 3) | ((with_reducible refine gate_callee (f := 47) rfl ?_); refine goesL_ (some 20) rfl rfl Tryd.func47 (by kernel_rfl) rfl #[.string a0_1] rfl (by (try simp only [List.map_toArray, List.map_cons, List.map_nil]); first | done | rfl | (simp only [List.length_drop, List.length_take]; rfl)) ?_; (with_reducible refine (row_Parse.calls a0_1 t376 t377 t378 t379 _ ?side1 A4.out).mono ?_); (case side1 => exact gt_below hG (by repeat (first | (with_reducible first | exact HB.out | apply below_alloc | apply pw_below_drewN | apply below_drew1 | refine below_set ?_ GE374.out | refine below_set ?_ GE375.out) | exact HB.out))); rintro e w9 ⟨rfl, hb⟩; refine ⟨_, rfl, ?_⟩; have n0_ := Aside0.mk (blk_below (g := gb374) (o := .cells #[.int .i64 a0_0, .string a0_1, .int .u8 a0_2, .int .i64 a0_3] 56 (0, 0)) (by (with_reducible repeat (first | refine blk_drewN ?_ _ | refine blk_drew ?_ | refine blk_alloc ?_ _)); exact BK374.out) hb); have n1_ := Aside0.mk (blk_below (g := gb375) (o := .cells #[.string (⟨#[]⟩ : ByteArray), .int .u64 0, .int .u64 0] 44 (0, 0)) (by (with_reducible repeat (first | refine blk_drewN ?_ _ | refine blk_drew ?_ | refine blk_alloc ?_ _)); exact BK375.out) hb); have n2_ := Aside0.mk (below_step (by repeat (first | (with_reducible first | exact HB.out | apply below_alloc | apply pw_below_drewN | apply below_drew1 | refine below_set ?_ GE374.out | refine below_set ?_ GE375.out) | exact HB.out)) hb); clear BK374; clear BK375; clear HB; have BK374 := n0_; have BK375 := n1_; have HB := n2_; clear n0_ n1_ n2_; (try clear hb); (try clear hb2); (try clear hk); (try clear hi)) | ((with_reducible refine gate_dst (N := 5) rfl ?_); refine box_event ?hg (N := 5) ?hd (cs := #[.string (⟨#[]⟩ : ByteArray), .int .u64 0, .int .u64 0]) (t := 44) ?hr ?_; (case hd => rfl); (case hg => rfl); (case hr => first | (go_simp; done) | (go_simp; rfl)); intro gb380 hg w10 hbox hb; have n0_ := Aside0.mk (blk_below (g := gb374) (o := .cells #[.int .i64 a0_0, .string a0_1, .int .u8 a0_2, .int .i64 a0_3] 56 (0, 0)) (by (with_reducible repeat (first | refine blk_drewN ?_ _ | refine blk_drew ?_ | refine blk_alloc ?_ _)); exact BK374.out) hb); have n1_ := Aside0.mk (blk_below (g := gb375) (o := .cells #[.string (⟨#[]⟩ : ByteArray), .int .u64 0, .int .u64 0] 44 (0, 0)) (by (with_reducible repeat (first | refine blk_drewN ?_ _ | refine blk_drew ?_ | refine blk_alloc ?_ _)); exact BK375.out) hb); have n2_ := Aside0.mk (below_step (by repeat (first | (with_reducible first | exact HB.out | apply below_alloc | apply pw_below_drewN | apply below_drew1 | refine below_set ?_ GE374.out | refine below_set ?_ GE375.out) | exact HB.out)) hb); have n3_ := Aside0.mk (hbox); have n4_ := Aside0.mk ((by rw [hg]; exact (below_size (by repeat (first | (with_reducible first | exact HB.out | apply below_alloc | apply pw_below_drewN | apply below_drew1 | refine below_set ?_ GE374.out | refine below_set ?_ GE375.out) | exact HB.out))) : w.heap.size ≤ gb380)); have n5_ := Aside0.mk ((by rw [hg]; exact (below_size (by repeat (first | (with_reducible first | exact HB.out | apply below_alloc | apply pw_below_drewN | apply below_drew1 | refine below_set ?_ GE374.out | refine below_set ?_ GE375.out) | exact HB.out))) : w.heap.size ≤ gb380)); have n6_ := Aside0.mk ((by rw [hg]; exact Nat.ne_of_lt (blk_lt (g := gb374) (o := .cells #[.int .i64 a0_0, .string a0_1, .int .u8 a0_2, .int .i64 a0_3] 56 (0, 0)) (by (with_reducible repeat (first | refine blk_drewN ?_ _ | refine blk_drew ?_ | refine blk_alloc ?_ _)); exact BK374.out)) : gb374 ≠ gb380)); have n7_ := Aside0.mk ((by rw [hg]; exact Nat.ne_of_gt (blk_lt (g := gb374) (o := .cells #[.int .i64 a0_0, .string a0_1, .int .u8 a0_2, .int .i64 a0_3] 56 (0, 0)) (by (with_reducible repeat (first | refine blk_drewN ?_ _ | refine blk_drew ?_ | refine blk_alloc ?_ _)); exact BK374.out)) : gb380 ≠ gb374)); have n8_ := Aside0.mk ((by rw [hg]; exact Nat.ne_of_lt (blk_lt (g := gb375) (o := .cells #[.string (⟨#[]⟩ : ByteArray), .int .u64 0, .int .u64 0] 44 (0, 0)) (by (with_reducible repeat (first | refine blk_drewN ?_ _ | refine blk_drew ?_ | refine blk_alloc ?_ _)); exact BK375.out)) : gb375 ≠ gb380)); have n9_ := Aside0.mk ((by rw [hg]; exact Nat.ne_of_gt (blk_lt (g := gb375) (o := .cells #[.string (⟨#[]⟩ : ByteArray), .int .u64 0, .int .u64 0] 44 (0, 0)) (by (with_reducible repeat (first | refine blk_drewN ?_ _ | refine blk_drew ?_ | refine blk_alloc ?_ _)); exact BK375.out)) : gb380 ≠ gb375)); clear BK374; clear BK375; clear HB; have BK374 := n0_; have BK375 := n1_; have HB := n2_; have BK380 := n3_; have GW380 := n4_; have GE380 := n5_; have NB374_380 := n6_; have NB380_374 := n7_; have NB375_380 := n8_; have NB380_375 := n9_; clear n0_ n1_ n2_ n3_ n4_ n5_ n6_ n7_ n8_ n9_; clear hb hbox hg; have hnb11 := NB380_374.out; have hnc11 := NB374_380.out; have hnb12 := NB380_375.out; have hnc12 := NB375_380.out; have hcz13_0 : w10.cell? ⟨gb380, 0, none⟩ = some (.string (⟨#[]⟩ : ByteArray)) := (blk_cell BK380.out 0).trans rfl; have hcz13_1 : w10.cell? ⟨gb380, 1, none⟩ = some (.int .u64 0) := (blk_cell BK380.out 1).trans rfl; have hcz13_2 : w10.cell? ⟨gb380, 2, none⟩ = some (.int .u64 0) := (blk_cell BK380.out 2).trans rfl; have hfz13_0 := blk_frozen BK380.out 0; have hfz13_1 := blk_frozen BK380.out 1; have hfz13_2 := blk_frozen BK380.out 2; have hcz14_0 : w10.cell? ⟨gb375, 0, none⟩ = some (.string (⟨#[]⟩ : ByteArray)) := (blk_cell BK375.out 0).trans rfl; have hcz14_1 : w10.cell? ⟨gb375, 1, none⟩ = some (.int .u64 0) := (blk_cell BK375.out 1).trans rfl; have hcz14_2 : w10.cell? ⟨gb375, 2, none⟩ = some (.int .u64 0) := (blk_cell BK375.out 2).trans rfl; have hfz14_0 := blk_frozen BK375.out 0; have hfz14_1 := blk_frozen BK375.out 1; have hfz14_2 := blk_frozen BK375.out 2))
      refine bodyPost_ret (results_ctt rfl _ _ gb375 44 #[.string t376, .int .u64 t377, .int .u64 t378] (0, 0) _ rfl (by (with_reducible repeat (first | refine blk_drewN ?_ _ | refine blk_drew ?_ | refine blk_alloc ?_ _)); refine blk_put (cs := #[.string t376, .int .u64 t377, .int .u64 0]) ?_ 2 _ rfl; (with_reducible repeat (first | refine blk_drewN ?_ _ | refine blk_drew ?_ | refine blk_alloc ?_ _)); refine blk_put (cs := #[.string t376, .int .u64 0, .int .u64 0]) ?_ 1 _ rfl; (with_reducible repeat (first | refine blk_drewN ?_ _ | refine blk_drew ?_ | refine blk_alloc ?_ _)); refine blk_put (cs := #[.string (⟨#[]⟩ : ByteArray), .int .u64 0, .int .u64 0]) ?_ 0 _ rfl; (with_reducible repeat (first | refine blk_drewN ?_ _ | refine blk_drew ?_ | refine blk_alloc ?_ _)); refine blk_far ?_ NB375_380.out _; (with_reducible repeat (first | refine blk_drewN ?_ _ | refine blk_drew ?_ | refine blk_alloc ?_ _)); refine blk_far ?_ NB375_380.out _; (with_reducible repeat (first | refine blk_drewN ?_ _ | refine blk_drew ?_ | refine blk_alloc ?_ _)); refine blk_far ?_ NB375_380.out _; (with_reducible repeat (first | refine blk_drewN ?_ _ | refine blk_drew ?_ | refine blk_alloc ?_ _)); exact BK375.out) Tryd.underlying44 rfl (by kernel_rfl)) rfl ?_
      exact ⟨by first | rfl | (simp [errW_none, errW_some] <;> rfl) | (simp [*, errW_none, errW_some] <;> rfl), by repeat (first | (with_reducible first | exact HB.out | apply below_alloc | apply pw_below_drewN | apply below_drew1 | refine below_set ?_ GE374.out | refine below_set ?_ GE375.out | refine below_set ?_ GE380.out) | exact HB.out)⟩
    · rw [if_neg c3] at H
      have c3b0 : (a0_2 == 2) = false := beq_eq_false_iff_ne.mpr c3
      have c3b1 : (a0_2 != 2) = true := bne_iff_ne.mpr c3
      simp only [Option.some.injEq, Prod.mk.injEq] at H
      obtain ⟨rfl, rfl, rfl, rfl, rfl⟩ := H
      go_enter Tryd.func43, Tryd.ntmps43
      go_wp2_with (first | ((with_reducible refine gate_dst (N := 1) rfl ?_); refine box_event ?hg (N := 1) ?hd (cs := #[.int .i64 a0_0, .string a0_1, .int .u8 a0_2, .int .i64 a0_3]) (t := 56) ?hr ?_; (case hd => rfl); (case hg => rfl); (case hr => first | (go_simp; done) | (go_simp; rfl)); intro gb374 hg w15 hbox hb; have n0_ := Aside0.mk (below_step (by repeat (first | (with_reducible first | exact HB.out | apply below_alloc | apply pw_below_drewN | apply below_drew1) | exact HB.out)) hb); have n1_ := Aside0.mk (hbox); have n2_ := Aside0.mk ((by rw [hg]; exact (below_size (by repeat (first | (with_reducible first | exact HB.out | apply below_alloc | apply pw_below_drewN | apply below_drew1) | exact HB.out))) : w.heap.size ≤ gb374)); have n3_ := Aside0.mk ((by rw [hg]; exact (below_size (by repeat (first | (with_reducible first | exact HB.out | apply below_alloc | apply pw_below_drewN | apply below_drew1) | exact HB.out))) : w.heap.size ≤ gb374)); clear HB; have HB := n0_; have BK374 := n1_; have GW374 := n2_; have GE374 := n3_; clear n0_ n1_ n2_ n3_; clear hb hbox hg) | ((with_reducible refine gate_dst (N := 2) rfl ?_); refine box_event ?hg (N := 2) ?hd (cs := #[.string (⟨#[]⟩ : ByteArray), .int .u64 0, .int .u64 0]) (t := 44) ?hr ?_; (case hd => rfl); (case hg => rfl); (case hr => first | (go_simp; done) | (go_simp; rfl)); intro gb375 hg w16 hbox hb; have n0_ := Aside0.mk (blk_below (g := gb374) (o := .cells #[.int .i64 a0_0, .string a0_1, .int .u8 a0_2, .int .i64 a0_3] 56 (0, 0)) (by (with_reducible repeat (first | refine blk_drewN ?_ _ | refine blk_drew ?_ | refine blk_alloc ?_ _)); exact BK374.out) hb); have n1_ := Aside0.mk (below_step (by repeat (first | (with_reducible first | exact HB.out | apply below_alloc | apply pw_below_drewN | apply below_drew1 | refine below_set ?_ GE374.out) | exact HB.out)) hb); have n2_ := Aside0.mk (hbox); have n3_ := Aside0.mk ((by rw [hg]; exact (below_size (by repeat (first | (with_reducible first | exact HB.out | apply below_alloc | apply pw_below_drewN | apply below_drew1 | refine below_set ?_ GE374.out) | exact HB.out))) : w.heap.size ≤ gb375)); have n4_ := Aside0.mk ((by rw [hg]; exact (below_size (by repeat (first | (with_reducible first | exact HB.out | apply below_alloc | apply pw_below_drewN | apply below_drew1 | refine below_set ?_ GE374.out) | exact HB.out))) : w.heap.size ≤ gb375)); have n5_ := Aside0.mk ((by rw [hg]; exact Nat.ne_of_lt (blk_lt (g := gb374) (o := .cells #[.int .i64 a0_0, .string a0_1, .int .u8 a0_2, .int .i64 a0_3] 56 (0, 0)) (by (with_reducible repeat (first | refine blk_drewN ?_ _ | refine blk_drew ?_ | refine blk_alloc ?_ _)); exact BK374.out)) : gb374 ≠ gb375)); have n6_ := Aside0.mk ((by rw [hg]; exact Nat.ne_of_gt (blk_lt (g := gb374) (o := .cells #[.int .i64 a0_0, .string a0_1, .int .u8 a0_2, .int .i64 a0_3] 56 (0, 0)) (by (with_reducible repeat (first | refine blk_drewN ?_ _ | refine blk_drew ?_ | refine blk_alloc ?_ _)); exact BK374.out)) : gb375 ≠ gb374)); clear BK374; clear HB; have BK374 := n0_; have HB := n1_; have BK375 := n2_; have GW375 := n3_; have GE375 := n4_; have NB374_375 := n5_; have NB375_374 := n6_; clear n0_ n1_ n2_ n3_ n4_ n5_ n6_; clear hb hbox hg; have hnb17 := NB374_375.out; have hnc17 := NB375_374.out; have hcz18_0 : w16.cell? ⟨gb374, 0, none⟩ = some (.int .i64 a0_0) := (blk_cell BK374.out 0).trans rfl; have hcz18_1 : w16.cell? ⟨gb374, 1, none⟩ = some (.string a0_1) := (blk_cell BK374.out 1).trans rfl; have hcz18_2 : w16.cell? ⟨gb374, 2, none⟩ = some (.int .u8 a0_2) := (blk_cell BK374.out 2).trans rfl; have hcz18_3 : w16.cell? ⟨gb374, 3, none⟩ = some (.int .i64 a0_3) := (blk_cell BK374.out 3).trans rfl; have hfz18_0 := blk_frozen BK374.out 0; have hfz18_1 := blk_frozen BK374.out 1; have hfz18_2 := blk_frozen BK374.out 2; have hfz18_3 := blk_frozen BK374.out 3; have hcz19_0 : w16.cell? ⟨gb375, 0, none⟩ = some (.string (⟨#[]⟩ : ByteArray)) := (blk_cell BK375.out 0).trans rfl; have hcz19_1 : w16.cell? ⟨gb375, 1, none⟩ = some (.int .u64 0) := (blk_cell BK375.out 1).trans rfl; have hcz19_2 : w16.cell? ⟨gb375, 2, none⟩ = some (.int .u64 0) := (blk_cell BK375.out 2).trans rfl; have hfz19_0 := blk_frozen BK375.out 0; have hfz19_1 := blk_frozen BK375.out 1; have hfz19_2 := blk_frozen BK375.out 2))
      refine bodyPost_ret (results_ctt rfl _ _ gb375 44 #[.string (⟨#[]⟩ : ByteArray), .int .u64 0, .int .u64 0] (0, 0) _ rfl (by (with_reducible repeat (first | refine blk_drewN ?_ _ | refine blk_drew ?_ | refine blk_alloc ?_ _)); refine blk_put (cs := #[.string (⟨#[]⟩ : ByteArray), .int .u64 0, .int .u64 0]) ?_ 2 _ rfl; (with_reducible repeat (first | refine blk_drewN ?_ _ | refine blk_drew ?_ | refine blk_alloc ?_ _)); refine blk_put (cs := #[.string (⟨#[]⟩ : ByteArray), .int .u64 0, .int .u64 0]) ?_ 1 _ rfl; (with_reducible repeat (first | refine blk_drewN ?_ _ | refine blk_drew ?_ | refine blk_alloc ?_ _)); refine blk_put (cs := #[.string (⟨#[]⟩ : ByteArray), .int .u64 0, .int .u64 0]) ?_ 0 _ rfl; (with_reducible repeat (first | refine blk_drewN ?_ _ | refine blk_drew ?_ | refine blk_alloc ?_ _)); exact BK375.out) Tryd.underlying44 rfl (by kernel_rfl)) rfl ?_
      exact ⟨by first | rfl | (simp [errW_none, errW_some] <;> rfl) | (simp [*, errW_none, errW_some] <;> rfl), by repeat (first | (with_reducible first | exact HB.out | apply below_alloc | apply pw_below_drewN | apply below_drew1 | refine below_set ?_ GE374.out | refine below_set ?_ GE375.out) | exact HB.out)⟩
  · rw [if_neg c2] at H
    have c2b0 : (a0_3 == 0) = false := beq_eq_false_iff_ne.mpr c2
    have c2b1 : (a0_3 != 0) = true := bne_iff_ne.mpr c2
    simp only [Option.some.injEq, Prod.mk.injEq] at H
    obtain ⟨rfl, rfl, rfl, rfl, rfl⟩ := H
    go_enter Tryd.func43, Tryd.ntmps43
    try go_wp2_with (first | ((with_reducible refine gate_dst (N := 1) rfl ?_); refine box_event ?hg (N := 1) ?hd (cs := #[.int .i64 a0_0, .string a0_1, .int .u8 a0_2, .int .i64 a0_3]) (t := 56) ?hr ?_; (case hd => rfl); (case hg => rfl); (case hr => first | (go_simp; done) | (go_simp; rfl)); intro gb374 hg w20 hbox hb; have n0_ := Aside0.mk (below_step (by repeat (first | (with_reducible first | exact HB.out | apply below_alloc | apply pw_below_drewN | apply below_drew1) | exact HB.out)) hb); have n1_ := Aside0.mk (hbox); have n2_ := Aside0.mk ((by rw [hg]; exact (below_size (by repeat (first | (with_reducible first | exact HB.out | apply below_alloc | apply pw_below_drewN | apply below_drew1) | exact HB.out))) : w.heap.size ≤ gb374)); have n3_ := Aside0.mk ((by rw [hg]; exact (below_size (by repeat (first | (with_reducible first | exact HB.out | apply below_alloc | apply pw_below_drewN | apply below_drew1) | exact HB.out))) : w.heap.size ≤ gb374)); clear HB; have HB := n0_; have BK374 := n1_; have GW374 := n2_; have GE374 := n3_; clear n0_ n1_ n2_ n3_; clear hb hbox hg) | ((with_reducible refine gate_dst (N := 2) rfl ?_); refine box_event ?hg (N := 2) ?hd (cs := #[.string (⟨#[]⟩ : ByteArray), .int .u64 0, .int .u64 0]) (t := 44) ?hr ?_; (case hd => rfl); (case hg => rfl); (case hr => first | (go_simp; done) | (go_simp; rfl)); intro gb375 hg w21 hbox hb; have n0_ := Aside0.mk (blk_below (g := gb374) (o := .cells #[.int .i64 a0_0, .string a0_1, .int .u8 a0_2, .int .i64 a0_3] 56 (0, 0)) (by (with_reducible repeat (first | refine blk_drewN ?_ _ | refine blk_drew ?_ | refine blk_alloc ?_ _)); exact BK374.out) hb); have n1_ := Aside0.mk (below_step (by repeat (first | (with_reducible first | exact HB.out | apply below_alloc | apply pw_below_drewN | apply below_drew1 | refine below_set ?_ GE374.out) | exact HB.out)) hb); have n2_ := Aside0.mk (hbox); have n3_ := Aside0.mk ((by rw [hg]; exact (below_size (by repeat (first | (with_reducible first | exact HB.out | apply below_alloc | apply pw_below_drewN | apply below_drew1 | refine below_set ?_ GE374.out) | exact HB.out))) : w.heap.size ≤ gb375)); have n4_ := Aside0.mk ((by rw [hg]; exact (below_size (by repeat (first | (with_reducible first | exact HB.out | apply below_alloc | apply pw_below_drewN | apply below_drew1 | refine below_set ?_ GE374.out) | exact HB.out))) : w.heap.size ≤ gb375)); have n5_ := Aside0.mk ((by rw [hg]; exact Nat.ne_of_lt (blk_lt (g := gb374) (o := .cells #[.int .i64 a0_0, .string a0_1, .int .u8 a0_2, .int .i64 a0_3] 56 (0, 0)) (by (with_reducible repeat (first | refine blk_drewN ?_ _ | refine blk_drew ?_ | refine blk_alloc ?_ _)); exact BK374.out)) : gb374 ≠ gb375)); have n6_ := Aside0.mk ((by rw [hg]; exact Nat.ne_of_gt (blk_lt (g := gb374) (o := .cells #[.int .i64 a0_0, .string a0_1, .int .u8 a0_2, .int .i64 a0_3] 56 (0, 0)) (by (with_reducible repeat (first | refine blk_drewN ?_ _ | refine blk_drew ?_ | refine blk_alloc ?_ _)); exact BK374.out)) : gb375 ≠ gb374)); clear BK374; clear HB; have BK374 := n0_; have HB := n1_; have BK375 := n2_; have GW375 := n3_; have GE375 := n4_; have NB374_375 := n5_; have NB375_374 := n6_; clear n0_ n1_ n2_ n3_ n4_ n5_ n6_; clear hb hbox hg; have hnb22 := NB374_375.out; have hnc22 := NB375_374.out; have hcz23_0 : w21.cell? ⟨gb374, 0, none⟩ = some (.int .i64 a0_0) := (blk_cell BK374.out 0).trans rfl; have hcz23_1 : w21.cell? ⟨gb374, 1, none⟩ = some (.string a0_1) := (blk_cell BK374.out 1).trans rfl; have hcz23_2 : w21.cell? ⟨gb374, 2, none⟩ = some (.int .u8 a0_2) := (blk_cell BK374.out 2).trans rfl; have hcz23_3 : w21.cell? ⟨gb374, 3, none⟩ = some (.int .i64 a0_3) := (blk_cell BK374.out 3).trans rfl; have hfz23_0 := blk_frozen BK374.out 0; have hfz23_1 := blk_frozen BK374.out 1; have hfz23_2 := blk_frozen BK374.out 2; have hfz23_3 := blk_frozen BK374.out 3))
    have n0_ := Aside0.mk (blk_drew BK374.out)
    have n1_ := Aside0.mk (blk_drew BK375.out)
    have n2_ := Aside0.mk (below_drew1 HB.out)
    clear BK374
    clear BK375
    clear HB
    have BK374 := n0_
    have BK375 := n1_
    have HB := n2_
    clear n0_ n1_ n2_
    refine start_ (n := 6) (S := fun w' => w'.cell? ⟨gb374, 0, none⟩ = some (.int .i64 a0_0) ∧ w'.cell? ⟨gb374, 1, none⟩ = some (.string a0_1) ∧ w'.cell? ⟨gb374, 2, none⟩ = some (.int .u8 a0_2) ∧ w'.cell? ⟨gb374, 3, none⟩ = some (.int .i64 a0_3)) (ds := []) #[false, false, false, false, false, false] (by kernel_rfl) rfl rfl ⟨(blk_cell BK374.out 0).trans rfl, (blk_cell BK374.out 1).trans rfl, (blk_cell BK374.out 2).trans rfl, (blk_cell BK374.out 3).trans rfl⟩ (fun hHeld => ?_)
    generalize w21.drew = w24 at BK374 BK375 HB hHeld ⊢
    refine pure_ (i := 0) (N := some 10) (v := ?_) (a' := ?_) #[true, false, false, false, false, false] rfl rfl (by kernel_rfl) (fun _ _ _ h => h) (Or.inl ⟨by rfl, ?_⟩) ?_ ?_
    rotate_left
    · intro w'
      go_simp
      with_reducible rfl
    rotate_left
    · simp only [Act.put, List.setIfInBounds_toArray, List.set_cons_zero, List.set_cons_succ, i64_w, i32_w]
      rfl
    refine pure_ (i := 1) (N := some 11) (v := ?_) (a' := ?_) #[true, true, false, false, false, false] rfl rfl (by kernel_rfl) (fun _ _ _ h => h) (Or.inl ⟨by rfl, ?_⟩) ?_ ?_
    rotate_left
    · intro w'
      go_simp
      with_reducible rfl
    rotate_left
    · simp only [Act.put, List.setIfInBounds_toArray, List.set_cons_zero, List.set_cons_succ, i64_w, i32_w]
      rfl
    refine take_ (i := 2) (N := some 12) (v := ?_) (a' := ?_) #[true, true, true, false, false, false] rfl rfl (by kernel_rfl) (fun _ _ _ h => h) (Or.inl ⟨by rfl, ?_⟩) hHeld ?_ ?_
    rotate_left
    · rintro w' ⟨s0, s1, s2, s3⟩
      go_simp
      with_reducible rfl
    rotate_left
    · simp only [Act.put, List.setIfInBounds_toArray, List.set_cons_zero, List.set_cons_succ, i64_w, i32_w]
      rfl
    refine one_ (i := 3) (N := none) #[true, true, true, true, false, false] rfl rfl (by kernel_rfl) (by decide) (fun K hK => ?_)
    have hs25 : w24.cell? ⟨gb375, 0, none⟩ = some (.string (⟨#[]⟩ : ByteArray)) := (blk_cell BK375.out 0).trans rfl
    have hfs25 := blk_frozen BK375.out 0
    have hns25_0 := NB374_375.out
    have hms25_0 := NB375_374.out
    have hs26 : w24.cell? ⟨gb375, 1, none⟩ = some (.int .u64 0) := (blk_cell BK375.out 1).trans rfl
    have hfs26 := blk_frozen BK375.out 1
    have hns26_0 := NB374_375.out
    have hms26_0 := NB375_374.out
    have hs27 : w24.cell? ⟨gb375, 2, none⟩ = some (.int .u64 0) := (blk_cell BK375.out 2).trans rfl
    have hfs27 := blk_frozen BK375.out 2
    have hns27_0 := NB374_375.out
    have hms27_0 := NB375_374.out
    refine skip_ (w1 := ?_) (by rfl) rfl ?_ ?_
    rotate_left
    · go_simp
      rfl
    refine hK.out _ _ ⟨((cell_far (p := ⟨gb375, _, none⟩) NB374_375.out _).trans (((cell_far (p := ⟨gb375, _, none⟩) NB374_375.out _).trans (((cell_far (p := ⟨gb375, _, none⟩) NB374_375.out _).trans (hHeld.1)))))), ((cell_far (p := ⟨gb375, _, none⟩) NB374_375.out _).trans (((cell_far (p := ⟨gb375, _, none⟩) NB374_375.out _).trans (((cell_far (p := ⟨gb375, _, none⟩) NB374_375.out _).trans (hHeld.2.1)))))), ((cell_far (p := ⟨gb375, _, none⟩) NB374_375.out _).trans (((cell_far (p := ⟨gb375, _, none⟩) NB374_375.out _).trans (((cell_far (p := ⟨gb375, _, none⟩) NB374_375.out _).trans (hHeld.2.2.1)))))), ((cell_far (p := ⟨gb375, _, none⟩) NB374_375.out _).trans (((cell_far (p := ⟨gb375, _, none⟩) NB374_375.out _).trans (((cell_far (p := ⟨gb375, _, none⟩) NB374_375.out _).trans (hHeld.2.2.2))))))⟩ (fun hHeld => ?_)
    clear hK K
    refine pure_ (i := 4) (N := some 3) (v := ?_) (a' := ?_) #[true, true, true, true, true, false] rfl rfl (by kernel_rfl) (fun _ _ _ h => h) (Or.inl ⟨by rfl, ?_⟩) ?_ ?_
    rotate_left
    · intro w'
      go_simp
      with_reducible rfl
    rotate_left
    · simp only [Act.put, List.setIfInBounds_toArray, List.set_cons_zero, List.set_cons_succ, i64_w, i32_w]
      rfl
    refine pure_ (i := 5) (N := some 4) (v := ?_) (a' := ?_) #[true, true, true, true, true, true] rfl rfl (by kernel_rfl) (fun _ _ _ h => h) (Or.inl ⟨by rfl, ?_⟩) ?_ ?_
    rotate_left
    · intro w'
      go_simp
      with_reducible rfl
    rotate_left
    · simp only [Act.put, List.setIfInBounds_toArray, List.set_cons_zero, List.set_cons_succ, i64_w, i32_w]
      rfl
    refine done_ (by kernel_rfl) ?_
    try go_wp2
    refine bodyPost_ret (results_ctt rfl _ _ gb375 44 #[.string (⟨#[]⟩ : ByteArray), .int .u64 0, .int .u64 0] (0, 0) _ rfl (by (with_reducible repeat (first | refine blk_drewN ?_ _ | refine blk_drew ?_ | refine blk_alloc ?_ _)); refine blk_put (cs := #[.string (⟨#[]⟩ : ByteArray), .int .u64 0, .int .u64 0]) ?_ 2 _ rfl; (with_reducible repeat (first | refine blk_drewN ?_ _ | refine blk_drew ?_ | refine blk_alloc ?_ _)); refine blk_put (cs := #[.string (⟨#[]⟩ : ByteArray), .int .u64 0, .int .u64 0]) ?_ 1 _ rfl; (with_reducible repeat (first | refine blk_drewN ?_ _ | refine blk_drew ?_ | refine blk_alloc ?_ _)); refine blk_put (cs := #[.string (⟨#[]⟩ : ByteArray), .int .u64 0, .int .u64 0]) ?_ 0 _ rfl; (with_reducible repeat (first | refine blk_drewN ?_ _ | refine blk_drew ?_ | refine blk_alloc ?_ _)); exact BK375.out) Tryd.underlying44 rfl (by kernel_rfl)) rfl ?_
    exact ⟨by first | rfl | (simp [errW_none, errW_some] <;> rfl) | (simp [*, errW_none, errW_some] <;> rfl), by repeat (first | (with_reducible first | exact HB.out | apply below_alloc | apply pw_below_drewN | apply below_drew1 | refine below_set ?_ GE374.out | refine below_set ?_ GE375.out) | exact HB.out)⟩
def paymasterref07_within.f (a0 : Int) : Option (Bool) := if a0 ≥ 97 then (if a0 ≤ 122 then (some true) else (if a0 ≥ 65 then (if a0 ≤ 90 then (some true) else (if a0 ≥ 48 then (if a0 ≤ 57 then (some true) else (if a0 = 46 then (some true) else (if a0 = 95 then (some true) else (if a0 = 45 then (some true) else (some (decide (a0 ≥ 161))))))) else (if a0 = 46 then (some true) else (if a0 = 95 then (some true) else (if a0 = 45 then (some true) else (some (decide (a0 ≥ 161)))))))) else (if a0 ≥ 48 then (if a0 ≤ 57 then (some true) else (if a0 = 46 then (some true) else (if a0 = 95 then (some true) else (if a0 = 45 then (some true) else (some (decide (a0 ≥ 161))))))) else (if a0 = 46 then (some true) else (if a0 = 95 then (some true) else (if a0 = 45 then (some true) else (some (decide (a0 ≥ 161))))))))) else (if a0 ≥ 65 then (if a0 ≤ 90 then (some true) else (if a0 ≥ 48 then (if a0 ≤ 57 then (some true) else (if a0 = 46 then (some true) else (if a0 = 95 then (some true) else (if a0 = 45 then (some true) else (some (decide (a0 ≥ 161))))))) else (if a0 = 46 then (some true) else (if a0 = 95 then (some true) else (if a0 = 45 then (some true) else (some (decide (a0 ≥ 161)))))))) else (if a0 ≥ 48 then (if a0 ≤ 57 then (some true) else (if a0 = 46 then (some true) else (if a0 = 95 then (some true) else (if a0 = 45 then (some true) else (some (decide (a0 ≥ 161))))))) else (if a0 = 46 then (some true) else (if a0 = 95 then (some true) else (if a0 = 45 then (some true) else (some (decide (a0 ≥ 161))))))))
set_option maxHeartbeats 8000000 in
set_option maxRecDepth 100000 in
theorem paymasterref07_within.calls (a0 : Int) (r : Bool) (w : World) (h : paymasterref07_within.f a0 = some r) :
    Calls Tryd.prog 109 #[.int .i64 a0] w fun e w' => e = .returned (.bool r) ∧ Drawn0 w w' := by
  have H : (if a0 ≥ 97 then (if a0 ≤ 122 then (some true) else (if a0 ≥ 65 then (if a0 ≤ 90 then (some true) else (if a0 ≥ 48 then (if a0 ≤ 57 then (some true) else (if a0 = 46 then (some true) else (if a0 = 95 then (some true) else (if a0 = 45 then (some true) else (some (decide (a0 ≥ 161))))))) else (if a0 = 46 then (some true) else (if a0 = 95 then (some true) else (if a0 = 45 then (some true) else (some (decide (a0 ≥ 161)))))))) else (if a0 ≥ 48 then (if a0 ≤ 57 then (some true) else (if a0 = 46 then (some true) else (if a0 = 95 then (some true) else (if a0 = 45 then (some true) else (some (decide (a0 ≥ 161))))))) else (if a0 = 46 then (some true) else (if a0 = 95 then (some true) else (if a0 = 45 then (some true) else (some (decide (a0 ≥ 161))))))))) else (if a0 ≥ 65 then (if a0 ≤ 90 then (some true) else (if a0 ≥ 48 then (if a0 ≤ 57 then (some true) else (if a0 = 46 then (some true) else (if a0 = 95 then (some true) else (if a0 = 45 then (some true) else (some (decide (a0 ≥ 161))))))) else (if a0 = 46 then (some true) else (if a0 = 95 then (some true) else (if a0 = 45 then (some true) else (some (decide (a0 ≥ 161)))))))) else (if a0 ≥ 48 then (if a0 ≤ 57 then (some true) else (if a0 = 46 then (some true) else (if a0 = 95 then (some true) else (if a0 = 45 then (some true) else (some (decide (a0 ≥ 161))))))) else (if a0 = 46 then (some true) else (if a0 = 95 then (some true) else (if a0 = 45 then (some true) else (some (decide (a0 ≥ 161))))))))) = some r := h
  clear h
  by_cases c2 : a0 ≥ 97
  · rw [if_pos c2] at H
    have c2b0 : decide (97 ≤ a0) = true := decide_eq_true c2
    clear c2
    by_cases c3 : a0 ≤ 122
    · rw [if_pos c3] at H
      have c3b0 : decide (a0 ≤ 122) = true := decide_eq_true c3
      clear c3
      obtain rfl := Option.some.inj H
      go_enter Tryd.func109, Tryd.ntmps109
      go_wp2
      go_ret
      exact ⟨by first | rfl | (simp; done) | (simp [*]; done), by repeat (first | exact Drawn0.refl _ | apply Drawn0.step)⟩
    · rw [if_neg c3] at H
      have c3b0 : decide (a0 ≤ 122) = false := decide_eq_false c3
      clear c3
      by_cases c4 : a0 ≥ 65
      · rw [if_pos c4] at H
        have c4b0 : decide (65 ≤ a0) = true := decide_eq_true c4
        clear c4
        by_cases c5 : a0 ≤ 90
        · rw [if_pos c5] at H
          have c5b0 : decide (a0 ≤ 90) = true := decide_eq_true c5
          clear c5
          obtain rfl := Option.some.inj H
          go_enter Tryd.func109, Tryd.ntmps109
          go_wp2
          go_ret
          exact ⟨by first | rfl | (simp; done) | (simp [*]; done), by repeat (first | exact Drawn0.refl _ | apply Drawn0.step)⟩
        · rw [if_neg c5] at H
          have c5b0 : decide (a0 ≤ 90) = false := decide_eq_false c5
          clear c5
          by_cases c6 : a0 ≥ 48
          · rw [if_pos c6] at H
            have c6b0 : decide (48 ≤ a0) = true := decide_eq_true c6
            clear c6
            by_cases c7 : a0 ≤ 57
            · rw [if_pos c7] at H
              have c7b0 : decide (a0 ≤ 57) = true := decide_eq_true c7
              clear c7
              obtain rfl := Option.some.inj H
              go_enter Tryd.func109, Tryd.ntmps109
              go_wp2
              go_ret
              exact ⟨by first | rfl | (simp; done) | (simp [*]; done), by repeat (first | exact Drawn0.refl _ | apply Drawn0.step)⟩
            · rw [if_neg c7] at H
              have c7b0 : decide (a0 ≤ 57) = false := decide_eq_false c7
              clear c7
              by_cases c8 : a0 = 46
              · rw [if_pos c8] at H
                have c8b0 : (a0 == 46) = true := beq_iff_eq.mpr c8
                have c8b1 : (a0 != 46) = false := bne_eq_false_iff_eq.mpr c8
                clear c8
                obtain rfl := Option.some.inj H
                go_enter Tryd.func109, Tryd.ntmps109
                go_wp2
                go_ret
                exact ⟨by first | rfl | (simp; done) | (simp [*]; done), by repeat (first | exact Drawn0.refl _ | apply Drawn0.step)⟩
              · rw [if_neg c8] at H
                have c8b0 : (a0 == 46) = false := beq_eq_false_iff_ne.mpr c8
                have c8b1 : (a0 != 46) = true := bne_iff_ne.mpr c8
                by_cases c9 : a0 = 95
                · rw [if_pos c9] at H
                  have c9b0 : (a0 == 95) = true := beq_iff_eq.mpr c9
                  have c9b1 : (a0 != 95) = false := bne_eq_false_iff_eq.mpr c9
                  clear c9
                  obtain rfl := Option.some.inj H
                  go_enter Tryd.func109, Tryd.ntmps109
                  go_wp2
                  go_ret
                  exact ⟨by first | rfl | (simp; done) | (simp [*]; done), by repeat (first | exact Drawn0.refl _ | apply Drawn0.step)⟩
                · rw [if_neg c9] at H
                  have c9b0 : (a0 == 95) = false := beq_eq_false_iff_ne.mpr c9
                  have c9b1 : (a0 != 95) = true := bne_iff_ne.mpr c9
                  by_cases c10 : a0 = 45
                  · rw [if_pos c10] at H
                    have c10b0 : (a0 == 45) = true := beq_iff_eq.mpr c10
                    have c10b1 : (a0 != 45) = false := bne_eq_false_iff_eq.mpr c10
                    clear c10
                    obtain rfl := Option.some.inj H
                    go_enter Tryd.func109, Tryd.ntmps109
                    go_wp2
                    go_ret
                    exact ⟨by first | rfl | (simp; done) | (simp [*]; done), by repeat (first | exact Drawn0.refl _ | apply Drawn0.step)⟩
                  · rw [if_neg c10] at H
                    have c10b0 : (a0 == 45) = false := beq_eq_false_iff_ne.mpr c10
                    have c10b1 : (a0 != 45) = true := bne_iff_ne.mpr c10
                    obtain rfl := Option.some.inj H
                    go_enter Tryd.func109, Tryd.ntmps109
                    go_wp2
                    go_ret
                    exact ⟨by first | rfl | (simp; done) | (simp [*]; done), by repeat (first | exact Drawn0.refl _ | apply Drawn0.step)⟩
          · rw [if_neg c6] at H
            have c6b0 : decide (48 ≤ a0) = false := decide_eq_false c6
            clear c6
            by_cases c11 : a0 = 46
            · rw [if_pos c11] at H
              have c11b0 : (a0 == 46) = true := beq_iff_eq.mpr c11
              have c11b1 : (a0 != 46) = false := bne_eq_false_iff_eq.mpr c11
              clear c11
              obtain rfl := Option.some.inj H
              go_enter Tryd.func109, Tryd.ntmps109
              go_wp2
              go_ret
              exact ⟨by first | rfl | (simp; done) | (simp [*]; done), by repeat (first | exact Drawn0.refl _ | apply Drawn0.step)⟩
            · rw [if_neg c11] at H
              have c11b0 : (a0 == 46) = false := beq_eq_false_iff_ne.mpr c11
              have c11b1 : (a0 != 46) = true := bne_iff_ne.mpr c11
              by_cases c12 : a0 = 95
              · rw [if_pos c12] at H
                have c12b0 : (a0 == 95) = true := beq_iff_eq.mpr c12
                have c12b1 : (a0 != 95) = false := bne_eq_false_iff_eq.mpr c12
                clear c12
                obtain rfl := Option.some.inj H
                go_enter Tryd.func109, Tryd.ntmps109
                go_wp2
                go_ret
                exact ⟨by first | rfl | (simp; done) | (simp [*]; done), by repeat (first | exact Drawn0.refl _ | apply Drawn0.step)⟩
              · rw [if_neg c12] at H
                have c12b0 : (a0 == 95) = false := beq_eq_false_iff_ne.mpr c12
                have c12b1 : (a0 != 95) = true := bne_iff_ne.mpr c12
                by_cases c13 : a0 = 45
                · rw [if_pos c13] at H
                  have c13b0 : (a0 == 45) = true := beq_iff_eq.mpr c13
                  have c13b1 : (a0 != 45) = false := bne_eq_false_iff_eq.mpr c13
                  clear c13
                  obtain rfl := Option.some.inj H
                  go_enter Tryd.func109, Tryd.ntmps109
                  go_wp2
                  go_ret
                  exact ⟨by first | rfl | (simp; done) | (simp [*]; done), by repeat (first | exact Drawn0.refl _ | apply Drawn0.step)⟩
                · rw [if_neg c13] at H
                  have c13b0 : (a0 == 45) = false := beq_eq_false_iff_ne.mpr c13
                  have c13b1 : (a0 != 45) = true := bne_iff_ne.mpr c13
                  obtain rfl := Option.some.inj H
                  go_enter Tryd.func109, Tryd.ntmps109
                  go_wp2
                  go_ret
                  exact ⟨by first | rfl | (simp; done) | (simp [*]; done), by repeat (first | exact Drawn0.refl _ | apply Drawn0.step)⟩
      · rw [if_neg c4] at H
        have c4b0 : decide (65 ≤ a0) = false := decide_eq_false c4
        clear c4
        by_cases c14 : a0 ≥ 48
        · rw [if_pos c14] at H
          have c14b0 : decide (48 ≤ a0) = true := decide_eq_true c14
          clear c14
          by_cases c15 : a0 ≤ 57
          · rw [if_pos c15] at H
            have c15b0 : decide (a0 ≤ 57) = true := decide_eq_true c15
            clear c15
            obtain rfl := Option.some.inj H
            go_enter Tryd.func109, Tryd.ntmps109
            go_wp2
            go_ret
            exact ⟨by first | rfl | (simp; done) | (simp [*]; done), by repeat (first | exact Drawn0.refl _ | apply Drawn0.step)⟩
          · rw [if_neg c15] at H
            have c15b0 : decide (a0 ≤ 57) = false := decide_eq_false c15
            clear c15
            by_cases c16 : a0 = 46
            · rw [if_pos c16] at H
              have c16b0 : (a0 == 46) = true := beq_iff_eq.mpr c16
              have c16b1 : (a0 != 46) = false := bne_eq_false_iff_eq.mpr c16
              clear c16
              obtain rfl := Option.some.inj H
              go_enter Tryd.func109, Tryd.ntmps109
              go_wp2
              go_ret
              exact ⟨by first | rfl | (simp; done) | (simp [*]; done), by repeat (first | exact Drawn0.refl _ | apply Drawn0.step)⟩
            · rw [if_neg c16] at H
              have c16b0 : (a0 == 46) = false := beq_eq_false_iff_ne.mpr c16
              have c16b1 : (a0 != 46) = true := bne_iff_ne.mpr c16
              by_cases c17 : a0 = 95
              · rw [if_pos c17] at H
                have c17b0 : (a0 == 95) = true := beq_iff_eq.mpr c17
                have c17b1 : (a0 != 95) = false := bne_eq_false_iff_eq.mpr c17
                clear c17
                obtain rfl := Option.some.inj H
                go_enter Tryd.func109, Tryd.ntmps109
                go_wp2
                go_ret
                exact ⟨by first | rfl | (simp; done) | (simp [*]; done), by repeat (first | exact Drawn0.refl _ | apply Drawn0.step)⟩
              · rw [if_neg c17] at H
                have c17b0 : (a0 == 95) = false := beq_eq_false_iff_ne.mpr c17
                have c17b1 : (a0 != 95) = true := bne_iff_ne.mpr c17
                by_cases c18 : a0 = 45
                · rw [if_pos c18] at H
                  have c18b0 : (a0 == 45) = true := beq_iff_eq.mpr c18
                  have c18b1 : (a0 != 45) = false := bne_eq_false_iff_eq.mpr c18
                  clear c18
                  obtain rfl := Option.some.inj H
                  go_enter Tryd.func109, Tryd.ntmps109
                  go_wp2
                  go_ret
                  exact ⟨by first | rfl | (simp; done) | (simp [*]; done), by repeat (first | exact Drawn0.refl _ | apply Drawn0.step)⟩
                · rw [if_neg c18] at H
                  have c18b0 : (a0 == 45) = false := beq_eq_false_iff_ne.mpr c18
                  have c18b1 : (a0 != 45) = true := bne_iff_ne.mpr c18
                  obtain rfl := Option.some.inj H
                  go_enter Tryd.func109, Tryd.ntmps109
                  go_wp2
                  go_ret
                  exact ⟨by first | rfl | (simp; done) | (simp [*]; done), by repeat (first | exact Drawn0.refl _ | apply Drawn0.step)⟩
        · rw [if_neg c14] at H
          have c14b0 : decide (48 ≤ a0) = false := decide_eq_false c14
          clear c14
          by_cases c19 : a0 = 46
          · rw [if_pos c19] at H
            have c19b0 : (a0 == 46) = true := beq_iff_eq.mpr c19
            have c19b1 : (a0 != 46) = false := bne_eq_false_iff_eq.mpr c19
            clear c19
            obtain rfl := Option.some.inj H
            go_enter Tryd.func109, Tryd.ntmps109
            go_wp2
            go_ret
            exact ⟨by first | rfl | (simp; done) | (simp [*]; done), by repeat (first | exact Drawn0.refl _ | apply Drawn0.step)⟩
          · rw [if_neg c19] at H
            have c19b0 : (a0 == 46) = false := beq_eq_false_iff_ne.mpr c19
            have c19b1 : (a0 != 46) = true := bne_iff_ne.mpr c19
            by_cases c20 : a0 = 95
            · rw [if_pos c20] at H
              have c20b0 : (a0 == 95) = true := beq_iff_eq.mpr c20
              have c20b1 : (a0 != 95) = false := bne_eq_false_iff_eq.mpr c20
              clear c20
              obtain rfl := Option.some.inj H
              go_enter Tryd.func109, Tryd.ntmps109
              go_wp2
              go_ret
              exact ⟨by first | rfl | (simp; done) | (simp [*]; done), by repeat (first | exact Drawn0.refl _ | apply Drawn0.step)⟩
            · rw [if_neg c20] at H
              have c20b0 : (a0 == 95) = false := beq_eq_false_iff_ne.mpr c20
              have c20b1 : (a0 != 95) = true := bne_iff_ne.mpr c20
              by_cases c21 : a0 = 45
              · rw [if_pos c21] at H
                have c21b0 : (a0 == 45) = true := beq_iff_eq.mpr c21
                have c21b1 : (a0 != 45) = false := bne_eq_false_iff_eq.mpr c21
                clear c21
                obtain rfl := Option.some.inj H
                go_enter Tryd.func109, Tryd.ntmps109
                go_wp2
                go_ret
                exact ⟨by first | rfl | (simp; done) | (simp [*]; done), by repeat (first | exact Drawn0.refl _ | apply Drawn0.step)⟩
              · rw [if_neg c21] at H
                have c21b0 : (a0 == 45) = false := beq_eq_false_iff_ne.mpr c21
                have c21b1 : (a0 != 45) = true := bne_iff_ne.mpr c21
                obtain rfl := Option.some.inj H
                go_enter Tryd.func109, Tryd.ntmps109
                go_wp2
                go_ret
                exact ⟨by first | rfl | (simp; done) | (simp [*]; done), by repeat (first | exact Drawn0.refl _ | apply Drawn0.step)⟩
  · rw [if_neg c2] at H
    have c2b0 : decide (97 ≤ a0) = false := decide_eq_false c2
    clear c2
    by_cases c22 : a0 ≥ 65
    · rw [if_pos c22] at H
      have c22b0 : decide (65 ≤ a0) = true := decide_eq_true c22
      clear c22
      by_cases c23 : a0 ≤ 90
      · rw [if_pos c23] at H
        have c23b0 : decide (a0 ≤ 90) = true := decide_eq_true c23
        clear c23
        obtain rfl := Option.some.inj H
        go_enter Tryd.func109, Tryd.ntmps109
        go_wp2
        go_ret
        exact ⟨by first | rfl | (simp; done) | (simp [*]; done), by repeat (first | exact Drawn0.refl _ | apply Drawn0.step)⟩
      · rw [if_neg c23] at H
        have c23b0 : decide (a0 ≤ 90) = false := decide_eq_false c23
        clear c23
        by_cases c24 : a0 ≥ 48
        · rw [if_pos c24] at H
          have c24b0 : decide (48 ≤ a0) = true := decide_eq_true c24
          clear c24
          by_cases c25 : a0 ≤ 57
          · rw [if_pos c25] at H
            have c25b0 : decide (a0 ≤ 57) = true := decide_eq_true c25
            clear c25
            obtain rfl := Option.some.inj H
            go_enter Tryd.func109, Tryd.ntmps109
            go_wp2
            go_ret
            exact ⟨by first | rfl | (simp; done) | (simp [*]; done), by repeat (first | exact Drawn0.refl _ | apply Drawn0.step)⟩
          · rw [if_neg c25] at H
            have c25b0 : decide (a0 ≤ 57) = false := decide_eq_false c25
            clear c25
            by_cases c26 : a0 = 46
            · rw [if_pos c26] at H
              have c26b0 : (a0 == 46) = true := beq_iff_eq.mpr c26
              have c26b1 : (a0 != 46) = false := bne_eq_false_iff_eq.mpr c26
              clear c26
              obtain rfl := Option.some.inj H
              go_enter Tryd.func109, Tryd.ntmps109
              go_wp2
              go_ret
              exact ⟨by first | rfl | (simp; done) | (simp [*]; done), by repeat (first | exact Drawn0.refl _ | apply Drawn0.step)⟩
            · rw [if_neg c26] at H
              have c26b0 : (a0 == 46) = false := beq_eq_false_iff_ne.mpr c26
              have c26b1 : (a0 != 46) = true := bne_iff_ne.mpr c26
              by_cases c27 : a0 = 95
              · rw [if_pos c27] at H
                have c27b0 : (a0 == 95) = true := beq_iff_eq.mpr c27
                have c27b1 : (a0 != 95) = false := bne_eq_false_iff_eq.mpr c27
                clear c27
                obtain rfl := Option.some.inj H
                go_enter Tryd.func109, Tryd.ntmps109
                go_wp2
                go_ret
                exact ⟨by first | rfl | (simp; done) | (simp [*]; done), by repeat (first | exact Drawn0.refl _ | apply Drawn0.step)⟩
              · rw [if_neg c27] at H
                have c27b0 : (a0 == 95) = false := beq_eq_false_iff_ne.mpr c27
                have c27b1 : (a0 != 95) = true := bne_iff_ne.mpr c27
                by_cases c28 : a0 = 45
                · rw [if_pos c28] at H
                  have c28b0 : (a0 == 45) = true := beq_iff_eq.mpr c28
                  have c28b1 : (a0 != 45) = false := bne_eq_false_iff_eq.mpr c28
                  clear c28
                  obtain rfl := Option.some.inj H
                  go_enter Tryd.func109, Tryd.ntmps109
                  go_wp2
                  go_ret
                  exact ⟨by first | rfl | (simp; done) | (simp [*]; done), by repeat (first | exact Drawn0.refl _ | apply Drawn0.step)⟩
                · rw [if_neg c28] at H
                  have c28b0 : (a0 == 45) = false := beq_eq_false_iff_ne.mpr c28
                  have c28b1 : (a0 != 45) = true := bne_iff_ne.mpr c28
                  obtain rfl := Option.some.inj H
                  go_enter Tryd.func109, Tryd.ntmps109
                  go_wp2
                  go_ret
                  exact ⟨by first | rfl | (simp; done) | (simp [*]; done), by repeat (first | exact Drawn0.refl _ | apply Drawn0.step)⟩
        · rw [if_neg c24] at H
          have c24b0 : decide (48 ≤ a0) = false := decide_eq_false c24
          clear c24
          by_cases c29 : a0 = 46
          · rw [if_pos c29] at H
            have c29b0 : (a0 == 46) = true := beq_iff_eq.mpr c29
            have c29b1 : (a0 != 46) = false := bne_eq_false_iff_eq.mpr c29
            clear c29
            obtain rfl := Option.some.inj H
            go_enter Tryd.func109, Tryd.ntmps109
            go_wp2
            go_ret
            exact ⟨by first | rfl | (simp; done) | (simp [*]; done), by repeat (first | exact Drawn0.refl _ | apply Drawn0.step)⟩
          · rw [if_neg c29] at H
            have c29b0 : (a0 == 46) = false := beq_eq_false_iff_ne.mpr c29
            have c29b1 : (a0 != 46) = true := bne_iff_ne.mpr c29
            by_cases c30 : a0 = 95
            · rw [if_pos c30] at H
              have c30b0 : (a0 == 95) = true := beq_iff_eq.mpr c30
              have c30b1 : (a0 != 95) = false := bne_eq_false_iff_eq.mpr c30
              clear c30
              obtain rfl := Option.some.inj H
              go_enter Tryd.func109, Tryd.ntmps109
              go_wp2
              go_ret
              exact ⟨by first | rfl | (simp; done) | (simp [*]; done), by repeat (first | exact Drawn0.refl _ | apply Drawn0.step)⟩
            · rw [if_neg c30] at H
              have c30b0 : (a0 == 95) = false := beq_eq_false_iff_ne.mpr c30
              have c30b1 : (a0 != 95) = true := bne_iff_ne.mpr c30
              by_cases c31 : a0 = 45
              · rw [if_pos c31] at H
                have c31b0 : (a0 == 45) = true := beq_iff_eq.mpr c31
                have c31b1 : (a0 != 45) = false := bne_eq_false_iff_eq.mpr c31
                clear c31
                obtain rfl := Option.some.inj H
                go_enter Tryd.func109, Tryd.ntmps109
                go_wp2
                go_ret
                exact ⟨by first | rfl | (simp; done) | (simp [*]; done), by repeat (first | exact Drawn0.refl _ | apply Drawn0.step)⟩
              · rw [if_neg c31] at H
                have c31b0 : (a0 == 45) = false := beq_eq_false_iff_ne.mpr c31
                have c31b1 : (a0 != 45) = true := bne_iff_ne.mpr c31
                obtain rfl := Option.some.inj H
                go_enter Tryd.func109, Tryd.ntmps109
                go_wp2
                go_ret
                exact ⟨by first | rfl | (simp; done) | (simp [*]; done), by repeat (first | exact Drawn0.refl _ | apply Drawn0.step)⟩
    · rw [if_neg c22] at H
      have c22b0 : decide (65 ≤ a0) = false := decide_eq_false c22
      clear c22
      by_cases c32 : a0 ≥ 48
      · rw [if_pos c32] at H
        have c32b0 : decide (48 ≤ a0) = true := decide_eq_true c32
        clear c32
        by_cases c33 : a0 ≤ 57
        · rw [if_pos c33] at H
          have c33b0 : decide (a0 ≤ 57) = true := decide_eq_true c33
          clear c33
          obtain rfl := Option.some.inj H
          go_enter Tryd.func109, Tryd.ntmps109
          go_wp2
          go_ret
          exact ⟨by first | rfl | (simp; done) | (simp [*]; done), by repeat (first | exact Drawn0.refl _ | apply Drawn0.step)⟩
        · rw [if_neg c33] at H
          have c33b0 : decide (a0 ≤ 57) = false := decide_eq_false c33
          clear c33
          by_cases c34 : a0 = 46
          · rw [if_pos c34] at H
            have c34b0 : (a0 == 46) = true := beq_iff_eq.mpr c34
            have c34b1 : (a0 != 46) = false := bne_eq_false_iff_eq.mpr c34
            clear c34
            obtain rfl := Option.some.inj H
            go_enter Tryd.func109, Tryd.ntmps109
            go_wp2
            go_ret
            exact ⟨by first | rfl | (simp; done) | (simp [*]; done), by repeat (first | exact Drawn0.refl _ | apply Drawn0.step)⟩
          · rw [if_neg c34] at H
            have c34b0 : (a0 == 46) = false := beq_eq_false_iff_ne.mpr c34
            have c34b1 : (a0 != 46) = true := bne_iff_ne.mpr c34
            by_cases c35 : a0 = 95
            · rw [if_pos c35] at H
              have c35b0 : (a0 == 95) = true := beq_iff_eq.mpr c35
              have c35b1 : (a0 != 95) = false := bne_eq_false_iff_eq.mpr c35
              clear c35
              obtain rfl := Option.some.inj H
              go_enter Tryd.func109, Tryd.ntmps109
              go_wp2
              go_ret
              exact ⟨by first | rfl | (simp; done) | (simp [*]; done), by repeat (first | exact Drawn0.refl _ | apply Drawn0.step)⟩
            · rw [if_neg c35] at H
              have c35b0 : (a0 == 95) = false := beq_eq_false_iff_ne.mpr c35
              have c35b1 : (a0 != 95) = true := bne_iff_ne.mpr c35
              by_cases c36 : a0 = 45
              · rw [if_pos c36] at H
                have c36b0 : (a0 == 45) = true := beq_iff_eq.mpr c36
                have c36b1 : (a0 != 45) = false := bne_eq_false_iff_eq.mpr c36
                clear c36
                obtain rfl := Option.some.inj H
                go_enter Tryd.func109, Tryd.ntmps109
                go_wp2
                go_ret
                exact ⟨by first | rfl | (simp; done) | (simp [*]; done), by repeat (first | exact Drawn0.refl _ | apply Drawn0.step)⟩
              · rw [if_neg c36] at H
                have c36b0 : (a0 == 45) = false := beq_eq_false_iff_ne.mpr c36
                have c36b1 : (a0 != 45) = true := bne_iff_ne.mpr c36
                obtain rfl := Option.some.inj H
                go_enter Tryd.func109, Tryd.ntmps109
                go_wp2
                go_ret
                exact ⟨by first | rfl | (simp; done) | (simp [*]; done), by repeat (first | exact Drawn0.refl _ | apply Drawn0.step)⟩
      · rw [if_neg c32] at H
        have c32b0 : decide (48 ≤ a0) = false := decide_eq_false c32
        clear c32
        by_cases c37 : a0 = 46
        · rw [if_pos c37] at H
          have c37b0 : (a0 == 46) = true := beq_iff_eq.mpr c37
          have c37b1 : (a0 != 46) = false := bne_eq_false_iff_eq.mpr c37
          clear c37
          obtain rfl := Option.some.inj H
          go_enter Tryd.func109, Tryd.ntmps109
          go_wp2
          go_ret
          exact ⟨by first | rfl | (simp; done) | (simp [*]; done), by repeat (first | exact Drawn0.refl _ | apply Drawn0.step)⟩
        · rw [if_neg c37] at H
          have c37b0 : (a0 == 46) = false := beq_eq_false_iff_ne.mpr c37
          have c37b1 : (a0 != 46) = true := bne_iff_ne.mpr c37
          by_cases c38 : a0 = 95
          · rw [if_pos c38] at H
            have c38b0 : (a0 == 95) = true := beq_iff_eq.mpr c38
            have c38b1 : (a0 != 95) = false := bne_eq_false_iff_eq.mpr c38
            clear c38
            obtain rfl := Option.some.inj H
            go_enter Tryd.func109, Tryd.ntmps109
            go_wp2
            go_ret
            exact ⟨by first | rfl | (simp; done) | (simp [*]; done), by repeat (first | exact Drawn0.refl _ | apply Drawn0.step)⟩
          · rw [if_neg c38] at H
            have c38b0 : (a0 == 95) = false := beq_eq_false_iff_ne.mpr c38
            have c38b1 : (a0 != 95) = true := bne_iff_ne.mpr c38
            by_cases c39 : a0 = 45
            · rw [if_pos c39] at H
              have c39b0 : (a0 == 45) = true := beq_iff_eq.mpr c39
              have c39b1 : (a0 != 45) = false := bne_eq_false_iff_eq.mpr c39
              clear c39
              obtain rfl := Option.some.inj H
              go_enter Tryd.func109, Tryd.ntmps109
              go_wp2
              go_ret
              exact ⟨by first | rfl | (simp; done) | (simp [*]; done), by repeat (first | exact Drawn0.refl _ | apply Drawn0.step)⟩
            · rw [if_neg c39] at H
              have c39b0 : (a0 == 45) = false := beq_eq_false_iff_ne.mpr c39
              have c39b1 : (a0 != 45) = true := bne_iff_ne.mpr c39
              obtain rfl := Option.some.inj H
              go_enter Tryd.func109, Tryd.ntmps109
              go_wp2
              go_ret
              exact ⟨by first | rfl | (simp; done) | (simp [*]; done), by repeat (first | exact Drawn0.refl _ | apply Drawn0.step)⟩
def paymasterref07_MayId.l0 : Nat → ByteArray → Int → Int → Option (Bool)
  | 0, _, _, _ => none
  | k + 1, x0, x3, x4 => if x4 < (x0.size : Int) then ((paymasterref07_Rune.f k x0 x4).bind fun bt381 => (if bt381.2 = 0 then (some false) else ((paymasterref07_within.f bt381.1).bind fun t383 => (if t383 = true then (paymasterref07_MayId.l0 k x0 (wrap64 (x3 + 1)) (wrap64 (x4 + bt381.2))) else (some false))))) else (if x3 ≥ 1 then (some (decide (x3 ≤ 24))) else (some false))
def paymasterref07_MayId.f (k : Nat) (a0 : ByteArray) : Option (Bool) := paymasterref07_MayId.l0 k a0 0 0
theorem paymasterref07_MayId.mono_l : ∀ k, (∀ y0 y1 y2, LeO (paymasterref07_MayId.l0 k y0 y1 y2) (paymasterref07_MayId.l0 (k + 1) y0 y1 y2))
  | 0 => fun _ _ _ r h => by simp [paymasterref07_MayId.l0] at h
  | k + 1 => by
    have ih0 := paymasterref07_MayId.mono_l k
    · intro y0 y1 y2
      unfold paymasterref07_MayId.l0
      repeat' first
      | (with_reducible exact ih0 _ _ _)
      | (with_reducible exact paymasterref07_Rune.mono _ _ _)
      | (with_reducible exact LeO.refl _)
      | (with_reducible exact LeO.none _)
      | (with_reducible refine LeO.ite ?_ ?_)
      | (with_reducible refine LeO.bind ?_ (fun _ => ?_))
      | exact ih0 _ _ _
      | exact paymasterref07_Rune.mono _ _ _
      | exact LeO.none _
      | refine LeO.ite ?_ ?_
      | refine LeO.bind ?_ (fun _ => ?_)
theorem paymasterref07_MayId.mono : ∀ a0 k, LeO (paymasterref07_MayId.f k a0) (paymasterref07_MayId.f (k + 1) a0) := by
  intro a0 k
  have ih0 := paymasterref07_MayId.mono_l k
  unfold paymasterref07_MayId.f
  repeat' first
      | (with_reducible exact ih0 _ _ _)
      | (with_reducible exact paymasterref07_Rune.mono _ _ _)
      | (with_reducible exact LeO.refl _)
      | (with_reducible exact LeO.none _)
      | (with_reducible refine LeO.ite ?_ ?_)
      | (with_reducible refine LeO.bind ?_ (fun _ => ?_))
      | exact ih0 _ _ _
      | exact paymasterref07_Rune.mono _ _ _
      | exact LeO.none _
      | refine LeO.ite ?_ ?_
      | refine LeO.bind ?_ (fun _ => ?_)
set_option maxHeartbeats 8000000 in
set_option maxRecDepth 100000 in
theorem paymasterref07_MayId.calls (k : Nat) (a0 : ByteArray) (r : Bool) (w : World) (h : paymasterref07_MayId.f k a0 = some r) :
    Calls Tryd.prog 81 #[.string a0] w fun e w' => e = .returned (.bool r) ∧ Drawn0 w w' := by
  have H : (paymasterref07_MayId.l0 k a0 0 0) = some r := h
  clear h
  have H' := Aside0.mk H
  clear H
  go_enter Tryd.func81, Tryd.ntmps81
  go_wp2
  go_loopg [3, 4] k (fun kq v3 v4 w' => ∃ (x3_1 : Int) (x4_1 : Int), v3 = .int .i64 x3_1 ∧ v4 = .int .i64 x4_1 ∧ Aside0 (paymasterref07_MayId.l0 kq a0 x3_1 x4_1 = some r) ∧ Aside0 (kq ≤ k) ∧ Drawn0 w w')
  case atStart => exact ⟨(0), (0), (by first | rfl | (simp; done) | (simp [*]; done)), (by first | rfl | (simp; done) | (simp [*]; done)), H', ⟨Nat.le_refl _⟩, by repeat (first | exact Drawn0.refl _ | apply Drawn0.step)⟩
  case round =>
    clear H'
    obtain ⟨x3_1, x4_1, rfl, rfl, HA, HK1, ⟨m1, rfl⟩⟩ := hrel
    cases gk with
    | zero => exact absurd HA.out (by simp [paymasterref07_MayId.l0])
    | succ k1 =>
      have H := HA.out
      clear HA
      simp only [paymasterref07_MayId.l0] at H
      by_cases c2 : x4_1 < (a0.size : Int)
      · rw [if_pos c2] at H
        have c2b0 : decide (x4_1 < (a0.size : Int)) = true := decide_eq_true c2
        clear c2
        replace H := Option.bind_eq_some_iff.mp H
        obtain ⟨⟨t381, t382⟩, A30, H⟩ := H
        replace H : (if t382 = 0 then (some false) else ((paymasterref07_within.f t381).bind fun t383 => (if t383 = true then (paymasterref07_MayId.l0 k1 a0 (wrap64 (x3_1 + 1)) (wrap64 (x4_1 + t382))) else (some false)))) = some r := H
        have A3 := Aside0.mk A30
        clear A30
        by_cases c4 : t382 = 0
        · rw [if_pos c4] at H
          have c4b0 : (t382 == 0) = true := beq_iff_eq.mpr c4
          have c4b1 : (t382 != 0) = false := bne_eq_false_iff_eq.mpr c4
          clear c4
          obtain rfl := Option.some.inj H
          go_wp2_with (first | ((with_reducible refine gate_callee (f := 59) rfl ?_); refine goesL_ (some 14) rfl rfl Tryd.func59 (by kernel_rfl) rfl #[.string a0, .int .i64 x4_1] rfl (by (try simp only [List.map_toArray, List.map_cons, List.map_nil]); first | done | rfl | (simp only [List.length_drop, List.length_take]; rfl)) ?_; (with_reducible refine (paymasterref07_Rune.calls k1 a0 x4_1 t381 t382 _ A3.out).mono ?_); rintro e w' ⟨rfl, ⟨nd, rfl⟩⟩; refine ⟨_, rfl, ?_⟩))
          go_ret
          exact ⟨by first | rfl | (simp; done) | (simp [*]; done), by repeat (first | exact Drawn0.refl _ | apply Drawn0.step)⟩
        · rw [if_neg c4] at H
          have c4b0 : (t382 == 0) = false := beq_eq_false_iff_ne.mpr c4
          have c4b1 : (t382 != 0) = true := bne_iff_ne.mpr c4
          replace H := Option.bind_eq_some_iff.mp H
          obtain ⟨t383, A50, H⟩ := H
          replace H : (if t383 = true then (paymasterref07_MayId.l0 k1 a0 (wrap64 (x3_1 + 1)) (wrap64 (x4_1 + t382))) else (some false)) = some r := H
          have A5 := Aside0.mk A50
          clear A50
          by_cases c6 : t383 = true
          · subst c6
            have H1 : (paymasterref07_MayId.l0 k1 a0 (wrap64 (x3_1 + 1)) (wrap64 (x4_1 + t382))) = some r := by rw [if_pos rfl] at H; exact H
            clear H
            have H := H1
            clear H1
            have H' := Aside0.mk H
            clear H
            go_wp2_with (first | ((with_reducible refine gate_callee (f := 59) rfl ?_); refine goesL_ (some 14) rfl rfl Tryd.func59 (by kernel_rfl) rfl #[.string a0, .int .i64 x4_1] rfl (by (try simp only [List.map_toArray, List.map_cons, List.map_nil]); first | done | rfl | (simp only [List.length_drop, List.length_take]; rfl)) ?_; (with_reducible refine (paymasterref07_Rune.calls k1 a0 x4_1 t381 t382 _ A3.out).mono ?_); rintro e w' ⟨rfl, ⟨nd, rfl⟩⟩; refine ⟨_, rfl, ?_⟩) | (go_at_call 109; (with_reducible refine (paymasterref07_within.calls t381 true _ A5.out).mono ?_); rintro e w' ⟨rfl, ⟨nd, rfl⟩⟩))
            go_roundg k1
            case measure => have := HK1.out; omega
            case rel => exact ⟨(wrap64 (x3_1 + 1)), (wrap64 (x4_1 + t382)), (by first | rfl | (simp; done) | (simp [*]; done)), (by first | rfl | (simp; done) | (simp [*]; done)), H', ⟨by have := HK1.out; omega⟩, by repeat (first | exact Drawn0.refl _ | apply Drawn0.step)⟩
          · replace c6 := Bool.eq_false_iff.mpr c6
            subst c6
            have H1 : (some false) = some r := by rw [if_neg (show ¬ (false = true) by decide)] at H; exact H
            clear H
            have H := H1
            clear H1
            obtain rfl := Option.some.inj H
            go_wp2_with (first | ((with_reducible refine gate_callee (f := 59) rfl ?_); refine goesL_ (some 14) rfl rfl Tryd.func59 (by kernel_rfl) rfl #[.string a0, .int .i64 x4_1] rfl (by (try simp only [List.map_toArray, List.map_cons, List.map_nil]); first | done | rfl | (simp only [List.length_drop, List.length_take]; rfl)) ?_; (with_reducible refine (paymasterref07_Rune.calls k1 a0 x4_1 t381 t382 _ A3.out).mono ?_); rintro e w' ⟨rfl, ⟨nd, rfl⟩⟩; refine ⟨_, rfl, ?_⟩) | (go_at_call 109; (with_reducible refine (paymasterref07_within.calls t381 false _ A5.out).mono ?_); rintro e w' ⟨rfl, ⟨nd, rfl⟩⟩))
            go_ret
            exact ⟨by first | rfl | (simp; done) | (simp [*]; done), by repeat (first | exact Drawn0.refl _ | apply Drawn0.step)⟩
      · rw [if_neg c2] at H
        have c2b0 : decide (x4_1 < (a0.size : Int)) = false := decide_eq_false c2
        clear c2
        by_cases c7 : x3_1 ≥ 1
        · rw [if_pos c7] at H
          have c7b0 : decide (1 ≤ x3_1) = true := decide_eq_true c7
          clear c7
          obtain rfl := Option.some.inj H
          go_wp2
          go_ret
          exact ⟨by first | rfl | (simp; done) | (simp [*]; done), by repeat (first | exact Drawn0.refl _ | apply Drawn0.step)⟩
        · rw [if_neg c7] at H
          have c7b0 : decide (1 ≤ x3_1) = false := decide_eq_false c7
          clear c7
          obtain rfl := Option.some.inj H
          go_wp2
          go_ret
          exact ⟨by first | rfl | (simp; done) | (simp [*]; done), by repeat (first | exact Drawn0.refl _ | apply Drawn0.step)⟩
end Go.Proofs.YtpkjpiphjdpegaaDoor.P
namespace Go.Proofs.YtpkjpiphjdpegaaDoor.P
open Go.RowKit Go.Proofs.YtpkjpiphjdpegaaDoorW.PrintWords Go.Proofs.YtpkjpiphjdpegaaDoorW.PrintLast Go.Proofs.YtpkjpiphjdpegaaDoorW.PrintMore
set_option linter.unusedVariables false
set_option linter.unusedSimpArgs false
def cutAt (c : UInt8) : List UInt8 → Option (List UInt8 × List UInt8)
  | [] => none
  | b :: l => if b = c then some ([], l) else (cutAt c l).map fun p => (b :: p.1, p.2)
theorem cutAt_app (c : UInt8) : ∀ (p r : List UInt8), (∀ b ∈ p, b ≠ c) → cutAt c (p ++ r) = (cutAt c r).map fun q => (p ++ q.1, q.2)
  | [], r, _ => by rw [List.nil_append]; cases cutAt c r <;> rfl
  | b :: p, r, h => by
    rw [List.cons_append, cutAt, if_neg (h b (List.mem_cons_self ..)), cutAt_app c p r fun x hx => h x (List.mem_cons_of_mem _ hx)]
    cases cutAt c r <;> rfl
theorem cutAt_clean (c : UInt8) (p : List UInt8) (h : ∀ b ∈ p, b ≠ c) : cutAt c p = none := by
  have := cutAt_app c p [] h
  rw [List.append_nil] at this
  rw [this]; rfl
theorem cutAt_some {c : UInt8} : ∀ {l h t : List UInt8}, cutAt c l = some (h, t) → l = h ++ c :: t ∧ ∀ b ∈ h, b ≠ c
  | [], h, t, e => by cases e
  | b :: l, h, t, e => by
    rw [cutAt] at e
    by_cases q : b = c
    · rw [if_pos q] at e
      cases e
      rw [q]
      exact ⟨rfl, by simp⟩
    · rw [if_neg q] at e
      cases k : cutAt c l with
      | none => rw [k] at e; cases e
      | some p =>
        rw [k] at e
        cases e
        obtain ⟨h', t'⟩ := p
        obtain ⟨e1, e2⟩ := cutAt_some k
        refine ⟨by rw [e1]; rfl, fun x hx => ?_⟩
        rcases List.mem_cons.1 hx with rfl | hx
        · exact q
        · exact e2 x hx
theorem cutAt_none {c : UInt8} : ∀ {l : List UInt8}, cutAt c l = none → ∀ b ∈ l, b ≠ c
  | [], _ => by simp
  | b :: l, e => by
    rw [cutAt] at e
    by_cases q : b = c
    · rw [if_pos q] at e; cases e
    · rw [if_neg q] at e
      cases k : cutAt c l with
      | none =>
        intro x hx
        rcases List.mem_cons.1 hx with rfl | hx
        · exact q
        · exact cutAt_none k x hx
      | some p => rw [k] at e; cases e
theorem index_clean (c : UInt8) : ∀ (l : List UInt8), (∀ b ∈ l, b ≠ c) → Lib.indexByte l c = -1
  | [], _ => rfl
  | b :: l, h => by
    have ih := index_clean c l fun x hx => h x (List.mem_cons_of_mem _ hx)
    rw [Lib.indexByte, if_neg (by simpa using h b (List.mem_cons_self ..)), ih]
    rfl
theorem index_cut (c : UInt8) : ∀ (h t : List UInt8), (∀ b ∈ h, b ≠ c) → Lib.indexByte (h ++ c :: t) c = (h.length : Int)
  | [], t, _ => by rw [List.nil_append, Lib.indexByte, if_pos (by simp)]; rfl
  | b :: h, t, k => by
    have ih := index_cut c h t fun x hx => k x (List.mem_cons_of_mem _ hx)
    rw [List.cons_append, Lib.indexByte, if_neg (by simpa using k b (List.mem_cons_self ..)), ih, if_neg (by simp), List.length_cons]
    push_cast
    rfl
theorem cut_is (l : List UInt8) (hs : l.length ≤ 1000000000) (c : UInt8) : strings_Cut.f (mk l) (⟨#[c]⟩ : ByteArray) = some (match cutAt c l with
    | none => (mk l, (⟨#[]⟩ : ByteArray), false)
    | some (h, t) => (mk h, mk t, true)) := by
  have ix : stringslite_Index.f (mk l) (⟨#[c]⟩ : ByteArray) = some (Lib.indexByte l c) := by
    unfold stringslite_Index.f
    rw [if_pos (show (⟨#[c]⟩ : ByteArray).data.toList.length = 1 from rfl), mk_list]
    rfl
  have h1 : ((⟨#[c]⟩ : ByteArray).size : Int) = 1 := rfl
  unfold strings_Cut.f stringslite_Cut.f
  rw [ix, Option.bind_some]
  cases k : cutAt c l with
  | none =>
    rw [index_clean c l (cutAt_none k), if_neg (by omega), Option.bind_some]
  | some p =>
    obtain ⟨h, t⟩ := p
    obtain ⟨e1, e2⟩ := cutAt_some k
    have ll : l.length = h.length + (t.length + 1) := by rw [e1, List.length_append, List.length_cons]
    have w1 : wrap64 ((h.length : Int) + 1) = ((h.length + 1 : Nat) : Int) := by unfold wrap64; push_cast; omega
    have ei : Lib.indexByte l c = (h.length : Int) := by rw [e1]; exact index_cut c h t e2
    rw [ei, if_pos (by omega), if_pos (by omega), mk_size, if_pos (by omega), h1, w1, if_pos (by omega), if_pos (by omega), Option.bind_some, Int.toNat_natCast, Int.toNat_natCast, extract_mk, extract_mk, List.drop_zero, List.take_length, e1]
    rw [List.take_left, show h ++ c :: t = (h ++ [c]) ++ t by simp, List.drop_left' (by simp)]
def parseRow (l : List UInt8) : ByteArray × Int × Int × Int := match cutAt 32 l with
  | none => ((⟨#[]⟩ : ByteArray), 0, 0, 100)
  | some (h, t) => if mayId (mk h) = true then (if (parseOf (nb (mk t))).2.2 = 0 then (mk h, (parseOf (nb (mk t))).1, (parseOf (nb (mk t))).2.1, 0) else ((⟨#[]⟩ : ByteArray), 0, 0, 102)) else ((⟨#[]⟩ : ByteArray), 0, 0, 101)
theorem mayId_f (s : ByteArray) (hs : s.size ≤ 1000000000) : tag_MayId.f s = some (mayId s) := if_pos hs
theorem parse_is (l : List UInt8) (hs : l.length ≤ 1000000000) : row_Parse.f (mk l) = some (parseRow l) := by
  unfold row_Parse.f parseRow
  rw [cut_is l hs, Option.bind_some]
  cases k : cutAt 32 l with
  | none =>
    dsimp only
    rw [parse_num _ (by show 0 ≤ _; omega), Option.bind_some, if_neg (by decide)]
  | some p =>
    obtain ⟨h, t⟩ := p
    obtain ⟨e1, e2⟩ := cutAt_some k
    have ll : l.length = h.length + (t.length + 1) := by rw [e1, List.length_append, List.length_cons]
    dsimp only
    rw [parse_num _ (by rw [mk_size]; omega), Option.bind_some, if_pos rfl, mayId_f _ (by rw [mk_size]; omega), Option.bind_some]
    by_cases m : mayId (mk h) = true
    · rw [if_pos m, if_pos m]
      by_cases e : (parseOf (nb (mk t))).2.2 = 0
      · rw [if_pos e, if_pos e]
      · rw [if_neg e, if_neg e]
    · rw [if_neg m, if_neg m]
def oneB (h : List UInt8) : ByteArray × Int × Int × Bool × Int :=
  if wrongOf h = 0 then (if kindOf h = 2 then ((parseRow h).1, (parseRow h).2.1, (parseRow h).2.2.1, ((parseRow h).2.2.2 == 0), (parseRow h).2.2.2) else ((⟨#[]⟩ : ByteArray), 0, 0, false, 0)) else ((⟨#[]⟩ : ByteArray), 0, 0, false, wrongOf h)
theorem of_is (n : Int) (h : List UInt8) (hs : h.length ≤ 1000000000) : row_Of.f n (mk h) (kindOf h) (wrongOf h) = some (oneB h) := by
  unfold row_Of.f oneB
  by_cases c : wrongOf h = 0
  · rw [if_pos c, if_pos c]
    by_cases q : kindOf h = 2
    · rw [if_pos q, if_pos q, parse_is h hs, Option.bind_some]
    · rw [if_neg q, if_neg q]
  · rw [if_neg c, if_neg c]
def rowsL : Int → List S44 → List (List UInt8) → List S44 × Int × Int
  | _, acc, [] => (acc, 0, 0)
  | n, acc, h :: r => if (oneB h).2.2.2.2 = 0 then (if (oneB h).2.2.2.1 = true then rowsL (n + 1) (acc ++ [(⟨(oneB h).1, ⟨(oneB h).2.1, (oneB h).2.2.1⟩⟩ : S44)]) r else rowsL (n + 1) acc r) else ([], n, (oneB h).2.2.2.2)
end Go.Proofs.YtpkjpiphjdpegaaDoor.P
namespace Go.Proofs.YtpkjpiphjdpegaaDoor.P
open Go.RowKit Go.Proofs.YtpkjpiphjdpegaaDoorW.PrintWords Go.Proofs.YtpkjpiphjdpegaaDoorW.PrintLast Go.Proofs.YtpkjpiphjdpegaaDoorW.PrintMore
set_option linter.unusedVariables false
set_option linter.unusedSimpArgs false
theorem refWithin_is (c : Int) : paymasterref07_within.f c = some (withinR c) := by
  unfold paymasterref07_within.f withinR
  repeat' split
  all_goals first
    | exact congrArg some (decide_eq_true (by omega)).symm
    | exact congrArg some (decide_eq_decide.2 (by omega))
theorem refMayId_loop (s : ByteArray) (hs : s.size ≤ 1000000000) : ∀ (n p x : Nat), s.size ≤ p + n → x ≤ p → p ≤ s.size + 4 →
    paymasterref07_MayId.l0 (n + 11) s x p = some (Lib.validD (s.data.toList.drop p) && (runesAt s n p).all withinR && decide (1 ≤ x + (runesAt s n p).length ∧ x + (runesAt s n p).length ≤ 24))
  | n, p, x, h, hx, hp4 => by
    by_cases hp : p < s.size
    · obtain ⟨m, rfl⟩ : ∃ m, n = m + 1 := ⟨n - 1, by omega⟩
      have w1 := wide_pos s p hp
      have w4 := wide_4 s p
      have r1 := Lib.rune_le s p
      rw [paymasterref07_MayId.l0, if_pos (by omega), show m + 11 = (m + 1) + 10 from rfl, rune_is (m + 1) s p hp hs, Option.bind_some, runeR_is, valid_at s p hp]
      by_cases b : badAt s p
      · have e : decR (Utf8.decode s p) = (0, 0) := by unfold decR; rw [if_pos b]
        rw [e, if_pos b, if_pos rfl]
        rfl
      · have e : decR (Utf8.decode s p) = (((Utf8.decode s p).1 : Int), ((Utf8.decode s p).2 : Int)) := by unfold decR; rw [if_neg b]
        rw [e, if_neg b, if_neg (show ¬ (((Utf8.decode s p).2 : Nat) : Int) = 0 by omega), refWithin_is, Option.bind_some, runesAt, if_pos hp, List.all_cons]
        have wp : wrap64 ((p : Int) + (((Utf8.decode s p).2 : Nat) : Int)) = ((p + (Utf8.decode s p).2 : Nat) : Int) := by rw [wrap64_in _ (by omega)]; push_cast; rfl
        have wx : wrap64 ((x : Int) + 1) = ((x + 1 : Nat) : Int) := by rw [wrap64_in _ (by omega)]; push_cast; rfl
        by_cases c : withinR (((Utf8.decode s p).1 : Nat) : Int) = true
        · rw [if_pos c, wp, wx, show m + 1 + 10 = m + 11 by omega, refMayId_loop s hs m (p + (Utf8.decode s p).2) (x + 1) (by omega) (by omega) (by omega), c, Bool.true_and, List.length_cons]
          congr 2
          rw [decide_eq_decide]
          omega
        · rw [if_neg c]
          have c' : withinR (((Utf8.decode s p).1 : Nat) : Int) = false := by simpa using c
          rw [c', Bool.false_and, Bool.and_false, Bool.false_and]
    · rw [paymasterref07_MayId.l0, if_neg (by omega), valid_end s p hp, runesAt_end s n p hp]
      simp only [List.all_nil, Bool.and_self, Bool.true_and, List.length_nil, Nat.add_zero]
      by_cases c : (x : Int) ≥ 1
      · rw [if_pos c]
        exact congrArg some (decide_eq_decide.2 (by omega))
      · rw [if_neg c, decide_eq_false (by omega)]
theorem refMayId_is (s : ByteArray) (hs : s.size ≤ 1000000000) (k : Nat) (hk : s.size + 11 ≤ k) : paymasterref07_MayId.f k s = some (mayId s) := by
  refine up (F := fun k => paymasterref07_MayId.f k s) (paymasterref07_MayId.mono s) (a := s.size + 11) ?_ k hk
  have := refMayId_loop s hs s.size 0 0 (by omega) (Nat.le_refl _) (by omega)
  unfold paymasterref07_MayId.f
  rw [show (((0 : Nat) : Int)) = 0 from rfl] at this
  rw [this]
  unfold mayId
  rw [List.drop_zero, Nat.zero_add]
end Go.Proofs.YtpkjpiphjdpegaaDoor.P
