/- A program of this session wrote this text out of the session's own texts. (part 3 of 3) -/
import Derived.Test.YtpkjpiphjdpegaaDoorCLinesBack2
import Derived.Shelf.Unicode.ValidAny
import Derived.Lib.LaidU8T
import Derived.Ground.NamesProg
import Derived.Test.YtpkjpiphjdpegaaDoorProg
import Derived.Test.YtpkjpiphjdpegaaDoorRows
import Derived.Lay
import Derived.LaidMore
import Derived.Shelf.SlicesE.IndexFunc
import Derived.Ground.SlgfProg
import Derived.Shelf.Small.Utf8
import Derived.Lib.OthersKept
import Derived.Laws.Cover4
import Derived.Shelf.Strings.Search2
import Derived.Lib.IndexLaws
import Derived.Shelf.Abstract
import Derived.Shelf.RegionOpen
import Derived.WalkKit
import Derived.OwnWalkIn
import Derived.TacticsInMore
import Derived.LoopNIn
import Derived.LoopIn
import Derived.Maps.AppendAt
import Derived.Maps.OwnIn
import Derived.Lib.ValidLaws
import Derived.Lib.TrimUEq
import Derived.Laws.Bits64
import Derived.Laws.Externs
import Derived.Shelf.Spec.BitsCarry
import Derived.Laws.BitsLemmas
import Derived.Laws.Bits64b
import Derived.Shelf.Bits.Mul64
import Derived.Lib.Mul64
import Derived.Ground.GgwProg
import Derived.Shelf.GgClosure.StringsIndexFuncTop
import Derived.Laws.RangeAny
import Derived.Lib.ConvBytes
import Derived.Deep.RegionWith
import Derived.Shelf.Strings.OnBuilder
import Derived.Shelf.Strings.Search1
import Derived.Shelf.Strings.Search3
import Derived.Shelf.SlicesQ.IndexFunc
import Derived.Lib.SliceRun
import Derived.Lib.IndexAny
import Derived.KernelRfl
import Derived.Test.YtpkjpiphjdpegaaDoorTie
import Derived.Test.YtpkjpiphjdpegaaDoorCards
import Derived.SevenTiedAt
import Derived.ProofKit
import Derived.OpenShut
import Derived.ShutString
import Derived.ChangeOld
import Derived.Below
import Derived.SizedLaws
namespace Go.Proofs.YtpkjpiphjdpegaaDoor.P
open Go.Shelf Go.RowKit
def sh_laysValid_ren : Go.Shelf.Ren := ⟨fun | 196 => 58 | 259 => 93 | n => n, fun | 9 => 9 | 4 => 4 | 3 => 3 | 5 => 5 | 12 => 12 | 119 => 134 | 0 => 0 | 46 => 138 | 139 => 137 | 138 => 136 | 53 => 40 | n => n, fun | 3 => 0 | 4 => 1 | n => n⟩
theorem sh_laysValid : Go.Proofs.Lays.n196 Tryd.prog sh_laysValid_ren := {
  mixed := by kernel_rfl
  f196 := Tryd.func58.trans (congrArg some (by kernel_rfl))
  f259 := Tryd.func93.trans (congrArg some (by kernel_rfl))
  t0 := Tryd.underlying0
  a0 := Tryd.isAgg0
  z0 := Tryd.sizeOf0
  v0 := Tryd.zeroValue0
  t3 := Tryd.underlying3
  a3 := Tryd.isAgg3
  z3 := Tryd.sizeOf3
  v3 := Tryd.zeroValue3
  t4 := Tryd.underlying4
  a4 := Tryd.isAgg4
  z4 := Tryd.sizeOf4
  v4 := Tryd.zeroValue4
  t5 := Tryd.underlying5
  a5 := Tryd.isAgg5
  z5 := Tryd.sizeOf5
  v5 := Tryd.zeroValue5
  t9 := Tryd.underlying9
  a9 := Tryd.isAgg9
  z9 := Tryd.sizeOf9
  v9 := Tryd.zeroValue9
  t12 := Tryd.underlying12
  a12 := Tryd.isAgg12
  z12 := Tryd.sizeOf12
  v12 := Tryd.zeroValue12
  t46 := Tryd.underlying138
  a46 := Tryd.isAgg138
  z46 := Tryd.sizeOf138
  v46 := Tryd.zeroValue138
  t53 := Tryd.underlying40
  a53 := Tryd.isAgg40
  z53 := Tryd.sizeOf40
  v53 := Tryd.zeroValue40
  t119 := Tryd.underlying134
  a119 := Tryd.isAgg134
  z119 := Tryd.sizeOf134
  t138 := Tryd.underlying136
  a138 := Tryd.isAgg136
  z138 := Tryd.sizeOf136
  v138 := Tryd.zeroValue136
  t139 := Tryd.underlying137
  a139 := Tryd.isAgg137
  z139 := Tryd.sizeOf137
  v139 := Tryd.zeroValue137
  g3 := by kernel_rfl
  g4 := by kernel_rfl }
theorem sh_u8Extra : U8Extra Tryd.prog sh_laysValid_ren := {
  n3 := by kernel_rfl
  n4 := by kernel_rfl
  y3 := by kernel_rfl
  y4 := by kernel_rfl
  c5 := by kernel_rfl
  c119 := by kernel_rfl
  c138 := by kernel_rfl }
end Go.Proofs.YtpkjpiphjdpegaaDoor.P
namespace Go.Proofs.YtpkjpiphjdpegaaDoor.P
open Go.Shelf Go.RowKit
def GT (w : World) : Prop := Lib.Utf8Tabs 0 1 w
theorem gt_below {w w' : World} (h : GT w) (b : Below w.heap.size w w') : GT w' := Utf8Tabs_below h b
theorem valid_is (s : ByteArray) (w : World) (hs : s.size ≤ 9223372036854775807) (hT : GT w) :
    Calls Tryd.prog 58 #[.string s] w fun e w' => e = .returned (.bool (Lib.validD s.data.toList)) ∧ Below w.heap.size w w' :=
  Any.utf8_ValidString sh_laysValid s w hs hT
end Go.Proofs.YtpkjpiphjdpegaaDoor.P
namespace Go.Proofs.YtpkjpiphjdpegaaDoor.P
open Go.Shelf Go.RowKit
set_option maxRecDepth 100000
def laid : List (String × DataW Unit) := [("unicode/utf8.acceptRanges", Rows.laid_unicode_utf8_acceptRanges), ("unicode/utf8.first", Rows.laid_unicode_utf8_first)]
theorem first_is : Rows.laid_unicode_utf8_first = Lib.firstData := by kernel_rfl
theorem accept_is : (Rows.laid_unicode_utf8_acceptRanges : DataW Unit) = Lib.acceptData := by kernel_rfl
theorem plain_is {W : World} : laidMetH Tryd.prog laid W = laidMet Tryd.prog laid W := MakeChecks.laidMetH_plain _ _ _ (by kernel_rfl)
theorem gt_of {W : World} (h : laidMetH Tryd.prog laid W) : GT W := by
  rw [plain_is] at h
  exact utf8Tabs_of_readsT (U8Types.of196 sh_laysValid) sh_u8Extra (first_is ▸ Lib.laidMet.reads h (.tail _ (.head _))) (accept_is ▸ Lib.laidMet.reads h (.head _))
theorem own : ownKnob Tryd.prog.godebug = none := by kernel_rfl
theorem laidOut : laidOutB Tryd.prog = true := by kernel_rfl
theorem laid_met (os : Os) (args : Array Value) : laidMetH Tryd.prog laid ((World.laidAll Tryd.prog os laid).forCall (fun _ _ => 0) ⟨#[], args, []⟩).memory := by
  rw [plain_is]
  exact laidMet_laidAll _ (by kernel_rfl) (by kernel_rfl)
end Go.Proofs.YtpkjpiphjdpegaaDoor.P
namespace Go.Proofs.YtpkjpiphjdpegaaDoor.P
open Go.RowKit Go.Proofs.YtpkjpiphjdpegaaDoorW.PrintWords Go.Proofs.YtpkjpiphjdpegaaDoorW.PrintLast Go.Proofs.YtpkjpiphjdpegaaDoorW.PrintMore
set_option linter.unusedVariables false
set_option linter.unusedSimpArgs false
def runesAt (s : ByteArray) : Nat → Nat → List Int
  | 0, _ => []
  | n + 1, p => if p < s.size then ((Utf8.decode s p).1 : Int) :: runesAt s n (p + (Utf8.decode s p).2) else []
theorem runesAt_end (s : ByteArray) (n p : Nat) (h : ¬ p < s.size) : runesAt s n p = [] := by
  cases n with
  | zero => rfl
  | succ n => rw [runesAt, if_neg h]
def lines_Runes.f (a0 : ByteArray) : Option (List Int × Int) :=
  if a0.size ≤ 1000000000 then some (if Lib.validD a0.data.toList = true then (runesAt a0 a0.size 0, 0) else ([], 90)) else none
theorem wide_pos (s : ByteArray) (pos : Nat) (h : pos < s.size) : 1 ≤ (Utf8.decode s pos).2 := by
  by_cases ha : (s[pos]'h).toNat < 128
  · rw [decode_ascii s pos h ha]
    exact Nat.le_refl _
  · exact (decode_high s pos h (by omega)).2
theorem iter_grown (w : World) (k : Nat) (s : ByteArray) (p : Nat) : w.grownBy (w.iterAt k s p) (some k) :=
  ⟨rfl, rfl, rfl, by rw [Lib.iterAt_size]; exact Nat.le_refl _, fun j hj hk => Lib.iterAt_other w k j s p (fun e => hk (by rw [e]))⟩
set_option maxHeartbeats 8000000 in
set_option maxRecDepth 100000 in
theorem lines_Runes.calls (a0 : ByteArray) (r1 : List Int) (r2 : Int) (w : World) (hG : GT w) (h : lines_Runes.f a0 = some (r1, r2)) :
    Calls Tryd.prog 20 #[.string a0] w fun e w' => ∃ v0_ : Value, e = .returned (.tuple #[v0_, .int .i64 r2]) ∧ Kd.R (Kd.int .i32) 21 w' w.heap.size (fun _ => True) v0_ r1 ∧ Below w.heap.size w w' := by
  have hs : a0.size ≤ 1000000000 := by
    unfold lines_Runes.f at h
    split at h
    · assumption
    · cases h
  unfold lines_Runes.f at h
  rw [if_pos hs] at h
  have V := valid_is a0 w (by omega) hG
  by_cases b : Lib.validD a0.data.toList = true
  · rw [if_pos b] at h
    cases h
    rw [b] at V
    go_enter Tryd.func20, Tryd.ntmps20
    go_wp2_with (first | (go_at_call 58; (with_reducible refine V.mono ?_); rintro e W1 ⟨rfl, hb1⟩))
    have hwib : w.heap.size ≤ W1.heap.size := hb1.size
    go_loopg [4] a0.size (fun gk v4 wr => ∃ (x4 : List Int) (p : Nat), Aside0 (x4 ++ runesAt a0 gk p = runesAt a0 a0.size 0 ∧ x4.length ≤ p ∧ a0.size ≤ p + gk) ∧ wr.heap[W1.heap.size]? = some (.stringIter a0 p) ∧ Aside0 (Kd.R (Kd.int .i32) 21 wr w.heap.size (fun _ => True) v4 x4) ∧ Aside0 (Below w.heap.size w wr))
    case atStart =>
      refine ⟨[], 0, ⟨rfl, Nat.le_refl _, by omega⟩, ?_, ⟨Kd.R_nil _ _ _ _ _⟩, ⟨?_⟩⟩
      · exact World.iter_heap W1 a0 0
      · exact below_alloc hb1 _
    case round =>
      obtain ⟨x4, p, HX, hit, HO, HB⟩ := hrel
      have hlt : W1.heap.size < wr.heap.size := (Array.getElem?_eq_some_iff.1 hit).1
      by_cases hp : p < a0.size
      · have hnx : ∀ ty, (Instr.next (.pointer (some ⟨W1.heap.size, 0, none⟩)) true ty).run Tryd.prog wr = _ := fun ty => Lib.run_next_any_at wr W1.heap.size a0 p ty hit hp
        have hwd := wide_pos a0 p hp
        obtain ⟨k1, rfl⟩ : ∃ k1, gk = k1 + 1 := ⟨gk - 1, by have := HX.out.2.2; omega⟩
        have hne : some W1.heap.size ≠ u4.ownBlock := fun e => by
          obtain ⟨cells, hc⟩ := Kd.R_typed HO.out W1.heap.size e.symm
          rw [hit] at hc
          cases hc
        obtain ⟨W2, hW2⟩ : ∃ W2, wr.iterAt W1.heap.size a0 (p + (Utf8.decode a0 p).2) = W2 := ⟨_, rfl⟩
        have HO2 : Aside0 (Kd.R (Kd.int .i32) 21 W2 w.heap.size (fun _ => True) u4 x4) := ⟨by rw [← hW2]; exact Kd.R_grown2 HO.out rfl (iter_grown wr W1.heap.size a0 _) (fun k e => by cases e; exact hne)⟩
        have HB2 : Aside0 (Below w.heap.size w W2) := ⟨by rw [← hW2]; exact Lib.below_iterAt HB.out hwib a0 _⟩
        have hit2 : W2.heap[W1.heap.size]? = some (.stringIter a0 (p + (Utf8.decode a0 p).2)) := by rw [← hW2]; exact Lib.iterAt_heap wr W1.heap.size a0 p _ hit
        rw [hW2] at hnx
        have hx : x4.length ≤ 1000000000 := by have := HX.out.2.1; omega
        go_wp2_with (first | ((with_reducible refine gate_builtin (b := .append) (xs := #[.tmp 15, .tmp 17]) rfl ?_); at_builtin; refine Kd.R_append (Kd.int .i32) (w0 := w) w.heap.size rfl (.tmp 15) (.tmp 17) 22 21 (.int .i32 0) 4 rfl Tryd.underlying22 info21 rfl (by decide) (by omega) u4 x4 ((Utf8.decode a0 p).1 : Int) [.int .i32 ((Utf8.decode a0 p).1 : Int)] (fun _ => True) (fun _ => False) rfl rfl ?aP (fun _ hk => hk.elim) ?aF ?aO ?aB ?aS ?aL ?_; (case aP => exact rfl); (case aB => exact HB2.out); (case aF => exact (fun _ _ => trivial)); (case aO => exact HO2.out); (case aS => exact (below_size HB2.out)); (case aL => omega); intro v111 w6 ho hb hg hat))
        go_roundg k1
        case measure => omega
        case rel =>
          refine ⟨x4 ++ [((Utf8.decode a0 p).1 : Int)], p + (Utf8.decode a0 p).2, ⟨?_, ?_, ?_⟩, ?_, ⟨ho⟩, ⟨hb⟩⟩
          · rw [← HX.out.1, runesAt, if_pos hp, List.append_assoc]; rfl
          · have := HX.out.2.1; simp; omega
          · have := HX.out.2.2; omega
          · rw [hg.block W1.heap.size (by have := (Array.getElem?_eq_some_iff.1 hit2).1; exact this) hne]; exact hit2
      · have hnx : ∀ ty, (Instr.next (.pointer (some ⟨W1.heap.size, 0, none⟩)) true ty).run Tryd.prog wr = _ := fun ty => Lib.run_next_end_at wr W1.heap.size a0 p ty hit hp
        have e : x4 = runesAt a0 a0.size 0 := by have := HX.out.1; rw [runesAt_end a0 gk p hp, List.append_nil] at this; exact this
        go_wp2
        go_ret2
        exact ⟨_, rfl, by rw [← e]; exact HO.out, HB.out⟩
  · have b : Lib.validD a0.data.toList = false := by simpa using b
    rw [if_neg (by rw [b]; decide)] at h
    cases h
    rw [b] at V
    go_enter Tryd.func20, Tryd.ntmps20
    go_wp2_with (first | (go_at_call 58; (with_reducible refine V.mono ?_); rintro e W1 ⟨rfl, hb1⟩))
    go_ret2
    exact ⟨_, rfl, Kd.R_nil _ _ _ _ _, hb1⟩
theorem cell_lt {w : World} {a : Addr} {v : Value} (h : w.cell? a = some v) : a.block < w.heap.size ∧ a.spot = none := by
  unfold World.cell? at h
  split at h
  · rename_i c _ _ e
    refine ⟨(Array.getElem?_eq_some_iff.1 e).1, ?_⟩
    by_cases q : a.spot.isSome = true
    · rw [if_pos q] at h; cases h
    · simpa using q
  · cases h
end Go.Proofs.YtpkjpiphjdpegaaDoor.P
namespace Go.Proofs.YtpkjpiphjdpegaaDoor.P
open Go.Shelf Go.RowKit
def sh_lays219_ren : Go.Shelf.Ren := ⟨fun | 219 => 125 | 217 => 135 | 225 => 136 | 224 => 137 | 267 => 138 | 266 => 145 | 314 => 146 | n => n, fun | 9 => 9 | 3 => 3 | 4 => 4 | 5 => 5 | 46 => 138 | 146 => 189 | 51 => 188 | n => n, fun | 1 => 2 | n => n⟩
theorem sh_lays219 : Go.Proofs.Lays.n219 Tryd.prog sh_lays219_ren := {
  mixed := by kernel_rfl
  f217 := Tryd.func135.trans (congrArg some (by kernel_rfl))
  f219 := Tryd.func125.trans (congrArg some (by kernel_rfl))
  f224 := Tryd.func137.trans (congrArg some (by kernel_rfl))
  f225 := Tryd.func136.trans (congrArg some (by kernel_rfl))
  f266 := Tryd.func145.trans (congrArg some (by kernel_rfl))
  f267 := Tryd.func138.trans (congrArg some (by kernel_rfl))
  f314 := Tryd.func146.trans (congrArg some (by kernel_rfl))
  t3 := Tryd.underlying3
  a3 := Tryd.isAgg3
  z3 := Tryd.sizeOf3
  v3 := Tryd.zeroValue3
  t4 := Tryd.underlying4
  a4 := Tryd.isAgg4
  z4 := Tryd.sizeOf4
  v4 := Tryd.zeroValue4
  t5 := Tryd.underlying5
  a5 := Tryd.isAgg5
  z5 := Tryd.sizeOf5
  v5 := Tryd.zeroValue5
  t9 := Tryd.underlying9
  a9 := Tryd.isAgg9
  z9 := Tryd.sizeOf9
  v9 := Tryd.zeroValue9
  t46 := Tryd.underlying138
  a46 := Tryd.isAgg138
  z46 := Tryd.sizeOf138
  v46 := Tryd.zeroValue138
  t51 := Tryd.underlying188
  a51 := Tryd.isAgg188
  z51 := Tryd.sizeOf188
  v51 := Tryd.zeroValue188
  t146 := Tryd.underlying189
  a146 := Tryd.isAgg189
  z146 := Tryd.sizeOf189
  v146 := Tryd.zeroValue189
  g1 := by kernel_rfl }
open Go.RowKit Go.Lib in
theorem sh_stringslite_Index_one (s : ByteArray) (c : UInt8) (w : World) :
    Calls Tryd.prog 125 #[.string s, .string ⟨#[c]⟩] w fun e w' => e = .returned (.int .i64 (Lib.indexByte s.data.toList c)) ∧ w' = w := Any.stringslite_Index_one sh_lays219 s c w
end Go.Proofs.YtpkjpiphjdpegaaDoor.P
namespace Go.Proofs.YtpkjpiphjdpegaaDoor.P
open Go.RowKit Go.Proofs.YtpkjpiphjdpegaaDoorW.PrintWords Go.Proofs.YtpkjpiphjdpegaaDoorW.PrintLast Go.Proofs.YtpkjpiphjdpegaaDoorW.PrintMore
attribute [local go_sem] max2_int min2_int max_two min_two max_three min_three max_four min_four
set_option linter.unusedVariables false
set_option linter.unusedSimpArgs false
def stringslite_Index.f (s sub : ByteArray) : Option Int := if sub.data.toList.length = 1 then some (Lib.indexByte s.data.toList (sub.data.toList.getD 0 0)) else none
theorem stringslite_Index.calls (a0 : ByteArray) (a1 : ByteArray) (r : Int) (w : World) (h : stringslite_Index.f a0 a1 = some r) :
    Calls Tryd.prog 125 #[.string a0, .string a1] w fun e w' => e = .returned (.int .i64 r) ∧ Below w.heap.size w w' := by
  unfold stringslite_Index.f at h
  split at h
  · rename_i q
    obtain rfl := Option.some.inj h
    obtain ⟨⟨l⟩⟩ := a1
    match l, q with
    | [c], _ => exact (sh_stringslite_Index_one a0 c w).mono fun e w' hh => ⟨hh.1, hh.2 ▸ Below.refl _ _⟩
  · cases h
def lines_wrong.f (a0 : ByteArray) : Option (Int) := (lines_Runes.f a0).bind fun bt108 => (if bt108.2 = 0 then (if (bt108.1.length : Int) > 80 then (some 91) else (some bt108.2)) else (some bt108.2))
set_option maxHeartbeats 8000000 in
set_option maxRecDepth 100000 in
theorem lines_wrong.calls (a0 : ByteArray) (r : Int) (w : World) (hG : GT w) (h : lines_wrong.f a0 = some r) :
    Calls Tryd.prog 75 #[.string a0] w fun e w' => e = .returned (.int .i64 r) ∧ Below w.heap.size w w' := by
  have HB := Aside0.mk (Below.refl w.heap.size w)
  have H : ((lines_Runes.f a0).bind fun bt108 => (if bt108.2 = 0 then (if (bt108.1.length : Int) > 80 then (some 91) else (some bt108.2)) else (some bt108.2))) = some r := h
  clear h
  replace H := Option.bind_eq_some_iff.mp H
  obtain ⟨⟨t108, t109⟩, A20, H⟩ := H
  replace H : (if t109 = 0 then (if (t108.length : Int) > 80 then (some 91) else (some t109)) else (some t109)) = some r := H
  have A2 := Aside0.mk A20
  clear A20
  by_cases c3 : t109 = 0
  · rw [if_pos c3] at H
    have c3b0 : (t109 == 0) = true := beq_iff_eq.mpr c3
    have c3b1 : (t109 != 0) = false := bne_eq_false_iff_eq.mpr c3
    clear c3
    by_cases c4 : (t108.length : Int) > 80
    · rw [if_pos c4] at H
      have c4b0 : decide (80 < (t108.length : Int)) = true := decide_eq_true c4
      have c4b1 : decide (80 < t108.length) = true := decide_eq_true (by omega)
      clear c4
      obtain rfl := Option.some.inj H
      go_enter Tryd.func75, Tryd.ntmps75
      go_wp2_with (first | ((with_reducible refine gate_callee (f := 20) rfl ?_); refine goesL_ (some 7) rfl rfl Tryd.func20 (by kernel_rfl) rfl #[.string a0] rfl (by (try simp only [List.map_toArray, List.map_cons, List.map_nil]); first | done | rfl | (simp only [List.length_drop, List.length_take]; rfl)) ?_; (with_reducible refine (lines_Runes.calls a0 t108 t109 _ ?side1 A2.out).mono ?_); (case side1 => exact gt_below hG (by repeat (first | (with_reducible first | exact HB.out | apply below_alloc | apply pw_below_drewN | apply below_drew1) | exact HB.out))); rintro e w5 ⟨v110, rfl, ho0, hb⟩; refine ⟨_, rfl, ?_⟩; have n0_ := Aside0.mk (Kd.R_lower ho0 (below_size (by repeat (first | (with_reducible first | exact HB.out | apply below_alloc | apply pw_below_drewN | apply below_drew1) | exact HB.out)))); have n1_ := Aside0.mk (below_step (by repeat (first | (with_reducible first | exact HB.out | apply below_alloc | apply pw_below_drewN | apply below_drew1) | exact HB.out)) hb); clear HB; have HO111 := n0_; have HB := n1_; clear n0_ n1_; (try clear hb); (try clear hb2); (try clear hk); (try clear hi); (try clear ho0); obtain ⟨Ao6, co6, eo6⟩ := Kd.R_slice HO111.out; subst eo6))
      go_ret
      exact ⟨by first | rfl | (simp [errW_none, errW_some] <;> rfl) | (simp [*, errW_none, errW_some] <;> rfl), by repeat (first | (with_reducible first | exact HB.out | apply below_alloc | apply pw_below_drewN | apply below_drew1) | exact HB.out)⟩
    · rw [if_neg c4] at H
      have c4b0 : decide (80 < (t108.length : Int)) = false := decide_eq_false c4
      have c4b1 : decide (80 < t108.length) = false := decide_eq_false (by omega)
      clear c4
      obtain rfl := Option.some.inj H
      go_enter Tryd.func75, Tryd.ntmps75
      go_wp2_with (first | ((with_reducible refine gate_callee (f := 20) rfl ?_); refine goesL_ (some 7) rfl rfl Tryd.func20 (by kernel_rfl) rfl #[.string a0] rfl (by (try simp only [List.map_toArray, List.map_cons, List.map_nil]); first | done | rfl | (simp only [List.length_drop, List.length_take]; rfl)) ?_; (with_reducible refine (lines_Runes.calls a0 t108 t109 _ ?side1 A2.out).mono ?_); (case side1 => exact gt_below hG (by repeat (first | (with_reducible first | exact HB.out | apply below_alloc | apply pw_below_drewN | apply below_drew1) | exact HB.out))); rintro e w7 ⟨v110, rfl, ho0, hb⟩; refine ⟨_, rfl, ?_⟩; have n0_ := Aside0.mk (Kd.R_lower ho0 (below_size (by repeat (first | (with_reducible first | exact HB.out | apply below_alloc | apply pw_below_drewN | apply below_drew1) | exact HB.out)))); have n1_ := Aside0.mk (below_step (by repeat (first | (with_reducible first | exact HB.out | apply below_alloc | apply pw_below_drewN | apply below_drew1) | exact HB.out)) hb); clear HB; have HO111 := n0_; have HB := n1_; clear n0_ n1_; (try clear hb); (try clear hb2); (try clear hk); (try clear hi); (try clear ho0); obtain ⟨Ao8, co8, eo8⟩ := Kd.R_slice HO111.out; subst eo8))
      go_ret
      exact ⟨by first | rfl | (simp [errW_none, errW_some] <;> rfl) | (simp [*, errW_none, errW_some] <;> rfl), by repeat (first | (with_reducible first | exact HB.out | apply below_alloc | apply pw_below_drewN | apply below_drew1) | exact HB.out)⟩
  · rw [if_neg c3] at H
    have c3b0 : (t109 == 0) = false := beq_eq_false_iff_ne.mpr c3
    have c3b1 : (t109 != 0) = true := bne_iff_ne.mpr c3
    obtain rfl := Option.some.inj H
    go_enter Tryd.func75, Tryd.ntmps75
    go_wp2_with (first | ((with_reducible refine gate_callee (f := 20) rfl ?_); refine goesL_ (some 7) rfl rfl Tryd.func20 (by kernel_rfl) rfl #[.string a0] rfl (by (try simp only [List.map_toArray, List.map_cons, List.map_nil]); first | done | rfl | (simp only [List.length_drop, List.length_take]; rfl)) ?_; (with_reducible refine (lines_Runes.calls a0 t108 t109 _ ?side1 A2.out).mono ?_); (case side1 => exact gt_below hG (by repeat (first | (with_reducible first | exact HB.out | apply below_alloc | apply pw_below_drewN | apply below_drew1) | exact HB.out))); rintro e w9 ⟨v110, rfl, ho0, hb⟩; refine ⟨_, rfl, ?_⟩; have n0_ := Aside0.mk (Kd.R_lower ho0 (below_size (by repeat (first | (with_reducible first | exact HB.out | apply below_alloc | apply pw_below_drewN | apply below_drew1) | exact HB.out)))); have n1_ := Aside0.mk (below_step (by repeat (first | (with_reducible first | exact HB.out | apply below_alloc | apply pw_below_drewN | apply below_drew1) | exact HB.out)) hb); clear HB; have HO111 := n0_; have HB := n1_; clear n0_ n1_; (try clear hb); (try clear hb2); (try clear hk); (try clear hi); (try clear ho0)))
    go_ret
    exact ⟨by first | rfl | (simp [errW_none, errW_some] <;> rfl) | (simp [*, errW_none, errW_some] <;> rfl), by repeat (first | (with_reducible first | exact HB.out | apply below_alloc | apply pw_below_drewN | apply below_drew1) | exact HB.out)⟩
def stringslite_Cut.f (a0 : ByteArray) (a1 : ByteArray) : Option (ByteArray × ByteArray × Bool) := (stringslite_Index.f a0 a1).bind fun t114 => (if t114 ≥ 0 then (if 0 ≤ t114 then (if t114 ≤ (a0.size : Int) then (if 0 ≤ (wrap64 (t114 + (a1.size : Int))) then (if (wrap64 (t114 + (a1.size : Int))) ≤ (a0.size : Int) then (some (a0.extract 0 (t114 : Int).toNat, a0.extract ((wrap64 (t114 + (a1.size : Int))) : Int).toNat a0.size, true)) else (none)) else (none)) else (none)) else (none)) else (some (a0, (⟨#[]⟩ : ByteArray), false)))
set_option maxHeartbeats 8000000 in
set_option maxRecDepth 100000 in
theorem stringslite_Cut.calls (a0 : ByteArray) (a1 : ByteArray) (r1 : ByteArray) (r2 : ByteArray) (r3 : Bool) (w : World) (h : stringslite_Cut.f a0 a1 = some (r1, r2, r3)) :
    Calls Tryd.prog 103 #[.string a0, .string a1] w fun e w' => e = .returned (.tuple #[.string r1, .string r2, .bool r3]) ∧ Below w.heap.size w w' := by
  have HB := Aside0.mk (Below.refl w.heap.size w)
  have H : ((stringslite_Index.f a0 a1).bind fun t114 => (if t114 ≥ 0 then (if 0 ≤ t114 then (if t114 ≤ (a0.size : Int) then (if 0 ≤ (wrap64 (t114 + (a1.size : Int))) then (if (wrap64 (t114 + (a1.size : Int))) ≤ (a0.size : Int) then (some (a0.extract 0 (t114 : Int).toNat, a0.extract ((wrap64 (t114 + (a1.size : Int))) : Int).toNat a0.size, true)) else (none)) else (none)) else (none)) else (none)) else (some (a0, (⟨#[]⟩ : ByteArray), false)))) = some (r1, r2, r3) := h
  clear h
  replace H := Option.bind_eq_some_iff.mp H
  obtain ⟨t114, A30, H⟩ := H
  replace H : (if t114 ≥ 0 then (if 0 ≤ t114 then (if t114 ≤ (a0.size : Int) then (if 0 ≤ (wrap64 (t114 + (a1.size : Int))) then (if (wrap64 (t114 + (a1.size : Int))) ≤ (a0.size : Int) then (some (a0.extract 0 (t114 : Int).toNat, a0.extract ((wrap64 (t114 + (a1.size : Int))) : Int).toNat a0.size, true)) else (none)) else (none)) else (none)) else (none)) else (some (a0, (⟨#[]⟩ : ByteArray), false))) = some (r1, r2, r3) := H
  have A3 := Aside0.mk A30
  clear A30
  by_cases c4 : t114 ≥ 0
  · rw [if_pos c4] at H
    have c4b0 : decide (0 ≤ t114) = true := decide_eq_true c4
    clear c4
    by_cases c5 : 0 ≤ t114
    · rw [if_pos c5] at H
      have c5b0 := eq_true c5
      have c5b1 : decide (0 ≤ t114) = true := decide_eq_true c5
      clear c5
      by_cases c6 : t114 ≤ (a0.size : Int)
      · rw [if_pos c6] at H
        have c6b0 := eq_true c6
        have c6b1 : decide (t114 ≤ (a0.size : Int)) = true := decide_eq_true c6
        clear c6
        obtain ⟨ji7, hji7⟩ : ∃ j_ : Int, (wrap64 (t114 + (a1.size : Int))) = j_ := ⟨_, rfl⟩
        replace H : (if 0 ≤ (ji7) then (if (ji7) ≤ (a0.size : Int) then (some (a0.extract 0 (t114 : Int).toNat, a0.extract ((ji7) : Int).toNat a0.size, true)) else (none)) else (none)) = some (r1, r2, r3) := by first | (rw [hji7] at H; exact H) | (simp only [hji7] at H ⊢; exact H)
        (try rw [hji7] at A3)
        have hji7w : (IntKind.i64.wrap (t114 + (a1.size : Int))) = ji7 := (i64_w _).trans hji7
        by_cases c8 : 0 ≤ (ji7)
        · rw [if_pos c8] at H
          have c8b0 := eq_true c8
          have c8b1 : decide (0 ≤ (ji7)) = true := decide_eq_true c8
          clear c8
          by_cases c9 : (ji7) ≤ (a0.size : Int)
          · rw [if_pos c9] at H
            have c9b0 := eq_true c9
            have c9b1 : decide ((ji7) ≤ (a0.size : Int)) = true := decide_eq_true c9
            clear c9
            simp only [Option.some.injEq, Prod.mk.injEq] at H
            obtain ⟨rfl, rfl, rfl⟩ := H
            go_enter Tryd.func103, Tryd.ntmps103
            go_wp2_with (first | (go_at_call 125; (with_reducible refine (stringslite_Index.calls a0 a1 t114 _ A3.out).mono ?_); rintro e w10 ⟨rfl, hb⟩; have n0_ := Aside0.mk (below_step (by repeat (first | (with_reducible first | exact HB.out | apply below_alloc | apply pw_below_drewN | apply below_drew1) | exact HB.out)) hb); clear HB; have HB := n0_; clear n0_; (try clear hb); (try clear hb2); (try clear hk); (try clear hi)))
            repeat (go_quiet (first | (go_at_call 125; (with_reducible refine (stringslite_Index.calls a0 a1 t114 _ A3.out).mono ?_); rintro e w10 ⟨rfl, hb⟩; have n0_ := Aside0.mk (below_step (by repeat (first | (with_reducible first | exact HB.out | apply below_alloc | apply pw_below_drewN | apply below_drew1) | exact HB.out)) hb); clear HB; have HB := n0_; clear n0_; (try clear hb); (try clear hb2); (try clear hk); (try clear hi))); try go_wp2_with (first | (go_at_call 125; (with_reducible refine (stringslite_Index.calls a0 a1 t114 _ A3.out).mono ?_); rintro e w10 ⟨rfl, hb⟩; have n0_ := Aside0.mk (below_step (by repeat (first | (with_reducible first | exact HB.out | apply below_alloc | apply pw_below_drewN | apply below_drew1) | exact HB.out)) hb); clear HB; have HB := n0_; clear n0_; (try clear hb); (try clear hb2); (try clear hk); (try clear hi))))
            go_ret3
            exact ⟨by first | rfl | (simp [errW_none, errW_some] <;> rfl) | (simp only [← hji7]; first | rfl | (simp [errW_none, errW_some] <;> rfl)) | (simp [*, errW_none, errW_some] <;> rfl), by repeat (first | (with_reducible first | exact HB.out | apply below_alloc | apply pw_below_drewN | apply below_drew1) | exact HB.out)⟩
          · rw [if_neg c9] at H
            exact absurd H (by simp)
        · rw [if_neg c8] at H
          exact absurd H (by simp)
      · rw [if_neg c6] at H
        exact absurd H (by simp)
    · rw [if_neg c5] at H
      exact absurd H (by simp)
  · rw [if_neg c4] at H
    have c4b0 : decide (0 ≤ t114) = false := decide_eq_false c4
    clear c4
    simp only [Option.some.injEq, Prod.mk.injEq] at H
    obtain ⟨rfl, rfl, rfl⟩ := H
    go_enter Tryd.func103, Tryd.ntmps103
    go_wp2_with (first | (go_at_call 125; (with_reducible refine (stringslite_Index.calls a0 a1 t114 _ A3.out).mono ?_); rintro e w11 ⟨rfl, hb⟩; have n0_ := Aside0.mk (below_step (by repeat (first | (with_reducible first | exact HB.out | apply below_alloc | apply pw_below_drewN | apply below_drew1) | exact HB.out)) hb); clear HB; have HB := n0_; clear n0_; (try clear hb); (try clear hb2); (try clear hk); (try clear hi)))
    repeat (go_quiet (first | (go_at_call 125; (with_reducible refine (stringslite_Index.calls a0 a1 t114 _ A3.out).mono ?_); rintro e w11 ⟨rfl, hb⟩; have n0_ := Aside0.mk (below_step (by repeat (first | (with_reducible first | exact HB.out | apply below_alloc | apply pw_below_drewN | apply below_drew1) | exact HB.out)) hb); clear HB; have HB := n0_; clear n0_; (try clear hb); (try clear hb2); (try clear hk); (try clear hi))); try go_wp2_with (first | (go_at_call 125; (with_reducible refine (stringslite_Index.calls a0 a1 t114 _ A3.out).mono ?_); rintro e w11 ⟨rfl, hb⟩; have n0_ := Aside0.mk (below_step (by repeat (first | (with_reducible first | exact HB.out | apply below_alloc | apply pw_below_drewN | apply below_drew1) | exact HB.out)) hb); clear HB; have HB := n0_; clear n0_; (try clear hb); (try clear hb2); (try clear hk); (try clear hi))))
    go_ret3
    exact ⟨by first | rfl | (simp [errW_none, errW_some] <;> rfl) | (simp [*, errW_none, errW_some] <;> rfl), by repeat (first | (with_reducible first | exact HB.out | apply below_alloc | apply pw_below_drewN | apply below_drew1) | exact HB.out)⟩
def strings_Cut.f (a0 : ByteArray) (a1 : ByteArray) : Option (ByteArray × ByteArray × Bool) := (stringslite_Cut.f a0 a1).bind fun bt115 => (some (bt115.1, bt115.2.1, bt115.2.2))
set_option maxHeartbeats 8000000 in
set_option maxRecDepth 100000 in
theorem strings_Cut.calls (a0 : ByteArray) (a1 : ByteArray) (r1 : ByteArray) (r2 : ByteArray) (r3 : Bool) (w : World) (h : strings_Cut.f a0 a1 = some (r1, r2, r3)) :
    Calls Tryd.prog 74 #[.string a0, .string a1] w fun e w' => e = .returned (.tuple #[.string r1, .string r2, .bool r3]) ∧ Below w.heap.size w w' := by
  have HB := Aside0.mk (Below.refl w.heap.size w)
  have H : ((stringslite_Cut.f a0 a1).bind fun bt115 => (some (bt115.1, bt115.2.1, bt115.2.2))) = some (r1, r2, r3) := h
  clear h
  replace H := Option.bind_eq_some_iff.mp H
  obtain ⟨⟨t115, t116, t117⟩, A30, H⟩ := H
  replace H : (some (t115, t116, t117)) = some (r1, r2, r3) := H
  have A3 := Aside0.mk A30
  clear A30
  simp only [Option.some.injEq, Prod.mk.injEq] at H
  obtain ⟨rfl, rfl, rfl⟩ := H
  go_enter Tryd.func74, Tryd.ntmps74
  go_wp2_with (first | ((with_reducible refine gate_callee (f := 103) rfl ?_); refine goesL_ (some 9) rfl rfl Tryd.func103 (by kernel_rfl) rfl #[.string a0, .string a1] rfl (by (try simp only [List.map_toArray, List.map_cons, List.map_nil]); first | done | rfl | (simp only [List.length_drop, List.length_take]; rfl)) ?_; (with_reducible refine (stringslite_Cut.calls a0 a1 t115 t116 t117 _ A3.out).mono ?_); rintro e w4 ⟨rfl, hb⟩; refine ⟨_, rfl, ?_⟩; have n0_ := Aside0.mk (below_step (by repeat (first | (with_reducible first | exact HB.out | apply below_alloc | apply pw_below_drewN | apply below_drew1) | exact HB.out)) hb); clear HB; have HB := n0_; clear n0_; (try clear hb); (try clear hb2); (try clear hk); (try clear hi)))
  go_ret3
  exact ⟨by first | rfl | (simp [errW_none, errW_some] <;> rfl) | (simp [*, errW_none, errW_some] <;> rfl), by repeat (first | (with_reducible first | exact HB.out | apply below_alloc | apply pw_below_drewN | apply below_drew1) | exact HB.out)⟩
def stringslite_HasPrefix.f (a0 : ByteArray) (a1 : ByteArray) : Option (Bool) := if (a0.size : Int) ≥ (a1.size : Int) then (if 0 ≤ (a1.size : Int) then (if (a1.size : Int) ≤ (a0.size : Int) then (some ((a0.extract 0 ((a1.size : Int) : Int).toNat).toList == a1.toList)) else (none)) else (none)) else (some false)
set_option maxHeartbeats 8000000 in
set_option maxRecDepth 100000 in
theorem stringslite_HasPrefix.calls (a0 : ByteArray) (a1 : ByteArray) (r : Bool) (w : World) (h : stringslite_HasPrefix.f a0 a1 = some r) :
    Calls Tryd.prog 102 #[.string a0, .string a1] w fun e w' => e = .returned (.bool r) ∧ Drawn0 w w' := by
  have H : (if (a0.size : Int) ≥ (a1.size : Int) then (if 0 ≤ (a1.size : Int) then (if (a1.size : Int) ≤ (a0.size : Int) then (some ((a0.extract 0 ((a1.size : Int) : Int).toNat).toList == a1.toList)) else (none)) else (none)) else (some false)) = some r := h
  clear h
  by_cases c3 : (a0.size : Int) ≥ (a1.size : Int)
  · rw [if_pos c3] at H
    have c3b0 : decide ((a1.size : Int) ≤ (a0.size : Int)) = true := decide_eq_true c3
    have c3b1 : decide (a1.size ≤ a0.size) = true := decide_eq_true (Int.ofNat_le.mp c3)
    clear c3
    by_cases c4 : 0 ≤ (a1.size : Int)
    · rw [if_pos c4] at H
      have c4b0 := eq_true c4
      have c4b1 : decide (0 ≤ (a1.size : Int)) = true := decide_eq_true c4
      clear c4
      by_cases c5 : (a1.size : Int) ≤ (a0.size : Int)
      · rw [if_pos c5] at H
        have c5b0 := eq_true c5
        have c5b1 : decide ((a1.size : Int) ≤ (a0.size : Int)) = true := decide_eq_true c5
        clear c5
        obtain rfl := Option.some.inj H
        go_enter Tryd.func102, Tryd.ntmps102
        go_wp2
        go_ret
        exact ⟨by first | rfl | (simp; done) | (simp [*]; done), by repeat (first | exact Drawn0.refl _ | apply Drawn0.step)⟩
      · rw [if_neg c5] at H
        exact absurd H (by simp)
    · rw [if_neg c4] at H
      exact absurd H (by simp)
  · rw [if_neg c3] at H
    have c3b0 : decide ((a1.size : Int) ≤ (a0.size : Int)) = false := decide_eq_false c3
    have c3b1 : decide (a1.size ≤ a0.size) = false := decide_eq_false (fun h => c3 (Int.ofNat_le.mpr h))
    clear c3
    obtain rfl := Option.some.inj H
    go_enter Tryd.func102, Tryd.ntmps102
    go_wp2
    go_ret
    exact ⟨by first | rfl | (simp; done) | (simp [*]; done), by repeat (first | exact Drawn0.refl _ | apply Drawn0.step)⟩
def strings_HasPrefix.f (a0 : ByteArray) (a1 : ByteArray) : Option (Bool) := (stringslite_HasPrefix.f a0 a1).bind fun t118 => (some t118)
set_option maxHeartbeats 8000000 in
set_option maxRecDepth 100000 in
theorem strings_HasPrefix.calls0 (a0 : ByteArray) (a1 : ByteArray) (r : Bool) (w : World) (h : strings_HasPrefix.f a0 a1 = some r) :
    Calls Tryd.prog 72 #[.string a0, .string a1] w fun e w' => e = .returned (.bool r) ∧ Drawn0 w w' := by
  have H : ((stringslite_HasPrefix.f a0 a1).bind fun t118 => (some t118)) = some r := h
  clear h
  replace H := Option.bind_eq_some_iff.mp H
  obtain ⟨t118, A30, H⟩ := H
  replace H : (some t118) = some r := H
  have A3 := Aside0.mk A30
  clear A30
  obtain rfl := Option.some.inj H
  go_enter Tryd.func72, Tryd.ntmps72
  go_wp2_with (first | ((with_reducible refine gate_callee (f := 102) rfl ?_); refine goesL_ (some 7) rfl rfl Tryd.func102 (by kernel_rfl) rfl #[.string a0, .string a1] rfl (by (try simp only [List.map_toArray, List.map_cons, List.map_nil]); first | done | rfl | (simp only [List.length_drop, List.length_take]; rfl)) ?_; (with_reducible refine (stringslite_HasPrefix.calls a0 a1 t118 _ A3.out).mono ?_); rintro e w' ⟨rfl, ⟨nd, rfl⟩⟩; refine ⟨_, rfl, ?_⟩))
  go_ret
  exact ⟨by first | rfl | (simp; done) | (simp [*]; done), by repeat (first | exact Drawn0.refl _ | apply Drawn0.step)⟩
theorem strings_HasPrefix.calls (a0 : ByteArray) (a1 : ByteArray) (r : Bool) (w : World) (h : strings_HasPrefix.f a0 a1 = some r) :
    Calls Tryd.prog 72 #[.string a0, .string a1] w fun e w' => e = .returned (.bool r) ∧ Below w.heap.size w w' :=
  (strings_HasPrefix.calls0 a0 a1 r w h).mono fun e w' hh => ⟨hh.1, hh.2.below⟩
def lines_Kind.f (a0 : ByteArray) : Option (Int) := if a0.toList = ([] : List UInt8) then (some 0) else ((strings_HasPrefix.f a0 (⟨#[35]⟩ : ByteArray)).bind fun t186 => (if t186 = true then (some 1) else (some 2)))
set_option maxHeartbeats 8000000 in
set_option maxRecDepth 100000 in
theorem lines_Kind.calls (a0 : ByteArray) (r : Int) (w : World) (h : lines_Kind.f a0 = some r) :
    Calls Tryd.prog 37 #[.string a0] w fun e w' => e = .returned (.int .u8 r) ∧ Below w.heap.size w w' := by
  have HB := Aside0.mk (Below.refl w.heap.size w)
  have H : (if a0.toList = ([] : List UInt8) then (some 0) else ((strings_HasPrefix.f a0 (⟨#[35]⟩ : ByteArray)).bind fun t186 => (if t186 = true then (some 1) else (some 2)))) = some r := h
  clear h
  by_cases c2 : a0.toList = ([] : List UInt8)
  · rw [if_pos c2] at H
    have c2b0 : (a0.toList == ([] : List UInt8)) = true := beq_iff_eq.mpr c2
    have c2b1 : (a0.toList != ([] : List UInt8)) = false := bne_eq_false_iff_eq.mpr c2
    clear c2
    obtain rfl := Option.some.inj H
    go_enter Tryd.func37, Tryd.ntmps37
    go_wp2
    go_ret
    exact ⟨by first | rfl | (simp [errW_none, errW_some] <;> rfl) | (simp [*, errW_none, errW_some] <;> rfl), by repeat (first | (with_reducible first | exact HB.out | apply below_alloc | apply pw_below_drewN | apply below_drew1) | exact HB.out)⟩
  · rw [if_neg c2] at H
    have c2b0 : (a0.toList == ([] : List UInt8)) = false := beq_eq_false_iff_ne.mpr c2
    have c2b1 : (a0.toList != ([] : List UInt8)) = true := bne_iff_ne.mpr c2
    replace H := Option.bind_eq_some_iff.mp H
    obtain ⟨t186, A30, H⟩ := H
    replace H : (if t186 = true then (some 1) else (some 2)) = some r := H
    have A3 := Aside0.mk A30
    clear A30
    by_cases c4 : t186 = true
    · subst c4
      have H1 : (some 1) = some r := by rw [if_pos rfl] at H; exact H
      clear H
      have H := H1
      clear H1
      obtain rfl := Option.some.inj H
      go_enter Tryd.func37, Tryd.ntmps37
      go_wp2_with (first | ((with_reducible refine gate_callee (f := 72) rfl ?_); refine goesL_ (some 8) rfl rfl Tryd.func72 (by kernel_rfl) rfl #[.string a0, .string (⟨#[35]⟩ : ByteArray)] rfl (by (try simp only [List.map_toArray, List.map_cons, List.map_nil]); first | done | rfl | (simp only [List.length_drop, List.length_take]; rfl)) ?_; (with_reducible refine (strings_HasPrefix.calls a0 (⟨#[35]⟩ : ByteArray) true _ A3.out).mono ?_); rintro e w5 ⟨rfl, hb⟩; refine ⟨_, rfl, ?_⟩; have n0_ := Aside0.mk (below_step (by repeat (first | (with_reducible first | exact HB.out | apply below_alloc | apply pw_below_drewN | apply below_drew1) | exact HB.out)) hb); clear HB; have HB := n0_; clear n0_; (try clear hb); (try clear hb2); (try clear hk); (try clear hi)))
      go_ret
      exact ⟨by first | rfl | (simp [errW_none, errW_some] <;> rfl) | (simp [*, errW_none, errW_some] <;> rfl), by repeat (first | (with_reducible first | exact HB.out | apply below_alloc | apply pw_below_drewN | apply below_drew1) | exact HB.out)⟩
    · replace c4 := Bool.eq_false_iff.mpr c4
      subst c4
      have H1 : (some 2) = some r := by rw [if_neg (show ¬ (false = true) by decide)] at H; exact H
      clear H
      have H := H1
      clear H1
      obtain rfl := Option.some.inj H
      go_enter Tryd.func37, Tryd.ntmps37
      go_wp2_with (first | ((with_reducible refine gate_callee (f := 72) rfl ?_); refine goesL_ (some 8) rfl rfl Tryd.func72 (by kernel_rfl) rfl #[.string a0, .string (⟨#[35]⟩ : ByteArray)] rfl (by (try simp only [List.map_toArray, List.map_cons, List.map_nil]); first | done | rfl | (simp only [List.length_drop, List.length_take]; rfl)) ?_; (with_reducible refine (strings_HasPrefix.calls a0 (⟨#[35]⟩ : ByteArray) false _ A3.out).mono ?_); rintro e w6 ⟨rfl, hb⟩; refine ⟨_, rfl, ?_⟩; have n0_ := Aside0.mk (below_step (by repeat (first | (with_reducible first | exact HB.out | apply below_alloc | apply pw_below_drewN | apply below_drew1) | exact HB.out)) hb); clear HB; have HB := n0_; clear n0_; (try clear hb); (try clear hb2); (try clear hk); (try clear hi)))
      go_ret
      exact ⟨by first | rfl | (simp [errW_none, errW_some] <;> rfl) | (simp [*, errW_none, errW_some] <;> rfl), by repeat (first | (with_reducible first | exact HB.out | apply below_alloc | apply pw_below_drewN | apply below_drew1) | exact HB.out)⟩
end Go.Proofs.YtpkjpiphjdpegaaDoor.P
namespace Go.Proofs.YtpkjpiphjdpegaaDoor.P
open Go.RowKit Go.Proofs.YtpkjpiphjdpegaaDoorW.PrintWords Go.Proofs.YtpkjpiphjdpegaaDoorW.PrintLast Go.Proofs.YtpkjpiphjdpegaaDoorW.PrintMore
set_option linter.unusedVariables false
set_option linter.unusedSimpArgs false
def mk (l : List UInt8) : ByteArray := ⟨l.toArray⟩
theorem mk_list (l : List UInt8) : (mk l).data.toList = l := rfl
theorem mk_size (l : List UInt8) : (mk l).size = l.length := by simp [mk, ByteArray.size]
theorem mk_of (s : ByteArray) : mk s.data.toList = s := by
  obtain ⟨⟨l⟩⟩ := s
  rfl
theorem toList_eq (s : ByteArray) : s.toList = s.data.toList := Go.ByteArray.toList_eq s
def splitB : List UInt8 → List (List UInt8)
  | [] => [[]]
  | b :: l => if b = 10 then [] :: splitB l else match splitB l with
    | [] => [[b]]
    | h :: r => (b :: h) :: r
theorem splitB_ne (l : List UInt8) : splitB l ≠ [] := by
  cases l with
  | nil => simp [splitB]
  | cons b l =>
    rw [splitB]
    split
    · simp
    · split <;> simp
theorem splitB_none : ∀ {l : List UInt8}, Lib.indexByte l 10 = -1 → splitB l = [l]
  | [], _ => rfl
  | b :: l, h => by
    have hb : ¬ b = 10 := fun e => by
      have := Lib.indexByte_none h 0
      rw [e] at this
      simp at this
    have hl : Lib.indexByte l 10 = -1 := by
      have hge := Lib.indexByte_ge l 10
      rw [Lib.indexByte, if_neg (by simp [hb])] at h
      split at h
      · rename_i q; simpa using q
      · omega
    rw [splitB, if_neg hb, splitB_none hl]
theorem splitB_some : ∀ {l : List UInt8} {i : Nat}, Lib.indexByte l 10 = (i : Int) → splitB l = l.take i :: splitB (l.drop (i + 1)) ∧ i < l.length
  | [], i, h => by simp [Lib.indexByte] at h
  | b :: l, i, h => by
    rw [Lib.indexByte] at h
    by_cases hb : b = 10
    · rw [if_pos (by simp [hb])] at h
      obtain rfl : i = 0 := by omega
      rw [splitB, if_pos hb]
      simp
    · rw [if_neg (by simp [hb])] at h
      split at h
      · omega
      · have hge := Lib.indexByte_ge l 10
        rename_i q
        have q' : Lib.indexByte l 10 ≠ -1 := by simpa using q
        obtain ⟨k, rfl⟩ : ∃ k, i = k + 1 := ⟨i - 1, by omega⟩
        obtain ⟨e, hk⟩ := splitB_some (l := l) (i := k) (by omega)
        rw [splitB, if_neg hb, e]
        simp
        omega
def kindOf : List UInt8 → Int
  | [] => 0
  | b :: _ => if b = 35 then 1 else 2
def wrongOf (h : List UInt8) : Int := if Lib.validD h = true then (if (runesAt (mk h) h.length 0).length > 80 then 91 else 0) else 90
def lineOf (n : Int) (h : List UInt8) : S56 := ⟨n, mk h, kindOf h, wrongOf h⟩
def linesL (n : Int) : List (List UInt8) → List S56
  | [] => []
  | h :: r => lineOf n h :: linesL (n + 1) r
def allL (s : ByteArray) : List S56 := linesL 1 (splitB s.data.toList)
theorem linesL_len : ∀ (l : List (List UInt8)) (n : Int), (linesL n l).length = l.length
  | [], n => rfl
  | h :: r, n => by rw [linesL, List.length_cons, linesL_len r, List.length_cons]
theorem splitB_len (l : List UInt8) : (splitB l).length ≤ l.length + 1 := by
  induction l with
  | nil => simp [splitB]
  | cons b l ih =>
    rw [splitB]
    split
    · simp; omega
    · split
      · simp
      · rename_i q; rw [q] at ih; simp at ih ⊢; omega
theorem extract_mk (l : List UInt8) (i j : Nat) : (mk l).extract i j = mk ((l.take j).drop i) := by
  apply ByteArray.ext
  rw [ByteArray.data_extract]
  apply Array.ext'
  rw [Array.toList_extract]
  show l.extract i j = _
  rw [List.extract_eq_take_drop, List.drop_take]
  rfl
theorem cut_none {l : List UInt8} (h : Lib.indexByte l 10 = -1) : strings_Cut.f (mk l) (⟨#[10]⟩ : ByteArray) = some (mk l, (⟨#[]⟩ : ByteArray), false) := by
  have e : stringslite_Index.f (mk l) (⟨#[10]⟩ : ByteArray) = some (-1) := by
    unfold stringslite_Index.f
    rw [if_pos (show (⟨#[10]⟩ : ByteArray).data.toList.length = 1 from rfl), mk_list]
    exact congrArg some h
  unfold strings_Cut.f stringslite_Cut.f
  rw [e, Option.bind_some, if_neg (by omega), Option.bind_some]
theorem cut_some {l : List UInt8} {i : Nat} (hs : l.length ≤ 1000000000) (h : Lib.indexByte l 10 = (i : Int)) : strings_Cut.f (mk l) (⟨#[10]⟩ : ByteArray) = some (mk (l.take i), mk (l.drop (i + 1)), true) := by
  have e : stringslite_Index.f (mk l) (⟨#[10]⟩ : ByteArray) = some (i : Int) := by
    unfold stringslite_Index.f
    rw [if_pos (show (⟨#[10]⟩ : ByteArray).data.toList.length = 1 from rfl), mk_list]
    exact congrArg some h
  have hi := (splitB_some h).2
  have h1 : ((⟨#[10]⟩ : ByteArray).size : Int) = 1 := rfl
  have w1 : wrap64 ((i : Int) + 1) = ((i + 1 : Nat) : Int) := by unfold wrap64; push_cast; omega
  unfold strings_Cut.f stringslite_Cut.f
  rw [e, Option.bind_some, if_pos (by omega), if_pos (by omega), mk_size, if_pos (by omega), h1, w1, if_pos (by omega), if_pos (by omega), Option.bind_some]
  rw [Int.toNat_natCast, Int.toNat_natCast, extract_mk, extract_mk, List.drop_zero, List.take_length]
theorem kind_is (h : List UInt8) (hs : h.length ≤ 1000000000) : lines_Kind.f (mk h) = some (kindOf h) := by
  unfold lines_Kind.f
  cases h with
  | nil => rw [if_pos (by rw [toList_eq]; rfl)]; rfl
  | cons b l =>
    rw [if_neg (by rw [toList_eq]; simp [mk])]
    have e1 : ((⟨#[35]⟩ : ByteArray).size : Int) = 1 := rfl
    have e2 : ((mk (b :: l)).size : Int) = (l.length : Int) + 1 := by rw [mk_size]; simp
    have P : strings_HasPrefix.f (mk (b :: l)) (⟨#[35]⟩ : ByteArray) = some (b == 35) := by
      unfold strings_HasPrefix.f stringslite_HasPrefix.f
      rw [e1, e2, if_pos (by omega), if_pos (by omega), if_pos (by omega), Option.bind_some]
      rw [toList_eq, toList_eq, show ((1 : Int)).toNat = 1 from rfl, extract_mk]
      congr 1
      show ([b] == [35]) = (b == 35)
      simp
    rw [P, Option.bind_some]
    show _ = some (if b = 35 then 1 else 2)
    by_cases q : b = 35
    · rw [if_pos (by simp [q]), if_pos q]
    · rw [if_neg (by simp [q]), if_neg q]
theorem wrong_is (h : List UInt8) (hs : h.length ≤ 1000000000) : lines_wrong.f (mk h) = some (wrongOf h) := by
  unfold lines_wrong.f lines_Runes.f
  rw [mk_size, if_pos hs, Option.bind_some, mk_list]
  unfold wrongOf
  by_cases v : Lib.validD h = true
  · rw [if_pos v, if_pos v, if_pos rfl]
    by_cases q : (runesAt (mk h) h.length 0).length > 80
    · rw [if_pos (by simp; omega), if_pos q]
    · rw [if_neg (by simp; omega), if_neg q]
  · rw [if_neg v, if_neg v, if_neg (by decide)]
end Go.Proofs.YtpkjpiphjdpegaaDoor.P
namespace Go.Proofs.YtpkjpiphjdpegaaDoor.P
open Go.RowKit Go.Shelf Go.Proofs.YtpkjpiphjdpegaaDoor.RF Go.Proofs.YtpkjpiphjdpegaaDoorW.PrintWords
attribute [local go_sem] Oper.semAt_some
set_option linter.unusedVariables false
set_option linter.unusedSimpArgs false
def lineV (x : S56) : Value := .agg #[.int .i64 x.f0, .string x.f1, .int .u8 x.f2, .int .i64 x.f3]
theorem gt_same {n₀ : Nat} {w W : World} (h : GT w) (hn : w.heap.size ≤ n₀) (hb : Below n₀ w W) : GT W := by
  exact gt_below h (hb.mono hn)
def KpE (n₀ Bx : Nat) (W W' : World) : Prop := Below n₀ W W' ∧ W'.heap[Bx]? = W.heap[Bx]?
def leftE (Bx : Nat) (W : World) : Nat := match W.cell? ⟨Bx, 0, none⟩ with | some (.string t) => t.size + 1 | _ => 0
set_option maxHeartbeats 8000000 in
set_option maxRecDepth 100000 in
theorem each1_in (n : Nat) (hn : 1 ≤ n) (l Bx n₀ : Nat) (s : ByteArray) (hs : s.size ≤ 1000000000) (J Jx : List S56 → World → Prop) (W : World)
    (hJ : AbX Bx W.heap.size J) (hG : ∀ W', Below n₀ W W' → GT W') (hxB : n₀ ≤ Bx) (hlt : Bx < W.heap.size)
    (hY : ∀ pre x W, J pre W → pre.length < (allL s).length → YieldAt Fence.wide (n - 1) Tryd.prog l #[lineV x] W fun e W' =>
      (e = .returned (.bool true) ∧ J (pre ++ [x]) W' ∧ KpE n₀ Bx W W') ∨ (e = .returned (.bool false) ∧ Jx (pre ++ [x]) W'))
    (hBx : Boxed W Bx 9 (.string s)) (h0 : J [] W) :
    CallsIn Fence.wide n Tryd.prog 73 #[.func (.yield l) #[] #[], .pointer (some ⟨Bx, 0, none⟩)] W fun e W' => (∃ v, e = .returned v) ∧
      ((∃ ys, ys = allL s ∧ J ys W') ∨ (∃ pre, pre <+: allL s ∧ Jx pre W')) := by
  refine callsIn_of_wp Tryd.func73 rfl trivial ?_ rfl
  simp only [Tryd.ntmps73, List.size_toArray, List.length_cons, List.length_nil, Nat.reduceAdd, Nat.reduceSub, Array.replicate_succ, Array.replicate_zero, List.push_toArray, List.append_toArray, List.nil_append, List.cons_append]
  gi_wp2
  gi_loopw [3] (fun p wr => ∃ (pre : List S56) (t : List UInt8), p = .int .i64 ((pre.length : Int) + 1) ∧ pre ++ linesL ((pre.length : Int) + 1) (splitB t) = allL s ∧ Boxed wr Bx 9 (.string (mk t)) ∧ t.length ≤ s.size ∧ pre.length + t.length ≤ s.size ∧ Below n₀ W wr ∧ J pre wr)
    (fun p wr => leftE Bx wr)
  case atStart =>
    exact ⟨[], s.data.toList, rfl, rfl, by rw [mk_of]; exact hBx, by simp, by simp, Below.refl _ _, h0⟩
  case round =>
    obtain ⟨pre, t, rfl, hx, hb, ht, hpt, hBel, hJs⟩ := hrel
    have hcell := hb.cell
    have hfro := hb.frozen
    have hle : n₀ ≤ wr.heap.size := by have := hb.lt; omega
    have hn64 : (pre.length : Int) + 1 ≤ 1000000001 := by omega
    have arm : ∀ (h tl : List UInt8) (mo : Bool), h.length ≤ 1000000000 → strings_Cut.f (mk t) (⟨#[10]⟩ : ByteArray) = some (mk h, mk tl, mo) → pre.length < (allL s).length → True := fun _ _ _ _ _ _ => trivial
    clear arm
    by_cases hi : Lib.indexByte t 10 = -1
    · have hsp := splitB_none hi
      have hcut := cut_none hi
      rw [hsp] at hx
      have hx' : pre ++ [lineOf ((pre.length : Int) + 1) t] = allL s := hx
      have hlen : pre.length < (allL s).length := by rw [← hx']; simp
      have hk := kind_is t (by omega)
      have hw := wrong_is t (by omega)
      gi_wp2_with (first
        | (refine ⟨trivial, ?_⟩; gi_at_call 74; refine (callsIn_wide.2 (strings_Cut.calls (mk t) _ _ _ _ _ hcut)).mono ?_; rintro e W1 ⟨rfl, hb1⟩; have hbel1 := hBel.trans (hb1.mono hle); have hJ1 := hJ.below hJs hb1; have hbx1 := hb.kept (grown_below hb1 none) (by simp); have hs1 := hb1.size)
        | (refine ⟨trivial, ?_⟩; gi_at_call 37; refine (callsIn_wide.2 (lines_Kind.calls (mk t) _ _ hk)).mono ?_; rintro e W2 ⟨rfl, hb2⟩; have hbel2 := hbel1.trans (hb2.mono (by omega)); have hJ2 := hJ.below hJ1 hb2; have hbx2 := hbx1.kept (grown_below hb2 none) (by simp); have hs2 := hb2.size)
        | (refine ⟨trivial, ?_⟩; gi_at_call 75; refine (callsIn_wide.2 (lines_wrong.calls (mk t) _ _ (hG _ hbel2) hw)).mono ?_; rintro e W3 ⟨rfl, hb3⟩; have hbel3 := hbel2.trans (hb3.mono (by omega)); have hJ3 := hJ.below hJ2 hb3; have hbx3 := hbx2.kept (grown_below hb3 none) (by simp); obtain ⟨fn, tmps, assign, body, hy, hR⟩ := hY pre (lineOf ((pre.length : Int) + 1) t) W3 hJ3 hlen; dsimp only [lineV, lineOf] at hy))
      refine hR.mono ?_
      rintro e W4 (⟨rfl, hJ4, hk4⟩ | ⟨rfl, hJx4⟩)
      · gi_wp2
        refine bodyPost_ret (results_none rfl _ _ _) rfl ?_
        exact ⟨⟨_, rfl⟩, .inl ⟨_, hx', hJ4⟩⟩
      · gi_wp2
        refine bodyPost_ret (results_none rfl _ _ _) rfl ?_
        exact ⟨⟨_, rfl⟩, .inr ⟨_, ⟨[], by rw [List.append_nil]; exact hx'⟩, hJx4⟩⟩
    · obtain ⟨i, hi⟩ : ∃ i : Nat, Lib.indexByte t 10 = (i : Int) := ⟨(Lib.indexByte t 10).toNat, by have := Lib.indexByte_ge t 10; omega⟩
      obtain ⟨hsp, hit⟩ := splitB_some hi
      have hcut := cut_some (by omega) hi
      rw [hsp] at hx
      have hx' : pre ++ (lineOf ((pre.length : Int) + 1) (t.take i) :: linesL ((pre.length : Int) + 1 + 1) (splitB (t.drop (i + 1)))) = allL s := hx
      have hlen : pre.length < (allL s).length := by rw [← hx']; simp
      have hli : (t.take i).length ≤ t.length := by simp; omega
      have hk := kind_is (t.take i) (by omega)
      have hw := wrong_is (t.take i) (by omega)
      gi_wp2_with (first
        | (refine ⟨trivial, ?_⟩; gi_at_call 74; refine (callsIn_wide.2 (strings_Cut.calls (mk t) _ _ _ _ _ hcut)).mono ?_; rintro e W1 ⟨rfl, hb1⟩; have hbel1 := hBel.trans (hb1.mono hle); have hJ1 := hJ.below hJs hb1; have hbx1 := hb.kept (grown_below hb1 none) (by simp); have hs1 := hb1.size)
        | (refine ⟨trivial, ?_⟩; gi_at_call 37; refine (callsIn_wide.2 (lines_Kind.calls (mk (t.take i)) _ _ hk)).mono ?_; rintro e W2 ⟨rfl, hb2⟩; have hbel2 := hbel1.trans (hb2.mono (by omega)); have hJ2 := hJ.below hJ1 hb2; have hbx2 := hbx1.kept (grown_below hb2 none) (by simp); have hs2 := hb2.size)
        | (refine ⟨trivial, ?_⟩; gi_at_call 75; refine (callsIn_wide.2 (lines_wrong.calls (mk (t.take i)) _ _ (hG _ hbel2) hw)).mono ?_; rintro e W3 ⟨rfl, hb3⟩; have hbel3 := hbel2.trans (hb3.mono (by omega)); have hJ3 := hJ.below hJ2 hb3; have hbx3 := hbx2.kept (grown_below hb3 none) (by simp); obtain ⟨fn, tmps, assign, body, hy, hR⟩ := hY pre (lineOf ((pre.length : Int) + 1) (t.take i)) W3 hJ3 hlen; dsimp only [lineV, lineOf] at hy))
      refine hR.mono ?_
      rintro e W4 (⟨rfl, hJ4, hk4⟩ | ⟨rfl, hJx4⟩)
      · have hbx4 : Boxed W4 Bx 9 (.string (mk t)) := hk4.2.trans hbx3
        have hc4 := hbx4.cell
        have hf4 := hbx4.frozen
        gi_wp2
        go_roundw
        case rel =>
          refine ⟨pre ++ [lineOf ((pre.length : Int) + 1) (t.take i)], t.drop (i + 1), ?_, ?_, hbx4.set _, by simp; omega, by simp; omega, ?_, hJ.set _ hJ4⟩
          · simp
          · rw [List.append_assoc, List.length_append]; exact hx'
          · exact (hbel3.trans hk4.1).setCell (p := ⟨Bx, 0, none⟩) hxB _
        case measure =>
          have e1 := (hbx4.set (.string (mk (t.drop (i + 1))))).cell
          unfold leftE
          rw [e1, hcell]
          simp [mk_size]
          omega
      · gi_wp2
        refine bodyPost_ret (results_none rfl _ _ _) rfl ?_
        exact ⟨⟨_, rfl⟩, .inr ⟨_, ⟨linesL ((pre.length : Int) + 1 + 1) (splitB (t.drop (i + 1))), by rw [List.append_assoc]; exact hx'⟩, hJx4⟩⟩
theorem each_stops (n : Nat) (hn : 1 ≤ n) (Bx n₀ : Nat) (s : ByteArray) (hs : s.size ≤ 1000000000) (w w0 : World) (hG : GT w0) (h0 : w0.heap.size ≤ n₀) (hb0 : Below n₀ w0 w) (hxB : n₀ ≤ Bx) (hlt : Bx < w.heap.size)
    (hBx : Boxed w Bx 9 (.string s)) :
    SeqX Fence.wide n Tryd.prog 73 #[.pointer (some ⟨Bx, 0, none⟩)] (fun x => #[lineV x]) (KpE n₀ Bx) Bx (fun ys => ys = allL s) (fun pre => pre <+: allL s) (allL s).length w :=
  fun l J Jx W hW hJ _ hY h00 =>
    each1_in n hn l Bx n₀ s hs J Jx W hJ (fun W' hb' => gt_same hG h0 ((hb0.trans (hW.mono (by omega))).trans hb')) hxB (by have := hW.size; omega)
      (fun pre x W1 hj hl => hY pre x W1 hj hl) (hBx.kept (grown_below hW none) (by simp)) h00
set_option maxHeartbeats 1000000 in
theorem each_in (n : Nat) (s : ByteArray) (w : World) :
    CallsIn Fence.wide n Tryd.prog 38 #[.string s] w fun e w' => e = .returned (.func (.func 73) #[] #[.pointer (some ⟨w.heap.size, 0, none⟩)]) ∧ w' = w.alloc (.cells #[.string s] 9) := by
  refine callsIn_of_wp Tryd.func38 rfl trivial ?_ rfl
  simp only [Tryd.ntmps38, List.size_toArray, List.length_cons, List.length_nil, Nat.reduceAdd, Nat.reduceSub, Array.replicate_succ, Array.replicate_zero, List.push_toArray, List.append_toArray, List.nil_append, List.cons_append]
  gi_wp2
  go_ret
  exact ⟨rfl, rfl⟩
end Go.Proofs.YtpkjpiphjdpegaaDoor.P
namespace Go.Proofs.YtpkjpiphjdpegaaDoor.P
open Go.RowKit Go.Shelf Go.Proofs.YtpkjpiphjdpegaaDoor.RF Go.Proofs.YtpkjpiphjdpegaaDoorW.PrintWords
attribute [local go_sem] Oper.semAt_some
set_option linter.unusedVariables false
set_option linter.unusedSimpArgs false
def lineC (x : S56) : Array Value := #[.int .i64 x.f0, .string x.f1, .int .u8 x.f2, .int .i64 x.f3]
theorem cells_new (W : World) (cs : Array Value) (t : TypeId) : ∀ (j : Nat) u, cs.toList[j]? = some u → (W.alloc (.cells cs t)).cell? ((⟨W.heap.size, 0, none⟩ : Addr).add j) = some u := by
  intro j u hj
  have ea : (⟨W.heap.size, 0, none⟩ : Addr).add j = ⟨W.heap.size, j, none⟩ := by
    unfold Addr.add
    by_cases z : j = 0
    · rw [if_pos z, z]
    · rw [if_neg z, Nat.zero_add]
  have hn : (W.alloc (.cells cs t)).heap[W.heap.size]? = some (.cells cs t) := World.alloc_heap_new W _
  rw [ea]
  unfold World.cell?
  simp only [hn]
  simpa using hj
def CoI (B Bx n₀ : Nat) (w : World) (pre : List S56) (W : World) : Prop :=
  (∃ v, Boxed W B 53 v ∧ Kd.R k56 56 W n₀ (fun k => k ≠ Bx) v pre) ∧ Below n₀ w W
theorem coI_ab (B Bx n₀ : Nat) (w : World) (hn : n₀ ≤ w.heap.size) (hx : n₀ ≤ Bx) (hB : n₀ ≤ B) (hne : B ≠ Bx) (C : Nat) (hC : n₀ ≤ C) : AbX Bx C (CoI B Bx n₀ w) := by
  rintro s W W' row ⟨⟨v, hv, hr⟩, hb⟩ hg hrow
  have key : ∀ (k : Nat) cells t, W.heap[k]? = some (.cells cells t (0, 0)) → k ≠ Bx → some k ≠ row := fun k cells t hk hkx e => by
    rcases hrow k e.symm with h | ⟨_, o, ho, hc⟩
    · exact hkx h
    · rw [hk] at ho; cases ho; cases hc
  refine ⟨⟨v, hv.kept hg (key B _ _ hv hne), Kd.R_grown2 hr rfl hg fun k e e' => ?_⟩, abX_below hn hC hx () W W' row hb hg hrow⟩
  obtain ⟨cells, hk⟩ := Kd.R_typed hr k e'.symm
  exact key k _ _ hk (hr.1 k e'.symm) e.symm
theorem info56 : (Tryd.prog.info? 56).map (fun i => (i.zero, i.size, i.bytes)) = some (some (.agg #[.int .i64 0, .string ⟨#[]⟩, .int .u8 0, .int .i64 0]), 4, 40) := by kernel_rfl
set_option maxHeartbeats 4000000 in
set_option maxRecDepth 100000 in
theorem appendSeq_in (n : Nat) (hn : 3 ≤ n) (Bx n₀ : Nat) (s : ByteArray) (hs : s.size ≤ 1000000000) (w w0 : World) (hG : GT w0) (h0 : w0.heap.size ≤ n₀) (hb0 : Below n₀ w0 w) (hxB : n₀ ≤ Bx) (hlt : Bx < w.heap.size)
    (hBx : Boxed w Bx 9 (.string s)) :
    CallsIn Fence.wide n Tryd.prog 101 #[.slice none 0 0, .func (.func 73) #[] #[.pointer (some ⟨Bx, 0, none⟩)]] w fun e W' => ∃ v, e = .returned v ∧ Kd.R k56 56 W' n₀ (fun k => k ≠ Bx) v (allL s) ∧ Below n₀ w W' := by
  have h1 : 1 ≤ n := by omega
  refine callsIn_of_wp_marks Tryd.func101 rfl trivial ?_ rfl
  simp only [Tryd.ntmps101, List.size_toArray, List.length_cons, List.length_nil, Nat.reduceAdd, Nat.reduceSub, Array.replicate_succ, Array.replicate_zero, List.push_toArray, List.append_toArray, List.nil_append, List.cons_append]
  gi_wp2
  have bB := Boxed.new w 53 (.slice none 0 0)
  have hbx1 := hBx.alloc (.cells #[.slice none 0 0] 53)
  have hB1 : Below n₀ w (w.alloc (.cells #[.slice none 0 0] 53)) := (Below.refl n₀ w).alloc (by omega) _
  refine range_own (Bx := Bx) (by simp; omega) rfl h1 (gf := 73) (lb := #[.pointer (some ⟨Bx, 0, none⟩)]) rfl trivial (enters_of Tryd.func73 (by kernel_rfl) rfl)
    (each_stops (n - 1) (by omega) Bx n₀ s hs _ w0 hG h0 (hb0.trans hB1) hxB (by simp; omega) hbx1)
    (fun h k => ⟨h.1.trans k.1, k.2.trans h.2⟩) (fun W l o o' hl ho hc hw => ⟨(Below.refl n₀ W).grown (grownBy_putObj' W l o') (by have := (Array.getElem?_eq_some_iff.1 ho).1; simp at hl; omega) (fun k e => by cases e; simp at hl; omega), World.putObj_heap_other (by simp at hl; omega)⟩) (Below.refl _ _) (fun _ => rfl)
    (CoI w.heap.size Bx n₀ w)
    (fun _ _ _ => False)
    (coI_ab _ _ _ _ (by omega) hxB (by omega) (by omega) _ (by simp; omega)) (fun _ => abX_false _ _)
    ⟨⟨_, bB, Kd.R_nil _ _ _ _ _⟩, hB1⟩
    (fun x a' W => ∃ Bv, w.heap.size < Bv ∧ W.heap[Bv]? = some (.cells (lineC x) 56 (0, 0)) ∧ a' = { tmps := #[.slice none 0 0, .func (.func 73) #[] #[.pointer (some ⟨Bx, 0, none⟩)], .pointer (some ⟨w.heap.size, 0, none⟩), undef, .slice none 0 0, .pointer (some ⟨Bv, 0, none⟩), .func (.func 73) #[] #[.pointer (some ⟨Bx, 0, none⟩)], lineV x, undef, undef, undef, undef, undef], defers := [] })
    (fun x a' s W W' row hs hg hr => by
      obtain ⟨Bv, q1, q2, q3⟩ := hs
      exact ⟨Bv, q1, abX_block (β := Unit) (b := Bv) (Bx := Bx) (B := (w.alloc (.cells #[.slice none 0 0] 53)).heap.size) (fun _ => .cells (lineC x) 56 (0, 0)) (fun _ => rfl) (by omega) () W W' row q2 hg hr, q3⟩)
    ?assign ?body ?done ?stop
  case assign =>
    intro l pre x W K hi hK
    unfold lineV at hK ⊢
    gi_wp2
    have hBW : n₀ ≤ W.heap.size := by have := hi.2.size; omega
    have hxW : Bx < W.heap.size := by have := hi.2.size; obtain ⟨⟨v, q, _⟩, _⟩ := hi; have := q.lt; omega
    have hwW : w.heap.size < W.heap.size := by obtain ⟨⟨v, q, _⟩, _⟩ := hi; exact q.lt
    exact hK _ _ ((KeepsOthers.alloc _ _).from _) ⟨(Below.refl _ W).alloc hBW _, (World.grownBy_alloc W _ none).block Bx hxW (by simp)⟩
      ((coI_ab _ _ _ _ (by omega) hxB (by omega) (by omega) n₀ (Nat.le_refl _)).alloc _ hi) ⟨W.heap.size, hwW, World.alloc_heap_new W _, rfl⟩
  case body =>
    rintro l pre x a' W hl ⟨r, hr⟩ ⟨⟨v, hv, hO⟩, hBel⟩ ⟨Bv, hBv, hcv, rfl⟩ hlen
    have hv1 := hv.cell
    have hf1 := hv.frozen
    have hlen2 : (allL s).length ≤ 1000000001 := by
      have e1 := linesL_len (splitB s.data.toList) 1
      have e2 := splitB_len s.data.toList
      have e3 : s.data.toList.length = s.size := by simp
      unfold allL
      omega
    have c0 : W.cell? ⟨Bv, 0, none⟩ = some (.int .i64 x.f0) := by simp [World.cell?, hcv, lineC]
    have c1 : W.cell? ⟨Bv, 1, none⟩ = some (.string x.f1) := by simp [World.cell?, hcv, lineC]
    have c2 : W.cell? ⟨Bv, 2, none⟩ = some (.int .u8 x.f2) := by simp [World.cell?, hcv, lineC]
    have c3 : W.cell? ⟨Bv, 3, none⟩ = some (.int .i64 x.f3) := by simp [World.cell?, hcv, lineC]
    unfold lineV
    obtain ⟨i0, hi, hz0, hz1, hz2⟩ := info_parts info56
    have hW : n₀ ≤ W.heap.size := by have := hBel.size; omega
    have hWB : Bx < W.heap.size := by have := hv.lt; omega
    have hBv' : Bv < W.heap.size := (Array.getElem?_eq_some_iff.1 hcv).1
    obtain ⟨h00, inner, hown, hreps⟩ := Kd.R_alloc hO (.cells (lineC x) 56)
    have hcn := cells_new W (lineC x) 56
    unfold lineC at hown hcn
    gi_wp2_with (gi_at_builtin; apply Classical.byContradiction; intro hNOT)
    apply hNOT
    clear hNOT
    refine wpListIn_append_own_at _ rfl _ _ 53 rfl n₀ 56 i0 _ 4 40 Tryd.underlying53 hi hz0 hz1 hz2 rfl (by decide) _ _ _ rfl hown ⟨W.heap.size, 0, none⟩ 1 1 _ rfl rfl hcn (by simp [Value.oneCell']) (by unfold maxLen; omega) (by omega) (by simp; omega) ?_
    intro v' w1 hown' hgrow _ hat
    obtain ⟨g', cap', rfl⟩ := ownsRow_succ hown'
    have hBlk : some w.heap.size ≠ v.ownBlock := Kd.R_ne hO hv (by decide)
    have hv1' : Boxed w1 w.heap.size 53 v := (hv.alloc _).kept hgrow hBlk
    have hc1 := hv1'.cell
    have hfr1 := hv1'.frozen
    have hO1 : Kd.R k56 56 w1 n₀ (fun k => k ≠ Bx) _ (pre ++ [x]) :=
      Kd.R_appended h00 hreps (k56_mkM _ n₀ (fun _ => False) x) (fun _ hk => hk.elim) (fun k hk => by simp at hk; omega) hown' hgrow (hat.imp_right fun h => ⟨_, h, Nat.le_refl _⟩)
    have hB2 : some w.heap.size ≠ (Value.slice (some ⟨g', 0, none⟩) (pre.length + 1) cap').ownBlock := Kd.R_ne hO1 hv1' (by decide)
    have hty := Kd.R_typed (Kd.R_alloc hO (.cells (lineC x) 56))
    have hbs := Kd.R_base hO
    have hbx : some Bx ≠ v.ownBlock := fun e => hO.1 Bx e.symm rfl
    have hsz1 := hgrow.size
    gi_wp2
    refine ⟨?_, ⟨?_, ?_⟩, ⟨⟨_, hv1'.set _, ?_⟩, ?_⟩⟩
    · refine (((KeepsOthers.alloc W _).trans (KeepsOthers.of_grownBy hgrow fun j o ej hj => ?_)).trans (KeepsOthers.setCell _ _ _)).from _
      obtain ⟨cells, hk⟩ := hty j ej
      have hj' := hk.symm.trans hj
      cases hj'
      rfl
    · exact (((Below.refl n₀ W).alloc hW _).grown hgrow (by simp; omega) (fun j ej => hbs j ej)).setCell (p := ⟨w.heap.size, 0, none⟩) (by simp; omega) _
    · rw [Below.heap_setCell _ _ _ _ (by simp; omega), hgrow.block Bx (by simp; omega) hbx]
      exact (World.grownBy_alloc W _ none).block Bx hWB (by simp)
    · exact Kd.R_grown2 hO1 rfl (grownBy_setCell' w1 w.heap.size _) (fun k e => by cases e; exact hB2)
    · exact hBel.trans ((((Below.refl n₀ W).alloc hW _).grown hgrow (by simp; omega) (fun j ej => hbs j ej)).setCell (p := ⟨w.heap.size, 0, none⟩) (by simp; omega) _)
  case done =>
    rintro D ys W _ rfl ⟨⟨v, hv, hO⟩, hBel⟩ hK
    have hv1 := hv.cell
    have hf1 := hv.frozen
    gi_wp2
    refine ⟨by simp, .inl ⟨_, _, rfl, run_takeDeferred hK, ?_⟩⟩
    refine ⟨_, results_tmp rfl _ _ _, ⟨_, rfl, ?_, ?_⟩⟩
    · refine Kd.R_grown2 hO rfl (grownBy_putObj' W D _) fun k e e' => ?_
      cases e
      obtain ⟨cells, hk⟩ := Kd.R_typed hO D e'.symm
      rw [hK] at hk
      cases hk
    · exact hBel.trans ((Below.refl n₀ W).grown (grownBy_putObj' W D _) (by have := hBel.size; omega) (fun k e => by cases e; rename_i hD; simp at hD; omega))
  case stop =>
    rintro D c pre W _ _ h _
    exact h.elim
def lines_All.f (a0 : ByteArray) : Option (List S56) := if a0.size ≤ 1000000000 then some (allL a0) else none
theorem each_call (s : ByteArray) (w : World) : Calls Tryd.prog 38 #[.string s] w fun e w' => e = .returned (.func (.func 73) #[] #[.pointer (some ⟨w.heap.size, 0, none⟩)]) ∧ w' = w.alloc (.cells #[.string s] 9) :=
  callsIn_wide.1 (each_in 5 s w)
theorem collect_call (Bx n₀ : Nat) (s : ByteArray) (hs : s.size ≤ 1000000000) (w w0 : World) (hG : GT w0) (h0 : w0.heap.size ≤ n₀) (hb0 : Below n₀ w0 w) (hxB : n₀ ≤ Bx) (hlt : Bx < w.heap.size)
    (hBx : Boxed w Bx 9 (.string s)) :
    Calls Tryd.prog 71 #[.func (.func 73) #[] #[.pointer (some ⟨Bx, 0, none⟩)]] w fun e W' => ∃ v, e = .returned v ∧ Kd.R k56 56 W' n₀ (fun k => k ≠ Bx) v (allL s) ∧ Below n₀ w W' := by
  have C := callsIn_wide.1 (appendSeq_in 5 (by omega) Bx n₀ s hs w w0 hG h0 hb0 hxB hlt hBx)
  go_enter Tryd.func71, Tryd.ntmps71
  go_wp2_with (first | (go_at_call 101; (with_reducible refine C.mono ?_); rintro e W1 ⟨v, rfl, hR, hb⟩))
  go_ret
  exact ⟨_, rfl, hR, hb⟩
theorem lines_All.calls (a0 : ByteArray) (r : List S56) (w : World) (hG : GT w) (h : lines_All.f a0 = some r) :
    Calls Tryd.prog 34 #[.string a0] w fun e w' => ∃ v0_ : Value, e = .returned v0_ ∧ Kd.R k56 56 w' w.heap.size (fun _ => True) v0_ r ∧ Below w.heap.size w w' := by
  unfold lines_All.f at h
  split at h
  · rename_i hs
    obtain rfl := Option.some.inj h
    have hB := (Below.refl w.heap.size w).alloc (Nat.le_refl _) (.cells #[.string a0] 9)
    have C := collect_call w.heap.size w.heap.size a0 hs (w.alloc (.cells #[.string a0] 9)) w hG (Nat.le_refl _) hB (Nat.le_refl _) (by simp) (Boxed.new w 9 _)
    go_enter Tryd.func34, Tryd.ntmps34
    go_wp2_with (first | (go_at_call 38; (with_reducible refine (each_call a0 _).mono ?_); rintro e W1 ⟨rfl, rfl⟩) | (go_at_call 71; (with_reducible refine C.mono ?_); rintro e W1 ⟨v, rfl, hR, hb⟩))
    go_ret
    exact ⟨_, rfl, Kd.R_mono hR (fun _ _ => trivial), hB.trans hb⟩
  · cases h
end Go.Proofs.YtpkjpiphjdpegaaDoor.P
namespace Go.Proofs.YtpkjpiphjdpegaaDoor.P
open Go.RowKit Go.Shelf Go.Proofs.YtpkjpiphjdpegaaDoor.RF Go.Proofs.YtpkjpiphjdpegaaDoorW.PrintWords
attribute [local go_sem] Oper.semAt_some
set_option linter.unusedVariables false
set_option linter.unusedSimpArgs false
def checkL : List S56 → Int × Int
  | [] => (0, 0)
  | x :: r => if x.f3 = 0 then checkL r else (x.f0, x.f3)
theorem checkL_none : ∀ l : List S56, (∀ x ∈ l, x.f3 = 0) → checkL l = (0, 0)
  | [], _ => rfl
  | x :: r, h => by rw [checkL, if_pos (h x (List.mem_cons_self ..)), checkL_none r fun y hy => h y (List.mem_cons_of_mem _ hy)]
theorem checkL_some : ∀ (p : List S56) (x : S56) (r : List S56), (∀ y ∈ p, y.f3 = 0) → x.f3 ≠ 0 → checkL (p ++ x :: r) = (x.f0, x.f3)
  | [], x, r, _, hx => by rw [List.nil_append, checkL, if_neg hx]
  | y :: p, x, r, h, hx => by rw [List.cons_append, checkL, if_pos (h y (List.mem_cons_self ..)), checkL_some p x r (fun z hz => h z (List.mem_cons_of_mem _ hz)) hx]
def lines_Check.f (a0 : ByteArray) : Option (Int × Int) := if a0.size ≤ 1000000000 then some (checkL (allL a0)) else none
theorem boxed_ab {β : Type} (Bx B b : Nat) (t : TypeId) (f : β → Value) (hne : b ≠ Bx) : AbX Bx B (fun (s : β) W => Boxed W b t (f s)) :=
  abX_block (fun s => .cells #[f s] t (0, 0)) (fun _ => rfl) hne
theorem cells2 (tmps : Array Value) (w : World) (B B' : Nat) (h1 : tmps[2]? = some (.pointer (some ⟨B, 0, none⟩))) (h2 : tmps[3]? = some (.pointer (some ⟨B', 0, none⟩))) {x y : Value} (q1 : Boxed w B 3 x) (q2 : Boxed w B' 23 y) :
    (results Tryd.f39 tmps).run Tryd.prog w = .ok (.tuple #[x, y]) w := by
  have hr : Tryd.f39.results = #[.cell 2 3, .cell 3 23] := rfl
  have c1 := q1.cell
  have c2 := q2.cell
  have g1 : tmps[2]?.getD undef = .pointer (some ⟨B, 0, none⟩) := by rw [h1]; rfl
  have g2 : tmps[3]?.getD undef = .pointer (some ⟨B', 0, none⟩) := by rw [h2]; rfl
  simp [results, hr, g1, g2, asAddr, go_sem, c1, c2]
set_option maxHeartbeats 4000000 in
set_option maxRecDepth 100000 in
theorem check_in (n : Nat) (hn : 5 ≤ n) (s : ByteArray) (hs : s.size ≤ 1000000000) (w : World) (hG : GT w) :
    CallsIn Fence.wide n Tryd.prog 39 #[.string s] w fun e W' => e = .returned (.tuple #[.int .i64 (checkL (allL s)).1, .int .i64 (checkL (allL s)).2]) ∧ Below w.heap.size w W' := by
  have h1 : 1 ≤ n := by omega
  have mixed : Tryd.prog.follows .mixedOrders = true := by kernel_rfl
  refine callsIn_of_wp_marks Tryd.func39 rfl trivial ?_ rfl
  simp only [Tryd.ntmps39, List.size_toArray, List.length_cons, List.length_nil, Nat.reduceAdd, Nat.reduceSub, Array.replicate_succ, Array.replicate_zero, List.push_toArray, List.append_toArray, List.nil_append, List.cons_append]
  gi_wp2_with (first | (refine ⟨trivial, ?_⟩; gi_at_call 38; refine (each_in _ s _).mono ?_; rintro e w' ⟨rfl, rfl⟩))
  have b2 := Boxed.new w 3 (.int .i64 0)
  have b3 := Boxed.new (w.alloc (.cells #[.int .i64 0] 3)) 23 (.int .i64 0)
  have bX := Boxed.new ((w.alloc (.cells #[.int .i64 0] 3)).alloc (.cells #[.int .i64 0] 23)) 9 (.string s)
  have b2' := (b2.alloc (.cells #[.int .i64 0] 23)).alloc (.cells #[.string s] 9)
  have b3' := b3.alloc (.cells #[.string s] 9)
  simp only [World.size_alloc] at b3 b3' bX
  have hB1 : Below w.heap.size w (((w.alloc (.cells #[.int .i64 0] 3)).alloc (.cells #[.int .i64 0] 23)).alloc (.cells #[.string s] 9)) := (((Below.refl _ w).alloc (Nat.le_refl _) _).alloc (by simp) _).alloc (by simp; omega) _
  have hsz : (((w.alloc (.cells #[.int .i64 0] 3)).alloc (.cells #[.int .i64 0] 23)).alloc (.cells #[.string s] 9)).heap.size = w.heap.size + 3 := by simp
  obtain ⟨W0, hW0⟩ : ∃ W0, (((w.alloc (.cells #[.int .i64 0] 3)).alloc (.cells #[.int .i64 0] 23)).alloc (.cells #[.string s] 9)) = W0 := ⟨_, rfl⟩
  rw [hW0] at b2' b3' bX hB1 hsz ⊢
  clear b2 b3 hW0
  refine range_own (Bx := w.heap.size + 2) (by omega) rfl h1 (gf := 73) (lb := #[.pointer (some ⟨w.heap.size + 2, 0, none⟩)]) rfl trivial (enters_of Tryd.func73 (by kernel_rfl) rfl)
    (each_stops (n - 1) (by omega) (w.heap.size + 2) w.heap.size s hs W0 w hG (Nat.le_refl _) hB1 (by omega) (by omega) bX)
    (fun h k => ⟨h.1.trans k.1, k.2.trans h.2⟩) (fun W l o o' hl ho hc hw => ⟨(Below.refl _ W).grown (grownBy_putObj' W l o') (by have := (Array.getElem?_eq_some_iff.1 ho).1; omega) (fun k e => by cases e; omega), World.putObj_heap_other (by omega)⟩) (Below.refl _ _) (fun _ => rfl)
    (fun pre W => (Boxed W w.heap.size 3 (.int .i64 0) ∧ Boxed W (w.heap.size + 1) 23 (.int .i64 0) ∧ Below w.heap.size w W ∧ W0.heap.size ≤ W.heap.size) ∧ ∀ x ∈ pre, x.f3 = 0)
    (fun c pre W => (c = .ret ∧ ∃ p x, pre = p ++ [x] ∧ (∀ y ∈ p, y.f3 = 0) ∧ x.f3 ≠ 0 ∧ Boxed W w.heap.size 3 (.int .i64 x.f0) ∧ Boxed W (w.heap.size + 1) 23 (.int .i64 x.f3) ∧ Below w.heap.size w W))
    (AbX.and (AbX.and (boxed_ab _ _ _ _ (fun _ => .int .i64 0) (by omega)) (AbX.and (boxed_ab _ _ _ _ (fun _ => .int .i64 0) (by omega)) (AbX.and (abX_below (Nat.le_refl _) (by omega) (by omega)) (abX_size _ _ _)))) (abX_pure _ _ (fun pre : List S56 => ∀ x ∈ pre, x.f3 = 0)))
    (fun c s' W W' row hh hg hr => by
      obtain ⟨rfl, p, x, e1, e2, e3, e4, e5, e6⟩ := hh
      exact ⟨rfl, p, x, e1, e2, e3, boxed_ab (β := Unit) _ W0.heap.size _ _ (fun _ => .int .i64 x.f0) (by omega) () W W' row e4 hg hr, boxed_ab (β := Unit) _ W0.heap.size _ _ (fun _ => .int .i64 x.f3) (by omega) () W W' row e5 hg hr, abX_below (β := Unit) (Nat.le_refl _) (by omega) (by omega) () W W' row e6 hg hr⟩)
    ⟨⟨b2', b3', hB1, Nat.le_refl _⟩, by simp⟩
    (fun x a' W => ∃ Bv, w.heap.size + 2 < Bv ∧ W.heap[Bv]? = some (.cells (lineC x) 56 (0, 0)) ∧ a' = { tmps := #[.string s, undef, .pointer (some ⟨w.heap.size, 0, none⟩), .pointer (some ⟨w.heap.size + 1, 0, none⟩), .pointer (some ⟨Bv, 0, none⟩), .string s, .func (.func 73) #[] #[.pointer (some ⟨w.heap.size + 2, 0, none⟩)], lineV x, undef, undef, undef, undef, undef, undef, undef], defers := [] })
    (fun x a' s' W W' row hs hg hr => by
      obtain ⟨Bv, q1, q2, q3⟩ := hs
      exact ⟨Bv, q1, abX_block (β := Unit) (b := Bv) (Bx := w.heap.size + 2) (B := W0.heap.size) (fun _ => .cells (lineC x) 56 (0, 0)) (fun _ => rfl) (by omega) () W W' row q2 hg hr, q3⟩)
    ?assign ?body ?done ?stop
  case assign =>
    intro l pre x W K hi hK
    unfold lineV at hK ⊢
    gi_wp2
    obtain ⟨⟨i1, i2, i3, i5⟩, i4⟩ := hi
    exact hK _ _ ((KeepsOthers.alloc _ _).from _) ⟨(Below.refl _ W).alloc (by omega) _, (World.grownBy_alloc W _ none).block (w.heap.size + 2) (by omega) (by simp)⟩
      ⟨⟨i1.alloc _, i2.alloc _, i3.alloc (by omega) _, by simp; omega⟩, i4⟩ ⟨W.heap.size, by omega, World.alloc_heap_new W _, rfl⟩
  case body =>
    rintro l pre x a' W hl ⟨r, hr⟩ ⟨⟨i1, i2, i3, i5⟩, i4⟩ ⟨Bv, hBv, hcv, rfl⟩ hlen
    have c0 : W.cell? ⟨Bv, 0, none⟩ = some (.int .i64 x.f0) := by simp [World.cell?, hcv, lineC]
    have c3 : W.cell? ⟨Bv, 3, none⟩ = some (.int .i64 x.f3) := by simp [World.cell?, hcv, lineC]
    have j1 := i1.cell
    have j2 := i1.frozen
    have j3 := i2.cell
    have j4 := i2.frozen
    unfold lineV
    by_cases hz : x.f3 = 0
    · have hz1 : (x.f3 != 0) = false := by simp [hz]
      gi_wp2
      exact ⟨KeepsFrom.refl _ _, ⟨Below.refl _ _, rfl⟩, ⟨i1, i2, i3, i5⟩, fun y hy => by
        rcases List.mem_append.1 hy with h | h
        · exact i4 y h
        · rw [List.mem_singleton.1 h]; exact hz⟩
    · have hz1 : (x.f3 != 0) = true := by simp [hz]
      gi_wp2
      gi_region_with_o fail
      all_goals gi_wp2
      all_goals exact ⟨(((KeepsOthers.setCell _ _ _).trans (KeepsOthers.setCell _ _ _)).trans (KeepsOthers.drew _)).from _, rfl, pre, x, rfl, i4, hz,
        ((i1.set _).other (by omega) _), ((i2.other (by omega) _).set _), i3.trans ((((Below.refl _ W).setCell (p := ⟨w.heap.size, 0, none⟩) (Nat.le_refl _) _).setCell (p := ⟨w.heap.size + 1, 0, none⟩) (by simp) _).drew)⟩
  case done =>
    rintro D ys W hD rfl ⟨⟨i1, i2, i3, i5⟩, i4⟩ hK
    have j1 := i1.cell
    have j2 := i1.frozen
    have j3 := i2.cell
    have j4 := i2.frozen
    gi_wp2
    rw [checkL_none _ i4]
    have k1 := (i1.set (.int .i64 0)).other (B' := w.heap.size + 1) (by omega) (.int .i64 0)
    have k2 := (i2.other (B' := w.heap.size) (by omega) (.int .i64 0)).set (.int .i64 0)
    have hK2 : ((W.setCell ⟨w.heap.size, 0, none⟩ (.int .i64 0)).setCell ⟨w.heap.size + 1, 0, none⟩ (.int .i64 0)).heap[D]? = some (.deferred (some [])) := by
      rw [Below.heap_setCell _ _ _ _ (by simp; omega), Below.heap_setCell _ _ _ _ (by simp; omega)]; exact hK
    have q1 := k1.kept (grownBy_putObj' _ D (.deferred none)) (by simp; omega)
    have q2 := k2.kept (grownBy_putObj' _ D (.deferred none)) (by simp; omega)
    refine ⟨by simp, .inl ⟨_, _, rfl, run_takeDeferred hK2, ?_⟩⟩
    refine ⟨_, cells2 _ _ _ _ rfl rfl q1 q2, rfl, ?_⟩
    exact i3.trans (((((Below.refl w.heap.size W).setCell (p := ⟨w.heap.size, 0, none⟩) (Nat.le_refl _) _).setCell (p := ⟨w.heap.size + 1, 0, none⟩) (by simp) _)).grown (grownBy_putObj' _ D _) (by have := i1.lt; simp; omega) (fun k e => by cases e; omega))
  case stop =>
    rintro D c pre W hD hp ⟨rfl, p, x, e1, e2, e3, e4, e5, e6⟩ hK
    gi_wp2
    have q1 := e4.kept (grownBy_putObj' _ D (.deferred none)) (by simp; omega)
    have q2 := e5.kept (grownBy_putObj' _ D (.deferred none)) (by simp; omega)
    have hc : checkL (allL s) = (x.f0, x.f3) := by
      obtain ⟨r, hr⟩ := hp
      rw [← hr, e1, List.append_assoc]
      exact checkL_some p x r e2 e3
    rw [hc]
    refine ⟨by simp, .inl ⟨_, _, rfl, run_takeDeferred hK, ?_⟩⟩
    refine ⟨_, cells2 _ _ _ _ rfl rfl q1 q2, rfl, ?_⟩
    exact e6.trans ((Below.refl _ W).grown (grownBy_putObj' W D _) (by have := e4.lt; omega) (fun k e => by cases e; omega))
theorem lines_Check.calls (a0 : ByteArray) (r1 r2 : Int) (w : World) (hG : GT w) (h : lines_Check.f a0 = some (r1, r2)) :
    Calls Tryd.prog 39 #[.string a0] w fun e w' => e = .returned (.tuple #[.int .i64 r1, .int .i64 r2]) ∧ Below w.heap.size w w' := by
  unfold lines_Check.f at h
  split at h
  · rename_i hs
    have e := Option.some.inj h
    have := callsIn_wide.1 (check_in 5 (by omega) a0 hs w hG)
    rw [e] at this
    exact this
  · cases h
end Go.Proofs.YtpkjpiphjdpegaaDoor.P
namespace Go.Proofs.YtpkjpiphjdpegaaDoor.P
open Go.RowKit Go.Proofs.YtpkjpiphjdpegaaDoorW.PrintWords Go.Proofs.YtpkjpiphjdpegaaDoorW.PrintLast Go.Proofs.YtpkjpiphjdpegaaDoorW.PrintMore
set_option linter.unusedVariables false
set_option linter.unusedSimpArgs false
theorem splitB_app : ∀ (a b : List UInt8), splitB (a ++ 10 :: b) = splitB a ++ splitB b
  | [], b => by show splitB (10 :: b) = [] :: splitB b; rw [splitB, if_pos rfl]
  | x :: a, b => by
    have ih := splitB_app a b
    rw [List.cons_append, splitB, splitB]
    by_cases c : x = 10
    · rw [if_pos c, if_pos c, ih]; rfl
    · rw [if_neg c, if_neg c, ih]
      cases h : splitB a with
      | nil => exact absurd h (splitB_ne a)
      | cons y r => rfl
theorem splitB_clean : ∀ (l : List UInt8), ∀ h ∈ splitB l, ∀ b ∈ h, b ≠ 10
  | [], h, hh => by simp [splitB] at hh; subst hh; simp
  | x :: l, h, hh => by
    have ih := splitB_clean l
    rw [splitB] at hh
    by_cases c : x = 10
    · rw [if_pos c] at hh
      rcases List.mem_cons.1 hh with rfl | hh
      · simp
      · exact ih h hh
    · rw [if_neg c] at hh
      cases q : splitB l with
      | nil => exact absurd q (splitB_ne l)
      | cons y r =>
        rw [q] at hh ih
        rcases List.mem_cons.1 hh with rfl | hh
        · intro b hb
          rcases List.mem_cons.1 hb with rfl | hb
          · exact c
          · exact ih y (List.mem_cons_self ..) b hb
        · exact ih h (List.mem_cons_of_mem _ hh)
theorem splitB_one : ∀ (h : List UInt8), (∀ b ∈ h, b ≠ 10) → splitB h = [h]
  | [], _ => rfl
  | x :: h, c => by
    rw [splitB, if_neg (c x (List.mem_cons_self ..)), splitB_one h fun b hb => c b (List.mem_cons_of_mem _ hb)]
theorem linesL_get : ∀ (l : List (List UInt8)) (n : Int) (i : Nat) (z : S56), i < l.length → (linesL n l).getD i z = lineOf (n + (i : Int)) (l.getD i [])
  | [], n, i, z, h => by simp at h
  | x :: l, n, 0, z, h => by rw [linesL, List.getD_cons_zero, List.getD_cons_zero]; congr 1; omega
  | x :: l, n, i + 1, z, h => by
    rw [linesL, List.getD_cons_succ, List.getD_cons_succ, linesL_get l (n + 1) i z (by simpa using h)]
    congr 1
    push_cast
    omega
theorem rd_line (L : List (List UInt8)) (i : Nat) (hi : i < L.length) : rd_T56 (linesL 1 L) (i : Int) = lineOf ((i : Int) + 1) (L.getD i []) := by
  unfold rd_T56
  rw [Int.toNat_natCast, linesL_get L 1 i z56 hi]
  congr 1
  omega
theorem all_f (s : ByteArray) (hs : s.size ≤ 1000000000) : lines_All.f s = some (allL s) := by unfold lines_All.f; rw [if_pos hs]
theorem wrapI (x : Int) (h0 : -9223372036854775808 ≤ x) (h1 : x ≤ 9223372036854775807) : wrap64 x = x := by unfold wrap64; omega
end Go.Proofs.YtpkjpiphjdpegaaDoor.P
namespace Go.Proofs.YtpkjpiphjdpegaaDoor.P
open Go.RowKit Go.Proofs.YtpkjpiphjdpegaaDoorW.PrintWords Go.Proofs.YtpkjpiphjdpegaaDoorW.PrintLast Go.Proofs.YtpkjpiphjdpegaaDoorW.PrintMore
attribute [local go_sem] max2_int min2_int max_two min_two max_three min_three max_four min_four
set_option linter.unusedVariables false
set_option linter.unusedSimpArgs false
attribute [local go_sem high] eqA56
def paymasterlaw09_letters.l0 : Nat → Int → ByteArray → Int → Option (ByteArray)
  | 0, _, _, _ => none
  | k + 1, x0, x3, x4 => if x4 < x0 then (if x3.size + 1 ≤ 9223372036854775807 then (paymasterlaw09_letters.l0 k x0 (x3 ++ (⟨#[97]⟩ : ByteArray)) (wrap64 (x4 + 1))) else (none)) else (some x3)
def paymasterlaw09_letters.f (k : Nat) (a0 : Int) : Option (ByteArray) := paymasterlaw09_letters.l0 k a0 (⟨#[]⟩ : ByteArray) 0
theorem paymasterlaw09_letters.mono_l : ∀ k, (∀ y0 y1 y2, LeO (paymasterlaw09_letters.l0 k y0 y1 y2) (paymasterlaw09_letters.l0 (k + 1) y0 y1 y2))
  | 0 => fun _ _ _ r h => by simp [paymasterlaw09_letters.l0] at h
  | k + 1 => by
    have ih0 := paymasterlaw09_letters.mono_l k
    · intro y0 y1 y2
      unfold paymasterlaw09_letters.l0
      repeat' first
      | (with_reducible exact ih0 _ _ _)
      | (with_reducible exact LeO.refl _)
      | (with_reducible exact LeO.none _)
      | (with_reducible refine LeO.ite ?_ ?_)
      | (with_reducible refine LeO.bind ?_ (fun _ => ?_))
      | exact ih0 _ _ _
      | exact LeO.none _
      | refine LeO.ite ?_ ?_
      | refine LeO.bind ?_ (fun _ => ?_)
theorem paymasterlaw09_letters.mono : ∀ a0 k, LeO (paymasterlaw09_letters.f k a0) (paymasterlaw09_letters.f (k + 1) a0) := by
  intro a0 k
  have ih0 := paymasterlaw09_letters.mono_l k
  unfold paymasterlaw09_letters.f
  repeat' first
      | (with_reducible exact ih0 _ _ _)
      | (with_reducible exact LeO.refl _)
      | (with_reducible exact LeO.none _)
      | (with_reducible refine LeO.ite ?_ ?_)
      | (with_reducible refine LeO.bind ?_ (fun _ => ?_))
      | exact ih0 _ _ _
      | exact LeO.none _
      | refine LeO.ite ?_ ?_
      | refine LeO.bind ?_ (fun _ => ?_)
set_option maxHeartbeats 8000000 in
set_option maxRecDepth 100000 in
theorem paymasterlaw09_letters.calls (k : Nat) (a0 : Int) (r : ByteArray) (w : World) (h : paymasterlaw09_letters.f k a0 = some r) :
    Calls Tryd.prog 76 #[.int .i64 a0] w fun e w' => e = .returned (.string r) ∧ Drawn0 w w' := by
  have H : (paymasterlaw09_letters.l0 k a0 (⟨#[]⟩ : ByteArray) 0) = some r := h
  clear h
  have H' := Aside0.mk H
  clear H
  go_enter Tryd.func76, Tryd.ntmps76
  go_wp2
  go_loopg [3, 4] k (fun kq v3 v4 w' => ∃ (x3_1 : ByteArray) (x4_1 : Int), v3 = .string x3_1 ∧ v4 = .int .i64 x4_1 ∧ Aside0 (paymasterlaw09_letters.l0 kq a0 x3_1 x4_1 = some r) ∧ Aside0 (kq ≤ k) ∧ Drawn0 w w')
  case atStart => exact ⟨((⟨#[]⟩ : ByteArray)), (0), (by first | rfl | (simp; done) | (simp [*]; done)), (by first | rfl | (simp; done) | (simp [*]; done)), H', ⟨Nat.le_refl _⟩, by repeat (first | exact Drawn0.refl _ | apply Drawn0.step)⟩
  case round =>
    clear H'
    obtain ⟨x3_1, x4_1, rfl, rfl, HA, HK1, ⟨m1, rfl⟩⟩ := hrel
    cases gk with
    | zero => exact absurd HA.out (by simp [paymasterlaw09_letters.l0])
    | succ k1 =>
      have H := HA.out
      clear HA
      simp only [paymasterlaw09_letters.l0] at H
      by_cases c2 : x4_1 < a0
      · rw [if_pos c2] at H
        have c2b0 : decide (x4_1 < a0) = true := decide_eq_true c2
        clear c2
        by_cases c3 : x3_1.size + 1 ≤ 9223372036854775807
        · rw [if_pos c3] at H
          have c3b0 := eq_true c3
          have c3b1 : decide (x3_1.size + 1 ≤ 9223372036854775807) = true := decide_eq_true c3
          try have c3b2 : (9223372036854775807 < x3_1.size + 1) = False := eq_false (Nat.not_lt.2 c3)
          have H' := Aside0.mk H
          clear H
          go_wp2
          go_roundg k1
          case measure => have := HK1.out; omega
          case rel => exact ⟨(x3_1 ++ (⟨#[97]⟩ : ByteArray)), (wrap64 (x4_1 + 1)), (by first | rfl | (simp; done) | (simp [*]; done)), (by first | rfl | (simp; done) | (simp [*]; done)), H', ⟨by have := HK1.out; omega⟩, by repeat (first | exact Drawn0.refl _ | apply Drawn0.step)⟩
        · rw [if_neg c3] at H
          exact absurd H (by simp)
      · rw [if_neg c2] at H
        have c2b0 : decide (x4_1 < a0) = false := decide_eq_false c2
        clear c2
        obtain rfl := Option.some.inj H
        go_wp2
        go_ret
        exact ⟨by first | rfl | (simp; done) | (simp [*]; done), by repeat (first | exact Drawn0.refl _ | apply Drawn0.step)⟩
def paymasterlaw09_awake.f (k : Nat)  : Option (Bool) := (lines_All.f (⟨#[97, 10, 35, 98]⟩ : ByteArray)).bind fun t192 => ((lines_All.f (⟨#[]⟩ : ByteArray)).bind fun t195 => ((paymasterlaw09_letters.f k 81).bind fun t198 => (if 2 + t198.size ≤ 9223372036854775807 then ((lines_Check.f ((⟨#[97, 10]⟩ : ByteArray) ++ t198)).bind fun bt199 => ((paymasterlaw09_letters.f k 81).bind fun t201 => (if t201.size + 1 ≤ 9223372036854775807 then ((lines_Check.f (t201 ++ (⟨#[255]⟩ : ByteArray))).bind fun bt202 => ((paymasterlaw09_letters.f k 80).bind fun t204 => ((lines_Check.f t204).bind fun bt205 => (if (t192.length : Int) = 2 then (if 0 < (t192.length : Int) then (if (((rd_T56 t192 0).f0) == 1 && ((((rd_T56 t192 0).f1).toList) == ([97] : List UInt8) && (((rd_T56 t192 0).f2) == 2 && (((rd_T56 t192 0).f3) == 0)))) = true then (if 1 < (t192.length : Int) then (if (((rd_T56 t192 1).f0) == 2 && ((((rd_T56 t192 1).f1).toList) == ([35, 98] : List UInt8) && (((rd_T56 t192 1).f2) == 1 && (((rd_T56 t192 1).f3) == 0)))) = true then (if (t195.length : Int) = 1 then (if 0 < (t195.length : Int) then (if (((rd_T56 t195 0).f0) == 1 && ((((rd_T56 t195 0).f1).toList) == ([] : List UInt8) && (((rd_T56 t195 0).f2) == 0 && (((rd_T56 t195 0).f3) == 0)))) = true then (if bt199.1 = 2 then (if bt199.2 = 91 then (if bt202.1 = 1 then (if bt202.2 = 90 then (if bt205.1 = 0 then (some (bt205.2 == 0)) else (none)) else (none)) else (none)) else (none)) else (none)) else (none)) else (none)) else (none)) else (none)) else (none)) else (none)) else (none)) else (none))))) else (none)))) else (none))))
theorem paymasterlaw09_awake.mono : ∀ k, LeO (paymasterlaw09_awake.f k ) (paymasterlaw09_awake.f (k + 1) ) := by
  intro  k
  unfold paymasterlaw09_awake.f
  repeat' first
      | (with_reducible exact paymasterlaw09_letters.mono _ _)
      | (with_reducible exact LeO.refl _)
      | (with_reducible exact LeO.none _)
      | (with_reducible refine LeO.ite ?_ ?_)
      | (with_reducible refine LeO.bind ?_ (fun _ => ?_))
      | exact paymasterlaw09_letters.mono _ _
      | exact LeO.none _
      | refine LeO.ite ?_ ?_
      | refine LeO.bind ?_ (fun _ => ?_)
set_option maxHeartbeats 8000000 in
set_option maxRecDepth 100000 in
theorem paymasterlaw09_awake.calls (k : Nat)  (r : Bool) (w : World) (hG : GT w) (h : paymasterlaw09_awake.f k  = some r) :
    Calls Tryd.prog 41 #[] w fun e w' => e = .returned (.bool r) ∧ Below w.heap.size w w' := by
  have hu56 := Tryd.underlying56
  have HB := Aside0.mk (Below.refl w.heap.size w)
  have H : ((lines_All.f (⟨#[97, 10, 35, 98]⟩ : ByteArray)).bind fun t192 => ((lines_All.f (⟨#[]⟩ : ByteArray)).bind fun t195 => ((paymasterlaw09_letters.f k 81).bind fun t198 => (if 2 + t198.size ≤ 9223372036854775807 then ((lines_Check.f ((⟨#[97, 10]⟩ : ByteArray) ++ t198)).bind fun bt199 => ((paymasterlaw09_letters.f k 81).bind fun t201 => (if t201.size + 1 ≤ 9223372036854775807 then ((lines_Check.f (t201 ++ (⟨#[255]⟩ : ByteArray))).bind fun bt202 => ((paymasterlaw09_letters.f k 80).bind fun t204 => ((lines_Check.f t204).bind fun bt205 => (if (t192.length : Int) = 2 then (if 0 < (t192.length : Int) then (if (((rd_T56 t192 0).f0) == 1 && ((((rd_T56 t192 0).f1).toList) == ([97] : List UInt8) && (((rd_T56 t192 0).f2) == 2 && (((rd_T56 t192 0).f3) == 0)))) = true then (if 1 < (t192.length : Int) then (if (((rd_T56 t192 1).f0) == 2 && ((((rd_T56 t192 1).f1).toList) == ([35, 98] : List UInt8) && (((rd_T56 t192 1).f2) == 1 && (((rd_T56 t192 1).f3) == 0)))) = true then (if (t195.length : Int) = 1 then (if 0 < (t195.length : Int) then (if (((rd_T56 t195 0).f0) == 1 && ((((rd_T56 t195 0).f1).toList) == ([] : List UInt8) && (((rd_T56 t195 0).f2) == 0 && (((rd_T56 t195 0).f3) == 0)))) = true then (if bt199.1 = 2 then (if bt199.2 = 91 then (if bt202.1 = 1 then (if bt202.2 = 90 then (if bt205.1 = 0 then (some (bt205.2 == 0)) else (none)) else (none)) else (none)) else (none)) else (none)) else (none)) else (none)) else (none)) else (none)) else (none)) else (none)) else (none)) else (none))))) else (none)))) else (none))))) = some r := h
  clear h
  replace H := Option.bind_eq_some_iff.mp H
  obtain ⟨t192, A10, H⟩ := H
  replace H : ((lines_All.f (⟨#[]⟩ : ByteArray)).bind fun t195 => ((paymasterlaw09_letters.f k 81).bind fun t198 => (if 2 + t198.size ≤ 9223372036854775807 then ((lines_Check.f ((⟨#[97, 10]⟩ : ByteArray) ++ t198)).bind fun bt199 => ((paymasterlaw09_letters.f k 81).bind fun t201 => (if t201.size + 1 ≤ 9223372036854775807 then ((lines_Check.f (t201 ++ (⟨#[255]⟩ : ByteArray))).bind fun bt202 => ((paymasterlaw09_letters.f k 80).bind fun t204 => ((lines_Check.f t204).bind fun bt205 => (if (t192.length : Int) = 2 then (if 0 < (t192.length : Int) then (if (((rd_T56 t192 0).f0) == 1 && ((((rd_T56 t192 0).f1).toList) == ([97] : List UInt8) && (((rd_T56 t192 0).f2) == 2 && (((rd_T56 t192 0).f3) == 0)))) = true then (if 1 < (t192.length : Int) then (if (((rd_T56 t192 1).f0) == 2 && ((((rd_T56 t192 1).f1).toList) == ([35, 98] : List UInt8) && (((rd_T56 t192 1).f2) == 1 && (((rd_T56 t192 1).f3) == 0)))) = true then (if (t195.length : Int) = 1 then (if 0 < (t195.length : Int) then (if (((rd_T56 t195 0).f0) == 1 && ((((rd_T56 t195 0).f1).toList) == ([] : List UInt8) && (((rd_T56 t195 0).f2) == 0 && (((rd_T56 t195 0).f3) == 0)))) = true then (if bt199.1 = 2 then (if bt199.2 = 91 then (if bt202.1 = 1 then (if bt202.2 = 90 then (if bt205.1 = 0 then (some (bt205.2 == 0)) else (none)) else (none)) else (none)) else (none)) else (none)) else (none)) else (none)) else (none)) else (none)) else (none)) else (none)) else (none)) else (none))))) else (none)))) else (none)))) = some r := H
  have A1 := Aside0.mk A10
  clear A10
  replace H := Option.bind_eq_some_iff.mp H
  obtain ⟨t195, A20, H⟩ := H
  replace H : ((paymasterlaw09_letters.f k 81).bind fun t198 => (if 2 + t198.size ≤ 9223372036854775807 then ((lines_Check.f ((⟨#[97, 10]⟩ : ByteArray) ++ t198)).bind fun bt199 => ((paymasterlaw09_letters.f k 81).bind fun t201 => (if t201.size + 1 ≤ 9223372036854775807 then ((lines_Check.f (t201 ++ (⟨#[255]⟩ : ByteArray))).bind fun bt202 => ((paymasterlaw09_letters.f k 80).bind fun t204 => ((lines_Check.f t204).bind fun bt205 => (if (t192.length : Int) = 2 then (if 0 < (t192.length : Int) then (if (((rd_T56 t192 0).f0) == 1 && ((((rd_T56 t192 0).f1).toList) == ([97] : List UInt8) && (((rd_T56 t192 0).f2) == 2 && (((rd_T56 t192 0).f3) == 0)))) = true then (if 1 < (t192.length : Int) then (if (((rd_T56 t192 1).f0) == 2 && ((((rd_T56 t192 1).f1).toList) == ([35, 98] : List UInt8) && (((rd_T56 t192 1).f2) == 1 && (((rd_T56 t192 1).f3) == 0)))) = true then (if (t195.length : Int) = 1 then (if 0 < (t195.length : Int) then (if (((rd_T56 t195 0).f0) == 1 && ((((rd_T56 t195 0).f1).toList) == ([] : List UInt8) && (((rd_T56 t195 0).f2) == 0 && (((rd_T56 t195 0).f3) == 0)))) = true then (if bt199.1 = 2 then (if bt199.2 = 91 then (if bt202.1 = 1 then (if bt202.2 = 90 then (if bt205.1 = 0 then (some (bt205.2 == 0)) else (none)) else (none)) else (none)) else (none)) else (none)) else (none)) else (none)) else (none)) else (none)) else (none)) else (none)) else (none)) else (none))))) else (none)))) else (none))) = some r := H
  have A2 := Aside0.mk A20
  clear A20
  replace H := Option.bind_eq_some_iff.mp H
  obtain ⟨t198, A30, H⟩ := H
  replace H : (if 2 + t198.size ≤ 9223372036854775807 then ((lines_Check.f ((⟨#[97, 10]⟩ : ByteArray) ++ t198)).bind fun bt199 => ((paymasterlaw09_letters.f k 81).bind fun t201 => (if t201.size + 1 ≤ 9223372036854775807 then ((lines_Check.f (t201 ++ (⟨#[255]⟩ : ByteArray))).bind fun bt202 => ((paymasterlaw09_letters.f k 80).bind fun t204 => ((lines_Check.f t204).bind fun bt205 => (if (t192.length : Int) = 2 then (if 0 < (t192.length : Int) then (if (((rd_T56 t192 0).f0) == 1 && ((((rd_T56 t192 0).f1).toList) == ([97] : List UInt8) && (((rd_T56 t192 0).f2) == 2 && (((rd_T56 t192 0).f3) == 0)))) = true then (if 1 < (t192.length : Int) then (if (((rd_T56 t192 1).f0) == 2 && ((((rd_T56 t192 1).f1).toList) == ([35, 98] : List UInt8) && (((rd_T56 t192 1).f2) == 1 && (((rd_T56 t192 1).f3) == 0)))) = true then (if (t195.length : Int) = 1 then (if 0 < (t195.length : Int) then (if (((rd_T56 t195 0).f0) == 1 && ((((rd_T56 t195 0).f1).toList) == ([] : List UInt8) && (((rd_T56 t195 0).f2) == 0 && (((rd_T56 t195 0).f3) == 0)))) = true then (if bt199.1 = 2 then (if bt199.2 = 91 then (if bt202.1 = 1 then (if bt202.2 = 90 then (if bt205.1 = 0 then (some (bt205.2 == 0)) else (none)) else (none)) else (none)) else (none)) else (none)) else (none)) else (none)) else (none)) else (none)) else (none)) else (none)) else (none)) else (none))))) else (none)))) else (none)) = some r := H
  have A3 := Aside0.mk A30
  clear A30
  by_cases c4 : 2 + t198.size ≤ 9223372036854775807
  · rw [if_pos c4] at H
    have c4b0 := eq_true c4
    have c4b1 : decide (2 + t198.size ≤ 9223372036854775807) = true := decide_eq_true c4
    try have c4b2 : (9223372036854775807 < 2 + t198.size) = False := eq_false (Nat.not_lt.2 c4)
    replace H := Option.bind_eq_some_iff.mp H
    obtain ⟨⟨t199, t200⟩, A50, H⟩ := H
    replace H : ((paymasterlaw09_letters.f k 81).bind fun t201 => (if t201.size + 1 ≤ 9223372036854775807 then ((lines_Check.f (t201 ++ (⟨#[255]⟩ : ByteArray))).bind fun bt202 => ((paymasterlaw09_letters.f k 80).bind fun t204 => ((lines_Check.f t204).bind fun bt205 => (if (t192.length : Int) = 2 then (if 0 < (t192.length : Int) then (if (((rd_T56 t192 0).f0) == 1 && ((((rd_T56 t192 0).f1).toList) == ([97] : List UInt8) && (((rd_T56 t192 0).f2) == 2 && (((rd_T56 t192 0).f3) == 0)))) = true then (if 1 < (t192.length : Int) then (if (((rd_T56 t192 1).f0) == 2 && ((((rd_T56 t192 1).f1).toList) == ([35, 98] : List UInt8) && (((rd_T56 t192 1).f2) == 1 && (((rd_T56 t192 1).f3) == 0)))) = true then (if (t195.length : Int) = 1 then (if 0 < (t195.length : Int) then (if (((rd_T56 t195 0).f0) == 1 && ((((rd_T56 t195 0).f1).toList) == ([] : List UInt8) && (((rd_T56 t195 0).f2) == 0 && (((rd_T56 t195 0).f3) == 0)))) = true then (if t199 = 2 then (if t200 = 91 then (if bt202.1 = 1 then (if bt202.2 = 90 then (if bt205.1 = 0 then (some (bt205.2 == 0)) else (none)) else (none)) else (none)) else (none)) else (none)) else (none)) else (none)) else (none)) else (none)) else (none)) else (none)) else (none)) else (none))))) else (none))) = some r := H
    have A5 := Aside0.mk A50
    clear A50
    replace H := Option.bind_eq_some_iff.mp H
    obtain ⟨t201, A60, H⟩ := H
    replace H : (if t201.size + 1 ≤ 9223372036854775807 then ((lines_Check.f (t201 ++ (⟨#[255]⟩ : ByteArray))).bind fun bt202 => ((paymasterlaw09_letters.f k 80).bind fun t204 => ((lines_Check.f t204).bind fun bt205 => (if (t192.length : Int) = 2 then (if 0 < (t192.length : Int) then (if (((rd_T56 t192 0).f0) == 1 && ((((rd_T56 t192 0).f1).toList) == ([97] : List UInt8) && (((rd_T56 t192 0).f2) == 2 && (((rd_T56 t192 0).f3) == 0)))) = true then (if 1 < (t192.length : Int) then (if (((rd_T56 t192 1).f0) == 2 && ((((rd_T56 t192 1).f1).toList) == ([35, 98] : List UInt8) && (((rd_T56 t192 1).f2) == 1 && (((rd_T56 t192 1).f3) == 0)))) = true then (if (t195.length : Int) = 1 then (if 0 < (t195.length : Int) then (if (((rd_T56 t195 0).f0) == 1 && ((((rd_T56 t195 0).f1).toList) == ([] : List UInt8) && (((rd_T56 t195 0).f2) == 0 && (((rd_T56 t195 0).f3) == 0)))) = true then (if t199 = 2 then (if t200 = 91 then (if bt202.1 = 1 then (if bt202.2 = 90 then (if bt205.1 = 0 then (some (bt205.2 == 0)) else (none)) else (none)) else (none)) else (none)) else (none)) else (none)) else (none)) else (none)) else (none)) else (none)) else (none)) else (none)) else (none))))) else (none)) = some r := H
    have A6 := Aside0.mk A60
    clear A60
    by_cases c7 : t201.size + 1 ≤ 9223372036854775807
    · rw [if_pos c7] at H
      have c7b0 := eq_true c7
      have c7b1 : decide (t201.size + 1 ≤ 9223372036854775807) = true := decide_eq_true c7
      try have c7b2 : (9223372036854775807 < t201.size + 1) = False := eq_false (Nat.not_lt.2 c7)
      replace H := Option.bind_eq_some_iff.mp H
      obtain ⟨⟨t202, t203⟩, A80, H⟩ := H
      replace H : ((paymasterlaw09_letters.f k 80).bind fun t204 => ((lines_Check.f t204).bind fun bt205 => (if (t192.length : Int) = 2 then (if 0 < (t192.length : Int) then (if (((rd_T56 t192 0).f0) == 1 && ((((rd_T56 t192 0).f1).toList) == ([97] : List UInt8) && (((rd_T56 t192 0).f2) == 2 && (((rd_T56 t192 0).f3) == 0)))) = true then (if 1 < (t192.length : Int) then (if (((rd_T56 t192 1).f0) == 2 && ((((rd_T56 t192 1).f1).toList) == ([35, 98] : List UInt8) && (((rd_T56 t192 1).f2) == 1 && (((rd_T56 t192 1).f3) == 0)))) = true then (if (t195.length : Int) = 1 then (if 0 < (t195.length : Int) then (if (((rd_T56 t195 0).f0) == 1 && ((((rd_T56 t195 0).f1).toList) == ([] : List UInt8) && (((rd_T56 t195 0).f2) == 0 && (((rd_T56 t195 0).f3) == 0)))) = true then (if t199 = 2 then (if t200 = 91 then (if t202 = 1 then (if t203 = 90 then (if bt205.1 = 0 then (some (bt205.2 == 0)) else (none)) else (none)) else (none)) else (none)) else (none)) else (none)) else (none)) else (none)) else (none)) else (none)) else (none)) else (none)) else (none)))) = some r := H
      have A8 := Aside0.mk A80
      clear A80
      replace H := Option.bind_eq_some_iff.mp H
      obtain ⟨t204, A90, H⟩ := H
      replace H : ((lines_Check.f t204).bind fun bt205 => (if (t192.length : Int) = 2 then (if 0 < (t192.length : Int) then (if (((rd_T56 t192 0).f0) == 1 && ((((rd_T56 t192 0).f1).toList) == ([97] : List UInt8) && (((rd_T56 t192 0).f2) == 2 && (((rd_T56 t192 0).f3) == 0)))) = true then (if 1 < (t192.length : Int) then (if (((rd_T56 t192 1).f0) == 2 && ((((rd_T56 t192 1).f1).toList) == ([35, 98] : List UInt8) && (((rd_T56 t192 1).f2) == 1 && (((rd_T56 t192 1).f3) == 0)))) = true then (if (t195.length : Int) = 1 then (if 0 < (t195.length : Int) then (if (((rd_T56 t195 0).f0) == 1 && ((((rd_T56 t195 0).f1).toList) == ([] : List UInt8) && (((rd_T56 t195 0).f2) == 0 && (((rd_T56 t195 0).f3) == 0)))) = true then (if t199 = 2 then (if t200 = 91 then (if t202 = 1 then (if t203 = 90 then (if bt205.1 = 0 then (some (bt205.2 == 0)) else (none)) else (none)) else (none)) else (none)) else (none)) else (none)) else (none)) else (none)) else (none)) else (none)) else (none)) else (none)) else (none))) = some r := H
      have A9 := Aside0.mk A90
      clear A90
      replace H := Option.bind_eq_some_iff.mp H
      obtain ⟨⟨t205, t206⟩, A100, H⟩ := H
      replace H : (if (t192.length : Int) = 2 then (if 0 < (t192.length : Int) then (if (((rd_T56 t192 0).f0) == 1 && ((((rd_T56 t192 0).f1).toList) == ([97] : List UInt8) && (((rd_T56 t192 0).f2) == 2 && (((rd_T56 t192 0).f3) == 0)))) = true then (if 1 < (t192.length : Int) then (if (((rd_T56 t192 1).f0) == 2 && ((((rd_T56 t192 1).f1).toList) == ([35, 98] : List UInt8) && (((rd_T56 t192 1).f2) == 1 && (((rd_T56 t192 1).f3) == 0)))) = true then (if (t195.length : Int) = 1 then (if 0 < (t195.length : Int) then (if (((rd_T56 t195 0).f0) == 1 && ((((rd_T56 t195 0).f1).toList) == ([] : List UInt8) && (((rd_T56 t195 0).f2) == 0 && (((rd_T56 t195 0).f3) == 0)))) = true then (if t199 = 2 then (if t200 = 91 then (if t202 = 1 then (if t203 = 90 then (if t205 = 0 then (some (t206 == 0)) else (none)) else (none)) else (none)) else (none)) else (none)) else (none)) else (none)) else (none)) else (none)) else (none)) else (none)) else (none)) else (none)) = some r := H
      have A10 := Aside0.mk A100
      clear A100
      by_cases c11 : (t192.length : Int) = 2
      · rw [if_pos c11] at H
        have c11b0 : ((t192.length : Int) == 2) = true := beq_iff_eq.mpr c11
        have c11b1 : ((t192.length : Int) != 2) = false := bne_eq_false_iff_eq.mpr c11
        clear c11
        by_cases c12 : 0 < (t192.length : Int)
        · rw [if_pos c12] at H
          have c12b0 : decide (0 < (t192.length : Int)) = true := decide_eq_true c12
          have c12b1 : decide (0 < t192.length) = true := decide_eq_true (by omega)
          clear c12
          by_cases c13 : (((rd_T56 t192 0).f0) == 1 && ((((rd_T56 t192 0).f1).toList) == ([97] : List UInt8) && (((rd_T56 t192 0).f2) == 2 && (((rd_T56 t192 0).f3) == 0)))) = true
          · rw [if_pos c13] at H
            have c13b0 : (((rd_T56 t192 0).f0) == 1 && ((((rd_T56 t192 0).f1).toList) == ([97] : List UInt8) && (((rd_T56 t192 0).f2) == 2 && (((rd_T56 t192 0).f3) == 0)))) = true := c13
            (try (have c13b1 : decide (((rd_T56 t192 0).f0) = 1 && ((((rd_T56 t192 0).f1).toList) == ([97] : List UInt8) && (((rd_T56 t192 0).f2) == 2 && (((rd_T56 t192 0).f3) == 0)))) = true := by simpa using c13))
            (try (have c13b2 : (((rd_T56 t192 0).f0) == 1 && ((((rd_T56 t192 0).f1).toList) == ([97] : List UInt8) && (((rd_T56 t192 0).f2) == 2 && (((rd_T56 t192 0).f3) == 0)))) = true := by simpa using c13))
            clear c13
            by_cases c14 : 1 < (t192.length : Int)
            · rw [if_pos c14] at H
              have c14b0 : decide (1 < (t192.length : Int)) = true := decide_eq_true c14
              have c14b1 : decide (1 < t192.length) = true := decide_eq_true (by omega)
              clear c14
              by_cases c15 : (((rd_T56 t192 1).f0) == 2 && ((((rd_T56 t192 1).f1).toList) == ([35, 98] : List UInt8) && (((rd_T56 t192 1).f2) == 1 && (((rd_T56 t192 1).f3) == 0)))) = true
              · rw [if_pos c15] at H
                have c15b0 : (((rd_T56 t192 1).f0) == 2 && ((((rd_T56 t192 1).f1).toList) == ([35, 98] : List UInt8) && (((rd_T56 t192 1).f2) == 1 && (((rd_T56 t192 1).f3) == 0)))) = true := c15
                (try (have c15b1 : decide (((rd_T56 t192 1).f0) = 2 && ((((rd_T56 t192 1).f1).toList) == ([35, 98] : List UInt8) && (((rd_T56 t192 1).f2) == 1 && (((rd_T56 t192 1).f3) == 0)))) = true := by simpa using c15))
                (try (have c15b2 : (((rd_T56 t192 1).f0) == 2 && ((((rd_T56 t192 1).f1).toList) == ([35, 98] : List UInt8) && (((rd_T56 t192 1).f2) == 1 && (((rd_T56 t192 1).f3) == 0)))) = true := by simpa using c15))
                clear c15
                by_cases c16 : (t195.length : Int) = 1
                · rw [if_pos c16] at H
                  have c16b0 : ((t195.length : Int) == 1) = true := beq_iff_eq.mpr c16
                  have c16b1 : ((t195.length : Int) != 1) = false := bne_eq_false_iff_eq.mpr c16
                  clear c16
                  by_cases c17 : 0 < (t195.length : Int)
                  · rw [if_pos c17] at H
                    have c17b0 : decide (0 < (t195.length : Int)) = true := decide_eq_true c17
                    have c17b1 : decide (0 < t195.length) = true := decide_eq_true (by omega)
                    clear c17
                    by_cases c18 : (((rd_T56 t195 0).f0) == 1 && ((((rd_T56 t195 0).f1).toList) == ([] : List UInt8) && (((rd_T56 t195 0).f2) == 0 && (((rd_T56 t195 0).f3) == 0)))) = true
                    · rw [if_pos c18] at H
                      have c18b0 : (((rd_T56 t195 0).f0) == 1 && ((((rd_T56 t195 0).f1).toList) == ([] : List UInt8) && (((rd_T56 t195 0).f2) == 0 && (((rd_T56 t195 0).f3) == 0)))) = true := c18
                      (try (have c18b1 : decide (((rd_T56 t195 0).f0) = 1 && ((((rd_T56 t195 0).f1).toList) == ([] : List UInt8) && (((rd_T56 t195 0).f2) == 0 && (((rd_T56 t195 0).f3) == 0)))) = true := by simpa using c18))
                      (try (have c18b2 : (((rd_T56 t195 0).f0) == 1 && ((((rd_T56 t195 0).f1).toList) == ([] : List UInt8) && (((rd_T56 t195 0).f2) == 0 && (((rd_T56 t195 0).f3) == 0)))) = true := by simpa using c18))
                      clear c18
                      by_cases c19 : t199 = 2
                      · rw [if_pos c19] at H
                        have c19b0 : (t199 == 2) = true := beq_iff_eq.mpr c19
                        have c19b1 : (t199 != 2) = false := bne_eq_false_iff_eq.mpr c19
                        clear c19
                        by_cases c20 : t200 = 91
                        · rw [if_pos c20] at H
                          have c20b0 : (t200 == 91) = true := beq_iff_eq.mpr c20
                          have c20b1 : (t200 != 91) = false := bne_eq_false_iff_eq.mpr c20
                          clear c20
                          by_cases c21 : t202 = 1
                          · rw [if_pos c21] at H
                            have c21b0 : (t202 == 1) = true := beq_iff_eq.mpr c21
                            have c21b1 : (t202 != 1) = false := bne_eq_false_iff_eq.mpr c21
                            clear c21
                            by_cases c22 : t203 = 90
                            · rw [if_pos c22] at H
                              have c22b0 : (t203 == 90) = true := beq_iff_eq.mpr c22
                              have c22b1 : (t203 != 90) = false := bne_eq_false_iff_eq.mpr c22
                              clear c22
                              by_cases c23 : t205 = 0
                              · rw [if_pos c23] at H
                                have c23b0 : (t205 == 0) = true := beq_iff_eq.mpr c23
                                have c23b1 : (t205 != 0) = false := bne_eq_false_iff_eq.mpr c23
                                clear c23
                                obtain rfl := Option.some.inj H
                                go_enter Tryd.func41, Tryd.ntmps41
                                go_wp2_with (first | ((with_reducible refine gate_callee (f := 34) rfl ?_); refine goesL_ (some 9) rfl rfl Tryd.func34 (by kernel_rfl) rfl #[.string (⟨#[97, 10, 35, 98]⟩ : ByteArray)] rfl (by (try simp only [List.map_toArray, List.map_cons, List.map_nil]); first | done | rfl | (simp only [List.length_drop, List.length_take]; rfl)) ?_; (with_reducible refine (lines_All.calls (⟨#[97, 10, 35, 98]⟩ : ByteArray) t192 _ ?side1 A1.out).mono ?_); (case side1 => exact gt_below hG (by repeat (first | (with_reducible first | exact HB.out | apply below_alloc | apply pw_below_drewN | apply below_drew1) | exact HB.out))); rintro e w24 ⟨v193, rfl, ho0, hb⟩; refine ⟨_, rfl, ?_⟩; have n0_ := Aside0.mk (Kd.R_lower ho0 (below_size (by repeat (first | (with_reducible first | exact HB.out | apply below_alloc | apply pw_below_drewN | apply below_drew1) | exact HB.out)))); have n1_ := Aside0.mk (below_step (by repeat (first | (with_reducible first | exact HB.out | apply below_alloc | apply pw_below_drewN | apply below_drew1) | exact HB.out)) hb); clear HB; have HO194 := n0_; have HB := n1_; clear n0_ n1_; (try clear hb); (try clear hb2); (try clear hk); (try clear hi); (try clear ho0)) | ((with_reducible refine gate_callee (f := 34) rfl ?_); refine goesL_ (some 10) rfl rfl Tryd.func34 (by kernel_rfl) rfl #[.string (⟨#[]⟩ : ByteArray)] rfl (by (try simp only [List.map_toArray, List.map_cons, List.map_nil]); first | done | rfl | (simp only [List.length_drop, List.length_take]; rfl)) ?_; (with_reducible refine (lines_All.calls (⟨#[]⟩ : ByteArray) t195 _ ?side1 A2.out).mono ?_); (case side1 => exact gt_below hG (by repeat (first | (with_reducible first | exact HB.out | apply below_alloc | apply pw_below_drewN | apply below_drew1) | exact HB.out))); rintro e w25 ⟨v196, rfl, ho0, hb⟩; refine ⟨_, rfl, ?_⟩; have n0_ := Aside0.mk (Kd.R_elder' (by (with_reducible repeat (first | apply Kd.R_alloc | apply Kd.R_drewN | apply Kd.R_drew)); exact HO194.out) (Kd.R_base ho0) hb); have n1_ := Aside0.mk (Kd.R_lower (Kd.R_new' ho0 (Kd.R_lt (by (with_reducible repeat (first | apply Kd.R_alloc | apply Kd.R_drewN | apply Kd.R_drew)); exact HO194.out))) (below_size (by repeat (first | (with_reducible first | exact HB.out | apply below_alloc | apply pw_below_drewN | apply below_drew1) | exact HB.out)))); have n2_ := Aside0.mk (below_step (by repeat (first | (with_reducible first | exact HB.out | apply below_alloc | apply pw_below_drewN | apply below_drew1) | exact HB.out)) hb); clear HO194; clear HB; have HO194 := n0_; have HO197 := n1_; have HB := n2_; clear n0_ n1_ n2_; (try clear hb); (try clear hb2); (try clear hk); (try clear hi); (try clear ho0)) | ((with_reducible refine gate_callee (f := 76) rfl ?_); refine goesL_ (some 12) rfl rfl Tryd.func76 (by kernel_rfl) rfl #[.int .i64 81] rfl (by (try simp only [List.map_toArray, List.map_cons, List.map_nil]); first | done | rfl | (simp only [List.length_drop, List.length_take]; rfl)) ?_; (with_reducible refine (paymasterlaw09_letters.calls k 81 t198 _ A3.out).mono ?_); rintro e w' ⟨rfl, ⟨nd, rfl⟩⟩; refine ⟨_, rfl, ?_⟩) | ((with_reducible refine gate_callee (f := 39) rfl ?_); refine goesL_ (some 14) rfl rfl Tryd.func39 (by kernel_rfl) rfl #[.string ((⟨#[97, 10]⟩ : ByteArray) ++ t198)] rfl (by (try simp only [List.map_toArray, List.map_cons, List.map_nil]); first | done | rfl | (simp only [List.length_drop, List.length_take]; rfl)) ?_; (with_reducible refine (lines_Check.calls ((⟨#[97, 10]⟩ : ByteArray) ++ t198) t199 t200 _ ?side1 A5.out).mono ?_); (case side1 => exact gt_below hG (by repeat (first | (with_reducible first | exact HB.out | apply below_alloc | apply pw_below_drewN | apply below_drew1) | exact HB.out))); rintro e w26 ⟨rfl, hb⟩; refine ⟨_, rfl, ?_⟩; have n0_ := Aside0.mk (Kd.R_below (by (with_reducible repeat (first | apply Kd.R_alloc | apply Kd.R_drewN | apply Kd.R_drew)); exact HO194.out) hb); have n1_ := Aside0.mk (Kd.R_below (by (with_reducible repeat (first | apply Kd.R_alloc | apply Kd.R_drewN | apply Kd.R_drew)); exact HO197.out) hb); have n2_ := Aside0.mk (below_step (by repeat (first | (with_reducible first | exact HB.out | apply below_alloc | apply pw_below_drewN | apply below_drew1) | exact HB.out)) hb); clear HO194; clear HO197; clear HB; have HO194 := n0_; have HO197 := n1_; have HB := n2_; clear n0_ n1_ n2_; (try clear hb); (try clear hb2); (try clear hk); (try clear hi)) | ((with_reducible refine gate_callee (f := 76) rfl ?_); refine goesL_ (some 18) rfl rfl Tryd.func76 (by kernel_rfl) rfl #[.int .i64 81] rfl (by (try simp only [List.map_toArray, List.map_cons, List.map_nil]); first | done | rfl | (simp only [List.length_drop, List.length_take]; rfl)) ?_; (with_reducible refine (paymasterlaw09_letters.calls k 81 t201 _ A6.out).mono ?_); rintro e w' ⟨rfl, ⟨nd, rfl⟩⟩; refine ⟨_, rfl, ?_⟩) | ((with_reducible refine gate_callee (f := 39) rfl ?_); refine goesL_ (some 20) rfl rfl Tryd.func39 (by kernel_rfl) rfl #[.string (t201 ++ (⟨#[255]⟩ : ByteArray))] rfl (by (try simp only [List.map_toArray, List.map_cons, List.map_nil]); first | done | rfl | (simp only [List.length_drop, List.length_take]; rfl)) ?_; (with_reducible refine (lines_Check.calls (t201 ++ (⟨#[255]⟩ : ByteArray)) t202 t203 _ ?side1 A8.out).mono ?_); (case side1 => exact gt_below hG (by repeat (first | (with_reducible first | exact HB.out | apply below_alloc | apply pw_below_drewN | apply below_drew1) | exact HB.out))); rintro e w27 ⟨rfl, hb⟩; refine ⟨_, rfl, ?_⟩; have n0_ := Aside0.mk (Kd.R_below (by (with_reducible repeat (first | apply Kd.R_alloc | apply Kd.R_drewN | apply Kd.R_drew)); exact HO194.out) hb); have n1_ := Aside0.mk (Kd.R_below (by (with_reducible repeat (first | apply Kd.R_alloc | apply Kd.R_drewN | apply Kd.R_drew)); exact HO197.out) hb); have n2_ := Aside0.mk (below_step (by repeat (first | (with_reducible first | exact HB.out | apply below_alloc | apply pw_below_drewN | apply below_drew1) | exact HB.out)) hb); clear HO194; clear HO197; clear HB; have HO194 := n0_; have HO197 := n1_; have HB := n2_; clear n0_ n1_ n2_; (try clear hb); (try clear hb2); (try clear hk); (try clear hi)) | ((with_reducible refine gate_callee (f := 76) rfl ?_); refine goesL_ (some 24) rfl rfl Tryd.func76 (by kernel_rfl) rfl #[.int .i64 80] rfl (by (try simp only [List.map_toArray, List.map_cons, List.map_nil]); first | done | rfl | (simp only [List.length_drop, List.length_take]; rfl)) ?_; (with_reducible refine (paymasterlaw09_letters.calls k 80 t204 _ A9.out).mono ?_); rintro e w' ⟨rfl, ⟨nd, rfl⟩⟩; refine ⟨_, rfl, ?_⟩) | ((with_reducible refine gate_callee (f := 39) rfl ?_); refine goesL_ (some 25) rfl rfl Tryd.func39 (by kernel_rfl) rfl #[.string t204] rfl (by (try simp only [List.map_toArray, List.map_cons, List.map_nil]); first | done | rfl | (simp only [List.length_drop, List.length_take]; rfl)) ?_; (with_reducible refine (lines_Check.calls t204 t205 t206 _ ?side1 A10.out).mono ?_); (case side1 => exact gt_below hG (by repeat (first | (with_reducible first | exact HB.out | apply below_alloc | apply pw_below_drewN | apply below_drew1) | exact HB.out))); rintro e w28 ⟨rfl, hb⟩; refine ⟨_, rfl, ?_⟩; have n0_ := Aside0.mk (Kd.R_below (by (with_reducible repeat (first | apply Kd.R_alloc | apply Kd.R_drewN | apply Kd.R_drew)); exact HO194.out) hb); have n1_ := Aside0.mk (Kd.R_below (by (with_reducible repeat (first | apply Kd.R_alloc | apply Kd.R_drewN | apply Kd.R_drew)); exact HO197.out) hb); have n2_ := Aside0.mk (below_step (by repeat (first | (with_reducible first | exact HB.out | apply below_alloc | apply pw_below_drewN | apply below_drew1) | exact HB.out)) hb); clear HO194; clear HO197; clear HB; have HO194 := n0_; have HO197 := n1_; have HB := n2_; clear n0_ n1_ n2_; (try clear hb); (try clear hb2); (try clear hk); (try clear hi); obtain ⟨Ao29, co29, eo29⟩ := Kd.R_slice HO194.out; subst eo29; have p207 : 0 ≤ (0 : Int) := (by omega); have q207 : 0 < (t192.length : Int) := of_decide_eq_true (by first | (with_reducible assumption) | assumption); obtain ⟨ad207, e207, hx207_0, hx207_1, hx207_2, hx207_3⟩ := at_T56 (Kd.R_reads' HO194.out).2.2 0 p207 q207; cases e207; have qi207 : (0 < t192.length) = True := eq_true (by omega); (try rw [show ((0 : Int)).toNat = 0 from rfl] at hx207_0); (try rw [show 0 * 4 = 0 from rfl] at hx207_0); (try rw [Addr.add_zero'] at hx207_0); (try rw [show ((0 : Int)).toNat = 0 from rfl] at hx207_1); (try rw [show 0 * 4 = 0 from rfl] at hx207_1); (try rw [Addr.add_zero'] at hx207_1); (try rw [show ((0 : Int)).toNat = 0 from rfl] at hx207_2); (try rw [show 0 * 4 = 0 from rfl] at hx207_2); (try rw [Addr.add_zero'] at hx207_2); (try rw [show ((0 : Int)).toNat = 0 from rfl] at hx207_3); (try rw [show 0 * 4 = 0 from rfl] at hx207_3); (try rw [Addr.add_zero'] at hx207_3); replace p207 := eq_true p207; replace q207 := eq_true q207; have p208 : 0 ≤ (1 : Int) := (by omega); have q208 : 1 < (t192.length : Int) := of_decide_eq_true (by first | (with_reducible assumption) | assumption); obtain ⟨ad208, e208, hx208_0, hx208_1, hx208_2, hx208_3⟩ := at_T56 (Kd.R_reads' HO194.out).2.2 1 p208 q208; obtain rfl : ad207 = ad208 := (by injection e208); (try simp only [show (1 : Int).toNat = 1 from rfl, Nat.reduceMul, Nat.reduceEqDiff, Go.Addr.add, ↓reduceIte] at hx208_0); (try simp only [show (1 : Int).toNat = 1 from rfl, Nat.reduceMul, Nat.reduceEqDiff, Go.Addr.add, ↓reduceIte] at hx208_1); (try simp only [show (1 : Int).toNat = 1 from rfl, Nat.reduceMul, Nat.reduceEqDiff, Go.Addr.add, ↓reduceIte] at hx208_2); (try simp only [show (1 : Int).toNat = 1 from rfl, Nat.reduceMul, Nat.reduceEqDiff, Go.Addr.add, ↓reduceIte] at hx208_3); have qi208 : (1 < t192.length) = True := eq_true (by omega); (try rw [show ((1 : Int)).toNat = 1 from rfl] at hx208_0); (try rw [show 1 * 4 = 4 from rfl] at hx208_0); (try rw [show ((1 : Int)).toNat = 1 from rfl] at hx208_1); (try rw [show 1 * 4 = 4 from rfl] at hx208_1); (try rw [show ((1 : Int)).toNat = 1 from rfl] at hx208_2); (try rw [show 1 * 4 = 4 from rfl] at hx208_2); (try rw [show ((1 : Int)).toNat = 1 from rfl] at hx208_3); (try rw [show 1 * 4 = 4 from rfl] at hx208_3); replace p208 := eq_true p208; replace q208 := eq_true q208; obtain ⟨Ao30, co30, eo30⟩ := Kd.R_slice HO197.out; subst eo30; have p209 : 0 ≤ (0 : Int) := (by omega); have q209 : 0 < (t195.length : Int) := of_decide_eq_true (by first | (with_reducible assumption) | assumption); obtain ⟨ad209, e209, hx209_0, hx209_1, hx209_2, hx209_3⟩ := at_T56 (Kd.R_reads' HO197.out).2.2 0 p209 q209; cases e209; have qi209 : (0 < t195.length) = True := eq_true (by omega); (try rw [show ((0 : Int)).toNat = 0 from rfl] at hx209_0); (try rw [show 0 * 4 = 0 from rfl] at hx209_0); (try rw [Addr.add_zero'] at hx209_0); (try rw [show ((0 : Int)).toNat = 0 from rfl] at hx209_1); (try rw [show 0 * 4 = 0 from rfl] at hx209_1); (try rw [Addr.add_zero'] at hx209_1); (try rw [show ((0 : Int)).toNat = 0 from rfl] at hx209_2); (try rw [show 0 * 4 = 0 from rfl] at hx209_2); (try rw [Addr.add_zero'] at hx209_2); (try rw [show ((0 : Int)).toNat = 0 from rfl] at hx209_3); (try rw [show 0 * 4 = 0 from rfl] at hx209_3); (try rw [Addr.add_zero'] at hx209_3); replace p209 := eq_true p209; replace q209 := eq_true q209))
                                · go_ret
                                  exact ⟨by first | rfl | (simp [errW_none, errW_some] <;> rfl) | (simp [*, errW_none, errW_some] <;> rfl), by repeat (first | (with_reducible first | exact HB.out | apply below_alloc | apply pw_below_drewN | apply below_drew1) | exact HB.out)⟩
                                · rename_i hh_
                                  exact absurd (by simpa using c18b0) hh_
                              · rw [if_neg c23] at H
                                exact absurd H (by simp)
                            · rw [if_neg c22] at H
                              exact absurd H (by simp)
                          · rw [if_neg c21] at H
                            exact absurd H (by simp)
                        · rw [if_neg c20] at H
                          exact absurd H (by simp)
                      · rw [if_neg c19] at H
                        exact absurd H (by simp)
                    · rw [if_neg c18] at H
                      exact absurd H (by simp)
                  · rw [if_neg c17] at H
                    exact absurd H (by simp)
                · rw [if_neg c16] at H
                  exact absurd H (by simp)
              · rw [if_neg c15] at H
                exact absurd H (by simp)
            · rw [if_neg c14] at H
              exact absurd H (by simp)
          · rw [if_neg c13] at H
            exact absurd H (by simp)
        · rw [if_neg c12] at H
          exact absurd H (by simp)
      · rw [if_neg c11] at H
        exact absurd H (by simp)
    · rw [if_neg c7] at H
      exact absurd H (by simp)
  · rw [if_neg c4] at H
    exact absurd H (by simp)
end Go.Proofs.YtpkjpiphjdpegaaDoor.P
namespace Go.Proofs.YtpkjpiphjdpegaaDoor.P
open Go.RowKit Go.Proofs.YtpkjpiphjdpegaaDoorW.PrintWords Go.Proofs.YtpkjpiphjdpegaaDoorW.PrintLast Go.Proofs.YtpkjpiphjdpegaaDoorW.PrintMore
set_option linter.unusedVariables false
set_option linter.unusedSimpArgs false
def enc (c : Int) : List Int := nb (Utf8.encode c)
end Go.Proofs.YtpkjpiphjdpegaaDoor.P
namespace Go.Proofs.YtpkjpiphjdpegaaDoor.P
open Go.RowKit Go.Proofs.YtpkjpiphjdpegaaDoorW.PrintWords Go.Proofs.YtpkjpiphjdpegaaDoorW.PrintLast Go.Proofs.YtpkjpiphjdpegaaDoorW.PrintMore
set_option linter.unusedVariables false
set_option linter.unusedSimpArgs false
theorem up {β : Type} {F : Nat → Option β} (m : ∀ k, LeO (F k) (F (k + 1))) {a : Nat} {r : β} (h : F a = some r) : ∀ b, a ≤ b → F b = some r := by
  intro b hb
  induction b with
  | zero =>
    obtain rfl : a = 0 := by omega
    exact h
  | succ b ih =>
    by_cases e : a = b + 1
    · rw [← e]; exact h
    · exact m b r (ih (by omega))
end Go.Proofs.YtpkjpiphjdpegaaDoor.P
namespace Go.Proofs.YtpkjpiphjdpegaaDoor.P
open Go.RowKit Go.Proofs.YtpkjpiphjdpegaaDoorW.PrintWords Go.Proofs.YtpkjpiphjdpegaaDoorW.PrintLast Go.Proofs.YtpkjpiphjdpegaaDoorW.PrintMore
set_option linter.unusedVariables false
set_option linter.unusedSimpArgs false
theorem bt_mk (l : List UInt8) (i : Nat) (h : i < l.length) : bt (mk l) (i : Int) = ((l.getD i 0).toNat : Int) := by
  rw [bt_nb]
  unfold nb
  rw [mk_list, List.getD_eq_getElem?_getD, List.getD_eq_getElem?_getD, List.getElem?_map, List.getElem?_eq_getElem h]
  rfl
theorem u8_is (x : UInt8) (n : Nat) (hn : n < 256) : ((x.toNat : Int) = (n : Int)) ↔ x = UInt8.ofNat n := by
  constructor
  · intro h
    apply UInt8.toNat_inj.1
    rw [UInt8.toNat_ofNat']
    omega
  · intro h
    rw [h, UInt8.toNat_ofNat']
    omega
theorem ten_is (x : UInt8) : ((x.toNat : Int) = 10) ↔ x = 10 := u8_is x 10 (by omega)
end Go.Proofs.YtpkjpiphjdpegaaDoor.P
namespace Go.Proofs.YtpkjpiphjdpegaaDoor.P
open Go.RowKit Go.Proofs.YtpkjpiphjdpegaaDoorW.PrintWords Go.Proofs.YtpkjpiphjdpegaaDoorW.PrintLast Go.Proofs.YtpkjpiphjdpegaaDoorW.PrintMore
set_option linter.unusedVariables false
set_option linter.unusedSimpArgs false
def hf (a b c d : Int) : Int := ((d * 65536 + c) * 65536 + b) * 65536 + a
end Go.Proofs.YtpkjpiphjdpegaaDoor.P
namespace Go.Proofs.YtpkjpiphjdpegaaDoor.P
open Go.RowKit Go.Proofs.YtpkjpiphjdpegaaDoorW.PrintWords Go.Proofs.YtpkjpiphjdpegaaDoorW.PrintLast Go.Proofs.YtpkjpiphjdpegaaDoorW.PrintMore
set_option linter.unusedVariables false
set_option linter.unusedSimpArgs false
theorem quot_le {y Q R T q : Int} (hy : 0 < y) (e : Q * y + R = T) (hR : R < y) (h : q * y ≤ T) : q ≤ Q := by
  rcases Int.lt_or_le Q q with h1 | h1
  · have h2 : Q + 1 ≤ q := h1
    have := Int.mul_le_mul_of_nonneg_right h2 (Int.le_of_lt hy)
    rw [Int.add_mul, Int.one_mul] at this
    omega
  · exact h1
structure Est (x2 v1 v0 u d Q R : Int) : Prop where
  hy : x2 = v1 * 4294967296 + v0
  v1l : 2147483648 ≤ v1
  v1u : v1 < 4294967296
  v0l : 0 ≤ v0
  v0u : v0 < 4294967296
  dl : 0 ≤ d
  du : d < 4294967296
  ul : 0 ≤ u
  hQ : Q * x2 + R = u * 4294967296 + d
  Rl : 0 ≤ R
  Ru : R < x2
  Ql : 0 ≤ Q
  Qu : Q < 4294967296
theorem Est.made {x2 v1 v0 u d Q R q rh : Int} (h : Est x2 v1 v0 u d Q R) (e : q * v1 + rh = u) : q * x2 = (u - rh) * 4294967296 + q * v0 := by
  rw [h.hy, Int.mul_add, ← Int.mul_assoc, show q * v1 = u - rh by omega]
theorem Est.pos {x2 v1 v0 u d Q R : Int} (h : Est x2 v1 v0 u d Q R) : 0 < x2 := by
  have := h.hy
  have := h.v1l
  have := h.v0l
  omega
theorem Est.over {x2 v1 v0 u d Q R q rh : Int} (h : Est x2 v1 v0 u d Q R) (e : q * v1 + rh = u) (hq : Q ≤ q) (hq' : q ≤ 4294967296) (t : rh ≥ 4294967296) : q = Q := by
  have m := h.made e
  have h0 : 0 ≤ q := by
    have := h.Ql
    omega
  have w : q * v0 ≤ 4294967296 * v0 := Int.mul_le_mul_of_nonneg_right hq' h.v0l
  have := h.v0u
  have := h.dl
  have := quot_le h.pos h.hQ h.Ru (q := q) (by omega)
  omega
end Go.Proofs.YtpkjpiphjdpegaaDoor.P
namespace Go.Proofs.YtpkjpiphjdpegaaDoor.P
open Go.RowKit Go.Proofs.YtpkjpiphjdpegaaDoorW.PrintWords Go.Proofs.YtpkjpiphjdpegaaDoorW.PrintLast Go.Proofs.YtpkjpiphjdpegaaDoorW.PrintMore
set_option linter.unusedVariables false
set_option linter.unusedSimpArgs false
theorem Est.first {x2 v1 v0 u d Q R : Int} (h : Est x2 v1 v0 u d Q R) : Q ≤ u / v1 ∧ u / v1 ≤ 4294967297 ∧ u / v1 * v1 + u % v1 = u ∧ 0 ≤ u % v1 ∧ u % v1 < 4294967296 := by
  obtain ⟨hy, v1l, v1u, v0l, v0u, dl, du, ul, hQ, Rl, Ru, Ql, Qu⟩ := h
  have e : Q * x2 = Q * v1 * 4294967296 + Q * v0 := by rw [hy, Int.mul_add, ← Int.mul_assoc]
  have w := Int.mul_nonneg Ql v0l
  have hv : 0 < v1 := by omega
  have q1 := Int.emod_lt_of_pos u hv
  have q0 := Int.emod_nonneg u (show v1 ≠ 0 by omega)
  have hm : Q * x2 ≤ 4294967295 * x2 := Int.mul_le_mul_of_nonneg_right (by omega) (by omega)
  have hlt : u < 4294967298 * v1 := by omega
  have := Int.ediv_lt_of_lt_mul hv hlt
  exact ⟨Int.le_ediv_of_mul_le hv (by omega), by omega, Int.ediv_mul_add_emod _ _, q0, by omega⟩
end Go.Proofs.YtpkjpiphjdpegaaDoor.P
namespace Go.Proofs.YtpkjpiphjdpegaaDoor.P
open Go.Shelf Go.RowKit
def sh_lays156_ren : Go.Shelf.Ren := ⟨fun | 156 => 80 | 165 => 106 | 166 => 107 | 169 => 108 | 240 => 126 | 241 => 127 | 276 => 139 | 277 => 140 | n => n, fun | 31 => 51 | 9 => 9 | 3 => 3 | 4 => 4 | 0 => 0 | 20 => 20 | 72 => 148 | 76 => 152 | 70 => 146 | 37 => 82 | 75 => 151 | 127 => 171 | 164 => 184 | 5 => 5 | 80 => 154 | n => n, fun | n => n⟩
theorem sh_lays156 : Go.Proofs.Lays.n156 Tryd.prog sh_lays156_ren := {
  mixed := by kernel_rfl
  f156 := Tryd.func80.trans (congrArg some (by kernel_rfl))
  f165 := Tryd.func106.trans (congrArg some (by kernel_rfl))
  f166 := Tryd.func107.trans (congrArg some (by kernel_rfl))
  f169 := Tryd.func108.trans (congrArg some (by kernel_rfl))
  f240 := Tryd.func126.trans (congrArg some (by kernel_rfl))
  f241 := Tryd.func127.trans (congrArg some (by kernel_rfl))
  f276 := Tryd.func139.trans (congrArg some (by kernel_rfl))
  f277 := Tryd.func140.trans (congrArg some (by kernel_rfl))
  t0 := Tryd.underlying0
  a0 := Tryd.isAgg0
  z0 := Tryd.sizeOf0
  v0 := Tryd.zeroValue0
  t3 := Tryd.underlying3
  a3 := Tryd.isAgg3
  z3 := Tryd.sizeOf3
  v3 := Tryd.zeroValue3
  t4 := Tryd.underlying4
  a4 := Tryd.isAgg4
  z4 := Tryd.sizeOf4
  v4 := Tryd.zeroValue4
  t9 := Tryd.underlying9
  a9 := Tryd.isAgg9
  z9 := Tryd.sizeOf9
  v9 := Tryd.zeroValue9
  t20 := Tryd.underlying20
  a20 := Tryd.isAgg20
  z20 := Tryd.sizeOf20
  v20 := Tryd.zeroValue20
  t31 := Tryd.underlying51
  a31 := Tryd.isAgg51
  z31 := Tryd.sizeOf51
  v31 := Tryd.zeroValue51
  t37 := Tryd.underlying82
  a37 := Tryd.isAgg82
  z37 := Tryd.sizeOf82
  v37 := Tryd.zeroValue82
  t70 := Tryd.underlying146
  a70 := Tryd.isAgg146
  z70 := Tryd.sizeOf146
  v70 := Tryd.zeroValue146
  t72 := Tryd.underlying148
  a72 := Tryd.isAgg148
  z72 := Tryd.sizeOf148
  v72 := Tryd.zeroValue148
  t75 := Tryd.underlying151
  a75 := Tryd.isAgg151
  z75 := Tryd.sizeOf151
  v75 := Tryd.zeroValue151
  t76 := Tryd.underlying152
  a76 := Tryd.isAgg152
  z76 := Tryd.sizeOf152
  v76 := Tryd.zeroValue152
  t127 := Tryd.underlying171
  a127 := Tryd.isAgg171
  z127 := Tryd.sizeOf171
  v127 := Tryd.zeroValue171
  t164 := Tryd.underlying184
  a164 := Tryd.isAgg184
  z164 := Tryd.sizeOf184
  v164 := Tryd.zeroValue184 }
theorem sh_Builder_Extra_156 : Builder.Extra Tryd.prog sh_lays156_ren := {
  sizeBuilder := by kernel_rfl
  liesBuilder := by kernel_rfl
  t5 := Tryd.underlying5
  a5 := Tryd.isAgg5
  z5 := Tryd.sizeOf5
  v5 := Tryd.zeroValue5
  infoByte := by kernel_rfl
  cellsByte := by kernel_rfl
  sizeByte := by kernel_rfl
  neB5 := by decide }
open Go.RowKit in
theorem sh_strings_Join_none (a : Option Addr) (c : Nat) (sep : ByteArray) (w : World) :
    Calls Tryd.prog 80 #[.slice a 0 c, .string sep] w fun e w' => e = .returned (.string ⟨#[]⟩) ∧ w' = w := Any.strings_Join_none sh_lays156 sh_Builder_Extra_156 a c sep w
open Go.RowKit in
theorem sh_strings_Join (bk o c : Nat) (xs : List ByteArray) (sep : ByteArray) (w : World) (hcells : ∀ (j : Nat) x, xs[j]? = some x → w.cell? ⟨bk, o + j, none⟩ = some (.string x)) (hbk : bk < w.heap.size) (hN : xs.length ≤ 140737488355328) (hcap : xs.length ≤ c) (hlen : (Lib.join (xs.map (·.data.toList)) sep.data.toList).length ≤ 140737488355328) :
    Calls Tryd.prog 80 #[.slice (some ⟨bk, o, none⟩) xs.length c, .string sep] w fun e w' => e = .returned (.string ⟨(Lib.join (xs.map (·.data.toList)) sep.data.toList).toArray⟩) ∧ Below w.heap.size w w' := Any.strings_Join sh_lays156 sh_Builder_Extra_156 bk o c xs sep w hcells hbk hN hcap hlen
end Go.Proofs.YtpkjpiphjdpegaaDoor.P
namespace Go.Proofs.YtpkjpiphjdpegaaDoor.P
open Go.Shelf Go.RowKit
def sh_lays144_ren : Go.Shelf.Ren := ⟨fun | 144 => 78 | 143 => 104 | 219 => 125 | 217 => 135 | 225 => 136 | 224 => 137 | 267 => 138 | 266 => 145 | 314 => 146 | n => n, fun | 9 => 9 | 4 => 4 | 3 => 3 | 5 => 5 | 46 => 138 | 146 => 189 | 51 => 188 | n => n, fun | 1 => 2 | n => n⟩
theorem sh_lays144 : Go.Proofs.Lays.n144 Tryd.prog sh_lays144_ren := {
  mixed := by kernel_rfl
  f143 := Tryd.func104.trans (congrArg some (by kernel_rfl))
  f144 := Tryd.func78.trans (congrArg some (by kernel_rfl))
  f217 := Tryd.func135.trans (congrArg some (by kernel_rfl))
  f219 := Tryd.func125.trans (congrArg some (by kernel_rfl))
  f224 := Tryd.func137.trans (congrArg some (by kernel_rfl))
  f225 := Tryd.func136.trans (congrArg some (by kernel_rfl))
  f266 := Tryd.func145.trans (congrArg some (by kernel_rfl))
  f267 := Tryd.func138.trans (congrArg some (by kernel_rfl))
  f314 := Tryd.func146.trans (congrArg some (by kernel_rfl))
  t3 := Tryd.underlying3
  a3 := Tryd.isAgg3
  z3 := Tryd.sizeOf3
  v3 := Tryd.zeroValue3
  t4 := Tryd.underlying4
  a4 := Tryd.isAgg4
  z4 := Tryd.sizeOf4
  v4 := Tryd.zeroValue4
  t5 := Tryd.underlying5
  a5 := Tryd.isAgg5
  z5 := Tryd.sizeOf5
  v5 := Tryd.zeroValue5
  t9 := Tryd.underlying9
  a9 := Tryd.isAgg9
  z9 := Tryd.sizeOf9
  v9 := Tryd.zeroValue9
  t46 := Tryd.underlying138
  a46 := Tryd.isAgg138
  z46 := Tryd.sizeOf138
  v46 := Tryd.zeroValue138
  t51 := Tryd.underlying188
  a51 := Tryd.isAgg188
  z51 := Tryd.sizeOf188
  v51 := Tryd.zeroValue188
  t146 := Tryd.underlying189
  a146 := Tryd.isAgg189
  z146 := Tryd.sizeOf189
  v146 := Tryd.zeroValue189
  g1 := by kernel_rfl }
open Go.RowKit Go.Lib in
theorem sh_strings_Contains_one (s : ByteArray) (c : UInt8) (w : World) :
    Calls Tryd.prog 78 #[.string s, .string ⟨#[c]⟩] w fun e w' => e = .returned (.bool (decide (0 ≤ Lib.indexByte s.data.toList c))) ∧ w' = w := Any.strings_Contains_one sh_lays144 s c w
end Go.Proofs.YtpkjpiphjdpegaaDoor.P
namespace Go.Proofs.YtpkjpiphjdpegaaDoor.P
open Go.Shelf Go.RowKit
def sh_lg79_ren : Go.Shelf.Ren := ⟨fun | 8 => 79 | 6 => 105 | n => n, fun | 22 => 51 | 23 => 9 | 25 => 85 | 4 => 4 | 3 => 3 | 0 => 0 | n => n, fun | n => n⟩
theorem sh_lg79 : Go.Proofs.SlLaysH.n8 Tryd.prog sh_lg79_ren := {
  mixed := by kernel_rfl
  f6 := ⟨Tryd.f105.name, by decide, Tryd.func105.trans (congrArg some (by kernel_rfl))⟩
  f8 := ⟨Tryd.f79.name, by decide, Tryd.func79.trans (congrArg some (by kernel_rfl))⟩
  t0 := Tryd.underlying0
  a0 := Tryd.isAgg0
  z0 := Tryd.sizeOf0
  v0 := Tryd.zeroValue0
  t3 := Tryd.underlying3
  a3 := Tryd.isAgg3
  z3 := Tryd.sizeOf3
  v3 := Tryd.zeroValue3
  t4 := Tryd.underlying4
  a4 := Tryd.isAgg4
  z4 := Tryd.sizeOf4
  v4 := Tryd.zeroValue4
  t22 := Tryd.underlying51
  a22 := Tryd.isAgg51
  z22 := Tryd.sizeOf51
  v22 := Tryd.zeroValue51
  a23 := Tryd.isAgg9
  z23 := Tryd.sizeOf9
  t25 := Tryd.underlying85
  a25 := Tryd.isAgg85
  z25 := Tryd.sizeOf85
  v25 := Tryd.zeroValue85 }
end Go.Proofs.YtpkjpiphjdpegaaDoor.P
namespace Go.Proofs.YtpkjpiphjdpegaaDoor.P
open Go.RowKit Go.Proofs.YtpkjpiphjdpegaaDoorW.PrintWords Go.Proofs.YtpkjpiphjdpegaaDoorW.PrintLast Go.Proofs.YtpkjpiphjdpegaaDoorW.PrintMore
set_option linter.unusedVariables false
set_option linter.unusedSimpArgs false
def brk (s : ByteArray) : Bool := decide (0 ≤ Lib.indexByte s.data.toList 10)
def joinL (l : List ByteArray) : ByteArray := ⟨(Lib.join (l.map (·.data.toList)) [10]).toArray⟩
def lines_Join.f (l0 : List ByteArray) : Option (ByteArray × Int) :=
  if l0.length ≤ 1000000 ∧ (Lib.join (l0.map (·.data.toList)) [10]).length ≤ 1000000000 then some (if l0.any brk = true then ((⟨#[]⟩ : ByteArray), 2) else (joinL l0, 0)) else none
theorem brk_at (w : World) : Go.Proofs.PredAt Tryd.prog 77 #[] Value.string brk w := fun W r _ => by
  unfold FnGives
  obtain ⟨b, hb⟩ : ∃ b, brk r = b := ⟨_, rfl⟩
  have C : Calls Tryd.prog 78 #[.string r, .string ⟨#[10]⟩] W fun e w' => e = .returned (.bool b) ∧ w' = W := by rw [← hb]; exact sh_strings_Contains_one r 10 W
  go_enter Tryd.func77, Tryd.ntmps77
  go_wp2_with (first | (go_at_call 78; (with_reducible refine C.mono ?_); rintro e w' ⟨rfl, rfl⟩))
  go_ret
  exact ⟨by rw [hb]; rfl, 0, rfl⟩
theorem strs_in {w : World} {A : Option Addr} {xs : List ByteArray} (h : Kd.C Kd.string w A xs.length xs) (hn : 0 < xs.length) : ∃ b off, A = some ⟨b, off, none⟩ ∧ b < w.heap.size ∧ ∀ j, j < xs.length → w.cell? ⟨b, off + j, none⟩ = some (.string xs[j]!) := by
  obtain ⟨ad, rfl, h0⟩ := Kd.at_string h 0 (by omega) (by omega)
  rw [show (0 : Int).toNat = 0 from rfl] at h0
  have e0 : ad.add 0 = ad := rfl
  rw [e0] at h0
  obtain ⟨q1, q2⟩ := cell_lt h0
  obtain ⟨b, off, sp⟩ := ad
  have q2' : sp = none := q2
  subst q2'
  refine ⟨b, off, rfl, q1, fun j hj => ?_⟩
  obtain ⟨ad', e', h1⟩ := Kd.at_string h (j : Int) (by omega) (by omega)
  obtain rfl := Option.some.inj e'
  have ea : (⟨b, off, none⟩ : Addr).add j = ⟨b, off + j, none⟩ := by
    unfold Addr.add
    by_cases z : j = 0
    · rw [if_pos z, z]; rfl
    · rw [if_neg z]
  rw [Int.toNat_natCast, ea] at h1
  rw [h1]
  unfold rdOf
  rw [Int.toNat_natCast, List.getElem!_eq_getElem?_getD, List.getD_eq_getElem?_getD]
  rfl
set_option maxHeartbeats 4000000 in
set_option maxRecDepth 100000 in
theorem lines_Join.calls (A0 : Option Addr) (c0 : Nat) (l0 : List ByteArray) (r1 : ByteArray) (r2 : Int) (w : World) (hr0 : Kd.C Kd.string w A0 l0.length l0) (hc0 : l0.length ≤ c0) (h : lines_Join.f l0 = some (r1, r2)) :
    Calls Tryd.prog 42 #[.slice A0 l0.length c0] w fun e w' => e = .returned (.tuple #[.string r1, .int .i64 r2]) ∧ Below w.heap.size w w' := by
  have hu : l0.length ≤ 1000000 ∧ (Lib.join (l0.map (·.data.toList)) [10]).length ≤ 1000000000 := by
    unfold lines_Join.f at h
    split at h
    · assumption
    · cases h
  unfold lines_Join.f at h
  rw [if_pos hu] at h
  have h' := Option.some.inj h
  clear h
  have eg := enters_of Tryd.func77 (by kernel_rfl) rfl
  have CC : Calls Tryd.prog 79 #[.slice A0 l0.length c0, .func (.func 77) #[] #[]] w fun e w' => e = .returned (.bool (l0.any brk)) ∧ ∃ q, w' = w.drewN q := by
    by_cases z : 0 < l0.length
    · obtain ⟨b, off, rfl, hb, hc⟩ := strs_in hr0 z
      have := Go.Proofs.AnyE.slices_ContainsFunc sh_lg79 Value.string brk 77 #[] eg b off l0.length c0 l0 w (brk_at w) (Nat.le_refl _) (by omega) hc
      rw [List.take_length] at this
      exact this
    · have e : l0 = [] := List.eq_nil_of_length_eq_zero (by omega)
      subst e
      refine (Go.Proofs.AnyE.slices_ContainsFunc_empty sh_lg79 A0 c0 (.func (.func 77) #[] #[]) w).mono ?_
      rintro e w' ⟨rfl, rfl⟩
      exact ⟨rfl, 0, rfl⟩
  have JJ : ∀ q, Calls Tryd.prog 80 #[.slice A0 l0.length c0, .string ⟨#[10]⟩] (w.drewN q) fun e w' => e = .returned (.string (joinL l0)) ∧ Below w.heap.size w w' := by
    intro q
    by_cases z : 0 < l0.length
    · obtain ⟨b, off, rfl, hb, hc⟩ := strs_in hr0 z
      refine (sh_strings_Join b off c0 l0 ⟨#[10]⟩ (w.drewN q) (fun j x hx => ?_) hb (by omega) hc0 (by have := hu.2; have e : (⟨#[10]⟩ : ByteArray).data.toList = [10] := rfl; rw [e]; omega)).mono ?_
      · obtain ⟨hj, e⟩ := List.getElem?_eq_some_iff.1 hx
        have := hc j hj
        rw [List.getElem!_eq_getElem?_getD, hx] at this
        exact this
      · rintro e w' ⟨rfl, hb'⟩
        exact ⟨rfl, Below.trans (pw_below_drewN (Below.refl _ w) q) hb'⟩
    · have e : l0 = [] := List.eq_nil_of_length_eq_zero (by omega)
      subst e
      refine (sh_strings_Join_none A0 c0 ⟨#[10]⟩ (w.drewN q)).mono ?_
      rintro e w' ⟨rfl, rfl⟩
      exact ⟨rfl, pw_below_drewN (Below.refl _ w) q⟩
  by_cases b : l0.any brk = true
  · rw [if_pos b] at h'
    cases h'
    rw [b] at CC
    go_enter Tryd.func42, Tryd.ntmps42
    go_wp2_with (first | (go_at_call 79; (with_reducible refine CC.mono ?_); rintro e w' ⟨rfl, q, rfl⟩))
    go_ret2
    exact ⟨rfl, pw_below_drewN (Below.refl _ w) q⟩
  · rw [if_neg b] at h'
    cases h'
    have bf : l0.any brk = false := by simpa using b
    rw [bf] at CC
    go_enter Tryd.func42, Tryd.ntmps42
    go_wp2_with (first | (go_at_call 79; (with_reducible refine CC.mono ?_); rintro e w' ⟨rfl, q, rfl⟩) | (go_at_call 80; (with_reducible refine (JJ _).mono ?_); rintro e w2 ⟨rfl, hb⟩))
    go_ret2
    exact ⟨rfl, hb⟩
end Go.Proofs.YtpkjpiphjdpegaaDoor.P
namespace Go.Proofs.YtpkjpiphjdpegaaDoor.P
open Go.RowKit Go.Proofs.YtpkjpiphjdpegaaDoorW.PrintWords Go.Proofs.YtpkjpiphjdpegaaDoorW.PrintLast Go.Proofs.YtpkjpiphjdpegaaDoorW.PrintMore
set_option linter.unusedVariables false
set_option linter.unusedSimpArgs false
theorem join_len (l : List ByteArray) (h : ∀ x ∈ l, x.size ≤ 200) : (Lib.join (l.map (·.data.toList)) [10]).length ≤ 201 * l.length := by
  have t : ∀ r : List ByteArray, (∀ x ∈ r, x.size ≤ 200) → (Lib.joinTail [10] (r.map (·.data.toList))).length ≤ 201 * r.length := by
    intro r
    induction r with
    | nil => intro _; simp [Lib.joinTail]
    | cons x r ih =>
      intro h
      have h1 := ih (fun y hy => h y (List.mem_cons_of_mem _ hy))
      have h2 := h x (List.mem_cons_self ..)
      have h3 : x.data.toList.length = x.size := Array.length_toList
      have e : Lib.joinTail [10] ((x :: r).map (·.data.toList)) = [10] ++ x.data.toList ++ Lib.joinTail [10] (r.map (·.data.toList)) := rfl
      rw [e, List.length_append, List.length_append, h3]
      simp only [List.length_cons, List.length_nil]
      omega
  cases l with
  | nil => simp [Lib.join_nil]
  | cons x r =>
    have h1 := t r (fun y hy => h y (List.mem_cons_of_mem _ hy))
    have h2 := h x (List.mem_cons_self ..)
    have h3 : x.data.toList.length = x.size := Array.length_toList
    rw [List.map_cons, Lib.join_cons, List.length_append, List.length_cons]
    omega
theorem joinL_size (l : List ByteArray) : (joinL l).size = (Lib.join (l.map (·.data.toList)) [10]).length := by simp [joinL, ByteArray.size]
end Go.Proofs.YtpkjpiphjdpegaaDoor.P
namespace Go.Proofs.YtpkjpiphjdpegaaDoor.P
open Go.RowKit Go.Proofs.YtpkjpiphjdpegaaDoorW.PrintWords Go.Proofs.YtpkjpiphjdpegaaDoorW.PrintLast Go.Proofs.YtpkjpiphjdpegaaDoorW.PrintMore
attribute [local go_sem] max2_int min2_int max_two min_two max_three min_three max_four min_four
set_option linter.unusedVariables false
set_option linter.unusedSimpArgs false
mutual
def paymasterlaw09_LinesBack.j0 : Nat → ByteArray → List ByteArray → Bool → Option (Bool)
  | 0, _, _, _ => none
  | k + 1, x0, x1, x26 => if x26 = true then (some true) else ((lines_All.f x0).bind fun t328 => (paymasterlaw09_LinesBack.l0 k x0 x1 t328 ([] : List ByteArray) 1 0))
def paymasterlaw09_LinesBack.l0 : Nat → ByteArray → List ByteArray → List (S56) → List ByteArray → Int → Int → Option (Bool)
  | 0, _, _, _, _, _, _ => none
  | k + 1, x0, x1, x5, x6, x7, x8 => if x8 < (x5.length : Int) then (if 0 ≤ x8 then (if x6.length < 8796093022208 then (paymasterlaw09_LinesBack.l0 k x0 x1 x5 (x6 ++ [(rd_T56 x5 x8).f1]) x7 (wrap64 (x8 + 1))) else (none)) else (none)) else (paymasterlaw09_LinesBack.l1 k x0 x1 x5 x6 x7 0)
def paymasterlaw09_LinesBack.l1 : Nat → ByteArray → List ByteArray → List (S56) → List ByteArray → Int → Int → Option (Bool)
  | 0, _, _, _, _, _, _ => none
  | k + 1, x0, x1, x5, x6, x7, x9 => if x9 < (x0.size : Int) then (if 0 ≤ x9 then (if (bt x0 x9) = 10 then (paymasterlaw09_LinesBack.l1 k x0 x1 x5 x6 (wrap64 (x7 + 1)) (wrap64 (x9 + 1))) else (paymasterlaw09_LinesBack.l1 k x0 x1 x5 x6 x7 (wrap64 (x9 + 1)))) else (none)) else ((lines_Join.f x6).bind fun bt337 => (if bt337.2 = 0 then (if bt337.1.toList = x0.toList then (if (x5.length : Int) = x7 then (paymasterlaw09_LinesBack.l2 k x1 0) else (none)) else (none)) else (none)))
def paymasterlaw09_LinesBack.l2 : Nat → List ByteArray → Int → Option (Bool)
  | 0, _, _ => none
  | k + 1, x1, x12 => if x12 < (x1.length : Int) then (if 0 ≤ x12 then (if ((rdOf ByteArray.empty x1 x12).size : Int) > 200 then (some true) else (paymasterlaw09_LinesBack.l2 k x1 (wrap64 (x12 + 1)))) else (none)) else ((lines_Join.f x1).bind fun bt345 => (if bt345.2 = 0 then (paymasterlaw09_LinesBack.j4 k x1 bt345.1 bt345.2 ((x1.length : Int) == 0)) else (paymasterlaw09_LinesBack.j4 k x1 bt345.1 bt345.2 true)))
def paymasterlaw09_LinesBack.j4 : Nat → List ByteArray → ByteArray → Int → Bool → Option (Bool)
  | 0, _, _, _, _ => none
  | k + 1, x1, x13, x14, x96 => if x96 = true then (if x14 = 2 then (if x13.toList = ([] : List UInt8) then (some true) else (if (x1.length : Int) = 0 then (some (x13.toList == ([] : List UInt8))) else (none))) else (if (x1.length : Int) = 0 then (some (x13.toList == ([] : List UInt8))) else (none))) else ((lines_All.f x13).bind fun t353 => (if (t353.length : Int) = (x1.length : Int) then (paymasterlaw09_LinesBack.l3 k x1 t353 0) else (none)))
def paymasterlaw09_LinesBack.l3 : Nat → List ByteArray → List (S56) → Int → Option (Bool)
  | 0, _, _, _ => none
  | k + 1, x1, x15, x16 => if x16 < (x1.length : Int) then (if 0 ≤ x16 then (if x16 < (x15.length : Int) then (if ((rd_T56 x15 x16).f1).toList = (rdOf ByteArray.empty x1 x16).toList then (paymasterlaw09_LinesBack.l3 k x1 x15 (wrap64 (x16 + 1))) else (none)) else (none)) else (none)) else (some true)
end
def paymasterlaw09_LinesBack.f (k : Nat) (a0 : ByteArray) (l1 : List ByteArray) : Option (Bool) := (paymasterlaw09_awake.f k).bind fun t318 => (if t318 = true then (if (a0.size : Int) > 3000 then (paymasterlaw09_LinesBack.j0 k a0 l1 true) else (paymasterlaw09_LinesBack.j0 k a0 l1 (decide ((l1.length : Int) > 100)))) else (none))
set_option maxHeartbeats 8000000 in
set_option maxRecDepth 100000 in
theorem paymasterlaw09_LinesBack.calls (k : Nat) (a0 : ByteArray) (A1 : Option Addr) (c1 : Nat) (l1 : List ByteArray) (r : Bool) (w : World) (hr1 : Kd.C Kd.string w A1 l1.length l1) (hc1 : l1.length ≤ c1) (hG : GT w) (h : paymasterlaw09_LinesBack.f k a0 l1 = some r) :
    Calls Tryd.prog 9 #[.string a0, .slice A1 l1.length c1] w fun e w' => e = .returned (.bool r) ∧ Below w.heap.size w w' := by
  have HR1 := Aside0.mk hr1
  have HC1 := Aside0.mk hc1
  clear hr1 hc1
  have HB := Aside0.mk (Below.refl w.heap.size w)
  have H : ((paymasterlaw09_awake.f k).bind fun t318 => (if t318 = true then (if (a0.size : Int) > 3000 then (paymasterlaw09_LinesBack.j0 k a0 l1 true) else (paymasterlaw09_LinesBack.j0 k a0 l1 (decide ((l1.length : Int) > 100)))) else (none))) = some r := h
  clear h
  replace H := Option.bind_eq_some_iff.mp H
  obtain ⟨t318, A30, H⟩ := H
  replace H : (if t318 = true then (if (a0.size : Int) > 3000 then (paymasterlaw09_LinesBack.j0 k a0 l1 true) else (paymasterlaw09_LinesBack.j0 k a0 l1 (decide ((l1.length : Int) > 100)))) else (none)) = some r := H
  have A3 := Aside0.mk A30
  clear A30
  by_cases c4 : t318 = true
  · subst c4
    have H1 : (if (a0.size : Int) > 3000 then (paymasterlaw09_LinesBack.j0 k a0 l1 true) else (paymasterlaw09_LinesBack.j0 k a0 l1 (decide ((l1.length : Int) > 100)))) = some r := by rw [if_pos rfl] at H; exact H
    clear H
    have H := H1
    clear H1
    have HC5 := Aside0.mk H
    clear H
    go_enter Tryd.func9, Tryd.ntmps9
    go_upto_region 3 with (first | (go_at_call 41; (with_reducible refine (paymasterlaw09_awake.calls k  true _ ?side1 A3.out).mono ?_); (case side1 => exact gt_below hG (by repeat (first | (with_reducible first | exact HB.out | apply below_alloc | apply pw_below_drewN | apply below_drew1) | exact HB.out))); rintro e w6 ⟨rfl, hb⟩; have n0_ := Aside0.mk (below_step (by repeat (first | (with_reducible first | exact HB.out | apply below_alloc | apply pw_below_drewN | apply below_drew1) | exact HB.out)) hb); clear HB; have HB := n0_; clear n0_; (try clear hb); (try clear hb2); (try clear hk); (try clear hi)))
    repeat (go_quiet (first | (go_at_call 41; (with_reducible refine (paymasterlaw09_awake.calls k  true _ ?side1 A3.out).mono ?_); (case side1 => exact gt_below hG (by repeat (first | (with_reducible first | exact HB.out | apply below_alloc | apply pw_below_drewN | apply below_drew1) | exact HB.out))); rintro e w6 ⟨rfl, hb⟩; have n0_ := Aside0.mk (below_step (by repeat (first | (with_reducible first | exact HB.out | apply below_alloc | apply pw_below_drewN | apply below_drew1) | exact HB.out)) hb); clear HB; have HB := n0_; clear n0_; (try clear hb); (try clear hb2); (try clear hk); (try clear hi))); go_upto_region 3 with (first | (go_at_call 41; (with_reducible refine (paymasterlaw09_awake.calls k  true _ ?side1 A3.out).mono ?_); (case side1 => exact gt_below hG (by repeat (first | (with_reducible first | exact HB.out | apply below_alloc | apply pw_below_drewN | apply below_drew1) | exact HB.out))); rintro e w6 ⟨rfl, hb⟩; have n0_ := Aside0.mk (below_step (by repeat (first | (with_reducible first | exact HB.out | apply below_alloc | apply pw_below_drewN | apply below_drew1) | exact HB.out)) hb); clear HB; have HB := n0_; clear n0_; (try clear hb); (try clear hb2); (try clear hk); (try clear hi))))
    (try simp only [Act.put, List.setIfInBounds_toArray, List.set_cons_zero, List.set_cons_succ])
    go_cut [26] (fun v26 wc => ∃ (kq : Nat) (x26_4 : Bool), v26 = .bool x26_4 ∧ Aside0 (paymasterlaw09_LinesBack.j0 kq a0 l1 x26_4 = some r) ∧ Aside0 (kq ≤ k) ∧ Aside0 (Below w.heap.size w wc))
    case first =>
      have H := HC5.out
      clear HC5
      by_cases c7 : (a0.size : Int) > 3000
      · rw [if_pos c7] at H
        have c7b0 : decide (3000 < (a0.size : Int)) = true := decide_eq_true c7
        have c7b1 : decide (3000 < a0.size) = true := decide_eq_true (by omega)
        clear c7
        (first | rw [c7b0] | (simp only [i64_w, i32_w]; rw [c7b0]) | skip)
        have H' := Aside0.mk H
        clear H
        go_wp2
        repeat (go_quiet (fail); try go_wp2)
        go_meet
        case rel => exact ⟨_, (true), (by first | rfl | (simp; done) | (simp [*]; done)), H', ⟨by first | omega | exact Nat.le_refl _⟩, ⟨by repeat (first | (with_reducible first | exact HB.out | apply below_alloc | apply pw_below_drewN | apply below_drew1) | exact HB.out)⟩⟩
      · rw [if_neg c7] at H
        have c7b0 : decide (3000 < (a0.size : Int)) = false := decide_eq_false c7
        have c7b1 : decide (3000 < a0.size) = false := decide_eq_false (by omega)
        clear c7
        (first | rw [c7b0] | (simp only [i64_w, i32_w]; rw [c7b0]) | skip)
        have H' := Aside0.mk H
        clear H
        go_wp2
        repeat (go_quiet (fail); try go_wp2)
        go_meet
        case rel => exact ⟨_, (decide ((l1.length : Int) > 100)), (by first | rfl | (simp; done) | (simp [*]; done)), H', ⟨by first | omega | exact Nat.le_refl _⟩, ⟨by repeat (first | (with_reducible first | exact HB.out | apply below_alloc | apply pw_below_drewN | apply below_drew1) | exact HB.out)⟩⟩
    case rest =>
      clear HC5
      try clear c1
      try clear p2
      try clear c4
      try clear c7
      try clear c7b0
      try clear c7b1
      obtain ⟨kq, x26_4, rfl, HA, HJ4, HB⟩ := hcut
      cases kq with
      | zero => exact absurd HA.out (by simp [paymasterlaw09_LinesBack.j0])
      | succ kj4 =>
        have H := HA.out
        clear HA
        simp only [paymasterlaw09_LinesBack.j0] at H
        by_cases c8 : x26_4 = true
        · subst c8
          have H1 : (some true) = some r := by rw [if_pos rfl] at H; exact H
          clear H
          have H := H1
          clear H1
          obtain rfl := Option.some.inj H
          go_wp2
          repeat (go_quiet (fail); try go_wp2)
          go_ret
          exact ⟨by first | rfl | (simp [errW_none, errW_some] <;> rfl) | (simp [*, errW_none, errW_some] <;> rfl), by repeat (first | (with_reducible first | exact HB.out | apply below_alloc | apply pw_below_drewN | apply below_drew1) | exact HB.out)⟩
        · replace c8 := Bool.eq_false_iff.mpr c8
          subst c8
          have H1 : ((lines_All.f a0).bind fun t328 => (paymasterlaw09_LinesBack.l0 kj4 a0 l1 t328 ([] : List ByteArray) 1 0)) = some r := by rw [if_neg (show ¬ (false = true) by decide)] at H; exact H
          clear H
          have H := H1
          clear H1
          replace H := Option.bind_eq_some_iff.mp H
          obtain ⟨t328, A90, H⟩ := H
          replace H : (paymasterlaw09_LinesBack.l0 kj4 a0 l1 t328 ([] : List ByteArray) 1 0) = some r := H
          have A9 := Aside0.mk A90
          clear A90
          have H' := Aside0.mk H
          clear H
          go_wp2_with (first | (go_at_call 34; (with_reducible refine (lines_All.calls a0 t328 _ ?side1 A9.out).mono ?_); (case side1 => exact gt_below hG (by repeat (first | (with_reducible first | exact HB.out | apply below_alloc | apply pw_below_drewN | apply below_drew1) | exact HB.out))); rintro e w10 ⟨v329, rfl, ho0, hb⟩; have n0_ := Aside0.mk (Kd.R_lower ho0 (below_size (by repeat (first | (with_reducible first | exact HB.out | apply below_alloc | apply pw_below_drewN | apply below_drew1) | exact HB.out)))); have n1_ := Aside0.mk (below_step (by repeat (first | (with_reducible first | exact HB.out | apply below_alloc | apply pw_below_drewN | apply below_drew1) | exact HB.out)) hb); clear HB; have HO330 := n0_; have HB := n1_; clear n0_ n1_; (try clear hb); (try clear hb2); (try clear hk); (try clear hi); (try clear ho0)))
          repeat (go_quiet (first | (go_at_call 34; (with_reducible refine (lines_All.calls a0 t328 _ ?side1 A9.out).mono ?_); (case side1 => exact gt_below hG (by repeat (first | (with_reducible first | exact HB.out | apply below_alloc | apply pw_below_drewN | apply below_drew1) | exact HB.out))); rintro e w10 ⟨v329, rfl, ho0, hb⟩; have n0_ := Aside0.mk (Kd.R_lower ho0 (below_size (by repeat (first | (with_reducible first | exact HB.out | apply below_alloc | apply pw_below_drewN | apply below_drew1) | exact HB.out)))); have n1_ := Aside0.mk (below_step (by repeat (first | (with_reducible first | exact HB.out | apply below_alloc | apply pw_below_drewN | apply below_drew1) | exact HB.out)) hb); clear HB; have HO330 := n0_; have HB := n1_; clear n0_ n1_; (try clear hb); (try clear hb2); (try clear hk); (try clear hi); (try clear ho0))); try go_wp2_with (first | (go_at_call 34; (with_reducible refine (lines_All.calls a0 t328 _ ?side1 A9.out).mono ?_); (case side1 => exact gt_below hG (by repeat (first | (with_reducible first | exact HB.out | apply below_alloc | apply pw_below_drewN | apply below_drew1) | exact HB.out))); rintro e w10 ⟨v329, rfl, ho0, hb⟩; have n0_ := Aside0.mk (Kd.R_lower ho0 (below_size (by repeat (first | (with_reducible first | exact HB.out | apply below_alloc | apply pw_below_drewN | apply below_drew1) | exact HB.out)))); have n1_ := Aside0.mk (below_step (by repeat (first | (with_reducible first | exact HB.out | apply below_alloc | apply pw_below_drewN | apply below_drew1) | exact HB.out)) hb); clear HB; have HO330 := n0_; have HB := n1_; clear n0_ n1_; (try clear hb); (try clear hb2); (try clear hk); (try clear hi); (try clear ho0))))
          go_loopg [6, 8] kj4 (fun kq v6 v8 w' => ∃ (x6_2 : List ByteArray) (x8_2 : Int), v8 = .int .i64 x8_2 ∧ Aside0 (paymasterlaw09_LinesBack.l0 kq a0 l1 t328 x6_2 1 x8_2 = some r) ∧ Aside0 (kq ≤ kj4) ∧ Aside0 (Kd.R k56 56 w' w.heap.size (fun _ => True) v329 t328) ∧ Aside0 (Kd.R Kd.string 9 w' w.heap.size (fun _ => True) v6 x6_2) ∧ Aside0 (Below w.heap.size w w'))
          case atStart => exact ⟨(([] : List ByteArray)), (0), (by first | rfl | (simp; done) | (simp [*]; done)), H', ⟨Nat.le_refl _⟩, ⟨by (with_reducible repeat (first | apply Kd.R_alloc | apply Kd.R_drewN | apply Kd.R_drew)); exact HO330.out⟩, ⟨by first | exact Kd.R_nil _ _ _ _ _ | exact Kd.N_nil _ _ _ _ _ | exact Kd.V_nil _ _ _ _ _ | exact Kd.Q_nil _ _ _ _ _ | exact Kd.S_nil _ _ _ _ _⟩, ⟨by repeat (first | (with_reducible first | exact HB.out | apply below_alloc | apply pw_below_drewN | apply below_drew1) | exact HB.out)⟩⟩
          case round =>
            clear H'
            try clear c1
            try clear p2
            try clear c4
            try clear c7
            try clear c7b0
            try clear c7b1
            try clear c8
            try clear c9
            try clear p2
            obtain ⟨x6_2, x8_2, rfl, HA, HK2, HO_5, HO_6, HB⟩ := hrel
            cases gk with
            | zero => exact absurd HA.out (by simp [paymasterlaw09_LinesBack.l0])
            | succ k2 =>
              have H := HA.out
              clear HA
              simp only [paymasterlaw09_LinesBack.l0] at H
              by_cases c11 : x8_2 < (t328.length : Int)
              · rw [if_pos c11] at H
                have c11b0 : decide (x8_2 < (t328.length : Int)) = true := decide_eq_true c11
                clear c11
                by_cases c12 : 0 ≤ x8_2
                · rw [if_pos c12] at H
                  have c12b0 : decide (0 ≤ x8_2) = true := decide_eq_true c12
                  clear c12
                  by_cases c13 : x6_2.length < 8796093022208
                  · rw [if_pos c13] at H
                    have LMc13 := Aside0.mk c13
                    clear c13
                    obtain ⟨y332, hy332⟩ : ∃ y_ : List ByteArray, y_ = (x6_2 ++ [(rd_T56 t328 x8_2).f1]) := ⟨_, rfl⟩
                    replace H : (paymasterlaw09_LinesBack.l0 k2 a0 l1 t328 y332 1 (wrap64 (x8_2 + 1))) = some r := by first | (rw [hy332]; with_reducible exact H) | (have H2_ := (Option.bind_some _ _).symm.trans H; rw [hy332]; with_reducible exact H2_) | (have H2_ := (Option.bind_some _ _).symm.trans H; with_reducible exact H2_) | with_reducible exact H | (rw [hy332]; exact H) | exact H
                    have Ny332 := Aside0.mk hy332
                    clear hy332
                    have H' := Aside0.mk H
                    clear H
                    obtain ⟨Ao14, co14, eo14⟩ := Kd.R_slice HO_5.out
                    subst eo14
                    have p331 : 0 ≤ (x8_2 : Int) := of_decide_eq_true (by first | (with_reducible assumption) | assumption)
                    have q331 : x8_2 < (t328.length : Int) := of_decide_eq_true (by first | (with_reducible assumption) | assumption)
                    obtain ⟨ad331, e331, hx331_0, hx331_1, hx331_2, hx331_3⟩ := at_T56 (Kd.R_reads' HO_5.out).2.2 x8_2 p331 q331
                    cases e331
                    replace p331 := eq_true p331
                    replace q331 := eq_true q331
                    go_wp2_with (first | ((with_reducible refine gate_builtin (b := .append) (xs := #[.tmp 35, .tmp 41]) rfl ?_); (try (refine gate_guard (by rfl) ?_; dsimp only)); at_builtin; refine Kd.R_append Kd.string (w0 := w) w.heap.size rfl (.tmp 35) (.tmp 41) 51 9 (.string ⟨#[]⟩) 16 rfl Tryd.underlying51 info9 rfl (by decide) (by omega) u6 x6_2 ((rd_T56 t328 x8_2).f1) [.string ((rd_T56 t328 x8_2).f1)] (fun _ => True) (fun _ => False) rfl rfl ?aP (fun _ hk => hk.elim) ?aF ?aO ?aB ?aS ?aL ?_; (case aP => exact rfl); (case aB => exact (by repeat (first | (with_reducible first | exact HB.out | apply below_alloc | apply pw_below_drewN | apply below_drew1) | exact HB.out))); (case aF => exact (fun _ _ => trivial)); (case aO => exact (by (with_reducible repeat (first | apply Kd.R_alloc | apply Kd.R_drewN | apply Kd.R_drew)); exact HO_6.out)); (case aS => exact (below_size (by repeat (first | (with_reducible first | exact HB.out | apply below_alloc | apply pw_below_drewN | apply below_drew1) | exact HB.out)))); (case aL => have := LMc13.out; omega); intro v333 w15 ho hb hg hat; rw [← Ny332.out] at ho; have n0_ := Aside0.mk (Kd.R_over' (by (with_reducible repeat (first | apply Kd.R_alloc | apply Kd.R_drewN | apply Kd.R_drew)); exact HO_5.out) (Kd.R_typed (by (with_reducible repeat (first | apply Kd.R_alloc | apply Kd.R_drewN | apply Kd.R_drew)); exact HO_6.out)) (by decide) hg); have n1_ := Aside0.mk (hb); have n2_ := Aside0.mk (ho); clear HO_5; clear HB; clear HO_6; have HO_5 := n0_; have HB := n1_; have HO334 := n2_; clear n0_ n1_ n2_; clear ho hb hg hat))
                    repeat (go_quiet (first | ((with_reducible refine gate_builtin (b := .append) (xs := #[.tmp 35, .tmp 41]) rfl ?_); (try (refine gate_guard (by rfl) ?_; dsimp only)); at_builtin; refine Kd.R_append Kd.string (w0 := w) w.heap.size rfl (.tmp 35) (.tmp 41) 51 9 (.string ⟨#[]⟩) 16 rfl Tryd.underlying51 info9 rfl (by decide) (by omega) u6 x6_2 ((rd_T56 t328 x8_2).f1) [.string ((rd_T56 t328 x8_2).f1)] (fun _ => True) (fun _ => False) rfl rfl ?aP (fun _ hk => hk.elim) ?aF ?aO ?aB ?aS ?aL ?_; (case aP => exact rfl); (case aB => exact (by repeat (first | (with_reducible first | exact HB.out | apply below_alloc | apply pw_below_drewN | apply below_drew1) | exact HB.out))); (case aF => exact (fun _ _ => trivial)); (case aO => exact (by (with_reducible repeat (first | apply Kd.R_alloc | apply Kd.R_drewN | apply Kd.R_drew)); exact HO_6.out)); (case aS => exact (below_size (by repeat (first | (with_reducible first | exact HB.out | apply below_alloc | apply pw_below_drewN | apply below_drew1) | exact HB.out)))); (case aL => have := LMc13.out; omega); intro v333 w15 ho hb hg hat; rw [← Ny332.out] at ho; have n0_ := Aside0.mk (Kd.R_over' (by (with_reducible repeat (first | apply Kd.R_alloc | apply Kd.R_drewN | apply Kd.R_drew)); exact HO_5.out) (Kd.R_typed (by (with_reducible repeat (first | apply Kd.R_alloc | apply Kd.R_drewN | apply Kd.R_drew)); exact HO_6.out)) (by decide) hg); have n1_ := Aside0.mk (hb); have n2_ := Aside0.mk (ho); clear HO_5; clear HB; clear HO_6; have HO_5 := n0_; have HB := n1_; have HO334 := n2_; clear n0_ n1_ n2_; clear ho hb hg hat)); try go_wp2_with (first | ((with_reducible refine gate_builtin (b := .append) (xs := #[.tmp 35, .tmp 41]) rfl ?_); (try (refine gate_guard (by rfl) ?_; dsimp only)); at_builtin; refine Kd.R_append Kd.string (w0 := w) w.heap.size rfl (.tmp 35) (.tmp 41) 51 9 (.string ⟨#[]⟩) 16 rfl Tryd.underlying51 info9 rfl (by decide) (by omega) u6 x6_2 ((rd_T56 t328 x8_2).f1) [.string ((rd_T56 t328 x8_2).f1)] (fun _ => True) (fun _ => False) rfl rfl ?aP (fun _ hk => hk.elim) ?aF ?aO ?aB ?aS ?aL ?_; (case aP => exact rfl); (case aB => exact (by repeat (first | (with_reducible first | exact HB.out | apply below_alloc | apply pw_below_drewN | apply below_drew1) | exact HB.out))); (case aF => exact (fun _ _ => trivial)); (case aO => exact (by (with_reducible repeat (first | apply Kd.R_alloc | apply Kd.R_drewN | apply Kd.R_drew)); exact HO_6.out)); (case aS => exact (below_size (by repeat (first | (with_reducible first | exact HB.out | apply below_alloc | apply pw_below_drewN | apply below_drew1) | exact HB.out)))); (case aL => have := LMc13.out; omega); intro v333 w15 ho hb hg hat; rw [← Ny332.out] at ho; have n0_ := Aside0.mk (Kd.R_over' (by (with_reducible repeat (first | apply Kd.R_alloc | apply Kd.R_drewN | apply Kd.R_drew)); exact HO_5.out) (Kd.R_typed (by (with_reducible repeat (first | apply Kd.R_alloc | apply Kd.R_drewN | apply Kd.R_drew)); exact HO_6.out)) (by decide) hg); have n1_ := Aside0.mk (hb); have n2_ := Aside0.mk (ho); clear HO_5; clear HB; clear HO_6; have HO_5 := n0_; have HB := n1_; have HO334 := n2_; clear n0_ n1_ n2_; clear ho hb hg hat)))
                    go_roundg k2
                    case measure => have := HJ4.out; have := HK2.out; omega
                    case rel => exact ⟨(y332), (wrap64 (x8_2 + 1)), (by first | rfl | (simp; done) | (simp [*]; done)), H', ⟨by have := HJ4.out; have := HK2.out; omega⟩, ⟨by (with_reducible repeat (first | apply Kd.R_alloc | apply Kd.R_drewN | apply Kd.R_drew)); exact HO_5.out⟩, ⟨by (with_reducible repeat (first | apply Kd.R_alloc | apply Kd.R_drewN | apply Kd.R_drew)); exact HO334.out⟩, ⟨by repeat (first | (with_reducible first | exact HB.out | apply below_alloc | apply pw_below_drewN | apply below_drew1) | exact HB.out)⟩⟩
                  · rw [if_neg c13] at H
                    exact absurd H (by simp)
                · rw [if_neg c12] at H
                  exact absurd H (by simp)
              · rw [if_neg c11] at H
                have c11b0 : decide (x8_2 < (t328.length : Int)) = false := decide_eq_false c11
                clear c11
                have H' := Aside0.mk H
                clear H
                obtain ⟨Ao16, co16, eo16⟩ := Kd.R_slice HO_5.out
                subst eo16
                go_wp2
                repeat (go_quiet (fail); try go_wp2)
                go_loopg [7, 9] k2 (fun kq v7 v9 w' => ∃ (x7_3 : Int) (x9_3 : Int), v7 = .int .i64 x7_3 ∧ v9 = .int .i64 x9_3 ∧ Aside0 (paymasterlaw09_LinesBack.l1 kq a0 l1 t328 x6_2 x7_3 x9_3 = some r) ∧ Aside0 (kq ≤ k2) ∧ Aside0 (Kd.R k56 56 w' w.heap.size (fun _ => True) (.slice Ao16 t328.length co16) t328) ∧ Aside0 (Kd.R Kd.string 9 w' w.heap.size (fun _ => True) u6 x6_2) ∧ Aside0 (Below w.heap.size w w'))
                case atStart => exact ⟨(1), (0), (by first | rfl | (simp; done) | (simp [*]; done)), (by first | rfl | (simp; done) | (simp [*]; done)), H', ⟨Nat.le_refl _⟩, ⟨by (with_reducible repeat (first | apply Kd.R_alloc | apply Kd.R_drewN | apply Kd.R_drew)); exact HO_5.out⟩, ⟨by (with_reducible repeat (first | apply Kd.R_alloc | apply Kd.R_drewN | apply Kd.R_drew)); exact HO_6.out⟩, ⟨by repeat (first | (with_reducible first | exact HB.out | apply below_alloc | apply pw_below_drewN | apply below_drew1) | exact HB.out)⟩⟩
                case round =>
                  clear H'
                  try clear c1
                  try clear p2
                  try clear p3
                  try clear q3
                  try clear hx3
                  try clear c4
                  try clear p6
                  try clear c7
                  try clear c7b0
                  try clear c7b1
                  try clear c8
                  try clear c9
                  try clear c11
                  try clear c11b0
                  try clear c12
                  try clear c12b0
                  try clear c13
                  try clear hx331_0
                  try clear hx331_1
                  try clear hx331_2
                  try clear hx331_3
                  try clear p2
                  try clear p331
                  try clear q331
                  obtain ⟨x7_3, x9_3, rfl, rfl, HA, HK3, HO_5, HO_6, HB⟩ := hrel
                  cases gk with
                  | zero => exact absurd HA.out (by simp [paymasterlaw09_LinesBack.l1])
                  | succ k3 =>
                    have H := HA.out
                    clear HA
                    simp only [paymasterlaw09_LinesBack.l1] at H
                    by_cases c17 : x9_3 < (a0.size : Int)
                    · rw [if_pos c17] at H
                      have c17b0 : decide (x9_3 < (a0.size : Int)) = true := decide_eq_true c17
                      clear c17
                      by_cases c18 : 0 ≤ x9_3
                      · rw [if_pos c18] at H
                        have c18b0 : decide (0 ≤ x9_3) = true := decide_eq_true c18
                        clear c18
                        by_cases c20 : (bt a0 x9_3) = 10
                        · rw [if_pos c20] at H
                          have c20b0 : ((bt a0 x9_3) == 10) = true := beq_iff_eq.mpr c20
                          have c20b1 : ((bt a0 x9_3) != 10) = false := bne_eq_false_iff_eq.mpr c20
                          clear c20
                          have H' := Aside0.mk H
                          clear H
                          have p19 : 0 ≤ (x9_3 : Int) := of_decide_eq_true (by first | (with_reducible assumption) | assumption)
                          have q19 : x9_3 < (a0.size : Int) := of_decide_eq_true (by first | (with_reducible assumption) | assumption)
                          have hx19 := bt_at a0 x9_3
                          replace p19 := eq_true p19
                          replace q19 := eq_true q19
                          go_wp2
                          repeat (go_quiet (fail); try go_wp2)
                          go_roundg k3
                          case measure => have := HJ4.out; have := HK2.out; have := HK3.out; omega
                          case rel => exact ⟨(wrap64 (x7_3 + 1)), (wrap64 (x9_3 + 1)), (by first | rfl | (simp; done) | (simp [*]; done)), (by first | rfl | (simp; done) | (simp [*]; done)), H', ⟨by have := HJ4.out; have := HK2.out; have := HK3.out; omega⟩, ⟨by (with_reducible repeat (first | apply Kd.R_alloc | apply Kd.R_drewN | apply Kd.R_drew)); exact HO_5.out⟩, ⟨by (with_reducible repeat (first | apply Kd.R_alloc | apply Kd.R_drewN | apply Kd.R_drew)); exact HO_6.out⟩, ⟨by repeat (first | (with_reducible first | exact HB.out | apply below_alloc | apply pw_below_drewN | apply below_drew1) | exact HB.out)⟩⟩
                        · rw [if_neg c20] at H
                          have c20b0 : ((bt a0 x9_3) == 10) = false := beq_eq_false_iff_ne.mpr c20
                          have c20b1 : ((bt a0 x9_3) != 10) = true := bne_iff_ne.mpr c20
                          have H' := Aside0.mk H
                          clear H
                          have p19 : 0 ≤ (x9_3 : Int) := of_decide_eq_true (by first | (with_reducible assumption) | assumption)
                          have q19 : x9_3 < (a0.size : Int) := of_decide_eq_true (by first | (with_reducible assumption) | assumption)
                          have hx19 := bt_at a0 x9_3
                          replace p19 := eq_true p19
                          replace q19 := eq_true q19
                          go_wp2
                          repeat (go_quiet (fail); try go_wp2)
                          go_roundg k3
                          case measure => have := HJ4.out; have := HK2.out; have := HK3.out; omega
                          case rel => exact ⟨(x7_3), (wrap64 (x9_3 + 1)), (by first | rfl | (simp; done) | (simp [*]; done)), (by first | rfl | (simp; done) | (simp [*]; done)), H', ⟨by have := HJ4.out; have := HK2.out; have := HK3.out; omega⟩, ⟨by (with_reducible repeat (first | apply Kd.R_alloc | apply Kd.R_drewN | apply Kd.R_drew)); exact HO_5.out⟩, ⟨by (with_reducible repeat (first | apply Kd.R_alloc | apply Kd.R_drewN | apply Kd.R_drew)); exact HO_6.out⟩, ⟨by repeat (first | (with_reducible first | exact HB.out | apply below_alloc | apply pw_below_drewN | apply below_drew1) | exact HB.out)⟩⟩
                      · rw [if_neg c18] at H
                        exact absurd H (by simp)
                    · rw [if_neg c17] at H
                      have c17b0 : decide (x9_3 < (a0.size : Int)) = false := decide_eq_false c17
                      clear c17
                      replace H := Option.bind_eq_some_iff.mp H
                      obtain ⟨⟨t337, t338⟩, A210, H⟩ := H
                      replace H : (if t338 = 0 then (if t337.toList = a0.toList then (if (t328.length : Int) = x7_3 then (paymasterlaw09_LinesBack.l2 k3 l1 0) else (none)) else (none)) else (none)) = some r := H
                      have A21 := Aside0.mk A210
                      clear A210
                      by_cases c22 : t338 = 0
                      · rw [if_pos c22] at H
                        have c22b0 : (t338 == 0) = true := beq_iff_eq.mpr c22
                        have c22b1 : (t338 != 0) = false := bne_eq_false_iff_eq.mpr c22
                        clear c22
                        by_cases c23 : t337.toList = a0.toList
                        · rw [if_pos c23] at H
                          have c23b0 : (t337.toList == a0.toList) = true := beq_iff_eq.mpr c23
                          have c23b1 : (t337.toList != a0.toList) = false := bne_eq_false_iff_eq.mpr c23
                          clear c23
                          by_cases c24 : (t328.length : Int) = x7_3
                          · rw [if_pos c24] at H
                            have c24b0 : ((t328.length : Int) == x7_3) = true := beq_iff_eq.mpr c24
                            have c24b1 : ((t328.length : Int) != x7_3) = false := bne_eq_false_iff_eq.mpr c24
                            clear c24
                            have H' := Aside0.mk H
                            clear H
                            obtain ⟨Ao25, co25, eo25⟩ := Kd.R_slice HO_6.out
                            subst eo25
                            go_wp2_with (first | (go_at_call 42; (with_reducible refine (lines_Join.calls _ _ x6_2 t337 t338 _ ?side1 ?side2 A21.out).mono ?_); (case side1 => repeat (first | exact (Kd.R_reads' HO_6.out).2.2 | (with_reducible refine Kd.C_alloc ?_ _) | (with_reducible refine Kd.C_drewN ?_ _) | (with_reducible refine Kd.C_drew ?_))); (case side2 => exact (Kd.R_reads' HO_6.out).2.1); rintro e w26 ⟨rfl, hb⟩; have n0_ := Aside0.mk (Kd.R_below (by (with_reducible repeat (first | apply Kd.R_alloc | apply Kd.R_drewN | apply Kd.R_drew)); exact HO_5.out) hb); have n1_ := Aside0.mk (Kd.R_below (by (with_reducible repeat (first | apply Kd.R_alloc | apply Kd.R_drewN | apply Kd.R_drew)); exact HO_6.out) hb); have n2_ := Aside0.mk (below_step (by repeat (first | (with_reducible first | exact HB.out | apply below_alloc | apply pw_below_drewN | apply below_drew1) | exact HB.out)) hb); clear HO_5; clear HO_6; clear HB; have HO_5 := n0_; have HO_6 := n1_; have HB := n2_; clear n0_ n1_ n2_; (try clear hb); (try clear hb2); (try clear hk); (try clear hi)))
                            repeat (go_quiet (first | (go_at_call 42; (with_reducible refine (lines_Join.calls _ _ x6_2 t337 t338 _ ?side1 ?side2 A21.out).mono ?_); (case side1 => repeat (first | exact (Kd.R_reads' HO_6.out).2.2 | (with_reducible refine Kd.C_alloc ?_ _) | (with_reducible refine Kd.C_drewN ?_ _) | (with_reducible refine Kd.C_drew ?_))); (case side2 => exact (Kd.R_reads' HO_6.out).2.1); rintro e w26 ⟨rfl, hb⟩; have n0_ := Aside0.mk (Kd.R_below (by (with_reducible repeat (first | apply Kd.R_alloc | apply Kd.R_drewN | apply Kd.R_drew)); exact HO_5.out) hb); have n1_ := Aside0.mk (Kd.R_below (by (with_reducible repeat (first | apply Kd.R_alloc | apply Kd.R_drewN | apply Kd.R_drew)); exact HO_6.out) hb); have n2_ := Aside0.mk (below_step (by repeat (first | (with_reducible first | exact HB.out | apply below_alloc | apply pw_below_drewN | apply below_drew1) | exact HB.out)) hb); clear HO_5; clear HO_6; clear HB; have HO_5 := n0_; have HO_6 := n1_; have HB := n2_; clear n0_ n1_ n2_; (try clear hb); (try clear hb2); (try clear hk); (try clear hi))); try go_wp2_with (first | (go_at_call 42; (with_reducible refine (lines_Join.calls _ _ x6_2 t337 t338 _ ?side1 ?side2 A21.out).mono ?_); (case side1 => repeat (first | exact (Kd.R_reads' HO_6.out).2.2 | (with_reducible refine Kd.C_alloc ?_ _) | (with_reducible refine Kd.C_drewN ?_ _) | (with_reducible refine Kd.C_drew ?_))); (case side2 => exact (Kd.R_reads' HO_6.out).2.1); rintro e w26 ⟨rfl, hb⟩; have n0_ := Aside0.mk (Kd.R_below (by (with_reducible repeat (first | apply Kd.R_alloc | apply Kd.R_drewN | apply Kd.R_drew)); exact HO_5.out) hb); have n1_ := Aside0.mk (Kd.R_below (by (with_reducible repeat (first | apply Kd.R_alloc | apply Kd.R_drewN | apply Kd.R_drew)); exact HO_6.out) hb); have n2_ := Aside0.mk (below_step (by repeat (first | (with_reducible first | exact HB.out | apply below_alloc | apply pw_below_drewN | apply below_drew1) | exact HB.out)) hb); clear HO_5; clear HO_6; clear HB; have HO_5 := n0_; have HO_6 := n1_; have HB := n2_; clear n0_ n1_ n2_; (try clear hb); (try clear hb2); (try clear hk); (try clear hi))))
                            go_loopg [12] k3 (fun kq v12 w' => ∃ (x12_4 : Int), v12 = .int .i64 x12_4 ∧ Aside0 (paymasterlaw09_LinesBack.l2 kq l1 x12_4 = some r) ∧ Aside0 (kq ≤ k3) ∧ Aside0 (Below w.heap.size w w'))
                            case atStart => exact ⟨(0), (by first | rfl | (simp; done) | (simp [*]; done)), H', ⟨Nat.le_refl _⟩, ⟨by repeat (first | (with_reducible first | exact HB.out | apply below_alloc | apply pw_below_drewN | apply below_drew1) | exact HB.out)⟩⟩
                            case round =>
                              clear H'
                              try clear c1
                              try clear p1
                              try clear q1
                              try clear hx1
                              try clear c2
                              try clear p2
                              try clear p3
                              try clear q3
                              try clear hx3
                              try clear c4
                              try clear p6
                              try clear c7
                              try clear c7b0
                              try clear c7b1
                              try clear c8
                              try clear c9
                              try clear c11
                              try clear c11b0
                              try clear c12
                              try clear c12b0
                              try clear c13
                              try clear c17
                              try clear c17b0
                              try clear c18
                              try clear c18b0
                              try clear p19
                              try clear q19
                              try clear hx19
                              try clear c20
                              try clear c20b0
                              try clear c20b1
                              try clear c22
                              try clear c22b0
                              try clear c22b1
                              try clear c23
                              try clear c23b0
                              try clear c23b1
                              try clear c24
                              try clear c24b0
                              try clear c24b1
                              try clear hx331_0
                              try clear hx331_1
                              try clear hx331_2
                              try clear hx331_3
                              try clear p19
                              try clear p2
                              try clear p3
                              try clear p331
                              try clear p6
                              try clear q19
                              try clear q3
                              try clear q331
                              obtain ⟨x12_4, rfl, HA, HK4, HB⟩ := hrel
                              cases gk with
                              | zero => exact absurd HA.out (by simp [paymasterlaw09_LinesBack.l2])
                              | succ k4 =>
                                have H := HA.out
                                clear HA
                                simp only [paymasterlaw09_LinesBack.l2] at H
                                by_cases c27 : x12_4 < (l1.length : Int)
                                · rw [if_pos c27] at H
                                  have c27b0 : decide (x12_4 < (l1.length : Int)) = true := decide_eq_true c27
                                  clear c27
                                  by_cases c28 : 0 ≤ x12_4
                                  · rw [if_pos c28] at H
                                    have c28b0 : decide (0 ≤ x12_4) = true := decide_eq_true c28
                                    clear c28
                                    by_cases c29 : ((rdOf ByteArray.empty l1 x12_4).size : Int) > 200
                                    · rw [if_pos c29] at H
                                      have c29b0 : decide (200 < ((rdOf ByteArray.empty l1 x12_4).size : Int)) = true := decide_eq_true c29
                                      have c29b1 : decide (200 < (rdOf ByteArray.empty l1 x12_4).size) = true := decide_eq_true (by omega)
                                      clear c29
                                      obtain rfl := Option.some.inj H
                                      have p339 : 0 ≤ (x12_4 : Int) := of_decide_eq_true (by first | (with_reducible assumption) | assumption)
                                      have q339 : x12_4 < (l1.length : Int) := of_decide_eq_true (by first | (with_reducible assumption) | assumption)
                                      obtain ⟨ad339, e339, hx339_0⟩ := Kd.at_string HR1.out x12_4 p339 q339
                                      cases e339
                                      replace hx339_0 := (HB.out.cell (World.block_lt_of_cell? w _ hx339_0)).trans hx339_0
                                      replace p339 := eq_true p339
                                      replace q339 := eq_true q339
                                      go_wp2
                                      repeat (go_quiet (fail); try go_wp2)
                                      go_ret
                                      exact ⟨by first | rfl | (simp [errW_none, errW_some] <;> rfl) | (simp [*, errW_none, errW_some] <;> rfl), by repeat (first | (with_reducible first | exact HB.out | apply below_alloc | apply pw_below_drewN | apply below_drew1) | exact HB.out)⟩
                                    · rw [if_neg c29] at H
                                      have c29b0 : decide (200 < ((rdOf ByteArray.empty l1 x12_4).size : Int)) = false := decide_eq_false c29
                                      have c29b1 : decide (200 < (rdOf ByteArray.empty l1 x12_4).size) = false := decide_eq_false (by omega)
                                      clear c29
                                      have H' := Aside0.mk H
                                      clear H
                                      have p339 : 0 ≤ (x12_4 : Int) := of_decide_eq_true (by first | (with_reducible assumption) | assumption)
                                      have q339 : x12_4 < (l1.length : Int) := of_decide_eq_true (by first | (with_reducible assumption) | assumption)
                                      obtain ⟨ad339, e339, hx339_0⟩ := Kd.at_string HR1.out x12_4 p339 q339
                                      cases e339
                                      replace hx339_0 := (HB.out.cell (World.block_lt_of_cell? w _ hx339_0)).trans hx339_0
                                      replace p339 := eq_true p339
                                      replace q339 := eq_true q339
                                      go_wp2
                                      repeat (go_quiet (fail); try go_wp2)
                                      go_roundg k4
                                      case measure => have := HJ4.out; have := HK2.out; have := HK3.out; have := HK4.out; omega
                                      case rel => exact ⟨(wrap64 (x12_4 + 1)), (by first | rfl | (simp; done) | (simp [*]; done)), H', ⟨by have := HJ4.out; have := HK2.out; have := HK3.out; have := HK4.out; omega⟩, ⟨by repeat (first | (with_reducible first | exact HB.out | apply below_alloc | apply pw_below_drewN | apply below_drew1) | exact HB.out)⟩⟩
                                  · rw [if_neg c28] at H
                                    exact absurd H (by simp)
                                · rw [if_neg c27] at H
                                  have c27b0 : decide (x12_4 < (l1.length : Int)) = false := decide_eq_false c27
                                  clear c27
                                  replace H := Option.bind_eq_some_iff.mp H
                                  obtain ⟨⟨t345, t346⟩, A300, H⟩ := H
                                  replace H : (if t346 = 0 then (paymasterlaw09_LinesBack.j4 k4 l1 t345 t346 ((l1.length : Int) == 0)) else (paymasterlaw09_LinesBack.j4 k4 l1 t345 t346 true)) = some r := H
                                  have A30 := Aside0.mk A300
                                  clear A300
                                  have HC31 := Aside0.mk H
                                  clear H
                                  go_upto_region 26 with (first | (go_at_call 42; (with_reducible refine (lines_Join.calls _ _ l1 t345 t346 _ ?side1 ?side2 A30.out).mono ?_); (case side1 => repeat (first | exact (Kd.C_below HR1.out HB.out) | (with_reducible refine Kd.C_alloc ?_ _) | (with_reducible refine Kd.C_drewN ?_ _) | (with_reducible refine Kd.C_drew ?_))); (case side2 => exact HC1.out); rintro e w32 ⟨rfl, hb⟩; have n0_ := Aside0.mk (below_step (by repeat (first | (with_reducible first | exact HB.out | apply below_alloc | apply pw_below_drewN | apply below_drew1) | exact HB.out)) hb); clear HB; have HB := n0_; clear n0_; (try clear hb); (try clear hb2); (try clear hk); (try clear hi)))
                                  repeat (go_quiet (first | (go_at_call 42; (with_reducible refine (lines_Join.calls _ _ l1 t345 t346 _ ?side1 ?side2 A30.out).mono ?_); (case side1 => repeat (first | exact (Kd.C_below HR1.out HB.out) | (with_reducible refine Kd.C_alloc ?_ _) | (with_reducible refine Kd.C_drewN ?_ _) | (with_reducible refine Kd.C_drew ?_))); (case side2 => exact HC1.out); rintro e w32 ⟨rfl, hb⟩; have n0_ := Aside0.mk (below_step (by repeat (first | (with_reducible first | exact HB.out | apply below_alloc | apply pw_below_drewN | apply below_drew1) | exact HB.out)) hb); clear HB; have HB := n0_; clear n0_; (try clear hb); (try clear hb2); (try clear hk); (try clear hi))); go_upto_region 26 with (first | (go_at_call 42; (with_reducible refine (lines_Join.calls _ _ l1 t345 t346 _ ?side1 ?side2 A30.out).mono ?_); (case side1 => repeat (first | exact (Kd.C_below HR1.out HB.out) | (with_reducible refine Kd.C_alloc ?_ _) | (with_reducible refine Kd.C_drewN ?_ _) | (with_reducible refine Kd.C_drew ?_))); (case side2 => exact HC1.out); rintro e w32 ⟨rfl, hb⟩; have n0_ := Aside0.mk (below_step (by repeat (first | (with_reducible first | exact HB.out | apply below_alloc | apply pw_below_drewN | apply below_drew1) | exact HB.out)) hb); clear HB; have HB := n0_; clear n0_; (try clear hb); (try clear hb2); (try clear hk); (try clear hi))))
                                  (try simp only [Act.put, List.setIfInBounds_toArray, List.set_cons_zero, List.set_cons_succ])
                                  go_cut [96] (fun v96 wc => ∃ (kq : Nat) (x96_30 : Bool), v96 = .bool x96_30 ∧ Aside0 (paymasterlaw09_LinesBack.j4 kq l1 t345 t346 x96_30 = some r) ∧ Aside0 (kq ≤ k4) ∧ Aside0 (Below w.heap.size w wc))
                                  case first =>
                                    have H := HC31.out
                                    clear HC31
                                    by_cases c33 : t346 = 0
                                    · rw [if_pos c33] at H
                                      have c33b0 : (t346 == 0) = true := beq_iff_eq.mpr c33
                                      have c33b1 : (t346 != 0) = false := bne_eq_false_iff_eq.mpr c33
                                      clear c33
                                      (first | rw [c33b0] | (simp only [i64_w, i32_w]; rw [c33b0]) | skip)
                                      have H' := Aside0.mk H
                                      clear H
                                      go_wp2
                                      repeat (go_quiet (fail); try go_wp2)
                                      go_meet
                                      case rel => exact ⟨_, (((l1.length : Int) == 0)), (by first | rfl | (simp; done) | (simp [*]; done)), H', ⟨by have := HJ4.out; have := HK2.out; have := HK3.out; have := HK4.out; first | omega | exact Nat.le_refl _⟩, ⟨by repeat (first | (with_reducible first | exact HB.out | apply below_alloc | apply pw_below_drewN | apply below_drew1) | exact HB.out)⟩⟩
                                    · rw [if_neg c33] at H
                                      have c33b0 : (t346 == 0) = false := beq_eq_false_iff_ne.mpr c33
                                      have c33b1 : (t346 != 0) = true := bne_iff_ne.mpr c33
                                      (first | rw [c33b0] | (simp only [i64_w, i32_w]; rw [c33b0]) | skip)
                                      have H' := Aside0.mk H
                                      clear H
                                      go_wp2
                                      repeat (go_quiet (fail); try go_wp2)
                                      go_meet
                                      case rel => exact ⟨_, (true), (by first | rfl | (simp; done) | (simp [*]; done)), H', ⟨by have := HJ4.out; have := HK2.out; have := HK3.out; have := HK4.out; first | omega | exact Nat.le_refl _⟩, ⟨by repeat (first | (with_reducible first | exact HB.out | apply below_alloc | apply pw_below_drewN | apply below_drew1) | exact HB.out)⟩⟩
                                  case rest =>
                                    clear HC31
                                    try clear c1
                                    try clear p1
                                    try clear q1
                                    try clear hx1
                                    try clear c2
                                    try clear p2
                                    try clear c3
                                    try clear p3
                                    try clear q3
                                    try clear hx3
                                    try clear c4
                                    try clear p6
                                    try clear c7
                                    try clear c7b0
                                    try clear c7b1
                                    try clear c8
                                    try clear c9
                                    try clear c11
                                    try clear c11b0
                                    try clear c12
                                    try clear c12b0
                                    try clear c13
                                    try clear c17
                                    try clear c17b0
                                    try clear c18
                                    try clear c18b0
                                    try clear p19
                                    try clear q19
                                    try clear hx19
                                    try clear c20
                                    try clear c20b0
                                    try clear c20b1
                                    try clear c22
                                    try clear c22b0
                                    try clear c22b1
                                    try clear c23
                                    try clear c23b0
                                    try clear c23b1
                                    try clear c24
                                    try clear c24b0
                                    try clear c24b1
                                    try clear c27
                                    try clear c27b0
                                    try clear c28
                                    try clear c28b0
                                    try clear c29
                                    try clear c29b0
                                    try clear c29b1
                                    try clear c33
                                    try clear c33b0
                                    try clear c33b1
                                    try clear p33
                                    try clear q33
                                    try clear hx33
                                    try clear hx331_0
                                    try clear hx331_1
                                    try clear hx331_2
                                    try clear hx331_3
                                    try clear hx339_0
                                    try clear p1
                                    try clear p19
                                    try clear p2
                                    try clear p3
                                    try clear p331
                                    try clear p339
                                    try clear p6
                                    try clear q1
                                    try clear q19
                                    try clear q3
                                    try clear q331
                                    try clear q339
                                    obtain ⟨kq, x96_30, rfl, HA, HJ30, HB⟩ := hcut
                                    cases kq with
                                    | zero => exact absurd HA.out (by simp [paymasterlaw09_LinesBack.j4])
                                    | succ kj30 =>
                                      have H := HA.out
                                      clear HA
                                      simp only [paymasterlaw09_LinesBack.j4] at H
                                      by_cases c34 : x96_30 = true
                                      · subst c34
                                        have H1 : (if t346 = 2 then (if t345.toList = ([] : List UInt8) then (some true) else (if (l1.length : Int) = 0 then (some (t345.toList == ([] : List UInt8))) else (none))) else (if (l1.length : Int) = 0 then (some (t345.toList == ([] : List UInt8))) else (none))) = some r := by rw [if_pos rfl] at H; exact H
                                        clear H
                                        have H := H1
                                        clear H1
                                        by_cases c35 : t346 = 2
                                        · rw [if_pos c35] at H
                                          have c35b0 : (t346 == 2) = true := beq_iff_eq.mpr c35
                                          have c35b1 : (t346 != 2) = false := bne_eq_false_iff_eq.mpr c35
                                          clear c35
                                          by_cases c36 : t345.toList = ([] : List UInt8)
                                          · rw [if_pos c36] at H
                                            have c36b0 : (t345.toList == ([] : List UInt8)) = true := beq_iff_eq.mpr c36
                                            have c36b1 : (t345.toList != ([] : List UInt8)) = false := bne_eq_false_iff_eq.mpr c36
                                            clear c36
                                            obtain rfl := Option.some.inj H
                                            go_wp2
                                            repeat (go_quiet (fail); try go_wp2)
                                            go_ret
                                            exact ⟨by first | rfl | (simp [errW_none, errW_some] <;> rfl) | (simp [*, errW_none, errW_some] <;> rfl), by repeat (first | (with_reducible first | exact HB.out | apply below_alloc | apply pw_below_drewN | apply below_drew1) | exact HB.out)⟩
                                          · rw [if_neg c36] at H
                                            have c36b0 : (t345.toList == ([] : List UInt8)) = false := beq_eq_false_iff_ne.mpr c36
                                            have c36b1 : (t345.toList != ([] : List UInt8)) = true := bne_iff_ne.mpr c36
                                            by_cases c37 : (l1.length : Int) = 0
                                            · rw [if_pos c37] at H
                                              have c37b0 : ((l1.length : Int) == 0) = true := beq_iff_eq.mpr c37
                                              have c37b1 : ((l1.length : Int) != 0) = false := bne_eq_false_iff_eq.mpr c37
                                              clear c37
                                              obtain rfl := Option.some.inj H
                                              go_wp2
                                              repeat (go_quiet (fail); try go_wp2)
                                              go_ret
                                              exact ⟨by first | rfl | (simp [errW_none, errW_some] <;> rfl) | (simp [*, errW_none, errW_some] <;> rfl), by repeat (first | (with_reducible first | exact HB.out | apply below_alloc | apply pw_below_drewN | apply below_drew1) | exact HB.out)⟩
                                            · rw [if_neg c37] at H
                                              exact absurd H (by simp)
                                        · rw [if_neg c35] at H
                                          have c35b0 : (t346 == 2) = false := beq_eq_false_iff_ne.mpr c35
                                          have c35b1 : (t346 != 2) = true := bne_iff_ne.mpr c35
                                          by_cases c38 : (l1.length : Int) = 0
                                          · rw [if_pos c38] at H
                                            have c38b0 : ((l1.length : Int) == 0) = true := beq_iff_eq.mpr c38
                                            have c38b1 : ((l1.length : Int) != 0) = false := bne_eq_false_iff_eq.mpr c38
                                            clear c38
                                            obtain rfl := Option.some.inj H
                                            go_wp2
                                            repeat (go_quiet (fail); try go_wp2)
                                            go_ret
                                            exact ⟨by first | rfl | (simp [errW_none, errW_some] <;> rfl) | (simp [*, errW_none, errW_some] <;> rfl), by repeat (first | (with_reducible first | exact HB.out | apply below_alloc | apply pw_below_drewN | apply below_drew1) | exact HB.out)⟩
                                          · rw [if_neg c38] at H
                                            exact absurd H (by simp)
                                      · replace c34 := Bool.eq_false_iff.mpr c34
                                        subst c34
                                        have H1 : ((lines_All.f t345).bind fun t353 => (if (t353.length : Int) = (l1.length : Int) then (paymasterlaw09_LinesBack.l3 kj30 l1 t353 0) else (none))) = some r := by rw [if_neg (show ¬ (false = true) by decide)] at H; exact H
                                        clear H
                                        have H := H1
                                        clear H1
                                        replace H := Option.bind_eq_some_iff.mp H
                                        obtain ⟨t353, A390, H⟩ := H
                                        replace H : (if (t353.length : Int) = (l1.length : Int) then (paymasterlaw09_LinesBack.l3 kj30 l1 t353 0) else (none)) = some r := H
                                        have A39 := Aside0.mk A390
                                        clear A390
                                        by_cases c40 : (t353.length : Int) = (l1.length : Int)
                                        · rw [if_pos c40] at H
                                          have c40b0 : ((t353.length : Int) == (l1.length : Int)) = true := beq_iff_eq.mpr c40
                                          have c40b1 : ((t353.length : Int) != (l1.length : Int)) = false := bne_eq_false_iff_eq.mpr c40
                                          have c40b2 : (t353.length == l1.length) = true := by first | simpa using c40 | (simp at c40 ⊢; omega)
                                          clear c40
                                          have H' := Aside0.mk H
                                          clear H
                                          go_wp2_with (first | (go_at_call 34; (with_reducible refine (lines_All.calls t345 t353 _ ?side1 A39.out).mono ?_); (case side1 => exact gt_below hG (by repeat (first | (with_reducible first | exact HB.out | apply below_alloc | apply pw_below_drewN | apply below_drew1) | exact HB.out))); rintro e w41 ⟨v354, rfl, ho0, hb⟩; have n0_ := Aside0.mk (Kd.R_lower ho0 (below_size (by repeat (first | (with_reducible first | exact HB.out | apply below_alloc | apply pw_below_drewN | apply below_drew1) | exact HB.out)))); have n1_ := Aside0.mk (below_step (by repeat (first | (with_reducible first | exact HB.out | apply below_alloc | apply pw_below_drewN | apply below_drew1) | exact HB.out)) hb); clear HB; have HO355 := n0_; have HB := n1_; clear n0_ n1_; (try clear hb); (try clear hb2); (try clear hk); (try clear hi); (try clear ho0); obtain ⟨Ao42, co42, eo42⟩ := Kd.R_slice HO355.out; subst eo42))
                                          repeat (go_quiet (first | (go_at_call 34; (with_reducible refine (lines_All.calls t345 t353 _ ?side1 A39.out).mono ?_); (case side1 => exact gt_below hG (by repeat (first | (with_reducible first | exact HB.out | apply below_alloc | apply pw_below_drewN | apply below_drew1) | exact HB.out))); rintro e w41 ⟨v354, rfl, ho0, hb⟩; have n0_ := Aside0.mk (Kd.R_lower ho0 (below_size (by repeat (first | (with_reducible first | exact HB.out | apply below_alloc | apply pw_below_drewN | apply below_drew1) | exact HB.out)))); have n1_ := Aside0.mk (below_step (by repeat (first | (with_reducible first | exact HB.out | apply below_alloc | apply pw_below_drewN | apply below_drew1) | exact HB.out)) hb); clear HB; have HO355 := n0_; have HB := n1_; clear n0_ n1_; (try clear hb); (try clear hb2); (try clear hk); (try clear hi); (try clear ho0); obtain ⟨Ao42, co42, eo42⟩ := Kd.R_slice HO355.out; subst eo42)); try go_wp2_with (first | (go_at_call 34; (with_reducible refine (lines_All.calls t345 t353 _ ?side1 A39.out).mono ?_); (case side1 => exact gt_below hG (by repeat (first | (with_reducible first | exact HB.out | apply below_alloc | apply pw_below_drewN | apply below_drew1) | exact HB.out))); rintro e w41 ⟨v354, rfl, ho0, hb⟩; have n0_ := Aside0.mk (Kd.R_lower ho0 (below_size (by repeat (first | (with_reducible first | exact HB.out | apply below_alloc | apply pw_below_drewN | apply below_drew1) | exact HB.out)))); have n1_ := Aside0.mk (below_step (by repeat (first | (with_reducible first | exact HB.out | apply below_alloc | apply pw_below_drewN | apply below_drew1) | exact HB.out)) hb); clear HB; have HO355 := n0_; have HB := n1_; clear n0_ n1_; (try clear hb); (try clear hb2); (try clear hk); (try clear hi); (try clear ho0); obtain ⟨Ao42, co42, eo42⟩ := Kd.R_slice HO355.out; subst eo42)))
                                          go_loopg [16] kj30 (fun kq v16 w' => ∃ (x16_6 : Int), v16 = .int .i64 x16_6 ∧ Aside0 (paymasterlaw09_LinesBack.l3 kq l1 t353 x16_6 = some r) ∧ Aside0 (kq ≤ kj30) ∧ Aside0 (Kd.R k56 56 w' w.heap.size (fun _ => True) (.slice Ao42 t353.length co42) t353) ∧ Aside0 (Below w.heap.size w w'))
                                          case atStart => exact ⟨(0), (by first | rfl | (simp; done) | (simp [*]; done)), H', ⟨Nat.le_refl _⟩, ⟨by (with_reducible repeat (first | apply Kd.R_alloc | apply Kd.R_drewN | apply Kd.R_drew)); exact HO355.out⟩, ⟨by repeat (first | (with_reducible first | exact HB.out | apply below_alloc | apply pw_below_drewN | apply below_drew1) | exact HB.out)⟩⟩
                                          case round =>
                                            clear H'
                                            try clear c1
                                            try clear p1
                                            try clear q1
                                            try clear hx1
                                            try clear c2
                                            try clear p2
                                            try clear c3
                                            try clear p3
                                            try clear q3
                                            try clear hx3
                                            try clear c4
                                            try clear p6
                                            try clear c7
                                            try clear c7b0
                                            try clear c7b1
                                            try clear c8
                                            try clear c9
                                            try clear c11
                                            try clear c11b0
                                            try clear c12
                                            try clear c12b0
                                            try clear c13
                                            try clear c17
                                            try clear c17b0
                                            try clear c18
                                            try clear c18b0
                                            try clear p19
                                            try clear q19
                                            try clear hx19
                                            try clear c20
                                            try clear c20b0
                                            try clear c20b1
                                            try clear c22
                                            try clear c22b0
                                            try clear c22b1
                                            try clear c23
                                            try clear c23b0
                                            try clear c23b1
                                            try clear c24
                                            try clear c24b0
                                            try clear c24b1
                                            try clear c27
                                            try clear c27b0
                                            try clear c28
                                            try clear c28b0
                                            try clear c29
                                            try clear c29b0
                                            try clear c29b1
                                            try clear c33
                                            try clear c33b0
                                            try clear c33b1
                                            try clear p33
                                            try clear q33
                                            try clear hx33
                                            try clear c34
                                            try clear c35
                                            try clear c35b0
                                            try clear c35b1
                                            try clear c36
                                            try clear c36b0
                                            try clear c36b1
                                            try clear c37
                                            try clear c37b0
                                            try clear c37b1
                                            try clear c38
                                            try clear c38b0
                                            try clear c38b1
                                            try clear c40
                                            try clear c40b0
                                            try clear c40b1
                                            try clear c40b2
                                            try clear hx331_0
                                            try clear hx331_1
                                            try clear hx331_2
                                            try clear hx331_3
                                            try clear hx339_0
                                            try clear p1
                                            try clear p19
                                            try clear p2
                                            try clear p3
                                            try clear p33
                                            try clear p331
                                            try clear p339
                                            try clear p6
                                            try clear q1
                                            try clear q19
                                            try clear q3
                                            try clear q33
                                            try clear q331
                                            try clear q339
                                            obtain ⟨x16_6, rfl, HA, HK6, HO_15, HB⟩ := hrel
                                            cases gk with
                                            | zero => exact absurd HA.out (by simp [paymasterlaw09_LinesBack.l3])
                                            | succ k6 =>
                                              have H := HA.out
                                              clear HA
                                              simp only [paymasterlaw09_LinesBack.l3] at H
                                              by_cases c43 : x16_6 < (l1.length : Int)
                                              · rw [if_pos c43] at H
                                                have c43b0 : decide (x16_6 < (l1.length : Int)) = true := decide_eq_true c43
                                                clear c43
                                                by_cases c44 : 0 ≤ x16_6
                                                · rw [if_pos c44] at H
                                                  have c44b0 : decide (0 ≤ x16_6) = true := decide_eq_true c44
                                                  clear c44
                                                  by_cases c45 : x16_6 < (t353.length : Int)
                                                  · rw [if_pos c45] at H
                                                    have c45b0 : decide (x16_6 < (t353.length : Int)) = true := decide_eq_true c45
                                                    clear c45
                                                    by_cases c46 : ((rd_T56 t353 x16_6).f1).toList = (rdOf ByteArray.empty l1 x16_6).toList
                                                    · rw [if_pos c46] at H
                                                      have c46b0 : (((rd_T56 t353 x16_6).f1).toList == (rdOf ByteArray.empty l1 x16_6).toList) = true := beq_iff_eq.mpr c46
                                                      have c46b1 : (((rd_T56 t353 x16_6).f1).toList != (rdOf ByteArray.empty l1 x16_6).toList) = false := bne_eq_false_iff_eq.mpr c46
                                                      clear c46
                                                      have H' := Aside0.mk H
                                                      clear H
                                                      have p356 : 0 ≤ (x16_6 : Int) := of_decide_eq_true (by first | (with_reducible assumption) | assumption)
                                                      have q356 : x16_6 < (t353.length : Int) := of_decide_eq_true (by first | (with_reducible assumption) | assumption)
                                                      obtain ⟨ad356, e356, hx356_0, hx356_1, hx356_2, hx356_3⟩ := at_T56 (Kd.R_reads' HO_15.out).2.2 x16_6 p356 q356
                                                      cases e356
                                                      replace p356 := eq_true p356
                                                      replace q356 := eq_true q356
                                                      have p357 : 0 ≤ (x16_6 : Int) := of_decide_eq_true (by first | (with_reducible assumption) | assumption)
                                                      have q357 : x16_6 < (l1.length : Int) := of_decide_eq_true (by first | (with_reducible assumption) | assumption)
                                                      obtain ⟨ad357, e357, hx357_0⟩ := Kd.at_string HR1.out x16_6 p357 q357
                                                      cases e357
                                                      replace hx357_0 := (HB.out.cell (World.block_lt_of_cell? w _ hx357_0)).trans hx357_0
                                                      replace p357 := eq_true p357
                                                      replace q357 := eq_true q357
                                                      go_wp2
                                                      repeat (go_quiet (fail); try go_wp2)
                                                      go_roundg k6
                                                      case measure => have := HJ4.out; have := HK2.out; have := HK3.out; have := HK4.out; have := HJ30.out; have := HK6.out; omega
                                                      case rel => exact ⟨(wrap64 (x16_6 + 1)), (by first | rfl | (simp; done) | (simp [*]; done)), H', ⟨by have := HJ4.out; have := HK2.out; have := HK3.out; have := HK4.out; have := HJ30.out; have := HK6.out; omega⟩, ⟨by (with_reducible repeat (first | apply Kd.R_alloc | apply Kd.R_drewN | apply Kd.R_drew)); exact HO_15.out⟩, ⟨by repeat (first | (with_reducible first | exact HB.out | apply below_alloc | apply pw_below_drewN | apply below_drew1) | exact HB.out)⟩⟩
                                                    · rw [if_neg c46] at H
                                                      exact absurd H (by simp)
                                                  · rw [if_neg c45] at H
                                                    exact absurd H (by simp)
                                                · rw [if_neg c44] at H
                                                  exact absurd H (by simp)
                                              · rw [if_neg c43] at H
                                                have c43b0 : decide (x16_6 < (l1.length : Int)) = false := decide_eq_false c43
                                                clear c43
                                                obtain rfl := Option.some.inj H
                                                go_wp2
                                                repeat (go_quiet (fail); try go_wp2)
                                                go_ret
                                                exact ⟨by first | rfl | (simp [errW_none, errW_some] <;> rfl) | (simp [*, errW_none, errW_some] <;> rfl), by repeat (first | (with_reducible first | exact HB.out | apply below_alloc | apply pw_below_drewN | apply below_drew1) | exact HB.out)⟩
                                        · rw [if_neg c40] at H
                                          exact absurd H (by simp)
                          · rw [if_neg c24] at H
                            exact absurd H (by simp)
                        · rw [if_neg c23] at H
                          exact absurd H (by simp)
                      · rw [if_neg c22] at H
                        exact absurd H (by simp)
  · replace c4 := Bool.eq_false_iff.mpr c4
    subst c4
    have H1 : (none) = some r := by rw [if_neg (show ¬ (false = true) by decide)] at H; exact H
    clear H
    have H := H1
    clear H1
    exact absurd H (by simp)
end Go.Proofs.YtpkjpiphjdpegaaDoor.P
namespace Go.Proofs.YtpkjpiphjdpegaaDoor.P
open Go.RowKit Go.Proofs.YtpkjpiphjdpegaaDoorW.PrintWords Go.Proofs.YtpkjpiphjdpegaaDoorW.PrintLast Go.Proofs.YtpkjpiphjdpegaaDoorW.PrintMore
theorem awake09 : paymasterlaw09_awake.f 100 = some true := by kernel_rfl
end Go.Proofs.YtpkjpiphjdpegaaDoor.P
namespace Go.Proofs.YtpkjpiphjdpegaaDoor.P
open Go.RowKit Go.Proofs.YtpkjpiphjdpegaaDoorW.PrintWords
set_option linter.unusedVariables false
set_option linter.unusedSimpArgs false
theorem awake09_up (k : Nat) (h : 100 ≤ k) : paymasterlaw09_awake.f k = some true := up (F := fun k => paymasterlaw09_awake.f k) paymasterlaw09_awake.mono awake09 k h
end Go.Proofs.YtpkjpiphjdpegaaDoor.P
namespace Go.Proofs.YtpkjpiphjdpegaaDoor.P
open Go.RowKit Go.Proofs.YtpkjpiphjdpegaaDoorW.PrintWords Go.Proofs.YtpkjpiphjdpegaaDoorW.PrintLast Go.Proofs.YtpkjpiphjdpegaaDoorW.PrintMore
set_option linter.unusedVariables false
set_option linter.unusedSimpArgs false
theorem brk_clean (h : List UInt8) : brk (mk h) = false ↔ ∀ b ∈ h, b ≠ 10 := by
  unfold brk
  rw [mk_list, ← Lib.contains_iff_indexByte]
  simp only [← Bool.not_eq_true, List.contains_iff_mem]
  exact ⟨fun q b hb e => q (e ▸ hb), fun q e => q 10 e rfl⟩
theorem joinB_cons (h : List UInt8) (r : List (List UInt8)) : Lib.join (h :: r) [10] = h ++ Lib.joinTail [10] r := Lib.join_cons ..
theorem tail_cons (y : List UInt8) (r : List (List UInt8)) : Lib.joinTail [10] (y :: r) = 10 :: (y ++ Lib.joinTail [10] r) := rfl
theorem join_split : ∀ l : List UInt8, Lib.join (splitB l) [10] = l
  | [] => rfl
  | x :: l => by
    have ih := join_split l
    rw [splitB]
    by_cases c : x = 10
    · rw [if_pos c]
      cases q : splitB l with
      | nil => exact absurd q (splitB_ne l)
      | cons y r =>
        rw [q, joinB_cons] at ih
        rw [joinB_cons, tail_cons, ih, c]
        rfl
    · rw [if_neg c]
      cases q : splitB l with
      | nil => exact absurd q (splitB_ne l)
      | cons y r =>
        rw [q, joinB_cons] at ih
        show Lib.join ((x :: y) :: r) [10] = _
        rw [joinB_cons, List.cons_append, ih]
theorem split_join : ∀ (r : List (List UInt8)) (h : List UInt8), (∀ x ∈ h :: r, ∀ b ∈ x, b ≠ 10) → splitB (Lib.join (h :: r) [10]) = h :: r
  | [], h, c => by rw [joinB_cons]; show splitB (h ++ []) = [h]; rw [List.append_nil]; exact splitB_one h (c h (List.mem_cons_self ..))
  | y :: r, h, c => by
    rw [joinB_cons, tail_cons, splitB_app, splitB_one h (c h (List.mem_cons_self ..)), ← joinB_cons, split_join r y fun x hx => c x (List.mem_cons_of_mem _ hx)]
    rfl
theorem split_count : ∀ l : List UInt8, (splitB l).length = l.count 10 + 1
  | [] => rfl
  | x :: l => by
    have ih := split_count l
    rw [splitB, List.count_cons]
    by_cases c : x = 10
    · rw [if_pos c, List.length_cons, ih, c]; simp
    · rw [if_neg c, if_neg (by simpa using c)]
      cases q : splitB l with
      | nil => exact absurd q (splitB_ne l)
      | cons y r =>
        rw [q] at ih
        simpa using ih
theorem texts_mk (L : List (List UInt8)) : (L.map mk).map (·.data.toList) = L := by
  rw [List.map_map]
  exact (List.map_congr_left fun x _ => mk_list x).trans (List.map_id _)
theorem joinL_mk (L : List (List UInt8)) : joinL (L.map mk) = mk (Lib.join L [10]) := by unfold joinL; rw [texts_mk]; rfl
theorem join_f (l : List ByteArray) (h1 : l.length ≤ 1000000) (h2 : (Lib.join (l.map (·.data.toList)) [10]).length ≤ 1000000000) : lines_Join.f l = some (if l.any brk = true then ((⟨#[]⟩ : ByteArray), 2) else (joinL l, 0)) := if_pos ⟨h1, h2⟩
theorem back_l3 (L : List ByteArray) (hL : L.length ≤ 100) (k : Nat) : ∀ (t i : Nat), i + t = L.length → paymasterlaw09_LinesBack.l3 (k + 1 + t) L (linesL 1 (L.map (·.data.toList))) (i : Int) = some true
  | 0, i, h => by
    show paymasterlaw09_LinesBack.l3 (k + 1) _ _ _ = _
    rw [paymasterlaw09_LinesBack.l3, if_neg (by omega)]
  | t + 1, i, h => by
    have ih := back_l3 L hL k t (i + 1) (by omega)
    have r := rd_line (L.map (·.data.toList)) i (by rw [List.length_map]; omega)
    show paymasterlaw09_LinesBack.l3 (k + 1 + t + 1) _ _ _ = _
    rw [paymasterlaw09_LinesBack.l3, if_pos (show (i : Int) < (L.length : Int) by omega), if_pos (show (0 : Int) ≤ (i : Int) by omega), linesL_len, List.length_map, if_pos (show (i : Int) < (L.length : Int) by omega), r, wrapI _ (by omega) (by omega)]
    have e : (L.map (·.data.toList)).getD i [] = (rdOf ByteArray.empty L (i : Int)).data.toList := by
      unfold rdOf
      rw [Int.toNat_natCast, List.getD_eq_getElem?_getD, List.getD_eq_getElem?_getD, List.getElem?_map, List.getElem?_eq_getElem (by omega)]
      rfl
    rw [e]
    rw [if_pos (show (lineOf ((i : Int) + 1) (rdOf ByteArray.empty L (i : Int)).data.toList).f1.toList = (rdOf ByteArray.empty L (i : Int)).toList from by
      show (mk _).toList = _
      rw [mk_of])]
    exact ih
theorem back_j4 (L : List ByteArray) (hL : L.length ≤ 100) (hs : ∀ x ∈ L, x.size ≤ 200) (k : Nat) : ∃ p : ByteArray × Int, lines_Join.f L = some p ∧
    (if p.2 = 0 then paymasterlaw09_LinesBack.j4 (k + 110) L p.1 p.2 ((L.length : Int) == 0) else paymasterlaw09_LinesBack.j4 (k + 110) L p.1 p.2 true) = some true := by
  have jl : (Lib.join (L.map (·.data.toList)) [10]).length ≤ 201 * L.length := join_len L hs
  refine ⟨_, join_f L (by omega) (by omega), ?_⟩
  by_cases b : L.any brk = true
  · rw [if_pos b, if_neg (show ¬ ((2 : Int) = 0) by decide), paymasterlaw09_LinesBack.j4, if_pos rfl, if_pos rfl, if_pos (by rw [toList_eq])]
  · rw [if_neg b, if_pos rfl, paymasterlaw09_LinesBack.j4]
    by_cases z : L.length = 0
    · have e : L = [] := List.eq_nil_of_length_eq_zero z
      subst e
      rw [if_pos (by rfl), if_neg (by decide), if_pos (show ((([] : List ByteArray).length : Nat) : Int) = 0 from rfl)]
      show some ((joinL []).toList == []) = some true
      rw [toList_eq]
      rfl
    · rw [if_neg (by simpa using z)]
      have clean : ∀ x ∈ L.map (·.data.toList), ∀ c ∈ x, c ≠ 10 := by
        intro x hx
        obtain ⟨s, hs', rfl⟩ := List.mem_map.1 hx
        have b' : L.any brk = false := by simpa using b
        have := (List.any_eq_false.1 b') s hs'
        rw [← mk_of s] at this
        exact (brk_clean _).1 (by simpa using this)
      have sz : (joinL L).size = (Lib.join (L.map (·.data.toList)) [10]).length := joinL_size L
      have A : allL (joinL L) = linesL 1 (L.map (·.data.toList)) := by
        unfold allL
        congr 1
        show splitB (Lib.join (L.map (·.data.toList)) [10]) = _
        cases q : L.map (·.data.toList) with
        | nil => rw [List.map_eq_nil_iff] at q; rw [q] at z; exact absurd rfl z
        | cons y r => rw [q] at clean; exact split_join r y clean
      dsimp only
      rw [all_f _ (by omega), Option.bind_some, A, linesL_len, List.length_map, if_pos rfl]
      have := back_l3 L hL (k + 108 - L.length) L.length 0 (by omega)
      rw [show k + 108 - L.length + 1 + L.length = k + 109 by omega] at this
      exact this
theorem back_l2 (L : List ByteArray) (hL : L.length ≤ 100) (k : Nat) : ∀ (t i : Nat), i + t = L.length → (∀ j, j < i → (rdOf ByteArray.empty L (j : Int)).size ≤ 200) → paymasterlaw09_LinesBack.l2 (k + 111 + t) L (i : Int) = some true
  | 0, i, h, hb => by
    obtain rfl : i = L.length := by omega
    have h200 : ∀ x ∈ L, x.size ≤ 200 := by
      intro x hx
      obtain ⟨j, hj, e⟩ := List.mem_iff_getElem.1 hx
      have := hb j hj
      unfold rdOf at this
      rw [Int.toNat_natCast, List.getD_eq_getElem?_getD, List.getElem?_eq_getElem hj, e] at this
      exact this
    obtain ⟨p, e, hp⟩ := back_j4 L hL h200 k
    show paymasterlaw09_LinesBack.l2 (k + 110 + 1) _ _ = _
    rw [paymasterlaw09_LinesBack.l2, if_neg (by omega), e, Option.bind_some]
    exact hp
  | t + 1, i, h, hb => by
    show paymasterlaw09_LinesBack.l2 (k + 111 + t + 1) _ _ = _
    rw [paymasterlaw09_LinesBack.l2, if_pos (show (i : Int) < (L.length : Int) by omega), if_pos (show (0 : Int) ≤ (i : Int) by omega)]
    by_cases c : ((rdOf ByteArray.empty L (i : Int)).size : Int) > 200
    · rw [if_pos c]
    · rw [if_neg c, wrapI _ (by omega) (by omega), show (i : Int) + 1 = ((i + 1 : Nat) : Int) from by omega]
      refine back_l2 L hL k t (i + 1) (by omega) (fun j hj => ?_)
      by_cases e : j = i
      · subst e; omega
      · exact hb j (by omega)
theorem back_l1 (s : ByteArray) (hs : s.size ≤ 3000) (L : List ByteArray) (hL : L.length ≤ 100) (k : Nat) : ∀ (t i : Nat), i + t = s.size →
    paymasterlaw09_LinesBack.l1 (k + 300 + t) s L (allL s) ((splitB s.data.toList).map mk) (((s.data.toList.take i).count 10 : Nat) + 1 : Int) (i : Int) = some true
  | 0, i, h => by
    have e : s.data.toList.length = s.size := Array.length_toList
    obtain rfl : i = s.size := by omega
    show paymasterlaw09_LinesBack.l1 (k + 299 + 1) _ _ _ _ _ _ = _
    have sl := splitB_len s.data.toList
    have tx := texts_mk (splitB s.data.toList)
    have nobrk : ((splitB s.data.toList).map mk).any brk = false := by
      rw [List.any_eq_false]
      intro x hx
      obtain ⟨h, hh, rfl⟩ := List.mem_map.1 hx
      rw [(brk_clean h).2 (splitB_clean _ h hh)]
      decide
    rw [paymasterlaw09_LinesBack.l1, if_neg (by omega), join_f _ (by rw [List.length_map]; omega) (by rw [tx, join_split]; omega), Option.bind_some, nobrk, if_neg (show ¬ (false = true) by decide), if_pos rfl, joinL_mk, join_split, mk_of, if_pos rfl]
    have c1 : (allL s).length = (splitB s.data.toList).length := linesL_len _ _
    have c2 := split_count s.data.toList
    rw [← e, List.take_length, if_pos (by omega)]
    have := back_l2 L hL (k + 188 - L.length) L.length 0 (by omega) (fun j hj => by omega)
    rw [show k + 188 - L.length + 111 + L.length = k + 299 by omega] at this
    exact this
  | t + 1, i, h => by
    have e : s.data.toList.length = s.size := Array.length_toList
    have ih := back_l1 s hs L hL k t (i + 1) (by omega)
    have b := bt_mk s.data.toList i (by omega)
    rw [mk_of] at b
    have cl : (s.data.toList.take i).count 10 ≤ i := by
      have := List.count_le_length (a := (10 : UInt8)) (l := s.data.toList.take i)
      rw [List.length_take] at this
      omega
    have tk : s.data.toList.take (i + 1) = s.data.toList.take i ++ [s.data.toList.getD i 0] := by
      rw [List.take_succ_eq_append_getElem (by omega), List.getD_eq_getElem?_getD, List.getElem?_eq_getElem (by omega)]; rfl
    rw [tk, List.count_append, List.count_singleton] at ih
    show paymasterlaw09_LinesBack.l1 (k + 300 + t + 1) _ _ _ _ _ _ = _
    rw [paymasterlaw09_LinesBack.l1, if_pos (show (i : Int) < (s.size : Int) by omega), if_pos (show (0 : Int) ≤ (i : Int) by omega), b, wrapI ((i : Int) + 1) (by omega) (by omega), show (i : Int) + 1 = ((i + 1 : Nat) : Int) by omega]
    by_cases c : s.data.toList.getD i 0 = 10
    · rw [c, if_pos (by simp)] at ih
      rw [if_pos ((ten_is _).2 c), wrapI _ (by omega) (by omega)]
      rw [← ih]
      congr 1
    · rw [if_neg (by simpa using c)] at ih
      rw [if_neg (fun q => c ((ten_is _).1 q))]
      exact ih
theorem back_l0 (s : ByteArray) (hs : s.size ≤ 3000) (L : List ByteArray) (hL : L.length ≤ 100) (k : Nat) : ∀ (t i : Nat), i + t = (splitB s.data.toList).length →
    paymasterlaw09_LinesBack.l0 (k + 301 + s.size + t) s L (allL s) (((splitB s.data.toList).take i).map mk) 1 (i : Int) = some true
  | 0, i, h => by
    have c1 : (allL s).length = (splitB s.data.toList).length := linesL_len _ _
    obtain rfl : i = (splitB s.data.toList).length := by omega
    rw [show k + 301 + s.size + 0 = k + 300 + s.size + 1 by omega, paymasterlaw09_LinesBack.l0, if_neg (by omega), List.take_length]
    exact back_l1 s hs L hL k s.size 0 (by omega)
  | t + 1, i, h => by
    have c1 : (allL s).length = (splitB s.data.toList).length := linesL_len _ _
    have e : s.data.toList.length = s.size := Array.length_toList
    have sl := splitB_len s.data.toList
    have ih := back_l0 s hs L hL k t (i + 1) (by omega)
    have tk : (splitB s.data.toList).take (i + 1) = (splitB s.data.toList).take i ++ [(splitB s.data.toList).getD i []] := by
      rw [List.take_succ_eq_append_getElem (by omega), List.getD_eq_getElem?_getD, List.getElem?_eq_getElem (by omega)]; rfl
    rw [tk, List.map_append] at ih
    show paymasterlaw09_LinesBack.l0 (k + 301 + s.size + t + 1) _ _ _ _ _ _ = _
    rw [paymasterlaw09_LinesBack.l0, if_pos (show (i : Int) < ((allL s).length : Int) by omega), if_pos (show (0 : Int) ≤ (i : Int) by omega), if_pos (by rw [List.length_map, List.length_take]; omega), wrapI _ (by omega) (by omega), show (i : Int) + 1 = ((i + 1 : Nat) : Int) by omega]
    have r := rd_line (splitB s.data.toList) i (by omega)
    have r' : (rd_T56 (allL s) (i : Int)).f1 = mk ((splitB s.data.toList).getD i []) := by
      show (rd_T56 (linesL 1 (splitB s.data.toList)) (i : Int)).f1 = _
      rw [r]; rfl
    rw [r']
    exact ih
theorem linesBack_pure (s : ByteArray) (l : List ByteArray) : ∃ k, paymasterlaw09_LinesBack.f k s l = some true := by
  refine ⟨7000, ?_⟩
  unfold paymasterlaw09_LinesBack.f
  rw [awake09_up _ (by omega), Option.bind_some, if_pos rfl]
  by_cases h1 : (s.size : Int) > 3000
  · rw [if_pos h1, paymasterlaw09_LinesBack.j0, if_pos rfl]
  · rw [if_neg h1, paymasterlaw09_LinesBack.j0]
    by_cases h2 : (l.length : Int) > 100
    · rw [decide_eq_true h2, if_pos rfl]
    · rw [decide_eq_false h2, if_neg (show ¬ (false = true) by decide), all_f s (by omega), Option.bind_some]
      have sl := splitB_len s.data.toList
      have e : s.data.toList.length = s.size := Array.length_toList
      have := back_l0 s (by omega) l (by omega) (6698 - s.size - (splitB s.data.toList).length) (splitB s.data.toList).length 0 (by omega)
      rw [show 6698 - s.size - (splitB s.data.toList).length + 301 + s.size + (splitB s.data.toList).length = 6999 by omega] at this
      exact this
theorem linesBack_walk {w : World} (a0 : ByteArray) (g0 : a0.size ≤ 9223372036854775807) (A1 : Option Addr) (c1 : Nat) (l1 : List ByteArray) (hr1 : Kd.string.C w A1 l1.length l1) (hc1 : l1.length ≤ c1) (g1 : ∀ y ∈ l1, True) (hG : GT w) :
    Calls Tryd.prog 9 #[.string a0, .slice A1 l1.length c1] w fun e w' => e = .returned (.bool true) ∧ Below w.heap.size w w' := by
  obtain ⟨k, hk⟩ := linesBack_pure a0 l1
  exact paymasterlaw09_LinesBack.calls k a0 A1 c1 l1 true w hr1 hc1 hG hk
end Go.Proofs.YtpkjpiphjdpegaaDoor.P
namespace Go.Proofs.YtpkjpiphjdpegaaDoor.linesBack
open Go.ChangeShapes Go.WideShapes Go.ChangeAt Go.RowKit Go.Proofs.YtpkjpiphjdpegaaDoor.P
open Go.ChangeMaps (open_string shut_string)
set_option linter.unusedVariables false
set_option maxRecDepth 100000 in
theorem lifted (os : Os) (started : os.Started) (H : Type) (enc : TypeId × Value → H) :
    ReturnsInHanded {} Tryd.checked os 9 .any (fun w args => (Rows.linesBackSpec.pre enc Tryd.prog Tryd.f9 Rows.linesBackRow.domain false w args ∧ laidMetH Tryd.prog laid w) ∧ sizedMet enc Tryd.prog Tryd.f9 (OpenSpec.ofChange Rows.linesBackSpec) false w args) (Rows.linesBackSpec.post enc Tryd.prog Tryd.f9 false true false false) := by
  refine returnsInHanded_of_change_and (C := Tryd.checked) (X := fun w _ => laidMetH Tryd.prog laid w) (fun _ _ _ hh h => h.of_heap hh) own started (by kernel_rfl) Tryd.func9
    (ChangeSpec.witness_shaped (enc := enc) (C := Tryd.checked) (os := os) (X := fun w _ => laidMetH Tryd.prog laid w) false (World.laidAll Tryd.prog os laid) #[.string ByteArray.empty, .slice none 0 0] 8 (World.laidAll_os _ _ _) (World.shaped_of_ZipB (by kernel_rfl) (by kernel_rfl)) (by kernel_rfl) (by kernel_rfl) (by kernel_rfl) (laid_met os _)) ?_
  intro W base args ds gs before hval0 hW _ _ hL _
  have hval : ∀ (j : Nat) t v, Tryd.f9.params[j]? = some t → args[j]? = some v → Value.okWide Tryd.prog W .any base t v := hval0
  have hW' := hW
  obtain ⟨p, q, hA0, hV, rfl, hfz, hnd⟩ := hW
  have hA : DataW.TrodAll enc Tryd.prog W 0 (fun _ => true) true Tryd.f9.params.toList args.toList ds p := hA0
  rw [Tryd.params9] at hA hval
  have hAll := hA
  obtain ⟨v0, vs0, d0, ds0, p0, q0, hargs, rfl, rfl, h0, r0⟩ := trodAll_cons hA
  obtain ⟨v1, vs1, d1, ds1, p1, q1, rfl, rfl, rfl, h1, r1⟩ := trodAll_cons r0
  obtain ⟨rfl, rfl, rfl⟩ := trodAll_nil r1
  obtain rfl : args = #[v0, v1] := by cases args; simp_all
  obtain ⟨rfl, rfl⟩ := trodVars_none hV
  obtain ⟨a0, rfl, g0⟩ := arg_string (hval 0 9 v0 rfl rfl) h0
  obtain ⟨A1, c1, l1, rfl, hc1, hr1, g1⟩ := arg_row9 (hval 1 51 v1 rfl rfl) h1
  clear hA0 hval0
  refine (linesBack_walk (w := W) a0 g0 A1 c1 l1 hr1 hc1 g1 (gt_of hL)).mono fun e W' ⟨he, bel⟩ => ?_
  subst he
  exact ⟨_, rfl, _, _, _, [], _, [], hW', trodAll_mk1 (shut_bool Tryd.underlying4 _), args_back laidOut bel (by kernel_rfl) hAll, rfl, bel.frame _, fun h => by cases h⟩
theorem both {a b : Bool} (h : a = true) (k : b = true) : (a && b) = true := by rw [h, k]; rfl
theorem c0 : (Rows.linesBackRow.wf (OpenSpec.ofChange Rows.linesBackSpec)) = true := by kernel_rfl
theorem c1 : (laidOutB Tryd.prog) = true := by kernel_rfl
theorem c2 : (mapsRowed Tryd.prog) = true := by kernel_rfl
theorem c3 : (Tryd.f9.params.all (Tryd.prog.readableRec ·)) = true := by kernel_rfl
theorem c4 : (namedTie Tryd.prog Rows.linesBackRow.named Rows.linesBackSpec.vars) = true := by kernel_rfl
theorem c5 : ((Rows.linesBackRow.stops == [])) = true := by kernel_rfl
theorem c6 : ((Tryd.prog.stops == [])) = true := by kernel_rfl
theorem c7 : ((Rows.linesBackRow.knobs == [])) = true := by kernel_rfl
theorem c8 : ((Tryd.prog.stopKnobs == [])) = true := by kernel_rfl
theorem c9 : ((Rows.linesBackRow.inPlace == Tryd.prog.inPlace 9)) = true := by kernel_rfl
theorem c10 : ((Rows.linesBackRow.unfollowed == Tryd.prog.unfollowed 9)) = true := by kernel_rfl
theorem c11 : ((Rows.linesBackRow.recurses == Tryd.prog.recurses 9)) = true := by kernel_rfl
theorem c12 : ((Rows.linesBackRow.named == Tryd.prog.varsNamed 9)) = true := by kernel_rfl
theorem c13 : ((Rows.linesBackRow.maps == (Tryd.f9.params.toList ++ Rows.linesBackSpec.plain.varTypes Tryd.prog).any (Tryd.prog.mapsRec ·))) = true := by kernel_rfl
theorem c14 : ((Rows.linesBackRow.ifaces == (Tryd.f9.params.toList ++ Rows.linesBackSpec.plain.varTypes Tryd.prog).any (Tryd.prog.ifacesRec ·))) = true := by kernel_rfl
theorem c15 : ((Rows.linesBackRow.mapsOut == Tryd.prog.mapsAmong Tryd.f9.resultTypes.toList)) = true := by kernel_rfl
theorem c16 : ((Rows.linesBackRow.loops == (Tryd.f9.params.toList ++ Rows.linesBackSpec.plain.varTypes Tryd.prog).any (Tryd.prog.loopsFrom ·))) = true := by kernel_rfl
theorem c17 : ((Rows.linesBackRow.wideKeys == (Tryd.f9.params.toList ++ Rows.linesBackSpec.plain.varTypes Tryd.prog ++ Tryd.f9.resultTypes.toList).any (Tryd.prog.wideKeysFrom ·))) = true := by kernel_rfl
theorem c18 : (Rows.linesBackSpec.vars.all (Tryd.prog.varReadable ·)) = true := by kernel_rfl
theorem c19 : (Tryd.f9.resultTypes.all (fun t => Tryd.prog.readableRec t && decide (t < Tryd.prog.types.size))) = true := by kernel_rfl
theorem c20 : ((Rows.linesBackRow.ifacesOut == Tryd.f9.resultTypes.toList.any (Tryd.prog.ifacesRec ·))) = true := by kernel_rfl
theorem c21 : ((Rows.linesBackRow.loopsOut == Tryd.f9.resultTypes.toList.any (Tryd.prog.loopsFrom ·))) = true := by kernel_rfl
theorem c22 : ((Rows.linesBackRow.plainKeys == Tryd.prog.plainKeys)) = true := by kernel_rfl
theorem c23 : (Rows.linesBackRow.shortTexts.isNone) = true := by kernel_rfl
theorem c24 : (Tryd.prog.stopsHeard) = true := by kernel_rfl
theorem c25 : (Tryd.prog.mayEnter) = true := Facts.mayEnter
theorem c26 : ((Rows.linesBackRow.lifted == Tryd.prog.liftsFinal)) = true := by rw [Facts.liftsFinal]; kernel_rfl
theorem c27 : ((Tryd.prog.make == some Rows.linesBackRow.make)) = true := by rw [Facts.make]; kernel_rfl
theorem c28 : ((Rows.linesBackRow.kinds == (if Rows.linesBackRow.domain.isEmpty then [] else Tryd.f9.params.toList.map fun t => match Tryd.prog.underlying t with | some (.int k) => some k | _ => none))) = true := by kernel_rfl
theorem c29 : ((Rows.linesBackRow.pinned == Rows.linesBackRow.pinnedBy)) = true := by kernel_rfl
theorem c30 : ((Rows.linesBackRow.veiled == (Tryd.f9.params.toList ++ Rows.linesBackSpec.plain.varTypes Tryd.prog ++ Tryd.f9.resultTypes.toList).any (Tryd.prog.veiledRec ·))) = true := by kernel_rfl
theorem c31 : (Rows.linesBackRow.veiledFits Tryd.prog Tryd.f9.params.toList (Tryd.f9.params.toList ++ Rows.linesBackSpec.plain.varTypes Tryd.prog ++ Tryd.f9.resultTypes.toList)) = true := by kernel_rfl
set_option maxRecDepth 100000 in
theorem closed : joinedFacts Tryd.prog 9 Tryd.f9 Rows.linesBackSpec Rows.linesBackRow = true := by
  unfold joinedFacts
  exact both (both (both (both (both (both (both (both (both (both (both (both (both (both (both (both (both (both (both (both (both (both (both (both (both (both (both (both (both (both (both (c0) c1) c2) c3) c4) c5) c6) c7) c8) c9) c10) c11) c12) c13) c14) c15) c16) c17) c18) c19) c20) c21) c22) c23) c24) c25) c26) c27) c28) c29) c30) c31
theorem over : Rows.linesBackRow.holds Tryd.pinned (OpenSpec.ofChange Rows.linesBackSpec) :=
  OpenClaim.holds_of_wide 9 Tryd.f9 rfl rfl rfl rfl rfl rfl rfl ⟨rfl, rfl, rfl, rfl, rfl⟩ rfl rfl rfl rfl rfl (by kernel_rfl) Tryd.func9 closed
    (of_decide_eq_true (by kernel_rfl)) (by unfold Func.isWrapper; first | (rw [if_pos (by decide +kernel)]; kernel_rfl) | (rw [if_neg (by decide +kernel)]; exact ⟨rfl, rfl⟩))
    (fun os started H enc _ => lifted os started H enc)
end Go.Proofs.YtpkjpiphjdpegaaDoor.linesBack
namespace Go.Proofs.YtpkjpiphjdpegaaDoor
theorem linesBack_row_holds : Rows.LinesBackSaid := linesBack.over
theorem linesBack_holds : Rows.LinesBackCardSaid :=
  Claim7.holds_tied_plain_at .later [] [.data, .pinned] true (true, "8ed4f517d9b640979c9642b29f1471ad540af19eb7dd2a85df80f51153cdfa49") false
    linesBack_row_holds (fun _ h => by cases h) (by kernel_rfl) (fun _ h => by cases h) linesBack_row_tie rfl ⟨rfl, rfl⟩ Facts.mainIs rfl
    (fun f fn hf hfn => by
      obtain rfl : f = 9 := Option.some.inj ((show Tryd.prog.funcNamed "paymaster/paymasterlaw09.LinesBack" = some 9 by kernel_rfl).symm.trans hf) |>.symm
      obtain rfl : fn = Tryd.f9 := (Option.some.inj (Tryd.func9.symm.trans hfn)).symm
      exact ⟨by kernel_rfl, fun j t ht => by
        rw [Tryd.params9] at ht
        have hm : t ∈ [9, 51] := by simpa using Array.mem_of_getElem? ht
        have hall : ([9, 51].all fun u => !Tryd.prog.wantsStandIn u) = true := by kernel_rfl
        exact (show Tryd.prog.wantsStandIn t = false by simpa using List.all_eq_true.1 hall t hm)⟩)
    (by kernel_rfl)
end Go.Proofs.YtpkjpiphjdpegaaDoor
