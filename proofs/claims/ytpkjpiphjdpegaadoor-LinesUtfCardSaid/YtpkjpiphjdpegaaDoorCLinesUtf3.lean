/- A program of this session wrote this text out of the session's own texts. (part 3 of 3) -/
import Derived.Test.YtpkjpiphjdpegaaDoorCLinesUtf2
import Derived.Shelf.Unicode.ValidAny
import Derived.Lib.LaidU8T
import Derived.Ground.NamesProg
import Derived.Test.YtpkjpiphjdpegaaDoorProg
import Derived.Test.YtpkjpiphjdpegaaDoorRows
import Derived.Lay
import Derived.LaidMore
import Derived.Shelf.SlicesE.IndexFunc
import Derived.Ground.SlgfProg
import Derived.Shelf.Small.Utf8
import Derived.Lib.OthersKept
import Derived.Laws.Cover4
import Derived.Lib.ValidLaws
import Derived.Lib.TrimUEq
import Derived.Shelf.Strings.Search2
import Derived.Lib.IndexLaws
import Derived.Shelf.Abstract
import Derived.Shelf.RegionOpen
import Derived.WalkKit
import Derived.OwnWalkIn
import Derived.TacticsInMore
import Derived.LoopNIn
import Derived.LoopIn
import Derived.Maps.AppendAt
import Derived.Maps.OwnIn
import Derived.KernelRfl
import Derived.Test.YtpkjpiphjdpegaaDoorTie
import Derived.Test.YtpkjpiphjdpegaaDoorCards
import Derived.SevenTiedAt
import Derived.ProofKit
import Derived.OpenShut
import Derived.ShutString
import Derived.ChangeOld
import Derived.Below
import Derived.SizedLaws
namespace Go.Proofs.YtpkjpiphjdpegaaDoor.P
open Go.Shelf Go.RowKit
def sh_laysValid_ren : Go.Shelf.Ren := ⟨fun | 196 => 58 | 259 => 93 | n => n, fun | 9 => 9 | 4 => 4 | 3 => 3 | 5 => 5 | 12 => 12 | 119 => 134 | 0 => 0 | 46 => 138 | 139 => 137 | 138 => 136 | 53 => 40 | n => n, fun | 3 => 0 | 4 => 1 | n => n⟩
theorem sh_laysValid : Go.Proofs.Lays.n196 Tryd.prog sh_laysValid_ren := {
  mixed := by kernel_rfl
  f196 := Tryd.func58.trans (congrArg some (by kernel_rfl))
  f259 := Tryd.func93.trans (congrArg some (by kernel_rfl))
  t0 := Tryd.underlying0
  a0 := Tryd.isAgg0
  z0 := Tryd.sizeOf0
  v0 := Tryd.zeroValue0
  t3 := Tryd.underlying3
  a3 := Tryd.isAgg3
  z3 := Tryd.sizeOf3
  v3 := Tryd.zeroValue3
  t4 := Tryd.underlying4
  a4 := Tryd.isAgg4
  z4 := Tryd.sizeOf4
  v4 := Tryd.zeroValue4
  t5 := Tryd.underlying5
  a5 := Tryd.isAgg5
  z5 := Tryd.sizeOf5
  v5 := Tryd.zeroValue5
  t9 := Tryd.underlying9
  a9 := Tryd.isAgg9
  z9 := Tryd.sizeOf9
  v9 := Tryd.zeroValue9
  t12 := Tryd.underlying12
  a12 := Tryd.isAgg12
  z12 := Tryd.sizeOf12
  v12 := Tryd.zeroValue12
  t46 := Tryd.underlying138
  a46 := Tryd.isAgg138
  z46 := Tryd.sizeOf138
  v46 := Tryd.zeroValue138
  t53 := Tryd.underlying40
  a53 := Tryd.isAgg40
  z53 := Tryd.sizeOf40
  v53 := Tryd.zeroValue40
  t119 := Tryd.underlying134
  a119 := Tryd.isAgg134
  z119 := Tryd.sizeOf134
  t138 := Tryd.underlying136
  a138 := Tryd.isAgg136
  z138 := Tryd.sizeOf136
  v138 := Tryd.zeroValue136
  t139 := Tryd.underlying137
  a139 := Tryd.isAgg137
  z139 := Tryd.sizeOf137
  v139 := Tryd.zeroValue137
  g3 := by kernel_rfl
  g4 := by kernel_rfl }
theorem sh_u8Extra : U8Extra Tryd.prog sh_laysValid_ren := {
  n3 := by kernel_rfl
  n4 := by kernel_rfl
  y3 := by kernel_rfl
  y4 := by kernel_rfl
  c5 := by kernel_rfl
  c119 := by kernel_rfl
  c138 := by kernel_rfl }
end Go.Proofs.YtpkjpiphjdpegaaDoor.P
namespace Go.Proofs.YtpkjpiphjdpegaaDoor.P
open Go.Shelf Go.RowKit
def GT (w : World) : Prop := Lib.Utf8Tabs 0 1 w
theorem gt_below {w w' : World} (h : GT w) (b : Below w.heap.size w w') : GT w' := Utf8Tabs_below h b
theorem valid_is (s : ByteArray) (w : World) (hs : s.size ≤ 9223372036854775807) (hT : GT w) :
    Calls Tryd.prog 58 #[.string s] w fun e w' => e = .returned (.bool (Lib.validD s.data.toList)) ∧ Below w.heap.size w w' :=
  Any.utf8_ValidString sh_laysValid s w hs hT
end Go.Proofs.YtpkjpiphjdpegaaDoor.P
namespace Go.Proofs.YtpkjpiphjdpegaaDoor.P
open Go.Shelf Go.RowKit
set_option maxRecDepth 100000
def laid : List (String × DataW Unit) := [("unicode/utf8.acceptRanges", Rows.laid_unicode_utf8_acceptRanges), ("unicode/utf8.first", Rows.laid_unicode_utf8_first)]
theorem first_is : Rows.laid_unicode_utf8_first = Lib.firstData := by kernel_rfl
theorem accept_is : (Rows.laid_unicode_utf8_acceptRanges : DataW Unit) = Lib.acceptData := by kernel_rfl
theorem plain_is {W : World} : laidMetH Tryd.prog laid W = laidMet Tryd.prog laid W := MakeChecks.laidMetH_plain _ _ _ (by kernel_rfl)
theorem gt_of {W : World} (h : laidMetH Tryd.prog laid W) : GT W := by
  rw [plain_is] at h
  exact utf8Tabs_of_readsT (U8Types.of196 sh_laysValid) sh_u8Extra (first_is ▸ Lib.laidMet.reads h (.tail _ (.head _))) (accept_is ▸ Lib.laidMet.reads h (.head _))
theorem own : ownKnob Tryd.prog.godebug = none := by kernel_rfl
theorem laidOut : laidOutB Tryd.prog = true := by kernel_rfl
theorem laid_met (os : Os) (args : Array Value) : laidMetH Tryd.prog laid ((World.laidAll Tryd.prog os laid).forCall (fun _ _ => 0) ⟨#[], args, []⟩).memory := by
  rw [plain_is]
  exact laidMet_laidAll _ (by kernel_rfl) (by kernel_rfl)
end Go.Proofs.YtpkjpiphjdpegaaDoor.P
namespace Go.Proofs.YtpkjpiphjdpegaaDoor.P
open Go.Shelf Go.RowKit
def sh_lays119_ren : Go.Shelf.Ren := ⟨fun | 119 => 61 | n => n, fun | 21 => 21 | 4 => 4 | n => n, fun | n => n⟩
theorem sh_lays119 : Go.Proofs.Lays.n119 Tryd.prog sh_lays119_ren := {
  mixed := by kernel_rfl
  f119 := Tryd.func61.trans (congrArg some (by kernel_rfl))
  t4 := Tryd.underlying4
  a4 := Tryd.isAgg4
  z4 := Tryd.sizeOf4
  v4 := Tryd.zeroValue4
  t21 := Tryd.underlying21
  a21 := Tryd.isAgg21
  z21 := Tryd.sizeOf21
  v21 := Tryd.zeroValue21 }
theorem sh_utf8_ValidRune (r : Int) (w : World) :
    Calls Tryd.prog 61 #[.int .i32 r] w fun e w' => e = .returned (.bool (Lib.validRune r)) ∧ w' = w := Any.utf8_ValidRune sh_lays119 r w
def sh_laysSlH8_f62_ren : Go.Shelf.Ren := ⟨fun | 8 => 62 | 6 => 94 | n => n, fun | 22 => 22 | 23 => 21 | 25 => 99 | 4 => 4 | 3 => 3 | 0 => 0 | n => n, fun | n => n⟩
theorem sh_laysSlH8_f62 : Go.Proofs.SlLaysH.n8 Tryd.prog sh_laysSlH8_f62_ren := {
  mixed := by kernel_rfl
  f6 := ⟨Tryd.f94.name, by decide, Tryd.func94.trans (congrArg some (by kernel_rfl))⟩
  f8 := ⟨Tryd.f62.name, by decide, Tryd.func62.trans (congrArg some (by kernel_rfl))⟩
  t0 := Tryd.underlying0
  a0 := Tryd.isAgg0
  z0 := Tryd.sizeOf0
  v0 := Tryd.zeroValue0
  t3 := Tryd.underlying3
  a3 := Tryd.isAgg3
  z3 := Tryd.sizeOf3
  v3 := Tryd.zeroValue3
  t4 := Tryd.underlying4
  a4 := Tryd.isAgg4
  z4 := Tryd.sizeOf4
  v4 := Tryd.zeroValue4
  t22 := Tryd.underlying22
  a22 := Tryd.isAgg22
  z22 := Tryd.sizeOf22
  v22 := Tryd.zeroValue22
  a23 := Tryd.isAgg21
  z23 := Tryd.sizeOf21
  t25 := Tryd.underlying99
  a25 := Tryd.isAgg99
  z25 := Tryd.sizeOf99
  v25 := Tryd.zeroValue99 }
end Go.Proofs.YtpkjpiphjdpegaaDoor.P
namespace Go.Proofs.YtpkjpiphjdpegaaDoor.P
open Go.RowKit Go.Proofs.YtpkjpiphjdpegaaDoorW.PrintWords Go.Proofs.YtpkjpiphjdpegaaDoorW.PrintLast Go.Proofs.YtpkjpiphjdpegaaDoorW.PrintMore
set_option linter.unusedVariables false
set_option linter.unusedSimpArgs false
def runesAt (s : ByteArray) : Nat → Nat → List Int
  | 0, _ => []
  | n + 1, p => if p < s.size then ((Utf8.decode s p).1 : Int) :: runesAt s n (p + (Utf8.decode s p).2) else []
theorem runesAt_end (s : ByteArray) (n p : Nat) (h : ¬ p < s.size) : runesAt s n p = [] := by
  cases n with
  | zero => rfl
  | succ n => rw [runesAt, if_neg h]
def lines_Runes.f (a0 : ByteArray) : Option (List Int × Int) :=
  if a0.size ≤ 1000000000 then some (if Lib.validD a0.data.toList = true then (runesAt a0 a0.size 0, 0) else ([], 90)) else none
theorem wide_pos (s : ByteArray) (pos : Nat) (h : pos < s.size) : 1 ≤ (Utf8.decode s pos).2 := by
  by_cases ha : (s[pos]'h).toNat < 128
  · rw [decode_ascii s pos h ha]
    exact Nat.le_refl _
  · exact (decode_high s pos h (by omega)).2
theorem iter_grown (w : World) (k : Nat) (s : ByteArray) (p : Nat) : w.grownBy (w.iterAt k s p) (some k) :=
  ⟨rfl, rfl, rfl, by rw [Lib.iterAt_size]; exact Nat.le_refl _, fun j hj hk => Lib.iterAt_other w k j s p (fun e => hk (by rw [e]))⟩
set_option maxHeartbeats 8000000 in
set_option maxRecDepth 100000 in
theorem lines_Runes.calls (a0 : ByteArray) (r1 : List Int) (r2 : Int) (w : World) (hG : GT w) (h : lines_Runes.f a0 = some (r1, r2)) :
    Calls Tryd.prog 20 #[.string a0] w fun e w' => ∃ v0_ : Value, e = .returned (.tuple #[v0_, .int .i64 r2]) ∧ Kd.R (Kd.int .i32) 21 w' w.heap.size (fun _ => True) v0_ r1 ∧ Below w.heap.size w w' := by
  have hs : a0.size ≤ 1000000000 := by
    unfold lines_Runes.f at h
    split at h
    · assumption
    · cases h
  unfold lines_Runes.f at h
  rw [if_pos hs] at h
  have V := valid_is a0 w (by omega) hG
  by_cases b : Lib.validD a0.data.toList = true
  · rw [if_pos b] at h
    cases h
    rw [b] at V
    go_enter Tryd.func20, Tryd.ntmps20
    go_wp2_with (first | (go_at_call 58; (with_reducible refine V.mono ?_); rintro e W1 ⟨rfl, hb1⟩))
    have hwib : w.heap.size ≤ W1.heap.size := hb1.size
    go_loopg [4] a0.size (fun gk v4 wr => ∃ (x4 : List Int) (p : Nat), Aside0 (x4 ++ runesAt a0 gk p = runesAt a0 a0.size 0 ∧ x4.length ≤ p ∧ a0.size ≤ p + gk) ∧ wr.heap[W1.heap.size]? = some (.stringIter a0 p) ∧ Aside0 (Kd.R (Kd.int .i32) 21 wr w.heap.size (fun _ => True) v4 x4) ∧ Aside0 (Below w.heap.size w wr))
    case atStart =>
      refine ⟨[], 0, ⟨rfl, Nat.le_refl _, by omega⟩, ?_, ⟨Kd.R_nil _ _ _ _ _⟩, ⟨?_⟩⟩
      · exact World.iter_heap W1 a0 0
      · exact below_alloc hb1 _
    case round =>
      obtain ⟨x4, p, HX, hit, HO, HB⟩ := hrel
      have hlt : W1.heap.size < wr.heap.size := (Array.getElem?_eq_some_iff.1 hit).1
      by_cases hp : p < a0.size
      · have hnx : ∀ ty, (Instr.next (.pointer (some ⟨W1.heap.size, 0, none⟩)) true ty).run Tryd.prog wr = _ := fun ty => Lib.run_next_any_at wr W1.heap.size a0 p ty hit hp
        have hwd := wide_pos a0 p hp
        obtain ⟨k1, rfl⟩ : ∃ k1, gk = k1 + 1 := ⟨gk - 1, by have := HX.out.2.2; omega⟩
        have hne : some W1.heap.size ≠ u4.ownBlock := fun e => by
          obtain ⟨cells, hc⟩ := Kd.R_typed HO.out W1.heap.size e.symm
          rw [hit] at hc
          cases hc
        obtain ⟨W2, hW2⟩ : ∃ W2, wr.iterAt W1.heap.size a0 (p + (Utf8.decode a0 p).2) = W2 := ⟨_, rfl⟩
        have HO2 : Aside0 (Kd.R (Kd.int .i32) 21 W2 w.heap.size (fun _ => True) u4 x4) := ⟨by rw [← hW2]; exact Kd.R_grown2 HO.out rfl (iter_grown wr W1.heap.size a0 _) (fun k e => by cases e; exact hne)⟩
        have HB2 : Aside0 (Below w.heap.size w W2) := ⟨by rw [← hW2]; exact Lib.below_iterAt HB.out hwib a0 _⟩
        have hit2 : W2.heap[W1.heap.size]? = some (.stringIter a0 (p + (Utf8.decode a0 p).2)) := by rw [← hW2]; exact Lib.iterAt_heap wr W1.heap.size a0 p _ hit
        rw [hW2] at hnx
        have hx : x4.length ≤ 1000000000 := by have := HX.out.2.1; omega
        go_wp2_with (first | ((with_reducible refine gate_builtin (b := .append) (xs := #[.tmp 15, .tmp 17]) rfl ?_); at_builtin; refine Kd.R_append (Kd.int .i32) (w0 := w) w.heap.size rfl (.tmp 15) (.tmp 17) 22 21 (.int .i32 0) 4 rfl Tryd.underlying22 info21 rfl (by decide) (by omega) u4 x4 ((Utf8.decode a0 p).1 : Int) [.int .i32 ((Utf8.decode a0 p).1 : Int)] (fun _ => True) (fun _ => False) rfl rfl ?aP (fun _ hk => hk.elim) ?aF ?aO ?aB ?aS ?aL ?_; (case aP => exact rfl); (case aB => exact HB2.out); (case aF => exact (fun _ _ => trivial)); (case aO => exact HO2.out); (case aS => exact (below_size HB2.out)); (case aL => omega); intro v111 w6 ho hb hg hat))
        go_roundg k1
        case measure => omega
        case rel =>
          refine ⟨x4 ++ [((Utf8.decode a0 p).1 : Int)], p + (Utf8.decode a0 p).2, ⟨?_, ?_, ?_⟩, ?_, ⟨ho⟩, ⟨hb⟩⟩
          · rw [← HX.out.1, runesAt, if_pos hp, List.append_assoc]; rfl
          · have := HX.out.2.1; simp; omega
          · have := HX.out.2.2; omega
          · rw [hg.block W1.heap.size (by have := (Array.getElem?_eq_some_iff.1 hit2).1; exact this) hne]; exact hit2
      · have hnx : ∀ ty, (Instr.next (.pointer (some ⟨W1.heap.size, 0, none⟩)) true ty).run Tryd.prog wr = _ := fun ty => Lib.run_next_end_at wr W1.heap.size a0 p ty hit hp
        have e : x4 = runesAt a0 a0.size 0 := by have := HX.out.1; rw [runesAt_end a0 gk p hp, List.append_nil] at this; exact this
        go_wp2
        go_ret2
        exact ⟨_, rfl, by rw [← e]; exact HO.out, HB.out⟩
  · have b : Lib.validD a0.data.toList = false := by simpa using b
    rw [if_neg (by rw [b]; decide)] at h
    cases h
    rw [b] at V
    go_enter Tryd.func20, Tryd.ntmps20
    go_wp2_with (first | (go_at_call 58; (with_reducible refine V.mono ?_); rintro e W1 ⟨rfl, hb1⟩))
    go_ret2
    exact ⟨_, rfl, Kd.R_nil _ _ _ _ _, hb1⟩
theorem cell_lt {w : World} {a : Addr} {v : Value} (h : w.cell? a = some v) : a.block < w.heap.size ∧ a.spot = none := by
  unfold World.cell? at h
  split at h
  · rename_i c _ _ e
    refine ⟨(Array.getElem?_eq_some_iff.1 e).1, ?_⟩
    by_cases q : a.spot.isSome = true
    · rw [if_pos q] at h; cases h
    · simpa using q
  · cases h
theorem ints_in {w : World} {A : Option Addr} {xs : List Int} (h : Kd.C (Kd.int .i32) w A xs.length xs) (hn : 0 < xs.length) : ∃ b off, A = some ⟨b, off, none⟩ ∧ b < w.heap.size ∧ ∀ j, j < xs.length → w.cell? ⟨b, off + j, none⟩ = some (.int .i32 xs[j]!) := by
  obtain ⟨ad, rfl, h0⟩ := Kd.at_int h 0 (by omega) (by omega)
  rw [show (0 : Int).toNat = 0 from rfl] at h0
  have e0 : ad.add 0 = ad := rfl
  rw [e0] at h0
  obtain ⟨q1, q2⟩ := cell_lt h0
  obtain ⟨b, off, sp⟩ := ad
  have q2' : sp = none := q2
  subst q2'
  refine ⟨b, off, rfl, q1, fun j hj => ?_⟩
  obtain ⟨ad', e', h1⟩ := Kd.at_int h (j : Int) (by omega) (by omega)
  obtain rfl := Option.some.inj e'
  have ea : (⟨b, off, none⟩ : Addr).add j = ⟨b, off + j, none⟩ := by
    unfold Addr.add
    by_cases z : j = 0
    · rw [if_pos z, z]; rfl
    · rw [if_neg z]
  rw [Int.toNat_natCast, ea] at h1
  rw [h1]
  unfold rd
  rw [Int.toNat_natCast, List.getElem!_eq_getElem?_getD, List.getD_eq_getElem?_getD]
  rfl
def oddR (c : Int) : Bool := !Lib.validRune c
theorem odd_at (w : World) : Go.Proofs.PredAt Tryd.prog 60 #[] (Value.int .i32) oddR w := fun W r _ => by
  unfold FnGives
  have C := sh_utf8_ValidRune r W
  obtain ⟨b, hb⟩ : ∃ b, Lib.validRune r = b := ⟨_, rfl⟩
  rw [hb] at C
  go_enter Tryd.func60, Tryd.ntmps60
  go_wp2_with (first | (go_at_call 61; (with_reducible refine C.mono ?_); rintro e w' ⟨rfl, rfl⟩))
  go_ret
  exact ⟨by unfold oddR; rw [hb]; rfl, 0, rfl⟩
def lines_Text.f (l0 : List Int) : Option (ByteArray × Int) :=
  if l0.length ≤ 1000000000 then some (if l0.any oddR = true then ((⟨#[]⟩ : ByteArray), 90) else (runesBytes l0, 0)) else none
set_option maxHeartbeats 8000000 in
set_option maxRecDepth 100000 in
theorem lines_Text.calls (A0 : Option Addr) (c0 : Nat) (l0 : List Int) (r1 : ByteArray) (r2 : Int) (w : World) (hr0 : Kd.C (Kd.int .i32) w A0 l0.length l0) (hc0 : l0.length ≤ c0) (h : lines_Text.f l0 = some (r1, r2)) :
    Calls Tryd.prog 22 #[.slice A0 l0.length c0] w fun e w' => e = .returned (.tuple #[.string r1, .int .i64 r2]) ∧ Below w.heap.size w w' := by
  have hs : l0.length ≤ 1000000000 := by
    unfold lines_Text.f at h
    split at h
    · assumption
    · cases h
  unfold lines_Text.f at h
  rw [if_pos hs] at h
  have eg := enters_of Tryd.func60 (by kernel_rfl) rfl
  have CC : Calls Tryd.prog 62 #[.slice A0 l0.length c0, .func (.func 60) #[] #[]] w fun e w' => e = .returned (.bool (l0.any oddR)) ∧ ∃ q, w' = w.drewN q := by
    by_cases z : 0 < l0.length
    · obtain ⟨b, off, rfl, hb, hc⟩ := ints_in hr0 z
      have := Go.Proofs.AnyE.slices_ContainsFunc sh_laysSlH8_f62 (Value.int .i32) oddR 60 #[] eg b off l0.length c0 l0 w (odd_at w) (Nat.le_refl _) (by omega) hc
      rw [List.take_length] at this
      exact this
    · have e : l0 = [] := List.eq_nil_of_length_eq_zero (by omega)
      subst e
      refine (Go.Proofs.AnyE.slices_ContainsFunc_empty sh_laysSlH8_f62 A0 c0 (.func (.func 60) #[] #[]) w).mono ?_
      rintro e w' ⟨rfl, rfl⟩
      exact ⟨rfl, 0, rfl⟩
  have KK : ∀ q, (convert 22 9 (.slice A0 l0.length c0)).run Tryd.prog (w.drewN q) = .ok (.string (runesBytes l0)) (w.drewN q) := by
    intro q
    by_cases z : 0 < l0.length
    · obtain ⟨b, off, rfl, hb, hc⟩ := ints_in hr0 z
      have := run_convert_runes (P := Tryd.prog) (w.drewN q) 22 9 21 ⟨b, off, none⟩ l0.length c0 l0 (Nat.le_refl _) Tryd.underlying22 Tryd.underlying21 Tryd.underlying9 (fun j hj => by
        have ea : (⟨b, off, none⟩ : Addr).add j = ⟨b, off + j, none⟩ := by
          unfold Addr.add
          by_cases z : j = 0
          · rw [if_pos z, z]; rfl
          · rw [if_neg z]
        rw [ea]
        have := hc j hj
        rw [List.getElem!_eq_getElem?_getD] at this
        rw [List.getD_eq_getElem?_getD]
        exact this)
      rw [List.take_length] at this
      exact this
    · have e : l0 = [] := List.eq_nil_of_length_eq_zero (by omega)
      subst e
      cases A0 with
      | none => exact run_convert_runes_nil (P := Tryd.prog) (w.drewN q) 22 9 21 0 c0 Tryd.underlying22 Tryd.underlying21 Tryd.underlying9
      | some ad => exact run_convert_runes (P := Tryd.prog) (w.drewN q) 22 9 21 ad 0 c0 [] (Nat.le_refl _) Tryd.underlying22 Tryd.underlying21 Tryd.underlying9 (fun j hj => absurd hj (Nat.not_lt_zero _))
  by_cases b : l0.any oddR = true
  · rw [if_pos b] at h
    cases h
    rw [b] at CC
    go_enter Tryd.func22, Tryd.ntmps22
    go_wp2_with (first | (go_at_call 62; (with_reducible refine CC.mono ?_); rintro e w' ⟨rfl, q, rfl⟩))
    go_ret2
    exact ⟨rfl, pw_below_drewN (Below.refl _ w) q⟩
  · have b : l0.any oddR = false := by simpa using b
    rw [if_neg (by rw [b]; decide)] at h
    cases h
    rw [b] at CC
    go_enter Tryd.func22, Tryd.ntmps22
    go_wp2_with (first | (go_at_call 62; (with_reducible refine CC.mono ?_); rintro e w' ⟨rfl, q, rfl⟩; have K1 := KK q))
    go_ret2
    exact ⟨rfl, pw_below_drewN (Below.refl _ w) q⟩
end Go.Proofs.YtpkjpiphjdpegaaDoor.P
namespace Go.Proofs.YtpkjpiphjdpegaaDoor.P
open Go.RowKit Go.Proofs.YtpkjpiphjdpegaaDoorW.PrintWords Go.Proofs.YtpkjpiphjdpegaaDoorW.PrintLast Go.Proofs.YtpkjpiphjdpegaaDoorW.PrintMore
attribute [local go_sem] max2_int min2_int max_two min_two max_three min_three max_four min_four
set_option linter.unusedVariables false
set_option linter.unusedSimpArgs false
def paymasterref09_SameRunes.l0 : Nat → List Int → List Int → Int → Option (Bool)
  | 0, _, _, _ => none
  | k + 1, x0, x1, x5 => if x5 < (x0.length : Int) then (if 0 ≤ x5 then (if x5 < (x1.length : Int) then (if (rd x0 x5) = (rd x1 x5) then (paymasterref09_SameRunes.l0 k x0 x1 (wrap64 (x5 + 1))) else (some false)) else (none)) else (none)) else (some true)
def paymasterref09_SameRunes.f (k : Nat) (l0 : List Int) (l1 : List Int) : Option (Bool) := if (l0.length : Int) = (l1.length : Int) then (paymasterref09_SameRunes.l0 k l0 l1 0) else (some false)
theorem paymasterref09_SameRunes.mono_l : ∀ k, (∀ y0 y1 y2, LeO (paymasterref09_SameRunes.l0 k y0 y1 y2) (paymasterref09_SameRunes.l0 (k + 1) y0 y1 y2))
  | 0 => fun _ _ _ r h => by simp [paymasterref09_SameRunes.l0] at h
  | k + 1 => by
    have ih0 := paymasterref09_SameRunes.mono_l k
    · intro y0 y1 y2
      unfold paymasterref09_SameRunes.l0
      repeat' first
      | (with_reducible exact ih0 _ _ _)
      | (with_reducible exact LeO.refl _)
      | (with_reducible exact LeO.none _)
      | (with_reducible refine LeO.ite ?_ ?_)
      | (with_reducible refine LeO.bind ?_ (fun _ => ?_))
      | exact ih0 _ _ _
      | exact LeO.none _
      | refine LeO.ite ?_ ?_
      | refine LeO.bind ?_ (fun _ => ?_)
theorem paymasterref09_SameRunes.mono : ∀ a0 a1 k, LeO (paymasterref09_SameRunes.f k a0 a1) (paymasterref09_SameRunes.f (k + 1) a0 a1) := by
  intro a0 a1 k
  have ih0 := paymasterref09_SameRunes.mono_l k
  unfold paymasterref09_SameRunes.f
  repeat' first
      | (with_reducible exact ih0 _ _ _)
      | (with_reducible exact LeO.refl _)
      | (with_reducible exact LeO.none _)
      | (with_reducible refine LeO.ite ?_ ?_)
      | (with_reducible refine LeO.bind ?_ (fun _ => ?_))
      | exact ih0 _ _ _
      | exact LeO.none _
      | refine LeO.ite ?_ ?_
      | refine LeO.bind ?_ (fun _ => ?_)
set_option maxHeartbeats 8000000 in
set_option maxRecDepth 100000 in
theorem paymasterref09_SameRunes.calls (k : Nat) (A0 : Option Addr) (c0 : Nat) (l0 : List Int) (A1 : Option Addr) (c1 : Nat) (l1 : List Int) (r : Bool) (w : World) (hr0 : Kd.C (Kd.int .i32) w A0 l0.length l0) (hc0 : l0.length ≤ c0) (hr1 : Kd.C (Kd.int .i32) w A1 l1.length l1) (hc1 : l1.length ≤ c1) (h : paymasterref09_SameRunes.f k l0 l1 = some r) :
    Calls Tryd.prog 24 #[.slice A0 l0.length c0, .slice A1 l1.length c1] w fun e w' => e = .returned (.bool r) ∧ Drawn0 w w' := by
  have HR0 := Aside0.mk hr0
  have HC0 := Aside0.mk hc0
  clear hr0 hc0
  have HR1 := Aside0.mk hr1
  have HC1 := Aside0.mk hc1
  clear hr1 hc1
  have H : (if (l0.length : Int) = (l1.length : Int) then (paymasterref09_SameRunes.l0 k l0 l1 0) else (some false)) = some r := h
  clear h
  by_cases c3 : (l0.length : Int) = (l1.length : Int)
  · rw [if_pos c3] at H
    have c3b0 : ((l0.length : Int) == (l1.length : Int)) = true := beq_iff_eq.mpr c3
    have c3b1 : ((l0.length : Int) != (l1.length : Int)) = false := bne_eq_false_iff_eq.mpr c3
    have c3b2 : (l0.length == l1.length) = true := by first | simpa using c3 | (simp at c3 ⊢; omega)
    clear c3
    have H' := Aside0.mk H
    clear H
    go_enter Tryd.func24, Tryd.ntmps24
    go_wp2
    repeat (go_quiet (fail); try go_wp2)
    go_loopg [5] k (fun kq v5 w' => ∃ (x5_1 : Int), v5 = .int .i64 x5_1 ∧ Aside0 (paymasterref09_SameRunes.l0 kq l0 l1 x5_1 = some r) ∧ Aside0 (kq ≤ k) ∧ Drawn0 w w')
    case atStart => exact ⟨(0), (by first | rfl | (simp; done) | (simp [*]; done)), H', ⟨Nat.le_refl _⟩, by repeat (first | exact Drawn0.refl _ | apply Drawn0.step)⟩
    case round =>
      clear H'
      try clear c1
      try clear c2
      try clear p2
      try clear c3
      try clear c3b0
      try clear c3b1
      try clear c3b2
      obtain ⟨x5_1, rfl, HA, HK1, ⟨m1, rfl⟩⟩ := hrel
      cases gk with
      | zero => exact absurd HA.out (by simp [paymasterref09_SameRunes.l0])
      | succ k1 =>
        have H := HA.out
        clear HA
        simp only [paymasterref09_SameRunes.l0] at H
        by_cases c4 : x5_1 < (l0.length : Int)
        · rw [if_pos c4] at H
          have c4b0 : decide (x5_1 < (l0.length : Int)) = true := decide_eq_true c4
          clear c4
          by_cases c5 : 0 ≤ x5_1
          · rw [if_pos c5] at H
            have c5b0 : decide (0 ≤ x5_1) = true := decide_eq_true c5
            clear c5
            by_cases c6 : x5_1 < (l1.length : Int)
            · rw [if_pos c6] at H
              have c6b0 : decide (x5_1 < (l1.length : Int)) = true := decide_eq_true c6
              clear c6
              by_cases c7 : (rd l0 x5_1) = (rd l1 x5_1)
              · rw [if_pos c7] at H
                have c7b0 : ((rd l0 x5_1) == (rd l1 x5_1)) = true := beq_iff_eq.mpr c7
                have c7b1 : ((rd l0 x5_1) != (rd l1 x5_1)) = false := bne_eq_false_iff_eq.mpr c7
                clear c7
                have H' := Aside0.mk H
                clear H
                have p135 : 0 ≤ (x5_1 : Int) := of_decide_eq_true (by first | (with_reducible assumption) | assumption)
                have q135 : x5_1 < (l0.length : Int) := of_decide_eq_true (by first | (with_reducible assumption) | assumption)
                obtain ⟨ad135, e135, hx135_0⟩ := Kd.at_int HR0.out x5_1 p135 q135
                cases e135
                replace p135 := eq_true p135
                replace q135 := eq_true q135
                have p136 : 0 ≤ (x5_1 : Int) := of_decide_eq_true (by first | (with_reducible assumption) | assumption)
                have q136 : x5_1 < (l1.length : Int) := of_decide_eq_true (by first | (with_reducible assumption) | assumption)
                obtain ⟨ad136, e136, hx136_0⟩ := Kd.at_int HR1.out x5_1 p136 q136
                cases e136
                replace p136 := eq_true p136
                replace q136 := eq_true q136
                go_wp2
                repeat (go_quiet (fail); try go_wp2)
                go_roundg k1
                case measure => have := HK1.out; omega
                case rel => exact ⟨(wrap64 (x5_1 + 1)), (by first | rfl | (simp; done) | (simp [*]; done)), H', ⟨by have := HK1.out; omega⟩, by repeat (first | exact Drawn0.refl _ | apply Drawn0.step)⟩
              · rw [if_neg c7] at H
                have c7b0 : ((rd l0 x5_1) == (rd l1 x5_1)) = false := beq_eq_false_iff_ne.mpr c7
                have c7b1 : ((rd l0 x5_1) != (rd l1 x5_1)) = true := bne_iff_ne.mpr c7
                obtain rfl := Option.some.inj H
                have p135 : 0 ≤ (x5_1 : Int) := of_decide_eq_true (by first | (with_reducible assumption) | assumption)
                have q135 : x5_1 < (l0.length : Int) := of_decide_eq_true (by first | (with_reducible assumption) | assumption)
                obtain ⟨ad135, e135, hx135_0⟩ := Kd.at_int HR0.out x5_1 p135 q135
                cases e135
                replace p135 := eq_true p135
                replace q135 := eq_true q135
                have p136 : 0 ≤ (x5_1 : Int) := of_decide_eq_true (by first | (with_reducible assumption) | assumption)
                have q136 : x5_1 < (l1.length : Int) := of_decide_eq_true (by first | (with_reducible assumption) | assumption)
                obtain ⟨ad136, e136, hx136_0⟩ := Kd.at_int HR1.out x5_1 p136 q136
                cases e136
                replace p136 := eq_true p136
                replace q136 := eq_true q136
                go_wp2
                repeat (go_quiet (fail); try go_wp2)
                go_ret
                exact ⟨by first | rfl | (simp; done) | (simp [*]; done), by repeat (first | exact Drawn0.refl _ | apply Drawn0.step)⟩
            · rw [if_neg c6] at H
              exact absurd H (by simp)
          · rw [if_neg c5] at H
            exact absurd H (by simp)
        · rw [if_neg c4] at H
          have c4b0 : decide (x5_1 < (l0.length : Int)) = false := decide_eq_false c4
          clear c4
          obtain rfl := Option.some.inj H
          go_wp2
          repeat (go_quiet (fail); try go_wp2)
          go_ret
          exact ⟨by first | rfl | (simp; done) | (simp [*]; done), by repeat (first | exact Drawn0.refl _ | apply Drawn0.step)⟩
  · rw [if_neg c3] at H
    have c3b0 : ((l0.length : Int) == (l1.length : Int)) = false := beq_eq_false_iff_ne.mpr c3
    have c3b1 : ((l0.length : Int) != (l1.length : Int)) = true := bne_iff_ne.mpr c3
    have c3b2 : (l0.length == l1.length) = false := by first | simpa using c3 | (simp at c3 ⊢; omega)
    obtain rfl := Option.some.inj H
    go_enter Tryd.func24, Tryd.ntmps24
    go_wp2
    repeat (go_quiet (fail); try go_wp2)
    go_ret
    exact ⟨by first | rfl | (simp; done) | (simp [*]; done), by repeat (first | exact Drawn0.refl _ | apply Drawn0.step)⟩
end Go.Proofs.YtpkjpiphjdpegaaDoor.P
namespace Go.Proofs.YtpkjpiphjdpegaaDoor.P
open Go.RowKit Go.Proofs.YtpkjpiphjdpegaaDoorW.PrintWords Go.Proofs.YtpkjpiphjdpegaaDoorW.PrintLast Go.Proofs.YtpkjpiphjdpegaaDoorW.PrintMore
set_option linter.unusedVariables false
set_option linter.unusedSimpArgs false
theorem valid_at (s : ByteArray) (p : Nat) (hp : p < s.size) : Lib.validD (s.data.toList.drop p) = if badAt s p then false else Lib.validD (s.data.toList.drop (p + (Utf8.decode s p).2)) := by
  have hl : s.data.toList.length = s.size := by simp
  rw [Lib.validD_step _ (by intro e; have := congrArg List.length e; rw [List.length_drop, hl] at this; simp at this; omega), Lib.decodeL_drop, List.drop_drop]
theorem valid_end (s : ByteArray) (p : Nat) (hp : ¬ p < s.size) : Lib.validD (s.data.toList.drop p) = true := by
  have hl : s.data.toList.length = s.size := by simp
  rw [List.drop_eq_nil_of_le (by rw [hl]; omega), Lib.validD_nil]
theorem wide_4 (s : ByteArray) (p : Nat) : (Utf8.decode s p).2 ≤ 4 := by
  rw [dec_is]
  repeat' split
  all_goals simp
theorem same_loop (l : List Int) (hl : l.length ≤ 1000000000) : ∀ (n p : Nat), l.length ≤ p + n → p ≤ l.length → paymasterref09_SameRunes.l0 (n + 1) l l p = some true
  | 0, p, h, h' => by rw [paymasterref09_SameRunes.l0, if_neg (by omega)]
  | n + 1, p, h, h' => by
    by_cases hp : p < l.length
    · rw [paymasterref09_SameRunes.l0, if_pos (by omega), if_pos (by omega), if_pos (by omega), if_pos rfl]
      have wp : wrap64 ((p : Int) + 1) = ((p + 1 : Nat) : Int) := by rw [wrap64_in _ (by omega)]; push_cast; rfl
      rw [wp, same_loop l hl n (p + 1) (by omega) (by omega)]
    · rw [paymasterref09_SameRunes.l0, if_neg (by omega)]
theorem same_is (l : List Int) (hl : l.length ≤ 1000000000) : paymasterref09_SameRunes.f (l.length + 1) l l = some true := by
  unfold paymasterref09_SameRunes.f
  rw [if_pos rfl]
  exact same_loop l hl l.length 0 (by omega) (by omega)
def enc (c : Int) : List Int := nb (Utf8.encode c)
theorem nb_append (a b : ByteArray) : nb (a ++ b) = nb a ++ nb b := by
  unfold nb
  rw [ByteArray.data_append, Array.toList_append, List.map_append]
theorem runes_fold (l : List Int) : ∀ b : ByteArray, nb (l.foldl (fun r n => r ++ Utf8.encode n) b) = nb b ++ l.flatMap enc := by
  induction l with
  | nil => intro b; simp
  | cons c l ih => intro b; rw [List.foldl_cons, ih, nb_append, List.flatMap_cons, List.append_assoc]; rfl
theorem runesBytes_is (l : List Int) : runesBytes l = strOfNums (l.flatMap enc) := by
  rw [← nb_str (runesBytes l)]
  unfold runesBytes
  rw [runes_fold]
  rfl
theorem odd_is (c : Int) : oddR c = decide (c < 0 ∨ c > 1114111 ∨ (c ≥ 55296 ∧ c < 57344)) := by
  unfold oddR Lib.validRune
  by_cases h : (0 ≤ c ∧ c < 0xD800) ∨ (0xDFFF < c ∧ c ≤ 0x10FFFF)
  · rw [decide_eq_true h, decide_eq_false (by omega)]; rfl
  · rw [decide_eq_false h, decide_eq_true (by omega)]; rfl
theorem nb_mk (a : Array UInt8) : nb ⟨a⟩ = a.toList.map fun x => (x.toNat : Int) := rfl
theorem byte_of (n : Nat) (h : n < 256) : (((UInt8.ofNat n).toNat : Nat) : Int) = (n : Int) := by
  rw [UInt8.toNat_ofNat_of_lt' (by show n < 256; exact h)]
theorem enc_1 (c : Nat) (h : c < 128) : enc (c : Int) = [(c : Int)] := by
  unfold enc Utf8.encode
  have v : Utf8.valid (c : Int) = true := by unfold Utf8.valid; simp; omega
  simp only [v, if_true, Int.toNat_natCast]
  rw [if_pos h, nb_mk]
  simp only [List.map_cons, List.map_nil]
  rw [byte_of _ (by omega)]
theorem enc_2 (c : Nat) (h0 : 128 ≤ c) (h : c < 2048) : enc (c : Int) = [((192 + c / 64 : Nat) : Int), ((128 + c % 64 : Nat) : Int)] := by
  unfold enc Utf8.encode
  have v : Utf8.valid (c : Int) = true := by unfold Utf8.valid; simp; omega
  simp only [v, if_true, Int.toNat_natCast]
  rw [if_neg (by omega), if_pos h, nb_mk]
  simp only [List.map_cons, List.map_nil]
  rw [byte_of _ (by omega), byte_of _ (by omega)]
theorem enc_3 (c : Nat) (h0 : 2048 ≤ c) (h : c < 65536) (hv : ¬ (c ≥ 55296 ∧ c < 57344)) : enc (c : Int) = [((224 + c / 4096 : Nat) : Int), ((128 + c / 64 % 64 : Nat) : Int), ((128 + c % 64 : Nat) : Int)] := by
  unfold enc Utf8.encode
  have v : Utf8.valid (c : Int) = true := by unfold Utf8.valid; simp; omega
  simp only [v, if_true, Int.toNat_natCast]
  rw [if_neg (by omega), if_neg (by omega), if_pos h, nb_mk]
  simp only [List.map_cons, List.map_nil]
  rw [byte_of _ (by omega), byte_of _ (by omega), byte_of _ (by omega)]
theorem enc_4 (c : Nat) (h0 : 65536 ≤ c) (h : c ≤ 1114111) : enc (c : Int) = [((240 + c / 262144 : Nat) : Int), ((128 + c / 4096 % 64 : Nat) : Int), ((128 + c / 64 % 64 : Nat) : Int), ((128 + c % 64 : Nat) : Int)] := by
  unfold enc Utf8.encode
  have v : Utf8.valid (c : Int) = true := by unfold Utf8.valid; simp; omega
  simp only [v, if_true, Int.toNat_natCast]
  rw [if_neg (by omega), if_neg (by omega), if_neg (by omega), nb_mk]
  simp only [List.map_cons, List.map_nil]
  rw [byte_of _ (by omega), byte_of _ (by omega), byte_of _ (by omega), byte_of _ (by omega)]
end Go.Proofs.YtpkjpiphjdpegaaDoor.P
namespace Go.Proofs.YtpkjpiphjdpegaaDoor.P
open Go.RowKit Go.Proofs.YtpkjpiphjdpegaaDoorW.PrintWords Go.Proofs.YtpkjpiphjdpegaaDoorW.PrintLast Go.Proofs.YtpkjpiphjdpegaaDoorW.PrintMore
set_option linter.unusedVariables false
set_option linter.unusedSimpArgs false
theorem up {β : Type} {F : Nat → Option β} (m : ∀ k, LeO (F k) (F (k + 1))) {a : Nat} {r : β} (h : F a = some r) : ∀ b, a ≤ b → F b = some r := by
  intro b hb
  induction b with
  | zero =>
    obtain rfl : a = 0 := by omega
    exact h
  | succ b ih =>
    by_cases e : a = b + 1
    · rw [← e]; exact h
    · exact m b r (ih (by omega))
theorem same_up (l : List Int) (hl : l.length ≤ 1000000000) (k : Nat) (hk : l.length + 1 ≤ k) : paymasterref09_SameRunes.f k l l = some true :=
  up (F := fun k => paymasterref09_SameRunes.f k l l) (paymasterref09_SameRunes.mono l l) (same_is l hl) k hk
end Go.Proofs.YtpkjpiphjdpegaaDoor.P
namespace Go.Proofs.YtpkjpiphjdpegaaDoor.P
open Go.RowKit Go.Proofs.YtpkjpiphjdpegaaDoorW.PrintWords Go.Proofs.YtpkjpiphjdpegaaDoorW.PrintLast Go.Proofs.YtpkjpiphjdpegaaDoorW.PrintMore
set_option linter.unusedVariables false
set_option linter.unusedSimpArgs false
theorem nb_at (s : ByteArray) (p : Nat) (h : p < s.size) : (nb s).drop p = (nbAt s p : Int) :: (nb s).drop (p + 1) := by
  have hl : p < (nb s).length := by rw [nb_length]; exact h
  rw [List.drop_eq_getElem_cons hl]
  congr 1
  rw [← bt_nbAt s p h, bt_nb, List.getD_eq_getElem?_getD, List.getElem?_eq_getElem hl]
  rfl
theorem cont_is (s : ByteArray) (p : Nat) (h : contAt s p = true) : p < s.size ∧ nbAt s p / 64 = 2 := by
  unfold contAt at h
  simpa using h
theorem odd_false (c : Int) (h : ¬ (c < 0 ∨ c > 1114111 ∨ (c ≥ 55296 ∧ c < 57344))) : oddR c = false := by rw [odd_is, decide_eq_false h]
theorem valid_is' (c : Nat) (h : Utf8.valid (c : Int) = true) : c < 55296 ∨ (57344 ≤ c ∧ c ≤ 1114111) := by
  unfold Utf8.valid at h
  simp at h
  omega
def GoodStep (s : ByteArray) (p : Nat) (d : Nat × Nat) : Prop :=
  oddR (d.1 : Int) = false ∧ (nb s).drop p = enc (d.1 : Int) ++ (nb s).drop (p + d.2) ∧ (enc (d.1 : Int)).length = d.2
set_option maxRecDepth 10000 in
theorem dec_good (s : ByteArray) (p : Nat) (hp : p < s.size) (hb : ¬ badAt s p) : GoodStep s p (Utf8.decode s p) := by
  unfold badAt at hb
  have hlt := nbAt_lt s p
  have n1 := nbAt_lt s (p + 1); have n2 := nbAt_lt s (p + 2); have n3 := nbAt_lt s (p + 3)
  have d0 := nb_at s p hp
  rw [dec_is] at hb ⊢
  by_cases c1 : nbAt s p < 0x80
  · rw [if_pos c1]
    exact ⟨odd_false _ (by simp; omega), by rw [enc_1 _ c1, d0]; rfl, by rw [enc_1 _ c1]; rfl⟩
  · rw [if_neg c1] at hb ⊢
    by_cases c2 : (nbAt s p / 32 == 6 && contAt s (p + 1)) = true
    · rw [if_pos c2] at hb ⊢
      simp only [Bool.and_eq_true, beq_iff_eq] at c2
      obtain ⟨c2, q1⟩ := c2
      obtain ⟨l1, e1⟩ := cont_is s _ q1
      have d1 := nb_at s (p + 1) l1
      by_cases c3 : (nbAt s p % 32) * 64 + nbAt s (p + 1) % 64 ≥ 0x80
      · rw [if_pos c3]
        have e := enc_2 ((nbAt s p % 32) * 64 + nbAt s (p + 1) % 64) c3 (by omega)
        refine ⟨odd_false _ (by simp; omega), ?_, by rw [e]; rfl⟩
        rw [e, d0, d1]
        rw [show 192 + ((nbAt s p % 32) * 64 + nbAt s (p + 1) % 64) / 64 = nbAt s p by omega, show 128 + ((nbAt s p % 32) * 64 + nbAt s (p + 1) % 64) % 64 = nbAt s (p + 1) by omega]
        rfl
      · rw [if_neg c3] at hb
        exact absurd ⟨rfl, rfl⟩ hb
    · rw [if_neg c2] at hb ⊢
      by_cases c4 : (nbAt s p / 16 == 14 && contAt s (p + 1) && contAt s (p + 2)) = true
      · rw [if_pos c4] at hb ⊢
        simp only [Bool.and_eq_true, beq_iff_eq] at c4
        obtain ⟨⟨c4, q1⟩, q2⟩ := c4
        obtain ⟨l1, e1⟩ := cont_is s _ q1
        obtain ⟨l2, e2⟩ := cont_is s _ q2
        have d1 := nb_at s (p + 1) l1
        have d2 := nb_at s (p + 2) l2
        by_cases c5 : (decide ((nbAt s p % 16) * 4096 + (nbAt s (p + 1) % 64) * 64 + nbAt s (p + 2) % 64 ≥ 0x800) && Utf8.valid (((nbAt s p % 16) * 4096 + (nbAt s (p + 1) % 64) * 64 + nbAt s (p + 2) % 64 : Nat) : Int)) = true
        · rw [if_pos c5]
          simp only [Bool.and_eq_true, decide_eq_true_eq] at c5
          obtain ⟨c5, hv⟩ := c5
          have hv := valid_is' _ hv
          have e := enc_3 ((nbAt s p % 16) * 4096 + (nbAt s (p + 1) % 64) * 64 + nbAt s (p + 2) % 64) c5 (by omega) (by omega)
          refine ⟨odd_false _ (by simp; omega), ?_, by rw [e]; rfl⟩
          rw [e, d0, d1, d2]
          rw [show 224 + ((nbAt s p % 16) * 4096 + (nbAt s (p + 1) % 64) * 64 + nbAt s (p + 2) % 64) / 4096 = nbAt s p by omega, show 128 + ((nbAt s p % 16) * 4096 + (nbAt s (p + 1) % 64) * 64 + nbAt s (p + 2) % 64) / 64 % 64 = nbAt s (p + 1) by omega,
            show 128 + ((nbAt s p % 16) * 4096 + (nbAt s (p + 1) % 64) * 64 + nbAt s (p + 2) % 64) % 64 = nbAt s (p + 2) by omega]
          rfl
        · rw [if_neg c5] at hb
          exact absurd ⟨rfl, rfl⟩ hb
      · rw [if_neg c4] at hb ⊢
        by_cases c6 : (nbAt s p / 8 == 30 && contAt s (p + 1) && contAt s (p + 2) && contAt s (p + 3)) = true
        · rw [if_pos c6] at hb ⊢
          simp only [Bool.and_eq_true, beq_iff_eq] at c6
          obtain ⟨⟨⟨c6, q1⟩, q2⟩, q3⟩ := c6
          obtain ⟨l1, e1⟩ := cont_is s _ q1
          obtain ⟨l2, e2⟩ := cont_is s _ q2
          obtain ⟨l3, e3⟩ := cont_is s _ q3
          have d1 := nb_at s (p + 1) l1
          have d2 := nb_at s (p + 2) l2
          have d3 := nb_at s (p + 3) l3
          by_cases c7 : (decide ((nbAt s p % 8) * 262144 + (nbAt s (p + 1) % 64) * 4096 + (nbAt s (p + 2) % 64) * 64 + nbAt s (p + 3) % 64 ≥ 0x10000) && Utf8.valid (((nbAt s p % 8) * 262144 + (nbAt s (p + 1) % 64) * 4096 + (nbAt s (p + 2) % 64) * 64 + nbAt s (p + 3) % 64 : Nat) : Int)) = true
          · rw [if_pos c7]
            simp only [Bool.and_eq_true, decide_eq_true_eq] at c7
            obtain ⟨c7, hv⟩ := c7
            have hv := valid_is' _ hv
            have e := enc_4 ((nbAt s p % 8) * 262144 + (nbAt s (p + 1) % 64) * 4096 + (nbAt s (p + 2) % 64) * 64 + nbAt s (p + 3) % 64) c7 (by omega)
            refine ⟨odd_false _ (by simp; omega), ?_, by rw [e]; rfl⟩
            rw [e, d0, d1, d2, d3]
            rw [show 240 + ((nbAt s p % 8) * 262144 + (nbAt s (p + 1) % 64) * 4096 + (nbAt s (p + 2) % 64) * 64 + nbAt s (p + 3) % 64) / 262144 = nbAt s p by omega, show 128 + ((nbAt s p % 8) * 262144 + (nbAt s (p + 1) % 64) * 4096 + (nbAt s (p + 2) % 64) * 64 + nbAt s (p + 3) % 64) / 4096 % 64 = nbAt s (p + 1) by omega,
              show 128 + ((nbAt s p % 8) * 262144 + (nbAt s (p + 1) % 64) * 4096 + (nbAt s (p + 2) % 64) * 64 + nbAt s (p + 3) % 64) / 64 % 64 = nbAt s (p + 2) by omega, show 128 + ((nbAt s p % 8) * 262144 + (nbAt s (p + 1) % 64) * 4096 + (nbAt s (p + 2) % 64) * 64 + nbAt s (p + 3) % 64) % 64 = nbAt s (p + 3) by omega]
            rfl
          · rw [if_neg c7] at hb
            exact absurd ⟨rfl, rfl⟩ hb
        · rw [if_neg c6] at hb
          exact absurd ⟨rfl, rfl⟩ hb
theorem runes_enc (s : ByteArray) : ∀ (n p : Nat), s.size ≤ p + n → Lib.validD (s.data.toList.drop p) = true → (runesAt s n p).any oddR = false ∧ (runesAt s n p).flatMap enc = (nb s).drop p ∧ (runesAt s n p).length ≤ s.size - p ∧ s.size - p ≤ 4 * (runesAt s n p).length := by
  intro n
  induction n with
  | zero =>
    intro p h hv
    have : (nb s).drop p = [] := List.drop_eq_nil_of_le (by rw [nb_length]; omega)
    rw [this]
    exact ⟨rfl, rfl, by simp [runesAt], by simp [runesAt]; omega⟩
  | succ n ih =>
    intro p h hv
    by_cases hp : p < s.size
    · rw [valid_at s p hp] at hv
      by_cases hb : badAt s p
      · rw [if_pos hb] at hv; cases hv
      · rw [if_neg hb] at hv
        obtain ⟨g1, g2, g3⟩ := dec_good s p hp hb
        have w1 := wide_pos s p hp
        have w4 := wide_4 s p
        obtain ⟨i1, i2, i3, i4⟩ := ih (p + (Utf8.decode s p).2) (by omega) hv
        have hsz : p + (Utf8.decode s p).2 ≤ s.size := by
          have := congrArg List.length g2
          rw [List.length_drop, List.length_append, List.length_drop, nb_length, g3] at this
          omega
        rw [runesAt, if_pos hp]
        refine ⟨by rw [List.any_cons, g1, i1]; rfl, by rw [List.flatMap_cons, i2, ← g2], by simp; omega, by simp; omega⟩
    · have : (nb s).drop p = [] := List.drop_eq_nil_of_le (by rw [nb_length]; omega)
      rw [this, runesAt_end s _ p hp]
      exact ⟨rfl, rfl, by simp, by simp; omega⟩
theorem enc_bytes (c : Int) : ∀ x ∈ enc c, isByte x := nb_bytes _
theorem nbAt_str (L : List Int) (h : ∀ x ∈ L, isByte x) (p : Nat) (hp : p < L.length) : p < (strOfNums L).size ∧ (nbAt (strOfNums L) p : Int) = L.getD p 0 := by
  have hs : (strOfNums L).size = L.length := by rw [← nb_length, str_nb L h]
  refine ⟨by omega, ?_⟩
  rw [← bt_nbAt _ p (by omega), bt_nb, str_nb L h]
theorem at_enc (a b : List Int) (c : Int) (ha : ∀ x ∈ a, isByte x) (hb : ∀ x ∈ b, isByte x) (i : Nat) (x : Int) (hi : (enc c)[i]? = some x) :
    a.length + i < (strOfNums (a ++ (enc c ++ b))).size ∧ (nbAt (strOfNums (a ++ (enc c ++ b))) (a.length + i) : Int) = x := by
  have hl : i < (enc c).length := (List.getElem?_eq_some_iff.1 hi).1
  obtain ⟨h1, h2⟩ := nbAt_str (a ++ (enc c ++ b)) (fun y hy => by
    rcases List.mem_append.1 hy with h | h
    · exact ha y h
    · rcases List.mem_append.1 h with h | h
      · exact enc_bytes c y h
      · exact hb y h) (a.length + i) (by rw [List.length_append, List.length_append]; omega)
  refine ⟨h1, ?_⟩
  rw [h2, List.getD_eq_getElem?_getD, List.getElem?_append_right (by omega), Nat.add_sub_cancel_left, List.getElem?_append_left hl, hi]
  rfl
theorem cont_mk (s : ByteArray) (p : Nat) (h : p < s.size) (h' : nbAt s p / 64 = 2) : contAt s p = true := by
  unfold contAt
  simp [h, h']
set_option maxRecDepth 10000 in
theorem dec_enc (a b : List Int) (c : Nat) (ha : ∀ x ∈ a, isByte x) (hb : ∀ x ∈ b, isByte x) (ho : oddR (c : Int) = false) :
    Utf8.decode (strOfNums (a ++ (enc (c : Int) ++ b))) a.length = (c, (enc (c : Int)).length) ∧ (1 < c ∨ True) := by
  refine ⟨?_, .inr trivial⟩
  have hv : ¬ ((c : Int) < 0 ∨ (c : Int) > 1114111 ∨ ((c : Int) ≥ 55296 ∧ (c : Int) < 57344)) := by
    rw [odd_is] at ho; simpa using ho
  have key := at_enc a b (c : Int) ha hb
  obtain ⟨s, hs⟩ : ∃ s, strOfNums (a ++ (enc (c : Int) ++ b)) = s := ⟨_, rfl⟩
  rw [hs] at key ⊢
  clear hs
  rw [dec_is]
  by_cases c1 : c < 128
  · rw [enc_1 c c1] at key ⊢
    obtain ⟨l0, k0⟩ := key 0 _ rfl
    rw [Nat.add_zero] at k0
    rw [if_pos (by omega)]
    exact Prod.ext (show nbAt s a.length = c by omega) rfl
  · by_cases c2 : c < 2048
    · rw [enc_2 c (by omega) c2] at key ⊢
      obtain ⟨l0, k0⟩ := key 0 _ rfl
      obtain ⟨l1, k1⟩ := key 1 _ rfl
      rw [Nat.add_zero] at k0
      have q1 := cont_mk s _ l1 (by omega)
      rw [if_neg (by omega), if_pos (by rw [q1]; simp; omega), if_pos (by omega)]
      exact Prod.ext (show nbAt s a.length % 32 * 64 + nbAt s (a.length + 1) % 64 = c by omega) rfl
    · by_cases c3 : c < 65536
      · rw [enc_3 c (by omega) c3 (by omega)] at key ⊢
        obtain ⟨l0, k0⟩ := key 0 _ rfl
        obtain ⟨l1, k1⟩ := key 1 _ rfl
        obtain ⟨l2, k2⟩ := key 2 _ rfl
        rw [Nat.add_zero] at k0
        have q1 := cont_mk s _ l1 (by omega)
        have q2 := cont_mk s _ l2 (by omega)
        have ev : nbAt s a.length % 16 * 4096 + nbAt s (a.length + 1) % 64 * 64 + nbAt s (a.length + 2) % 64 = c := by omega
        rw [if_neg (by omega), if_neg (by simp; omega), if_pos (by rw [q1, q2]; simp; omega), ev, if_pos (by unfold Utf8.valid; simp; omega)]
        rfl
      · rw [enc_4 c (by omega) (by omega)] at key ⊢
        obtain ⟨l0, k0⟩ := key 0 _ rfl
        obtain ⟨l1, k1⟩ := key 1 _ rfl
        obtain ⟨l2, k2⟩ := key 2 _ rfl
        obtain ⟨l3, k3⟩ := key 3 _ rfl
        rw [Nat.add_zero] at k0
        have q1 := cont_mk s _ l1 (by omega)
        have q2 := cont_mk s _ l2 (by omega)
        have q3 := cont_mk s _ l3 (by omega)
        have ev : nbAt s a.length % 8 * 262144 + nbAt s (a.length + 1) % 64 * 4096 + nbAt s (a.length + 2) % 64 * 64 + nbAt s (a.length + 3) % 64 = c := by omega
        rw [if_neg (by omega), if_neg (by simp; omega), if_neg (by simp; omega), if_pos (by rw [q1, q2, q3]; simp; omega), ev, if_pos (by unfold Utf8.valid; simp; omega)]
        rfl
theorem enc_ne (c : Nat) (ho : oddR (c : Int) = false) : (enc (c : Int)).length ≥ 1 ∧ ((enc (c : Int)).length = 1 → c < 128) := by
  have hv : ¬ ((c : Int) < 0 ∨ (c : Int) > 1114111 ∨ ((c : Int) ≥ 55296 ∧ (c : Int) < 57344)) := by
    rw [odd_is] at ho; simpa using ho
  by_cases c1 : c < 128
  · rw [enc_1 c c1]; exact ⟨by simp, fun _ => c1⟩
  · by_cases c2 : c < 2048
    · rw [enc_2 c (by omega) c2]; exact ⟨by simp, fun h => by simp at h⟩
    · by_cases c3 : c < 65536
      · rw [enc_3 c (by omega) c3 (by omega)]; exact ⟨by simp, fun h => by simp at h⟩
      · rw [enc_4 c (by omega) (by omega)]; exact ⟨by simp, fun h => by simp at h⟩
set_option maxRecDepth 10000 in
theorem enc_runes : ∀ (l : List Int) (a : List Int) (n : Nat), (∀ x ∈ a, isByte x) → l.any oddR = false → (l.flatMap enc).length ≤ n →
    runesAt (strOfNums (a ++ l.flatMap enc)) n a.length = l ∧ Lib.validD ((strOfNums (a ++ l.flatMap enc)).data.toList.drop a.length) = true := by
  intro l
  induction l with
  | nil =>
    intro a n ha _ _
    have hs : ¬ a.length < (strOfNums (a ++ ([] : List Int).flatMap enc)).size := by
      rw [← nb_length, str_nb _ (by simpa using ha)]; simp
    exact ⟨runesAt_end _ _ _ hs, valid_end _ _ hs⟩
  | cons c l ih =>
    intro a n ha ho hn
    rw [List.any_cons, Bool.or_eq_false_iff] at ho
    obtain ⟨ho, hl⟩ := ho
    have hv : ¬ (c < 0 ∨ c > 1114111 ∨ (c ≥ 55296 ∧ c < 57344)) := by
      rw [odd_is] at ho; simpa using ho
    obtain ⟨z, rfl⟩ : ∃ z : Nat, c = (z : Int) := ⟨c.toNat, by omega⟩
    have hb : ∀ x ∈ l.flatMap enc, isByte x := fun x hx => by
      obtain ⟨y, _, hy⟩ := List.mem_flatMap.1 hx
      exact enc_bytes y x hy
    obtain ⟨d, _⟩ := dec_enc a (l.flatMap enc) z ha hb ho
    obtain ⟨e1, e2⟩ := enc_ne z ho
    rw [List.flatMap_cons] at hn ⊢
    rw [List.length_append] at hn
    obtain ⟨m, rfl⟩ : ∃ m, n = m + 1 := ⟨n - 1, by omega⟩
    have hall : ∀ x ∈ a ++ (enc (z : Int) ++ l.flatMap enc), isByte x := fun x hx => by
      rcases List.mem_append.1 hx with h | h
      · exact ha x h
      · rcases List.mem_append.1 h with h | h
        · exact enc_bytes _ x h
        · exact hb x h
    have hp : a.length < (strOfNums (a ++ (enc (z : Int) ++ l.flatMap enc))).size := by
      rw [← nb_length, str_nb _ hall, List.length_append, List.length_append]; omega
    have hnb : ¬ badAt (strOfNums (a ++ (enc (z : Int) ++ l.flatMap enc))) a.length := by
      unfold badAt
      rw [d]
      rintro ⟨h1, h2⟩
      simp only at h1 h2
      have := e2 h2
      omega
    have I := ih (a ++ enc (z : Int)) m (fun x hx => by
      rcases List.mem_append.1 hx with h | h
      · exact ha x h
      · exact enc_bytes _ x h) hl (by omega)
    rw [List.append_assoc, List.length_append] at I
    have V : Lib.validD ((strOfNums (a ++ (enc (z : Int) ++ l.flatMap enc))).data.toList.drop a.length) = Lib.validD ((strOfNums (a ++ (enc (z : Int) ++ l.flatMap enc))).data.toList.drop (a.length + (enc (z : Int)).length)) := by
      have V := valid_at _ _ hp
      rw [if_neg hnb, d] at V
      dsimp only at V
      exact V
    have R : runesAt (strOfNums (a ++ (enc (z : Int) ++ l.flatMap enc))) (m + 1) a.length = (z : Int) :: runesAt (strOfNums (a ++ (enc (z : Int) ++ l.flatMap enc))) m (a.length + (enc (z : Int)).length) := by rw [runesAt, if_pos hp, d]
    rw [V, R]
    exact ⟨congrArg (fun q => (z : Int) :: q) I.1, I.2⟩
end Go.Proofs.YtpkjpiphjdpegaaDoor.P
namespace Go.Proofs.YtpkjpiphjdpegaaDoor.P
open Go.Shelf Go.RowKit
def sh_lays219_ren : Go.Shelf.Ren := ⟨fun | 219 => 125 | 217 => 135 | 225 => 136 | 224 => 137 | 267 => 138 | 266 => 145 | 314 => 146 | n => n, fun | 9 => 9 | 3 => 3 | 4 => 4 | 5 => 5 | 46 => 138 | 146 => 189 | 51 => 188 | n => n, fun | 1 => 2 | n => n⟩
theorem sh_lays219 : Go.Proofs.Lays.n219 Tryd.prog sh_lays219_ren := {
  mixed := by kernel_rfl
  f217 := Tryd.func135.trans (congrArg some (by kernel_rfl))
  f219 := Tryd.func125.trans (congrArg some (by kernel_rfl))
  f224 := Tryd.func137.trans (congrArg some (by kernel_rfl))
  f225 := Tryd.func136.trans (congrArg some (by kernel_rfl))
  f266 := Tryd.func145.trans (congrArg some (by kernel_rfl))
  f267 := Tryd.func138.trans (congrArg some (by kernel_rfl))
  f314 := Tryd.func146.trans (congrArg some (by kernel_rfl))
  t3 := Tryd.underlying3
  a3 := Tryd.isAgg3
  z3 := Tryd.sizeOf3
  v3 := Tryd.zeroValue3
  t4 := Tryd.underlying4
  a4 := Tryd.isAgg4
  z4 := Tryd.sizeOf4
  v4 := Tryd.zeroValue4
  t5 := Tryd.underlying5
  a5 := Tryd.isAgg5
  z5 := Tryd.sizeOf5
  v5 := Tryd.zeroValue5
  t9 := Tryd.underlying9
  a9 := Tryd.isAgg9
  z9 := Tryd.sizeOf9
  v9 := Tryd.zeroValue9
  t46 := Tryd.underlying138
  a46 := Tryd.isAgg138
  z46 := Tryd.sizeOf138
  v46 := Tryd.zeroValue138
  t51 := Tryd.underlying188
  a51 := Tryd.isAgg188
  z51 := Tryd.sizeOf188
  v51 := Tryd.zeroValue188
  t146 := Tryd.underlying189
  a146 := Tryd.isAgg189
  z146 := Tryd.sizeOf189
  v146 := Tryd.zeroValue189
  g1 := by kernel_rfl }
open Go.RowKit Go.Lib in
theorem sh_stringslite_Index_one (s : ByteArray) (c : UInt8) (w : World) :
    Calls Tryd.prog 125 #[.string s, .string ⟨#[c]⟩] w fun e w' => e = .returned (.int .i64 (Lib.indexByte s.data.toList c)) ∧ w' = w := Any.stringslite_Index_one sh_lays219 s c w
end Go.Proofs.YtpkjpiphjdpegaaDoor.P
namespace Go.Proofs.YtpkjpiphjdpegaaDoor.P
open Go.RowKit Go.Proofs.YtpkjpiphjdpegaaDoorW.PrintWords Go.Proofs.YtpkjpiphjdpegaaDoorW.PrintLast Go.Proofs.YtpkjpiphjdpegaaDoorW.PrintMore
attribute [local go_sem] max2_int min2_int max_two min_two max_three min_three max_four min_four
set_option linter.unusedVariables false
set_option linter.unusedSimpArgs false
def stringslite_Index.f (s sub : ByteArray) : Option Int := if sub.data.toList.length = 1 then some (Lib.indexByte s.data.toList (sub.data.toList.getD 0 0)) else none
theorem stringslite_Index.calls (a0 : ByteArray) (a1 : ByteArray) (r : Int) (w : World) (h : stringslite_Index.f a0 a1 = some r) :
    Calls Tryd.prog 125 #[.string a0, .string a1] w fun e w' => e = .returned (.int .i64 r) ∧ Below w.heap.size w w' := by
  unfold stringslite_Index.f at h
  split at h
  · rename_i q
    obtain rfl := Option.some.inj h
    obtain ⟨⟨l⟩⟩ := a1
    match l, q with
    | [c], _ => exact (sh_stringslite_Index_one a0 c w).mono fun e w' hh => ⟨hh.1, hh.2 ▸ Below.refl _ _⟩
  · cases h
def lines_wrong.f (a0 : ByteArray) : Option (Int) := (lines_Runes.f a0).bind fun bt108 => (if bt108.2 = 0 then (if (bt108.1.length : Int) > 80 then (some 91) else (some bt108.2)) else (some bt108.2))
set_option maxHeartbeats 8000000 in
set_option maxRecDepth 100000 in
theorem lines_wrong.calls (a0 : ByteArray) (r : Int) (w : World) (hG : GT w) (h : lines_wrong.f a0 = some r) :
    Calls Tryd.prog 75 #[.string a0] w fun e w' => e = .returned (.int .i64 r) ∧ Below w.heap.size w w' := by
  have HB := Aside0.mk (Below.refl w.heap.size w)
  have H : ((lines_Runes.f a0).bind fun bt108 => (if bt108.2 = 0 then (if (bt108.1.length : Int) > 80 then (some 91) else (some bt108.2)) else (some bt108.2))) = some r := h
  clear h
  replace H := Option.bind_eq_some_iff.mp H
  obtain ⟨⟨t108, t109⟩, A20, H⟩ := H
  replace H : (if t109 = 0 then (if (t108.length : Int) > 80 then (some 91) else (some t109)) else (some t109)) = some r := H
  have A2 := Aside0.mk A20
  clear A20
  by_cases c3 : t109 = 0
  · rw [if_pos c3] at H
    have c3b0 : (t109 == 0) = true := beq_iff_eq.mpr c3
    have c3b1 : (t109 != 0) = false := bne_eq_false_iff_eq.mpr c3
    clear c3
    by_cases c4 : (t108.length : Int) > 80
    · rw [if_pos c4] at H
      have c4b0 : decide (80 < (t108.length : Int)) = true := decide_eq_true c4
      have c4b1 : decide (80 < t108.length) = true := decide_eq_true (by omega)
      clear c4
      obtain rfl := Option.some.inj H
      go_enter Tryd.func75, Tryd.ntmps75
      go_wp2_with (first | ((with_reducible refine gate_callee (f := 20) rfl ?_); refine goesL_ (some 7) rfl rfl Tryd.func20 (by kernel_rfl) rfl #[.string a0] rfl (by (try simp only [List.map_toArray, List.map_cons, List.map_nil]); first | done | rfl | (simp only [List.length_drop, List.length_take]; rfl)) ?_; (with_reducible refine (lines_Runes.calls a0 t108 t109 _ ?side1 A2.out).mono ?_); (case side1 => exact gt_below hG (by repeat (first | (with_reducible first | exact HB.out | apply below_alloc | apply pw_below_drewN | apply below_drew1) | exact HB.out))); rintro e w5 ⟨v110, rfl, ho0, hb⟩; refine ⟨_, rfl, ?_⟩; have n0_ := Aside0.mk (Kd.R_lower ho0 (below_size (by repeat (first | (with_reducible first | exact HB.out | apply below_alloc | apply pw_below_drewN | apply below_drew1) | exact HB.out)))); have n1_ := Aside0.mk (below_step (by repeat (first | (with_reducible first | exact HB.out | apply below_alloc | apply pw_below_drewN | apply below_drew1) | exact HB.out)) hb); clear HB; have HO111 := n0_; have HB := n1_; clear n0_ n1_; (try clear hb); (try clear hb2); (try clear hk); (try clear hi); (try clear ho0); obtain ⟨Ao6, co6, eo6⟩ := Kd.R_slice HO111.out; subst eo6))
      go_ret
      exact ⟨by first | rfl | (simp [errW_none, errW_some] <;> rfl) | (simp [*, errW_none, errW_some] <;> rfl), by repeat (first | (with_reducible first | exact HB.out | apply below_alloc | apply pw_below_drewN | apply below_drew1) | exact HB.out)⟩
    · rw [if_neg c4] at H
      have c4b0 : decide (80 < (t108.length : Int)) = false := decide_eq_false c4
      have c4b1 : decide (80 < t108.length) = false := decide_eq_false (by omega)
      clear c4
      obtain rfl := Option.some.inj H
      go_enter Tryd.func75, Tryd.ntmps75
      go_wp2_with (first | ((with_reducible refine gate_callee (f := 20) rfl ?_); refine goesL_ (some 7) rfl rfl Tryd.func20 (by kernel_rfl) rfl #[.string a0] rfl (by (try simp only [List.map_toArray, List.map_cons, List.map_nil]); first | done | rfl | (simp only [List.length_drop, List.length_take]; rfl)) ?_; (with_reducible refine (lines_Runes.calls a0 t108 t109 _ ?side1 A2.out).mono ?_); (case side1 => exact gt_below hG (by repeat (first | (with_reducible first | exact HB.out | apply below_alloc | apply pw_below_drewN | apply below_drew1) | exact HB.out))); rintro e w7 ⟨v110, rfl, ho0, hb⟩; refine ⟨_, rfl, ?_⟩; have n0_ := Aside0.mk (Kd.R_lower ho0 (below_size (by repeat (first | (with_reducible first | exact HB.out | apply below_alloc | apply pw_below_drewN | apply below_drew1) | exact HB.out)))); have n1_ := Aside0.mk (below_step (by repeat (first | (with_reducible first | exact HB.out | apply below_alloc | apply pw_below_drewN | apply below_drew1) | exact HB.out)) hb); clear HB; have HO111 := n0_; have HB := n1_; clear n0_ n1_; (try clear hb); (try clear hb2); (try clear hk); (try clear hi); (try clear ho0); obtain ⟨Ao8, co8, eo8⟩ := Kd.R_slice HO111.out; subst eo8))
      go_ret
      exact ⟨by first | rfl | (simp [errW_none, errW_some] <;> rfl) | (simp [*, errW_none, errW_some] <;> rfl), by repeat (first | (with_reducible first | exact HB.out | apply below_alloc | apply pw_below_drewN | apply below_drew1) | exact HB.out)⟩
  · rw [if_neg c3] at H
    have c3b0 : (t109 == 0) = false := beq_eq_false_iff_ne.mpr c3
    have c3b1 : (t109 != 0) = true := bne_iff_ne.mpr c3
    obtain rfl := Option.some.inj H
    go_enter Tryd.func75, Tryd.ntmps75
    go_wp2_with (first | ((with_reducible refine gate_callee (f := 20) rfl ?_); refine goesL_ (some 7) rfl rfl Tryd.func20 (by kernel_rfl) rfl #[.string a0] rfl (by (try simp only [List.map_toArray, List.map_cons, List.map_nil]); first | done | rfl | (simp only [List.length_drop, List.length_take]; rfl)) ?_; (with_reducible refine (lines_Runes.calls a0 t108 t109 _ ?side1 A2.out).mono ?_); (case side1 => exact gt_below hG (by repeat (first | (with_reducible first | exact HB.out | apply below_alloc | apply pw_below_drewN | apply below_drew1) | exact HB.out))); rintro e w9 ⟨v110, rfl, ho0, hb⟩; refine ⟨_, rfl, ?_⟩; have n0_ := Aside0.mk (Kd.R_lower ho0 (below_size (by repeat (first | (with_reducible first | exact HB.out | apply below_alloc | apply pw_below_drewN | apply below_drew1) | exact HB.out)))); have n1_ := Aside0.mk (below_step (by repeat (first | (with_reducible first | exact HB.out | apply below_alloc | apply pw_below_drewN | apply below_drew1) | exact HB.out)) hb); clear HB; have HO111 := n0_; have HB := n1_; clear n0_ n1_; (try clear hb); (try clear hb2); (try clear hk); (try clear hi); (try clear ho0)))
    go_ret
    exact ⟨by first | rfl | (simp [errW_none, errW_some] <;> rfl) | (simp [*, errW_none, errW_some] <;> rfl), by repeat (first | (with_reducible first | exact HB.out | apply below_alloc | apply pw_below_drewN | apply below_drew1) | exact HB.out)⟩
def stringslite_Cut.f (a0 : ByteArray) (a1 : ByteArray) : Option (ByteArray × ByteArray × Bool) := (stringslite_Index.f a0 a1).bind fun t114 => (if t114 ≥ 0 then (if 0 ≤ t114 then (if t114 ≤ (a0.size : Int) then (if 0 ≤ (wrap64 (t114 + (a1.size : Int))) then (if (wrap64 (t114 + (a1.size : Int))) ≤ (a0.size : Int) then (some (a0.extract 0 (t114 : Int).toNat, a0.extract ((wrap64 (t114 + (a1.size : Int))) : Int).toNat a0.size, true)) else (none)) else (none)) else (none)) else (none)) else (some (a0, (⟨#[]⟩ : ByteArray), false)))
set_option maxHeartbeats 8000000 in
set_option maxRecDepth 100000 in
theorem stringslite_Cut.calls (a0 : ByteArray) (a1 : ByteArray) (r1 : ByteArray) (r2 : ByteArray) (r3 : Bool) (w : World) (h : stringslite_Cut.f a0 a1 = some (r1, r2, r3)) :
    Calls Tryd.prog 103 #[.string a0, .string a1] w fun e w' => e = .returned (.tuple #[.string r1, .string r2, .bool r3]) ∧ Below w.heap.size w w' := by
  have HB := Aside0.mk (Below.refl w.heap.size w)
  have H : ((stringslite_Index.f a0 a1).bind fun t114 => (if t114 ≥ 0 then (if 0 ≤ t114 then (if t114 ≤ (a0.size : Int) then (if 0 ≤ (wrap64 (t114 + (a1.size : Int))) then (if (wrap64 (t114 + (a1.size : Int))) ≤ (a0.size : Int) then (some (a0.extract 0 (t114 : Int).toNat, a0.extract ((wrap64 (t114 + (a1.size : Int))) : Int).toNat a0.size, true)) else (none)) else (none)) else (none)) else (none)) else (some (a0, (⟨#[]⟩ : ByteArray), false)))) = some (r1, r2, r3) := h
  clear h
  replace H := Option.bind_eq_some_iff.mp H
  obtain ⟨t114, A30, H⟩ := H
  replace H : (if t114 ≥ 0 then (if 0 ≤ t114 then (if t114 ≤ (a0.size : Int) then (if 0 ≤ (wrap64 (t114 + (a1.size : Int))) then (if (wrap64 (t114 + (a1.size : Int))) ≤ (a0.size : Int) then (some (a0.extract 0 (t114 : Int).toNat, a0.extract ((wrap64 (t114 + (a1.size : Int))) : Int).toNat a0.size, true)) else (none)) else (none)) else (none)) else (none)) else (some (a0, (⟨#[]⟩ : ByteArray), false))) = some (r1, r2, r3) := H
  have A3 := Aside0.mk A30
  clear A30
  by_cases c4 : t114 ≥ 0
  · rw [if_pos c4] at H
    have c4b0 : decide (0 ≤ t114) = true := decide_eq_true c4
    clear c4
    by_cases c5 : 0 ≤ t114
    · rw [if_pos c5] at H
      have c5b0 := eq_true c5
      have c5b1 : decide (0 ≤ t114) = true := decide_eq_true c5
      clear c5
      by_cases c6 : t114 ≤ (a0.size : Int)
      · rw [if_pos c6] at H
        have c6b0 := eq_true c6
        have c6b1 : decide (t114 ≤ (a0.size : Int)) = true := decide_eq_true c6
        clear c6
        obtain ⟨ji7, hji7⟩ : ∃ j_ : Int, (wrap64 (t114 + (a1.size : Int))) = j_ := ⟨_, rfl⟩
        replace H : (if 0 ≤ (ji7) then (if (ji7) ≤ (a0.size : Int) then (some (a0.extract 0 (t114 : Int).toNat, a0.extract ((ji7) : Int).toNat a0.size, true)) else (none)) else (none)) = some (r1, r2, r3) := by first | (rw [hji7] at H; exact H) | (simp only [hji7] at H ⊢; exact H)
        (try rw [hji7] at A3)
        have hji7w : (IntKind.i64.wrap (t114 + (a1.size : Int))) = ji7 := (i64_w _).trans hji7
        by_cases c8 : 0 ≤ (ji7)
        · rw [if_pos c8] at H
          have c8b0 := eq_true c8
          have c8b1 : decide (0 ≤ (ji7)) = true := decide_eq_true c8
          clear c8
          by_cases c9 : (ji7) ≤ (a0.size : Int)
          · rw [if_pos c9] at H
            have c9b0 := eq_true c9
            have c9b1 : decide ((ji7) ≤ (a0.size : Int)) = true := decide_eq_true c9
            clear c9
            simp only [Option.some.injEq, Prod.mk.injEq] at H
            obtain ⟨rfl, rfl, rfl⟩ := H
            go_enter Tryd.func103, Tryd.ntmps103
            go_wp2_with (first | (go_at_call 125; (with_reducible refine (stringslite_Index.calls a0 a1 t114 _ A3.out).mono ?_); rintro e w10 ⟨rfl, hb⟩; have n0_ := Aside0.mk (below_step (by repeat (first | (with_reducible first | exact HB.out | apply below_alloc | apply pw_below_drewN | apply below_drew1) | exact HB.out)) hb); clear HB; have HB := n0_; clear n0_; (try clear hb); (try clear hb2); (try clear hk); (try clear hi)))
            repeat (go_quiet (first | (go_at_call 125; (with_reducible refine (stringslite_Index.calls a0 a1 t114 _ A3.out).mono ?_); rintro e w10 ⟨rfl, hb⟩; have n0_ := Aside0.mk (below_step (by repeat (first | (with_reducible first | exact HB.out | apply below_alloc | apply pw_below_drewN | apply below_drew1) | exact HB.out)) hb); clear HB; have HB := n0_; clear n0_; (try clear hb); (try clear hb2); (try clear hk); (try clear hi))); try go_wp2_with (first | (go_at_call 125; (with_reducible refine (stringslite_Index.calls a0 a1 t114 _ A3.out).mono ?_); rintro e w10 ⟨rfl, hb⟩; have n0_ := Aside0.mk (below_step (by repeat (first | (with_reducible first | exact HB.out | apply below_alloc | apply pw_below_drewN | apply below_drew1) | exact HB.out)) hb); clear HB; have HB := n0_; clear n0_; (try clear hb); (try clear hb2); (try clear hk); (try clear hi))))
            go_ret3
            exact ⟨by first | rfl | (simp [errW_none, errW_some] <;> rfl) | (simp only [← hji7]; first | rfl | (simp [errW_none, errW_some] <;> rfl)) | (simp [*, errW_none, errW_some] <;> rfl), by repeat (first | (with_reducible first | exact HB.out | apply below_alloc | apply pw_below_drewN | apply below_drew1) | exact HB.out)⟩
          · rw [if_neg c9] at H
            exact absurd H (by simp)
        · rw [if_neg c8] at H
          exact absurd H (by simp)
      · rw [if_neg c6] at H
        exact absurd H (by simp)
    · rw [if_neg c5] at H
      exact absurd H (by simp)
  · rw [if_neg c4] at H
    have c4b0 : decide (0 ≤ t114) = false := decide_eq_false c4
    clear c4
    simp only [Option.some.injEq, Prod.mk.injEq] at H
    obtain ⟨rfl, rfl, rfl⟩ := H
    go_enter Tryd.func103, Tryd.ntmps103
    go_wp2_with (first | (go_at_call 125; (with_reducible refine (stringslite_Index.calls a0 a1 t114 _ A3.out).mono ?_); rintro e w11 ⟨rfl, hb⟩; have n0_ := Aside0.mk (below_step (by repeat (first | (with_reducible first | exact HB.out | apply below_alloc | apply pw_below_drewN | apply below_drew1) | exact HB.out)) hb); clear HB; have HB := n0_; clear n0_; (try clear hb); (try clear hb2); (try clear hk); (try clear hi)))
    repeat (go_quiet (first | (go_at_call 125; (with_reducible refine (stringslite_Index.calls a0 a1 t114 _ A3.out).mono ?_); rintro e w11 ⟨rfl, hb⟩; have n0_ := Aside0.mk (below_step (by repeat (first | (with_reducible first | exact HB.out | apply below_alloc | apply pw_below_drewN | apply below_drew1) | exact HB.out)) hb); clear HB; have HB := n0_; clear n0_; (try clear hb); (try clear hb2); (try clear hk); (try clear hi))); try go_wp2_with (first | (go_at_call 125; (with_reducible refine (stringslite_Index.calls a0 a1 t114 _ A3.out).mono ?_); rintro e w11 ⟨rfl, hb⟩; have n0_ := Aside0.mk (below_step (by repeat (first | (with_reducible first | exact HB.out | apply below_alloc | apply pw_below_drewN | apply below_drew1) | exact HB.out)) hb); clear HB; have HB := n0_; clear n0_; (try clear hb); (try clear hb2); (try clear hk); (try clear hi))))
    go_ret3
    exact ⟨by first | rfl | (simp [errW_none, errW_some] <;> rfl) | (simp [*, errW_none, errW_some] <;> rfl), by repeat (first | (with_reducible first | exact HB.out | apply below_alloc | apply pw_below_drewN | apply below_drew1) | exact HB.out)⟩
def strings_Cut.f (a0 : ByteArray) (a1 : ByteArray) : Option (ByteArray × ByteArray × Bool) := (stringslite_Cut.f a0 a1).bind fun bt115 => (some (bt115.1, bt115.2.1, bt115.2.2))
set_option maxHeartbeats 8000000 in
set_option maxRecDepth 100000 in
theorem strings_Cut.calls (a0 : ByteArray) (a1 : ByteArray) (r1 : ByteArray) (r2 : ByteArray) (r3 : Bool) (w : World) (h : strings_Cut.f a0 a1 = some (r1, r2, r3)) :
    Calls Tryd.prog 74 #[.string a0, .string a1] w fun e w' => e = .returned (.tuple #[.string r1, .string r2, .bool r3]) ∧ Below w.heap.size w w' := by
  have HB := Aside0.mk (Below.refl w.heap.size w)
  have H : ((stringslite_Cut.f a0 a1).bind fun bt115 => (some (bt115.1, bt115.2.1, bt115.2.2))) = some (r1, r2, r3) := h
  clear h
  replace H := Option.bind_eq_some_iff.mp H
  obtain ⟨⟨t115, t116, t117⟩, A30, H⟩ := H
  replace H : (some (t115, t116, t117)) = some (r1, r2, r3) := H
  have A3 := Aside0.mk A30
  clear A30
  simp only [Option.some.injEq, Prod.mk.injEq] at H
  obtain ⟨rfl, rfl, rfl⟩ := H
  go_enter Tryd.func74, Tryd.ntmps74
  go_wp2_with (first | ((with_reducible refine gate_callee (f := 103) rfl ?_); refine goesL_ (some 9) rfl rfl Tryd.func103 (by kernel_rfl) rfl #[.string a0, .string a1] rfl (by (try simp only [List.map_toArray, List.map_cons, List.map_nil]); first | done | rfl | (simp only [List.length_drop, List.length_take]; rfl)) ?_; (with_reducible refine (stringslite_Cut.calls a0 a1 t115 t116 t117 _ A3.out).mono ?_); rintro e w4 ⟨rfl, hb⟩; refine ⟨_, rfl, ?_⟩; have n0_ := Aside0.mk (below_step (by repeat (first | (with_reducible first | exact HB.out | apply below_alloc | apply pw_below_drewN | apply below_drew1) | exact HB.out)) hb); clear HB; have HB := n0_; clear n0_; (try clear hb); (try clear hb2); (try clear hk); (try clear hi)))
  go_ret3
  exact ⟨by first | rfl | (simp [errW_none, errW_some] <;> rfl) | (simp [*, errW_none, errW_some] <;> rfl), by repeat (first | (with_reducible first | exact HB.out | apply below_alloc | apply pw_below_drewN | apply below_drew1) | exact HB.out)⟩
def stringslite_HasPrefix.f (a0 : ByteArray) (a1 : ByteArray) : Option (Bool) := if (a0.size : Int) ≥ (a1.size : Int) then (if 0 ≤ (a1.size : Int) then (if (a1.size : Int) ≤ (a0.size : Int) then (some ((a0.extract 0 ((a1.size : Int) : Int).toNat).toList == a1.toList)) else (none)) else (none)) else (some false)
set_option maxHeartbeats 8000000 in
set_option maxRecDepth 100000 in
theorem stringslite_HasPrefix.calls (a0 : ByteArray) (a1 : ByteArray) (r : Bool) (w : World) (h : stringslite_HasPrefix.f a0 a1 = some r) :
    Calls Tryd.prog 102 #[.string a0, .string a1] w fun e w' => e = .returned (.bool r) ∧ Drawn0 w w' := by
  have H : (if (a0.size : Int) ≥ (a1.size : Int) then (if 0 ≤ (a1.size : Int) then (if (a1.size : Int) ≤ (a0.size : Int) then (some ((a0.extract 0 ((a1.size : Int) : Int).toNat).toList == a1.toList)) else (none)) else (none)) else (some false)) = some r := h
  clear h
  by_cases c3 : (a0.size : Int) ≥ (a1.size : Int)
  · rw [if_pos c3] at H
    have c3b0 : decide ((a1.size : Int) ≤ (a0.size : Int)) = true := decide_eq_true c3
    have c3b1 : decide (a1.size ≤ a0.size) = true := decide_eq_true (Int.ofNat_le.mp c3)
    clear c3
    by_cases c4 : 0 ≤ (a1.size : Int)
    · rw [if_pos c4] at H
      have c4b0 := eq_true c4
      have c4b1 : decide (0 ≤ (a1.size : Int)) = true := decide_eq_true c4
      clear c4
      by_cases c5 : (a1.size : Int) ≤ (a0.size : Int)
      · rw [if_pos c5] at H
        have c5b0 := eq_true c5
        have c5b1 : decide ((a1.size : Int) ≤ (a0.size : Int)) = true := decide_eq_true c5
        clear c5
        obtain rfl := Option.some.inj H
        go_enter Tryd.func102, Tryd.ntmps102
        go_wp2
        go_ret
        exact ⟨by first | rfl | (simp; done) | (simp [*]; done), by repeat (first | exact Drawn0.refl _ | apply Drawn0.step)⟩
      · rw [if_neg c5] at H
        exact absurd H (by simp)
    · rw [if_neg c4] at H
      exact absurd H (by simp)
  · rw [if_neg c3] at H
    have c3b0 : decide ((a1.size : Int) ≤ (a0.size : Int)) = false := decide_eq_false c3
    have c3b1 : decide (a1.size ≤ a0.size) = false := decide_eq_false (fun h => c3 (Int.ofNat_le.mpr h))
    clear c3
    obtain rfl := Option.some.inj H
    go_enter Tryd.func102, Tryd.ntmps102
    go_wp2
    go_ret
    exact ⟨by first | rfl | (simp; done) | (simp [*]; done), by repeat (first | exact Drawn0.refl _ | apply Drawn0.step)⟩
def strings_HasPrefix.f (a0 : ByteArray) (a1 : ByteArray) : Option (Bool) := (stringslite_HasPrefix.f a0 a1).bind fun t118 => (some t118)
set_option maxHeartbeats 8000000 in
set_option maxRecDepth 100000 in
theorem strings_HasPrefix.calls0 (a0 : ByteArray) (a1 : ByteArray) (r : Bool) (w : World) (h : strings_HasPrefix.f a0 a1 = some r) :
    Calls Tryd.prog 72 #[.string a0, .string a1] w fun e w' => e = .returned (.bool r) ∧ Drawn0 w w' := by
  have H : ((stringslite_HasPrefix.f a0 a1).bind fun t118 => (some t118)) = some r := h
  clear h
  replace H := Option.bind_eq_some_iff.mp H
  obtain ⟨t118, A30, H⟩ := H
  replace H : (some t118) = some r := H
  have A3 := Aside0.mk A30
  clear A30
  obtain rfl := Option.some.inj H
  go_enter Tryd.func72, Tryd.ntmps72
  go_wp2_with (first | ((with_reducible refine gate_callee (f := 102) rfl ?_); refine goesL_ (some 7) rfl rfl Tryd.func102 (by kernel_rfl) rfl #[.string a0, .string a1] rfl (by (try simp only [List.map_toArray, List.map_cons, List.map_nil]); first | done | rfl | (simp only [List.length_drop, List.length_take]; rfl)) ?_; (with_reducible refine (stringslite_HasPrefix.calls a0 a1 t118 _ A3.out).mono ?_); rintro e w' ⟨rfl, ⟨nd, rfl⟩⟩; refine ⟨_, rfl, ?_⟩))
  go_ret
  exact ⟨by first | rfl | (simp; done) | (simp [*]; done), by repeat (first | exact Drawn0.refl _ | apply Drawn0.step)⟩
theorem strings_HasPrefix.calls (a0 : ByteArray) (a1 : ByteArray) (r : Bool) (w : World) (h : strings_HasPrefix.f a0 a1 = some r) :
    Calls Tryd.prog 72 #[.string a0, .string a1] w fun e w' => e = .returned (.bool r) ∧ Below w.heap.size w w' :=
  (strings_HasPrefix.calls0 a0 a1 r w h).mono fun e w' hh => ⟨hh.1, hh.2.below⟩
def lines_Kind.f (a0 : ByteArray) : Option (Int) := if a0.toList = ([] : List UInt8) then (some 0) else ((strings_HasPrefix.f a0 (⟨#[35]⟩ : ByteArray)).bind fun t186 => (if t186 = true then (some 1) else (some 2)))
set_option maxHeartbeats 8000000 in
set_option maxRecDepth 100000 in
theorem lines_Kind.calls (a0 : ByteArray) (r : Int) (w : World) (h : lines_Kind.f a0 = some r) :
    Calls Tryd.prog 37 #[.string a0] w fun e w' => e = .returned (.int .u8 r) ∧ Below w.heap.size w w' := by
  have HB := Aside0.mk (Below.refl w.heap.size w)
  have H : (if a0.toList = ([] : List UInt8) then (some 0) else ((strings_HasPrefix.f a0 (⟨#[35]⟩ : ByteArray)).bind fun t186 => (if t186 = true then (some 1) else (some 2)))) = some r := h
  clear h
  by_cases c2 : a0.toList = ([] : List UInt8)
  · rw [if_pos c2] at H
    have c2b0 : (a0.toList == ([] : List UInt8)) = true := beq_iff_eq.mpr c2
    have c2b1 : (a0.toList != ([] : List UInt8)) = false := bne_eq_false_iff_eq.mpr c2
    clear c2
    obtain rfl := Option.some.inj H
    go_enter Tryd.func37, Tryd.ntmps37
    go_wp2
    go_ret
    exact ⟨by first | rfl | (simp [errW_none, errW_some] <;> rfl) | (simp [*, errW_none, errW_some] <;> rfl), by repeat (first | (with_reducible first | exact HB.out | apply below_alloc | apply pw_below_drewN | apply below_drew1) | exact HB.out)⟩
  · rw [if_neg c2] at H
    have c2b0 : (a0.toList == ([] : List UInt8)) = false := beq_eq_false_iff_ne.mpr c2
    have c2b1 : (a0.toList != ([] : List UInt8)) = true := bne_iff_ne.mpr c2
    replace H := Option.bind_eq_some_iff.mp H
    obtain ⟨t186, A30, H⟩ := H
    replace H : (if t186 = true then (some 1) else (some 2)) = some r := H
    have A3 := Aside0.mk A30
    clear A30
    by_cases c4 : t186 = true
    · subst c4
      have H1 : (some 1) = some r := by rw [if_pos rfl] at H; exact H
      clear H
      have H := H1
      clear H1
      obtain rfl := Option.some.inj H
      go_enter Tryd.func37, Tryd.ntmps37
      go_wp2_with (first | ((with_reducible refine gate_callee (f := 72) rfl ?_); refine goesL_ (some 8) rfl rfl Tryd.func72 (by kernel_rfl) rfl #[.string a0, .string (⟨#[35]⟩ : ByteArray)] rfl (by (try simp only [List.map_toArray, List.map_cons, List.map_nil]); first | done | rfl | (simp only [List.length_drop, List.length_take]; rfl)) ?_; (with_reducible refine (strings_HasPrefix.calls a0 (⟨#[35]⟩ : ByteArray) true _ A3.out).mono ?_); rintro e w5 ⟨rfl, hb⟩; refine ⟨_, rfl, ?_⟩; have n0_ := Aside0.mk (below_step (by repeat (first | (with_reducible first | exact HB.out | apply below_alloc | apply pw_below_drewN | apply below_drew1) | exact HB.out)) hb); clear HB; have HB := n0_; clear n0_; (try clear hb); (try clear hb2); (try clear hk); (try clear hi)))
      go_ret
      exact ⟨by first | rfl | (simp [errW_none, errW_some] <;> rfl) | (simp [*, errW_none, errW_some] <;> rfl), by repeat (first | (with_reducible first | exact HB.out | apply below_alloc | apply pw_below_drewN | apply below_drew1) | exact HB.out)⟩
    · replace c4 := Bool.eq_false_iff.mpr c4
      subst c4
      have H1 : (some 2) = some r := by rw [if_neg (show ¬ (false = true) by decide)] at H; exact H
      clear H
      have H := H1
      clear H1
      obtain rfl := Option.some.inj H
      go_enter Tryd.func37, Tryd.ntmps37
      go_wp2_with (first | ((with_reducible refine gate_callee (f := 72) rfl ?_); refine goesL_ (some 8) rfl rfl Tryd.func72 (by kernel_rfl) rfl #[.string a0, .string (⟨#[35]⟩ : ByteArray)] rfl (by (try simp only [List.map_toArray, List.map_cons, List.map_nil]); first | done | rfl | (simp only [List.length_drop, List.length_take]; rfl)) ?_; (with_reducible refine (strings_HasPrefix.calls a0 (⟨#[35]⟩ : ByteArray) false _ A3.out).mono ?_); rintro e w6 ⟨rfl, hb⟩; refine ⟨_, rfl, ?_⟩; have n0_ := Aside0.mk (below_step (by repeat (first | (with_reducible first | exact HB.out | apply below_alloc | apply pw_below_drewN | apply below_drew1) | exact HB.out)) hb); clear HB; have HB := n0_; clear n0_; (try clear hb); (try clear hb2); (try clear hk); (try clear hi)))
      go_ret
      exact ⟨by first | rfl | (simp [errW_none, errW_some] <;> rfl) | (simp [*, errW_none, errW_some] <;> rfl), by repeat (first | (with_reducible first | exact HB.out | apply below_alloc | apply pw_below_drewN | apply below_drew1) | exact HB.out)⟩
end Go.Proofs.YtpkjpiphjdpegaaDoor.P
namespace Go.Proofs.YtpkjpiphjdpegaaDoor.P
open Go.RowKit Go.Proofs.YtpkjpiphjdpegaaDoorW.PrintWords Go.Proofs.YtpkjpiphjdpegaaDoorW.PrintLast Go.Proofs.YtpkjpiphjdpegaaDoorW.PrintMore
set_option linter.unusedVariables false
set_option linter.unusedSimpArgs false
def mk (l : List UInt8) : ByteArray := ⟨l.toArray⟩
theorem mk_list (l : List UInt8) : (mk l).data.toList = l := rfl
theorem mk_size (l : List UInt8) : (mk l).size = l.length := by simp [mk, ByteArray.size]
theorem mk_of (s : ByteArray) : mk s.data.toList = s := by
  obtain ⟨⟨l⟩⟩ := s
  rfl
theorem toList_eq (s : ByteArray) : s.toList = s.data.toList := Go.ByteArray.toList_eq s
def splitB : List UInt8 → List (List UInt8)
  | [] => [[]]
  | b :: l => if b = 10 then [] :: splitB l else match splitB l with
    | [] => [[b]]
    | h :: r => (b :: h) :: r
theorem splitB_none : ∀ {l : List UInt8}, Lib.indexByte l 10 = -1 → splitB l = [l]
  | [], _ => rfl
  | b :: l, h => by
    have hb : ¬ b = 10 := fun e => by
      have := Lib.indexByte_none h 0
      rw [e] at this
      simp at this
    have hl : Lib.indexByte l 10 = -1 := by
      have hge := Lib.indexByte_ge l 10
      rw [Lib.indexByte, if_neg (by simp [hb])] at h
      split at h
      · rename_i q; simpa using q
      · omega
    rw [splitB, if_neg hb, splitB_none hl]
theorem splitB_some : ∀ {l : List UInt8} {i : Nat}, Lib.indexByte l 10 = (i : Int) → splitB l = l.take i :: splitB (l.drop (i + 1)) ∧ i < l.length
  | [], i, h => by simp [Lib.indexByte] at h
  | b :: l, i, h => by
    rw [Lib.indexByte] at h
    by_cases hb : b = 10
    · rw [if_pos (by simp [hb])] at h
      obtain rfl : i = 0 := by omega
      rw [splitB, if_pos hb]
      simp
    · rw [if_neg (by simp [hb])] at h
      split at h
      · omega
      · have hge := Lib.indexByte_ge l 10
        rename_i q
        have q' : Lib.indexByte l 10 ≠ -1 := by simpa using q
        obtain ⟨k, rfl⟩ : ∃ k, i = k + 1 := ⟨i - 1, by omega⟩
        obtain ⟨e, hk⟩ := splitB_some (l := l) (i := k) (by omega)
        rw [splitB, if_neg hb, e]
        simp
        omega
def kindOf : List UInt8 → Int
  | [] => 0
  | b :: _ => if b = 35 then 1 else 2
def wrongOf (h : List UInt8) : Int := if Lib.validD h = true then (if (runesAt (mk h) h.length 0).length > 80 then 91 else 0) else 90
def lineOf (n : Int) (h : List UInt8) : S56 := ⟨n, mk h, kindOf h, wrongOf h⟩
def linesL (n : Int) : List (List UInt8) → List S56
  | [] => []
  | h :: r => lineOf n h :: linesL (n + 1) r
def allL (s : ByteArray) : List S56 := linesL 1 (splitB s.data.toList)
theorem linesL_len : ∀ (l : List (List UInt8)) (n : Int), (linesL n l).length = l.length
  | [], n => rfl
  | h :: r, n => by rw [linesL, List.length_cons, linesL_len r, List.length_cons]
theorem splitB_len (l : List UInt8) : (splitB l).length ≤ l.length + 1 := by
  induction l with
  | nil => simp [splitB]
  | cons b l ih =>
    rw [splitB]
    split
    · simp; omega
    · split
      · simp
      · rename_i q; rw [q] at ih; simp at ih ⊢; omega
theorem extract_mk (l : List UInt8) (i j : Nat) : (mk l).extract i j = mk ((l.take j).drop i) := by
  apply ByteArray.ext
  rw [ByteArray.data_extract]
  apply Array.ext'
  rw [Array.toList_extract]
  show l.extract i j = _
  rw [List.extract_eq_take_drop, List.drop_take]
  rfl
theorem cut_none {l : List UInt8} (h : Lib.indexByte l 10 = -1) : strings_Cut.f (mk l) (⟨#[10]⟩ : ByteArray) = some (mk l, (⟨#[]⟩ : ByteArray), false) := by
  have e : stringslite_Index.f (mk l) (⟨#[10]⟩ : ByteArray) = some (-1) := by
    unfold stringslite_Index.f
    rw [if_pos (show (⟨#[10]⟩ : ByteArray).data.toList.length = 1 from rfl), mk_list]
    exact congrArg some h
  unfold strings_Cut.f stringslite_Cut.f
  rw [e, Option.bind_some, if_neg (by omega), Option.bind_some]
theorem cut_some {l : List UInt8} {i : Nat} (hs : l.length ≤ 1000000000) (h : Lib.indexByte l 10 = (i : Int)) : strings_Cut.f (mk l) (⟨#[10]⟩ : ByteArray) = some (mk (l.take i), mk (l.drop (i + 1)), true) := by
  have e : stringslite_Index.f (mk l) (⟨#[10]⟩ : ByteArray) = some (i : Int) := by
    unfold stringslite_Index.f
    rw [if_pos (show (⟨#[10]⟩ : ByteArray).data.toList.length = 1 from rfl), mk_list]
    exact congrArg some h
  have hi := (splitB_some h).2
  have h1 : ((⟨#[10]⟩ : ByteArray).size : Int) = 1 := rfl
  have w1 : wrap64 ((i : Int) + 1) = ((i + 1 : Nat) : Int) := by unfold wrap64; push_cast; omega
  unfold strings_Cut.f stringslite_Cut.f
  rw [e, Option.bind_some, if_pos (by omega), if_pos (by omega), mk_size, if_pos (by omega), h1, w1, if_pos (by omega), if_pos (by omega), Option.bind_some]
  rw [Int.toNat_natCast, Int.toNat_natCast, extract_mk, extract_mk, List.drop_zero, List.take_length]
theorem kind_is (h : List UInt8) (hs : h.length ≤ 1000000000) : lines_Kind.f (mk h) = some (kindOf h) := by
  unfold lines_Kind.f
  cases h with
  | nil => rw [if_pos (by rw [toList_eq]; rfl)]; rfl
  | cons b l =>
    rw [if_neg (by rw [toList_eq]; simp [mk])]
    have e1 : ((⟨#[35]⟩ : ByteArray).size : Int) = 1 := rfl
    have e2 : ((mk (b :: l)).size : Int) = (l.length : Int) + 1 := by rw [mk_size]; simp
    have P : strings_HasPrefix.f (mk (b :: l)) (⟨#[35]⟩ : ByteArray) = some (b == 35) := by
      unfold strings_HasPrefix.f stringslite_HasPrefix.f
      rw [e1, e2, if_pos (by omega), if_pos (by omega), if_pos (by omega), Option.bind_some]
      rw [toList_eq, toList_eq, show ((1 : Int)).toNat = 1 from rfl, extract_mk]
      congr 1
      show ([b] == [35]) = (b == 35)
      simp
    rw [P, Option.bind_some]
    show _ = some (if b = 35 then 1 else 2)
    by_cases q : b = 35
    · rw [if_pos (by simp [q]), if_pos q]
    · rw [if_neg (by simp [q]), if_neg q]
theorem wrong_is (h : List UInt8) (hs : h.length ≤ 1000000000) : lines_wrong.f (mk h) = some (wrongOf h) := by
  unfold lines_wrong.f lines_Runes.f
  rw [mk_size, if_pos hs, Option.bind_some, mk_list]
  unfold wrongOf
  by_cases v : Lib.validD h = true
  · rw [if_pos v, if_pos v, if_pos rfl]
    by_cases q : (runesAt (mk h) h.length 0).length > 80
    · rw [if_pos (by simp; omega), if_pos q]
    · rw [if_neg (by simp; omega), if_neg q]
  · rw [if_neg v, if_neg v, if_neg (by decide)]
end Go.Proofs.YtpkjpiphjdpegaaDoor.P
namespace Go.Proofs.YtpkjpiphjdpegaaDoor.P
open Go.RowKit Go.Shelf Go.Proofs.YtpkjpiphjdpegaaDoor.RF Go.Proofs.YtpkjpiphjdpegaaDoorW.PrintWords
attribute [local go_sem] Oper.semAt_some
set_option linter.unusedVariables false
set_option linter.unusedSimpArgs false
def lineV (x : S56) : Value := .agg #[.int .i64 x.f0, .string x.f1, .int .u8 x.f2, .int .i64 x.f3]
theorem gt_same {n₀ : Nat} {w W : World} (h : GT w) (hn : w.heap.size ≤ n₀) (hb : Below n₀ w W) : GT W := by
  exact gt_below h (hb.mono hn)
def KpE (n₀ Bx : Nat) (W W' : World) : Prop := Below n₀ W W' ∧ W'.heap[Bx]? = W.heap[Bx]?
def leftE (Bx : Nat) (W : World) : Nat := match W.cell? ⟨Bx, 0, none⟩ with | some (.string t) => t.size + 1 | _ => 0
set_option maxHeartbeats 8000000 in
set_option maxRecDepth 100000 in
theorem each1_in (n : Nat) (hn : 1 ≤ n) (l Bx n₀ : Nat) (s : ByteArray) (hs : s.size ≤ 1000000000) (J Jx : List S56 → World → Prop) (W : World)
    (hJ : AbX Bx W.heap.size J) (hG : ∀ W', Below n₀ W W' → GT W') (hxB : n₀ ≤ Bx) (hlt : Bx < W.heap.size)
    (hY : ∀ pre x W, J pre W → pre.length < (allL s).length → YieldAt Fence.wide (n - 1) Tryd.prog l #[lineV x] W fun e W' =>
      (e = .returned (.bool true) ∧ J (pre ++ [x]) W' ∧ KpE n₀ Bx W W') ∨ (e = .returned (.bool false) ∧ Jx (pre ++ [x]) W'))
    (hBx : Boxed W Bx 9 (.string s)) (h0 : J [] W) :
    CallsIn Fence.wide n Tryd.prog 73 #[.func (.yield l) #[] #[], .pointer (some ⟨Bx, 0, none⟩)] W fun e W' => (∃ v, e = .returned v) ∧
      ((∃ ys, ys = allL s ∧ J ys W') ∨ (∃ pre, pre <+: allL s ∧ Jx pre W')) := by
  refine callsIn_of_wp Tryd.func73 rfl trivial ?_ rfl
  simp only [Tryd.ntmps73, List.size_toArray, List.length_cons, List.length_nil, Nat.reduceAdd, Nat.reduceSub, Array.replicate_succ, Array.replicate_zero, List.push_toArray, List.append_toArray, List.nil_append, List.cons_append]
  gi_wp2
  gi_loopw [3] (fun p wr => ∃ (pre : List S56) (t : List UInt8), p = .int .i64 ((pre.length : Int) + 1) ∧ pre ++ linesL ((pre.length : Int) + 1) (splitB t) = allL s ∧ Boxed wr Bx 9 (.string (mk t)) ∧ t.length ≤ s.size ∧ pre.length + t.length ≤ s.size ∧ Below n₀ W wr ∧ J pre wr)
    (fun p wr => leftE Bx wr)
  case atStart =>
    exact ⟨[], s.data.toList, rfl, rfl, by rw [mk_of]; exact hBx, by simp, by simp, Below.refl _ _, h0⟩
  case round =>
    obtain ⟨pre, t, rfl, hx, hb, ht, hpt, hBel, hJs⟩ := hrel
    have hcell := hb.cell
    have hfro := hb.frozen
    have hle : n₀ ≤ wr.heap.size := by have := hb.lt; omega
    have hn64 : (pre.length : Int) + 1 ≤ 1000000001 := by omega
    have arm : ∀ (h tl : List UInt8) (mo : Bool), h.length ≤ 1000000000 → strings_Cut.f (mk t) (⟨#[10]⟩ : ByteArray) = some (mk h, mk tl, mo) → pre.length < (allL s).length → True := fun _ _ _ _ _ _ => trivial
    clear arm
    by_cases hi : Lib.indexByte t 10 = -1
    · have hsp := splitB_none hi
      have hcut := cut_none hi
      rw [hsp] at hx
      have hx' : pre ++ [lineOf ((pre.length : Int) + 1) t] = allL s := hx
      have hlen : pre.length < (allL s).length := by rw [← hx']; simp
      have hk := kind_is t (by omega)
      have hw := wrong_is t (by omega)
      gi_wp2_with (first
        | (refine ⟨trivial, ?_⟩; gi_at_call 74; refine (callsIn_wide.2 (strings_Cut.calls (mk t) _ _ _ _ _ hcut)).mono ?_; rintro e W1 ⟨rfl, hb1⟩; have hbel1 := hBel.trans (hb1.mono hle); have hJ1 := hJ.below hJs hb1; have hbx1 := hb.kept (grown_below hb1 none) (by simp); have hs1 := hb1.size)
        | (refine ⟨trivial, ?_⟩; gi_at_call 37; refine (callsIn_wide.2 (lines_Kind.calls (mk t) _ _ hk)).mono ?_; rintro e W2 ⟨rfl, hb2⟩; have hbel2 := hbel1.trans (hb2.mono (by omega)); have hJ2 := hJ.below hJ1 hb2; have hbx2 := hbx1.kept (grown_below hb2 none) (by simp); have hs2 := hb2.size)
        | (refine ⟨trivial, ?_⟩; gi_at_call 75; refine (callsIn_wide.2 (lines_wrong.calls (mk t) _ _ (hG _ hbel2) hw)).mono ?_; rintro e W3 ⟨rfl, hb3⟩; have hbel3 := hbel2.trans (hb3.mono (by omega)); have hJ3 := hJ.below hJ2 hb3; have hbx3 := hbx2.kept (grown_below hb3 none) (by simp); obtain ⟨fn, tmps, assign, body, hy, hR⟩ := hY pre (lineOf ((pre.length : Int) + 1) t) W3 hJ3 hlen; dsimp only [lineV, lineOf] at hy))
      refine hR.mono ?_
      rintro e W4 (⟨rfl, hJ4, hk4⟩ | ⟨rfl, hJx4⟩)
      · gi_wp2
        refine bodyPost_ret (results_none rfl _ _ _) rfl ?_
        exact ⟨⟨_, rfl⟩, .inl ⟨_, hx', hJ4⟩⟩
      · gi_wp2
        refine bodyPost_ret (results_none rfl _ _ _) rfl ?_
        exact ⟨⟨_, rfl⟩, .inr ⟨_, ⟨[], by rw [List.append_nil]; exact hx'⟩, hJx4⟩⟩
    · obtain ⟨i, hi⟩ : ∃ i : Nat, Lib.indexByte t 10 = (i : Int) := ⟨(Lib.indexByte t 10).toNat, by have := Lib.indexByte_ge t 10; omega⟩
      obtain ⟨hsp, hit⟩ := splitB_some hi
      have hcut := cut_some (by omega) hi
      rw [hsp] at hx
      have hx' : pre ++ (lineOf ((pre.length : Int) + 1) (t.take i) :: linesL ((pre.length : Int) + 1 + 1) (splitB (t.drop (i + 1)))) = allL s := hx
      have hlen : pre.length < (allL s).length := by rw [← hx']; simp
      have hli : (t.take i).length ≤ t.length := by simp; omega
      have hk := kind_is (t.take i) (by omega)
      have hw := wrong_is (t.take i) (by omega)
      gi_wp2_with (first
        | (refine ⟨trivial, ?_⟩; gi_at_call 74; refine (callsIn_wide.2 (strings_Cut.calls (mk t) _ _ _ _ _ hcut)).mono ?_; rintro e W1 ⟨rfl, hb1⟩; have hbel1 := hBel.trans (hb1.mono hle); have hJ1 := hJ.below hJs hb1; have hbx1 := hb.kept (grown_below hb1 none) (by simp); have hs1 := hb1.size)
        | (refine ⟨trivial, ?_⟩; gi_at_call 37; refine (callsIn_wide.2 (lines_Kind.calls (mk (t.take i)) _ _ hk)).mono ?_; rintro e W2 ⟨rfl, hb2⟩; have hbel2 := hbel1.trans (hb2.mono (by omega)); have hJ2 := hJ.below hJ1 hb2; have hbx2 := hbx1.kept (grown_below hb2 none) (by simp); have hs2 := hb2.size)
        | (refine ⟨trivial, ?_⟩; gi_at_call 75; refine (callsIn_wide.2 (lines_wrong.calls (mk (t.take i)) _ _ (hG _ hbel2) hw)).mono ?_; rintro e W3 ⟨rfl, hb3⟩; have hbel3 := hbel2.trans (hb3.mono (by omega)); have hJ3 := hJ.below hJ2 hb3; have hbx3 := hbx2.kept (grown_below hb3 none) (by simp); obtain ⟨fn, tmps, assign, body, hy, hR⟩ := hY pre (lineOf ((pre.length : Int) + 1) (t.take i)) W3 hJ3 hlen; dsimp only [lineV, lineOf] at hy))
      refine hR.mono ?_
      rintro e W4 (⟨rfl, hJ4, hk4⟩ | ⟨rfl, hJx4⟩)
      · have hbx4 : Boxed W4 Bx 9 (.string (mk t)) := hk4.2.trans hbx3
        have hc4 := hbx4.cell
        have hf4 := hbx4.frozen
        gi_wp2
        go_roundw
        case rel =>
          refine ⟨pre ++ [lineOf ((pre.length : Int) + 1) (t.take i)], t.drop (i + 1), ?_, ?_, hbx4.set _, by simp; omega, by simp; omega, ?_, hJ.set _ hJ4⟩
          · simp
          · rw [List.append_assoc, List.length_append]; exact hx'
          · exact (hbel3.trans hk4.1).setCell (p := ⟨Bx, 0, none⟩) hxB _
        case measure =>
          have e1 := (hbx4.set (.string (mk (t.drop (i + 1))))).cell
          unfold leftE
          rw [e1, hcell]
          simp [mk_size]
          omega
      · gi_wp2
        refine bodyPost_ret (results_none rfl _ _ _) rfl ?_
        exact ⟨⟨_, rfl⟩, .inr ⟨_, ⟨linesL ((pre.length : Int) + 1 + 1) (splitB (t.drop (i + 1))), by rw [List.append_assoc]; exact hx'⟩, hJx4⟩⟩
theorem each_stops (n : Nat) (hn : 1 ≤ n) (Bx n₀ : Nat) (s : ByteArray) (hs : s.size ≤ 1000000000) (w w0 : World) (hG : GT w0) (h0 : w0.heap.size ≤ n₀) (hb0 : Below n₀ w0 w) (hxB : n₀ ≤ Bx) (hlt : Bx < w.heap.size)
    (hBx : Boxed w Bx 9 (.string s)) :
    SeqX Fence.wide n Tryd.prog 73 #[.pointer (some ⟨Bx, 0, none⟩)] (fun x => #[lineV x]) (KpE n₀ Bx) Bx (fun ys => ys = allL s) (fun pre => pre <+: allL s) (allL s).length w :=
  fun l J Jx W hW hJ _ hY h00 =>
    each1_in n hn l Bx n₀ s hs J Jx W hJ (fun W' hb' => gt_same hG h0 ((hb0.trans (hW.mono (by omega))).trans hb')) hxB (by have := hW.size; omega)
      (fun pre x W1 hj hl => hY pre x W1 hj hl) (hBx.kept (grown_below hW none) (by simp)) h00
set_option maxHeartbeats 1000000 in
theorem each_in (n : Nat) (s : ByteArray) (w : World) :
    CallsIn Fence.wide n Tryd.prog 38 #[.string s] w fun e w' => e = .returned (.func (.func 73) #[] #[.pointer (some ⟨w.heap.size, 0, none⟩)]) ∧ w' = w.alloc (.cells #[.string s] 9) := by
  refine callsIn_of_wp Tryd.func38 rfl trivial ?_ rfl
  simp only [Tryd.ntmps38, List.size_toArray, List.length_cons, List.length_nil, Nat.reduceAdd, Nat.reduceSub, Array.replicate_succ, Array.replicate_zero, List.push_toArray, List.append_toArray, List.nil_append, List.cons_append]
  gi_wp2
  go_ret
  exact ⟨rfl, rfl⟩
end Go.Proofs.YtpkjpiphjdpegaaDoor.P
namespace Go.Proofs.YtpkjpiphjdpegaaDoor.P
open Go.RowKit Go.Shelf Go.Proofs.YtpkjpiphjdpegaaDoor.RF Go.Proofs.YtpkjpiphjdpegaaDoorW.PrintWords
attribute [local go_sem] Oper.semAt_some
set_option linter.unusedVariables false
set_option linter.unusedSimpArgs false
def lineC (x : S56) : Array Value := #[.int .i64 x.f0, .string x.f1, .int .u8 x.f2, .int .i64 x.f3]
theorem cells_new (W : World) (cs : Array Value) (t : TypeId) : ∀ (j : Nat) u, cs.toList[j]? = some u → (W.alloc (.cells cs t)).cell? ((⟨W.heap.size, 0, none⟩ : Addr).add j) = some u := by
  intro j u hj
  have ea : (⟨W.heap.size, 0, none⟩ : Addr).add j = ⟨W.heap.size, j, none⟩ := by
    unfold Addr.add
    by_cases z : j = 0
    · rw [if_pos z, z]
    · rw [if_neg z, Nat.zero_add]
  have hn : (W.alloc (.cells cs t)).heap[W.heap.size]? = some (.cells cs t) := World.alloc_heap_new W _
  rw [ea]
  unfold World.cell?
  simp only [hn]
  simpa using hj
def CoI (B Bx n₀ : Nat) (w : World) (pre : List S56) (W : World) : Prop :=
  (∃ v, Boxed W B 53 v ∧ Kd.R k56 56 W n₀ (fun k => k ≠ Bx) v pre) ∧ Below n₀ w W
theorem coI_ab (B Bx n₀ : Nat) (w : World) (hn : n₀ ≤ w.heap.size) (hx : n₀ ≤ Bx) (hB : n₀ ≤ B) (hne : B ≠ Bx) (C : Nat) (hC : n₀ ≤ C) : AbX Bx C (CoI B Bx n₀ w) := by
  rintro s W W' row ⟨⟨v, hv, hr⟩, hb⟩ hg hrow
  have key : ∀ (k : Nat) cells t, W.heap[k]? = some (.cells cells t (0, 0)) → k ≠ Bx → some k ≠ row := fun k cells t hk hkx e => by
    rcases hrow k e.symm with h | ⟨_, o, ho, hc⟩
    · exact hkx h
    · rw [hk] at ho; cases ho; cases hc
  refine ⟨⟨v, hv.kept hg (key B _ _ hv hne), Kd.R_grown2 hr rfl hg fun k e e' => ?_⟩, abX_below hn hC hx () W W' row hb hg hrow⟩
  obtain ⟨cells, hk⟩ := Kd.R_typed hr k e'.symm
  exact key k _ _ hk (hr.1 k e'.symm) e.symm
theorem info56 : (Tryd.prog.info? 56).map (fun i => (i.zero, i.size, i.bytes)) = some (some (.agg #[.int .i64 0, .string ⟨#[]⟩, .int .u8 0, .int .i64 0]), 4, 40) := by kernel_rfl
set_option maxHeartbeats 4000000 in
set_option maxRecDepth 100000 in
theorem appendSeq_in (n : Nat) (hn : 3 ≤ n) (Bx n₀ : Nat) (s : ByteArray) (hs : s.size ≤ 1000000000) (w w0 : World) (hG : GT w0) (h0 : w0.heap.size ≤ n₀) (hb0 : Below n₀ w0 w) (hxB : n₀ ≤ Bx) (hlt : Bx < w.heap.size)
    (hBx : Boxed w Bx 9 (.string s)) :
    CallsIn Fence.wide n Tryd.prog 101 #[.slice none 0 0, .func (.func 73) #[] #[.pointer (some ⟨Bx, 0, none⟩)]] w fun e W' => ∃ v, e = .returned v ∧ Kd.R k56 56 W' n₀ (fun k => k ≠ Bx) v (allL s) ∧ Below n₀ w W' := by
  have h1 : 1 ≤ n := by omega
  refine callsIn_of_wp_marks Tryd.func101 rfl trivial ?_ rfl
  simp only [Tryd.ntmps101, List.size_toArray, List.length_cons, List.length_nil, Nat.reduceAdd, Nat.reduceSub, Array.replicate_succ, Array.replicate_zero, List.push_toArray, List.append_toArray, List.nil_append, List.cons_append]
  gi_wp2
  have bB := Boxed.new w 53 (.slice none 0 0)
  have hbx1 := hBx.alloc (.cells #[.slice none 0 0] 53)
  have hB1 : Below n₀ w (w.alloc (.cells #[.slice none 0 0] 53)) := (Below.refl n₀ w).alloc (by omega) _
  refine range_own (Bx := Bx) (by simp; omega) rfl h1 (gf := 73) (lb := #[.pointer (some ⟨Bx, 0, none⟩)]) rfl trivial (enters_of Tryd.func73 (by kernel_rfl) rfl)
    (each_stops (n - 1) (by omega) Bx n₀ s hs _ w0 hG h0 (hb0.trans hB1) hxB (by simp; omega) hbx1)
    (fun h k => ⟨h.1.trans k.1, k.2.trans h.2⟩) (fun W l o o' hl ho hc hw => ⟨(Below.refl n₀ W).grown (grownBy_putObj' W l o') (by have := (Array.getElem?_eq_some_iff.1 ho).1; simp at hl; omega) (fun k e => by cases e; simp at hl; omega), World.putObj_heap_other (by simp at hl; omega)⟩) (Below.refl _ _) (fun _ => rfl)
    (CoI w.heap.size Bx n₀ w)
    (fun _ _ _ => False)
    (coI_ab _ _ _ _ (by omega) hxB (by omega) (by omega) _ (by simp; omega)) (fun _ => abX_false _ _)
    ⟨⟨_, bB, Kd.R_nil _ _ _ _ _⟩, hB1⟩
    (fun x a' W => ∃ Bv, w.heap.size < Bv ∧ W.heap[Bv]? = some (.cells (lineC x) 56 (0, 0)) ∧ a' = { tmps := #[.slice none 0 0, .func (.func 73) #[] #[.pointer (some ⟨Bx, 0, none⟩)], .pointer (some ⟨w.heap.size, 0, none⟩), undef, .slice none 0 0, .pointer (some ⟨Bv, 0, none⟩), .func (.func 73) #[] #[.pointer (some ⟨Bx, 0, none⟩)], lineV x, undef, undef, undef, undef, undef], defers := [] })
    (fun x a' s W W' row hs hg hr => by
      obtain ⟨Bv, q1, q2, q3⟩ := hs
      exact ⟨Bv, q1, abX_block (β := Unit) (b := Bv) (Bx := Bx) (B := (w.alloc (.cells #[.slice none 0 0] 53)).heap.size) (fun _ => .cells (lineC x) 56 (0, 0)) (fun _ => rfl) (by omega) () W W' row q2 hg hr, q3⟩)
    ?assign ?body ?done ?stop
  case assign =>
    intro l pre x W K hi hK
    unfold lineV at hK ⊢
    gi_wp2
    have hBW : n₀ ≤ W.heap.size := by have := hi.2.size; omega
    have hxW : Bx < W.heap.size := by have := hi.2.size; obtain ⟨⟨v, q, _⟩, _⟩ := hi; have := q.lt; omega
    have hwW : w.heap.size < W.heap.size := by obtain ⟨⟨v, q, _⟩, _⟩ := hi; exact q.lt
    exact hK _ _ ((KeepsOthers.alloc _ _).from _) ⟨(Below.refl _ W).alloc hBW _, (World.grownBy_alloc W _ none).block Bx hxW (by simp)⟩
      ((coI_ab _ _ _ _ (by omega) hxB (by omega) (by omega) n₀ (Nat.le_refl _)).alloc _ hi) ⟨W.heap.size, hwW, World.alloc_heap_new W _, rfl⟩
  case body =>
    rintro l pre x a' W hl ⟨r, hr⟩ ⟨⟨v, hv, hO⟩, hBel⟩ ⟨Bv, hBv, hcv, rfl⟩ hlen
    have hv1 := hv.cell
    have hf1 := hv.frozen
    have hlen2 : (allL s).length ≤ 1000000001 := by
      have e1 := linesL_len (splitB s.data.toList) 1
      have e2 := splitB_len s.data.toList
      have e3 : s.data.toList.length = s.size := by simp
      unfold allL
      omega
    have c0 : W.cell? ⟨Bv, 0, none⟩ = some (.int .i64 x.f0) := by simp [World.cell?, hcv, lineC]
    have c1 : W.cell? ⟨Bv, 1, none⟩ = some (.string x.f1) := by simp [World.cell?, hcv, lineC]
    have c2 : W.cell? ⟨Bv, 2, none⟩ = some (.int .u8 x.f2) := by simp [World.cell?, hcv, lineC]
    have c3 : W.cell? ⟨Bv, 3, none⟩ = some (.int .i64 x.f3) := by simp [World.cell?, hcv, lineC]
    unfold lineV
    obtain ⟨i0, hi, hz0, hz1, hz2⟩ := info_parts info56
    have hW : n₀ ≤ W.heap.size := by have := hBel.size; omega
    have hWB : Bx < W.heap.size := by have := hv.lt; omega
    have hBv' : Bv < W.heap.size := (Array.getElem?_eq_some_iff.1 hcv).1
    obtain ⟨h00, inner, hown, hreps⟩ := Kd.R_alloc hO (.cells (lineC x) 56)
    have hcn := cells_new W (lineC x) 56
    unfold lineC at hown hcn
    gi_wp2_with (gi_at_builtin; apply Classical.byContradiction; intro hNOT)
    apply hNOT
    clear hNOT
    refine wpListIn_append_own_at _ rfl _ _ 53 rfl n₀ 56 i0 _ 4 40 Tryd.underlying53 hi hz0 hz1 hz2 rfl (by decide) _ _ _ rfl hown ⟨W.heap.size, 0, none⟩ 1 1 _ rfl rfl hcn (by simp [Value.oneCell']) (by unfold maxLen; omega) (by omega) (by simp; omega) ?_
    intro v' w1 hown' hgrow _ hat
    obtain ⟨g', cap', rfl⟩ := ownsRow_succ hown'
    have hBlk : some w.heap.size ≠ v.ownBlock := Kd.R_ne hO hv (by decide)
    have hv1' : Boxed w1 w.heap.size 53 v := (hv.alloc _).kept hgrow hBlk
    have hc1 := hv1'.cell
    have hfr1 := hv1'.frozen
    have hO1 : Kd.R k56 56 w1 n₀ (fun k => k ≠ Bx) _ (pre ++ [x]) :=
      Kd.R_appended h00 hreps (k56_mkM _ n₀ (fun _ => False) x) (fun _ hk => hk.elim) (fun k hk => by simp at hk; omega) hown' hgrow (hat.imp_right fun h => ⟨_, h, Nat.le_refl _⟩)
    have hB2 : some w.heap.size ≠ (Value.slice (some ⟨g', 0, none⟩) (pre.length + 1) cap').ownBlock := Kd.R_ne hO1 hv1' (by decide)
    have hty := Kd.R_typed (Kd.R_alloc hO (.cells (lineC x) 56))
    have hbs := Kd.R_base hO
    have hbx : some Bx ≠ v.ownBlock := fun e => hO.1 Bx e.symm rfl
    have hsz1 := hgrow.size
    gi_wp2
    refine ⟨?_, ⟨?_, ?_⟩, ⟨⟨_, hv1'.set _, ?_⟩, ?_⟩⟩
    · refine (((KeepsOthers.alloc W _).trans (KeepsOthers.of_grownBy hgrow fun j o ej hj => ?_)).trans (KeepsOthers.setCell _ _ _)).from _
      obtain ⟨cells, hk⟩ := hty j ej
      have hj' := hk.symm.trans hj
      cases hj'
      rfl
    · exact (((Below.refl n₀ W).alloc hW _).grown hgrow (by simp; omega) (fun j ej => hbs j ej)).setCell (p := ⟨w.heap.size, 0, none⟩) (by simp; omega) _
    · rw [Below.heap_setCell _ _ _ _ (by simp; omega), hgrow.block Bx (by simp; omega) hbx]
      exact (World.grownBy_alloc W _ none).block Bx hWB (by simp)
    · exact Kd.R_grown2 hO1 rfl (grownBy_setCell' w1 w.heap.size _) (fun k e => by cases e; exact hB2)
    · exact hBel.trans ((((Below.refl n₀ W).alloc hW _).grown hgrow (by simp; omega) (fun j ej => hbs j ej)).setCell (p := ⟨w.heap.size, 0, none⟩) (by simp; omega) _)
  case done =>
    rintro D ys W _ rfl ⟨⟨v, hv, hO⟩, hBel⟩ hK
    have hv1 := hv.cell
    have hf1 := hv.frozen
    gi_wp2
    refine ⟨by simp, .inl ⟨_, _, rfl, run_takeDeferred hK, ?_⟩⟩
    refine ⟨_, results_tmp rfl _ _ _, ⟨_, rfl, ?_, ?_⟩⟩
    · refine Kd.R_grown2 hO rfl (grownBy_putObj' W D _) fun k e e' => ?_
      cases e
      obtain ⟨cells, hk⟩ := Kd.R_typed hO D e'.symm
      rw [hK] at hk
      cases hk
    · exact hBel.trans ((Below.refl n₀ W).grown (grownBy_putObj' W D _) (by have := hBel.size; omega) (fun k e => by cases e; rename_i hD; simp at hD; omega))
  case stop =>
    rintro D c pre W _ _ h _
    exact h.elim
def lines_All.f (a0 : ByteArray) : Option (List S56) := if a0.size ≤ 1000000000 then some (allL a0) else none
theorem each_call (s : ByteArray) (w : World) : Calls Tryd.prog 38 #[.string s] w fun e w' => e = .returned (.func (.func 73) #[] #[.pointer (some ⟨w.heap.size, 0, none⟩)]) ∧ w' = w.alloc (.cells #[.string s] 9) :=
  callsIn_wide.1 (each_in 5 s w)
theorem collect_call (Bx n₀ : Nat) (s : ByteArray) (hs : s.size ≤ 1000000000) (w w0 : World) (hG : GT w0) (h0 : w0.heap.size ≤ n₀) (hb0 : Below n₀ w0 w) (hxB : n₀ ≤ Bx) (hlt : Bx < w.heap.size)
    (hBx : Boxed w Bx 9 (.string s)) :
    Calls Tryd.prog 71 #[.func (.func 73) #[] #[.pointer (some ⟨Bx, 0, none⟩)]] w fun e W' => ∃ v, e = .returned v ∧ Kd.R k56 56 W' n₀ (fun k => k ≠ Bx) v (allL s) ∧ Below n₀ w W' := by
  have C := callsIn_wide.1 (appendSeq_in 5 (by omega) Bx n₀ s hs w w0 hG h0 hb0 hxB hlt hBx)
  go_enter Tryd.func71, Tryd.ntmps71
  go_wp2_with (first | (go_at_call 101; (with_reducible refine C.mono ?_); rintro e W1 ⟨v, rfl, hR, hb⟩))
  go_ret
  exact ⟨_, rfl, hR, hb⟩
theorem lines_All.calls (a0 : ByteArray) (r : List S56) (w : World) (hG : GT w) (h : lines_All.f a0 = some r) :
    Calls Tryd.prog 34 #[.string a0] w fun e w' => ∃ v0_ : Value, e = .returned v0_ ∧ Kd.R k56 56 w' w.heap.size (fun _ => True) v0_ r ∧ Below w.heap.size w w' := by
  unfold lines_All.f at h
  split at h
  · rename_i hs
    obtain rfl := Option.some.inj h
    have hB := (Below.refl w.heap.size w).alloc (Nat.le_refl _) (.cells #[.string a0] 9)
    have C := collect_call w.heap.size w.heap.size a0 hs (w.alloc (.cells #[.string a0] 9)) w hG (Nat.le_refl _) hB (Nat.le_refl _) (by simp) (Boxed.new w 9 _)
    go_enter Tryd.func34, Tryd.ntmps34
    go_wp2_with (first | (go_at_call 38; (with_reducible refine (each_call a0 _).mono ?_); rintro e W1 ⟨rfl, rfl⟩) | (go_at_call 71; (with_reducible refine C.mono ?_); rintro e W1 ⟨v, rfl, hR, hb⟩))
    go_ret
    exact ⟨_, rfl, Kd.R_mono hR (fun _ _ => trivial), hB.trans hb⟩
  · cases h
end Go.Proofs.YtpkjpiphjdpegaaDoor.P
namespace Go.Proofs.YtpkjpiphjdpegaaDoor.P
open Go.RowKit Go.Shelf Go.Proofs.YtpkjpiphjdpegaaDoor.RF Go.Proofs.YtpkjpiphjdpegaaDoorW.PrintWords
attribute [local go_sem] Oper.semAt_some
set_option linter.unusedVariables false
set_option linter.unusedSimpArgs false
def checkL : List S56 → Int × Int
  | [] => (0, 0)
  | x :: r => if x.f3 = 0 then checkL r else (x.f0, x.f3)
theorem checkL_none : ∀ l : List S56, (∀ x ∈ l, x.f3 = 0) → checkL l = (0, 0)
  | [], _ => rfl
  | x :: r, h => by rw [checkL, if_pos (h x (List.mem_cons_self ..)), checkL_none r fun y hy => h y (List.mem_cons_of_mem _ hy)]
theorem checkL_some : ∀ (p : List S56) (x : S56) (r : List S56), (∀ y ∈ p, y.f3 = 0) → x.f3 ≠ 0 → checkL (p ++ x :: r) = (x.f0, x.f3)
  | [], x, r, _, hx => by rw [List.nil_append, checkL, if_neg hx]
  | y :: p, x, r, h, hx => by rw [List.cons_append, checkL, if_pos (h y (List.mem_cons_self ..)), checkL_some p x r (fun z hz => h z (List.mem_cons_of_mem _ hz)) hx]
def lines_Check.f (a0 : ByteArray) : Option (Int × Int) := if a0.size ≤ 1000000000 then some (checkL (allL a0)) else none
theorem boxed_ab {β : Type} (Bx B b : Nat) (t : TypeId) (f : β → Value) (hne : b ≠ Bx) : AbX Bx B (fun (s : β) W => Boxed W b t (f s)) :=
  abX_block (fun s => .cells #[f s] t (0, 0)) (fun _ => rfl) hne
theorem cells2 (tmps : Array Value) (w : World) (B B' : Nat) (h1 : tmps[2]? = some (.pointer (some ⟨B, 0, none⟩))) (h2 : tmps[3]? = some (.pointer (some ⟨B', 0, none⟩))) {x y : Value} (q1 : Boxed w B 3 x) (q2 : Boxed w B' 23 y) :
    (results Tryd.f39 tmps).run Tryd.prog w = .ok (.tuple #[x, y]) w := by
  have hr : Tryd.f39.results = #[.cell 2 3, .cell 3 23] := rfl
  have c1 := q1.cell
  have c2 := q2.cell
  have g1 : tmps[2]?.getD undef = .pointer (some ⟨B, 0, none⟩) := by rw [h1]; rfl
  have g2 : tmps[3]?.getD undef = .pointer (some ⟨B', 0, none⟩) := by rw [h2]; rfl
  simp [results, hr, g1, g2, asAddr, go_sem, c1, c2]
set_option maxHeartbeats 4000000 in
set_option maxRecDepth 100000 in
theorem check_in (n : Nat) (hn : 5 ≤ n) (s : ByteArray) (hs : s.size ≤ 1000000000) (w : World) (hG : GT w) :
    CallsIn Fence.wide n Tryd.prog 39 #[.string s] w fun e W' => e = .returned (.tuple #[.int .i64 (checkL (allL s)).1, .int .i64 (checkL (allL s)).2]) ∧ Below w.heap.size w W' := by
  have h1 : 1 ≤ n := by omega
  have mixed : Tryd.prog.follows .mixedOrders = true := by kernel_rfl
  refine callsIn_of_wp_marks Tryd.func39 rfl trivial ?_ rfl
  simp only [Tryd.ntmps39, List.size_toArray, List.length_cons, List.length_nil, Nat.reduceAdd, Nat.reduceSub, Array.replicate_succ, Array.replicate_zero, List.push_toArray, List.append_toArray, List.nil_append, List.cons_append]
  gi_wp2_with (first | (refine ⟨trivial, ?_⟩; gi_at_call 38; refine (each_in _ s _).mono ?_; rintro e w' ⟨rfl, rfl⟩))
  have b2 := Boxed.new w 3 (.int .i64 0)
  have b3 := Boxed.new (w.alloc (.cells #[.int .i64 0] 3)) 23 (.int .i64 0)
  have bX := Boxed.new ((w.alloc (.cells #[.int .i64 0] 3)).alloc (.cells #[.int .i64 0] 23)) 9 (.string s)
  have b2' := (b2.alloc (.cells #[.int .i64 0] 23)).alloc (.cells #[.string s] 9)
  have b3' := b3.alloc (.cells #[.string s] 9)
  simp only [World.size_alloc] at b3 b3' bX
  have hB1 : Below w.heap.size w (((w.alloc (.cells #[.int .i64 0] 3)).alloc (.cells #[.int .i64 0] 23)).alloc (.cells #[.string s] 9)) := (((Below.refl _ w).alloc (Nat.le_refl _) _).alloc (by simp) _).alloc (by simp; omega) _
  have hsz : (((w.alloc (.cells #[.int .i64 0] 3)).alloc (.cells #[.int .i64 0] 23)).alloc (.cells #[.string s] 9)).heap.size = w.heap.size + 3 := by simp
  obtain ⟨W0, hW0⟩ : ∃ W0, (((w.alloc (.cells #[.int .i64 0] 3)).alloc (.cells #[.int .i64 0] 23)).alloc (.cells #[.string s] 9)) = W0 := ⟨_, rfl⟩
  rw [hW0] at b2' b3' bX hB1 hsz ⊢
  clear b2 b3 hW0
  refine range_own (Bx := w.heap.size + 2) (by omega) rfl h1 (gf := 73) (lb := #[.pointer (some ⟨w.heap.size + 2, 0, none⟩)]) rfl trivial (enters_of Tryd.func73 (by kernel_rfl) rfl)
    (each_stops (n - 1) (by omega) (w.heap.size + 2) w.heap.size s hs W0 w hG (Nat.le_refl _) hB1 (by omega) (by omega) bX)
    (fun h k => ⟨h.1.trans k.1, k.2.trans h.2⟩) (fun W l o o' hl ho hc hw => ⟨(Below.refl _ W).grown (grownBy_putObj' W l o') (by have := (Array.getElem?_eq_some_iff.1 ho).1; omega) (fun k e => by cases e; omega), World.putObj_heap_other (by omega)⟩) (Below.refl _ _) (fun _ => rfl)
    (fun pre W => (Boxed W w.heap.size 3 (.int .i64 0) ∧ Boxed W (w.heap.size + 1) 23 (.int .i64 0) ∧ Below w.heap.size w W ∧ W0.heap.size ≤ W.heap.size) ∧ ∀ x ∈ pre, x.f3 = 0)
    (fun c pre W => (c = .ret ∧ ∃ p x, pre = p ++ [x] ∧ (∀ y ∈ p, y.f3 = 0) ∧ x.f3 ≠ 0 ∧ Boxed W w.heap.size 3 (.int .i64 x.f0) ∧ Boxed W (w.heap.size + 1) 23 (.int .i64 x.f3) ∧ Below w.heap.size w W))
    (AbX.and (AbX.and (boxed_ab _ _ _ _ (fun _ => .int .i64 0) (by omega)) (AbX.and (boxed_ab _ _ _ _ (fun _ => .int .i64 0) (by omega)) (AbX.and (abX_below (Nat.le_refl _) (by omega) (by omega)) (abX_size _ _ _)))) (abX_pure _ _ (fun pre : List S56 => ∀ x ∈ pre, x.f3 = 0)))
    (fun c s' W W' row hh hg hr => by
      obtain ⟨rfl, p, x, e1, e2, e3, e4, e5, e6⟩ := hh
      exact ⟨rfl, p, x, e1, e2, e3, boxed_ab (β := Unit) _ W0.heap.size _ _ (fun _ => .int .i64 x.f0) (by omega) () W W' row e4 hg hr, boxed_ab (β := Unit) _ W0.heap.size _ _ (fun _ => .int .i64 x.f3) (by omega) () W W' row e5 hg hr, abX_below (β := Unit) (Nat.le_refl _) (by omega) (by omega) () W W' row e6 hg hr⟩)
    ⟨⟨b2', b3', hB1, Nat.le_refl _⟩, by simp⟩
    (fun x a' W => ∃ Bv, w.heap.size + 2 < Bv ∧ W.heap[Bv]? = some (.cells (lineC x) 56 (0, 0)) ∧ a' = { tmps := #[.string s, undef, .pointer (some ⟨w.heap.size, 0, none⟩), .pointer (some ⟨w.heap.size + 1, 0, none⟩), .pointer (some ⟨Bv, 0, none⟩), .string s, .func (.func 73) #[] #[.pointer (some ⟨w.heap.size + 2, 0, none⟩)], lineV x, undef, undef, undef, undef, undef, undef, undef], defers := [] })
    (fun x a' s' W W' row hs hg hr => by
      obtain ⟨Bv, q1, q2, q3⟩ := hs
      exact ⟨Bv, q1, abX_block (β := Unit) (b := Bv) (Bx := w.heap.size + 2) (B := W0.heap.size) (fun _ => .cells (lineC x) 56 (0, 0)) (fun _ => rfl) (by omega) () W W' row q2 hg hr, q3⟩)
    ?assign ?body ?done ?stop
  case assign =>
    intro l pre x W K hi hK
    unfold lineV at hK ⊢
    gi_wp2
    obtain ⟨⟨i1, i2, i3, i5⟩, i4⟩ := hi
    exact hK _ _ ((KeepsOthers.alloc _ _).from _) ⟨(Below.refl _ W).alloc (by omega) _, (World.grownBy_alloc W _ none).block (w.heap.size + 2) (by omega) (by simp)⟩
      ⟨⟨i1.alloc _, i2.alloc _, i3.alloc (by omega) _, by simp; omega⟩, i4⟩ ⟨W.heap.size, by omega, World.alloc_heap_new W _, rfl⟩
  case body =>
    rintro l pre x a' W hl ⟨r, hr⟩ ⟨⟨i1, i2, i3, i5⟩, i4⟩ ⟨Bv, hBv, hcv, rfl⟩ hlen
    have c0 : W.cell? ⟨Bv, 0, none⟩ = some (.int .i64 x.f0) := by simp [World.cell?, hcv, lineC]
    have c3 : W.cell? ⟨Bv, 3, none⟩ = some (.int .i64 x.f3) := by simp [World.cell?, hcv, lineC]
    have j1 := i1.cell
    have j2 := i1.frozen
    have j3 := i2.cell
    have j4 := i2.frozen
    unfold lineV
    by_cases hz : x.f3 = 0
    · have hz1 : (x.f3 != 0) = false := by simp [hz]
      gi_wp2
      exact ⟨KeepsFrom.refl _ _, ⟨Below.refl _ _, rfl⟩, ⟨i1, i2, i3, i5⟩, fun y hy => by
        rcases List.mem_append.1 hy with h | h
        · exact i4 y h
        · rw [List.mem_singleton.1 h]; exact hz⟩
    · have hz1 : (x.f3 != 0) = true := by simp [hz]
      gi_wp2
      gi_region_with_o fail
      all_goals gi_wp2
      all_goals exact ⟨(((KeepsOthers.setCell _ _ _).trans (KeepsOthers.setCell _ _ _)).trans (KeepsOthers.drew _)).from _, rfl, pre, x, rfl, i4, hz,
        ((i1.set _).other (by omega) _), ((i2.other (by omega) _).set _), i3.trans ((((Below.refl _ W).setCell (p := ⟨w.heap.size, 0, none⟩) (Nat.le_refl _) _).setCell (p := ⟨w.heap.size + 1, 0, none⟩) (by simp) _).drew)⟩
  case done =>
    rintro D ys W hD rfl ⟨⟨i1, i2, i3, i5⟩, i4⟩ hK
    have j1 := i1.cell
    have j2 := i1.frozen
    have j3 := i2.cell
    have j4 := i2.frozen
    gi_wp2
    rw [checkL_none _ i4]
    have k1 := (i1.set (.int .i64 0)).other (B' := w.heap.size + 1) (by omega) (.int .i64 0)
    have k2 := (i2.other (B' := w.heap.size) (by omega) (.int .i64 0)).set (.int .i64 0)
    have hK2 : ((W.setCell ⟨w.heap.size, 0, none⟩ (.int .i64 0)).setCell ⟨w.heap.size + 1, 0, none⟩ (.int .i64 0)).heap[D]? = some (.deferred (some [])) := by
      rw [Below.heap_setCell _ _ _ _ (by simp; omega), Below.heap_setCell _ _ _ _ (by simp; omega)]; exact hK
    have q1 := k1.kept (grownBy_putObj' _ D (.deferred none)) (by simp; omega)
    have q2 := k2.kept (grownBy_putObj' _ D (.deferred none)) (by simp; omega)
    refine ⟨by simp, .inl ⟨_, _, rfl, run_takeDeferred hK2, ?_⟩⟩
    refine ⟨_, cells2 _ _ _ _ rfl rfl q1 q2, rfl, ?_⟩
    exact i3.trans (((((Below.refl w.heap.size W).setCell (p := ⟨w.heap.size, 0, none⟩) (Nat.le_refl _) _).setCell (p := ⟨w.heap.size + 1, 0, none⟩) (by simp) _)).grown (grownBy_putObj' _ D _) (by have := i1.lt; simp; omega) (fun k e => by cases e; omega))
  case stop =>
    rintro D c pre W hD hp ⟨rfl, p, x, e1, e2, e3, e4, e5, e6⟩ hK
    gi_wp2
    have q1 := e4.kept (grownBy_putObj' _ D (.deferred none)) (by simp; omega)
    have q2 := e5.kept (grownBy_putObj' _ D (.deferred none)) (by simp; omega)
    have hc : checkL (allL s) = (x.f0, x.f3) := by
      obtain ⟨r, hr⟩ := hp
      rw [← hr, e1, List.append_assoc]
      exact checkL_some p x r e2 e3
    rw [hc]
    refine ⟨by simp, .inl ⟨_, _, rfl, run_takeDeferred hK, ?_⟩⟩
    refine ⟨_, cells2 _ _ _ _ rfl rfl q1 q2, rfl, ?_⟩
    exact e6.trans ((Below.refl _ W).grown (grownBy_putObj' W D _) (by have := e4.lt; omega) (fun k e => by cases e; omega))
theorem lines_Check.calls (a0 : ByteArray) (r1 r2 : Int) (w : World) (hG : GT w) (h : lines_Check.f a0 = some (r1, r2)) :
    Calls Tryd.prog 39 #[.string a0] w fun e w' => e = .returned (.tuple #[.int .i64 r1, .int .i64 r2]) ∧ Below w.heap.size w w' := by
  unfold lines_Check.f at h
  split at h
  · rename_i hs
    have e := Option.some.inj h
    have := callsIn_wide.1 (check_in 5 (by omega) a0 hs w hG)
    rw [e] at this
    exact this
  · cases h
end Go.Proofs.YtpkjpiphjdpegaaDoor.P
namespace Go.Proofs.YtpkjpiphjdpegaaDoor.P
open Go.RowKit Go.Proofs.YtpkjpiphjdpegaaDoorW.PrintWords Go.Proofs.YtpkjpiphjdpegaaDoorW.PrintLast Go.Proofs.YtpkjpiphjdpegaaDoorW.PrintMore
attribute [local go_sem] max2_int min2_int max_two min_two max_three min_three max_four min_four
set_option linter.unusedVariables false
set_option linter.unusedSimpArgs false
attribute [local go_sem high] eqA56
def paymasterlaw09_letters.l0 : Nat → Int → ByteArray → Int → Option (ByteArray)
  | 0, _, _, _ => none
  | k + 1, x0, x3, x4 => if x4 < x0 then (if x3.size + 1 ≤ 9223372036854775807 then (paymasterlaw09_letters.l0 k x0 (x3 ++ (⟨#[97]⟩ : ByteArray)) (wrap64 (x4 + 1))) else (none)) else (some x3)
def paymasterlaw09_letters.f (k : Nat) (a0 : Int) : Option (ByteArray) := paymasterlaw09_letters.l0 k a0 (⟨#[]⟩ : ByteArray) 0
theorem paymasterlaw09_letters.mono_l : ∀ k, (∀ y0 y1 y2, LeO (paymasterlaw09_letters.l0 k y0 y1 y2) (paymasterlaw09_letters.l0 (k + 1) y0 y1 y2))
  | 0 => fun _ _ _ r h => by simp [paymasterlaw09_letters.l0] at h
  | k + 1 => by
    have ih0 := paymasterlaw09_letters.mono_l k
    · intro y0 y1 y2
      unfold paymasterlaw09_letters.l0
      repeat' first
      | (with_reducible exact ih0 _ _ _)
      | (with_reducible exact LeO.refl _)
      | (with_reducible exact LeO.none _)
      | (with_reducible refine LeO.ite ?_ ?_)
      | (with_reducible refine LeO.bind ?_ (fun _ => ?_))
      | exact ih0 _ _ _
      | exact LeO.none _
      | refine LeO.ite ?_ ?_
      | refine LeO.bind ?_ (fun _ => ?_)
theorem paymasterlaw09_letters.mono : ∀ a0 k, LeO (paymasterlaw09_letters.f k a0) (paymasterlaw09_letters.f (k + 1) a0) := by
  intro a0 k
  have ih0 := paymasterlaw09_letters.mono_l k
  unfold paymasterlaw09_letters.f
  repeat' first
      | (with_reducible exact ih0 _ _ _)
      | (with_reducible exact LeO.refl _)
      | (with_reducible exact LeO.none _)
      | (with_reducible refine LeO.ite ?_ ?_)
      | (with_reducible refine LeO.bind ?_ (fun _ => ?_))
      | exact ih0 _ _ _
      | exact LeO.none _
      | refine LeO.ite ?_ ?_
      | refine LeO.bind ?_ (fun _ => ?_)
set_option maxHeartbeats 8000000 in
set_option maxRecDepth 100000 in
theorem paymasterlaw09_letters.calls (k : Nat) (a0 : Int) (r : ByteArray) (w : World) (h : paymasterlaw09_letters.f k a0 = some r) :
    Calls Tryd.prog 76 #[.int .i64 a0] w fun e w' => e = .returned (.string r) ∧ Drawn0 w w' := by
  have H : (paymasterlaw09_letters.l0 k a0 (⟨#[]⟩ : ByteArray) 0) = some r := h
  clear h
  have H' := Aside0.mk H
  clear H
  go_enter Tryd.func76, Tryd.ntmps76
  go_wp2
  go_loopg [3, 4] k (fun kq v3 v4 w' => ∃ (x3_1 : ByteArray) (x4_1 : Int), v3 = .string x3_1 ∧ v4 = .int .i64 x4_1 ∧ Aside0 (paymasterlaw09_letters.l0 kq a0 x3_1 x4_1 = some r) ∧ Aside0 (kq ≤ k) ∧ Drawn0 w w')
  case atStart => exact ⟨((⟨#[]⟩ : ByteArray)), (0), (by first | rfl | (simp; done) | (simp [*]; done)), (by first | rfl | (simp; done) | (simp [*]; done)), H', ⟨Nat.le_refl _⟩, by repeat (first | exact Drawn0.refl _ | apply Drawn0.step)⟩
  case round =>
    clear H'
    obtain ⟨x3_1, x4_1, rfl, rfl, HA, HK1, ⟨m1, rfl⟩⟩ := hrel
    cases gk with
    | zero => exact absurd HA.out (by simp [paymasterlaw09_letters.l0])
    | succ k1 =>
      have H := HA.out
      clear HA
      simp only [paymasterlaw09_letters.l0] at H
      by_cases c2 : x4_1 < a0
      · rw [if_pos c2] at H
        have c2b0 : decide (x4_1 < a0) = true := decide_eq_true c2
        clear c2
        by_cases c3 : x3_1.size + 1 ≤ 9223372036854775807
        · rw [if_pos c3] at H
          have c3b0 := eq_true c3
          have c3b1 : decide (x3_1.size + 1 ≤ 9223372036854775807) = true := decide_eq_true c3
          try have c3b2 : (9223372036854775807 < x3_1.size + 1) = False := eq_false (Nat.not_lt.2 c3)
          have H' := Aside0.mk H
          clear H
          go_wp2
          go_roundg k1
          case measure => have := HK1.out; omega
          case rel => exact ⟨(x3_1 ++ (⟨#[97]⟩ : ByteArray)), (wrap64 (x4_1 + 1)), (by first | rfl | (simp; done) | (simp [*]; done)), (by first | rfl | (simp; done) | (simp [*]; done)), H', ⟨by have := HK1.out; omega⟩, by repeat (first | exact Drawn0.refl _ | apply Drawn0.step)⟩
        · rw [if_neg c3] at H
          exact absurd H (by simp)
      · rw [if_neg c2] at H
        have c2b0 : decide (x4_1 < a0) = false := decide_eq_false c2
        clear c2
        obtain rfl := Option.some.inj H
        go_wp2
        go_ret
        exact ⟨by first | rfl | (simp; done) | (simp [*]; done), by repeat (first | exact Drawn0.refl _ | apply Drawn0.step)⟩
def paymasterlaw09_awake.f (k : Nat)  : Option (Bool) := (lines_All.f (⟨#[97, 10, 35, 98]⟩ : ByteArray)).bind fun t192 => ((lines_All.f (⟨#[]⟩ : ByteArray)).bind fun t195 => ((paymasterlaw09_letters.f k 81).bind fun t198 => (if 2 + t198.size ≤ 9223372036854775807 then ((lines_Check.f ((⟨#[97, 10]⟩ : ByteArray) ++ t198)).bind fun bt199 => ((paymasterlaw09_letters.f k 81).bind fun t201 => (if t201.size + 1 ≤ 9223372036854775807 then ((lines_Check.f (t201 ++ (⟨#[255]⟩ : ByteArray))).bind fun bt202 => ((paymasterlaw09_letters.f k 80).bind fun t204 => ((lines_Check.f t204).bind fun bt205 => (if (t192.length : Int) = 2 then (if 0 < (t192.length : Int) then (if (((rd_T56 t192 0).f0) == 1 && ((((rd_T56 t192 0).f1).toList) == ([97] : List UInt8) && (((rd_T56 t192 0).f2) == 2 && (((rd_T56 t192 0).f3) == 0)))) = true then (if 1 < (t192.length : Int) then (if (((rd_T56 t192 1).f0) == 2 && ((((rd_T56 t192 1).f1).toList) == ([35, 98] : List UInt8) && (((rd_T56 t192 1).f2) == 1 && (((rd_T56 t192 1).f3) == 0)))) = true then (if (t195.length : Int) = 1 then (if 0 < (t195.length : Int) then (if (((rd_T56 t195 0).f0) == 1 && ((((rd_T56 t195 0).f1).toList) == ([] : List UInt8) && (((rd_T56 t195 0).f2) == 0 && (((rd_T56 t195 0).f3) == 0)))) = true then (if bt199.1 = 2 then (if bt199.2 = 91 then (if bt202.1 = 1 then (if bt202.2 = 90 then (if bt205.1 = 0 then (some (bt205.2 == 0)) else (none)) else (none)) else (none)) else (none)) else (none)) else (none)) else (none)) else (none)) else (none)) else (none)) else (none)) else (none)) else (none))))) else (none)))) else (none))))
theorem paymasterlaw09_awake.mono : ∀ k, LeO (paymasterlaw09_awake.f k ) (paymasterlaw09_awake.f (k + 1) ) := by
  intro  k
  unfold paymasterlaw09_awake.f
  repeat' first
      | (with_reducible exact paymasterlaw09_letters.mono _ _)
      | (with_reducible exact LeO.refl _)
      | (with_reducible exact LeO.none _)
      | (with_reducible refine LeO.ite ?_ ?_)
      | (with_reducible refine LeO.bind ?_ (fun _ => ?_))
      | exact paymasterlaw09_letters.mono _ _
      | exact LeO.none _
      | refine LeO.ite ?_ ?_
      | refine LeO.bind ?_ (fun _ => ?_)
set_option maxHeartbeats 8000000 in
set_option maxRecDepth 100000 in
theorem paymasterlaw09_awake.calls (k : Nat)  (r : Bool) (w : World) (hG : GT w) (h : paymasterlaw09_awake.f k  = some r) :
    Calls Tryd.prog 41 #[] w fun e w' => e = .returned (.bool r) ∧ Below w.heap.size w w' := by
  have hu56 := Tryd.underlying56
  have HB := Aside0.mk (Below.refl w.heap.size w)
  have H : ((lines_All.f (⟨#[97, 10, 35, 98]⟩ : ByteArray)).bind fun t192 => ((lines_All.f (⟨#[]⟩ : ByteArray)).bind fun t195 => ((paymasterlaw09_letters.f k 81).bind fun t198 => (if 2 + t198.size ≤ 9223372036854775807 then ((lines_Check.f ((⟨#[97, 10]⟩ : ByteArray) ++ t198)).bind fun bt199 => ((paymasterlaw09_letters.f k 81).bind fun t201 => (if t201.size + 1 ≤ 9223372036854775807 then ((lines_Check.f (t201 ++ (⟨#[255]⟩ : ByteArray))).bind fun bt202 => ((paymasterlaw09_letters.f k 80).bind fun t204 => ((lines_Check.f t204).bind fun bt205 => (if (t192.length : Int) = 2 then (if 0 < (t192.length : Int) then (if (((rd_T56 t192 0).f0) == 1 && ((((rd_T56 t192 0).f1).toList) == ([97] : List UInt8) && (((rd_T56 t192 0).f2) == 2 && (((rd_T56 t192 0).f3) == 0)))) = true then (if 1 < (t192.length : Int) then (if (((rd_T56 t192 1).f0) == 2 && ((((rd_T56 t192 1).f1).toList) == ([35, 98] : List UInt8) && (((rd_T56 t192 1).f2) == 1 && (((rd_T56 t192 1).f3) == 0)))) = true then (if (t195.length : Int) = 1 then (if 0 < (t195.length : Int) then (if (((rd_T56 t195 0).f0) == 1 && ((((rd_T56 t195 0).f1).toList) == ([] : List UInt8) && (((rd_T56 t195 0).f2) == 0 && (((rd_T56 t195 0).f3) == 0)))) = true then (if bt199.1 = 2 then (if bt199.2 = 91 then (if bt202.1 = 1 then (if bt202.2 = 90 then (if bt205.1 = 0 then (some (bt205.2 == 0)) else (none)) else (none)) else (none)) else (none)) else (none)) else (none)) else (none)) else (none)) else (none)) else (none)) else (none)) else (none)) else (none))))) else (none)))) else (none))))) = some r := h
  clear h
  replace H := Option.bind_eq_some_iff.mp H
  obtain ⟨t192, A10, H⟩ := H
  replace H : ((lines_All.f (⟨#[]⟩ : ByteArray)).bind fun t195 => ((paymasterlaw09_letters.f k 81).bind fun t198 => (if 2 + t198.size ≤ 9223372036854775807 then ((lines_Check.f ((⟨#[97, 10]⟩ : ByteArray) ++ t198)).bind fun bt199 => ((paymasterlaw09_letters.f k 81).bind fun t201 => (if t201.size + 1 ≤ 9223372036854775807 then ((lines_Check.f (t201 ++ (⟨#[255]⟩ : ByteArray))).bind fun bt202 => ((paymasterlaw09_letters.f k 80).bind fun t204 => ((lines_Check.f t204).bind fun bt205 => (if (t192.length : Int) = 2 then (if 0 < (t192.length : Int) then (if (((rd_T56 t192 0).f0) == 1 && ((((rd_T56 t192 0).f1).toList) == ([97] : List UInt8) && (((rd_T56 t192 0).f2) == 2 && (((rd_T56 t192 0).f3) == 0)))) = true then (if 1 < (t192.length : Int) then (if (((rd_T56 t192 1).f0) == 2 && ((((rd_T56 t192 1).f1).toList) == ([35, 98] : List UInt8) && (((rd_T56 t192 1).f2) == 1 && (((rd_T56 t192 1).f3) == 0)))) = true then (if (t195.length : Int) = 1 then (if 0 < (t195.length : Int) then (if (((rd_T56 t195 0).f0) == 1 && ((((rd_T56 t195 0).f1).toList) == ([] : List UInt8) && (((rd_T56 t195 0).f2) == 0 && (((rd_T56 t195 0).f3) == 0)))) = true then (if bt199.1 = 2 then (if bt199.2 = 91 then (if bt202.1 = 1 then (if bt202.2 = 90 then (if bt205.1 = 0 then (some (bt205.2 == 0)) else (none)) else (none)) else (none)) else (none)) else (none)) else (none)) else (none)) else (none)) else (none)) else (none)) else (none)) else (none)) else (none))))) else (none)))) else (none)))) = some r := H
  have A1 := Aside0.mk A10
  clear A10
  replace H := Option.bind_eq_some_iff.mp H
  obtain ⟨t195, A20, H⟩ := H
  replace H : ((paymasterlaw09_letters.f k 81).bind fun t198 => (if 2 + t198.size ≤ 9223372036854775807 then ((lines_Check.f ((⟨#[97, 10]⟩ : ByteArray) ++ t198)).bind fun bt199 => ((paymasterlaw09_letters.f k 81).bind fun t201 => (if t201.size + 1 ≤ 9223372036854775807 then ((lines_Check.f (t201 ++ (⟨#[255]⟩ : ByteArray))).bind fun bt202 => ((paymasterlaw09_letters.f k 80).bind fun t204 => ((lines_Check.f t204).bind fun bt205 => (if (t192.length : Int) = 2 then (if 0 < (t192.length : Int) then (if (((rd_T56 t192 0).f0) == 1 && ((((rd_T56 t192 0).f1).toList) == ([97] : List UInt8) && (((rd_T56 t192 0).f2) == 2 && (((rd_T56 t192 0).f3) == 0)))) = true then (if 1 < (t192.length : Int) then (if (((rd_T56 t192 1).f0) == 2 && ((((rd_T56 t192 1).f1).toList) == ([35, 98] : List UInt8) && (((rd_T56 t192 1).f2) == 1 && (((rd_T56 t192 1).f3) == 0)))) = true then (if (t195.length : Int) = 1 then (if 0 < (t195.length : Int) then (if (((rd_T56 t195 0).f0) == 1 && ((((rd_T56 t195 0).f1).toList) == ([] : List UInt8) && (((rd_T56 t195 0).f2) == 0 && (((rd_T56 t195 0).f3) == 0)))) = true then (if bt199.1 = 2 then (if bt199.2 = 91 then (if bt202.1 = 1 then (if bt202.2 = 90 then (if bt205.1 = 0 then (some (bt205.2 == 0)) else (none)) else (none)) else (none)) else (none)) else (none)) else (none)) else (none)) else (none)) else (none)) else (none)) else (none)) else (none)) else (none))))) else (none)))) else (none))) = some r := H
  have A2 := Aside0.mk A20
  clear A20
  replace H := Option.bind_eq_some_iff.mp H
  obtain ⟨t198, A30, H⟩ := H
  replace H : (if 2 + t198.size ≤ 9223372036854775807 then ((lines_Check.f ((⟨#[97, 10]⟩ : ByteArray) ++ t198)).bind fun bt199 => ((paymasterlaw09_letters.f k 81).bind fun t201 => (if t201.size + 1 ≤ 9223372036854775807 then ((lines_Check.f (t201 ++ (⟨#[255]⟩ : ByteArray))).bind fun bt202 => ((paymasterlaw09_letters.f k 80).bind fun t204 => ((lines_Check.f t204).bind fun bt205 => (if (t192.length : Int) = 2 then (if 0 < (t192.length : Int) then (if (((rd_T56 t192 0).f0) == 1 && ((((rd_T56 t192 0).f1).toList) == ([97] : List UInt8) && (((rd_T56 t192 0).f2) == 2 && (((rd_T56 t192 0).f3) == 0)))) = true then (if 1 < (t192.length : Int) then (if (((rd_T56 t192 1).f0) == 2 && ((((rd_T56 t192 1).f1).toList) == ([35, 98] : List UInt8) && (((rd_T56 t192 1).f2) == 1 && (((rd_T56 t192 1).f3) == 0)))) = true then (if (t195.length : Int) = 1 then (if 0 < (t195.length : Int) then (if (((rd_T56 t195 0).f0) == 1 && ((((rd_T56 t195 0).f1).toList) == ([] : List UInt8) && (((rd_T56 t195 0).f2) == 0 && (((rd_T56 t195 0).f3) == 0)))) = true then (if bt199.1 = 2 then (if bt199.2 = 91 then (if bt202.1 = 1 then (if bt202.2 = 90 then (if bt205.1 = 0 then (some (bt205.2 == 0)) else (none)) else (none)) else (none)) else (none)) else (none)) else (none)) else (none)) else (none)) else (none)) else (none)) else (none)) else (none)) else (none))))) else (none)))) else (none)) = some r := H
  have A3 := Aside0.mk A30
  clear A30
  by_cases c4 : 2 + t198.size ≤ 9223372036854775807
  · rw [if_pos c4] at H
    have c4b0 := eq_true c4
    have c4b1 : decide (2 + t198.size ≤ 9223372036854775807) = true := decide_eq_true c4
    try have c4b2 : (9223372036854775807 < 2 + t198.size) = False := eq_false (Nat.not_lt.2 c4)
    replace H := Option.bind_eq_some_iff.mp H
    obtain ⟨⟨t199, t200⟩, A50, H⟩ := H
    replace H : ((paymasterlaw09_letters.f k 81).bind fun t201 => (if t201.size + 1 ≤ 9223372036854775807 then ((lines_Check.f (t201 ++ (⟨#[255]⟩ : ByteArray))).bind fun bt202 => ((paymasterlaw09_letters.f k 80).bind fun t204 => ((lines_Check.f t204).bind fun bt205 => (if (t192.length : Int) = 2 then (if 0 < (t192.length : Int) then (if (((rd_T56 t192 0).f0) == 1 && ((((rd_T56 t192 0).f1).toList) == ([97] : List UInt8) && (((rd_T56 t192 0).f2) == 2 && (((rd_T56 t192 0).f3) == 0)))) = true then (if 1 < (t192.length : Int) then (if (((rd_T56 t192 1).f0) == 2 && ((((rd_T56 t192 1).f1).toList) == ([35, 98] : List UInt8) && (((rd_T56 t192 1).f2) == 1 && (((rd_T56 t192 1).f3) == 0)))) = true then (if (t195.length : Int) = 1 then (if 0 < (t195.length : Int) then (if (((rd_T56 t195 0).f0) == 1 && ((((rd_T56 t195 0).f1).toList) == ([] : List UInt8) && (((rd_T56 t195 0).f2) == 0 && (((rd_T56 t195 0).f3) == 0)))) = true then (if t199 = 2 then (if t200 = 91 then (if bt202.1 = 1 then (if bt202.2 = 90 then (if bt205.1 = 0 then (some (bt205.2 == 0)) else (none)) else (none)) else (none)) else (none)) else (none)) else (none)) else (none)) else (none)) else (none)) else (none)) else (none)) else (none)) else (none))))) else (none))) = some r := H
    have A5 := Aside0.mk A50
    clear A50
    replace H := Option.bind_eq_some_iff.mp H
    obtain ⟨t201, A60, H⟩ := H
    replace H : (if t201.size + 1 ≤ 9223372036854775807 then ((lines_Check.f (t201 ++ (⟨#[255]⟩ : ByteArray))).bind fun bt202 => ((paymasterlaw09_letters.f k 80).bind fun t204 => ((lines_Check.f t204).bind fun bt205 => (if (t192.length : Int) = 2 then (if 0 < (t192.length : Int) then (if (((rd_T56 t192 0).f0) == 1 && ((((rd_T56 t192 0).f1).toList) == ([97] : List UInt8) && (((rd_T56 t192 0).f2) == 2 && (((rd_T56 t192 0).f3) == 0)))) = true then (if 1 < (t192.length : Int) then (if (((rd_T56 t192 1).f0) == 2 && ((((rd_T56 t192 1).f1).toList) == ([35, 98] : List UInt8) && (((rd_T56 t192 1).f2) == 1 && (((rd_T56 t192 1).f3) == 0)))) = true then (if (t195.length : Int) = 1 then (if 0 < (t195.length : Int) then (if (((rd_T56 t195 0).f0) == 1 && ((((rd_T56 t195 0).f1).toList) == ([] : List UInt8) && (((rd_T56 t195 0).f2) == 0 && (((rd_T56 t195 0).f3) == 0)))) = true then (if t199 = 2 then (if t200 = 91 then (if bt202.1 = 1 then (if bt202.2 = 90 then (if bt205.1 = 0 then (some (bt205.2 == 0)) else (none)) else (none)) else (none)) else (none)) else (none)) else (none)) else (none)) else (none)) else (none)) else (none)) else (none)) else (none)) else (none))))) else (none)) = some r := H
    have A6 := Aside0.mk A60
    clear A60
    by_cases c7 : t201.size + 1 ≤ 9223372036854775807
    · rw [if_pos c7] at H
      have c7b0 := eq_true c7
      have c7b1 : decide (t201.size + 1 ≤ 9223372036854775807) = true := decide_eq_true c7
      try have c7b2 : (9223372036854775807 < t201.size + 1) = False := eq_false (Nat.not_lt.2 c7)
      replace H := Option.bind_eq_some_iff.mp H
      obtain ⟨⟨t202, t203⟩, A80, H⟩ := H
      replace H : ((paymasterlaw09_letters.f k 80).bind fun t204 => ((lines_Check.f t204).bind fun bt205 => (if (t192.length : Int) = 2 then (if 0 < (t192.length : Int) then (if (((rd_T56 t192 0).f0) == 1 && ((((rd_T56 t192 0).f1).toList) == ([97] : List UInt8) && (((rd_T56 t192 0).f2) == 2 && (((rd_T56 t192 0).f3) == 0)))) = true then (if 1 < (t192.length : Int) then (if (((rd_T56 t192 1).f0) == 2 && ((((rd_T56 t192 1).f1).toList) == ([35, 98] : List UInt8) && (((rd_T56 t192 1).f2) == 1 && (((rd_T56 t192 1).f3) == 0)))) = true then (if (t195.length : Int) = 1 then (if 0 < (t195.length : Int) then (if (((rd_T56 t195 0).f0) == 1 && ((((rd_T56 t195 0).f1).toList) == ([] : List UInt8) && (((rd_T56 t195 0).f2) == 0 && (((rd_T56 t195 0).f3) == 0)))) = true then (if t199 = 2 then (if t200 = 91 then (if t202 = 1 then (if t203 = 90 then (if bt205.1 = 0 then (some (bt205.2 == 0)) else (none)) else (none)) else (none)) else (none)) else (none)) else (none)) else (none)) else (none)) else (none)) else (none)) else (none)) else (none)) else (none)))) = some r := H
      have A8 := Aside0.mk A80
      clear A80
      replace H := Option.bind_eq_some_iff.mp H
      obtain ⟨t204, A90, H⟩ := H
      replace H : ((lines_Check.f t204).bind fun bt205 => (if (t192.length : Int) = 2 then (if 0 < (t192.length : Int) then (if (((rd_T56 t192 0).f0) == 1 && ((((rd_T56 t192 0).f1).toList) == ([97] : List UInt8) && (((rd_T56 t192 0).f2) == 2 && (((rd_T56 t192 0).f3) == 0)))) = true then (if 1 < (t192.length : Int) then (if (((rd_T56 t192 1).f0) == 2 && ((((rd_T56 t192 1).f1).toList) == ([35, 98] : List UInt8) && (((rd_T56 t192 1).f2) == 1 && (((rd_T56 t192 1).f3) == 0)))) = true then (if (t195.length : Int) = 1 then (if 0 < (t195.length : Int) then (if (((rd_T56 t195 0).f0) == 1 && ((((rd_T56 t195 0).f1).toList) == ([] : List UInt8) && (((rd_T56 t195 0).f2) == 0 && (((rd_T56 t195 0).f3) == 0)))) = true then (if t199 = 2 then (if t200 = 91 then (if t202 = 1 then (if t203 = 90 then (if bt205.1 = 0 then (some (bt205.2 == 0)) else (none)) else (none)) else (none)) else (none)) else (none)) else (none)) else (none)) else (none)) else (none)) else (none)) else (none)) else (none)) else (none))) = some r := H
      have A9 := Aside0.mk A90
      clear A90
      replace H := Option.bind_eq_some_iff.mp H
      obtain ⟨⟨t205, t206⟩, A100, H⟩ := H
      replace H : (if (t192.length : Int) = 2 then (if 0 < (t192.length : Int) then (if (((rd_T56 t192 0).f0) == 1 && ((((rd_T56 t192 0).f1).toList) == ([97] : List UInt8) && (((rd_T56 t192 0).f2) == 2 && (((rd_T56 t192 0).f3) == 0)))) = true then (if 1 < (t192.length : Int) then (if (((rd_T56 t192 1).f0) == 2 && ((((rd_T56 t192 1).f1).toList) == ([35, 98] : List UInt8) && (((rd_T56 t192 1).f2) == 1 && (((rd_T56 t192 1).f3) == 0)))) = true then (if (t195.length : Int) = 1 then (if 0 < (t195.length : Int) then (if (((rd_T56 t195 0).f0) == 1 && ((((rd_T56 t195 0).f1).toList) == ([] : List UInt8) && (((rd_T56 t195 0).f2) == 0 && (((rd_T56 t195 0).f3) == 0)))) = true then (if t199 = 2 then (if t200 = 91 then (if t202 = 1 then (if t203 = 90 then (if t205 = 0 then (some (t206 == 0)) else (none)) else (none)) else (none)) else (none)) else (none)) else (none)) else (none)) else (none)) else (none)) else (none)) else (none)) else (none)) else (none)) = some r := H
      have A10 := Aside0.mk A100
      clear A100
      by_cases c11 : (t192.length : Int) = 2
      · rw [if_pos c11] at H
        have c11b0 : ((t192.length : Int) == 2) = true := beq_iff_eq.mpr c11
        have c11b1 : ((t192.length : Int) != 2) = false := bne_eq_false_iff_eq.mpr c11
        clear c11
        by_cases c12 : 0 < (t192.length : Int)
        · rw [if_pos c12] at H
          have c12b0 : decide (0 < (t192.length : Int)) = true := decide_eq_true c12
          have c12b1 : decide (0 < t192.length) = true := decide_eq_true (by omega)
          clear c12
          by_cases c13 : (((rd_T56 t192 0).f0) == 1 && ((((rd_T56 t192 0).f1).toList) == ([97] : List UInt8) && (((rd_T56 t192 0).f2) == 2 && (((rd_T56 t192 0).f3) == 0)))) = true
          · rw [if_pos c13] at H
            have c13b0 : (((rd_T56 t192 0).f0) == 1 && ((((rd_T56 t192 0).f1).toList) == ([97] : List UInt8) && (((rd_T56 t192 0).f2) == 2 && (((rd_T56 t192 0).f3) == 0)))) = true := c13
            (try (have c13b1 : decide (((rd_T56 t192 0).f0) = 1 && ((((rd_T56 t192 0).f1).toList) == ([97] : List UInt8) && (((rd_T56 t192 0).f2) == 2 && (((rd_T56 t192 0).f3) == 0)))) = true := by simpa using c13))
            (try (have c13b2 : (((rd_T56 t192 0).f0) == 1 && ((((rd_T56 t192 0).f1).toList) == ([97] : List UInt8) && (((rd_T56 t192 0).f2) == 2 && (((rd_T56 t192 0).f3) == 0)))) = true := by simpa using c13))
            clear c13
            by_cases c14 : 1 < (t192.length : Int)
            · rw [if_pos c14] at H
              have c14b0 : decide (1 < (t192.length : Int)) = true := decide_eq_true c14
              have c14b1 : decide (1 < t192.length) = true := decide_eq_true (by omega)
              clear c14
              by_cases c15 : (((rd_T56 t192 1).f0) == 2 && ((((rd_T56 t192 1).f1).toList) == ([35, 98] : List UInt8) && (((rd_T56 t192 1).f2) == 1 && (((rd_T56 t192 1).f3) == 0)))) = true
              · rw [if_pos c15] at H
                have c15b0 : (((rd_T56 t192 1).f0) == 2 && ((((rd_T56 t192 1).f1).toList) == ([35, 98] : List UInt8) && (((rd_T56 t192 1).f2) == 1 && (((rd_T56 t192 1).f3) == 0)))) = true := c15
                (try (have c15b1 : decide (((rd_T56 t192 1).f0) = 2 && ((((rd_T56 t192 1).f1).toList) == ([35, 98] : List UInt8) && (((rd_T56 t192 1).f2) == 1 && (((rd_T56 t192 1).f3) == 0)))) = true := by simpa using c15))
                (try (have c15b2 : (((rd_T56 t192 1).f0) == 2 && ((((rd_T56 t192 1).f1).toList) == ([35, 98] : List UInt8) && (((rd_T56 t192 1).f2) == 1 && (((rd_T56 t192 1).f3) == 0)))) = true := by simpa using c15))
                clear c15
                by_cases c16 : (t195.length : Int) = 1
                · rw [if_pos c16] at H
                  have c16b0 : ((t195.length : Int) == 1) = true := beq_iff_eq.mpr c16
                  have c16b1 : ((t195.length : Int) != 1) = false := bne_eq_false_iff_eq.mpr c16
                  clear c16
                  by_cases c17 : 0 < (t195.length : Int)
                  · rw [if_pos c17] at H
                    have c17b0 : decide (0 < (t195.length : Int)) = true := decide_eq_true c17
                    have c17b1 : decide (0 < t195.length) = true := decide_eq_true (by omega)
                    clear c17
                    by_cases c18 : (((rd_T56 t195 0).f0) == 1 && ((((rd_T56 t195 0).f1).toList) == ([] : List UInt8) && (((rd_T56 t195 0).f2) == 0 && (((rd_T56 t195 0).f3) == 0)))) = true
                    · rw [if_pos c18] at H
                      have c18b0 : (((rd_T56 t195 0).f0) == 1 && ((((rd_T56 t195 0).f1).toList) == ([] : List UInt8) && (((rd_T56 t195 0).f2) == 0 && (((rd_T56 t195 0).f3) == 0)))) = true := c18
                      (try (have c18b1 : decide (((rd_T56 t195 0).f0) = 1 && ((((rd_T56 t195 0).f1).toList) == ([] : List UInt8) && (((rd_T56 t195 0).f2) == 0 && (((rd_T56 t195 0).f3) == 0)))) = true := by simpa using c18))
                      (try (have c18b2 : (((rd_T56 t195 0).f0) == 1 && ((((rd_T56 t195 0).f1).toList) == ([] : List UInt8) && (((rd_T56 t195 0).f2) == 0 && (((rd_T56 t195 0).f3) == 0)))) = true := by simpa using c18))
                      clear c18
                      by_cases c19 : t199 = 2
                      · rw [if_pos c19] at H
                        have c19b0 : (t199 == 2) = true := beq_iff_eq.mpr c19
                        have c19b1 : (t199 != 2) = false := bne_eq_false_iff_eq.mpr c19
                        clear c19
                        by_cases c20 : t200 = 91
                        · rw [if_pos c20] at H
                          have c20b0 : (t200 == 91) = true := beq_iff_eq.mpr c20
                          have c20b1 : (t200 != 91) = false := bne_eq_false_iff_eq.mpr c20
                          clear c20
                          by_cases c21 : t202 = 1
                          · rw [if_pos c21] at H
                            have c21b0 : (t202 == 1) = true := beq_iff_eq.mpr c21
                            have c21b1 : (t202 != 1) = false := bne_eq_false_iff_eq.mpr c21
                            clear c21
                            by_cases c22 : t203 = 90
                            · rw [if_pos c22] at H
                              have c22b0 : (t203 == 90) = true := beq_iff_eq.mpr c22
                              have c22b1 : (t203 != 90) = false := bne_eq_false_iff_eq.mpr c22
                              clear c22
                              by_cases c23 : t205 = 0
                              · rw [if_pos c23] at H
                                have c23b0 : (t205 == 0) = true := beq_iff_eq.mpr c23
                                have c23b1 : (t205 != 0) = false := bne_eq_false_iff_eq.mpr c23
                                clear c23
                                obtain rfl := Option.some.inj H
                                go_enter Tryd.func41, Tryd.ntmps41
                                go_wp2_with (first | ((with_reducible refine gate_callee (f := 34) rfl ?_); refine goesL_ (some 9) rfl rfl Tryd.func34 (by kernel_rfl) rfl #[.string (⟨#[97, 10, 35, 98]⟩ : ByteArray)] rfl (by (try simp only [List.map_toArray, List.map_cons, List.map_nil]); first | done | rfl | (simp only [List.length_drop, List.length_take]; rfl)) ?_; (with_reducible refine (lines_All.calls (⟨#[97, 10, 35, 98]⟩ : ByteArray) t192 _ ?side1 A1.out).mono ?_); (case side1 => exact gt_below hG (by repeat (first | (with_reducible first | exact HB.out | apply below_alloc | apply pw_below_drewN | apply below_drew1) | exact HB.out))); rintro e w24 ⟨v193, rfl, ho0, hb⟩; refine ⟨_, rfl, ?_⟩; have n0_ := Aside0.mk (Kd.R_lower ho0 (below_size (by repeat (first | (with_reducible first | exact HB.out | apply below_alloc | apply pw_below_drewN | apply below_drew1) | exact HB.out)))); have n1_ := Aside0.mk (below_step (by repeat (first | (with_reducible first | exact HB.out | apply below_alloc | apply pw_below_drewN | apply below_drew1) | exact HB.out)) hb); clear HB; have HO194 := n0_; have HB := n1_; clear n0_ n1_; (try clear hb); (try clear hb2); (try clear hk); (try clear hi); (try clear ho0)) | ((with_reducible refine gate_callee (f := 34) rfl ?_); refine goesL_ (some 10) rfl rfl Tryd.func34 (by kernel_rfl) rfl #[.string (⟨#[]⟩ : ByteArray)] rfl (by (try simp only [List.map_toArray, List.map_cons, List.map_nil]); first | done | rfl | (simp only [List.length_drop, List.length_take]; rfl)) ?_; (with_reducible refine (lines_All.calls (⟨#[]⟩ : ByteArray) t195 _ ?side1 A2.out).mono ?_); (case side1 => exact gt_below hG (by repeat (first | (with_reducible first | exact HB.out | apply below_alloc | apply pw_below_drewN | apply below_drew1) | exact HB.out))); rintro e w25 ⟨v196, rfl, ho0, hb⟩; refine ⟨_, rfl, ?_⟩; have n0_ := Aside0.mk (Kd.R_elder' (by (with_reducible repeat (first | apply Kd.R_alloc | apply Kd.R_drewN | apply Kd.R_drew)); exact HO194.out) (Kd.R_base ho0) hb); have n1_ := Aside0.mk (Kd.R_lower (Kd.R_new' ho0 (Kd.R_lt (by (with_reducible repeat (first | apply Kd.R_alloc | apply Kd.R_drewN | apply Kd.R_drew)); exact HO194.out))) (below_size (by repeat (first | (with_reducible first | exact HB.out | apply below_alloc | apply pw_below_drewN | apply below_drew1) | exact HB.out)))); have n2_ := Aside0.mk (below_step (by repeat (first | (with_reducible first | exact HB.out | apply below_alloc | apply pw_below_drewN | apply below_drew1) | exact HB.out)) hb); clear HO194; clear HB; have HO194 := n0_; have HO197 := n1_; have HB := n2_; clear n0_ n1_ n2_; (try clear hb); (try clear hb2); (try clear hk); (try clear hi); (try clear ho0)) | ((with_reducible refine gate_callee (f := 76) rfl ?_); refine goesL_ (some 12) rfl rfl Tryd.func76 (by kernel_rfl) rfl #[.int .i64 81] rfl (by (try simp only [List.map_toArray, List.map_cons, List.map_nil]); first | done | rfl | (simp only [List.length_drop, List.length_take]; rfl)) ?_; (with_reducible refine (paymasterlaw09_letters.calls k 81 t198 _ A3.out).mono ?_); rintro e w' ⟨rfl, ⟨nd, rfl⟩⟩; refine ⟨_, rfl, ?_⟩) | ((with_reducible refine gate_callee (f := 39) rfl ?_); refine goesL_ (some 14) rfl rfl Tryd.func39 (by kernel_rfl) rfl #[.string ((⟨#[97, 10]⟩ : ByteArray) ++ t198)] rfl (by (try simp only [List.map_toArray, List.map_cons, List.map_nil]); first | done | rfl | (simp only [List.length_drop, List.length_take]; rfl)) ?_; (with_reducible refine (lines_Check.calls ((⟨#[97, 10]⟩ : ByteArray) ++ t198) t199 t200 _ ?side1 A5.out).mono ?_); (case side1 => exact gt_below hG (by repeat (first | (with_reducible first | exact HB.out | apply below_alloc | apply pw_below_drewN | apply below_drew1) | exact HB.out))); rintro e w26 ⟨rfl, hb⟩; refine ⟨_, rfl, ?_⟩; have n0_ := Aside0.mk (Kd.R_below (by (with_reducible repeat (first | apply Kd.R_alloc | apply Kd.R_drewN | apply Kd.R_drew)); exact HO194.out) hb); have n1_ := Aside0.mk (Kd.R_below (by (with_reducible repeat (first | apply Kd.R_alloc | apply Kd.R_drewN | apply Kd.R_drew)); exact HO197.out) hb); have n2_ := Aside0.mk (below_step (by repeat (first | (with_reducible first | exact HB.out | apply below_alloc | apply pw_below_drewN | apply below_drew1) | exact HB.out)) hb); clear HO194; clear HO197; clear HB; have HO194 := n0_; have HO197 := n1_; have HB := n2_; clear n0_ n1_ n2_; (try clear hb); (try clear hb2); (try clear hk); (try clear hi)) | ((with_reducible refine gate_callee (f := 76) rfl ?_); refine goesL_ (some 18) rfl rfl Tryd.func76 (by kernel_rfl) rfl #[.int .i64 81] rfl (by (try simp only [List.map_toArray, List.map_cons, List.map_nil]); first | done | rfl | (simp only [List.length_drop, List.length_take]; rfl)) ?_; (with_reducible refine (paymasterlaw09_letters.calls k 81 t201 _ A6.out).mono ?_); rintro e w' ⟨rfl, ⟨nd, rfl⟩⟩; refine ⟨_, rfl, ?_⟩) | ((with_reducible refine gate_callee (f := 39) rfl ?_); refine goesL_ (some 20) rfl rfl Tryd.func39 (by kernel_rfl) rfl #[.string (t201 ++ (⟨#[255]⟩ : ByteArray))] rfl (by (try simp only [List.map_toArray, List.map_cons, List.map_nil]); first | done | rfl | (simp only [List.length_drop, List.length_take]; rfl)) ?_; (with_reducible refine (lines_Check.calls (t201 ++ (⟨#[255]⟩ : ByteArray)) t202 t203 _ ?side1 A8.out).mono ?_); (case side1 => exact gt_below hG (by repeat (first | (with_reducible first | exact HB.out | apply below_alloc | apply pw_below_drewN | apply below_drew1) | exact HB.out))); rintro e w27 ⟨rfl, hb⟩; refine ⟨_, rfl, ?_⟩; have n0_ := Aside0.mk (Kd.R_below (by (with_reducible repeat (first | apply Kd.R_alloc | apply Kd.R_drewN | apply Kd.R_drew)); exact HO194.out) hb); have n1_ := Aside0.mk (Kd.R_below (by (with_reducible repeat (first | apply Kd.R_alloc | apply Kd.R_drewN | apply Kd.R_drew)); exact HO197.out) hb); have n2_ := Aside0.mk (below_step (by repeat (first | (with_reducible first | exact HB.out | apply below_alloc | apply pw_below_drewN | apply below_drew1) | exact HB.out)) hb); clear HO194; clear HO197; clear HB; have HO194 := n0_; have HO197 := n1_; have HB := n2_; clear n0_ n1_ n2_; (try clear hb); (try clear hb2); (try clear hk); (try clear hi)) | ((with_reducible refine gate_callee (f := 76) rfl ?_); refine goesL_ (some 24) rfl rfl Tryd.func76 (by kernel_rfl) rfl #[.int .i64 80] rfl (by (try simp only [List.map_toArray, List.map_cons, List.map_nil]); first | done | rfl | (simp only [List.length_drop, List.length_take]; rfl)) ?_; (with_reducible refine (paymasterlaw09_letters.calls k 80 t204 _ A9.out).mono ?_); rintro e w' ⟨rfl, ⟨nd, rfl⟩⟩; refine ⟨_, rfl, ?_⟩) | ((with_reducible refine gate_callee (f := 39) rfl ?_); refine goesL_ (some 25) rfl rfl Tryd.func39 (by kernel_rfl) rfl #[.string t204] rfl (by (try simp only [List.map_toArray, List.map_cons, List.map_nil]); first | done | rfl | (simp only [List.length_drop, List.length_take]; rfl)) ?_; (with_reducible refine (lines_Check.calls t204 t205 t206 _ ?side1 A10.out).mono ?_); (case side1 => exact gt_below hG (by repeat (first | (with_reducible first | exact HB.out | apply below_alloc | apply pw_below_drewN | apply below_drew1) | exact HB.out))); rintro e w28 ⟨rfl, hb⟩; refine ⟨_, rfl, ?_⟩; have n0_ := Aside0.mk (Kd.R_below (by (with_reducible repeat (first | apply Kd.R_alloc | apply Kd.R_drewN | apply Kd.R_drew)); exact HO194.out) hb); have n1_ := Aside0.mk (Kd.R_below (by (with_reducible repeat (first | apply Kd.R_alloc | apply Kd.R_drewN | apply Kd.R_drew)); exact HO197.out) hb); have n2_ := Aside0.mk (below_step (by repeat (first | (with_reducible first | exact HB.out | apply below_alloc | apply pw_below_drewN | apply below_drew1) | exact HB.out)) hb); clear HO194; clear HO197; clear HB; have HO194 := n0_; have HO197 := n1_; have HB := n2_; clear n0_ n1_ n2_; (try clear hb); (try clear hb2); (try clear hk); (try clear hi); obtain ⟨Ao29, co29, eo29⟩ := Kd.R_slice HO194.out; subst eo29; have p207 : 0 ≤ (0 : Int) := (by omega); have q207 : 0 < (t192.length : Int) := of_decide_eq_true (by first | (with_reducible assumption) | assumption); obtain ⟨ad207, e207, hx207_0, hx207_1, hx207_2, hx207_3⟩ := at_T56 (Kd.R_reads' HO194.out).2.2 0 p207 q207; cases e207; have qi207 : (0 < t192.length) = True := eq_true (by omega); (try rw [show ((0 : Int)).toNat = 0 from rfl] at hx207_0); (try rw [show 0 * 4 = 0 from rfl] at hx207_0); (try rw [Addr.add_zero'] at hx207_0); (try rw [show ((0 : Int)).toNat = 0 from rfl] at hx207_1); (try rw [show 0 * 4 = 0 from rfl] at hx207_1); (try rw [Addr.add_zero'] at hx207_1); (try rw [show ((0 : Int)).toNat = 0 from rfl] at hx207_2); (try rw [show 0 * 4 = 0 from rfl] at hx207_2); (try rw [Addr.add_zero'] at hx207_2); (try rw [show ((0 : Int)).toNat = 0 from rfl] at hx207_3); (try rw [show 0 * 4 = 0 from rfl] at hx207_3); (try rw [Addr.add_zero'] at hx207_3); replace p207 := eq_true p207; replace q207 := eq_true q207; have p208 : 0 ≤ (1 : Int) := (by omega); have q208 : 1 < (t192.length : Int) := of_decide_eq_true (by first | (with_reducible assumption) | assumption); obtain ⟨ad208, e208, hx208_0, hx208_1, hx208_2, hx208_3⟩ := at_T56 (Kd.R_reads' HO194.out).2.2 1 p208 q208; obtain rfl : ad207 = ad208 := (by injection e208); (try simp only [show (1 : Int).toNat = 1 from rfl, Nat.reduceMul, Nat.reduceEqDiff, Go.Addr.add, ↓reduceIte] at hx208_0); (try simp only [show (1 : Int).toNat = 1 from rfl, Nat.reduceMul, Nat.reduceEqDiff, Go.Addr.add, ↓reduceIte] at hx208_1); (try simp only [show (1 : Int).toNat = 1 from rfl, Nat.reduceMul, Nat.reduceEqDiff, Go.Addr.add, ↓reduceIte] at hx208_2); (try simp only [show (1 : Int).toNat = 1 from rfl, Nat.reduceMul, Nat.reduceEqDiff, Go.Addr.add, ↓reduceIte] at hx208_3); have qi208 : (1 < t192.length) = True := eq_true (by omega); (try rw [show ((1 : Int)).toNat = 1 from rfl] at hx208_0); (try rw [show 1 * 4 = 4 from rfl] at hx208_0); (try rw [show ((1 : Int)).toNat = 1 from rfl] at hx208_1); (try rw [show 1 * 4 = 4 from rfl] at hx208_1); (try rw [show ((1 : Int)).toNat = 1 from rfl] at hx208_2); (try rw [show 1 * 4 = 4 from rfl] at hx208_2); (try rw [show ((1 : Int)).toNat = 1 from rfl] at hx208_3); (try rw [show 1 * 4 = 4 from rfl] at hx208_3); replace p208 := eq_true p208; replace q208 := eq_true q208; obtain ⟨Ao30, co30, eo30⟩ := Kd.R_slice HO197.out; subst eo30; have p209 : 0 ≤ (0 : Int) := (by omega); have q209 : 0 < (t195.length : Int) := of_decide_eq_true (by first | (with_reducible assumption) | assumption); obtain ⟨ad209, e209, hx209_0, hx209_1, hx209_2, hx209_3⟩ := at_T56 (Kd.R_reads' HO197.out).2.2 0 p209 q209; cases e209; have qi209 : (0 < t195.length) = True := eq_true (by omega); (try rw [show ((0 : Int)).toNat = 0 from rfl] at hx209_0); (try rw [show 0 * 4 = 0 from rfl] at hx209_0); (try rw [Addr.add_zero'] at hx209_0); (try rw [show ((0 : Int)).toNat = 0 from rfl] at hx209_1); (try rw [show 0 * 4 = 0 from rfl] at hx209_1); (try rw [Addr.add_zero'] at hx209_1); (try rw [show ((0 : Int)).toNat = 0 from rfl] at hx209_2); (try rw [show 0 * 4 = 0 from rfl] at hx209_2); (try rw [Addr.add_zero'] at hx209_2); (try rw [show ((0 : Int)).toNat = 0 from rfl] at hx209_3); (try rw [show 0 * 4 = 0 from rfl] at hx209_3); (try rw [Addr.add_zero'] at hx209_3); replace p209 := eq_true p209; replace q209 := eq_true q209))
                                · go_ret
                                  exact ⟨by first | rfl | (simp [errW_none, errW_some] <;> rfl) | (simp [*, errW_none, errW_some] <;> rfl), by repeat (first | (with_reducible first | exact HB.out | apply below_alloc | apply pw_below_drewN | apply below_drew1) | exact HB.out)⟩
                                · rename_i hh_
                                  exact absurd (by simpa using c18b0) hh_
                              · rw [if_neg c23] at H
                                exact absurd H (by simp)
                            · rw [if_neg c22] at H
                              exact absurd H (by simp)
                          · rw [if_neg c21] at H
                            exact absurd H (by simp)
                        · rw [if_neg c20] at H
                          exact absurd H (by simp)
                      · rw [if_neg c19] at H
                        exact absurd H (by simp)
                    · rw [if_neg c18] at H
                      exact absurd H (by simp)
                  · rw [if_neg c17] at H
                    exact absurd H (by simp)
                · rw [if_neg c16] at H
                  exact absurd H (by simp)
              · rw [if_neg c15] at H
                exact absurd H (by simp)
            · rw [if_neg c14] at H
              exact absurd H (by simp)
          · rw [if_neg c13] at H
            exact absurd H (by simp)
        · rw [if_neg c12] at H
          exact absurd H (by simp)
      · rw [if_neg c11] at H
        exact absurd H (by simp)
    · rw [if_neg c7] at H
      exact absurd H (by simp)
  · rw [if_neg c4] at H
    exact absurd H (by simp)
end Go.Proofs.YtpkjpiphjdpegaaDoor.P
namespace Go.Proofs.YtpkjpiphjdpegaaDoor.P
open Go.RowKit Go.Proofs.YtpkjpiphjdpegaaDoorW.PrintWords Go.Proofs.YtpkjpiphjdpegaaDoorW.PrintLast Go.Proofs.YtpkjpiphjdpegaaDoorW.PrintMore
theorem awake09 : paymasterlaw09_awake.f 100 = some true := by kernel_rfl
end Go.Proofs.YtpkjpiphjdpegaaDoor.P
namespace Go.Proofs.YtpkjpiphjdpegaaDoor.P
open Go.RowKit Go.Proofs.YtpkjpiphjdpegaaDoorW.PrintWords Go.Proofs.YtpkjpiphjdpegaaDoorW.PrintLast Go.Proofs.YtpkjpiphjdpegaaDoorW.PrintMore
attribute [local go_sem] max2_int min2_int max_two min_two max_three min_three max_four min_four
set_option linter.unusedVariables false
set_option linter.unusedSimpArgs false
mutual
def paymasterlaw09_LinesUtf.j0 : Nat → ByteArray → List Int → Bool → Option (Bool)
  | 0, _, _, _ => none
  | k + 1, x0, x1, x22 => if x22 = true then (some true) else ((lines_Runes.f x0).bind fun bt290 => (if bt290.2 = 0 then ((lines_Text.f bt290.1).bind fun bt294 => (if bt294.2 = 0 then (if bt294.1.toList = x0.toList then (if (bt290.1.length : Int) > (x0.size : Int) then (none) else (if (x0.size : Int) > (wrap64 (4 * (bt290.1.length : Int))) then (none) else (paymasterlaw09_LinesUtf.j1 k x1))) else (none)) else (none))) else (if bt290.2 = 90 then (if (bt290.1.length : Int) = 0 then (paymasterlaw09_LinesUtf.j1 k x1) else (none)) else (none))))
def paymasterlaw09_LinesUtf.j1 : Nat → List Int → Option (Bool)
  | 0, _ => none
  | k + 1, x1 => (lines_Text.f x1).bind fun bt310 => (if bt310.2 = 0 then ((lines_Runes.f bt310.1).bind fun bt312 => (if bt312.2 = 0 then ((paymasterref09_SameRunes.f k bt312.1 x1).bind fun t316 => (some t316)) else (none))) else (if bt310.2 = 90 then (some (bt310.1.toList == ([] : List UInt8))) else (none)))
end
def paymasterlaw09_LinesUtf.f (k : Nat) (a0 : ByteArray) (l1 : List Int) : Option (Bool) := (paymasterlaw09_awake.f k).bind fun t271 => (if t271 = true then (if (a0.size : Int) > 1000 then (paymasterlaw09_LinesUtf.j0 k a0 l1 true) else (paymasterlaw09_LinesUtf.j0 k a0 l1 (decide ((l1.length : Int) > 300)))) else (none))
set_option maxHeartbeats 8000000 in
set_option maxRecDepth 100000 in
theorem paymasterlaw09_LinesUtf.calls (k : Nat) (a0 : ByteArray) (A1 : Option Addr) (c1 : Nat) (l1 : List Int) (r : Bool) (w : World) (hr1 : Kd.C (Kd.int .i32) w A1 l1.length l1) (hc1 : l1.length ≤ c1) (hG : GT w) (h : paymasterlaw09_LinesUtf.f k a0 l1 = some r) :
    Calls Tryd.prog 8 #[.string a0, .slice A1 l1.length c1] w fun e w' => e = .returned (.bool r) ∧ Below w.heap.size w w' := by
  have HR1 := Aside0.mk hr1
  have HC1 := Aside0.mk hc1
  clear hr1 hc1
  have HB := Aside0.mk (Below.refl w.heap.size w)
  have H : ((paymasterlaw09_awake.f k).bind fun t271 => (if t271 = true then (if (a0.size : Int) > 1000 then (paymasterlaw09_LinesUtf.j0 k a0 l1 true) else (paymasterlaw09_LinesUtf.j0 k a0 l1 (decide ((l1.length : Int) > 300)))) else (none))) = some r := h
  clear h
  replace H := Option.bind_eq_some_iff.mp H
  obtain ⟨t271, A30, H⟩ := H
  replace H : (if t271 = true then (if (a0.size : Int) > 1000 then (paymasterlaw09_LinesUtf.j0 k a0 l1 true) else (paymasterlaw09_LinesUtf.j0 k a0 l1 (decide ((l1.length : Int) > 300)))) else (none)) = some r := H
  have A3 := Aside0.mk A30
  clear A30
  by_cases c4 : t271 = true
  · subst c4
    have H1 : (if (a0.size : Int) > 1000 then (paymasterlaw09_LinesUtf.j0 k a0 l1 true) else (paymasterlaw09_LinesUtf.j0 k a0 l1 (decide ((l1.length : Int) > 300)))) = some r := by rw [if_pos rfl] at H; exact H
    clear H
    have H := H1
    clear H1
    have HC5 := Aside0.mk H
    clear H
    go_enter Tryd.func8, Tryd.ntmps8
    go_upto_region 3 with (first | ((with_reducible refine gate_callee (f := 41) rfl ?_); refine goesL_ (some 13) rfl rfl Tryd.func41 (by kernel_rfl) rfl #[] rfl (by (try simp only [List.map_toArray, List.map_cons, List.map_nil]); first | done | rfl | (simp only [List.length_drop, List.length_take]; rfl)) ?_; (with_reducible refine (paymasterlaw09_awake.calls k  true _ ?side1 A3.out).mono ?_); (case side1 => exact gt_below hG (by repeat (first | (with_reducible first | exact HB.out | apply below_alloc | apply pw_below_drewN | apply below_drew1) | exact HB.out))); rintro e w6 ⟨rfl, hb⟩; refine ⟨_, rfl, ?_⟩; have n0_ := Aside0.mk (below_step (by repeat (first | (with_reducible first | exact HB.out | apply below_alloc | apply pw_below_drewN | apply below_drew1) | exact HB.out)) hb); clear HB; have HB := n0_; clear n0_; (try clear hb); (try clear hb2); (try clear hk); (try clear hi)))
    (try simp only [Act.put, List.setIfInBounds_toArray, List.set_cons_zero, List.set_cons_succ])
    go_cut [22] (fun v22 wc => ∃ (kq : Nat) (x22_4 : Bool), v22 = .bool x22_4 ∧ Aside0 (paymasterlaw09_LinesUtf.j0 kq a0 l1 x22_4 = some r) ∧ Aside0 (kq ≤ k) ∧ Aside0 (Below w.heap.size w wc))
    case first =>
      have H := HC5.out
      clear HC5
      by_cases c7 : (a0.size : Int) > 1000
      · rw [if_pos c7] at H
        have c7b0 : decide (1000 < (a0.size : Int)) = true := decide_eq_true c7
        have c7b1 : decide (1000 < a0.size) = true := decide_eq_true (by omega)
        clear c7
        (first | rw [c7b0] | (simp only [i64_w, i32_w]; rw [c7b0]) | skip)
        have H' := Aside0.mk H
        clear H
        go_wp2
        go_meet
        case rel => exact ⟨_, (true), (by first | rfl | (simp; done) | (simp [*]; done)), H', ⟨by first | omega | exact Nat.le_refl _⟩, ⟨by repeat (first | (with_reducible first | exact HB.out | apply below_alloc | apply pw_below_drewN | apply below_drew1) | exact HB.out)⟩⟩
      · rw [if_neg c7] at H
        have c7b0 : decide (1000 < (a0.size : Int)) = false := decide_eq_false c7
        have c7b1 : decide (1000 < a0.size) = false := decide_eq_false (by omega)
        clear c7
        (first | rw [c7b0] | (simp only [i64_w, i32_w]; rw [c7b0]) | skip)
        have H' := Aside0.mk H
        clear H
        go_wp2
        go_meet
        case rel => exact ⟨_, (decide ((l1.length : Int) > 300)), (by first | rfl | (simp; done) | (simp [*]; done)), H', ⟨by first | omega | exact Nat.le_refl _⟩, ⟨by repeat (first | (with_reducible first | exact HB.out | apply below_alloc | apply pw_below_drewN | apply below_drew1) | exact HB.out)⟩⟩
    case rest =>
      clear HC5
      try clear c1
      try clear p2
      try clear c4
      try clear c7
      try clear c7b0
      try clear c7b1
      obtain ⟨kq, x22_4, rfl, HA, HJ4, HB⟩ := hcut
      cases kq with
      | zero => exact absurd HA.out (by simp [paymasterlaw09_LinesUtf.j0])
      | succ kj4 =>
        have H := HA.out
        clear HA
        simp only [paymasterlaw09_LinesUtf.j0] at H
        by_cases c8 : x22_4 = true
        · subst c8
          have H1 : (some true) = some r := by rw [if_pos rfl] at H; exact H
          clear H
          have H := H1
          clear H1
          obtain rfl := Option.some.inj H
          go_wp2
          go_ret
          exact ⟨by first | rfl | (simp [errW_none, errW_some] <;> rfl) | (simp [*, errW_none, errW_some] <;> rfl), by repeat (first | (with_reducible first | exact HB.out | apply below_alloc | apply pw_below_drewN | apply below_drew1) | exact HB.out)⟩
        · replace c8 := Bool.eq_false_iff.mpr c8
          subst c8
          have H1 : ((lines_Runes.f a0).bind fun bt290 => (if bt290.2 = 0 then ((lines_Text.f bt290.1).bind fun bt294 => (if bt294.2 = 0 then (if bt294.1.toList = a0.toList then (if (bt290.1.length : Int) > (a0.size : Int) then (none) else (if (a0.size : Int) > (wrap64 (4 * (bt290.1.length : Int))) then (none) else (paymasterlaw09_LinesUtf.j1 kj4 l1))) else (none)) else (none))) else (if bt290.2 = 90 then (if (bt290.1.length : Int) = 0 then (paymasterlaw09_LinesUtf.j1 kj4 l1) else (none)) else (none)))) = some r := by rw [if_neg (show ¬ (false = true) by decide)] at H; exact H
          clear H
          have H := H1
          clear H1
          replace H := Option.bind_eq_some_iff.mp H
          obtain ⟨⟨t290, t291⟩, A90, H⟩ := H
          replace H : (if t291 = 0 then ((lines_Text.f t290).bind fun bt294 => (if bt294.2 = 0 then (if bt294.1.toList = a0.toList then (if (t290.length : Int) > (a0.size : Int) then (none) else (if (a0.size : Int) > (wrap64 (4 * (t290.length : Int))) then (none) else (paymasterlaw09_LinesUtf.j1 kj4 l1))) else (none)) else (none))) else (if t291 = 90 then (if (t290.length : Int) = 0 then (paymasterlaw09_LinesUtf.j1 kj4 l1) else (none)) else (none))) = some r := H
          have A9 := Aside0.mk A90
          clear A90
          have HC10 := Aside0.mk H
          clear H
          go_upto_if 29 with (first | ((with_reducible refine gate_callee (f := 20) rfl ?_); refine goesL_ (some 25) rfl rfl Tryd.func20 (by kernel_rfl) rfl #[.string a0] rfl (by (try simp only [List.map_toArray, List.map_cons, List.map_nil]); first | done | rfl | (simp only [List.length_drop, List.length_take]; rfl)) ?_; (with_reducible refine (lines_Runes.calls a0 t290 t291 _ ?side1 A9.out).mono ?_); (case side1 => exact gt_below hG (by repeat (first | (with_reducible first | exact HB.out | apply below_alloc | apply pw_below_drewN | apply below_drew1) | exact HB.out))); rintro e w11 ⟨v292, rfl, ho0, hb⟩; refine ⟨_, rfl, ?_⟩; have n0_ := Aside0.mk (Kd.R_lower ho0 (below_size (by repeat (first | (with_reducible first | exact HB.out | apply below_alloc | apply pw_below_drewN | apply below_drew1) | exact HB.out)))); have n1_ := Aside0.mk (below_step (by repeat (first | (with_reducible first | exact HB.out | apply below_alloc | apply pw_below_drewN | apply below_drew1) | exact HB.out)) hb); clear HB; have HO293 := n0_; have HB := n1_; clear n0_ n1_; (try clear hb); (try clear hb2); (try clear hk); (try clear hi); (try clear ho0)))
          (try simp only [Act.put, List.setIfInBounds_toArray, List.set_cons_zero, List.set_cons_succ])
          go_cut [] (fun wc => ∃ (kq : Nat), Aside0 (paymasterlaw09_LinesUtf.j1 kq l1 = some r) ∧ Aside0 (kq ≤ kj4) ∧ Aside0 (Below w.heap.size w wc))
          case first =>
            have H := HC10.out
            clear HC10
            by_cases c12 : t291 = 0
            · rw [if_pos c12] at H
              have c12b0 : (t291 == 0) = true := beq_iff_eq.mpr c12
              have c12b1 : (t291 != 0) = false := bne_eq_false_iff_eq.mpr c12
              clear c12
              (first | rw [c12b0] | (simp only [i64_w, i32_w]; rw [c12b0]) | skip)
              replace H := Option.bind_eq_some_iff.mp H
              obtain ⟨⟨t294, t295⟩, A130, H⟩ := H
              replace H : (if t295 = 0 then (if t294.toList = a0.toList then (if (t290.length : Int) > (a0.size : Int) then (none) else (if (a0.size : Int) > (wrap64 (4 * (t290.length : Int))) then (none) else (paymasterlaw09_LinesUtf.j1 kj4 l1))) else (none)) else (none)) = some r := H
              have A13 := Aside0.mk A130
              clear A130
              by_cases c14 : t295 = 0
              · rw [if_pos c14] at H
                have c14b0 : (t295 == 0) = true := beq_iff_eq.mpr c14
                have c14b1 : (t295 != 0) = false := bne_eq_false_iff_eq.mpr c14
                clear c14
                by_cases c15 : t294.toList = a0.toList
                · rw [if_pos c15] at H
                  have c15b0 : (t294.toList == a0.toList) = true := beq_iff_eq.mpr c15
                  have c15b1 : (t294.toList != a0.toList) = false := bne_eq_false_iff_eq.mpr c15
                  clear c15
                  by_cases c16 : (t290.length : Int) > (a0.size : Int)
                  · rw [if_pos c16] at H
                    exact absurd H (by simp)
                  · rw [if_neg c16] at H
                    have c16b0 : decide ((a0.size : Int) < (t290.length : Int)) = false := decide_eq_false c16
                    have c16b1 : decide (a0.size < t290.length) = false := decide_eq_false (fun h => c16 (Int.ofNat_lt.mpr h))
                    clear c16
                    by_cases c17 : (a0.size : Int) > (wrap64 (4 * (t290.length : Int)))
                    · rw [if_pos c17] at H
                      exact absurd H (by simp)
                    · rw [if_neg c17] at H
                      have c17b0 : decide ((wrap64 (4 * (t290.length : Int))) < (a0.size : Int)) = false := decide_eq_false c17
                      clear c17
                      have H' := Aside0.mk H
                      clear H
                      obtain ⟨Ao18, co18, eo18⟩ := Kd.R_slice HO293.out
                      subst eo18
                      go_wp2_with (first | ((with_reducible refine gate_callee (f := 22) rfl ?_); refine goesL_ (some 32) rfl rfl Tryd.func22 (by kernel_rfl) rfl #[.slice Ao18 t290.length co18] rfl (by (try simp only [List.map_toArray, List.map_cons, List.map_nil]); first | done | rfl | (simp only [List.length_drop, List.length_take]; rfl)) ?_; (with_reducible refine (lines_Text.calls _ _ t290 t294 t295 _ ?side1 ?side2 A13.out).mono ?_); (case side1 => repeat (first | exact (Kd.R_reads' HO293.out).2.2 | (with_reducible refine Kd.C_alloc ?_ _) | (with_reducible refine Kd.C_drewN ?_ _) | (with_reducible refine Kd.C_drew ?_))); (case side2 => exact (Kd.R_reads' HO293.out).2.1); rintro e w19 ⟨rfl, hb⟩; refine ⟨_, rfl, ?_⟩; have n0_ := Aside0.mk (Kd.R_below (by (with_reducible repeat (first | apply Kd.R_alloc | apply Kd.R_drewN | apply Kd.R_drew)); exact HO293.out) hb); have n1_ := Aside0.mk (below_step (by repeat (first | (with_reducible first | exact HB.out | apply below_alloc | apply pw_below_drewN | apply below_drew1) | exact HB.out)) hb); clear HO293; clear HB; have HO293 := n0_; have HB := n1_; clear n0_ n1_; (try clear hb); (try clear hb2); (try clear hk); (try clear hi)))
                      go_meet
                      case rel => exact ⟨_, H', ⟨by have := HJ4.out; first | omega | exact Nat.le_refl _⟩, ⟨by repeat (first | (with_reducible first | exact HB.out | apply below_alloc | apply pw_below_drewN | apply below_drew1) | exact HB.out)⟩⟩
                · rw [if_neg c15] at H
                  exact absurd H (by simp)
              · rw [if_neg c14] at H
                exact absurd H (by simp)
            · rw [if_neg c12] at H
              have c12b0 : (t291 == 0) = false := beq_eq_false_iff_ne.mpr c12
              have c12b1 : (t291 != 0) = true := bne_iff_ne.mpr c12
              (first | rw [c12b0] | (simp only [i64_w, i32_w]; rw [c12b0]) | skip)
              by_cases c20 : t291 = 90
              · rw [if_pos c20] at H
                have c20b0 : (t291 == 90) = true := beq_iff_eq.mpr c20
                have c20b1 : (t291 != 90) = false := bne_eq_false_iff_eq.mpr c20
                clear c20
                by_cases c21 : (t290.length : Int) = 0
                · rw [if_pos c21] at H
                  have c21b0 : ((t290.length : Int) == 0) = true := beq_iff_eq.mpr c21
                  have c21b1 : ((t290.length : Int) != 0) = false := bne_eq_false_iff_eq.mpr c21
                  clear c21
                  have H' := Aside0.mk H
                  clear H
                  obtain ⟨Ao22, co22, eo22⟩ := Kd.R_slice HO293.out
                  subst eo22
                  go_wp2
                  go_meet
                  case rel => exact ⟨_, H', ⟨by have := HJ4.out; first | omega | exact Nat.le_refl _⟩, ⟨by repeat (first | (with_reducible first | exact HB.out | apply below_alloc | apply pw_below_drewN | apply below_drew1) | exact HB.out)⟩⟩
                · rw [if_neg c21] at H
                  exact absurd H (by simp)
              · rw [if_neg c20] at H
                exact absurd H (by simp)
          case rest =>
            clear HC10
            try clear c1
            try clear c2
            try clear p2
            try clear c4
            try clear p6
            try clear c7
            try clear c7b0
            try clear c7b1
            try clear c8
            try clear c12
            try clear c12b0
            try clear c12b1
            try clear c14
            try clear c14b0
            try clear c14b1
            try clear c15
            try clear c15b0
            try clear c15b1
            try clear c16
            try clear c16b0
            try clear c16b1
            try clear c17
            try clear c17b0
            try clear c20
            try clear c20b0
            try clear c20b1
            try clear c21
            try clear c21b0
            try clear c21b1
            try clear c22
            try clear p2
            obtain ⟨kq, HA, HJ9, HB⟩ := hcut
            cases kq with
            | zero => exact absurd HA.out (by simp [paymasterlaw09_LinesUtf.j1])
            | succ kj9 =>
              have H := HA.out
              clear HA
              simp only [paymasterlaw09_LinesUtf.j1] at H
              replace H := Option.bind_eq_some_iff.mp H
              obtain ⟨⟨t310, t311⟩, A230, H⟩ := H
              replace H : (if t311 = 0 then ((lines_Runes.f t310).bind fun bt312 => (if bt312.2 = 0 then ((paymasterref09_SameRunes.f kj9 bt312.1 l1).bind fun t316 => (some t316)) else (none))) else (if t311 = 90 then (some (t310.toList == ([] : List UInt8))) else (none))) = some r := H
              have A23 := Aside0.mk A230
              clear A230
              by_cases c24 : t311 = 0
              · rw [if_pos c24] at H
                have c24b0 : (t311 == 0) = true := beq_iff_eq.mpr c24
                have c24b1 : (t311 != 0) = false := bne_eq_false_iff_eq.mpr c24
                clear c24
                replace H := Option.bind_eq_some_iff.mp H
                obtain ⟨⟨t312, t313⟩, A250, H⟩ := H
                replace H : (if t313 = 0 then ((paymasterref09_SameRunes.f kj9 t312 l1).bind fun t316 => (some t316)) else (none)) = some r := H
                have A25 := Aside0.mk A250
                clear A250
                by_cases c26 : t313 = 0
                · rw [if_pos c26] at H
                  have c26b0 : (t313 == 0) = true := beq_iff_eq.mpr c26
                  have c26b1 : (t313 != 0) = false := bne_eq_false_iff_eq.mpr c26
                  clear c26
                  replace H := Option.bind_eq_some_iff.mp H
                  obtain ⟨t316, A270, H⟩ := H
                  replace H : (some t316) = some r := H
                  have A27 := Aside0.mk A270
                  clear A270
                  obtain rfl := Option.some.inj H
                  go_wp2_with (first | ((with_reducible refine gate_callee (f := 22) rfl ?_); refine goesL_ (some 66) rfl rfl Tryd.func22 (by kernel_rfl) rfl #[.slice A1 l1.length c1] rfl (by (try simp only [List.map_toArray, List.map_cons, List.map_nil]); first | done | rfl | (simp only [List.length_drop, List.length_take]; rfl)) ?_; (with_reducible refine (lines_Text.calls _ _ l1 t310 t311 _ ?side1 ?side2 A23.out).mono ?_); (case side1 => repeat (first | exact (Kd.C_below HR1.out HB.out) | (with_reducible refine Kd.C_alloc ?_ _) | (with_reducible refine Kd.C_drewN ?_ _) | (with_reducible refine Kd.C_drew ?_))); (case side2 => exact HC1.out); rintro e w28 ⟨rfl, hb⟩; refine ⟨_, rfl, ?_⟩; have n0_ := Aside0.mk (below_step (by repeat (first | (with_reducible first | exact HB.out | apply below_alloc | apply pw_below_drewN | apply below_drew1) | exact HB.out)) hb); clear HB; have HB := n0_; clear n0_; (try clear hb); (try clear hb2); (try clear hk); (try clear hi)) | ((with_reducible refine gate_callee (f := 20) rfl ?_); refine goesL_ (some 79) rfl rfl Tryd.func20 (by kernel_rfl) rfl #[.string t310] rfl (by (try simp only [List.map_toArray, List.map_cons, List.map_nil]); first | done | rfl | (simp only [List.length_drop, List.length_take]; rfl)) ?_; (with_reducible refine (lines_Runes.calls t310 t312 t313 _ ?side1 A25.out).mono ?_); (case side1 => exact gt_below hG (by repeat (first | (with_reducible first | exact HB.out | apply below_alloc | apply pw_below_drewN | apply below_drew1) | exact HB.out))); rintro e w29 ⟨v314, rfl, ho0, hb⟩; refine ⟨_, rfl, ?_⟩; have n0_ := Aside0.mk (Kd.R_lower ho0 (below_size (by repeat (first | (with_reducible first | exact HB.out | apply below_alloc | apply pw_below_drewN | apply below_drew1) | exact HB.out)))); have n1_ := Aside0.mk (below_step (by repeat (first | (with_reducible first | exact HB.out | apply below_alloc | apply pw_below_drewN | apply below_drew1) | exact HB.out)) hb); clear HB; have HO315 := n0_; have HB := n1_; clear n0_ n1_; (try clear hb); (try clear hb2); (try clear hk); (try clear hi); (try clear ho0); obtain ⟨Ao30, co30, eo30⟩ := Kd.R_slice HO315.out; subst eo30) | (go_at_call 24; (with_reducible refine (paymasterref09_SameRunes.calls kj9 _ _ t312 _ _ l1 t316 _ ?side1 ?side2 ?side3 ?side4 A27.out).mono ?_); (case side1 => repeat (first | exact (Kd.R_reads' HO315.out).2.2 | (with_reducible refine Kd.C_alloc ?_ _) | (with_reducible refine Kd.C_drewN ?_ _) | (with_reducible refine Kd.C_drew ?_))); (case side2 => exact (Kd.R_reads' HO315.out).2.1); (case side3 => repeat (first | exact (Kd.C_below HR1.out HB.out) | (with_reducible refine Kd.C_alloc ?_ _) | (with_reducible refine Kd.C_drewN ?_ _) | (with_reducible refine Kd.C_drew ?_))); (case side4 => exact HC1.out); rintro e w' ⟨rfl, ⟨nd, rfl⟩⟩))
                  go_ret
                  exact ⟨by first | rfl | (simp [errW_none, errW_some] <;> rfl) | (simp [*, errW_none, errW_some] <;> rfl), by repeat (first | (with_reducible first | exact HB.out | apply below_alloc | apply pw_below_drewN | apply below_drew1) | exact HB.out)⟩
                · rw [if_neg c26] at H
                  exact absurd H (by simp)
              · rw [if_neg c24] at H
                have c24b0 : (t311 == 0) = false := beq_eq_false_iff_ne.mpr c24
                have c24b1 : (t311 != 0) = true := bne_iff_ne.mpr c24
                by_cases c31 : t311 = 90
                · rw [if_pos c31] at H
                  have c31b0 : (t311 == 90) = true := beq_iff_eq.mpr c31
                  have c31b1 : (t311 != 90) = false := bne_eq_false_iff_eq.mpr c31
                  clear c31
                  obtain rfl := Option.some.inj H
                  go_wp2_with (first | ((with_reducible refine gate_callee (f := 22) rfl ?_); refine goesL_ (some 66) rfl rfl Tryd.func22 (by kernel_rfl) rfl #[.slice A1 l1.length c1] rfl (by (try simp only [List.map_toArray, List.map_cons, List.map_nil]); first | done | rfl | (simp only [List.length_drop, List.length_take]; rfl)) ?_; (with_reducible refine (lines_Text.calls _ _ l1 t310 t311 _ ?side1 ?side2 A23.out).mono ?_); (case side1 => repeat (first | exact (Kd.C_below HR1.out HB.out) | (with_reducible refine Kd.C_alloc ?_ _) | (with_reducible refine Kd.C_drewN ?_ _) | (with_reducible refine Kd.C_drew ?_))); (case side2 => exact HC1.out); rintro e w32 ⟨rfl, hb⟩; refine ⟨_, rfl, ?_⟩; have n0_ := Aside0.mk (below_step (by repeat (first | (with_reducible first | exact HB.out | apply below_alloc | apply pw_below_drewN | apply below_drew1) | exact HB.out)) hb); clear HB; have HB := n0_; clear n0_; (try clear hb); (try clear hb2); (try clear hk); (try clear hi)))
                  go_ret
                  exact ⟨by first | rfl | (simp [errW_none, errW_some] <;> rfl) | (simp [*, errW_none, errW_some] <;> rfl), by repeat (first | (with_reducible first | exact HB.out | apply below_alloc | apply pw_below_drewN | apply below_drew1) | exact HB.out)⟩
                · rw [if_neg c31] at H
                  exact absurd H (by simp)
  · replace c4 := Bool.eq_false_iff.mpr c4
    subst c4
    have H1 : (none) = some r := by rw [if_neg (show ¬ (false = true) by decide)] at H; exact H
    clear H
    have H := H1
    clear H1
    exact absurd H (by simp)
end Go.Proofs.YtpkjpiphjdpegaaDoor.P
namespace Go.Proofs.YtpkjpiphjdpegaaDoor.P
open Go.RowKit Go.Proofs.YtpkjpiphjdpegaaDoorW.PrintWords
set_option linter.unusedVariables false
set_option linter.unusedSimpArgs false
theorem awake09_up (k : Nat) (h : 100 ≤ k) : paymasterlaw09_awake.f k = some true := up (F := fun k => paymasterlaw09_awake.f k) paymasterlaw09_awake.mono awake09 k h
theorem utf_j1 (k : Nat) (l : List Int) (hl : l.length ≤ 300) (hk : 400 ≤ k) : paymasterlaw09_LinesUtf.j1 (k + 1) l = some true := by
  rw [paymasterlaw09_LinesUtf.j1]
  have e2 : lines_Text.f l = some (if l.any oddR = true then ((⟨#[]⟩ : ByteArray), 90) else (runesBytes l, 0)) := by unfold lines_Text.f; rw [if_pos (by omega)]
  rw [e2, Option.bind_some]
  by_cases o : l.any oddR = true
  · rw [if_pos o, if_neg (show ¬ ((90 : Int) = 0) by decide), if_pos rfl]
    rw [toList_eq]
    rfl
  · have o' : l.any oddR = false := by simpa using o
    have hsz := runesBytes_size_le l
    obtain ⟨h1, h2⟩ := enc_runes l [] (runesBytes l).size (by simp) o' (by
      rw [runesBytes_is, ← nb_length, str_nb _ (fun x hx => by
        obtain ⟨y, _, hy⟩ := List.mem_flatMap.1 hx
        exact enc_bytes y x hy)]
      exact Nat.le_refl _)
    rw [List.nil_append, ← runesBytes_is, List.length_nil] at h1 h2
    rw [List.drop_zero] at h2
    have e3 : lines_Runes.f (runesBytes l) = some (l, 0) := by
      unfold lines_Runes.f
      rw [if_pos (by omega), if_pos h2, h1]
    rw [if_neg o, if_pos rfl, e3, Option.bind_some, if_pos rfl, same_up l (by omega) k (by omega)]
    rfl
theorem linesUtf_pure (s : ByteArray) (l : List Int) : ∃ k, paymasterlaw09_LinesUtf.f k s l = some true := by
  refine ⟨1002, ?_⟩
  unfold paymasterlaw09_LinesUtf.f
  rw [awake09_up _ (by omega), Option.bind_some, if_pos rfl]
  by_cases h1 : (s.size : Int) > 1000
  · rw [if_pos h1, paymasterlaw09_LinesUtf.j0, if_pos rfl]
  · rw [if_neg h1, paymasterlaw09_LinesUtf.j0]
    by_cases h2 : (l.length : Int) > 300
    · rw [decide_eq_true h2, if_pos rfl]
    · rw [decide_eq_false h2, if_neg (show ¬ (false = true) by decide)]
      have J := utf_j1 1000 l (by omega) (by omega)
      have e1 : lines_Runes.f s = some (if Lib.validD s.data.toList = true then (runesAt s s.size 0, 0) else ([], 90)) := by unfold lines_Runes.f; rw [if_pos (by omega)]
      rw [e1, Option.bind_some]
      by_cases v : Lib.validD s.data.toList = true
      · obtain ⟨g1, g2, g3, g4⟩ := runes_enc s s.size 0 (by omega) v
        have e2 : lines_Text.f (runesAt s s.size 0) = some (s, 0) := by
          unfold lines_Text.f
          rw [if_pos (by omega), if_neg (by rw [g1]; decide), runesBytes_is, g2, List.drop_zero, nb_str]
        rw [if_pos v, if_pos rfl]
        dsimp only
        rw [e2, Option.bind_some, if_pos rfl, if_pos rfl, if_neg (by omega), wrap64_in _ (by omega), if_neg (by omega), J]
      · rw [if_neg v, if_neg (show ¬ ((90 : Int) = 0) by decide), if_pos rfl, if_pos (show ((([] : List Int).length : Nat) : Int) = 0 from rfl), J]
theorem linesUtf_walk {w : World} (a0 : ByteArray) (g0 : a0.size ≤ 9223372036854775807) (A1 : Option Addr) (c1 : Nat) (l1 : List Int) (hr1 : (Kd.int .i32).C w A1 l1.length l1) (hc1 : l1.length ≤ c1) (g1 : ∀ y ∈ l1, (Lit.int .i32 y).wf = true) (hG : GT w) :
    Calls Tryd.prog 8 #[.string a0, .slice A1 l1.length c1] w fun e w' => e = .returned (.bool true) ∧ Below w.heap.size w w' := by
  obtain ⟨k, hk⟩ := linesUtf_pure a0 l1
  exact paymasterlaw09_LinesUtf.calls k a0 A1 c1 l1 true w hr1 hc1 hG hk
end Go.Proofs.YtpkjpiphjdpegaaDoor.P
namespace Go.Proofs.YtpkjpiphjdpegaaDoor.linesUtf
open Go.ChangeShapes Go.WideShapes Go.ChangeAt Go.RowKit Go.Proofs.YtpkjpiphjdpegaaDoor.P
open Go.ChangeMaps (open_string shut_string)
set_option linter.unusedVariables false
set_option maxRecDepth 100000 in
theorem lifted (os : Os) (started : os.Started) (H : Type) (enc : TypeId × Value → H) :
    ReturnsInHanded {} Tryd.checked os 8 .any (fun w args => (Rows.linesUtfSpec.pre enc Tryd.prog Tryd.f8 Rows.linesUtfRow.domain false w args ∧ laidMetH Tryd.prog laid w) ∧ sizedMet enc Tryd.prog Tryd.f8 (OpenSpec.ofChange Rows.linesUtfSpec) false w args) (Rows.linesUtfSpec.post enc Tryd.prog Tryd.f8 false true false false) := by
  refine returnsInHanded_of_change_and (C := Tryd.checked) (X := fun w _ => laidMetH Tryd.prog laid w) (fun _ _ _ hh h => h.of_heap hh) own started (by kernel_rfl) Tryd.func8
    (ChangeSpec.witness_shaped (enc := enc) (C := Tryd.checked) (os := os) (X := fun w _ => laidMetH Tryd.prog laid w) false (World.laidAll Tryd.prog os laid) #[.string ByteArray.empty, .slice none 0 0] 8 (World.laidAll_os _ _ _) (World.shaped_of_ZipB (by kernel_rfl) (by kernel_rfl)) (by kernel_rfl) (by kernel_rfl) (by kernel_rfl) (laid_met os _)) ?_
  intro W base args ds gs before hval0 hW _ _ hL _
  have hval : ∀ (j : Nat) t v, Tryd.f8.params[j]? = some t → args[j]? = some v → Value.okWide Tryd.prog W .any base t v := hval0
  have hW' := hW
  obtain ⟨p, q, hA0, hV, rfl, hfz, hnd⟩ := hW
  have hA : DataW.TrodAll enc Tryd.prog W 0 (fun _ => true) true Tryd.f8.params.toList args.toList ds p := hA0
  rw [Tryd.params8] at hA hval
  have hAll := hA
  obtain ⟨v0, vs0, d0, ds0, p0, q0, hargs, rfl, rfl, h0, r0⟩ := trodAll_cons hA
  obtain ⟨v1, vs1, d1, ds1, p1, q1, rfl, rfl, rfl, h1, r1⟩ := trodAll_cons r0
  obtain ⟨rfl, rfl, rfl⟩ := trodAll_nil r1
  obtain rfl : args = #[v0, v1] := by cases args; simp_all
  obtain ⟨rfl, rfl⟩ := trodVars_none hV
  obtain ⟨a0, rfl, g0⟩ := arg_string (hval 0 9 v0 rfl rfl) h0
  obtain ⟨A1, c1, l1, rfl, hc1, hr1, g1⟩ := arg_row21 (hval 1 22 v1 rfl rfl) h1
  clear hA0 hval0
  refine (linesUtf_walk (w := W) a0 g0 A1 c1 l1 hr1 hc1 g1 (gt_of hL)).mono fun e W' ⟨he, bel⟩ => ?_
  subst he
  exact ⟨_, rfl, _, _, _, [], _, [], hW', trodAll_mk1 (shut_bool Tryd.underlying4 _), args_back laidOut bel (by kernel_rfl) hAll, rfl, bel.frame _, fun h => by cases h⟩
theorem both {a b : Bool} (h : a = true) (k : b = true) : (a && b) = true := by rw [h, k]; rfl
theorem c0 : (Rows.linesUtfRow.wf (OpenSpec.ofChange Rows.linesUtfSpec)) = true := by kernel_rfl
theorem c1 : (laidOutB Tryd.prog) = true := by kernel_rfl
theorem c2 : (mapsRowed Tryd.prog) = true := by kernel_rfl
theorem c3 : (Tryd.f8.params.all (Tryd.prog.readableRec ·)) = true := by kernel_rfl
theorem c4 : (namedTie Tryd.prog Rows.linesUtfRow.named Rows.linesUtfSpec.vars) = true := by kernel_rfl
theorem c5 : ((Rows.linesUtfRow.stops == [])) = true := by kernel_rfl
theorem c6 : ((Tryd.prog.stops == [])) = true := by kernel_rfl
theorem c7 : ((Rows.linesUtfRow.knobs == [])) = true := by kernel_rfl
theorem c8 : ((Tryd.prog.stopKnobs == [])) = true := by kernel_rfl
theorem c9 : ((Rows.linesUtfRow.inPlace == Tryd.prog.inPlace 8)) = true := by kernel_rfl
theorem c10 : ((Rows.linesUtfRow.unfollowed == Tryd.prog.unfollowed 8)) = true := by kernel_rfl
theorem c11 : ((Rows.linesUtfRow.recurses == Tryd.prog.recurses 8)) = true := by kernel_rfl
theorem c12 : ((Rows.linesUtfRow.named == Tryd.prog.varsNamed 8)) = true := by kernel_rfl
theorem c13 : ((Rows.linesUtfRow.maps == (Tryd.f8.params.toList ++ Rows.linesUtfSpec.plain.varTypes Tryd.prog).any (Tryd.prog.mapsRec ·))) = true := by kernel_rfl
theorem c14 : ((Rows.linesUtfRow.ifaces == (Tryd.f8.params.toList ++ Rows.linesUtfSpec.plain.varTypes Tryd.prog).any (Tryd.prog.ifacesRec ·))) = true := by kernel_rfl
theorem c15 : ((Rows.linesUtfRow.mapsOut == Tryd.prog.mapsAmong Tryd.f8.resultTypes.toList)) = true := by kernel_rfl
theorem c16 : ((Rows.linesUtfRow.loops == (Tryd.f8.params.toList ++ Rows.linesUtfSpec.plain.varTypes Tryd.prog).any (Tryd.prog.loopsFrom ·))) = true := by kernel_rfl
theorem c17 : ((Rows.linesUtfRow.wideKeys == (Tryd.f8.params.toList ++ Rows.linesUtfSpec.plain.varTypes Tryd.prog ++ Tryd.f8.resultTypes.toList).any (Tryd.prog.wideKeysFrom ·))) = true := by kernel_rfl
theorem c18 : (Rows.linesUtfSpec.vars.all (Tryd.prog.varReadable ·)) = true := by kernel_rfl
theorem c19 : (Tryd.f8.resultTypes.all (fun t => Tryd.prog.readableRec t && decide (t < Tryd.prog.types.size))) = true := by kernel_rfl
theorem c20 : ((Rows.linesUtfRow.ifacesOut == Tryd.f8.resultTypes.toList.any (Tryd.prog.ifacesRec ·))) = true := by kernel_rfl
theorem c21 : ((Rows.linesUtfRow.loopsOut == Tryd.f8.resultTypes.toList.any (Tryd.prog.loopsFrom ·))) = true := by kernel_rfl
theorem c22 : ((Rows.linesUtfRow.plainKeys == Tryd.prog.plainKeys)) = true := by kernel_rfl
theorem c23 : (Rows.linesUtfRow.shortTexts.isNone) = true := by kernel_rfl
theorem c24 : (Tryd.prog.stopsHeard) = true := by kernel_rfl
theorem c25 : (Tryd.prog.mayEnter) = true := Facts.mayEnter
theorem c26 : ((Rows.linesUtfRow.lifted == Tryd.prog.liftsFinal)) = true := by rw [Facts.liftsFinal]; kernel_rfl
theorem c27 : ((Tryd.prog.make == some Rows.linesUtfRow.make)) = true := by rw [Facts.make]; kernel_rfl
theorem c28 : ((Rows.linesUtfRow.kinds == (if Rows.linesUtfRow.domain.isEmpty then [] else Tryd.f8.params.toList.map fun t => match Tryd.prog.underlying t with | some (.int k) => some k | _ => none))) = true := by kernel_rfl
theorem c29 : ((Rows.linesUtfRow.pinned == Rows.linesUtfRow.pinnedBy)) = true := by kernel_rfl
theorem c30 : ((Rows.linesUtfRow.veiled == (Tryd.f8.params.toList ++ Rows.linesUtfSpec.plain.varTypes Tryd.prog ++ Tryd.f8.resultTypes.toList).any (Tryd.prog.veiledRec ·))) = true := by kernel_rfl
theorem c31 : (Rows.linesUtfRow.veiledFits Tryd.prog Tryd.f8.params.toList (Tryd.f8.params.toList ++ Rows.linesUtfSpec.plain.varTypes Tryd.prog ++ Tryd.f8.resultTypes.toList)) = true := by kernel_rfl
set_option maxRecDepth 100000 in
theorem closed : joinedFacts Tryd.prog 8 Tryd.f8 Rows.linesUtfSpec Rows.linesUtfRow = true := by
  unfold joinedFacts
  exact both (both (both (both (both (both (both (both (both (both (both (both (both (both (both (both (both (both (both (both (both (both (both (both (both (both (both (both (both (both (both (c0) c1) c2) c3) c4) c5) c6) c7) c8) c9) c10) c11) c12) c13) c14) c15) c16) c17) c18) c19) c20) c21) c22) c23) c24) c25) c26) c27) c28) c29) c30) c31
theorem over : Rows.linesUtfRow.holds Tryd.pinned (OpenSpec.ofChange Rows.linesUtfSpec) :=
  OpenClaim.holds_of_wide 8 Tryd.f8 rfl rfl rfl rfl rfl rfl rfl ⟨rfl, rfl, rfl, rfl, rfl⟩ rfl rfl rfl rfl rfl (by kernel_rfl) Tryd.func8 closed
    (of_decide_eq_true (by kernel_rfl)) (by unfold Func.isWrapper; first | (rw [if_pos (by decide +kernel)]; kernel_rfl) | (rw [if_neg (by decide +kernel)]; exact ⟨rfl, rfl⟩))
    (fun os started H enc _ => lifted os started H enc)
end Go.Proofs.YtpkjpiphjdpegaaDoor.linesUtf
namespace Go.Proofs.YtpkjpiphjdpegaaDoor
theorem linesUtf_row_holds : Rows.LinesUtfSaid := linesUtf.over
theorem linesUtf_holds : Rows.LinesUtfCardSaid :=
  Claim7.holds_tied_plain_at .later [] [.data, .pinned] true (true, "8ed4f517d9b640979c9642b29f1471ad540af19eb7dd2a85df80f51153cdfa49") false
    linesUtf_row_holds (fun _ h => by cases h) (by kernel_rfl) (fun _ h => by cases h) linesUtf_row_tie rfl ⟨rfl, rfl⟩ Facts.mainIs rfl
    (fun f fn hf hfn => by
      obtain rfl : f = 8 := Option.some.inj ((show Tryd.prog.funcNamed "paymaster/paymasterlaw09.LinesUtf" = some 8 by kernel_rfl).symm.trans hf) |>.symm
      obtain rfl : fn = Tryd.f8 := (Option.some.inj (Tryd.func8.symm.trans hfn)).symm
      exact ⟨by kernel_rfl, fun j t ht => by
        rw [Tryd.params8] at ht
        have hm : t ∈ [9, 22] := by simpa using Array.mem_of_getElem? ht
        have hall : ([9, 22].all fun u => !Tryd.prog.wantsStandIn u) = true := by kernel_rfl
        exact (show Tryd.prog.wantsStandIn t = false by simpa using List.all_eq_true.1 hall t hm)⟩)
    (by kernel_rfl)
end Go.Proofs.YtpkjpiphjdpegaaDoor
