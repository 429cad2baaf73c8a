/- A program of this session wrote this text out of the session's own texts. (part 6 of 8) -/
import Derived.Test.YtpkjpiphjdpegaaDoorCRowWrites3
import Derived.Test.YtpkjpiphjdpegaaDoorCRowWrites5
import Derived.Shelf.Unicode.ValidAny
import Derived.Lib.LaidU8T
import Derived.Ground.NamesProg
import Derived.Test.YtpkjpiphjdpegaaDoorProg
import Derived.Test.YtpkjpiphjdpegaaDoorRows
import Derived.Lay
import Derived.LaidMore
import Derived.Lib.Walk
import Derived.Laws.IdiomCopy
import Derived.Shelf.SlicesE.IndexFunc
import Derived.Ground.SlgfProg
import Derived.Shelf.Small.Utf8
import Derived.Lib.OthersKept
import Derived.Laws.Cover4
import Derived.Shelf.Strings.Search2
import Derived.Lib.IndexLaws
import Derived.Shelf.Abstract
import Derived.Shelf.RegionOpen
import Derived.WalkKit
import Derived.OwnWalkIn
import Derived.TacticsInMore
import Derived.LoopNIn
import Derived.LoopIn
import Derived.Maps.AppendAt
import Derived.Maps.OwnIn
import Derived.Lib.ValidLaws
import Derived.Lib.TrimUEq
import Derived.Laws.Bits64
import Derived.Laws.Externs
import Derived.Shelf.Spec.BitsCarry
import Derived.Laws.BitsLemmas
import Derived.Laws.Bits64b
import Derived.Shelf.Bits.Mul64
import Derived.Lib.Mul64
import Derived.Ground.GgwProg
import Derived.Shelf.GgClosure.StringsIndexFuncTop
import Derived.Laws.RangeAny
import Derived.Lib.ConvBytes
import Derived.Deep.RegionWith
import Derived.Shelf.Strings.OnBuilder
import Derived.Shelf.Strings.Search1
import Derived.Shelf.Strings.Search3
import Derived.Shelf.SlicesQ.IndexFunc
import Derived.Lib.SliceRun
import Derived.Lib.IndexAny
import Derived.Shelf.Utf8.RuneCount
import Derived.Shelf.Strings.Runes
import Derived.Shelf.Small.Strs
import Derived.Laws.Runes
import Derived.Test.YtpkjpiphjdpegaaDoorTie
import Derived.Test.YtpkjpiphjdpegaaDoorCards
import Derived.SevenTiedAt
import Derived.ProofKit
import Derived.OpenShut
import Derived.ShutString
import Derived.ChangeOld
import Derived.Below
import Derived.SizedLaws
namespace Go.Proofs.YtpkjpiphjdpegaaDoor.P
open Go.Shelf Go.RowKit
def sh_laysValid_ren : Go.Shelf.Ren := ⟨fun | 196 => 58 | 259 => 93 | n => n, fun | 9 => 9 | 4 => 4 | 3 => 3 | 5 => 5 | 12 => 12 | 119 => 134 | 0 => 0 | 46 => 138 | 139 => 137 | 138 => 136 | 53 => 40 | n => n, fun | 3 => 0 | 4 => 1 | n => n⟩
theorem sh_laysValid : Go.Proofs.Lays.n196 Tryd.prog sh_laysValid_ren := {
  mixed := by kernel_rfl
  f196 := Tryd.func58.trans (congrArg some (by kernel_rfl))
  f259 := Tryd.func93.trans (congrArg some (by kernel_rfl))
  t0 := Tryd.underlying0
  a0 := Tryd.isAgg0
  z0 := Tryd.sizeOf0
  v0 := Tryd.zeroValue0
  t3 := Tryd.underlying3
  a3 := Tryd.isAgg3
  z3 := Tryd.sizeOf3
  v3 := Tryd.zeroValue3
  t4 := Tryd.underlying4
  a4 := Tryd.isAgg4
  z4 := Tryd.sizeOf4
  v4 := Tryd.zeroValue4
  t5 := Tryd.underlying5
  a5 := Tryd.isAgg5
  z5 := Tryd.sizeOf5
  v5 := Tryd.zeroValue5
  t9 := Tryd.underlying9
  a9 := Tryd.isAgg9
  z9 := Tryd.sizeOf9
  v9 := Tryd.zeroValue9
  t12 := Tryd.underlying12
  a12 := Tryd.isAgg12
  z12 := Tryd.sizeOf12
  v12 := Tryd.zeroValue12
  t46 := Tryd.underlying138
  a46 := Tryd.isAgg138
  z46 := Tryd.sizeOf138
  v46 := Tryd.zeroValue138
  t53 := Tryd.underlying40
  a53 := Tryd.isAgg40
  z53 := Tryd.sizeOf40
  v53 := Tryd.zeroValue40
  t119 := Tryd.underlying134
  a119 := Tryd.isAgg134
  z119 := Tryd.sizeOf134
  t138 := Tryd.underlying136
  a138 := Tryd.isAgg136
  z138 := Tryd.sizeOf136
  v138 := Tryd.zeroValue136
  t139 := Tryd.underlying137
  a139 := Tryd.isAgg137
  z139 := Tryd.sizeOf137
  v139 := Tryd.zeroValue137
  g3 := by kernel_rfl
  g4 := by kernel_rfl }
theorem sh_u8Extra : U8Extra Tryd.prog sh_laysValid_ren := {
  n3 := by kernel_rfl
  n4 := by kernel_rfl
  y3 := by kernel_rfl
  y4 := by kernel_rfl
  c5 := by kernel_rfl
  c119 := by kernel_rfl
  c138 := by kernel_rfl }
end Go.Proofs.YtpkjpiphjdpegaaDoor.P
namespace Go.Proofs.YtpkjpiphjdpegaaDoor.P
open Go.Shelf Go.RowKit
def GT (w : World) : Prop := Lib.Utf8Tabs 0 1 w
theorem gt_below {w w' : World} (h : GT w) (b : Below w.heap.size w w') : GT w' := Utf8Tabs_below h b
theorem valid_is (s : ByteArray) (w : World) (hs : s.size ≤ 9223372036854775807) (hT : GT w) :
    Calls Tryd.prog 58 #[.string s] w fun e w' => e = .returned (.bool (Lib.validD s.data.toList)) ∧ Below w.heap.size w w' :=
  Any.utf8_ValidString sh_laysValid s w hs hT
end Go.Proofs.YtpkjpiphjdpegaaDoor.P
namespace Go.Proofs.YtpkjpiphjdpegaaDoor.P
open Go.Shelf Go.RowKit
set_option maxRecDepth 100000
def laid : List (String × DataW Unit) := [("unicode/utf8.acceptRanges", Rows.laid_unicode_utf8_acceptRanges), ("unicode/utf8.first", Rows.laid_unicode_utf8_first)]
theorem first_is : Rows.laid_unicode_utf8_first = Lib.firstData := by kernel_rfl
theorem accept_is : (Rows.laid_unicode_utf8_acceptRanges : DataW Unit) = Lib.acceptData := by kernel_rfl
theorem plain_is {W : World} : laidMetH Tryd.prog laid W = laidMet Tryd.prog laid W := MakeChecks.laidMetH_plain _ _ _ (by kernel_rfl)
theorem gt_of {W : World} (h : laidMetH Tryd.prog laid W) : GT W := by
  rw [plain_is] at h
  exact utf8Tabs_of_readsT (U8Types.of196 sh_laysValid) sh_u8Extra (first_is ▸ Lib.laidMet.reads h (.tail _ (.head _))) (accept_is ▸ Lib.laidMet.reads h (.head _))
theorem own : ownKnob Tryd.prog.godebug = none := by kernel_rfl
theorem laidOut : laidOutB Tryd.prog = true := by kernel_rfl
theorem laid_met (os : Os) (args : Array Value) : laidMetH Tryd.prog laid ((World.laidAll Tryd.prog os laid).forCall (fun _ _ => 0) ⟨#[], args, []⟩).memory := by
  rw [plain_is]
  exact laidMet_laidAll _ (by kernel_rfl) (by kernel_rfl)
end Go.Proofs.YtpkjpiphjdpegaaDoor.P
namespace Go.Proofs.YtpkjpiphjdpegaaDoor.Z
open Go.Shelf Go.RowKit Go.Lib Go.Sort Go.Proofs
set_option linter.unusedVariables false
set_option linter.unusedSimpArgs false
@[reducible] def inhS44 : Inhabited P.S44 := ⟨P.z44⟩
attribute [local instance] inhS44
def cfS (x y : ByteArray) : Int := if Op.bytesLess x.toList y.toList = true then -1 else if Op.bytesLess y.toList x.toList = true then 1 else 0
set_option maxHeartbeats 1000000 in
theorem isNaN_is (x : ByteArray) (w : World) : Calls Tryd.prog 96 #[.string x] w fun e w' => e = .returned (.bool false) ∧ w' = w := by
  go_enter Tryd.func96, Tryd.ntmps96
  go_wp2
  go_ret
  exact ⟨by simp, rfl⟩
set_option maxHeartbeats 1000000 in
theorem compare_is (x y : ByteArray) (w : World) : Calls Tryd.prog 66 #[.string x, .string y] w fun e w' => e = .returned (.int .i64 (cfS x y)) ∧ w' = w := by
  have e96 : ∀ args w, (callFunc 96 args).run Tryd.prog w = .ok (.enter 96 args) w := enters_of Tryd.func96 (by kernel_rfl) rfl
  unfold cfS
  go_enter Tryd.func66, Tryd.ntmps66
  by_cases c1 : Op.bytesLess x.toList y.toList = true
  · rw [if_pos c1]
    go_wp2_with (go_at_fn 96; refine (isNaN_is _ _).mono ?_; rintro e w' ⟨rfl, rfl⟩)
    go_ret
    exact ⟨rfl, rfl⟩
  · rw [if_neg c1]
    have c1f : Op.bytesLess x.toList y.toList = false := by simpa using c1
    clear c1
    by_cases c2 : Op.bytesLess y.toList x.toList = true
    · rw [if_pos c2]
      go_wp2_with (go_at_fn 96; refine (isNaN_is _ _).mono ?_; rintro e w' ⟨rfl, rfl⟩)
      go_ret
      exact ⟨rfl, rfl⟩
    · rw [if_neg c2]
      have c2f : Op.bytesLess y.toList x.toList = false := by simpa using c2
      clear c2
      go_wp2_with (go_at_fn 96; refine (isNaN_is _ _).mono ?_; rintro e w' ⟨rfl, rfl⟩)
      go_ret
      exact ⟨rfl, rfl⟩
def encS44 (x : P.S44 × Nat) : List Value := [.string x.1.f0, .int .u64 x.1.f1.f0, .int .u64 x.1.f1.f1]
set_option maxHeartbeats 1000000 in
theorem closure_is (x y : P.S44 × Nat) (W : World) : Calls Tryd.prog 65 #[.agg #[.string x.1.f0, .int .u64 x.1.f1.f0, .int .u64 x.1.f1.f1], .agg #[.string y.1.f0, .int .u64 y.1.f1.f0, .int .u64 y.1.f1.f1]] W fun e w' => e = .returned (.int .i64 (cfS x.1.f0 y.1.f0)) ∧ ∃ q os', w' = grow (W.drewN q) os' := by
  have hcon := compare_is x.1.f0 y.1.f0
  have e66 : ∀ args w, (callFunc 66 args).run Tryd.prog w = .ok (.enter 66 args) w := enters_of Tryd.func66 (by kernel_rfl) rfl
  generalize cfS x.1.f0 y.1.f0 = r at hcon ⊢
  go_enter Tryd.func65, Tryd.ntmps65
  go_wp2_with (go_at_fn 66; refine (hcon _).mono ?_; rintro e w' ⟨rfl, rfl⟩)
  go_ret
  exact ⟨rfl, 0, _, by rw [alloc_eq_grow, alloc_eq_grow, grow_grow]; rfl⟩
theorem cmpLays (blk off size : Nat) (w : World) : CmpLays Tryd.prog 65 #[] encS44 3 (fun x y => cfS x.1.f0 y.1.f0) blk off size w :=
  fun _ _ _ _ x y => closure_is x y _
def rowKey (x : P.S44) : List UInt8 := x.f0.toList
theorem cf_key (x y : P.S44 × Nat) : cfS x.1.f0 y.1.f0 < 0 ↔ Op.bytesLess (rowKey x.1) (rowKey y.1) = true := by
  unfold cfS rowKey
  by_cases c1 : Op.bytesLess x.1.f0.toList y.1.f0.toList = true
  · rw [if_pos c1]; exact ⟨fun _ => c1, fun _ => by decide⟩
  · rw [if_neg c1]
    refine ⟨fun h => ?_, fun h => absurd h c1⟩
    split at h <;> exact absurd h (by decide)
end Go.Proofs.YtpkjpiphjdpegaaDoor.Z
namespace Go.Proofs.YtpkjpiphjdpegaaDoor.P
open Go.RowKit Go.Proofs.YtpkjpiphjdpegaaDoorW.PrintWords Go.Proofs.YtpkjpiphjdpegaaDoorW.PrintLast Go.Proofs.YtpkjpiphjdpegaaDoorW.PrintMore
open Go.Shelf Go.Lib Go.Sort Go.Proofs Go.Proofs.YtpkjpiphjdpegaaDoor.Z
set_option linter.unusedVariables false
set_option linter.unusedSimpArgs false
attribute [local instance] inhS44
def row_Sort.f (l0 : List S44) : Option (List S44) := if l0.length ≤ 1000000 then some (sortL rowKey l0) else none
theorem run_copy_k {P : Program} (w : World) (dT sT ty elem : TypeId) (b o dLen dCap : Nat) (a : Addr) (sLen sCap k : Nat) (cs : List Value)
    (hu : P.underlying dT = some (.slice elem)) (hs : (P.info? elem).map (·.size) = some k) (hn : cs.length = Nat.min sLen dLen * k)
    (hsrc : ∀ j v, cs[j]? = some v → w.cell? (a.add j) = some v) (hc : ∀ j, j < cs.length → (w.cell? ⟨b, o + j, none⟩).isSome = true) (hf : ∀ j, j < cs.length → w.frozen? ⟨b, o + j, none⟩ = false) (h1 : ∀ v ∈ cs, v.oneCell' = true) :
    (Builtin.copy_ #[dT, sT] ty #[.slice (some ⟨b, o, none⟩) dLen dCap, .slice (some a) sLen sCap]).run P w = .ok (goInt (Nat.min sLen dLen)) (w.setCells b o cs) := by
  have hl := run_loadCells_list (P := P) w a cs hsrc
  have hst := run_storeCells_cells (P := P) b o cs 0 w (by simpa using hc) (by simpa using hf) h1
  cases hq : P.info? elem with
  | none => simp [hq] at hs
  | some i =>
    have hi : i.size = k := by simpa [hq] using hs
    rw [hn] at hl
    have e : min sLen dLen = Nat.min sLen dLen := rfl
    simp [Builtin.copy_, run_underlying hu, Builtin.lenOf, Builtin.firstCells, sizeOf, typeInfo, hq, hi, e, hl, hst]
theorem run_copy_zero {P : Program} (w : World) (dT sT ty elem : TypeId) (d a : Option Addr) (dCap sCap k : Nat) (hu : P.underlying dT = some (.slice elem)) (hs : (P.info? elem).map (·.size) = some k) :
    (Builtin.copy_ #[dT, sT] ty #[.slice d 0 dCap, .slice a 0 sCap]).run P w = .ok (goInt 0) w := by
  cases hq : P.info? elem with
  | none => simp [hq] at hs
  | some i =>
    have hl : ∀ (x : Addr), (loadCells x 0).run P w = .ok #[] w := fun x => by simpa using run_loadCells_list (P := P) w x [] (by simp)
    cases d <;> cases a <;> simp [Builtin.copy_, run_underlying hu, Builtin.lenOf, Builtin.firstCells, sizeOf, typeInfo, hq, storeCells, hl]
theorem size44 : (Tryd.prog.info? 44).map (·.size) = some 3 := by
  obtain ⟨i0, hi, hzz⟩ := Option.map_eq_some_iff.1 info44
  simp only [Prod.mk.injEq] at hzz
  rw [hi, Option.map_some, hzz.2.1]
theorem make44 (n : Nat) (hn : n ≤ 1000000) (W : World) : (Instr.makeSlice 34 (.int .i64 (n : Int)) (.int .i64 (n : Int))).run Tryd.prog W = .ok (.slice (some ⟨W.heap.size, 0, none⟩) n n) (W.alloc (.cells (madeCells #[.string ⟨#[]⟩, .int .u64 0, .int .u64 0] (n * 3)) 44)) := by
  obtain ⟨i0, hi, hzz⟩ := Option.map_eq_some_iff.1 info44
  simp only [Prod.mk.injEq] at hzz
  obtain ⟨hz0, hz1, hz2⟩ := hzz
  have := run_make (P := Tryd.prog) W 34 44 i0 _ Tryd.underlying34 hi hz0 .i64 .i64 (n : Int) (n : Int) (by omega) (by omega) (by rw [hz2]; omega) (by omega)
  rw [Int.toNat_natCast, hz1] at this
  exact this
def rowsAt (l : List S44) : Array (S44 × Nat) := l.zipIdx.toArray
theorem rowsAt_size (l : List S44) : (rowsAt l).size = l.length := by simp [rowsAt]
theorem rowsAt_get (l : List S44) (i : Nat) (h : i < l.length) : (rowsAt l)[i]! = (l[i], i) := by
  rw [getElem!_pos (rowsAt l) i (by rw [rowsAt_size]; exact h)]
  simp [rowsAt]
def flatR (d : Array (S44 × Nat)) : List Value := (flatK encS44 3 d).toList
theorem flatR_len (d : Array (S44 × Nat)) : (flatR d).length = d.size * 3 := by
  unfold flatR
  rw [Array.length_toList, size_flatK]
theorem encS44_len (x : S44 × Nat) : (encS44 x).length = 3 := rfl
theorem encS44_get (x : S44 × Nat) (i : Nat) (h : i < 3) : ∃ v, (encS44 x)[i]! = v ∧ (encS44 x)[i]? = some v := ⟨(encS44 x)[i]!, rfl, by rw [List.getElem!_eq_getElem?_getD, List.getElem?_eq_getElem (by rw [encS44_len]; exact h)]; rfl⟩
theorem flatR_get (d : Array (S44 × Nat)) (j : Nat) (h : j < d.size * 3) : (flatR d)[j]? = (encS44 d[j / 3]!)[j % 3]? := by
  have e := get_flatK encS44 3 d j h
  obtain ⟨v, h1, h2⟩ := encS44_get d[j / 3]! (j % 3) (Nat.mod_lt _ (by omega))
  unfold flatR
  rw [Array.getElem?_toList, h2, Array.getElem?_eq_getElem (by rw [size_flatK]; exact h)]
  rw [getElem!_pos _ j (by rw [size_flatK]; exact h)] at e
  rw [e, h1]
theorem encS44_one (x : S44 × Nat) : ∀ v ∈ encS44 x, v.oneCell' = true := by
  intro v hv
  simp [encS44] at hv
  rcases hv with rfl | rfl | rfl <;> rfl
theorem flatR_one (d : Array (S44 × Nat)) : ∀ v ∈ flatR d, v.oneCell' = true := by
  intro v hv
  obtain ⟨j, hj, e⟩ := List.getElem_of_mem hv
  have hj' : j < d.size * 3 := by rw [← flatR_len]; exact hj
  have g := flatR_get d j hj'
  rw [List.getElem?_eq_getElem hj, e] at g
  exact encS44_one _ v (List.mem_of_getElem? g.symm)
theorem holds_of {w : World} {b : Nat} {cur : Array Value} (d : Array (S44 × Nat)) (hb : w.heap[b]? = some (.cells cur 44 (0, 0))) (hc : cur.toList = flatR d) : HoldsK encS44 3 w b 0 d := by
  intro j hj
  have hj' : j < d.size * 3 := by rw [size_flatK] at hj; exact hj
  refine ⟨?_, blk_frozen hb _⟩
  rw [blk_cell hb, Nat.zero_add, ← Array.getElem?_toList, hc]
  unfold flatR
  rw [Array.getElem?_toList, Array.getElem?_eq_getElem hj, getElem!_pos _ j hj]
  rfl
theorem blk_of {w : World} {b : Nat} {cur : Array Value} (d : Array (S44 × Nat)) (hb : w.heap[b]? = some (.cells cur 44 (0, 0))) (hs : cur.size = d.size * 3) (h : HoldsK encS44 3 w b 0 d) : cur.toList = flatR d := by
  apply List.ext_getElem?
  intro j
  by_cases hj : j < d.size * 3
  · have := (h j (by rw [size_flatK]; exact hj)).1
    rw [blk_cell hb, Nat.zero_add] at this
    unfold flatR
    rw [Array.getElem?_toList, Array.getElem?_toList, this, Array.getElem?_eq_getElem (by rw [size_flatK]; exact hj), getElem!_pos _ j (by rw [size_flatK]; exact hj)]
    rfl
  · rw [List.getElem?_eq_none (by rw [Array.length_toList]; omega), List.getElem?_eq_none (by rw [flatR_len]; omega)]
theorem sorted_world {w W : World} {b : Nat} {cur : Array Value} {d : Array (S44 × Nat)} (hb : w.heap[b]? = some (.cells cur 44 (0, 0))) (S : SWK encS44 3 w b 0 d W) :
    Below b w W ∧ ∃ cur', W.heap[b]? = some (.cells cur' 44 (0, 0)) ∧ cur'.size = cur.size := by
  obtain ⟨q, os, rfl⟩ := S
  have lt := blk_lt hb
  have hh : (sortWorldK encS44 3 w b 0 q d os).heap = w.heap.modify b (onCells (putCells id 0 (flatK encS44 3 d))) ++ os := rfl
  have sz : (w.heap.modify b (onCells (putCells id 0 (flatK encS44 3 d)))).size = w.heap.size := Array.size_modify
  refine ⟨⟨rfl, rfl, rfl, ?_, fun k hk => ?_⟩, ?_⟩
  · rw [hh, Array.size_append, sz]; omega
  · rw [hh, Array.getElem?_append_left (by rw [sz]; omega), Array.getElem?_modify, if_neg (by omega)]
  · refine ⟨putCells id 0 (flatK encS44 3 d) cur, ?_, by simp [putCells]⟩
    rw [hh, Array.getElem?_append_left (by rw [sz]; exact lt), Array.getElem?_modify, if_pos rfl, hb]
    rfl
theorem rows_flat (d : Array (S44 × Nat)) {w : World} {base : Nat} {ok : Nat → Prop} : Reps (k44.M w base ok) 3 (d.toList.map Prod.fst) (flatR d) := by
  refine ⟨by rw [flatR_len, List.length_map, Array.length_toList], fun j p hp => ?_⟩
  rw [List.getElem?_map] at hp
  obtain ⟨x, hx, rfl⟩ := Option.map_eq_some_iff.1 hp
  obtain ⟨hj0, hx'⟩ := List.getElem?_eq_some_iff.1 hx
  have hj : j < d.size := by simpa using hj0
  have dj : d[j]! = x := by rw [getElem!_pos d j hj]; simpa using hx'
  have e : ((flatR d).drop (j * 3)).take 3 = encS44 x := by
    apply List.ext_getElem?
    intro i
    by_cases hi : i < 3
    · have q1 : (j * 3 + i) / 3 = j := by omega
      have q2 : (j * 3 + i) % 3 = i := by omega
      rw [List.getElem?_take_of_lt hi, List.getElem?_drop, flatR_get d (j * 3 + i) (by omega), q1, q2, dj]
    · rw [List.getElem?_eq_none (by rw [List.length_take]; omega), List.getElem?_eq_none (by rw [encS44_len]; omega)]
  rw [e]
  exact k44_mkM w base ok x.1
set_option maxRecDepth 100000 in
set_option maxHeartbeats 4000000 in
theorem sort_is (A : Option Addr) (c : Nat) (l : List S44) (w : World) (hl : l.length ≤ 1000000) (hr : Kd.C k44 w A l.length l) (hc : l.length ≤ c) :
    Calls Tryd.prog 27 #[.slice A l.length c] w fun e w' => ∃ v, e = .returned v ∧ Kd.R k44 44 w' w.heap.size (fun _ => True) v (sortL rowKey l) ∧ Below w.heap.size w w' := by
  have hmk := make44 l.length hl
  have e64 : ∀ args w, (callFunc 64 args).run Tryd.prog w = .ok (.enter 64 args) w := enters_of Tryd.func64 (by kernel_rfl) rfl
  have eg : ∀ args w, (callFunc 65 args).run Tryd.prog w = .ok (.enter 65 args) w := enters_of Tryd.func65 (by kernel_rfl) rfl
  have hs1 : (madeCells #[.string ⟨#[]⟩, .int .u64 0, .int .u64 0] (l.length * 3)).size = l.length * 3 := size_madeCells _ _
  generalize madeCells #[.string ⟨#[]⟩, .int .u64 0, .int .u64 0] (l.length * 3) = mc at hmk hs1
  have B1 : Below w.heap.size w (w.alloc (.cells mc 44)) := Below.alloc (Below.refl _ _) (Nat.le_refl _) _
  have hb1 : (w.alloc (.cells mc 44)).heap[w.heap.size]? = some (.cells mc 44 (0, 0)) := by
    rw [alloc_eq_grow]
    show (w.heap ++ #[Obj.cells mc 44])[w.heap.size]? = _
    simp
  have hmk1 := hmk w
  clear hmk
  generalize w.alloc (.cells mc 44) = w1 at B1 hb1 hmk1
  have fl : (flatR (rowsAt l)).length = l.length * 3 := by rw [flatR_len, rowsAt_size]
  have mm : Nat.min l.length l.length = l.length := Nat.min_self _
  have hcp : (Builtin.copy_ #[34, 34] 3 #[.slice (some ⟨w.heap.size, 0, none⟩) l.length l.length, .slice A l.length c]).run Tryd.prog w1 = .ok (goInt l.length) (w1.setCells w.heap.size 0 (flatR (rowsAt l))) := by
    rcases Nat.eq_zero_or_pos l.length with h0 | hp
    · have e : flatR (rowsAt l) = [] := List.eq_nil_of_length_eq_zero (by rw [fl, h0])
      rw [e, h0]
      exact run_copy_zero w1 34 34 3 44 _ A 0 c 3 Tryd.underlying34 size44
    · obtain ⟨ad, rfl, hcell⟩ := (Kd.C_below hr B1).2.2 hp
      have := run_copy_k (P := Tryd.prog) w1 34 34 3 44 w.heap.size 0 l.length l.length ad l.length c 3 (flatR (rowsAt l)) Tryd.underlying34 size44 (by rw [fl, mm]) (fun j v hv => ?_) (fun j hj => ?_) (fun j hj => blk_frozen hb1 _) (flatR_one _)
      · rw [this, mm]
      · have hj : j < l.length * 3 := by
          rcases Nat.lt_or_ge j (flatR (rowsAt l)).length with h | h
          · omega
          · rw [List.getElem?_eq_none h] at hv; cases hv
        rw [flatR_get _ j (by rw [rowsAt_size]; exact hj), rowsAt_get l (j / 3) (by omega)] at hv
        obtain ⟨cs, _, hK, hcs⟩ := hcell (j / 3) (l[j / 3]'(by omega)) (List.getElem?_eq_getElem (by omega))
        obtain rfl := k44_open hK
        have := hcs (j % 3) v hv
        rwa [show k44.sz = 3 from rfl, show j / 3 * 3 + j % 3 = j by omega] at this
      · rw [blk_cell hb1, Nat.zero_add, Array.getElem?_eq_getElem (by omega)]
        rfl
  have B2 : Below w.heap.size w (w1.setCells w.heap.size 0 (flatR (rowsAt l))) := by
    have g : ∀ (vs : List Value) (o : Nat) (W : World), Below w.heap.size w W → Below w.heap.size w (W.setCells w.heap.size o vs) := by
      intro vs
      induction vs with
      | nil => intro o W h; exact h
      | cons v r ih => intro o W h; exact ih _ _ (h.setCell (Nat.le_refl _) v)
    exact g _ _ _ B1
  obtain ⟨cur, hb2, hs2, hl2⟩ := setCells_row (flatR (rowsAt l)) 0 w1 mc hb1 (by omega)
  rw [List.take_zero, List.nil_append, Nat.zero_add, List.drop_eq_nil_of_le (by rw [Array.length_toList]; omega), List.append_nil] at hl2
  generalize w1.setCells w.heap.size 0 (flatR (rowsAt l)) = w2 at B2 hb2 hcp
  have hH := holds_of (rowsAt l) hb2 hl2
  have R : RowK encS44 3 w2 w.heap.size 0 (rowsAt l) := ⟨encS44_len, encS44_one, hH, blk_lt hb2⟩
  have C := sortStable_is 3 Tryd.isAgg44 Tryd.sizeOf44 encS44 rowKey (fun x y => cfS x.1.f0 y.1.f0) 65 #[] w.heap.size 0 l.length (rowsAt l) w2 R (cmpLays _ _ _ _) eg cf_key (by rw [rowsAt_size]; omega) (fun i hi => by rw [rowsAt_size] at hi; rw [rowsAt_get l i hi]) (SWK.start hH)
  rw [rowsAt_size] at C
  have C' : Calls Tryd.prog 64 #[.slice (some ⟨w.heap.size, 0, none⟩) l.length l.length, .func (.func 65) #[] #[]] w2 fun e w' => e = .returned (.tuple #[]) ∧ (Kd.R k44 44 w' w.heap.size (fun _ => True) (.slice (some ⟨w.heap.size, 0, none⟩) l.length l.length) (sortL rowKey l) ∧ Below w.heap.size w w') := by
    refine C.mono ?_
    rintro e w4 ⟨rfl, d', S4, hP, hA⟩
    have st := stable_is rowKey l d' hP hA
    have ds : d'.size = l.length := by rw [hP.1, rowsAt_size]
    obtain ⟨B4, cur', hb4, hs4⟩ := sorted_world hb2 S4
    have hl4 := blk_of d' hb4 (by omega) (S4.holds (blk_lt hb2) hH (by rw [hP.1]))
    have sl : (sortL rowKey l).length = l.length := by rw [← st, List.length_map, Array.length_toList, ds]
    refine ⟨rfl, ⟨fun _ _ => trivial, flatR d', ⟨?_, .inr ⟨w.heap.size, l.length, cur', ?_, Nat.le_refl _, hb4, ?_, ?_, ?_, ?_⟩⟩, ?_⟩, B2.trans B4⟩
    · rw [flatR_len, ds, sl]; rfl
    · rw [sl]
    · rw [sl]; exact Nat.le_refl _
    · show l.length ≤ 9223372036854775807; omega
    · rw [hs4, hs2, hs1]; rfl
    · rw [hl4, sl]
      exact List.take_of_length_le (by rw [flatR_len, ds]; exact Nat.le_refl _)
    · rw [← st]
      exact rows_flat d'
  clear C R hH hb2 hl2 hs2 B2 hb1 hs1 B1 hr fl
  go_enter Tryd.func27, Tryd.ntmps27
  go_wp2_with (first | (go_at_fn 64; (with_reducible refine C'.mono ?_); rintro e w4 ⟨rfl, hR4, hB4⟩))
  go_ret
  exact ⟨_, rfl, hR4, hB4⟩
theorem row_Sort.calls (A0 : Option Addr) (c0 : Nat) (l0 : List S44) (r : List S44) (w : World) (hr0 : Kd.C k44 w A0 l0.length l0) (hc0 : l0.length ≤ c0) (h : row_Sort.f l0 = some r) :
    Calls Tryd.prog 27 #[.slice A0 l0.length c0] w fun e w' => ∃ v0_ : Value, e = .returned v0_ ∧ Kd.R k44 44 w' w.heap.size (fun _ => True) v0_ r ∧ Below w.heap.size w w' := by
  unfold row_Sort.f at h
  split at h
  · rename_i hl
    have e := Option.some.inj h
    rw [← e]
    exact sort_is A0 c0 l0 w hl hr0 hc0
  · cases h
end Go.Proofs.YtpkjpiphjdpegaaDoor.P
namespace Go.Proofs.YtpkjpiphjdpegaaDoor.P
open Go.Shelf Go.RowKit
def sh_lays119_ren : Go.Shelf.Ren := ⟨fun | 119 => 61 | n => n, fun | 21 => 21 | 4 => 4 | n => n, fun | n => n⟩
theorem sh_lays119 : Go.Proofs.Lays.n119 Tryd.prog sh_lays119_ren := {
  mixed := by kernel_rfl
  f119 := Tryd.func61.trans (congrArg some (by kernel_rfl))
  t4 := Tryd.underlying4
  a4 := Tryd.isAgg4
  z4 := Tryd.sizeOf4
  v4 := Tryd.zeroValue4
  t21 := Tryd.underlying21
  a21 := Tryd.isAgg21
  z21 := Tryd.sizeOf21
  v21 := Tryd.zeroValue21 }
theorem sh_utf8_ValidRune (r : Int) (w : World) :
    Calls Tryd.prog 61 #[.int .i32 r] w fun e w' => e = .returned (.bool (Lib.validRune r)) ∧ w' = w := Any.utf8_ValidRune sh_lays119 r w
end Go.Proofs.YtpkjpiphjdpegaaDoor.P
namespace Go.Proofs.YtpkjpiphjdpegaaDoor.P
open Go.RowKit Go.Proofs.YtpkjpiphjdpegaaDoorW.PrintWords Go.Proofs.YtpkjpiphjdpegaaDoorW.PrintLast Go.Proofs.YtpkjpiphjdpegaaDoorW.PrintMore
set_option linter.unusedVariables false
set_option linter.unusedSimpArgs false
def runesAt (s : ByteArray) : Nat → Nat → List Int
  | 0, _ => []
  | n + 1, p => if p < s.size then ((Utf8.decode s p).1 : Int) :: runesAt s n (p + (Utf8.decode s p).2) else []
theorem runesAt_end (s : ByteArray) (n p : Nat) (h : ¬ p < s.size) : runesAt s n p = [] := by
  cases n with
  | zero => rfl
  | succ n => rw [runesAt, if_neg h]
def lines_Runes.f (a0 : ByteArray) : Option (List Int × Int) :=
  if a0.size ≤ 1000000000 then some (if Lib.validD a0.data.toList = true then (runesAt a0 a0.size 0, 0) else ([], 90)) else none
theorem wide_pos (s : ByteArray) (pos : Nat) (h : pos < s.size) : 1 ≤ (Utf8.decode s pos).2 := by
  by_cases ha : (s[pos]'h).toNat < 128
  · rw [decode_ascii s pos h ha]
    exact Nat.le_refl _
  · exact (decode_high s pos h (by omega)).2
theorem iter_grown (w : World) (k : Nat) (s : ByteArray) (p : Nat) : w.grownBy (w.iterAt k s p) (some k) :=
  ⟨rfl, rfl, rfl, by rw [Lib.iterAt_size]; exact Nat.le_refl _, fun j hj hk => Lib.iterAt_other w k j s p (fun e => hk (by rw [e]))⟩
set_option maxHeartbeats 8000000 in
set_option maxRecDepth 100000 in
theorem lines_Runes.calls (a0 : ByteArray) (r1 : List Int) (r2 : Int) (w : World) (hG : GT w) (h : lines_Runes.f a0 = some (r1, r2)) :
    Calls Tryd.prog 20 #[.string a0] w fun e w' => ∃ v0_ : Value, e = .returned (.tuple #[v0_, .int .i64 r2]) ∧ Kd.R (Kd.int .i32) 21 w' w.heap.size (fun _ => True) v0_ r1 ∧ Below w.heap.size w w' := by
  have hs : a0.size ≤ 1000000000 := by
    unfold lines_Runes.f at h
    split at h
    · assumption
    · cases h
  unfold lines_Runes.f at h
  rw [if_pos hs] at h
  have V := valid_is a0 w (by omega) hG
  by_cases b : Lib.validD a0.data.toList = true
  · rw [if_pos b] at h
    cases h
    rw [b] at V
    go_enter Tryd.func20, Tryd.ntmps20
    go_wp2_with (first | (go_at_call 58; (with_reducible refine V.mono ?_); rintro e W1 ⟨rfl, hb1⟩))
    have hwib : w.heap.size ≤ W1.heap.size := hb1.size
    go_loopg [4] a0.size (fun gk v4 wr => ∃ (x4 : List Int) (p : Nat), Aside0 (x4 ++ runesAt a0 gk p = runesAt a0 a0.size 0 ∧ x4.length ≤ p ∧ a0.size ≤ p + gk) ∧ wr.heap[W1.heap.size]? = some (.stringIter a0 p) ∧ Aside0 (Kd.R (Kd.int .i32) 21 wr w.heap.size (fun _ => True) v4 x4) ∧ Aside0 (Below w.heap.size w wr))
    case atStart =>
      refine ⟨[], 0, ⟨rfl, Nat.le_refl _, by omega⟩, ?_, ⟨Kd.R_nil _ _ _ _ _⟩, ⟨?_⟩⟩
      · exact World.iter_heap W1 a0 0
      · exact below_alloc hb1 _
    case round =>
      obtain ⟨x4, p, HX, hit, HO, HB⟩ := hrel
      have hlt : W1.heap.size < wr.heap.size := (Array.getElem?_eq_some_iff.1 hit).1
      by_cases hp : p < a0.size
      · have hnx : ∀ ty, (Instr.next (.pointer (some ⟨W1.heap.size, 0, none⟩)) true ty).run Tryd.prog wr = _ := fun ty => Lib.run_next_any_at wr W1.heap.size a0 p ty hit hp
        have hwd := wide_pos a0 p hp
        obtain ⟨k1, rfl⟩ : ∃ k1, gk = k1 + 1 := ⟨gk - 1, by have := HX.out.2.2; omega⟩
        have hne : some W1.heap.size ≠ u4.ownBlock := fun e => by
          obtain ⟨cells, hc⟩ := Kd.R_typed HO.out W1.heap.size e.symm
          rw [hit] at hc
          cases hc
        obtain ⟨W2, hW2⟩ : ∃ W2, wr.iterAt W1.heap.size a0 (p + (Utf8.decode a0 p).2) = W2 := ⟨_, rfl⟩
        have HO2 : Aside0 (Kd.R (Kd.int .i32) 21 W2 w.heap.size (fun _ => True) u4 x4) := ⟨by rw [← hW2]; exact Kd.R_grown2 HO.out rfl (iter_grown wr W1.heap.size a0 _) (fun k e => by cases e; exact hne)⟩
        have HB2 : Aside0 (Below w.heap.size w W2) := ⟨by rw [← hW2]; exact Lib.below_iterAt HB.out hwib a0 _⟩
        have hit2 : W2.heap[W1.heap.size]? = some (.stringIter a0 (p + (Utf8.decode a0 p).2)) := by rw [← hW2]; exact Lib.iterAt_heap wr W1.heap.size a0 p _ hit
        rw [hW2] at hnx
        have hx : x4.length ≤ 1000000000 := by have := HX.out.2.1; omega
        go_wp2_with (first | ((with_reducible refine gate_builtin (b := .append) (xs := #[.tmp 15, .tmp 17]) rfl ?_); at_builtin; refine Kd.R_append (Kd.int .i32) (w0 := w) w.heap.size rfl (.tmp 15) (.tmp 17) 22 21 (.int .i32 0) 4 rfl Tryd.underlying22 info21 rfl (by decide) (by omega) u4 x4 ((Utf8.decode a0 p).1 : Int) [.int .i32 ((Utf8.decode a0 p).1 : Int)] (fun _ => True) (fun _ => False) rfl rfl ?aP (fun _ hk => hk.elim) ?aF ?aO ?aB ?aS ?aL ?_; (case aP => exact rfl); (case aB => exact HB2.out); (case aF => exact (fun _ _ => trivial)); (case aO => exact HO2.out); (case aS => exact (below_size HB2.out)); (case aL => omega); intro v111 w6 ho hb hg hat))
        go_roundg k1
        case measure => omega
        case rel =>
          refine ⟨x4 ++ [((Utf8.decode a0 p).1 : Int)], p + (Utf8.decode a0 p).2, ⟨?_, ?_, ?_⟩, ?_, ⟨ho⟩, ⟨hb⟩⟩
          · rw [← HX.out.1, runesAt, if_pos hp, List.append_assoc]; rfl
          · have := HX.out.2.1; simp; omega
          · have := HX.out.2.2; omega
          · rw [hg.block W1.heap.size (by have := (Array.getElem?_eq_some_iff.1 hit2).1; exact this) hne]; exact hit2
      · have hnx : ∀ ty, (Instr.next (.pointer (some ⟨W1.heap.size, 0, none⟩)) true ty).run Tryd.prog wr = _ := fun ty => Lib.run_next_end_at wr W1.heap.size a0 p ty hit hp
        have e : x4 = runesAt a0 a0.size 0 := by have := HX.out.1; rw [runesAt_end a0 gk p hp, List.append_nil] at this; exact this
        go_wp2
        go_ret2
        exact ⟨_, rfl, by rw [← e]; exact HO.out, HB.out⟩
  · have b : Lib.validD a0.data.toList = false := by simpa using b
    rw [if_neg (by rw [b]; decide)] at h
    cases h
    rw [b] at V
    go_enter Tryd.func20, Tryd.ntmps20
    go_wp2_with (first | (go_at_call 58; (with_reducible refine V.mono ?_); rintro e W1 ⟨rfl, hb1⟩))
    go_ret2
    exact ⟨_, rfl, Kd.R_nil _ _ _ _ _, hb1⟩
theorem cell_lt {w : World} {a : Addr} {v : Value} (h : w.cell? a = some v) : a.block < w.heap.size ∧ a.spot = none := by
  unfold World.cell? at h
  split at h
  · rename_i c _ _ e
    refine ⟨(Array.getElem?_eq_some_iff.1 e).1, ?_⟩
    by_cases q : a.spot.isSome = true
    · rw [if_pos q] at h; cases h
    · simpa using q
  · cases h
def oddR (c : Int) : Bool := !Lib.validRune c
end Go.Proofs.YtpkjpiphjdpegaaDoor.P
namespace Go.Proofs.YtpkjpiphjdpegaaDoor.P
open Go.Shelf Go.RowKit
def sh_lays219_ren : Go.Shelf.Ren := ⟨fun | 219 => 125 | 217 => 135 | 225 => 136 | 224 => 137 | 267 => 138 | 266 => 145 | 314 => 146 | n => n, fun | 9 => 9 | 3 => 3 | 4 => 4 | 5 => 5 | 46 => 138 | 146 => 189 | 51 => 188 | n => n, fun | 1 => 2 | n => n⟩
theorem sh_lays219 : Go.Proofs.Lays.n219 Tryd.prog sh_lays219_ren := {
  mixed := by kernel_rfl
  f217 := Tryd.func135.trans (congrArg some (by kernel_rfl))
  f219 := Tryd.func125.trans (congrArg some (by kernel_rfl))
  f224 := Tryd.func137.trans (congrArg some (by kernel_rfl))
  f225 := Tryd.func136.trans (congrArg some (by kernel_rfl))
  f266 := Tryd.func145.trans (congrArg some (by kernel_rfl))
  f267 := Tryd.func138.trans (congrArg some (by kernel_rfl))
  f314 := Tryd.func146.trans (congrArg some (by kernel_rfl))
  t3 := Tryd.underlying3
  a3 := Tryd.isAgg3
  z3 := Tryd.sizeOf3
  v3 := Tryd.zeroValue3
  t4 := Tryd.underlying4
  a4 := Tryd.isAgg4
  z4 := Tryd.sizeOf4
  v4 := Tryd.zeroValue4
  t5 := Tryd.underlying5
  a5 := Tryd.isAgg5
  z5 := Tryd.sizeOf5
  v5 := Tryd.zeroValue5
  t9 := Tryd.underlying9
  a9 := Tryd.isAgg9
  z9 := Tryd.sizeOf9
  v9 := Tryd.zeroValue9
  t46 := Tryd.underlying138
  a46 := Tryd.isAgg138
  z46 := Tryd.sizeOf138
  v46 := Tryd.zeroValue138
  t51 := Tryd.underlying188
  a51 := Tryd.isAgg188
  z51 := Tryd.sizeOf188
  v51 := Tryd.zeroValue188
  t146 := Tryd.underlying189
  a146 := Tryd.isAgg189
  z146 := Tryd.sizeOf189
  v146 := Tryd.zeroValue189
  g1 := by kernel_rfl }
open Go.RowKit Go.Lib in
theorem sh_stringslite_Index_one (s : ByteArray) (c : UInt8) (w : World) :
    Calls Tryd.prog 125 #[.string s, .string ⟨#[c]⟩] w fun e w' => e = .returned (.int .i64 (Lib.indexByte s.data.toList c)) ∧ w' = w := Any.stringslite_Index_one sh_lays219 s c w
end Go.Proofs.YtpkjpiphjdpegaaDoor.P
namespace Go.Proofs.YtpkjpiphjdpegaaDoor.P
open Go.RowKit Go.Proofs.YtpkjpiphjdpegaaDoorW.PrintWords Go.Proofs.YtpkjpiphjdpegaaDoorW.PrintLast Go.Proofs.YtpkjpiphjdpegaaDoorW.PrintMore
attribute [local go_sem] max2_int min2_int max_two min_two max_three min_three max_four min_four
set_option linter.unusedVariables false
set_option linter.unusedSimpArgs false
def stringslite_Index.f (s sub : ByteArray) : Option Int := if sub.data.toList.length = 1 then some (Lib.indexByte s.data.toList (sub.data.toList.getD 0 0)) else none
theorem stringslite_Index.calls (a0 : ByteArray) (a1 : ByteArray) (r : Int) (w : World) (h : stringslite_Index.f a0 a1 = some r) :
    Calls Tryd.prog 125 #[.string a0, .string a1] w fun e w' => e = .returned (.int .i64 r) ∧ Below w.heap.size w w' := by
  unfold stringslite_Index.f at h
  split at h
  · rename_i q
    obtain rfl := Option.some.inj h
    obtain ⟨⟨l⟩⟩ := a1
    match l, q with
    | [c], _ => exact (sh_stringslite_Index_one a0 c w).mono fun e w' hh => ⟨hh.1, hh.2 ▸ Below.refl _ _⟩
  · cases h
def lines_wrong.f (a0 : ByteArray) : Option (Int) := (lines_Runes.f a0).bind fun bt108 => (if bt108.2 = 0 then (if (bt108.1.length : Int) > 80 then (some 91) else (some bt108.2)) else (some bt108.2))
set_option maxHeartbeats 8000000 in
set_option maxRecDepth 100000 in
theorem lines_wrong.calls (a0 : ByteArray) (r : Int) (w : World) (hG : GT w) (h : lines_wrong.f a0 = some r) :
    Calls Tryd.prog 75 #[.string a0] w fun e w' => e = .returned (.int .i64 r) ∧ Below w.heap.size w w' := by
  have HB := Aside0.mk (Below.refl w.heap.size w)
  have H : ((lines_Runes.f a0).bind fun bt108 => (if bt108.2 = 0 then (if (bt108.1.length : Int) > 80 then (some 91) else (some bt108.2)) else (some bt108.2))) = some r := h
  clear h
  replace H := Option.bind_eq_some_iff.mp H
  obtain ⟨⟨t108, t109⟩, A20, H⟩ := H
  replace H : (if t109 = 0 then (if (t108.length : Int) > 80 then (some 91) else (some t109)) else (some t109)) = some r := H
  have A2 := Aside0.mk A20
  clear A20
  by_cases c3 : t109 = 0
  · rw [if_pos c3] at H
    have c3b0 : (t109 == 0) = true := beq_iff_eq.mpr c3
    have c3b1 : (t109 != 0) = false := bne_eq_false_iff_eq.mpr c3
    clear c3
    by_cases c4 : (t108.length : Int) > 80
    · rw [if_pos c4] at H
      have c4b0 : decide (80 < (t108.length : Int)) = true := decide_eq_true c4
      have c4b1 : decide (80 < t108.length) = true := decide_eq_true (by omega)
      clear c4
      obtain rfl := Option.some.inj H
      go_enter Tryd.func75, Tryd.ntmps75
      go_wp2_with (first | ((with_reducible refine gate_callee (f := 20) rfl ?_); refine goesL_ (some 7) rfl rfl Tryd.func20 (by kernel_rfl) rfl #[.string a0] rfl (by (try simp only [List.map_toArray, List.map_cons, List.map_nil]); first | done | rfl | (simp only [List.length_drop, List.length_take]; rfl)) ?_; (with_reducible refine (lines_Runes.calls a0 t108 t109 _ ?side1 A2.out).mono ?_); (case side1 => exact gt_below hG (by repeat (first | (with_reducible first | exact HB.out | apply below_alloc | apply pw_below_drewN | apply below_drew1) | exact HB.out))); rintro e w5 ⟨v110, rfl, ho0, hb⟩; refine ⟨_, rfl, ?_⟩; have n0_ := Aside0.mk (Kd.R_lower ho0 (below_size (by repeat (first | (with_reducible first | exact HB.out | apply below_alloc | apply pw_below_drewN | apply below_drew1) | exact HB.out)))); have n1_ := Aside0.mk (below_step (by repeat (first | (with_reducible first | exact HB.out | apply below_alloc | apply pw_below_drewN | apply below_drew1) | exact HB.out)) hb); clear HB; have HO111 := n0_; have HB := n1_; clear n0_ n1_; (try clear hb); (try clear hb2); (try clear hk); (try clear hi); (try clear ho0); obtain ⟨Ao6, co6, eo6⟩ := Kd.R_slice HO111.out; subst eo6))
      go_ret
      exact ⟨by first | rfl | (simp [errW_none, errW_some] <;> rfl) | (simp [*, errW_none, errW_some] <;> rfl), by repeat (first | (with_reducible first | exact HB.out | apply below_alloc | apply pw_below_drewN | apply below_drew1) | exact HB.out)⟩
    · rw [if_neg c4] at H
      have c4b0 : decide (80 < (t108.length : Int)) = false := decide_eq_false c4
      have c4b1 : decide (80 < t108.length) = false := decide_eq_false (by omega)
      clear c4
      obtain rfl := Option.some.inj H
      go_enter Tryd.func75, Tryd.ntmps75
      go_wp2_with (first | ((with_reducible refine gate_callee (f := 20) rfl ?_); refine goesL_ (some 7) rfl rfl Tryd.func20 (by kernel_rfl) rfl #[.string a0] rfl (by (try simp only [List.map_toArray, List.map_cons, List.map_nil]); first | done | rfl | (simp only [List.length_drop, List.length_take]; rfl)) ?_; (with_reducible refine (lines_Runes.calls a0 t108 t109 _ ?side1 A2.out).mono ?_); (case side1 => exact gt_below hG (by repeat (first | (with_reducible first | exact HB.out | apply below_alloc | apply pw_below_drewN | apply below_drew1) | exact HB.out))); rintro e w7 ⟨v110, rfl, ho0, hb⟩; refine ⟨_, rfl, ?_⟩; have n0_ := Aside0.mk (Kd.R_lower ho0 (below_size (by repeat (first | (with_reducible first | exact HB.out | apply below_alloc | apply pw_below_drewN | apply below_drew1) | exact HB.out)))); have n1_ := Aside0.mk (below_step (by repeat (first | (with_reducible first | exact HB.out | apply below_alloc | apply pw_below_drewN | apply below_drew1) | exact HB.out)) hb); clear HB; have HO111 := n0_; have HB := n1_; clear n0_ n1_; (try clear hb); (try clear hb2); (try clear hk); (try clear hi); (try clear ho0); obtain ⟨Ao8, co8, eo8⟩ := Kd.R_slice HO111.out; subst eo8))
      go_ret
      exact ⟨by first | rfl | (simp [errW_none, errW_some] <;> rfl) | (simp [*, errW_none, errW_some] <;> rfl), by repeat (first | (with_reducible first | exact HB.out | apply below_alloc | apply pw_below_drewN | apply below_drew1) | exact HB.out)⟩
  · rw [if_neg c3] at H
    have c3b0 : (t109 == 0) = false := beq_eq_false_iff_ne.mpr c3
    have c3b1 : (t109 != 0) = true := bne_iff_ne.mpr c3
    obtain rfl := Option.some.inj H
    go_enter Tryd.func75, Tryd.ntmps75
    go_wp2_with (first | ((with_reducible refine gate_callee (f := 20) rfl ?_); refine goesL_ (some 7) rfl rfl Tryd.func20 (by kernel_rfl) rfl #[.string a0] rfl (by (try simp only [List.map_toArray, List.map_cons, List.map_nil]); first | done | rfl | (simp only [List.length_drop, List.length_take]; rfl)) ?_; (with_reducible refine (lines_Runes.calls a0 t108 t109 _ ?side1 A2.out).mono ?_); (case side1 => exact gt_below hG (by repeat (first | (with_reducible first | exact HB.out | apply below_alloc | apply pw_below_drewN | apply below_drew1) | exact HB.out))); rintro e w9 ⟨v110, rfl, ho0, hb⟩; refine ⟨_, rfl, ?_⟩; have n0_ := Aside0.mk (Kd.R_lower ho0 (below_size (by repeat (first | (with_reducible first | exact HB.out | apply below_alloc | apply pw_below_drewN | apply below_drew1) | exact HB.out)))); have n1_ := Aside0.mk (below_step (by repeat (first | (with_reducible first | exact HB.out | apply below_alloc | apply pw_below_drewN | apply below_drew1) | exact HB.out)) hb); clear HB; have HO111 := n0_; have HB := n1_; clear n0_ n1_; (try clear hb); (try clear hb2); (try clear hk); (try clear hi); (try clear ho0)))
    go_ret
    exact ⟨by first | rfl | (simp [errW_none, errW_some] <;> rfl) | (simp [*, errW_none, errW_some] <;> rfl), by repeat (first | (with_reducible first | exact HB.out | apply below_alloc | apply pw_below_drewN | apply below_drew1) | exact HB.out)⟩
def stringslite_Cut.f (a0 : ByteArray) (a1 : ByteArray) : Option (ByteArray × ByteArray × Bool) := (stringslite_Index.f a0 a1).bind fun t114 => (if t114 ≥ 0 then (if 0 ≤ t114 then (if t114 ≤ (a0.size : Int) then (if 0 ≤ (wrap64 (t114 + (a1.size : Int))) then (if (wrap64 (t114 + (a1.size : Int))) ≤ (a0.size : Int) then (some (a0.extract 0 (t114 : Int).toNat, a0.extract ((wrap64 (t114 + (a1.size : Int))) : Int).toNat a0.size, true)) else (none)) else (none)) else (none)) else (none)) else (some (a0, (⟨#[]⟩ : ByteArray), false)))
set_option maxHeartbeats 8000000 in
set_option maxRecDepth 100000 in
theorem stringslite_Cut.calls (a0 : ByteArray) (a1 : ByteArray) (r1 : ByteArray) (r2 : ByteArray) (r3 : Bool) (w : World) (h : stringslite_Cut.f a0 a1 = some (r1, r2, r3)) :
    Calls Tryd.prog 103 #[.string a0, .string a1] w fun e w' => e = .returned (.tuple #[.string r1, .string r2, .bool r3]) ∧ Below w.heap.size w w' := by
  have HB := Aside0.mk (Below.refl w.heap.size w)
  have H : ((stringslite_Index.f a0 a1).bind fun t114 => (if t114 ≥ 0 then (if 0 ≤ t114 then (if t114 ≤ (a0.size : Int) then (if 0 ≤ (wrap64 (t114 + (a1.size : Int))) then (if (wrap64 (t114 + (a1.size : Int))) ≤ (a0.size : Int) then (some (a0.extract 0 (t114 : Int).toNat, a0.extract ((wrap64 (t114 + (a1.size : Int))) : Int).toNat a0.size, true)) else (none)) else (none)) else (none)) else (none)) else (some (a0, (⟨#[]⟩ : ByteArray), false)))) = some (r1, r2, r3) := h
  clear h
  replace H := Option.bind_eq_some_iff.mp H
  obtain ⟨t114, A30, H⟩ := H
  replace H : (if t114 ≥ 0 then (if 0 ≤ t114 then (if t114 ≤ (a0.size : Int) then (if 0 ≤ (wrap64 (t114 + (a1.size : Int))) then (if (wrap64 (t114 + (a1.size : Int))) ≤ (a0.size : Int) then (some (a0.extract 0 (t114 : Int).toNat, a0.extract ((wrap64 (t114 + (a1.size : Int))) : Int).toNat a0.size, true)) else (none)) else (none)) else (none)) else (none)) else (some (a0, (⟨#[]⟩ : ByteArray), false))) = some (r1, r2, r3) := H
  have A3 := Aside0.mk A30
  clear A30
  by_cases c4 : t114 ≥ 0
  · rw [if_pos c4] at H
    have c4b0 : decide (0 ≤ t114) = true := decide_eq_true c4
    clear c4
    by_cases c5 : 0 ≤ t114
    · rw [if_pos c5] at H
      have c5b0 := eq_true c5
      have c5b1 : decide (0 ≤ t114) = true := decide_eq_true c5
      clear c5
      by_cases c6 : t114 ≤ (a0.size : Int)
      · rw [if_pos c6] at H
        have c6b0 := eq_true c6
        have c6b1 : decide (t114 ≤ (a0.size : Int)) = true := decide_eq_true c6
        clear c6
        obtain ⟨ji7, hji7⟩ : ∃ j_ : Int, (wrap64 (t114 + (a1.size : Int))) = j_ := ⟨_, rfl⟩
        replace H : (if 0 ≤ (ji7) then (if (ji7) ≤ (a0.size : Int) then (some (a0.extract 0 (t114 : Int).toNat, a0.extract ((ji7) : Int).toNat a0.size, true)) else (none)) else (none)) = some (r1, r2, r3) := by first | (rw [hji7] at H; exact H) | (simp only [hji7] at H ⊢; exact H)
        (try rw [hji7] at A3)
        have hji7w : (IntKind.i64.wrap (t114 + (a1.size : Int))) = ji7 := (i64_w _).trans hji7
        by_cases c8 : 0 ≤ (ji7)
        · rw [if_pos c8] at H
          have c8b0 := eq_true c8
          have c8b1 : decide (0 ≤ (ji7)) = true := decide_eq_true c8
          clear c8
          by_cases c9 : (ji7) ≤ (a0.size : Int)
          · rw [if_pos c9] at H
            have c9b0 := eq_true c9
            have c9b1 : decide ((ji7) ≤ (a0.size : Int)) = true := decide_eq_true c9
            clear c9
            simp only [Option.some.injEq, Prod.mk.injEq] at H
            obtain ⟨rfl, rfl, rfl⟩ := H
            go_enter Tryd.func103, Tryd.ntmps103
            go_wp2_with (first | (go_at_call 125; (with_reducible refine (stringslite_Index.calls a0 a1 t114 _ A3.out).mono ?_); rintro e w10 ⟨rfl, hb⟩; have n0_ := Aside0.mk (below_step (by repeat (first | (with_reducible first | exact HB.out | apply below_alloc | apply pw_below_drewN | apply below_drew1) | exact HB.out)) hb); clear HB; have HB := n0_; clear n0_; (try clear hb); (try clear hb2); (try clear hk); (try clear hi)))
            repeat (go_quiet (first | (go_at_call 125; (with_reducible refine (stringslite_Index.calls a0 a1 t114 _ A3.out).mono ?_); rintro e w10 ⟨rfl, hb⟩; have n0_ := Aside0.mk (below_step (by repeat (first | (with_reducible first | exact HB.out | apply below_alloc | apply pw_below_drewN | apply below_drew1) | exact HB.out)) hb); clear HB; have HB := n0_; clear n0_; (try clear hb); (try clear hb2); (try clear hk); (try clear hi))); try go_wp2_with (first | (go_at_call 125; (with_reducible refine (stringslite_Index.calls a0 a1 t114 _ A3.out).mono ?_); rintro e w10 ⟨rfl, hb⟩; have n0_ := Aside0.mk (below_step (by repeat (first | (with_reducible first | exact HB.out | apply below_alloc | apply pw_below_drewN | apply below_drew1) | exact HB.out)) hb); clear HB; have HB := n0_; clear n0_; (try clear hb); (try clear hb2); (try clear hk); (try clear hi))))
            go_ret3
            exact ⟨by first | rfl | (simp [errW_none, errW_some] <;> rfl) | (simp only [← hji7]; first | rfl | (simp [errW_none, errW_some] <;> rfl)) | (simp [*, errW_none, errW_some] <;> rfl), by repeat (first | (with_reducible first | exact HB.out | apply below_alloc | apply pw_below_drewN | apply below_drew1) | exact HB.out)⟩
          · rw [if_neg c9] at H
            exact absurd H (by simp)
        · rw [if_neg c8] at H
          exact absurd H (by simp)
      · rw [if_neg c6] at H
        exact absurd H (by simp)
    · rw [if_neg c5] at H
      exact absurd H (by simp)
  · rw [if_neg c4] at H
    have c4b0 : decide (0 ≤ t114) = false := decide_eq_false c4
    clear c4
    simp only [Option.some.injEq, Prod.mk.injEq] at H
    obtain ⟨rfl, rfl, rfl⟩ := H
    go_enter Tryd.func103, Tryd.ntmps103
    go_wp2_with (first | (go_at_call 125; (with_reducible refine (stringslite_Index.calls a0 a1 t114 _ A3.out).mono ?_); rintro e w11 ⟨rfl, hb⟩; have n0_ := Aside0.mk (below_step (by repeat (first | (with_reducible first | exact HB.out | apply below_alloc | apply pw_below_drewN | apply below_drew1) | exact HB.out)) hb); clear HB; have HB := n0_; clear n0_; (try clear hb); (try clear hb2); (try clear hk); (try clear hi)))
    repeat (go_quiet (first | (go_at_call 125; (with_reducible refine (stringslite_Index.calls a0 a1 t114 _ A3.out).mono ?_); rintro e w11 ⟨rfl, hb⟩; have n0_ := Aside0.mk (below_step (by repeat (first | (with_reducible first | exact HB.out | apply below_alloc | apply pw_below_drewN | apply below_drew1) | exact HB.out)) hb); clear HB; have HB := n0_; clear n0_; (try clear hb); (try clear hb2); (try clear hk); (try clear hi))); try go_wp2_with (first | (go_at_call 125; (with_reducible refine (stringslite_Index.calls a0 a1 t114 _ A3.out).mono ?_); rintro e w11 ⟨rfl, hb⟩; have n0_ := Aside0.mk (below_step (by repeat (first | (with_reducible first | exact HB.out | apply below_alloc | apply pw_below_drewN | apply below_drew1) | exact HB.out)) hb); clear HB; have HB := n0_; clear n0_; (try clear hb); (try clear hb2); (try clear hk); (try clear hi))))
    go_ret3
    exact ⟨by first | rfl | (simp [errW_none, errW_some] <;> rfl) | (simp [*, errW_none, errW_some] <;> rfl), by repeat (first | (with_reducible first | exact HB.out | apply below_alloc | apply pw_below_drewN | apply below_drew1) | exact HB.out)⟩
def strings_Cut.f (a0 : ByteArray) (a1 : ByteArray) : Option (ByteArray × ByteArray × Bool) := (stringslite_Cut.f a0 a1).bind fun bt115 => (some (bt115.1, bt115.2.1, bt115.2.2))
set_option maxHeartbeats 8000000 in
set_option maxRecDepth 100000 in
theorem strings_Cut.calls (a0 : ByteArray) (a1 : ByteArray) (r1 : ByteArray) (r2 : ByteArray) (r3 : Bool) (w : World) (h : strings_Cut.f a0 a1 = some (r1, r2, r3)) :
    Calls Tryd.prog 74 #[.string a0, .string a1] w fun e w' => e = .returned (.tuple #[.string r1, .string r2, .bool r3]) ∧ Below w.heap.size w w' := by
  have HB := Aside0.mk (Below.refl w.heap.size w)
  have H : ((stringslite_Cut.f a0 a1).bind fun bt115 => (some (bt115.1, bt115.2.1, bt115.2.2))) = some (r1, r2, r3) := h
  clear h
  replace H := Option.bind_eq_some_iff.mp H
  obtain ⟨⟨t115, t116, t117⟩, A30, H⟩ := H
  replace H : (some (t115, t116, t117)) = some (r1, r2, r3) := H
  have A3 := Aside0.mk A30
  clear A30
  simp only [Option.some.injEq, Prod.mk.injEq] at H
  obtain ⟨rfl, rfl, rfl⟩ := H
  go_enter Tryd.func74, Tryd.ntmps74
  go_wp2_with (first | ((with_reducible refine gate_callee (f := 103) rfl ?_); refine goesL_ (some 9) rfl rfl Tryd.func103 (by kernel_rfl) rfl #[.string a0, .string a1] rfl (by (try simp only [List.map_toArray, List.map_cons, List.map_nil]); first | done | rfl | (simp only [List.length_drop, List.length_take]; rfl)) ?_; (with_reducible refine (stringslite_Cut.calls a0 a1 t115 t116 t117 _ A3.out).mono ?_); rintro e w4 ⟨rfl, hb⟩; refine ⟨_, rfl, ?_⟩; have n0_ := Aside0.mk (below_step (by repeat (first | (with_reducible first | exact HB.out | apply below_alloc | apply pw_below_drewN | apply below_drew1) | exact HB.out)) hb); clear HB; have HB := n0_; clear n0_; (try clear hb); (try clear hb2); (try clear hk); (try clear hi)))
  go_ret3
  exact ⟨by first | rfl | (simp [errW_none, errW_some] <;> rfl) | (simp [*, errW_none, errW_some] <;> rfl), by repeat (first | (with_reducible first | exact HB.out | apply below_alloc | apply pw_below_drewN | apply below_drew1) | exact HB.out)⟩
def stringslite_HasPrefix.f (a0 : ByteArray) (a1 : ByteArray) : Option (Bool) := if (a0.size : Int) ≥ (a1.size : Int) then (if 0 ≤ (a1.size : Int) then (if (a1.size : Int) ≤ (a0.size : Int) then (some ((a0.extract 0 ((a1.size : Int) : Int).toNat).toList == a1.toList)) else (none)) else (none)) else (some false)
set_option maxHeartbeats 8000000 in
set_option maxRecDepth 100000 in
theorem stringslite_HasPrefix.calls (a0 : ByteArray) (a1 : ByteArray) (r : Bool) (w : World) (h : stringslite_HasPrefix.f a0 a1 = some r) :
    Calls Tryd.prog 102 #[.string a0, .string a1] w fun e w' => e = .returned (.bool r) ∧ Drawn0 w w' := by
  have H : (if (a0.size : Int) ≥ (a1.size : Int) then (if 0 ≤ (a1.size : Int) then (if (a1.size : Int) ≤ (a0.size : Int) then (some ((a0.extract 0 ((a1.size : Int) : Int).toNat).toList == a1.toList)) else (none)) else (none)) else (some false)) = some r := h
  clear h
  by_cases c3 : (a0.size : Int) ≥ (a1.size : Int)
  · rw [if_pos c3] at H
    have c3b0 : decide ((a1.size : Int) ≤ (a0.size : Int)) = true := decide_eq_true c3
    have c3b1 : decide (a1.size ≤ a0.size) = true := decide_eq_true (Int.ofNat_le.mp c3)
    clear c3
    by_cases c4 : 0 ≤ (a1.size : Int)
    · rw [if_pos c4] at H
      have c4b0 := eq_true c4
      have c4b1 : decide (0 ≤ (a1.size : Int)) = true := decide_eq_true c4
      clear c4
      by_cases c5 : (a1.size : Int) ≤ (a0.size : Int)
      · rw [if_pos c5] at H
        have c5b0 := eq_true c5
        have c5b1 : decide ((a1.size : Int) ≤ (a0.size : Int)) = true := decide_eq_true c5
        clear c5
        obtain rfl := Option.some.inj H
        go_enter Tryd.func102, Tryd.ntmps102
        go_wp2
        go_ret
        exact ⟨by first | rfl | (simp; done) | (simp [*]; done), by repeat (first | exact Drawn0.refl _ | apply Drawn0.step)⟩
      · rw [if_neg c5] at H
        exact absurd H (by simp)
    · rw [if_neg c4] at H
      exact absurd H (by simp)
  · rw [if_neg c3] at H
    have c3b0 : decide ((a1.size : Int) ≤ (a0.size : Int)) = false := decide_eq_false c3
    have c3b1 : decide (a1.size ≤ a0.size) = false := decide_eq_false (fun h => c3 (Int.ofNat_le.mpr h))
    clear c3
    obtain rfl := Option.some.inj H
    go_enter Tryd.func102, Tryd.ntmps102
    go_wp2
    go_ret
    exact ⟨by first | rfl | (simp; done) | (simp [*]; done), by repeat (first | exact Drawn0.refl _ | apply Drawn0.step)⟩
def strings_HasPrefix.f (a0 : ByteArray) (a1 : ByteArray) : Option (Bool) := (stringslite_HasPrefix.f a0 a1).bind fun t118 => (some t118)
set_option maxHeartbeats 8000000 in
set_option maxRecDepth 100000 in
theorem strings_HasPrefix.calls0 (a0 : ByteArray) (a1 : ByteArray) (r : Bool) (w : World) (h : strings_HasPrefix.f a0 a1 = some r) :
    Calls Tryd.prog 72 #[.string a0, .string a1] w fun e w' => e = .returned (.bool r) ∧ Drawn0 w w' := by
  have H : ((stringslite_HasPrefix.f a0 a1).bind fun t118 => (some t118)) = some r := h
  clear h
  replace H := Option.bind_eq_some_iff.mp H
  obtain ⟨t118, A30, H⟩ := H
  replace H : (some t118) = some r := H
  have A3 := Aside0.mk A30
  clear A30
  obtain rfl := Option.some.inj H
  go_enter Tryd.func72, Tryd.ntmps72
  go_wp2_with (first | ((with_reducible refine gate_callee (f := 102) rfl ?_); refine goesL_ (some 7) rfl rfl Tryd.func102 (by kernel_rfl) rfl #[.string a0, .string a1] rfl (by (try simp only [List.map_toArray, List.map_cons, List.map_nil]); first | done | rfl | (simp only [List.length_drop, List.length_take]; rfl)) ?_; (with_reducible refine (stringslite_HasPrefix.calls a0 a1 t118 _ A3.out).mono ?_); rintro e w' ⟨rfl, ⟨nd, rfl⟩⟩; refine ⟨_, rfl, ?_⟩))
  go_ret
  exact ⟨by first | rfl | (simp; done) | (simp [*]; done), by repeat (first | exact Drawn0.refl _ | apply Drawn0.step)⟩
theorem strings_HasPrefix.calls (a0 : ByteArray) (a1 : ByteArray) (r : Bool) (w : World) (h : strings_HasPrefix.f a0 a1 = some r) :
    Calls Tryd.prog 72 #[.string a0, .string a1] w fun e w' => e = .returned (.bool r) ∧ Below w.heap.size w w' :=
  (strings_HasPrefix.calls0 a0 a1 r w h).mono fun e w' hh => ⟨hh.1, hh.2.below⟩
def lines_Kind.f (a0 : ByteArray) : Option (Int) := if a0.toList = ([] : List UInt8) then (some 0) else ((strings_HasPrefix.f a0 (⟨#[35]⟩ : ByteArray)).bind fun t186 => (if t186 = true then (some 1) else (some 2)))
set_option maxHeartbeats 8000000 in
set_option maxRecDepth 100000 in
theorem lines_Kind.calls (a0 : ByteArray) (r : Int) (w : World) (h : lines_Kind.f a0 = some r) :
    Calls Tryd.prog 37 #[.string a0] w fun e w' => e = .returned (.int .u8 r) ∧ Below w.heap.size w w' := by
  have HB := Aside0.mk (Below.refl w.heap.size w)
  have H : (if a0.toList = ([] : List UInt8) then (some 0) else ((strings_HasPrefix.f a0 (⟨#[35]⟩ : ByteArray)).bind fun t186 => (if t186 = true then (some 1) else (some 2)))) = some r := h
  clear h
  by_cases c2 : a0.toList = ([] : List UInt8)
  · rw [if_pos c2] at H
    have c2b0 : (a0.toList == ([] : List UInt8)) = true := beq_iff_eq.mpr c2
    have c2b1 : (a0.toList != ([] : List UInt8)) = false := bne_eq_false_iff_eq.mpr c2
    clear c2
    obtain rfl := Option.some.inj H
    go_enter Tryd.func37, Tryd.ntmps37
    go_wp2
    go_ret
    exact ⟨by first | rfl | (simp [errW_none, errW_some] <;> rfl) | (simp [*, errW_none, errW_some] <;> rfl), by repeat (first | (with_reducible first | exact HB.out | apply below_alloc | apply pw_below_drewN | apply below_drew1) | exact HB.out)⟩
  · rw [if_neg c2] at H
    have c2b0 : (a0.toList == ([] : List UInt8)) = false := beq_eq_false_iff_ne.mpr c2
    have c2b1 : (a0.toList != ([] : List UInt8)) = true := bne_iff_ne.mpr c2
    replace H := Option.bind_eq_some_iff.mp H
    obtain ⟨t186, A30, H⟩ := H
    replace H : (if t186 = true then (some 1) else (some 2)) = some r := H
    have A3 := Aside0.mk A30
    clear A30
    by_cases c4 : t186 = true
    · subst c4
      have H1 : (some 1) = some r := by rw [if_pos rfl] at H; exact H
      clear H
      have H := H1
      clear H1
      obtain rfl := Option.some.inj H
      go_enter Tryd.func37, Tryd.ntmps37
      go_wp2_with (first | ((with_reducible refine gate_callee (f := 72) rfl ?_); refine goesL_ (some 8) rfl rfl Tryd.func72 (by kernel_rfl) rfl #[.string a0, .string (⟨#[35]⟩ : ByteArray)] rfl (by (try simp only [List.map_toArray, List.map_cons, List.map_nil]); first | done | rfl | (simp only [List.length_drop, List.length_take]; rfl)) ?_; (with_reducible refine (strings_HasPrefix.calls a0 (⟨#[35]⟩ : ByteArray) true _ A3.out).mono ?_); rintro e w5 ⟨rfl, hb⟩; refine ⟨_, rfl, ?_⟩; have n0_ := Aside0.mk (below_step (by repeat (first | (with_reducible first | exact HB.out | apply below_alloc | apply pw_below_drewN | apply below_drew1) | exact HB.out)) hb); clear HB; have HB := n0_; clear n0_; (try clear hb); (try clear hb2); (try clear hk); (try clear hi)))
      go_ret
      exact ⟨by first | rfl | (simp [errW_none, errW_some] <;> rfl) | (simp [*, errW_none, errW_some] <;> rfl), by repeat (first | (with_reducible first | exact HB.out | apply below_alloc | apply pw_below_drewN | apply below_drew1) | exact HB.out)⟩
    · replace c4 := Bool.eq_false_iff.mpr c4
      subst c4
      have H1 : (some 2) = some r := by rw [if_neg (show ¬ (false = true) by decide)] at H; exact H
      clear H
      have H := H1
      clear H1
      obtain rfl := Option.some.inj H
      go_enter Tryd.func37, Tryd.ntmps37
      go_wp2_with (first | ((with_reducible refine gate_callee (f := 72) rfl ?_); refine goesL_ (some 8) rfl rfl Tryd.func72 (by kernel_rfl) rfl #[.string a0, .string (⟨#[35]⟩ : ByteArray)] rfl (by (try simp only [List.map_toArray, List.map_cons, List.map_nil]); first | done | rfl | (simp only [List.length_drop, List.length_take]; rfl)) ?_; (with_reducible refine (strings_HasPrefix.calls a0 (⟨#[35]⟩ : ByteArray) false _ A3.out).mono ?_); rintro e w6 ⟨rfl, hb⟩; refine ⟨_, rfl, ?_⟩; have n0_ := Aside0.mk (below_step (by repeat (first | (with_reducible first | exact HB.out | apply below_alloc | apply pw_below_drewN | apply below_drew1) | exact HB.out)) hb); clear HB; have HB := n0_; clear n0_; (try clear hb); (try clear hb2); (try clear hk); (try clear hi)))
      go_ret
      exact ⟨by first | rfl | (simp [errW_none, errW_some] <;> rfl) | (simp [*, errW_none, errW_some] <;> rfl), by repeat (first | (with_reducible first | exact HB.out | apply below_alloc | apply pw_below_drewN | apply below_drew1) | exact HB.out)⟩
end Go.Proofs.YtpkjpiphjdpegaaDoor.P
namespace Go.Proofs.YtpkjpiphjdpegaaDoor.P
open Go.RowKit Go.Proofs.YtpkjpiphjdpegaaDoorW.PrintWords Go.Proofs.YtpkjpiphjdpegaaDoorW.PrintLast Go.Proofs.YtpkjpiphjdpegaaDoorW.PrintMore
set_option linter.unusedVariables false
set_option linter.unusedSimpArgs false
def mk (l : List UInt8) : ByteArray := ⟨l.toArray⟩
theorem mk_list (l : List UInt8) : (mk l).data.toList = l := rfl
theorem mk_size (l : List UInt8) : (mk l).size = l.length := by simp [mk, ByteArray.size]
theorem mk_of (s : ByteArray) : mk s.data.toList = s := by
  obtain ⟨⟨l⟩⟩ := s
  rfl
theorem toList_eq (s : ByteArray) : s.toList = s.data.toList := Go.ByteArray.toList_eq s
def splitB : List UInt8 → List (List UInt8)
  | [] => [[]]
  | b :: l => if b = 10 then [] :: splitB l else match splitB l with
    | [] => [[b]]
    | h :: r => (b :: h) :: r
theorem splitB_ne (l : List UInt8) : splitB l ≠ [] := by
  cases l with
  | nil => simp [splitB]
  | cons b l =>
    rw [splitB]
    split
    · simp
    · split <;> simp
theorem splitB_none : ∀ {l : List UInt8}, Lib.indexByte l 10 = -1 → splitB l = [l]
  | [], _ => rfl
  | b :: l, h => by
    have hb : ¬ b = 10 := fun e => by
      have := Lib.indexByte_none h 0
      rw [e] at this
      simp at this
    have hl : Lib.indexByte l 10 = -1 := by
      have hge := Lib.indexByte_ge l 10
      rw [Lib.indexByte, if_neg (by simp [hb])] at h
      split at h
      · rename_i q; simpa using q
      · omega
    rw [splitB, if_neg hb, splitB_none hl]
theorem splitB_some : ∀ {l : List UInt8} {i : Nat}, Lib.indexByte l 10 = (i : Int) → splitB l = l.take i :: splitB (l.drop (i + 1)) ∧ i < l.length
  | [], i, h => by simp [Lib.indexByte] at h
  | b :: l, i, h => by
    rw [Lib.indexByte] at h
    by_cases hb : b = 10
    · rw [if_pos (by simp [hb])] at h
      obtain rfl : i = 0 := by omega
      rw [splitB, if_pos hb]
      simp
    · rw [if_neg (by simp [hb])] at h
      split at h
      · omega
      · have hge := Lib.indexByte_ge l 10
        rename_i q
        have q' : Lib.indexByte l 10 ≠ -1 := by simpa using q
        obtain ⟨k, rfl⟩ : ∃ k, i = k + 1 := ⟨i - 1, by omega⟩
        obtain ⟨e, hk⟩ := splitB_some (l := l) (i := k) (by omega)
        rw [splitB, if_neg hb, e]
        simp
        omega
def kindOf : List UInt8 → Int
  | [] => 0
  | b :: _ => if b = 35 then 1 else 2
def wrongOf (h : List UInt8) : Int := if Lib.validD h = true then (if (runesAt (mk h) h.length 0).length > 80 then 91 else 0) else 90
def lineOf (n : Int) (h : List UInt8) : S56 := ⟨n, mk h, kindOf h, wrongOf h⟩
def linesL (n : Int) : List (List UInt8) → List S56
  | [] => []
  | h :: r => lineOf n h :: linesL (n + 1) r
def allL (s : ByteArray) : List S56 := linesL 1 (splitB s.data.toList)
theorem linesL_len : ∀ (l : List (List UInt8)) (n : Int), (linesL n l).length = l.length
  | [], n => rfl
  | h :: r, n => by rw [linesL, List.length_cons, linesL_len r, List.length_cons]
theorem splitB_len (l : List UInt8) : (splitB l).length ≤ l.length + 1 := by
  induction l with
  | nil => simp [splitB]
  | cons b l ih =>
    rw [splitB]
    split
    · simp; omega
    · split
      · simp
      · rename_i q; rw [q] at ih; simp at ih ⊢; omega
theorem extract_mk (l : List UInt8) (i j : Nat) : (mk l).extract i j = mk ((l.take j).drop i) := by
  apply ByteArray.ext
  rw [ByteArray.data_extract]
  apply Array.ext'
  rw [Array.toList_extract]
  show l.extract i j = _
  rw [List.extract_eq_take_drop, List.drop_take]
  rfl
theorem cut_none {l : List UInt8} (h : Lib.indexByte l 10 = -1) : strings_Cut.f (mk l) (⟨#[10]⟩ : ByteArray) = some (mk l, (⟨#[]⟩ : ByteArray), false) := by
  have e : stringslite_Index.f (mk l) (⟨#[10]⟩ : ByteArray) = some (-1) := by
    unfold stringslite_Index.f
    rw [if_pos (show (⟨#[10]⟩ : ByteArray).data.toList.length = 1 from rfl), mk_list]
    exact congrArg some h
  unfold strings_Cut.f stringslite_Cut.f
  rw [e, Option.bind_some, if_neg (by omega), Option.bind_some]
theorem cut_some {l : List UInt8} {i : Nat} (hs : l.length ≤ 1000000000) (h : Lib.indexByte l 10 = (i : Int)) : strings_Cut.f (mk l) (⟨#[10]⟩ : ByteArray) = some (mk (l.take i), mk (l.drop (i + 1)), true) := by
  have e : stringslite_Index.f (mk l) (⟨#[10]⟩ : ByteArray) = some (i : Int) := by
    unfold stringslite_Index.f
    rw [if_pos (show (⟨#[10]⟩ : ByteArray).data.toList.length = 1 from rfl), mk_list]
    exact congrArg some h
  have hi := (splitB_some h).2
  have h1 : ((⟨#[10]⟩ : ByteArray).size : Int) = 1 := rfl
  have w1 : wrap64 ((i : Int) + 1) = ((i + 1 : Nat) : Int) := by unfold wrap64; push_cast; omega
  unfold strings_Cut.f stringslite_Cut.f
  rw [e, Option.bind_some, if_pos (by omega), if_pos (by omega), mk_size, if_pos (by omega), h1, w1, if_pos (by omega), if_pos (by omega), Option.bind_some]
  rw [Int.toNat_natCast, Int.toNat_natCast, extract_mk, extract_mk, List.drop_zero, List.take_length]
theorem kind_is (h : List UInt8) (hs : h.length ≤ 1000000000) : lines_Kind.f (mk h) = some (kindOf h) := by
  unfold lines_Kind.f
  cases h with
  | nil => rw [if_pos (by rw [toList_eq]; rfl)]; rfl
  | cons b l =>
    rw [if_neg (by rw [toList_eq]; simp [mk])]
    have e1 : ((⟨#[35]⟩ : ByteArray).size : Int) = 1 := rfl
    have e2 : ((mk (b :: l)).size : Int) = (l.length : Int) + 1 := by rw [mk_size]; simp
    have P : strings_HasPrefix.f (mk (b :: l)) (⟨#[35]⟩ : ByteArray) = some (b == 35) := by
      unfold strings_HasPrefix.f stringslite_HasPrefix.f
      rw [e1, e2, if_pos (by omega), if_pos (by omega), if_pos (by omega), Option.bind_some]
      rw [toList_eq, toList_eq, show ((1 : Int)).toNat = 1 from rfl, extract_mk]
      congr 1
      show ([b] == [35]) = (b == 35)
      simp
    rw [P, Option.bind_some]
    show _ = some (if b = 35 then 1 else 2)
    by_cases q : b = 35
    · rw [if_pos (by simp [q]), if_pos q]
    · rw [if_neg (by simp [q]), if_neg q]
theorem wrong_is (h : List UInt8) (hs : h.length ≤ 1000000000) : lines_wrong.f (mk h) = some (wrongOf h) := by
  unfold lines_wrong.f lines_Runes.f
  rw [mk_size, if_pos hs, Option.bind_some, mk_list]
  unfold wrongOf
  by_cases v : Lib.validD h = true
  · rw [if_pos v, if_pos v, if_pos rfl]
    by_cases q : (runesAt (mk h) h.length 0).length > 80
    · rw [if_pos (by simp; omega), if_pos q]
    · rw [if_neg (by simp; omega), if_neg q]
  · rw [if_neg v, if_neg v, if_neg (by decide)]
end Go.Proofs.YtpkjpiphjdpegaaDoor.P
namespace Go.Proofs.YtpkjpiphjdpegaaDoor.P
open Go.RowKit Go.Shelf Go.Proofs.YtpkjpiphjdpegaaDoor.RF Go.Proofs.YtpkjpiphjdpegaaDoorW.PrintWords
attribute [local go_sem] Oper.semAt_some
set_option linter.unusedVariables false
set_option linter.unusedSimpArgs false
def lineV (x : S56) : Value := .agg #[.int .i64 x.f0, .string x.f1, .int .u8 x.f2, .int .i64 x.f3]
theorem gt_same {n₀ : Nat} {w W : World} (h : GT w) (hn : w.heap.size ≤ n₀) (hb : Below n₀ w W) : GT W := by
  exact gt_below h (hb.mono hn)
def KpE (n₀ Bx : Nat) (W W' : World) : Prop := Below n₀ W W' ∧ W'.heap[Bx]? = W.heap[Bx]?
def leftE (Bx : Nat) (W : World) : Nat := match W.cell? ⟨Bx, 0, none⟩ with | some (.string t) => t.size + 1 | _ => 0
set_option maxHeartbeats 8000000 in
set_option maxRecDepth 100000 in
theorem each1_in (n : Nat) (hn : 1 ≤ n) (l Bx n₀ : Nat) (s : ByteArray) (hs : s.size ≤ 1000000000) (J Jx : List S56 → World → Prop) (W : World)
    (hJ : AbX Bx W.heap.size J) (hG : ∀ W', Below n₀ W W' → GT W') (hxB : n₀ ≤ Bx) (hlt : Bx < W.heap.size)
    (hY : ∀ pre x W, J pre W → pre.length < (allL s).length → YieldAt Fence.wide (n - 1) Tryd.prog l #[lineV x] W fun e W' =>
      (e = .returned (.bool true) ∧ J (pre ++ [x]) W' ∧ KpE n₀ Bx W W') ∨ (e = .returned (.bool false) ∧ Jx (pre ++ [x]) W'))
    (hBx : Boxed W Bx 9 (.string s)) (h0 : J [] W) :
    CallsIn Fence.wide n Tryd.prog 73 #[.func (.yield l) #[] #[], .pointer (some ⟨Bx, 0, none⟩)] W fun e W' => (∃ v, e = .returned v) ∧
      ((∃ ys, ys = allL s ∧ J ys W') ∨ (∃ pre, pre <+: allL s ∧ Jx pre W')) := by
  refine callsIn_of_wp Tryd.func73 rfl trivial ?_ rfl
  simp only [Tryd.ntmps73, List.size_toArray, List.length_cons, List.length_nil, Nat.reduceAdd, Nat.reduceSub, Array.replicate_succ, Array.replicate_zero, List.push_toArray, List.append_toArray, List.nil_append, List.cons_append]
  gi_wp2
  gi_loopw [3] (fun p wr => ∃ (pre : List S56) (t : List UInt8), p = .int .i64 ((pre.length : Int) + 1) ∧ pre ++ linesL ((pre.length : Int) + 1) (splitB t) = allL s ∧ Boxed wr Bx 9 (.string (mk t)) ∧ t.length ≤ s.size ∧ pre.length + t.length ≤ s.size ∧ Below n₀ W wr ∧ J pre wr)
    (fun p wr => leftE Bx wr)
  case atStart =>
    exact ⟨[], s.data.toList, rfl, rfl, by rw [mk_of]; exact hBx, by simp, by simp, Below.refl _ _, h0⟩
  case round =>
    obtain ⟨pre, t, rfl, hx, hb, ht, hpt, hBel, hJs⟩ := hrel
    have hcell := hb.cell
    have hfro := hb.frozen
    have hle : n₀ ≤ wr.heap.size := by have := hb.lt; omega
    have hn64 : (pre.length : Int) + 1 ≤ 1000000001 := by omega
    have arm : ∀ (h tl : List UInt8) (mo : Bool), h.length ≤ 1000000000 → strings_Cut.f (mk t) (⟨#[10]⟩ : ByteArray) = some (mk h, mk tl, mo) → pre.length < (allL s).length → True := fun _ _ _ _ _ _ => trivial
    clear arm
    by_cases hi : Lib.indexByte t 10 = -1
    · have hsp := splitB_none hi
      have hcut := cut_none hi
      rw [hsp] at hx
      have hx' : pre ++ [lineOf ((pre.length : Int) + 1) t] = allL s := hx
      have hlen : pre.length < (allL s).length := by rw [← hx']; simp
      have hk := kind_is t (by omega)
      have hw := wrong_is t (by omega)
      gi_wp2_with (first
        | (refine ⟨trivial, ?_⟩; gi_at_call 74; refine (callsIn_wide.2 (strings_Cut.calls (mk t) _ _ _ _ _ hcut)).mono ?_; rintro e W1 ⟨rfl, hb1⟩; have hbel1 := hBel.trans (hb1.mono hle); have hJ1 := hJ.below hJs hb1; have hbx1 := hb.kept (grown_below hb1 none) (by simp); have hs1 := hb1.size)
        | (refine ⟨trivial, ?_⟩; gi_at_call 37; refine (callsIn_wide.2 (lines_Kind.calls (mk t) _ _ hk)).mono ?_; rintro e W2 ⟨rfl, hb2⟩; have hbel2 := hbel1.trans (hb2.mono (by omega)); have hJ2 := hJ.below hJ1 hb2; have hbx2 := hbx1.kept (grown_below hb2 none) (by simp); have hs2 := hb2.size)
        | (refine ⟨trivial, ?_⟩; gi_at_call 75; refine (callsIn_wide.2 (lines_wrong.calls (mk t) _ _ (hG _ hbel2) hw)).mono ?_; rintro e W3 ⟨rfl, hb3⟩; have hbel3 := hbel2.trans (hb3.mono (by omega)); have hJ3 := hJ.below hJ2 hb3; have hbx3 := hbx2.kept (grown_below hb3 none) (by simp); obtain ⟨fn, tmps, assign, body, hy, hR⟩ := hY pre (lineOf ((pre.length : Int) + 1) t) W3 hJ3 hlen; dsimp only [lineV, lineOf] at hy))
      refine hR.mono ?_
      rintro e W4 (⟨rfl, hJ4, hk4⟩ | ⟨rfl, hJx4⟩)
      · gi_wp2
        refine bodyPost_ret (results_none rfl _ _ _) rfl ?_
        exact ⟨⟨_, rfl⟩, .inl ⟨_, hx', hJ4⟩⟩
      · gi_wp2
        refine bodyPost_ret (results_none rfl _ _ _) rfl ?_
        exact ⟨⟨_, rfl⟩, .inr ⟨_, ⟨[], by rw [List.append_nil]; exact hx'⟩, hJx4⟩⟩
    · obtain ⟨i, hi⟩ : ∃ i : Nat, Lib.indexByte t 10 = (i : Int) := ⟨(Lib.indexByte t 10).toNat, by have := Lib.indexByte_ge t 10; omega⟩
      obtain ⟨hsp, hit⟩ := splitB_some hi
      have hcut := cut_some (by omega) hi
      rw [hsp] at hx
      have hx' : pre ++ (lineOf ((pre.length : Int) + 1) (t.take i) :: linesL ((pre.length : Int) + 1 + 1) (splitB (t.drop (i + 1)))) = allL s := hx
      have hlen : pre.length < (allL s).length := by rw [← hx']; simp
      have hli : (t.take i).length ≤ t.length := by simp; omega
      have hk := kind_is (t.take i) (by omega)
      have hw := wrong_is (t.take i) (by omega)
      gi_wp2_with (first
        | (refine ⟨trivial, ?_⟩; gi_at_call 74; refine (callsIn_wide.2 (strings_Cut.calls (mk t) _ _ _ _ _ hcut)).mono ?_; rintro e W1 ⟨rfl, hb1⟩; have hbel1 := hBel.trans (hb1.mono hle); have hJ1 := hJ.below hJs hb1; have hbx1 := hb.kept (grown_below hb1 none) (by simp); have hs1 := hb1.size)
        | (refine ⟨trivial, ?_⟩; gi_at_call 37; refine (callsIn_wide.2 (lines_Kind.calls (mk (t.take i)) _ _ hk)).mono ?_; rintro e W2 ⟨rfl, hb2⟩; have hbel2 := hbel1.trans (hb2.mono (by omega)); have hJ2 := hJ.below hJ1 hb2; have hbx2 := hbx1.kept (grown_below hb2 none) (by simp); have hs2 := hb2.size)
        | (refine ⟨trivial, ?_⟩; gi_at_call 75; refine (callsIn_wide.2 (lines_wrong.calls (mk (t.take i)) _ _ (hG _ hbel2) hw)).mono ?_; rintro e W3 ⟨rfl, hb3⟩; have hbel3 := hbel2.trans (hb3.mono (by omega)); have hJ3 := hJ.below hJ2 hb3; have hbx3 := hbx2.kept (grown_below hb3 none) (by simp); obtain ⟨fn, tmps, assign, body, hy, hR⟩ := hY pre (lineOf ((pre.length : Int) + 1) (t.take i)) W3 hJ3 hlen; dsimp only [lineV, lineOf] at hy))
      refine hR.mono ?_
      rintro e W4 (⟨rfl, hJ4, hk4⟩ | ⟨rfl, hJx4⟩)
      · have hbx4 : Boxed W4 Bx 9 (.string (mk t)) := hk4.2.trans hbx3
        have hc4 := hbx4.cell
        have hf4 := hbx4.frozen
        gi_wp2
        go_roundw
        case rel =>
          refine ⟨pre ++ [lineOf ((pre.length : Int) + 1) (t.take i)], t.drop (i + 1), ?_, ?_, hbx4.set _, by simp; omega, by simp; omega, ?_, hJ.set _ hJ4⟩
          · simp
          · rw [List.append_assoc, List.length_append]; exact hx'
          · exact (hbel3.trans hk4.1).setCell (p := ⟨Bx, 0, none⟩) hxB _
        case measure =>
          have e1 := (hbx4.set (.string (mk (t.drop (i + 1))))).cell
          unfold leftE
          rw [e1, hcell]
          simp [mk_size]
          omega
      · gi_wp2
        refine bodyPost_ret (results_none rfl _ _ _) rfl ?_
        exact ⟨⟨_, rfl⟩, .inr ⟨_, ⟨linesL ((pre.length : Int) + 1 + 1) (splitB (t.drop (i + 1))), by rw [List.append_assoc]; exact hx'⟩, hJx4⟩⟩
theorem each_stops (n : Nat) (hn : 1 ≤ n) (Bx n₀ : Nat) (s : ByteArray) (hs : s.size ≤ 1000000000) (w w0 : World) (hG : GT w0) (h0 : w0.heap.size ≤ n₀) (hb0 : Below n₀ w0 w) (hxB : n₀ ≤ Bx) (hlt : Bx < w.heap.size)
    (hBx : Boxed w Bx 9 (.string s)) :
    SeqX Fence.wide n Tryd.prog 73 #[.pointer (some ⟨Bx, 0, none⟩)] (fun x => #[lineV x]) (KpE n₀ Bx) Bx (fun ys => ys = allL s) (fun pre => pre <+: allL s) (allL s).length w :=
  fun l J Jx W hW hJ _ hY h00 =>
    each1_in n hn l Bx n₀ s hs J Jx W hJ (fun W' hb' => gt_same hG h0 ((hb0.trans (hW.mono (by omega))).trans hb')) hxB (by have := hW.size; omega)
      (fun pre x W1 hj hl => hY pre x W1 hj hl) (hBx.kept (grown_below hW none) (by simp)) h00
set_option maxHeartbeats 1000000 in
theorem each_in (n : Nat) (s : ByteArray) (w : World) :
    CallsIn Fence.wide n Tryd.prog 38 #[.string s] w fun e w' => e = .returned (.func (.func 73) #[] #[.pointer (some ⟨w.heap.size, 0, none⟩)]) ∧ w' = w.alloc (.cells #[.string s] 9) := by
  refine callsIn_of_wp Tryd.func38 rfl trivial ?_ rfl
  simp only [Tryd.ntmps38, List.size_toArray, List.length_cons, List.length_nil, Nat.reduceAdd, Nat.reduceSub, Array.replicate_succ, Array.replicate_zero, List.push_toArray, List.append_toArray, List.nil_append, List.cons_append]
  gi_wp2
  go_ret
  exact ⟨rfl, rfl⟩
end Go.Proofs.YtpkjpiphjdpegaaDoor.P
namespace Go.Proofs.YtpkjpiphjdpegaaDoor.P
open Go.RowKit Go.Shelf Go.Proofs.YtpkjpiphjdpegaaDoor.RF Go.Proofs.YtpkjpiphjdpegaaDoorW.PrintWords
attribute [local go_sem] Oper.semAt_some
set_option linter.unusedVariables false
set_option linter.unusedSimpArgs false
def lineC (x : S56) : Array Value := #[.int .i64 x.f0, .string x.f1, .int .u8 x.f2, .int .i64 x.f3]
theorem cells_new (W : World) (cs : Array Value) (t : TypeId) : ∀ (j : Nat) u, cs.toList[j]? = some u → (W.alloc (.cells cs t)).cell? ((⟨W.heap.size, 0, none⟩ : Addr).add j) = some u := by
  intro j u hj
  have ea : (⟨W.heap.size, 0, none⟩ : Addr).add j = ⟨W.heap.size, j, none⟩ := by
    unfold Addr.add
    by_cases z : j = 0
    · rw [if_pos z, z]
    · rw [if_neg z, Nat.zero_add]
  have hn : (W.alloc (.cells cs t)).heap[W.heap.size]? = some (.cells cs t) := World.alloc_heap_new W _
  rw [ea]
  unfold World.cell?
  simp only [hn]
  simpa using hj
def CoI (B Bx n₀ : Nat) (w : World) (pre : List S56) (W : World) : Prop :=
  (∃ v, Boxed W B 53 v ∧ Kd.R k56 56 W n₀ (fun k => k ≠ Bx) v pre) ∧ Below n₀ w W
theorem coI_ab (B Bx n₀ : Nat) (w : World) (hn : n₀ ≤ w.heap.size) (hx : n₀ ≤ Bx) (hB : n₀ ≤ B) (hne : B ≠ Bx) (C : Nat) (hC : n₀ ≤ C) : AbX Bx C (CoI B Bx n₀ w) := by
  rintro s W W' row ⟨⟨v, hv, hr⟩, hb⟩ hg hrow
  have key : ∀ (k : Nat) cells t, W.heap[k]? = some (.cells cells t (0, 0)) → k ≠ Bx → some k ≠ row := fun k cells t hk hkx e => by
    rcases hrow k e.symm with h | ⟨_, o, ho, hc⟩
    · exact hkx h
    · rw [hk] at ho; cases ho; cases hc
  refine ⟨⟨v, hv.kept hg (key B _ _ hv hne), Kd.R_grown2 hr rfl hg fun k e e' => ?_⟩, abX_below hn hC hx () W W' row hb hg hrow⟩
  obtain ⟨cells, hk⟩ := Kd.R_typed hr k e'.symm
  exact key k _ _ hk (hr.1 k e'.symm) e.symm
theorem info56 : (Tryd.prog.info? 56).map (fun i => (i.zero, i.size, i.bytes)) = some (some (.agg #[.int .i64 0, .string ⟨#[]⟩, .int .u8 0, .int .i64 0]), 4, 40) := by kernel_rfl
set_option maxHeartbeats 4000000 in
set_option maxRecDepth 100000 in
theorem appendSeq_in (n : Nat) (hn : 3 ≤ n) (Bx n₀ : Nat) (s : ByteArray) (hs : s.size ≤ 1000000000) (w w0 : World) (hG : GT w0) (h0 : w0.heap.size ≤ n₀) (hb0 : Below n₀ w0 w) (hxB : n₀ ≤ Bx) (hlt : Bx < w.heap.size)
    (hBx : Boxed w Bx 9 (.string s)) :
    CallsIn Fence.wide n Tryd.prog 101 #[.slice none 0 0, .func (.func 73) #[] #[.pointer (some ⟨Bx, 0, none⟩)]] w fun e W' => ∃ v, e = .returned v ∧ Kd.R k56 56 W' n₀ (fun k => k ≠ Bx) v (allL s) ∧ Below n₀ w W' := by
  have h1 : 1 ≤ n := by omega
  refine callsIn_of_wp_marks Tryd.func101 rfl trivial ?_ rfl
  simp only [Tryd.ntmps101, List.size_toArray, List.length_cons, List.length_nil, Nat.reduceAdd, Nat.reduceSub, Array.replicate_succ, Array.replicate_zero, List.push_toArray, List.append_toArray, List.nil_append, List.cons_append]
  gi_wp2
  have bB := Boxed.new w 53 (.slice none 0 0)
  have hbx1 := hBx.alloc (.cells #[.slice none 0 0] 53)
  have hB1 : Below n₀ w (w.alloc (.cells #[.slice none 0 0] 53)) := (Below.refl n₀ w).alloc (by omega) _
  refine range_own (Bx := Bx) (by simp; omega) rfl h1 (gf := 73) (lb := #[.pointer (some ⟨Bx, 0, none⟩)]) rfl trivial (enters_of Tryd.func73 (by kernel_rfl) rfl)
    (each_stops (n - 1) (by omega) Bx n₀ s hs _ w0 hG h0 (hb0.trans hB1) hxB (by simp; omega) hbx1)
    (fun h k => ⟨h.1.trans k.1, k.2.trans h.2⟩) (fun W l o o' hl ho hc hw => ⟨(Below.refl n₀ W).grown (grownBy_putObj' W l o') (by have := (Array.getElem?_eq_some_iff.1 ho).1; simp at hl; omega) (fun k e => by cases e; simp at hl; omega), World.putObj_heap_other (by simp at hl; omega)⟩) (Below.refl _ _) (fun _ => rfl)
    (CoI w.heap.size Bx n₀ w)
    (fun _ _ _ => False)
    (coI_ab _ _ _ _ (by omega) hxB (by omega) (by omega) _ (by simp; omega)) (fun _ => abX_false _ _)
    ⟨⟨_, bB, Kd.R_nil _ _ _ _ _⟩, hB1⟩
    (fun x a' W => ∃ Bv, w.heap.size < Bv ∧ W.heap[Bv]? = some (.cells (lineC x) 56 (0, 0)) ∧ a' = { tmps := #[.slice none 0 0, .func (.func 73) #[] #[.pointer (some ⟨Bx, 0, none⟩)], .pointer (some ⟨w.heap.size, 0, none⟩), undef, .slice none 0 0, .pointer (some ⟨Bv, 0, none⟩), .func (.func 73) #[] #[.pointer (some ⟨Bx, 0, none⟩)], lineV x, undef, undef, undef, undef, undef], defers := [] })
    (fun x a' s W W' row hs hg hr => by
      obtain ⟨Bv, q1, q2, q3⟩ := hs
      exact ⟨Bv, q1, abX_block (β := Unit) (b := Bv) (Bx := Bx) (B := (w.alloc (.cells #[.slice none 0 0] 53)).heap.size) (fun _ => .cells (lineC x) 56 (0, 0)) (fun _ => rfl) (by omega) () W W' row q2 hg hr, q3⟩)
    ?assign ?body ?done ?stop
  case assign =>
    intro l pre x W K hi hK
    unfold lineV at hK ⊢
    gi_wp2
    have hBW : n₀ ≤ W.heap.size := by have := hi.2.size; omega
    have hxW : Bx < W.heap.size := by have := hi.2.size; obtain ⟨⟨v, q, _⟩, _⟩ := hi; have := q.lt; omega
    have hwW : w.heap.size < W.heap.size := by obtain ⟨⟨v, q, _⟩, _⟩ := hi; exact q.lt
    exact hK _ _ ((KeepsOthers.alloc _ _).from _) ⟨(Below.refl _ W).alloc hBW _, (World.grownBy_alloc W _ none).block Bx hxW (by simp)⟩
      ((coI_ab _ _ _ _ (by omega) hxB (by omega) (by omega) n₀ (Nat.le_refl _)).alloc _ hi) ⟨W.heap.size, hwW, World.alloc_heap_new W _, rfl⟩
  case body =>
    rintro l pre x a' W hl ⟨r, hr⟩ ⟨⟨v, hv, hO⟩, hBel⟩ ⟨Bv, hBv, hcv, rfl⟩ hlen
    have hv1 := hv.cell
    have hf1 := hv.frozen
    have hlen2 : (allL s).length ≤ 1000000001 := by
      have e1 := linesL_len (splitB s.data.toList) 1
      have e2 := splitB_len s.data.toList
      have e3 : s.data.toList.length = s.size := by simp
      unfold allL
      omega
    have c0 : W.cell? ⟨Bv, 0, none⟩ = some (.int .i64 x.f0) := by simp [World.cell?, hcv, lineC]
    have c1 : W.cell? ⟨Bv, 1, none⟩ = some (.string x.f1) := by simp [World.cell?, hcv, lineC]
    have c2 : W.cell? ⟨Bv, 2, none⟩ = some (.int .u8 x.f2) := by simp [World.cell?, hcv, lineC]
    have c3 : W.cell? ⟨Bv, 3, none⟩ = some (.int .i64 x.f3) := by simp [World.cell?, hcv, lineC]
    unfold lineV
    obtain ⟨i0, hi, hz0, hz1, hz2⟩ := info_parts info56
    have hW : n₀ ≤ W.heap.size := by have := hBel.size; omega
    have hWB : Bx < W.heap.size := by have := hv.lt; omega
    have hBv' : Bv < W.heap.size := (Array.getElem?_eq_some_iff.1 hcv).1
    obtain ⟨h00, inner, hown, hreps⟩ := Kd.R_alloc hO (.cells (lineC x) 56)
    have hcn := cells_new W (lineC x) 56
    unfold lineC at hown hcn
    gi_wp2_with (gi_at_builtin; apply Classical.byContradiction; intro hNOT)
    apply hNOT
    clear hNOT
    refine wpListIn_append_own_at _ rfl _ _ 53 rfl n₀ 56 i0 _ 4 40 Tryd.underlying53 hi hz0 hz1 hz2 rfl (by decide) _ _ _ rfl hown ⟨W.heap.size, 0, none⟩ 1 1 _ rfl rfl hcn (by simp [Value.oneCell']) (by unfold maxLen; omega) (by omega) (by simp; omega) ?_
    intro v' w1 hown' hgrow _ hat
    obtain ⟨g', cap', rfl⟩ := ownsRow_succ hown'
    have hBlk : some w.heap.size ≠ v.ownBlock := Kd.R_ne hO hv (by decide)
    have hv1' : Boxed w1 w.heap.size 53 v := (hv.alloc _).kept hgrow hBlk
    have hc1 := hv1'.cell
    have hfr1 := hv1'.frozen
    have hO1 : Kd.R k56 56 w1 n₀ (fun k => k ≠ Bx) _ (pre ++ [x]) :=
      Kd.R_appended h00 hreps (k56_mkM _ n₀ (fun _ => False) x) (fun _ hk => hk.elim) (fun k hk => by simp at hk; omega) hown' hgrow (hat.imp_right fun h => ⟨_, h, Nat.le_refl _⟩)
    have hB2 : some w.heap.size ≠ (Value.slice (some ⟨g', 0, none⟩) (pre.length + 1) cap').ownBlock := Kd.R_ne hO1 hv1' (by decide)
    have hty := Kd.R_typed (Kd.R_alloc hO (.cells (lineC x) 56))
    have hbs := Kd.R_base hO
    have hbx : some Bx ≠ v.ownBlock := fun e => hO.1 Bx e.symm rfl
    have hsz1 := hgrow.size
    gi_wp2
    refine ⟨?_, ⟨?_, ?_⟩, ⟨⟨_, hv1'.set _, ?_⟩, ?_⟩⟩
    · refine (((KeepsOthers.alloc W _).trans (KeepsOthers.of_grownBy hgrow fun j o ej hj => ?_)).trans (KeepsOthers.setCell _ _ _)).from _
      obtain ⟨cells, hk⟩ := hty j ej
      have hj' := hk.symm.trans hj
      cases hj'
      rfl
    · exact (((Below.refl n₀ W).alloc hW _).grown hgrow (by simp; omega) (fun j ej => hbs j ej)).setCell (p := ⟨w.heap.size, 0, none⟩) (by simp; omega) _
    · rw [Below.heap_setCell _ _ _ _ (by simp; omega), hgrow.block Bx (by simp; omega) hbx]
      exact (World.grownBy_alloc W _ none).block Bx hWB (by simp)
    · exact Kd.R_grown2 hO1 rfl (grownBy_setCell' w1 w.heap.size _) (fun k e => by cases e; exact hB2)
    · exact hBel.trans ((((Below.refl n₀ W).alloc hW _).grown hgrow (by simp; omega) (fun j ej => hbs j ej)).setCell (p := ⟨w.heap.size, 0, none⟩) (by simp; omega) _)
  case done =>
    rintro D ys W _ rfl ⟨⟨v, hv, hO⟩, hBel⟩ hK
    have hv1 := hv.cell
    have hf1 := hv.frozen
    gi_wp2
    refine ⟨by simp, .inl ⟨_, _, rfl, run_takeDeferred hK, ?_⟩⟩
    refine ⟨_, results_tmp rfl _ _ _, ⟨_, rfl, ?_, ?_⟩⟩
    · refine Kd.R_grown2 hO rfl (grownBy_putObj' W D _) fun k e e' => ?_
      cases e
      obtain ⟨cells, hk⟩ := Kd.R_typed hO D e'.symm
      rw [hK] at hk
      cases hk
    · exact hBel.trans ((Below.refl n₀ W).grown (grownBy_putObj' W D _) (by have := hBel.size; omega) (fun k e => by cases e; rename_i hD; simp at hD; omega))
  case stop =>
    rintro D c pre W _ _ h _
    exact h.elim
def lines_All.f (a0 : ByteArray) : Option (List S56) := if a0.size ≤ 1000000000 then some (allL a0) else none
theorem each_call (s : ByteArray) (w : World) : Calls Tryd.prog 38 #[.string s] w fun e w' => e = .returned (.func (.func 73) #[] #[.pointer (some ⟨w.heap.size, 0, none⟩)]) ∧ w' = w.alloc (.cells #[.string s] 9) :=
  callsIn_wide.1 (each_in 5 s w)
theorem collect_call (Bx n₀ : Nat) (s : ByteArray) (hs : s.size ≤ 1000000000) (w w0 : World) (hG : GT w0) (h0 : w0.heap.size ≤ n₀) (hb0 : Below n₀ w0 w) (hxB : n₀ ≤ Bx) (hlt : Bx < w.heap.size)
    (hBx : Boxed w Bx 9 (.string s)) :
    Calls Tryd.prog 71 #[.func (.func 73) #[] #[.pointer (some ⟨Bx, 0, none⟩)]] w fun e W' => ∃ v, e = .returned v ∧ Kd.R k56 56 W' n₀ (fun k => k ≠ Bx) v (allL s) ∧ Below n₀ w W' := by
  have C := callsIn_wide.1 (appendSeq_in 5 (by omega) Bx n₀ s hs w w0 hG h0 hb0 hxB hlt hBx)
  go_enter Tryd.func71, Tryd.ntmps71
  go_wp2_with (first | (go_at_call 101; (with_reducible refine C.mono ?_); rintro e W1 ⟨v, rfl, hR, hb⟩))
  go_ret
  exact ⟨_, rfl, hR, hb⟩
theorem lines_All.calls (a0 : ByteArray) (r : List S56) (w : World) (hG : GT w) (h : lines_All.f a0 = some r) :
    Calls Tryd.prog 34 #[.string a0] w fun e w' => ∃ v0_ : Value, e = .returned v0_ ∧ Kd.R k56 56 w' w.heap.size (fun _ => True) v0_ r ∧ Below w.heap.size w w' := by
  unfold lines_All.f at h
  split at h
  · rename_i hs
    obtain rfl := Option.some.inj h
    have hB := (Below.refl w.heap.size w).alloc (Nat.le_refl _) (.cells #[.string a0] 9)
    have C := collect_call w.heap.size w.heap.size a0 hs (w.alloc (.cells #[.string a0] 9)) w hG (Nat.le_refl _) hB (Nat.le_refl _) (by simp) (Boxed.new w 9 _)
    go_enter Tryd.func34, Tryd.ntmps34
    go_wp2_with (first | (go_at_call 38; (with_reducible refine (each_call a0 _).mono ?_); rintro e W1 ⟨rfl, rfl⟩) | (go_at_call 71; (with_reducible refine C.mono ?_); rintro e W1 ⟨v, rfl, hR, hb⟩))
    go_ret
    exact ⟨_, rfl, Kd.R_mono hR (fun _ _ => trivial), hB.trans hb⟩
  · cases h
end Go.Proofs.YtpkjpiphjdpegaaDoor.P
namespace Go.Proofs.YtpkjpiphjdpegaaDoor.P
open Go.RowKit Go.Proofs.YtpkjpiphjdpegaaDoorW.PrintWords Go.Proofs.YtpkjpiphjdpegaaDoorW.PrintLast Go.Proofs.YtpkjpiphjdpegaaDoorW.PrintMore
set_option linter.unusedVariables false
set_option linter.unusedSimpArgs false
theorem splitB_app : ∀ (a b : List UInt8), splitB (a ++ 10 :: b) = splitB a ++ splitB b
  | [], b => by show splitB (10 :: b) = [] :: splitB b; rw [splitB, if_pos rfl]
  | x :: a, b => by
    have ih := splitB_app a b
    rw [List.cons_append, splitB, splitB]
    by_cases c : x = 10
    · rw [if_pos c, if_pos c, ih]; rfl
    · rw [if_neg c, if_neg c, ih]
      cases h : splitB a with
      | nil => exact absurd h (splitB_ne a)
      | cons y r => rfl
theorem splitB_one : ∀ (h : List UInt8), (∀ b ∈ h, b ≠ 10) → splitB h = [h]
  | [], _ => rfl
  | x :: h, c => by
    rw [splitB, if_neg (c x (List.mem_cons_self ..)), splitB_one h fun b hb => c b (List.mem_cons_of_mem _ hb)]
theorem all_f (s : ByteArray) (hs : s.size ≤ 1000000000) : lines_All.f s = some (allL s) := by unfold lines_All.f; rw [if_pos hs]
theorem wrapI (x : Int) (h0 : -9223372036854775808 ≤ x) (h1 : x ≤ 9223372036854775807) : wrap64 x = x := by unfold wrap64; omega
end Go.Proofs.YtpkjpiphjdpegaaDoor.P
namespace Go.Proofs.YtpkjpiphjdpegaaDoor.P
open Go.RowKit Go.Proofs.YtpkjpiphjdpegaaDoorW.PrintWords Go.Proofs.YtpkjpiphjdpegaaDoorW.PrintLast Go.Proofs.YtpkjpiphjdpegaaDoorW.PrintMore
attribute [local go_sem] max2_int min2_int max_two min_two max_three min_three max_four min_four
set_option linter.unusedVariables false
set_option linter.unusedSimpArgs false
def paymasterref09_Split.l0 : Nat → ByteArray → List ByteArray → Int → Int → Option (List ByteArray)
  | 0, _, _, _, _ => none
  | k + 1, x0, x3, x4, x5 => if x5 ≤ (x0.size : Int) then (if x5 = (x0.size : Int) then (if 0 ≤ x4 then (if x4 ≤ x5 then (if x3.length < 8796093022208 then (paymasterref09_Split.l0 k x0 (x3 ++ [x0.extract (x4 : Int).toNat (x5 : Int).toNat]) (wrap64 (x5 + 1)) (wrap64 (x5 + 1))) else (none)) else (none)) else (none)) else (if 0 ≤ x5 then (if x5 < (x0.size : Int) then (if (bt x0 x5) = 10 then (if 0 ≤ x4 then (if x4 ≤ x5 then (if x3.length < 8796093022208 then (paymasterref09_Split.l0 k x0 (x3 ++ [x0.extract (x4 : Int).toNat (x5 : Int).toNat]) (wrap64 (x5 + 1)) (wrap64 (x5 + 1))) else (none)) else (none)) else (none)) else (paymasterref09_Split.l0 k x0 x3 x4 (wrap64 (x5 + 1)))) else (none)) else (none))) else (some x3)
def paymasterref09_Split.f (k : Nat) (a0 : ByteArray) : Option (List ByteArray) := paymasterref09_Split.l0 k a0 ([] : List ByteArray) 0 0
set_option maxHeartbeats 8000000 in
set_option maxRecDepth 100000 in
theorem paymasterref09_Split.calls (k : Nat) (a0 : ByteArray) (r : List ByteArray) (w : World) (h : paymasterref09_Split.f k a0 = some r) :
    Calls Tryd.prog 33 #[.string a0] w fun e w' => ∃ v0_ : Value, e = .returned (v0_) ∧ Kd.R Kd.string 9 w' w.heap.size (fun _ => True) v0_ r ∧ Below w.heap.size w w' := by
  have HB := Aside0.mk (Below.refl w.heap.size w)
  have H : (paymasterref09_Split.l0 k a0 ([] : List ByteArray) 0 0) = some r := h
  clear h
  have H' := Aside0.mk H
  clear H
  go_enter Tryd.func33, Tryd.ntmps33
  go_wp2
  go_loopg [3, 4, 5] k (fun kq v3 v4 v5 w' => ∃ (x3_1 : List ByteArray) (x4_1 : Int) (x5_1 : Int), v4 = .int .i64 x4_1 ∧ v5 = .int .i64 x5_1 ∧ Aside0 (paymasterref09_Split.l0 kq a0 x3_1 x4_1 x5_1 = some r) ∧ Aside0 (kq ≤ k) ∧ Aside0 (Kd.R Kd.string 9 w' w.heap.size (fun _ => True) v3 x3_1) ∧ Aside0 (Below w.heap.size w w'))
  case atStart => exact ⟨(([] : List ByteArray)), (0), (0), (by first | rfl | (simp; done) | (simp [*]; done)), (by first | rfl | (simp; done) | (simp [*]; done)), H', ⟨Nat.le_refl _⟩, ⟨by first | exact Kd.R_nil _ _ _ _ _ | exact Kd.N_nil _ _ _ _ _ | exact Kd.V_nil _ _ _ _ _ | exact Kd.Q_nil _ _ _ _ _ | exact Kd.S_nil _ _ _ _ _⟩, ⟨by repeat (first | (with_reducible first | exact HB.out | apply below_alloc | apply pw_below_drewN | apply below_drew1) | exact HB.out)⟩⟩
  case round =>
    clear H'
    obtain ⟨x3_1, x4_1, x5_1, rfl, rfl, HA, HK1, HO_3, HB⟩ := hrel
    cases gk with
    | zero => exact absurd HA.out (by simp [paymasterref09_Split.l0])
    | succ k1 =>
      have H := HA.out
      clear HA
      simp only [paymasterref09_Split.l0] at H
      by_cases c2 : x5_1 ≤ (a0.size : Int)
      · rw [if_pos c2] at H
        have c2b0 : decide (x5_1 ≤ (a0.size : Int)) = true := decide_eq_true c2
        clear c2
        by_cases c3 : x5_1 = (a0.size : Int)
        · rw [if_pos c3] at H
          have c3b0 : (x5_1 == (a0.size : Int)) = true := beq_iff_eq.mpr c3
          have c3b1 : (x5_1 != (a0.size : Int)) = false := bne_eq_false_iff_eq.mpr c3
          clear c3
          by_cases c4 : 0 ≤ x4_1
          · rw [if_pos c4] at H
            have c4b0 := eq_true c4
            have c4b1 : decide (0 ≤ x4_1) = true := decide_eq_true c4
            clear c4
            by_cases c5 : x4_1 ≤ x5_1
            · rw [if_pos c5] at H
              have c5b0 := eq_true c5
              have c5b1 : decide (x4_1 ≤ x5_1) = true := decide_eq_true c5
              clear c5
              have c6b0 := eq_true (of_decide_eq_true (by first | (with_reducible assumption) | assumption) : x5_1 ≤ (a0.size : Int))
              by_cases c7 : x3_1.length < 8796093022208
              · rw [if_pos c7] at H
                have LMc7 := Aside0.mk c7
                clear c7
                obtain ⟨y176, hy176⟩ : ∃ y_ : List ByteArray, y_ = (x3_1 ++ [a0.extract (x4_1 : Int).toNat (x5_1 : Int).toNat]) := ⟨_, rfl⟩
                replace H : (paymasterref09_Split.l0 k1 a0 y176 (wrap64 (x5_1 + 1)) (wrap64 (x5_1 + 1))) = some r := by first | (rw [hy176]; with_reducible exact H) | (have H2_ := (Option.bind_some _ _).symm.trans H; rw [hy176]; with_reducible exact H2_) | (have H2_ := (Option.bind_some _ _).symm.trans H; with_reducible exact H2_) | with_reducible exact H | (rw [hy176]; exact H) | exact H
                have Ny176 := Aside0.mk hy176
                clear hy176
                have H' := Aside0.mk H
                clear H
                go_wp2_with (first | ((with_reducible refine gate_builtin (b := .append) (xs := #[.tmp 22, .tmp 27]) rfl ?_); at_builtin; refine Kd.R_append Kd.string (w0 := w) w.heap.size rfl (.tmp 22) (.tmp 27) 51 9 (.string ⟨#[]⟩) 16 rfl Tryd.underlying51 info9 rfl (by decide) (by omega) u3 x3_1 (a0.extract (x4_1 : Int).toNat (x5_1 : Int).toNat) [.string (a0.extract (x4_1 : Int).toNat (x5_1 : Int).toNat)] (fun _ => True) (fun _ => False) rfl rfl ?aP (fun _ hk => hk.elim) ?aF ?aO ?aB ?aS ?aL ?_; (case aP => exact rfl); (case aB => exact (by repeat (first | (with_reducible first | exact HB.out | apply below_alloc | apply pw_below_drewN | apply below_drew1) | exact HB.out))); (case aF => exact (fun _ _ => trivial)); (case aO => exact (by (with_reducible repeat (first | apply Kd.R_alloc | apply Kd.R_drewN | apply Kd.R_drew)); exact HO_3.out)); (case aS => exact (below_size (by repeat (first | (with_reducible first | exact HB.out | apply below_alloc | apply pw_below_drewN | apply below_drew1) | exact HB.out)))); (case aL => have := LMc7.out; omega); intro v177 w8 ho hb hg hat; rw [← Ny176.out] at ho; have n0_ := Aside0.mk (hb); have n1_ := Aside0.mk (ho); clear HB; clear HO_3; have HB := n0_; have HO178 := n1_; clear n0_ n1_; clear ho hb hg hat))
                go_roundg k1
                case measure => have := HK1.out; omega
                case rel => exact ⟨(y176), (wrap64 (x5_1 + 1)), (wrap64 (x5_1 + 1)), (by first | rfl | (simp; done) | (simp [*]; done)), (by first | rfl | (simp; done) | (simp [*]; done)), H', ⟨by have := HK1.out; omega⟩, ⟨by (with_reducible repeat (first | apply Kd.R_alloc | apply Kd.R_drewN | apply Kd.R_drew)); exact HO178.out⟩, ⟨by repeat (first | (with_reducible first | exact HB.out | apply below_alloc | apply pw_below_drewN | apply below_drew1) | exact HB.out)⟩⟩
              · rw [if_neg c7] at H
                exact absurd H (by simp)
            · rw [if_neg c5] at H
              exact absurd H (by simp)
          · rw [if_neg c4] at H
            exact absurd H (by simp)
        · rw [if_neg c3] at H
          have c3b0 : (x5_1 == (a0.size : Int)) = false := beq_eq_false_iff_ne.mpr c3
          have c3b1 : (x5_1 != (a0.size : Int)) = true := bne_iff_ne.mpr c3
          by_cases c9 : 0 ≤ x5_1
          · rw [if_pos c9] at H
            have c9b0 : decide (0 ≤ x5_1) = true := decide_eq_true c9
            clear c9
            by_cases c10 : x5_1 < (a0.size : Int)
            · rw [if_pos c10] at H
              have c10b0 : decide (x5_1 < (a0.size : Int)) = true := decide_eq_true c10
              clear c10
              by_cases c12 : (bt a0 x5_1) = 10
              · rw [if_pos c12] at H
                have c12b0 : ((bt a0 x5_1) == 10) = true := beq_iff_eq.mpr c12
                have c12b1 : ((bt a0 x5_1) != 10) = false := bne_eq_false_iff_eq.mpr c12
                clear c12
                by_cases c13 : 0 ≤ x4_1
                · rw [if_pos c13] at H
                  have c13b0 := eq_true c13
                  have c13b1 : decide (0 ≤ x4_1) = true := decide_eq_true c13
                  clear c13
                  by_cases c14 : x4_1 ≤ x5_1
                  · rw [if_pos c14] at H
                    have c14b0 := eq_true c14
                    have c14b1 : decide (x4_1 ≤ x5_1) = true := decide_eq_true c14
                    clear c14
                    have c15b0 := eq_true (of_decide_eq_true (by first | (with_reducible assumption) | assumption) : x5_1 ≤ (a0.size : Int))
                    by_cases c16 : x3_1.length < 8796093022208
                    · rw [if_pos c16] at H
                      have LMc16 := Aside0.mk c16
                      clear c16
                      obtain ⟨y179, hy179⟩ : ∃ y_ : List ByteArray, y_ = (x3_1 ++ [a0.extract (x4_1 : Int).toNat (x5_1 : Int).toNat]) := ⟨_, rfl⟩
                      replace H : (paymasterref09_Split.l0 k1 a0 y179 (wrap64 (x5_1 + 1)) (wrap64 (x5_1 + 1))) = some r := by first | (rw [hy179]; with_reducible exact H) | (have H2_ := (Option.bind_some _ _).symm.trans H; rw [hy179]; with_reducible exact H2_) | (have H2_ := (Option.bind_some _ _).symm.trans H; with_reducible exact H2_) | with_reducible exact H | (rw [hy179]; exact H) | exact H
                      have Ny179 := Aside0.mk hy179
                      clear hy179
                      have H' := Aside0.mk H
                      clear H
                      have p11 : 0 ≤ (x5_1 : Int) := of_decide_eq_true (by first | (with_reducible assumption) | assumption)
                      have q11 : x5_1 < (a0.size : Int) := of_decide_eq_true (by first | (with_reducible assumption) | assumption)
                      have hx11 := bt_at a0 x5_1
                      replace p11 := eq_true p11
                      replace q11 := eq_true q11
                      go_wp2_with (first | ((with_reducible refine gate_builtin (b := .append) (xs := #[.tmp 22, .tmp 27]) rfl ?_); at_builtin; refine Kd.R_append Kd.string (w0 := w) w.heap.size rfl (.tmp 22) (.tmp 27) 51 9 (.string ⟨#[]⟩) 16 rfl Tryd.underlying51 info9 rfl (by decide) (by omega) u3 x3_1 (a0.extract (x4_1 : Int).toNat (x5_1 : Int).toNat) [.string (a0.extract (x4_1 : Int).toNat (x5_1 : Int).toNat)] (fun _ => True) (fun _ => False) rfl rfl ?aP (fun _ hk => hk.elim) ?aF ?aO ?aB ?aS ?aL ?_; (case aP => exact rfl); (case aB => exact (by repeat (first | (with_reducible first | exact HB.out | apply below_alloc | apply pw_below_drewN | apply below_drew1) | exact HB.out))); (case aF => exact (fun _ _ => trivial)); (case aO => exact (by (with_reducible repeat (first | apply Kd.R_alloc | apply Kd.R_drewN | apply Kd.R_drew)); exact HO_3.out)); (case aS => exact (below_size (by repeat (first | (with_reducible first | exact HB.out | apply below_alloc | apply pw_below_drewN | apply below_drew1) | exact HB.out)))); (case aL => have := LMc16.out; omega); intro v180 w17 ho hb hg hat; rw [← Ny179.out] at ho; have n0_ := Aside0.mk (hb); have n1_ := Aside0.mk (ho); clear HB; clear HO_3; have HB := n0_; have HO181 := n1_; clear n0_ n1_; clear ho hb hg hat))
                      go_roundg k1
                      case measure => have := HK1.out; omega
                      case rel => exact ⟨(y179), (wrap64 (x5_1 + 1)), (wrap64 (x5_1 + 1)), (by first | rfl | (simp; done) | (simp [*]; done)), (by first | rfl | (simp; done) | (simp [*]; done)), H', ⟨by have := HK1.out; omega⟩, ⟨by (with_reducible repeat (first | apply Kd.R_alloc | apply Kd.R_drewN | apply Kd.R_drew)); exact HO181.out⟩, ⟨by repeat (first | (with_reducible first | exact HB.out | apply below_alloc | apply pw_below_drewN | apply below_drew1) | exact HB.out)⟩⟩
                    · rw [if_neg c16] at H
                      exact absurd H (by simp)
                  · rw [if_neg c14] at H
                    exact absurd H (by simp)
                · rw [if_neg c13] at H
                  exact absurd H (by simp)
              · rw [if_neg c12] at H
                have c12b0 : ((bt a0 x5_1) == 10) = false := beq_eq_false_iff_ne.mpr c12
                have c12b1 : ((bt a0 x5_1) != 10) = true := bne_iff_ne.mpr c12
                have H' := Aside0.mk H
                clear H
                have p11 : 0 ≤ (x5_1 : Int) := of_decide_eq_true (by first | (with_reducible assumption) | assumption)
                have q11 : x5_1 < (a0.size : Int) := of_decide_eq_true (by first | (with_reducible assumption) | assumption)
                have hx11 := bt_at a0 x5_1
                replace p11 := eq_true p11
                replace q11 := eq_true q11
                go_wp2
                go_roundg k1
                case measure => have := HK1.out; omega
                case rel => exact ⟨(x3_1), (x4_1), (wrap64 (x5_1 + 1)), (by first | rfl | (simp; done) | (simp [*]; done)), (by first | rfl | (simp; done) | (simp [*]; done)), H', ⟨by have := HK1.out; omega⟩, ⟨by (with_reducible repeat (first | apply Kd.R_alloc | apply Kd.R_drewN | apply Kd.R_drew)); exact HO_3.out⟩, ⟨by repeat (first | (with_reducible first | exact HB.out | apply below_alloc | apply pw_below_drewN | apply below_drew1) | exact HB.out)⟩⟩
            · rw [if_neg c10] at H
              exact absurd H (by simp)
          · rw [if_neg c9] at H
            exact absurd H (by simp)
      · rw [if_neg c2] at H
        have c2b0 : decide (x5_1 ≤ (a0.size : Int)) = false := decide_eq_false c2
        clear c2
        obtain rfl := Option.some.inj H
        go_wp2
        go_ret
        exact ⟨_, by first | rfl | (simp [errW_none, errW_some] <;> rfl) | (simp [*, errW_none, errW_some] <;> rfl), by (with_reducible repeat (first | apply Kd.R_alloc | apply Kd.R_drewN | apply Kd.R_drew)); exact HO_3.out, by repeat (first | (with_reducible first | exact HB.out | apply below_alloc | apply pw_below_drewN | apply below_drew1) | exact HB.out)⟩
end Go.Proofs.YtpkjpiphjdpegaaDoor.P
namespace Go.Proofs.YtpkjpiphjdpegaaDoor.P
open Go.RowKit Go.Proofs.YtpkjpiphjdpegaaDoorW.PrintWords Go.Proofs.YtpkjpiphjdpegaaDoorW.PrintLast Go.Proofs.YtpkjpiphjdpegaaDoorW.PrintMore
set_option linter.unusedVariables false
set_option linter.unusedSimpArgs false
theorem valid_at (s : ByteArray) (p : Nat) (hp : p < s.size) : Lib.validD (s.data.toList.drop p) = if badAt s p then false else Lib.validD (s.data.toList.drop (p + (Utf8.decode s p).2)) := by
  have hl : s.data.toList.length = s.size := by simp
  rw [Lib.validD_step _ (by intro e; have := congrArg List.length e; rw [List.length_drop, hl] at this; simp at this; omega), Lib.decodeL_drop, List.drop_drop]
theorem valid_end (s : ByteArray) (p : Nat) (hp : ¬ p < s.size) : Lib.validD (s.data.toList.drop p) = true := by
  have hl : s.data.toList.length = s.size := by simp
  rw [List.drop_eq_nil_of_le (by rw [hl]; omega), Lib.validD_nil]
theorem wide_4 (s : ByteArray) (p : Nat) : (Utf8.decode s p).2 ≤ 4 := by
  rw [dec_is]
  repeat' split
  all_goals simp
theorem refRunes_loop (s : ByteArray) (hs : s.size ≤ 1000000000) : ∀ (n p : Nat) (x : List Int), s.size ≤ p + n → x.length ≤ p → p ≤ s.size + 4 →
    paymasterref09_Runes.l0 (n + 11) s x p = some (if Lib.validD (s.data.toList.drop p) = true then (x ++ runesAt s n p, 0) else ([], 90))
  | n, p, x, h, hx, hp4 => by
    by_cases hp : p < s.size
    · obtain ⟨m, rfl⟩ : ∃ m, n = m + 1 := ⟨n - 1, by omega⟩
      have w1 := wide_pos s p hp
      have w4 := wide_4 s p
      have r1 := Lib.rune_le s p
      rw [paymasterref09_Runes.l0, if_pos (by omega), show m + 11 = (m + 1) + 10 from rfl, rune_is (m + 1) s p hp hs, Option.bind_some, runeR_is, valid_at s p hp]
      by_cases b : badAt s p
      · have e : decR (Utf8.decode s p) = (0, 0) := by unfold decR; rw [if_pos b]
        rw [e, if_pos b, if_pos rfl, if_neg (by decide)]
      · have e : decR (Utf8.decode s p) = (((Utf8.decode s p).1 : Int), ((Utf8.decode s p).2 : Int)) := by unfold decR; rw [if_neg b]
        rw [e, if_neg b, if_neg (show ¬ (((Utf8.decode s p).2 : Nat) : Int) = 0 by omega), if_pos (by omega)]
        have wr : wrap32 (((Utf8.decode s p).1 : Nat) : Int) = (((Utf8.decode s p).1 : Nat) : Int) := by unfold wrap32; omega
        have wp : wrap64 ((p : Int) + (((Utf8.decode s p).2 : Nat) : Int)) = ((p + (Utf8.decode s p).2 : Nat) : Int) := by rw [wrap64_in _ (by omega)]; push_cast; rfl
        rw [wr, wp, show m + 1 + 10 = m + 11 by omega, refRunes_loop s hs m (p + (Utf8.decode s p).2) (x ++ [(((Utf8.decode s p).1 : Nat) : Int)]) (by omega) (by simp; omega) (by omega)]
        rw [runesAt, if_pos hp, List.append_assoc]
        rfl
    · rw [paymasterref09_Runes.l0, if_neg (by omega), valid_end s p hp, if_pos rfl, runesAt_end s n p hp, List.append_nil]
theorem refRunes_is (s : ByteArray) (hs : s.size ≤ 1000000000) : paymasterref09_Runes.f (s.size + 11) s = some (if Lib.validD s.data.toList = true then (runesAt s s.size 0, 0) else ([], 90)) := by
  have := refRunes_loop s hs s.size 0 [] (by omega) (Nat.le_refl _) (by omega)
  unfold paymasterref09_Runes.f
  rw [show (((0 : Nat) : Int)) = 0 from rfl] at this
  rw [this]
  rfl
def enc (c : Int) : List Int := nb (Utf8.encode c)
theorem nb_append (a b : ByteArray) : nb (a ++ b) = nb a ++ nb b := by
  unfold nb
  rw [ByteArray.data_append, Array.toList_append, List.map_append]
theorem odd_is (c : Int) : oddR c = decide (c < 0 ∨ c > 1114111 ∨ (c ≥ 55296 ∧ c < 57344)) := by
  unfold oddR Lib.validRune
  by_cases h : (0 ≤ c ∧ c < 0xD800) ∨ (0xDFFF < c ∧ c ≤ 0x10FFFF)
  · rw [decide_eq_true h, decide_eq_false (by omega)]; rfl
  · rw [decide_eq_false h, decide_eq_true (by omega)]; rfl
theorem nb_mk (a : Array UInt8) : nb ⟨a⟩ = a.toList.map fun x => (x.toNat : Int) := rfl
theorem byte_of (n : Nat) (h : n < 256) : (((UInt8.ofNat n).toNat : Nat) : Int) = (n : Int) := by
  rw [UInt8.toNat_ofNat_of_lt' (by show n < 256; exact h)]
theorem enc_1 (c : Nat) (h : c < 128) : enc (c : Int) = [(c : Int)] := by
  unfold enc Utf8.encode
  have v : Utf8.valid (c : Int) = true := by unfold Utf8.valid; simp; omega
  simp only [v, if_true, Int.toNat_natCast]
  rw [if_pos h, nb_mk]
  simp only [List.map_cons, List.map_nil]
  rw [byte_of _ (by omega)]
theorem enc_2 (c : Nat) (h0 : 128 ≤ c) (h : c < 2048) : enc (c : Int) = [((192 + c / 64 : Nat) : Int), ((128 + c % 64 : Nat) : Int)] := by
  unfold enc Utf8.encode
  have v : Utf8.valid (c : Int) = true := by unfold Utf8.valid; simp; omega
  simp only [v, if_true, Int.toNat_natCast]
  rw [if_neg (by omega), if_pos h, nb_mk]
  simp only [List.map_cons, List.map_nil]
  rw [byte_of _ (by omega), byte_of _ (by omega)]
theorem enc_3 (c : Nat) (h0 : 2048 ≤ c) (h : c < 65536) (hv : ¬ (c ≥ 55296 ∧ c < 57344)) : enc (c : Int) = [((224 + c / 4096 : Nat) : Int), ((128 + c / 64 % 64 : Nat) : Int), ((128 + c % 64 : Nat) : Int)] := by
  unfold enc Utf8.encode
  have v : Utf8.valid (c : Int) = true := by unfold Utf8.valid; simp; omega
  simp only [v, if_true, Int.toNat_natCast]
  rw [if_neg (by omega), if_neg (by omega), if_pos h, nb_mk]
  simp only [List.map_cons, List.map_nil]
  rw [byte_of _ (by omega), byte_of _ (by omega), byte_of _ (by omega)]
theorem enc_4 (c : Nat) (h0 : 65536 ≤ c) (h : c ≤ 1114111) : enc (c : Int) = [((240 + c / 262144 : Nat) : Int), ((128 + c / 4096 % 64 : Nat) : Int), ((128 + c / 64 % 64 : Nat) : Int), ((128 + c % 64 : Nat) : Int)] := by
  unfold enc Utf8.encode
  have v : Utf8.valid (c : Int) = true := by unfold Utf8.valid; simp; omega
  simp only [v, if_true, Int.toNat_natCast]
  rw [if_neg (by omega), if_neg (by omega), if_neg (by omega), nb_mk]
  simp only [List.map_cons, List.map_nil]
  rw [byte_of _ (by omega), byte_of _ (by omega), byte_of _ (by omega), byte_of _ (by omega)]
theorem enc_len (c : Int) : (enc c).length ≤ 4 := by
  unfold enc
  rw [nb_length]
  exact encode_size_le c
end Go.Proofs.YtpkjpiphjdpegaaDoor.P
namespace Go.Proofs.YtpkjpiphjdpegaaDoor.P
open Go.RowKit Go.Proofs.YtpkjpiphjdpegaaDoorW.PrintWords Go.Proofs.YtpkjpiphjdpegaaDoorW.PrintLast Go.Proofs.YtpkjpiphjdpegaaDoorW.PrintMore
set_option linter.unusedVariables false
set_option linter.unusedSimpArgs false
theorem up {β : Type} {F : Nat → Option β} (m : ∀ k, LeO (F k) (F (k + 1))) {a : Nat} {r : β} (h : F a = some r) : ∀ b, a ≤ b → F b = some r := by
  intro b hb
  induction b with
  | zero =>
    obtain rfl : a = 0 := by omega
    exact h
  | succ b ih =>
    by_cases e : a = b + 1
    · rw [← e]; exact h
    · exact m b r (ih (by omega))
theorem refRunes_up (s : ByteArray) (hs : s.size ≤ 1000000000) (k : Nat) (hk : s.size + 11 ≤ k) : paymasterref09_Runes.f k s = some (if Lib.validD s.data.toList = true then (runesAt s s.size 0, 0) else ([], 90)) :=
  up (F := fun k => paymasterref09_Runes.f k s) (paymasterref09_Runes.mono s) (refRunes_is s hs) k hk
end Go.Proofs.YtpkjpiphjdpegaaDoor.P
namespace Go.Proofs.YtpkjpiphjdpegaaDoor.P
open Go.RowKit Go.Proofs.YtpkjpiphjdpegaaDoorW.PrintWords Go.Proofs.YtpkjpiphjdpegaaDoorW.PrintLast Go.Proofs.YtpkjpiphjdpegaaDoorW.PrintMore
set_option linter.unusedVariables false
set_option linter.unusedSimpArgs false
theorem bt_mk (l : List UInt8) (i : Nat) (h : i < l.length) : bt (mk l) (i : Int) = ((l.getD i 0).toNat : Int) := by
  rw [bt_nb]
  unfold nb
  rw [mk_list, List.getD_eq_getElem?_getD, List.getD_eq_getElem?_getD, List.getElem?_map, List.getElem?_eq_getElem h]
  rfl
theorem u8_is (x : UInt8) (n : Nat) (hn : n < 256) : ((x.toNat : Int) = (n : Int)) ↔ x = UInt8.ofNat n := by
  constructor
  · intro h
    apply UInt8.toNat_inj.1
    rw [UInt8.toNat_ofNat']
    omega
  · intro h
    rw [h, UInt8.toNat_ofNat']
    omega
theorem ten_is (x : UInt8) : ((x.toNat : Int) = 10) ↔ x = 10 := u8_is x 10 (by omega)
theorem split_at (l : List UInt8) (f i : Nat) (h : f ≤ i) (hi : i ≤ l.length) : l.drop f = (l.take i).drop f ++ l.drop i := by
  conv => lhs; rw [← List.take_append_drop i l]
  rw [List.drop_append_of_le_length (by rw [List.length_take]; omega)]
theorem refSplit_l0 (l : List UInt8) (hs : l.length ≤ 1000000000) (k : Nat) : ∀ (t i f : Nat) (x : List ByteArray), i + t = l.length → f ≤ i → (∀ b ∈ (l.take i).drop f, b ≠ 10) → x.length ≤ i →
    paymasterref09_Split.l0 (k + 2 + t) (mk l) x (f : Int) (i : Int) = some (x ++ (splitB (l.drop f)).map mk)
  | 0, i, f, x, h, hf, hc, hx => by
    obtain rfl : i = l.length := by omega
    rw [List.take_length] at hc
    show paymasterref09_Split.l0 (k + 1 + 1) (mk l) x _ _ = _
    rw [paymasterref09_Split.l0, mk_size, if_pos (Int.le_refl _), if_pos rfl, if_pos (show (0 : Int) ≤ (f : Int) by omega), if_pos (show (f : Int) ≤ (l.length : Int) by omega), if_pos (show x.length < 8796093022208 by omega), Int.toNat_natCast, Int.toNat_natCast, wrapI _ (by omega) (by omega), paymasterref09_Split.l0, mk_size, if_neg (by omega), extract_mk, List.take_length, splitB_one _ hc]
    rfl
  | t + 1, i, f, x, h, hf, hc, hx => by
    show paymasterref09_Split.l0 (k + 2 + t + 1) (mk l) x _ _ = _
    have sp := split_at l f i hf (by omega)
    have nx : l.drop i = l.getD i 0 :: l.drop (i + 1) := by
      rw [List.drop_eq_getElem_cons (by omega), List.getD_eq_getElem?_getD, List.getElem?_eq_getElem (by omega)]; rfl
    rw [nx] at sp
    rw [paymasterref09_Split.l0, mk_size, if_pos (show (i : Int) ≤ (l.length : Int) by omega), if_neg (show ¬ (i : Int) = (l.length : Int) by omega), if_pos (show (0 : Int) ≤ (i : Int) by omega), if_pos (show (i : Int) < (l.length : Int) by omega), bt_mk l i (by omega), wrapI _ (by omega) (by omega), show (i : Int) + 1 = ((i + 1 : Nat) : Int) from by omega]
    by_cases c : l.getD i 0 = 10
    · rw [if_pos ((ten_is _).2 c), if_pos (show (0 : Int) ≤ (f : Int) by omega), if_pos (show (f : Int) ≤ (i : Int) by omega), if_pos (show x.length < 8796093022208 by omega), Int.toNat_natCast, Int.toNat_natCast, extract_mk]
      rw [refSplit_l0 l hs k t (i + 1) (i + 1) _ (by omega) (Nat.le_refl _) (by rw [List.drop_of_length_le (by rw [List.length_take]; omega)]; simp) (by rw [List.length_append, List.length_singleton]; omega)]
      rw [sp, c, splitB_app, splitB_one _ hc, List.map_append, List.append_assoc]
      rfl
    · rw [if_neg (fun q => c ((ten_is _).1 q))]
      refine refSplit_l0 l hs k t (i + 1) f x (by omega) (by omega) ?_ (by omega)
      have e : (l.take (i + 1)).drop f = (l.take i).drop f ++ [l.getD i 0] := by
        rw [List.take_succ_eq_append_getElem (by omega), List.drop_append_of_le_length (by rw [List.length_take]; omega), List.getD_eq_getElem?_getD, List.getElem?_eq_getElem (by omega)]; rfl
      rw [e]
      intro b hb
      rcases List.mem_append.1 hb with q | q
      · exact hc b q
      · rw [List.mem_singleton.1 q]; exact c
theorem refSplit_is (s : ByteArray) (hs : s.size ≤ 1000000000) (k : Nat) (hk : s.size + 2 ≤ k) : paymasterref09_Split.f k s = some ((splitB s.data.toList).map mk) := by
  have e : s.data.toList.length = s.size := Array.length_toList
  have := refSplit_l0 s.data.toList (by omega) (k - 2 - s.size) s.size 0 0 [] (by omega) (Nat.le_refl _) (by simp) (Nat.le_refl _)
  rw [show k - 2 - s.size + 2 + s.size = k by omega, mk_of] at this
  exact this
end Go.Proofs.YtpkjpiphjdpegaaDoor.P
namespace Go.Proofs.YtpkjpiphjdpegaaDoor.P
set_option linter.unusedVariables false
set_option linter.unusedSimpArgs false
def decF : Nat → Int → List Int
  | 0, n => [n]
  | f + 1, n => if n < 10 then [n] else decF f (n / 10) ++ [n % 10]
def valD (l : List Int) : Int := l.foldl (fun a d => a * 10 + d) 0
def Dig (l : List Int) : Prop := ∀ d, d ∈ l → 0 ≤ d ∧ d < 10
theorem ten_pos (k : Nat) : (0 : Int) < 10 ^ k := Int.pow_pos (by omega)
theorem valD_snoc (l : List Int) (d : Int) : valD (l ++ [d]) = valD l * 10 + d := by
  unfold valD
  rw [List.foldl_append]
  rfl
theorem fold_cons : ∀ (l : List Int) (a : Int), l.foldl (fun a d => a * 10 + d) a = a * 10 ^ l.length + l.foldl (fun a d => a * 10 + d) 0
  | [], a => by simp
  | x :: l, a => by
    rw [List.foldl_cons, List.foldl_cons, fold_cons l (a * 10 + x), fold_cons l (0 * 10 + x), List.length_cons, Int.pow_succ, Int.add_mul, Int.mul_assoc a 10, Int.mul_comm 10, Int.zero_mul, Int.zero_add]
    omega
theorem valD_cons (x : Int) (l : List Int) : valD (x :: l) = x * 10 ^ l.length + valD l := by
  unfold valD
  rw [List.foldl_cons, fold_cons l (0 * 10 + x), Int.zero_mul, Int.zero_add]
theorem valD_range : ∀ (l : List Int), Dig l → 0 ≤ valD l ∧ valD l < 10 ^ l.length
  | [], _ => by simp [valD]
  | x :: l, h => by
    have h0 := valD_range l (fun d hd => h d (List.mem_cons_of_mem _ hd))
    have h1 := h x (List.mem_cons_self ..)
    have p := ten_pos l.length
    rw [valD_cons, List.length_cons, Int.pow_succ]
    have h2 : x * 10 ^ l.length ≤ 9 * 10 ^ l.length := Int.mul_le_mul_of_nonneg_right (by omega) (by omega)
    have h3 : 0 ≤ x * 10 ^ l.length := Int.mul_nonneg h1.1 (by omega)
    omega
theorem dec_val : ∀ (f : Nat) (n : Int), valD (decF f n) = n
  | 0, n => by simp [decF, valD]
  | f + 1, n => by
    unfold decF
    by_cases h : n < 10
    · rw [if_pos h]; simp [valD]
    · rw [if_neg h, valD_snoc, dec_val f]
      omega
theorem dec_dig : ∀ (f : Nat) (n : Int), 0 ≤ n → n < 10 ^ (f + 1) → Dig (decF f n)
  | 0, n, h0, h => by
    intro d hd
    simp only [decF, List.mem_singleton] at hd
    rw [Int.pow_succ, Int.pow_zero] at h
    omega
  | f + 1, n, h0, h => by
    intro d hd
    unfold decF at hd
    by_cases g : n < 10
    · rw [if_pos g, List.mem_singleton] at hd
      omega
    · rw [if_neg g, List.mem_append, List.mem_singleton] at hd
      rcases hd with hd | hd
      · refine dec_dig f (n / 10) (by omega) ?_ d hd
        rw [Int.pow_succ] at h
        omega
      · omega
theorem dec_len : ∀ (f : Nat) (n : Int), 1 ≤ (decF f n).length ∧ (decF f n).length ≤ f + 1
  | 0, n => by simp [decF]
  | f + 1, n => by
    unfold decF
    by_cases g : n < 10
    · rw [if_pos g]; simp
    · rw [if_neg g, List.length_append]
      have := dec_len f (n / 10)
      simp only [List.length_singleton]
      omega
theorem dec_small (f : Nat) (n : Int) (h : n < 10) : decF f n = [n] := by
  cases f with
  | zero => rfl
  | succ f => simp [decF, h]
theorem ten_mono : ∀ (a b : Nat), (10 : Int) ^ a ≤ 10 ^ (a + b)
  | a, 0 => Int.le_refl _
  | a, b + 1 => by
    have := ten_mono a b
    have p := ten_pos (a + b)
    rw [← Nat.add_assoc, Int.pow_succ]
    omega
theorem dec_uniq : ∀ (m f : Nat) (l : List Int), l.length = m + 1 → Dig l → (1 < l.length → l.head? ≠ some 0) → valD l < 10 ^ (f + 1) → decF f (valD l) = l
  | 0, f, l, hl, hd, hh, hv => by
    match l, hl with
    | [x], _ =>
      have hx := hd x (by simp)
      have e : valD [x] = x := by simp [valD]
      rw [e]
      exact dec_small f x hx.2
  | m + 1, f, l, hl, hd, hh, hv => by
    obtain ⟨t, d, rfl⟩ : ∃ t d, l = t ++ [d] := by
      rcases List.eq_nil_or_concat l with h | ⟨t, d, h⟩
      · rw [h] at hl; simp at hl
      · exact ⟨t, d, by rw [h, List.concat_eq_append]⟩
    have lt : t.length = m + 1 := by simpa using hl
    have dd := hd d (by simp)
    have dt : Dig t := fun x hx => hd x (List.mem_append_left _ hx)
    have ht : t.head? ≠ some 0 := by
      cases t with
      | nil => simp at lt
      | cons x t => simpa using hh (by simp)
    rw [valD_snoc] at hv ⊢
    have pos : 0 < valD t := by
      cases t with
      | nil => simp at lt
      | cons x t =>
        have n0 : x ≠ 0 := by simpa using ht
        have x0 := dt x (by simp)
        have r := (valD_range t (fun x hx => dt x (List.mem_cons_of_mem _ hx))).1
        rw [valD_cons]
        have : 0 < x * 10 ^ t.length := Int.mul_pos (by omega) (ten_pos _)
        omega
    cases f with
    | zero => rw [Int.pow_succ, Int.pow_zero] at hv; omega
    | succ f =>
      unfold decF
      rw [if_neg (by omega), show (valD t * 10 + d) / 10 = valD t from by omega, show (valD t * 10 + d) % 10 = d from by omega]
      rw [dec_uniq m f t lt dt (fun _ => ht) (by rw [Int.pow_succ] at hv; omega)]
theorem ediv_ten (n : Int) (k : Nat) : n / 10 ^ (k + 1) = n / 10 / 10 ^ k := by
  rw [Int.pow_succ, Int.mul_comm (10 ^ k) 10, Int.ediv_ediv_of_nonneg (by omega)]
end Go.Proofs.YtpkjpiphjdpegaaDoor.P
namespace Go.Proofs.YtpkjpiphjdpegaaDoor.P
set_option linter.unusedVariables false
set_option linter.unusedSimpArgs false
theorem val_all : ∀ (n : Nat) (l : List Int) (V : Int), l.length = n → 0 ≤ V → V < 10 ^ n → (∀ i, i < n → l.getD i 0 = V / 10 ^ (n - 1 - i) % 10) → valD l = V
  | 0, l, V, hl, h0, h1, h => by
    obtain rfl := List.eq_nil_of_length_eq_zero hl
    rw [Int.pow_zero] at h1
    show (0 : Int) = V
    omega
  | n + 1, l, V, hl, h0, h1, h => by
    obtain ⟨t, d, rfl⟩ : ∃ t d, l = t ++ [d] := by
      rcases List.eq_nil_or_concat l with e | ⟨t, d, e⟩
      · rw [e] at hl; simp at hl
      · exact ⟨t, d, by rw [e, List.concat_eq_append]⟩
    have lt : t.length = n := by simpa using hl
    have hd := h n (by omega)
    rw [show n + 1 - 1 - n = 0 from by omega, Int.pow_zero, Int.ediv_one, List.getD_eq_getElem?_getD, List.getElem?_append_right (by omega), show n - t.length = 0 from by omega] at hd
    have hd' : d = V % 10 := hd
    have ih := val_all n t (V / 10) lt (by omega) (by rw [Int.pow_succ] at h1; omega) (fun i hi => by
      have := h i (by omega)
      rw [List.getD_eq_getElem?_getD, List.getElem?_append_left (by omega), ← List.getD_eq_getElem?_getD] at this
      rw [this, show n + 1 - 1 - i = (n - 1 - i) + 1 from by omega, ediv_ten])
    rw [valD_snoc, ih]
    omega
theorem val_skip (l : List Int) (i : Nat) (hi : i < l.length) (h : l.getD i 0 = 0) : valD (l.drop (i + 1)) = valD (l.drop i) := by
  have e : l.drop i = l.getD i 0 :: l.drop (i + 1) := by
    rw [List.drop_eq_getElem_cons hi]
    congr 1
    rw [List.getD_eq_getElem?_getD, List.getElem?_eq_getElem hi]
    rfl
  rw [e, h, valD_cons]
  simp
theorem ten_split (V : Int) (a b : Nat) : V / 10 ^ (a + b) = V / 10 ^ a / 10 ^ b := by
  rw [Int.pow_add, Int.ediv_ediv_of_nonneg (Int.le_of_lt (ten_pos a))]
theorem dig_rest (V : Int) (h0 : 0 ≤ V) (j : Nat) (hj : j < 19) : V % 10 ^ 19 / 10 ^ j % 10 = V / 10 ^ j % 10 := by
  have e : (10 : Int) ^ 19 = 10 ^ j * (10 * 10 ^ (18 - j)) := by
    rw [← Int.pow_succ', ← Int.pow_add]
    congr 1
    omega
  have p := ten_pos j
  rw [e]
  generalize hp : (10 : Int) ^ j = P at *
  generalize (10 : Int) ^ (18 - j) = Q at *
  have m : V % (P * (10 * Q)) = V - P * (10 * Q) * (V / (P * (10 * Q))) := by
    have := Int.mul_ediv_add_emod V (P * (10 * Q))
    omega
  generalize V / (P * (10 * Q)) = Z at m
  have m' : V % (P * (10 * Q)) = V + P * (-(10 * (Q * Z))) := by
    rw [m, Int.mul_neg, Int.mul_assoc P, Int.mul_assoc 10]
    omega
  rw [m', Int.add_mul_ediv_left _ _ (by omega)]
  omega
end Go.Proofs.YtpkjpiphjdpegaaDoor.P
namespace Go.Proofs.YtpkjpiphjdpegaaDoor.P
open Go.RowKit Go.Proofs.YtpkjpiphjdpegaaDoorW.PrintWords Go.Proofs.YtpkjpiphjdpegaaDoorW.PrintLast Go.Proofs.YtpkjpiphjdpegaaDoorW.PrintMore
set_option linter.unusedVariables false
set_option linter.unusedSimpArgs false
def val (hi lo : Int) : Int := hi * 18446744073709551616 + lo
def hiOf (n : Int) : Int := n / 18446744073709551616
def loOf (n : Int) : Int := n % 18446744073709551616
def m128 : Int := 340282366920938463463374607431768211456
end Go.Proofs.YtpkjpiphjdpegaaDoor.P
namespace Go.Proofs.YtpkjpiphjdpegaaDoor.P
open Go.RowKit Go.Proofs.YtpkjpiphjdpegaaDoorW.PrintWords Go.Proofs.YtpkjpiphjdpegaaDoorW.PrintLast Go.Proofs.YtpkjpiphjdpegaaDoorW.PrintMore
set_option linter.unusedVariables false
set_option linter.unusedSimpArgs false
theorem wu (x : Int) (h0 : 0 ≤ x) (h1 : x < 18446744073709551616) : IntKind.u64.wrap x = x := by rw [IntKind.wrap_u64]; omega
theorem wi (x : Int) (h0 : -9223372036854775808 ≤ x) (h1 : x < 9223372036854775808) : wrap64 x = x := by unfold wrap64; omega
def hf (a b c d : Int) : Int := ((d * 65536 + c) * 65536 + b) * 65536 + a
end Go.Proofs.YtpkjpiphjdpegaaDoor.P
namespace Go.Proofs.YtpkjpiphjdpegaaDoor.P
open Go.RowKit Go.Proofs.YtpkjpiphjdpegaaDoorW.PrintWords Go.Proofs.YtpkjpiphjdpegaaDoorW.PrintLast Go.Proofs.YtpkjpiphjdpegaaDoorW.PrintMore
set_option linter.unusedVariables false
set_option linter.unusedSimpArgs false
theorem quot_lt {y Q R T q : Int} (hy : 0 < y) (e : Q * y + R = T) (hR : 0 ≤ R) (h : T < q * y) : Q < q := by
  rcases Int.lt_or_le Q q with h1 | h1
  · exact h1
  · have := Int.mul_le_mul_of_nonneg_right h1 (Int.le_of_lt hy)
    omega
theorem quot_le {y Q R T q : Int} (hy : 0 < y) (e : Q * y + R = T) (hR : R < y) (h : q * y ≤ T) : q ≤ Q := by
  rcases Int.lt_or_le Q q with h1 | h1
  · have h2 : Q + 1 ≤ q := h1
    have := Int.mul_le_mul_of_nonneg_right h2 (Int.le_of_lt hy)
    rw [Int.add_mul, Int.one_mul] at this
    omega
  · exact h1
structure Est (x2 v1 v0 u d Q R : Int) : Prop where
  hy : x2 = v1 * 4294967296 + v0
  v1l : 2147483648 ≤ v1
  v1u : v1 < 4294967296
  v0l : 0 ≤ v0
  v0u : v0 < 4294967296
  dl : 0 ≤ d
  du : d < 4294967296
  ul : 0 ≤ u
  hQ : Q * x2 + R = u * 4294967296 + d
  Rl : 0 ≤ R
  Ru : R < x2
  Ql : 0 ≤ Q
  Qu : Q < 4294967296
theorem Est.made {x2 v1 v0 u d Q R q rh : Int} (h : Est x2 v1 v0 u d Q R) (e : q * v1 + rh = u) : q * x2 = (u - rh) * 4294967296 + q * v0 := by
  rw [h.hy, Int.mul_add, ← Int.mul_assoc, show q * v1 = u - rh by omega]
theorem Est.pos {x2 v1 v0 u d Q R : Int} (h : Est x2 v1 v0 u d Q R) : 0 < x2 := by
  have := h.hy
  have := h.v1l
  have := h.v0l
  omega
theorem Est.big {x2 v1 v0 u d Q R q rh : Int} (h : Est x2 v1 v0 u d Q R) (e : q * v1 + rh = u) (t : q ≥ 4294967296 ∨ q * v0 > 4294967296 * rh + d) : Q < q := by
  rcases t with t | t
  · have := h.Qu
    omega
  · have m := h.made e
    exact quot_lt h.pos h.hQ h.Rl (by omega)
theorem Est.fits {x2 v1 v0 u d Q R q rh : Int} (h : Est x2 v1 v0 u d Q R) (e : q * v1 + rh = u) (hq : Q ≤ q) (t : ¬ (q * v0 > 4294967296 * rh + d)) : q = Q := by
  have m := h.made e
  have := quot_le h.pos h.hQ h.Ru (q := q) (by omega)
  omega
theorem Est.over {x2 v1 v0 u d Q R q rh : Int} (h : Est x2 v1 v0 u d Q R) (e : q * v1 + rh = u) (hq : Q ≤ q) (hq' : q ≤ 4294967296) (t : rh ≥ 4294967296) : q = Q := by
  have m := h.made e
  have h0 : 0 ≤ q := by
    have := h.Ql
    omega
  have w : q * v0 ≤ 4294967296 * v0 := Int.mul_le_mul_of_nonneg_right hq' h.v0l
  have := h.v0u
  have := h.dl
  have := quot_le h.pos h.hQ h.Ru (q := q) (by omega)
  omega
theorem Est.word {x2 v1 v0 u d Q R q : Int} (h : Est x2 v1 v0 u d Q R) (hq : 0 ≤ q) (hq' : q < 4294967296) : 0 ≤ q * v0 ∧ q * v0 < 18446744073709551616 := by
  have w : q * v0 ≤ 4294967296 * v0 := Int.mul_le_mul_of_nonneg_right (by omega) h.v0l
  have := h.v0u
  exact ⟨Int.mul_nonneg hq h.v0l, by omega⟩
theorem wuu (x : Int) (h : 0 ≤ x) (h' : x < 18446744073709551616) : IntKind.u64.wrap x = x := by rw [IntKind.wrap_u64]; omega
theorem div_l0 {x2 v1 v0 u d Q R : Int} (h : Est x2 v1 v0 u d Q R) (x8 x14 : Int) : ∀ (n k : Nat) (q rh : Int), q * v1 + rh = u → Q ≤ q → q ≤ 4294967297 → 0 ≤ rh → rh < 4294967296 → 4294967296 ≤ rh + n * 2147483648 →
    ∃ k' : Nat, k' ≤ 2 * n ∧ bits_Div64.l0 (k + 2 * n) x2 x8 v1 v0 u d x14 q rh = bits_Div64.j2 (k + k') x2 x8 v1 v0 u d x14 Q
  | 0, k, q, rh, e, hq, hq1, r0, r1, hn => by omega
  | n + 1, k, q, rh, e, hq, hq1, r0, r1, hn => by
    have v1l := h.v1l
    have v1u := h.v1u
    have Ql := h.Ql
    have dl := h.dl
    have du := h.du
    have T : Q < q → ∃ k' : Nat, k' ≤ 2 * (n + 1) ∧ bits_Div64.j1 (k + 2 * n + 1) x2 x8 v1 v0 u d x14 q rh true = bits_Div64.j2 (k + k') x2 x8 v1 v0 u d x14 Q := by
      intro hlt
      have e' : (q - 1) * v1 + (rh + v1) = u := by rw [Int.sub_mul, Int.one_mul]; omega
      rw [bits_Div64.j1, if_pos rfl, wuu (rh + v1) (by omega) (by omega), wuu (q - 1) (by omega) (by omega)]
      by_cases hb : rh + v1 ≥ 4294967296
      · rw [if_pos hb, h.over e' (by omega) (by omega) hb]
        exact ⟨2 * n, by omega, rfl⟩
      · rw [if_neg hb]
        obtain ⟨k', hk, ee⟩ := div_l0 h x8 x14 n k (q - 1) (rh + v1) e' (by omega) (by omega) (by omega) (by omega) (by omega)
        exact ⟨k', by omega, ee⟩
    show ∃ k' : Nat, k' ≤ 2 * (n + 1) ∧ bits_Div64.l0 (k + 2 * n + 1 + 1) x2 x8 v1 v0 u d x14 q rh = bits_Div64.j2 (k + k') x2 x8 v1 v0 u d x14 Q
    rw [bits_Div64.l0]
    by_cases hb : q ≥ 4294967296
    · rw [if_pos hb]
      exact T (h.big e (.inl hb))
    · rw [if_neg hb]
      have w := h.word (q := q) (by omega) (by omega)
      rw [wuu (q * v0) w.1 w.2, wuu (4294967296 * rh) (by omega) (by omega), wuu (4294967296 * rh + d) (by omega) (by omega)]
      by_cases ht : q * v0 > 4294967296 * rh + d
      · rw [decide_eq_true ht]
        exact T (h.big e (.inr ht))
      · rw [decide_eq_false ht, bits_Div64.j1, if_neg (by simp), h.fits e hq ht]
        exact ⟨2 * n, by omega, rfl⟩
theorem div_l1 {x2 v1 v0 u d Q R : Int} (h : Est x2 v1 v0 u d Q R) (x8 x15 : Int) (h8 : 0 ≤ x8) : ∀ (n k : Nat) (q rh : Int), q * v1 + rh = u → Q ≤ q → q ≤ 4294967297 → 0 ≤ rh → rh < 4294967296 → 4294967296 ≤ rh + n * 2147483648 →
    bits_Div64.l1 (k + 2 * n) x2 x8 v1 v0 d x15 rh u q = some (IntKind.u64.wrap (IntKind.u64.wrap (x15 * 4294967296) + Q), shr .u64 (IntKind.u64.wrap (IntKind.u64.wrap (IntKind.u64.wrap (u * 4294967296) + d) - IntKind.u64.wrap (Q * x2))) x8)
  | 0, k, q, rh, e, hq, hq1, r0, r1, hn => by omega
  | n + 1, k, q, rh, e, hq, hq1, r0, r1, hn => by
    have v1l := h.v1l
    have v1u := h.v1u
    have Ql := h.Ql
    have dl := h.dl
    have du := h.du
    have T : Q < q → bits_Div64.j4 (k + 2 * n + 1) x2 x8 v1 v0 d x15 rh u q true = some (IntKind.u64.wrap (IntKind.u64.wrap (x15 * 4294967296) + Q), shr .u64 (IntKind.u64.wrap (IntKind.u64.wrap (IntKind.u64.wrap (u * 4294967296) + d) - IntKind.u64.wrap (Q * x2))) x8) := by
      intro hlt
      have e' : (q - 1) * v1 + (rh + v1) = u := by rw [Int.sub_mul, Int.one_mul]; omega
      rw [bits_Div64.j4, if_pos rfl, wuu (rh + v1) (by omega) (by omega), wuu (q - 1) (by omega) (by omega)]
      by_cases hb : rh + v1 ≥ 4294967296
      · rw [if_pos hb, if_pos h8, h.over e' (by omega) (by omega) hb]
      · rw [if_neg hb]
        exact div_l1 h x8 x15 h8 n k (q - 1) (rh + v1) e' (by omega) (by omega) (by omega) (by omega) (by omega)
    show bits_Div64.l1 (k + 2 * n + 1 + 1) x2 x8 v1 v0 d x15 rh u q = _
    rw [bits_Div64.l1]
    by_cases hb : q ≥ 4294967296
    · rw [if_pos hb]
      exact T (h.big e (.inl hb))
    · rw [if_neg hb]
      have w := h.word (q := q) (by omega) (by omega)
      rw [wuu (q * v0) w.1 w.2, wuu (4294967296 * rh) (by omega) (by omega), wuu (4294967296 * rh + d) (by omega) (by omega)]
      by_cases ht : q * v0 > 4294967296 * rh + d
      · rw [decide_eq_true ht]
        exact T (h.big e (.inr ht))
      · rw [decide_eq_false ht, bits_Div64.j4, if_neg (by simp), if_pos h8, h.fits e hq ht]
end Go.Proofs.YtpkjpiphjdpegaaDoor.P
namespace Go.Proofs.YtpkjpiphjdpegaaDoor.P
open Go.RowKit Go.Proofs.YtpkjpiphjdpegaaDoorW.PrintWords Go.Proofs.YtpkjpiphjdpegaaDoorW.PrintLast Go.Proofs.YtpkjpiphjdpegaaDoorW.PrintMore
set_option linter.unusedVariables false
set_option linter.unusedSimpArgs false
def lenTab : ByteArray := (⟨#[0, 1, 2, 2, 3, 3, 3, 3, 4, 4, 4, 4, 4, 4, 4, 4, 5, 5, 5, 5, 5, 5, 5, 5, 5, 5, 5, 5, 5, 5, 5, 5, 6, 6, 6, 6, 6, 6, 6, 6, 6, 6, 6, 6, 6, 6, 6, 6, 6, 6, 6, 6, 6, 6, 6, 6, 6, 6, 6, 6, 6, 6, 6, 6, 7, 7, 7, 7, 7, 7, 7, 7, 7, 7, 7, 7, 7, 7, 7, 7, 7, 7, 7, 7, 7, 7, 7, 7, 7, 7, 7, 7, 7, 7, 7, 7, 7, 7, 7, 7, 7, 7, 7, 7, 7, 7, 7, 7, 7, 7, 7, 7, 7, 7, 7, 7, 7, 7, 7, 7, 7, 7, 7, 7, 7, 7, 7, 7, 8, 8, 8, 8, 8, 8, 8, 8, 8, 8, 8, 8, 8, 8, 8, 8, 8, 8, 8, 8, 8, 8, 8, 8, 8, 8, 8, 8, 8, 8, 8, 8, 8, 8, 8, 8, 8, 8, 8, 8, 8, 8, 8, 8, 8, 8, 8, 8, 8, 8, 8, 8, 8, 8, 8, 8, 8, 8, 8, 8, 8, 8, 8, 8, 8, 8, 8, 8, 8, 8, 8, 8, 8, 8, 8, 8, 8, 8, 8, 8, 8, 8, 8, 8, 8, 8, 8, 8, 8, 8, 8, 8, 8, 8, 8, 8, 8, 8, 8, 8, 8, 8, 8, 8, 8, 8, 8, 8, 8, 8, 8, 8, 8, 8, 8, 8, 8, 8, 8, 8, 8, 8, 8, 8, 8, 8, 8, 8]⟩ : ByteArray)
set_option maxRecDepth 100000 in
theorem lenTab_all : ∀ b : Fin 256, 0 < b.val → ∃ n : Fin 9, bt lenTab (b.val : Int) = (n.val : Int) ∧ 2 ^ n.val ≤ 2 * b.val ∧ b.val < 2 ^ n.val := by decide +kernel
theorem lenTab_is (b : Int) (h0 : 0 < b) (h1 : b < 256) : ∃ n : Nat, n ≤ 8 ∧ 1 ≤ n ∧ bt lenTab b = (n : Int) ∧ (2 : Nat) ^ n ≤ 2 * b.toNat ∧ b.toNat < 2 ^ n := by
  obtain ⟨n, e, l, u⟩ := lenTab_all ⟨b.toNat, by omega⟩ (by show 0 < b.toNat; omega)
  have hb : ((⟨b.toNat, by omega⟩ : Fin 256).val : Int) = b := by show (b.toNat : Int) = b; omega
  rw [hb] at e
  refine ⟨n.val, by omega, ?_, e, l, u⟩
  rcases Nat.eq_zero_or_pos n.val with h | h
  · rw [h] at u
    have : b.toNat < 1 := u
    omega
  · exact h
structure Len (x : Int) (n : Nat) : Prop where
  pos : 1 ≤ n
  le : n ≤ 64
  low : 9223372036854775808 ≤ x * ((2 ^ (64 - n) : Nat) : Int)
  high : x * ((2 ^ (64 - n) : Nat) : Int) < 18446744073709551616
theorem len_at (x : Int) (off n : Nat) (hx : 0 < x) (P : Nat) (hP : P = 2 ^ off) (hn : n ≤ 8) (hn1 : 1 ≤ n) (ho : off + n ≤ 64) (b : Int) (hb : b = x / (P : Int)) (hb0 : 0 < b) (l : (2 : Nat) ^ n ≤ 2 * b.toNat) (u : b.toNat < 2 ^ n) : Len x (off + n) := by
  obtain ⟨X, rfl⟩ := Int.eq_ofNat_of_zero_le (Int.le_of_lt hx)
  have hPp : 0 < P := by rw [hP]; exact Nat.two_pow_pos _
  have eb : b = ((X / P : Nat) : Int) := by rw [hb]; rfl
  have eb' : b.toNat = X / P := by omega
  rw [eb'] at l u
  have h1 : P * (X / P) ≤ X := Nat.mul_div_le X P
  have h2 : X < P * 2 ^ n := by
    have := Nat.lt_mul_of_div_lt u hPp
    rw [Nat.mul_comm] at this
    exact this
  have e64 : P * 2 ^ n * 2 ^ (64 - (off + n)) = 2 ^ 64 := by
    rw [hP, ← Nat.pow_add, ← Nat.pow_add]
    congr 1
    omega
  have hQ : 0 < 2 ^ (64 - (off + n)) := Nat.two_pow_pos _
  have l2 : P * 2 ^ n ≤ 2 * X := by
    have := Nat.mul_le_mul_left P l
    rw [Nat.mul_left_comm] at this
    omega
  refine ⟨by omega, ho, ?_, ?_⟩
  · have := Nat.mul_le_mul_right (2 ^ (64 - (off + n))) l2
    rw [e64, Nat.mul_assoc] at this
    have h : (9223372036854775808 : Nat) ≤ X * 2 ^ (64 - (off + n)) := by
      have e : (2 : Nat) ^ 64 = 18446744073709551616 := by decide
      omega
    rw [← Int.natCast_mul]
    exact Int.ofNat_le.2 h
  · have := Nat.mul_lt_mul_of_pos_right h2 hQ
    rw [e64] at this
    rw [← Int.natCast_mul]
    exact Int.ofNat_lt.2 this
theorem len_part (x y base : Int) (off : Nat) (P : Nat) (hP : P = 2 ^ off) (hx : 0 < x) (b : Int) (hb : b = x / (P : Int)) (hb0 : 0 < b) (hb1 : b < 256) (ho : off ≤ 56) (hbase : y = (off : Int)) :
    ∃ n : Nat, wrap64 (y + wrap64 (bt lenTab b)) = (n : Int) ∧ Len x n := by
  obtain ⟨n, h1, h2, e, l, u⟩ := lenTab_is b hb0 hb1
  refine ⟨off + n, ?_, len_at x off n hx P hP h1 h2 (by omega) b hb hb0 l u⟩
  rw [e, hbase, wi (n : Int) (by omega) (by omega), wi _ (by omega) (by omega)]
  omega
theorem len_j (x : Int) (hx : 0 < x) (k : Nat) (y base : Int) (off : Nat) (hy : 0 < y) (hy1 : y < 4294967296) (P : Nat) (hP : P = 2 ^ off) (hyx : y = x / (P : Int)) (ho : off = 0 ∨ off = 32) (hb : base = (off : Int)) :
    ∃ n : Nat, bits_Len64.j0 (k + 1) y base = some (n : Int) ∧ Len x n := by
  rw [bits_Len64.j0, show (⟨#[0, 1, 2, 2, 3, 3, 3, 3, 4, 4, 4, 4, 4, 4, 4, 4, 5, 5, 5, 5, 5, 5, 5, 5, 5, 5, 5, 5, 5, 5, 5, 5, 6, 6, 6, 6, 6, 6, 6, 6, 6, 6, 6, 6, 6, 6, 6, 6, 6, 6, 6, 6, 6, 6, 6, 6, 6, 6, 6, 6, 6, 6, 6, 6, 7, 7, 7, 7, 7, 7, 7, 7, 7, 7, 7, 7, 7, 7, 7, 7, 7, 7, 7, 7, 7, 7, 7, 7, 7, 7, 7, 7, 7, 7, 7, 7, 7, 7, 7, 7, 7, 7, 7, 7, 7, 7, 7, 7, 7, 7, 7, 7, 7, 7, 7, 7, 7, 7, 7, 7, 7, 7, 7, 7, 7, 7, 7, 7, 8, 8, 8, 8, 8, 8, 8, 8, 8, 8, 8, 8, 8, 8, 8, 8, 8, 8, 8, 8, 8, 8, 8, 8, 8, 8, 8, 8, 8, 8, 8, 8, 8, 8, 8, 8, 8, 8, 8, 8, 8, 8, 8, 8, 8, 8, 8, 8, 8, 8, 8, 8, 8, 8, 8, 8, 8, 8, 8, 8, 8, 8, 8, 8, 8, 8, 8, 8, 8, 8, 8, 8, 8, 8, 8, 8, 8, 8, 8, 8, 8, 8, 8, 8, 8, 8, 8, 8, 8, 8, 8, 8, 8, 8, 8, 8, 8, 8, 8, 8, 8, 8, 8, 8, 8, 8, 8, 8, 8, 8, 8, 8, 8, 8, 8, 8, 8, 8, 8, 8, 8, 8, 8, 8, 8, 8, 8, 8]⟩ : ByteArray) = lenTab from rfl]
  have hPP : (P : Int) = 1 ∨ (P : Int) = 4294967296 := by
    rcases ho with rfl | rfl
    · left; rw [hP]; rfl
    · right; rw [hP]; rfl
  have wb : ∀ a c : Int, base + a = c → 0 ≤ a → a ≤ 100 → wrap64 (base + a) = c := by
    intro a c e a0 a1
    rw [e, wi _ (by omega) (by omega)]
  have p : ∀ (m : Nat), m ≤ 24 → ((P * 2 ^ m : Nat) = 2 ^ (off + m)) := by
    intro m hm
    rw [hP, ← Nat.pow_add]
  by_cases h1 : y ≥ 65536
  · rw [if_pos h1]
    by_cases h2 : y / 65536 ≥ 256
    · rw [if_pos h2, if_pos (by omega), if_pos (by omega), wb 16 (base + 16) rfl (by omega) (by omega), wi (base + 16 + 8) (by omega) (by omega)]
      obtain ⟨n, e, hl⟩ := len_part x (base + 16 + 8) base (off + 24) (P * 2 ^ 24) (p 24 (by omega)) hx (y / 65536 / 256 % 256) (by rcases hPP with h | h <;> (rw [h] at hyx; rw [Int.natCast_mul, h]; omega)) (by omega) (by omega) (by omega) (by omega)
      exact ⟨n, by rw [e], hl⟩
    · rw [if_neg h2, if_pos (by omega), if_pos (by omega), wb 16 (base + 16) rfl (by omega) (by omega)]
      obtain ⟨n, e, hl⟩ := len_part x (base + 16) base (off + 16) (P * 2 ^ 16) (p 16 (by omega)) hx (y / 65536 % 256) (by rcases hPP with h | h <;> (rw [h] at hyx; rw [Int.natCast_mul, h]; omega)) (by omega) (by omega) (by omega) (by omega)
      exact ⟨n, by rw [e], hl⟩
  · rw [if_neg h1]
    by_cases h2 : y ≥ 256
    · rw [if_pos h2, if_pos (by omega), if_pos (by omega), wb 8 (base + 8) rfl (by omega) (by omega)]
      obtain ⟨n, e, hl⟩ := len_part x (base + 8) base (off + 8) (P * 2 ^ 8) (p 8 (by omega)) hx (y / 256 % 256) (by rcases hPP with h | h <;> (rw [h] at hyx; rw [Int.natCast_mul, h]; omega)) (by omega) (by omega) (by omega) (by omega)
      exact ⟨n, by rw [e], hl⟩
    · rw [if_neg h2, if_pos (by omega), if_pos (by omega)]
      obtain ⟨n, e, hl⟩ := len_part x base base off P hP hx (y % 256) (by rcases hPP with h | h <;> (rw [h] at hyx; rw [h]; omega)) (by omega) (by omega) (by omega) (by omega)
      exact ⟨n, by rw [e], hl⟩
theorem lead_is (x : Int) (hx : 0 < x) (hx1 : x < 18446744073709551616) (k : Nat) : ∃ s : Nat, s ≤ 63 ∧ bits_LeadingZeros64.f (k + 1) x = some (s : Int) ∧ 9223372036854775808 ≤ x * ((2 ^ s : Nat) : Int) ∧ x * ((2 ^ s : Nat) : Int) < 18446744073709551616 := by
  have H : ∃ n : Nat, bits_Len64.f (k + 1) x = some (n : Int) ∧ Len x n := by
    unfold bits_Len64.f
    by_cases h : x ≥ 4294967296
    · rw [if_pos h]
      exact len_j x hx k (x / 4294967296) 32 32 (by omega) (by omega) 4294967296 (by decide) rfl (.inr rfl) rfl
    · rw [if_neg h]
      exact len_j x hx k x 0 0 (by omega) (by omega) 1 (by decide) (by omega) (.inl rfl) rfl
  obtain ⟨n, e, hl⟩ := H
  have := hl.pos
  have := hl.le
  refine ⟨64 - n, by omega, ?_, hl.low, hl.high⟩
  unfold bits_LeadingZeros64.f
  rw [e]
  simp only [Option.bind_some]
  rw [wi _ (by omega) (by omega)]
  congr 1
  omega
end Go.Proofs.YtpkjpiphjdpegaaDoor.P
namespace Go.Proofs.YtpkjpiphjdpegaaDoor.P
open Go.RowKit Go.Proofs.YtpkjpiphjdpegaaDoorW.PrintWords Go.Proofs.YtpkjpiphjdpegaaDoorW.PrintLast Go.Proofs.YtpkjpiphjdpegaaDoorW.PrintMore
set_option linter.unusedVariables false
set_option linter.unusedSimpArgs false
theorem shl_is (x : Int) (s : Nat) (hs : s ≤ 64) : shl .u64 x (s : Int) = IntKind.u64.wrap (x * ((2 ^ s : Nat) : Int)) := by
  unfold shl
  rw [show ((s : Int)).toNat = s by omega, show min s IntKind.u64.bits = s from Nat.min_eq_left hs, Int.natCast_pow]
  rfl
theorem shr_is (x : Int) (s : Nat) (hs : s ≤ 64) : shr .u64 x (s : Int) = x / ((2 ^ s : Nat) : Int) := by
  unfold shr
  rw [show ((s : Int)).toNat = s by omega, show min s IntKind.u64.bits = s from Nat.min_eq_left hs, Int.natCast_pow]
  rfl
theorem mask_is (x : Int) (h0 : 0 ≤ x) (h1 : x < 18446744073709551616) : Go.bits .and .u64 x 4294967295 = x % 4294967296 := by
  obtain ⟨X, rfl⟩ := Int.eq_ofNat_of_zero_le h0
  rw [Go.Proofs.Mul64.maskN X (by omega)]
  omega
theorem or_is2 (x y : Int) (s : Nat) (hx : 0 ≤ x) (hx1 : x < 18446744073709551616) (hd : x % ((2 ^ s : Nat) : Int) = 0) (hy : 0 ≤ y) (hy1 : y < ((2 ^ s : Nat) : Int)) (hs : s ≤ 63) : Go.bits .or .u64 x y = x + y := by
  have e : ((2 ^ s : Nat) : Int) = 2 ^ s := by rw [Int.natCast_pow]; rfl
  have hle : (2 : Nat) ^ s ≤ 2 ^ 63 := Nat.pow_le_pow_right (by omega) hs
  have hle' : ((2 ^ s : Nat) : Int) ≤ 9223372036854775808 := Int.ofNat_le.2 hle
  rw [e] at hd
  refine bits_join .u64 64 (by decide) (fun n h0 h1 => wuu n h0 (by omega)) s x y hx hd (by omega) hy (by rw [← e]; exact hy1) (by omega)
theorem est_mk (V u d : Int) (hV : 9223372036854775808 ≤ V) (hV1 : V < 18446744073709551616) (hu : 0 ≤ u) (hu1 : u < V) (hd : 0 ≤ d) (hd1 : d < 4294967296) :
    Est V (V / 4294967296) (V % 4294967296) u d ((u * 4294967296 + d) / V) ((u * 4294967296 + d) % V) :=
  ⟨by omega, by omega, by omega, by omega, by omega, hd, hd1, hu, Int.ediv_mul_add_emod _ _, Int.emod_nonneg _ (by omega), Int.emod_lt_of_pos _ (by omega), Int.ediv_nonneg (by omega) (by omega),
    Int.ediv_lt_of_lt_mul (by omega) (by omega)⟩
theorem Est.first {x2 v1 v0 u d Q R : Int} (h : Est x2 v1 v0 u d Q R) : Q ≤ u / v1 ∧ u / v1 ≤ 4294967297 ∧ u / v1 * v1 + u % v1 = u ∧ 0 ≤ u % v1 ∧ u % v1 < 4294967296 := by
  obtain ⟨hy, v1l, v1u, v0l, v0u, dl, du, ul, hQ, Rl, Ru, Ql, Qu⟩ := h
  have e : Q * x2 = Q * v1 * 4294967296 + Q * v0 := by rw [hy, Int.mul_add, ← Int.mul_assoc]
  have w := Int.mul_nonneg Ql v0l
  have hv : 0 < v1 := by omega
  have q1 := Int.emod_lt_of_pos u hv
  have q0 := Int.emod_nonneg u (show v1 ≠ 0 by omega)
  have hm : Q * x2 ≤ 4294967295 * x2 := Int.mul_le_mul_of_nonneg_right (by omega) (by omega)
  have hlt : u < 4294967298 * v1 := by omega
  have := Int.ediv_lt_of_lt_mul hv hlt
  exact ⟨Int.le_ediv_of_mul_le hv (by omega), by omega, Int.ediv_mul_add_emod _ _, q0, by omega⟩
theorem div_core (V u d1 d0 : Int) (s : Nat) (hs : s ≤ 63) (hV : 9223372036854775808 ≤ V) (hV1 : V < 18446744073709551616) (hu : 0 ≤ u) (hu1 : u < V) (hd : 0 ≤ d1) (hd1 : d1 < 4294967296) (hd' : 0 ≤ d0) (hd1' : d0 < 4294967296) (k : Nat) :
    ∃ Qt R : Int, bits_Div64.l0 (k + 16) V (s : Int) (V / 4294967296) (V % 4294967296) u d1 d0 (IntKind.u64.wrap (Int.tdiv u (V / 4294967296))) (IntKind.u64.wrap (u - IntKind.u64.wrap (IntKind.u64.wrap (Int.tdiv u (V / 4294967296)) * (V / 4294967296)))) = some (Qt, R / ((2 ^ s : Nat) : Int)) ∧
      Qt * V + R = (u * 4294967296 + d1) * 4294967296 + d0 ∧ 0 ≤ R ∧ R < V ∧ 0 ≤ Qt ∧ Qt < 18446744073709551616 := by
  have E := est_mk V u d1 hV hV1 hu hu1 hd hd1
  obtain ⟨f1, f2, f3, f4, f5⟩ := E.first
  have hR0 := E.Rl
  have hR1 := E.Ru
  have hQ0 := E.Ql
  have hQ1 := E.Qu
  have hE := E.hQ
  have hdiv : ∀ x : Int, 0 ≤ x → x < V → IntKind.u64.wrap (Int.tdiv x (V / 4294967296)) = x / (V / 4294967296) := by
    intro x h0 h1
    have hp := Int.ediv_nonneg h0 (show 0 ≤ V / 4294967296 by omega)
    have hq : x / (V / 4294967296) ≤ x := Int.ediv_le_self _ h0
    rw [Int.tdiv_eq_ediv_of_nonneg h0, wuu _ hp (by omega)]
  have hrest : ∀ x : Int, 0 ≤ x → x < V → IntKind.u64.wrap (x - IntKind.u64.wrap (x / (V / 4294967296) * (V / 4294967296))) = x % (V / 4294967296) := by
    intro x h0 h1
    have e := Int.ediv_mul_add_emod x (V / 4294967296)
    have r0 := Int.emod_nonneg x (show V / 4294967296 ≠ 0 by omega)
    have r1 := Int.emod_lt_of_pos x (show 0 < V / 4294967296 by omega)
    have p0 := Int.mul_nonneg (Int.ediv_nonneg h0 (show 0 ≤ V / 4294967296 by omega)) (show 0 ≤ V / 4294967296 by omega)
    generalize x / (V / 4294967296) * (V / 4294967296) = P at *
    rw [wuu P p0 (by omega), wuu _ (by omega) (by omega)]
    omega
  rw [hdiv u hu hu1, hrest u hu hu1]
  generalize hQn : (u * 4294967296 + d1) / V = Q1 at *
  generalize hRn : (u * 4294967296 + d1) % V = R1 at *
  obtain ⟨k', hk, e1⟩ := div_l0 E (s : Int) d0 2 (k + 12) (u / (V / 4294967296)) (u % (V / 4294967296)) f3 f1 f2 f4 f5 (by omega)
  have E2 := est_mk V R1 d0 hV hV1 hR0 hR1 hd' hd1'
  obtain ⟨g1, g2, g3, g4, g5⟩ := E2.first
  have hR20 := E2.Rl
  have hR21 := E2.Ru
  have hQ20 := E2.Ql
  have hQ21 := E2.Qu
  have hE2 := E2.hQ
  have hd2 := hdiv R1 hR0 hR1
  have hr2 := hrest R1 hR0 hR1
  generalize (R1 * 4294967296 + d0) / V = Q0 at *
  generalize (R1 * 4294967296 + d0) % V = R0 at *
  have e2 := div_l1 E2 (s : Int) Q1 (by omega) 2 (k + 7 + k') (R1 / (V / 4294967296)) (R1 % (V / 4294967296)) g3 g1 g2 g4 g5 (by omega)
  have u21 : IntKind.u64.wrap (IntKind.u64.wrap (IntKind.u64.wrap (u * 4294967296) + d1) - IntKind.u64.wrap (Q1 * V)) = R1 := by
    generalize Q1 * V = P at *
    rw [IntKind.wrap_u64, IntKind.wrap_u64, IntKind.wrap_u64, IntKind.wrap_u64]
    omega
  have u20 : IntKind.u64.wrap (IntKind.u64.wrap (IntKind.u64.wrap (R1 * 4294967296) + d0) - IntKind.u64.wrap (Q0 * V)) = R0 := by
    generalize Q0 * V = P at *
    rw [IntKind.wrap_u64, IntKind.wrap_u64, IntKind.wrap_u64, IntKind.wrap_u64]
    omega
  have e3 : bits_Div64.l0 (k + 16) V (s : Int) (V / 4294967296) (V % 4294967296) u d1 d0 (u / (V / 4294967296)) (u % (V / 4294967296)) = bits_Div64.j2 (k + 12 + k') V (s : Int) (V / 4294967296) (V % 4294967296) u d1 d0 Q1 := e1
  refine ⟨Q1 * 4294967296 + Q0, R0, ?_, ?_, hR20, hR21, by omega, by omega⟩
  · rw [e3, show k + 12 + k' = (k + 11 + k') + 1 by omega, bits_Div64.j2, if_neg (by omega), u21, hd2, hr2, show k + 11 + k' = k + 7 + k' + 2 * 2 by omega, e2, u20, shr_is R0 s (by omega), wuu (Q1 * 4294967296) (by omega) (by omega), wuu _ (by omega) (by omega)]
  · rw [Int.add_mul, Int.mul_right_comm]
    omega
theorem div64_is (hi lo y : Int) (h1 : U64 hi) (h2 : U64 lo) (h3 : U64 y) (hlt : hi < y) (k : Nat) :
    bits_Div64.f (k + 20) hi lo y = some ((hi * 18446744073709551616 + lo) / y, (hi * 18446744073709551616 + lo) % y) := by
  obtain ⟨a0, a1⟩ := h1
  obtain ⟨b0, b1⟩ := h2
  obtain ⟨c0, c1⟩ := h3
  unfold bits_Div64.f
  rw [if_neg (by omega), if_neg (by omega)]
  by_cases h0 : hi = 0
  · subst h0
    have hq : lo / y ≤ lo := Int.ediv_le_self _ b0
    have hq0 := Int.ediv_nonneg b0 (show 0 ≤ y by omega)
    rw [if_pos rfl, Int.tdiv_eq_ediv_of_nonneg b0, Int.tmod_eq_emod_of_nonneg b0, wuu _ hq0 (by omega), show (0 : Int) * 18446744073709551616 + lo = lo by omega]
  rw [if_neg h0]
  obtain ⟨s, hs, es, low, high⟩ := lead_is y (by omega) c1 (k + 19)
  have es' : bits_LeadingZeros64.f (k + 20) y = some (s : Int) := es
  rw [es']
  simp only [Option.bind_some]
  have hST : (2 ^ s) * (2 ^ (64 - s)) = (18446744073709551616 : Nat) := by
    rw [← Nat.pow_add, show s + (64 - s) = 64 by omega]
  have hSp : 0 < 2 ^ s := Nat.two_pow_pos s
  have hTp : 0 < 2 ^ (64 - s) := Nat.two_pow_pos (64 - s)
  have hSi : ((2 ^ s : Nat) : Int) * ((2 ^ (64 - s) : Nat) : Int) = 18446744073709551616 := by
    rw [← Int.natCast_mul, hST]
    rfl
  have hle : (2 : Nat) ^ s ≤ 2 ^ 63 := Nat.pow_le_pow_right (by omega) hs
  have hle' : ((2 ^ s : Nat) : Int) ≤ 9223372036854775808 := Int.ofNat_le.2 hle
  rw [wuu (s : Int) (by omega) (by omega), wuu (64 - (s : Int)) (by omega) (by omega), if_pos (by omega), if_pos (by omega), show (64 : Int) - (s : Int) = ((64 - s : Nat) : Int) by omega]
  rw [shl_is y s (by omega), shl_is hi s (by omega), shl_is lo s (by omega), shr_is lo (64 - s) (by omega)]
  have hor : ∀ x z, _ := fun x z => or_is2 x z s
  generalize hS : ((2 ^ s : Nat) : Int) = S at *
  generalize hT : ((2 ^ (64 - s) : Nat) : Int) = T at *
  have hS0 : 0 < S := by omega
  have hT0 : 0 < T := by omega
  have hL : lo / T = lo * S / 18446744073709551616 := by
    rw [← hSi, Int.mul_comm S T, Int.mul_ediv_mul_of_pos_left _ _ hS0]
  have hH : (hi + 1) * S ≤ y * S := Int.mul_le_mul_of_nonneg_right (by omega) (by omega)
  rw [Int.add_mul, Int.one_mul] at hH
  have hH0 : 0 ≤ hi * S := Int.mul_nonneg a0 (by omega)
  have hHd : hi * S % S = 0 := Int.mul_emod_left hi S
  have hL0 : 0 ≤ lo * S := Int.mul_nonneg b0 (by omega)
  have hL1 : lo * S ≤ 18446744073709551615 * S := Int.mul_le_mul_of_nonneg_right (by omega) (by omega)
  have hN : (hi * 18446744073709551616 + lo) * S = hi * S * 18446744073709551616 + lo * S := by rw [Int.add_mul, Int.mul_right_comm]
  have hMS := Int.mul_ediv_mul_of_pos_left (hi * 18446744073709551616 + lo) y hS0
  have hMr := Int.mul_emod_mul_of_pos (hi * 18446744073709551616 + lo) y hS0
  rw [Int.mul_comm S, Int.mul_comm S] at hMr
  rw [hN] at hMS hMr
  rw [hL]
  generalize hi * S = H at *
  generalize lo * S = L at *
  generalize y * S = V at *
  rw [wuu V (by omega) high, wuu H hH0 (by omega), hor H (L / 18446744073709551616) hH0 (by omega) hHd (by omega) (by omega) hs, mask_is V (by omega) high, show IntKind.u64.wrap L = L % 18446744073709551616 from IntKind.wrap_u64 L, mask_is (L % 18446744073709551616) (by omega) (by omega), if_neg (by omega)]
  obtain ⟨Qt, R, e, eq, r0, r1, q0, q1⟩ := div_core V (H + L / 18446744073709551616) (L % 18446744073709551616 / 4294967296) (L % 18446744073709551616 % 4294967296) s hs low high (by omega) (by omega) (by omega) (by omega) (by omega) (by omega) (k + 4)
  rw [hS] at e
  have hTt : H * 18446744073709551616 + L = R + V * Qt := by rw [Int.mul_comm V]; omega
  obtain ⟨d1, d2⟩ := (Int.ediv_emod_unique (show 0 < V by omega)).2 ⟨hTt.symm, r0, r1⟩
  rw [hMS] at d1
  rw [hMr, Int.mul_comm] at d2
  have hr : R / S = (hi * 18446744073709551616 + lo) % y := by rw [← d2]; exact Int.mul_ediv_cancel _ (by omega)
  rw [← hr, d1]
  exact e
end Go.Proofs.YtpkjpiphjdpegaaDoor.P
namespace Go.Proofs.YtpkjpiphjdpegaaDoor.P
open Go.RowKit Go.Proofs.YtpkjpiphjdpegaaDoorW.PrintWords Go.Proofs.YtpkjpiphjdpegaaDoorW.PrintLast Go.Proofs.YtpkjpiphjdpegaaDoorW.PrintMore
set_option linter.unusedVariables false
set_option linter.unusedSimpArgs false
theorem halves (n hi lo : Int) (h : U64 lo) (e : n = hi * 18446744073709551616 + lo) : hiOf n = hi ∧ loOf n = lo := by
  unfold hiOf loOf; constructor <;> omega
end Go.Proofs.YtpkjpiphjdpegaaDoor.P
namespace Go.Proofs.YtpkjpiphjdpegaaDoor.P
open Go.RowKit Go.Proofs.YtpkjpiphjdpegaaDoorW.PrintWords Go.Proofs.YtpkjpiphjdpegaaDoorW.PrintLast Go.Proofs.YtpkjpiphjdpegaaDoorW.PrintMore
set_option linter.unusedVariables false
set_option linter.unusedSimpArgs false
open Go.Proofs.Mul64 in
theorem idx105_0 (x y : Int) (W : World) : (Instr.index 177 (.agg #[.int .u64 x, .int .u64 y]) (.int .i64 0)).run Tryd.prog W = .ok (.int .u64 x) W := by
  simp [Instr.index, run_underlying Tryd.underlying177, asIntOf, go_sem]
theorem idx105_1 (x y : Int) (W : World) : (Instr.index 177 (.agg #[.int .u64 x, .int .u64 y]) (.int .i64 1)).run Tryd.prog W = .ok (.int .u64 y) W := by
  simp [Instr.index, run_underlying Tryd.underlying177, asIntOf, go_sem]
attribute [local go_sem] idx105_0 idx105_1
end Go.Proofs.YtpkjpiphjdpegaaDoor.P
namespace Go.Proofs.YtpkjpiphjdpegaaDoor.P
open Go.RowKit Go.Proofs.YtpkjpiphjdpegaaDoorW.PrintWords Go.Proofs.YtpkjpiphjdpegaaDoorW.PrintLast Go.Proofs.YtpkjpiphjdpegaaDoorW.PrintMore
attribute [local go_sem] max2_int min2_int max_two min_two max_three min_three max_four min_four
set_option linter.unusedVariables false
set_option linter.unusedSimpArgs false
def u128_OverP.f (k : Nat) (a0_0 : Int) (a0_1 : Int) (a1 : Int) : Option (Int × Int × Int × Int) := if a1 = 0 then (some (0, 0, 0, 2)) else ((bits_Div64.f k (Int.tmod a0_0 a1) a0_1 a1).bind fun bt137 => (some (IntKind.u64.wrap (Int.tdiv a0_0 a1), bt137.1, bt137.2, 0)))
set_option maxHeartbeats 8000000 in
set_option maxRecDepth 100000 in
theorem u128_OverP.calls (k : Nat) (a0_0 : Int) (a0_1 : Int) (a1 : Int) (r1 : Int) (r2 : Int) (r3 : Int) (r4 : Int) (w : World) (h : u128_OverP.f k a0_0 a0_1 a1 = some (r1, r2, r3, r4)) :
    Calls Tryd.prog 132 #[.agg #[.int .u64 a0_0, .int .u64 a0_1], .int .u64 a1] w fun e w' => e = .returned (.tuple #[.agg #[.int .u64 r1, .int .u64 r2], .int .u64 r3, .int .i64 r4]) ∧ Below w.heap.size w w' := by
  have hu25 := Tryd.underlying42
  have HB := Aside0.mk (Below.refl w.heap.size w)
  have H : (if a1 = 0 then (some (0, 0, 0, 2)) else ((bits_Div64.f k (Int.tmod a0_0 a1) a0_1 a1).bind fun bt137 => (some (IntKind.u64.wrap (Int.tdiv a0_0 a1), bt137.1, bt137.2, 0)))) = some (r1, r2, r3, r4) := h
  clear h
  by_cases c3 : a1 = 0
  · rw [if_pos c3] at H
    have c3b0 : (a1 == 0) = true := beq_iff_eq.mpr c3
    have c3b1 : (a1 != 0) = false := bne_eq_false_iff_eq.mpr c3
    clear c3
    simp only [Option.some.injEq, Prod.mk.injEq] at H
    obtain ⟨rfl, rfl, rfl, rfl⟩ := H
    go_enter Tryd.func132, Tryd.ntmps132
    go_wp2_with (first | ((with_reducible refine gate_dst (N := 2) rfl ?_); refine box_event ?hg (N := 2) ?hd (cs := #[.int .u64 a0_0, .int .u64 a0_1]) (t := 42) ?hr ?_; (case hd => rfl); (case hg => rfl); (case hr => first | (go_simp; done) | (go_simp; rfl)); intro gb135 hg w4 hbox hb; have n0_ := Aside0.mk (below_step (by repeat (first | (with_reducible first | exact HB.out | apply below_alloc | apply pw_below_drewN | apply below_drew1) | exact HB.out)) hb); have n1_ := Aside0.mk (hbox); have n2_ := Aside0.mk ((by rw [hg]; exact (below_size (by repeat (first | (with_reducible first | exact HB.out | apply below_alloc | apply pw_below_drewN | apply below_drew1) | exact HB.out))) : w.heap.size ≤ gb135)); have n3_ := Aside0.mk ((by rw [hg]; exact (below_size (by repeat (first | (with_reducible first | exact HB.out | apply below_alloc | apply pw_below_drewN | apply below_drew1) | exact HB.out))) : w.heap.size ≤ gb135)); clear HB; have HB := n0_; have BK135 := n1_; have GW135 := n2_; have GE135 := n3_; clear n0_ n1_ n2_ n3_; clear hb hbox hg) | ((with_reducible refine gate_dst (N := 4) rfl ?_); refine box_event ?hg (N := 4) ?hd (cs := #[.int .u64 0, .int .u64 0]) (t := 42) ?hr ?_; (case hd => rfl); (case hg => rfl); (case hr => first | (go_simp; done) | (go_simp; rfl)); intro gb136 hg w5 hbox hb; have n0_ := Aside0.mk (blk_below (g := gb135) (o := .cells #[.int .u64 a0_0, .int .u64 a0_1] 42 (0, 0)) (by (with_reducible repeat (first | refine blk_drewN ?_ _ | refine blk_drew ?_ | refine blk_alloc ?_ _)); exact BK135.out) hb); have n1_ := Aside0.mk (below_step (by repeat (first | (with_reducible first | exact HB.out | apply below_alloc | apply pw_below_drewN | apply below_drew1 | refine below_set ?_ GE135.out) | exact HB.out)) hb); have n2_ := Aside0.mk (hbox); have n3_ := Aside0.mk ((by rw [hg]; exact (below_size (by repeat (first | (with_reducible first | exact HB.out | apply below_alloc | apply pw_below_drewN | apply below_drew1 | refine below_set ?_ GE135.out) | exact HB.out))) : w.heap.size ≤ gb136)); have n4_ := Aside0.mk ((by rw [hg]; exact (below_size (by repeat (first | (with_reducible first | exact HB.out | apply below_alloc | apply pw_below_drewN | apply below_drew1 | refine below_set ?_ GE135.out) | exact HB.out))) : w.heap.size ≤ gb136)); have n5_ := Aside0.mk ((by rw [hg]; exact Nat.ne_of_lt (blk_lt (g := gb135) (o := .cells #[.int .u64 a0_0, .int .u64 a0_1] 42 (0, 0)) (by (with_reducible repeat (first | refine blk_drewN ?_ _ | refine blk_drew ?_ | refine blk_alloc ?_ _)); exact BK135.out)) : gb135 ≠ gb136)); have n6_ := Aside0.mk ((by rw [hg]; exact Nat.ne_of_gt (blk_lt (g := gb135) (o := .cells #[.int .u64 a0_0, .int .u64 a0_1] 42 (0, 0)) (by (with_reducible repeat (first | refine blk_drewN ?_ _ | refine blk_drew ?_ | refine blk_alloc ?_ _)); exact BK135.out)) : gb136 ≠ gb135)); clear BK135; clear HB; have BK135 := n0_; have HB := n1_; have BK136 := n2_; have GW136 := n3_; have GE136 := n4_; have NB135_136 := n5_; have NB136_135 := n6_; clear n0_ n1_ n2_ n3_ n4_ n5_ n6_; clear hb hbox hg; have hnb6 := NB136_135.out; have hnc6 := NB135_136.out; have hcz7_0 : w5.cell? ⟨gb136, 0, none⟩ = some (.int .u64 0) := (blk_cell BK136.out 0).trans rfl; have hcz7_1 : w5.cell? ⟨gb136, 1, none⟩ = some (.int .u64 0) := (blk_cell BK136.out 1).trans rfl; have hfz7_0 := blk_frozen BK136.out 0; have hfz7_1 := blk_frozen BK136.out 1))
    repeat (go_quiet (first | ((with_reducible refine gate_dst (N := 2) rfl ?_); refine box_event ?hg (N := 2) ?hd (cs := #[.int .u64 a0_0, .int .u64 a0_1]) (t := 42) ?hr ?_; (case hd => rfl); (case hg => rfl); (case hr => first | (go_simp; done) | (go_simp; rfl)); intro gb135 hg w4 hbox hb; have n0_ := Aside0.mk (below_step (by repeat (first | (with_reducible first | exact HB.out | apply below_alloc | apply pw_below_drewN | apply below_drew1) | exact HB.out)) hb); have n1_ := Aside0.mk (hbox); have n2_ := Aside0.mk ((by rw [hg]; exact (below_size (by repeat (first | (with_reducible first | exact HB.out | apply below_alloc | apply pw_below_drewN | apply below_drew1) | exact HB.out))) : w.heap.size ≤ gb135)); have n3_ := Aside0.mk ((by rw [hg]; exact (below_size (by repeat (first | (with_reducible first | exact HB.out | apply below_alloc | apply pw_below_drewN | apply below_drew1) | exact HB.out))) : w.heap.size ≤ gb135)); clear HB; have HB := n0_; have BK135 := n1_; have GW135 := n2_; have GE135 := n3_; clear n0_ n1_ n2_ n3_; clear hb hbox hg) | ((with_reducible refine gate_dst (N := 4) rfl ?_); refine box_event ?hg (N := 4) ?hd (cs := #[.int .u64 0, .int .u64 0]) (t := 42) ?hr ?_; (case hd => rfl); (case hg => rfl); (case hr => first | (go_simp; done) | (go_simp; rfl)); intro gb136 hg w5 hbox hb; have n0_ := Aside0.mk (blk_below (g := gb135) (o := .cells #[.int .u64 a0_0, .int .u64 a0_1] 42 (0, 0)) (by (with_reducible repeat (first | refine blk_drewN ?_ _ | refine blk_drew ?_ | refine blk_alloc ?_ _)); exact BK135.out) hb); have n1_ := Aside0.mk (below_step (by repeat (first | (with_reducible first | exact HB.out | apply below_alloc | apply pw_below_drewN | apply below_drew1 | refine below_set ?_ GE135.out) | exact HB.out)) hb); have n2_ := Aside0.mk (hbox); have n3_ := Aside0.mk ((by rw [hg]; exact (below_size (by repeat (first | (with_reducible first | exact HB.out | apply below_alloc | apply pw_below_drewN | apply below_drew1 | refine below_set ?_ GE135.out) | exact HB.out))) : w.heap.size ≤ gb136)); have n4_ := Aside0.mk ((by rw [hg]; exact (below_size (by repeat (first | (with_reducible first | exact HB.out | apply below_alloc | apply pw_below_drewN | apply below_drew1 | refine below_set ?_ GE135.out) | exact HB.out))) : w.heap.size ≤ gb136)); have n5_ := Aside0.mk ((by rw [hg]; exact Nat.ne_of_lt (blk_lt (g := gb135) (o := .cells #[.int .u64 a0_0, .int .u64 a0_1] 42 (0, 0)) (by (with_reducible repeat (first | refine blk_drewN ?_ _ | refine blk_drew ?_ | refine blk_alloc ?_ _)); exact BK135.out)) : gb135 ≠ gb136)); have n6_ := Aside0.mk ((by rw [hg]; exact Nat.ne_of_gt (blk_lt (g := gb135) (o := .cells #[.int .u64 a0_0, .int .u64 a0_1] 42 (0, 0)) (by (with_reducible repeat (first | refine blk_drewN ?_ _ | refine blk_drew ?_ | refine blk_alloc ?_ _)); exact BK135.out)) : gb136 ≠ gb135)); clear BK135; clear HB; have BK135 := n0_; have HB := n1_; have BK136 := n2_; have GW136 := n3_; have GE136 := n4_; have NB135_136 := n5_; have NB136_135 := n6_; clear n0_ n1_ n2_ n3_ n4_ n5_ n6_; clear hb hbox hg; have hnb6 := NB136_135.out; have hnc6 := NB135_136.out; have hcz7_0 : w5.cell? ⟨gb136, 0, none⟩ = some (.int .u64 0) := (blk_cell BK136.out 0).trans rfl; have hcz7_1 : w5.cell? ⟨gb136, 1, none⟩ = some (.int .u64 0) := (blk_cell BK136.out 1).trans rfl; have hfz7_0 := blk_frozen BK136.out 0; have hfz7_1 := blk_frozen BK136.out 1)); try go_wp2_with (first | ((with_reducible refine gate_dst (N := 2) rfl ?_); refine box_event ?hg (N := 2) ?hd (cs := #[.int .u64 a0_0, .int .u64 a0_1]) (t := 42) ?hr ?_; (case hd => rfl); (case hg => rfl); (case hr => first | (go_simp; done) | (go_simp; rfl)); intro gb135 hg w4 hbox hb; have n0_ := Aside0.mk (below_step (by repeat (first | (with_reducible first | exact HB.out | apply below_alloc | apply pw_below_drewN | apply below_drew1) | exact HB.out)) hb); have n1_ := Aside0.mk (hbox); have n2_ := Aside0.mk ((by rw [hg]; exact (below_size (by repeat (first | (with_reducible first | exact HB.out | apply below_alloc | apply pw_below_drewN | apply below_drew1) | exact HB.out))) : w.heap.size ≤ gb135)); have n3_ := Aside0.mk ((by rw [hg]; exact (below_size (by repeat (first | (with_reducible first | exact HB.out | apply below_alloc | apply pw_below_drewN | apply below_drew1) | exact HB.out))) : w.heap.size ≤ gb135)); clear HB; have HB := n0_; have BK135 := n1_; have GW135 := n2_; have GE135 := n3_; clear n0_ n1_ n2_ n3_; clear hb hbox hg) | ((with_reducible refine gate_dst (N := 4) rfl ?_); refine box_event ?hg (N := 4) ?hd (cs := #[.int .u64 0, .int .u64 0]) (t := 42) ?hr ?_; (case hd => rfl); (case hg => rfl); (case hr => first | (go_simp; done) | (go_simp; rfl)); intro gb136 hg w5 hbox hb; have n0_ := Aside0.mk (blk_below (g := gb135) (o := .cells #[.int .u64 a0_0, .int .u64 a0_1] 42 (0, 0)) (by (with_reducible repeat (first | refine blk_drewN ?_ _ | refine blk_drew ?_ | refine blk_alloc ?_ _)); exact BK135.out) hb); have n1_ := Aside0.mk (below_step (by repeat (first | (with_reducible first | exact HB.out | apply below_alloc | apply pw_below_drewN | apply below_drew1 | refine below_set ?_ GE135.out) | exact HB.out)) hb); have n2_ := Aside0.mk (hbox); have n3_ := Aside0.mk ((by rw [hg]; exact (below_size (by repeat (first | (with_reducible first | exact HB.out | apply below_alloc | apply pw_below_drewN | apply below_drew1 | refine below_set ?_ GE135.out) | exact HB.out))) : w.heap.size ≤ gb136)); have n4_ := Aside0.mk ((by rw [hg]; exact (below_size (by repeat (first | (with_reducible first | exact HB.out | apply below_alloc | apply pw_below_drewN | apply below_drew1 | refine below_set ?_ GE135.out) | exact HB.out))) : w.heap.size ≤ gb136)); have n5_ := Aside0.mk ((by rw [hg]; exact Nat.ne_of_lt (blk_lt (g := gb135) (o := .cells #[.int .u64 a0_0, .int .u64 a0_1] 42 (0, 0)) (by (with_reducible repeat (first | refine blk_drewN ?_ _ | refine blk_drew ?_ | refine blk_alloc ?_ _)); exact BK135.out)) : gb135 ≠ gb136)); have n6_ := Aside0.mk ((by rw [hg]; exact Nat.ne_of_gt (blk_lt (g := gb135) (o := .cells #[.int .u64 a0_0, .int .u64 a0_1] 42 (0, 0)) (by (with_reducible repeat (first | refine blk_drewN ?_ _ | refine blk_drew ?_ | refine blk_alloc ?_ _)); exact BK135.out)) : gb136 ≠ gb135)); clear BK135; clear HB; have BK135 := n0_; have HB := n1_; have BK136 := n2_; have GW136 := n3_; have GE136 := n4_; have NB135_136 := n5_; have NB136_135 := n6_; clear n0_ n1_ n2_ n3_ n4_ n5_ n6_; clear hb hbox hg; have hnb6 := NB136_135.out; have hnc6 := NB135_136.out; have hcz7_0 : w5.cell? ⟨gb136, 0, none⟩ = some (.int .u64 0) := (blk_cell BK136.out 0).trans rfl; have hcz7_1 : w5.cell? ⟨gb136, 1, none⟩ = some (.int .u64 0) := (blk_cell BK136.out 1).trans rfl; have hfz7_0 := blk_frozen BK136.out 0; have hfz7_1 := blk_frozen BK136.out 1)))
    refine bodyPost_ret (results_ctt rfl _ _ gb136 42 #[.int .u64 0, .int .u64 0] (0, 0) _ rfl (by (with_reducible repeat (first | refine blk_drewN ?_ _ | refine blk_drew ?_ | refine blk_alloc ?_ _)); refine blk_put (cs := #[.int .u64 0, .int .u64 0]) ?_ 1 _ rfl; (with_reducible repeat (first | refine blk_drewN ?_ _ | refine blk_drew ?_ | refine blk_alloc ?_ _)); refine blk_put (cs := #[.int .u64 0, .int .u64 0]) ?_ 0 _ rfl; (with_reducible repeat (first | refine blk_drewN ?_ _ | refine blk_drew ?_ | refine blk_alloc ?_ _)); exact BK136.out) Tryd.underlying42 rfl (by kernel_rfl)) rfl ?_
    exact ⟨by first | rfl | (simp [errW_none, errW_some] <;> rfl) | (simp [*, errW_none, errW_some] <;> rfl), by repeat (first | (with_reducible first | exact HB.out | apply below_alloc | apply pw_below_drewN | apply below_drew1 | refine below_set ?_ GE135.out | refine below_set ?_ GE136.out) | exact HB.out)⟩
  · rw [if_neg c3] at H
    have c3b0 : (a1 == 0) = false := beq_eq_false_iff_ne.mpr c3
    have c3b1 : (a1 != 0) = true := bne_iff_ne.mpr c3
    replace H := Option.bind_eq_some_iff.mp H
    obtain ⟨⟨t137, t138⟩, A80, H⟩ := H
    replace H : (some (IntKind.u64.wrap (Int.tdiv a0_0 a1), t137, t138, 0)) = some (r1, r2, r3, r4) := H
    have A8 := Aside0.mk A80
    clear A80
    simp only [Option.some.injEq, Prod.mk.injEq] at H
    obtain ⟨rfl, rfl, rfl, rfl⟩ := H
    go_enter Tryd.func132, Tryd.ntmps132
    go_wp2_with (first | ((with_reducible refine gate_dst (N := 2) rfl ?_); refine box_event ?hg (N := 2) ?hd (cs := #[.int .u64 a0_0, .int .u64 a0_1]) (t := 42) ?hr ?_; (case hd => rfl); (case hg => rfl); (case hr => first | (go_simp; done) | (go_simp; rfl)); intro gb135 hg w9 hbox hb; have n0_ := Aside0.mk (below_step (by repeat (first | (with_reducible first | exact HB.out | apply below_alloc | apply pw_below_drewN | apply below_drew1) | exact HB.out)) hb); have n1_ := Aside0.mk (hbox); have n2_ := Aside0.mk ((by rw [hg]; exact (below_size (by repeat (first | (with_reducible first | exact HB.out | apply below_alloc | apply pw_below_drewN | apply below_drew1) | exact HB.out))) : w.heap.size ≤ gb135)); have n3_ := Aside0.mk ((by rw [hg]; exact (below_size (by repeat (first | (with_reducible first | exact HB.out | apply below_alloc | apply pw_below_drewN | apply below_drew1) | exact HB.out))) : w.heap.size ≤ gb135)); clear HB; have HB := n0_; have BK135 := n1_; have GW135 := n2_; have GE135 := n3_; clear n0_ n1_ n2_ n3_; clear hb hbox hg) | ((with_reducible refine gate_dst (N := 4) rfl ?_); refine box_event ?hg (N := 4) ?hd (cs := #[.int .u64 0, .int .u64 0]) (t := 42) ?hr ?_; (case hd => rfl); (case hg => rfl); (case hr => first | (go_simp; done) | (go_simp; rfl)); intro gb136 hg w10 hbox hb; have n0_ := Aside0.mk (blk_below (g := gb135) (o := .cells #[.int .u64 a0_0, .int .u64 a0_1] 42 (0, 0)) (by (with_reducible repeat (first | refine blk_drewN ?_ _ | refine blk_drew ?_ | refine blk_alloc ?_ _)); exact BK135.out) hb); have n1_ := Aside0.mk (below_step (by repeat (first | (with_reducible first | exact HB.out | apply below_alloc | apply pw_below_drewN | apply below_drew1 | refine below_set ?_ GE135.out) | exact HB.out)) hb); have n2_ := Aside0.mk (hbox); have n3_ := Aside0.mk ((by rw [hg]; exact (below_size (by repeat (first | (with_reducible first | exact HB.out | apply below_alloc | apply pw_below_drewN | apply below_drew1 | refine below_set ?_ GE135.out) | exact HB.out))) : w.heap.size ≤ gb136)); have n4_ := Aside0.mk ((by rw [hg]; exact (below_size (by repeat (first | (with_reducible first | exact HB.out | apply below_alloc | apply pw_below_drewN | apply below_drew1 | refine below_set ?_ GE135.out) | exact HB.out))) : w.heap.size ≤ gb136)); have n5_ := Aside0.mk ((by rw [hg]; exact Nat.ne_of_lt (blk_lt (g := gb135) (o := .cells #[.int .u64 a0_0, .int .u64 a0_1] 42 (0, 0)) (by (with_reducible repeat (first | refine blk_drewN ?_ _ | refine blk_drew ?_ | refine blk_alloc ?_ _)); exact BK135.out)) : gb135 ≠ gb136)); have n6_ := Aside0.mk ((by rw [hg]; exact Nat.ne_of_gt (blk_lt (g := gb135) (o := .cells #[.int .u64 a0_0, .int .u64 a0_1] 42 (0, 0)) (by (with_reducible repeat (first | refine blk_drewN ?_ _ | refine blk_drew ?_ | refine blk_alloc ?_ _)); exact BK135.out)) : gb136 ≠ gb135)); clear BK135; clear HB; have BK135 := n0_; have HB := n1_; have BK136 := n2_; have GW136 := n3_; have GE136 := n4_; have NB135_136 := n5_; have NB136_135 := n6_; clear n0_ n1_ n2_ n3_ n4_ n5_ n6_; clear hb hbox hg; have hnb11 := NB135_136.out; have hnc11 := NB136_135.out; have hcz12_0 : w10.cell? ⟨gb135, 0, none⟩ = some (.int .u64 a0_0) := (blk_cell BK135.out 0).trans rfl; have hcz12_1 : w10.cell? ⟨gb135, 1, none⟩ = some (.int .u64 a0_1) := (blk_cell BK135.out 1).trans rfl; have hfz12_0 := blk_frozen BK135.out 0; have hfz12_1 := blk_frozen BK135.out 1) | (go_at_call 142; (with_reducible refine (bits_Div64.calls k (Int.tmod a0_0 a1) a0_1 a1 t137 t138 _ A8.out).mono ?_); rintro e w' ⟨rfl, ⟨nd, rfl⟩⟩; (try first | exact ⟨rfl, _, World.drewN_drewN _ _ _⟩ | exact ⟨rfl, _, Eq.trans (World.drewN_drewN _ _ _) (congrArg (World.drewN _) (Nat.add_assoc _ _ _))⟩); have hcz13_0 : w10.cell? ⟨gb136, 0, none⟩ = some (.int .u64 0) := (blk_cell BK136.out 0).trans rfl; have hcz13_1 : w10.cell? ⟨gb136, 1, none⟩ = some (.int .u64 0) := (blk_cell BK136.out 1).trans rfl; have hfz13_0 := blk_frozen BK136.out 0; have hfz13_1 := blk_frozen BK136.out 1))
    repeat (go_quiet (first | ((with_reducible refine gate_dst (N := 2) rfl ?_); refine box_event ?hg (N := 2) ?hd (cs := #[.int .u64 a0_0, .int .u64 a0_1]) (t := 42) ?hr ?_; (case hd => rfl); (case hg => rfl); (case hr => first | (go_simp; done) | (go_simp; rfl)); intro gb135 hg w9 hbox hb; have n0_ := Aside0.mk (below_step (by repeat (first | (with_reducible first | exact HB.out | apply below_alloc | apply pw_below_drewN | apply below_drew1) | exact HB.out)) hb); have n1_ := Aside0.mk (hbox); have n2_ := Aside0.mk ((by rw [hg]; exact (below_size (by repeat (first | (with_reducible first | exact HB.out | apply below_alloc | apply pw_below_drewN | apply below_drew1) | exact HB.out))) : w.heap.size ≤ gb135)); have n3_ := Aside0.mk ((by rw [hg]; exact (below_size (by repeat (first | (with_reducible first | exact HB.out | apply below_alloc | apply pw_below_drewN | apply below_drew1) | exact HB.out))) : w.heap.size ≤ gb135)); clear HB; have HB := n0_; have BK135 := n1_; have GW135 := n2_; have GE135 := n3_; clear n0_ n1_ n2_ n3_; clear hb hbox hg) | ((with_reducible refine gate_dst (N := 4) rfl ?_); refine box_event ?hg (N := 4) ?hd (cs := #[.int .u64 0, .int .u64 0]) (t := 42) ?hr ?_; (case hd => rfl); (case hg => rfl); (case hr => first | (go_simp; done) | (go_simp; rfl)); intro gb136 hg w10 hbox hb; have n0_ := Aside0.mk (blk_below (g := gb135) (o := .cells #[.int .u64 a0_0, .int .u64 a0_1] 42 (0, 0)) (by (with_reducible repeat (first | refine blk_drewN ?_ _ | refine blk_drew ?_ | refine blk_alloc ?_ _)); exact BK135.out) hb); have n1_ := Aside0.mk (below_step (by repeat (first | (with_reducible first | exact HB.out | apply below_alloc | apply pw_below_drewN | apply below_drew1 | refine below_set ?_ GE135.out) | exact HB.out)) hb); have n2_ := Aside0.mk (hbox); have n3_ := Aside0.mk ((by rw [hg]; exact (below_size (by repeat (first | (with_reducible first | exact HB.out | apply below_alloc | apply pw_below_drewN | apply below_drew1 | refine below_set ?_ GE135.out) | exact HB.out))) : w.heap.size ≤ gb136)); have n4_ := Aside0.mk ((by rw [hg]; exact (below_size (by repeat (first | (with_reducible first | exact HB.out | apply below_alloc | apply pw_below_drewN | apply below_drew1 | refine below_set ?_ GE135.out) | exact HB.out))) : w.heap.size ≤ gb136)); have n5_ := Aside0.mk ((by rw [hg]; exact Nat.ne_of_lt (blk_lt (g := gb135) (o := .cells #[.int .u64 a0_0, .int .u64 a0_1] 42 (0, 0)) (by (with_reducible repeat (first | refine blk_drewN ?_ _ | refine blk_drew ?_ | refine blk_alloc ?_ _)); exact BK135.out)) : gb135 ≠ gb136)); have n6_ := Aside0.mk ((by rw [hg]; exact Nat.ne_of_gt (blk_lt (g := gb135) (o := .cells #[.int .u64 a0_0, .int .u64 a0_1] 42 (0, 0)) (by (with_reducible repeat (first | refine blk_drewN ?_ _ | refine blk_drew ?_ | refine blk_alloc ?_ _)); exact BK135.out)) : gb136 ≠ gb135)); clear BK135; clear HB; have BK135 := n0_; have HB := n1_; have BK136 := n2_; have GW136 := n3_; have GE136 := n4_; have NB135_136 := n5_; have NB136_135 := n6_; clear n0_ n1_ n2_ n3_ n4_ n5_ n6_; clear hb hbox hg; have hnb11 := NB135_136.out; have hnc11 := NB136_135.out; have hcz12_0 : w10.cell? ⟨gb135, 0, none⟩ = some (.int .u64 a0_0) := (blk_cell BK135.out 0).trans rfl; have hcz12_1 : w10.cell? ⟨gb135, 1, none⟩ = some (.int .u64 a0_1) := (blk_cell BK135.out 1).trans rfl; have hfz12_0 := blk_frozen BK135.out 0; have hfz12_1 := blk_frozen BK135.out 1) | (go_at_call 142; (with_reducible refine (bits_Div64.calls k (Int.tmod a0_0 a1) a0_1 a1 t137 t138 _ A8.out).mono ?_); rintro e w' ⟨rfl, ⟨nd, rfl⟩⟩; (try first | exact ⟨rfl, _, World.drewN_drewN _ _ _⟩ | exact ⟨rfl, _, Eq.trans (World.drewN_drewN _ _ _) (congrArg (World.drewN _) (Nat.add_assoc _ _ _))⟩); have hcz13_0 : w10.cell? ⟨gb136, 0, none⟩ = some (.int .u64 0) := (blk_cell BK136.out 0).trans rfl; have hcz13_1 : w10.cell? ⟨gb136, 1, none⟩ = some (.int .u64 0) := (blk_cell BK136.out 1).trans rfl; have hfz13_0 := blk_frozen BK136.out 0; have hfz13_1 := blk_frozen BK136.out 1)); try go_wp2_with (first | ((with_reducible refine gate_dst (N := 2) rfl ?_); refine box_event ?hg (N := 2) ?hd (cs := #[.int .u64 a0_0, .int .u64 a0_1]) (t := 42) ?hr ?_; (case hd => rfl); (case hg => rfl); (case hr => first | (go_simp; done) | (go_simp; rfl)); intro gb135 hg w9 hbox hb; have n0_ := Aside0.mk (below_step (by repeat (first | (with_reducible first | exact HB.out | apply below_alloc | apply pw_below_drewN | apply below_drew1) | exact HB.out)) hb); have n1_ := Aside0.mk (hbox); have n2_ := Aside0.mk ((by rw [hg]; exact (below_size (by repeat (first | (with_reducible first | exact HB.out | apply below_alloc | apply pw_below_drewN | apply below_drew1) | exact HB.out))) : w.heap.size ≤ gb135)); have n3_ := Aside0.mk ((by rw [hg]; exact (below_size (by repeat (first | (with_reducible first | exact HB.out | apply below_alloc | apply pw_below_drewN | apply below_drew1) | exact HB.out))) : w.heap.size ≤ gb135)); clear HB; have HB := n0_; have BK135 := n1_; have GW135 := n2_; have GE135 := n3_; clear n0_ n1_ n2_ n3_; clear hb hbox hg) | ((with_reducible refine gate_dst (N := 4) rfl ?_); refine box_event ?hg (N := 4) ?hd (cs := #[.int .u64 0, .int .u64 0]) (t := 42) ?hr ?_; (case hd => rfl); (case hg => rfl); (case hr => first | (go_simp; done) | (go_simp; rfl)); intro gb136 hg w10 hbox hb; have n0_ := Aside0.mk (blk_below (g := gb135) (o := .cells #[.int .u64 a0_0, .int .u64 a0_1] 42 (0, 0)) (by (with_reducible repeat (first | refine blk_drewN ?_ _ | refine blk_drew ?_ | refine blk_alloc ?_ _)); exact BK135.out) hb); have n1_ := Aside0.mk (below_step (by repeat (first | (with_reducible first | exact HB.out | apply below_alloc | apply pw_below_drewN | apply below_drew1 | refine below_set ?_ GE135.out) | exact HB.out)) hb); have n2_ := Aside0.mk (hbox); have n3_ := Aside0.mk ((by rw [hg]; exact (below_size (by repeat (first | (with_reducible first | exact HB.out | apply below_alloc | apply pw_below_drewN | apply below_drew1 | refine below_set ?_ GE135.out) | exact HB.out))) : w.heap.size ≤ gb136)); have n4_ := Aside0.mk ((by rw [hg]; exact (below_size (by repeat (first | (with_reducible first | exact HB.out | apply below_alloc | apply pw_below_drewN | apply below_drew1 | refine below_set ?_ GE135.out) | exact HB.out))) : w.heap.size ≤ gb136)); have n5_ := Aside0.mk ((by rw [hg]; exact Nat.ne_of_lt (blk_lt (g := gb135) (o := .cells #[.int .u64 a0_0, .int .u64 a0_1] 42 (0, 0)) (by (with_reducible repeat (first | refine blk_drewN ?_ _ | refine blk_drew ?_ | refine blk_alloc ?_ _)); exact BK135.out)) : gb135 ≠ gb136)); have n6_ := Aside0.mk ((by rw [hg]; exact Nat.ne_of_gt (blk_lt (g := gb135) (o := .cells #[.int .u64 a0_0, .int .u64 a0_1] 42 (0, 0)) (by (with_reducible repeat (first | refine blk_drewN ?_ _ | refine blk_drew ?_ | refine blk_alloc ?_ _)); exact BK135.out)) : gb136 ≠ gb135)); clear BK135; clear HB; have BK135 := n0_; have HB := n1_; have BK136 := n2_; have GW136 := n3_; have GE136 := n4_; have NB135_136 := n5_; have NB136_135 := n6_; clear n0_ n1_ n2_ n3_ n4_ n5_ n6_; clear hb hbox hg; have hnb11 := NB135_136.out; have hnc11 := NB136_135.out; have hcz12_0 : w10.cell? ⟨gb135, 0, none⟩ = some (.int .u64 a0_0) := (blk_cell BK135.out 0).trans rfl; have hcz12_1 : w10.cell? ⟨gb135, 1, none⟩ = some (.int .u64 a0_1) := (blk_cell BK135.out 1).trans rfl; have hfz12_0 := blk_frozen BK135.out 0; have hfz12_1 := blk_frozen BK135.out 1) | (go_at_call 142; (with_reducible refine (bits_Div64.calls k (Int.tmod a0_0 a1) a0_1 a1 t137 t138 _ A8.out).mono ?_); rintro e w' ⟨rfl, ⟨nd, rfl⟩⟩; (try first | exact ⟨rfl, _, World.drewN_drewN _ _ _⟩ | exact ⟨rfl, _, Eq.trans (World.drewN_drewN _ _ _) (congrArg (World.drewN _) (Nat.add_assoc _ _ _))⟩); have hcz13_0 : w10.cell? ⟨gb136, 0, none⟩ = some (.int .u64 0) := (blk_cell BK136.out 0).trans rfl; have hcz13_1 : w10.cell? ⟨gb136, 1, none⟩ = some (.int .u64 0) := (blk_cell BK136.out 1).trans rfl; have hfz13_0 := blk_frozen BK136.out 0; have hfz13_1 := blk_frozen BK136.out 1)))
    refine bodyPost_ret (results_ctt rfl _ _ gb136 42 #[.int .u64 (IntKind.u64.wrap (Int.tdiv a0_0 a1)), .int .u64 t137] (0, 0) _ rfl (by (with_reducible repeat (first | refine blk_drewN ?_ _ | refine blk_drew ?_ | refine blk_alloc ?_ _)); refine blk_put (cs := #[.int .u64 (IntKind.u64.wrap (Int.tdiv a0_0 a1)), .int .u64 0]) ?_ 1 _ rfl; (with_reducible repeat (first | refine blk_drewN ?_ _ | refine blk_drew ?_ | refine blk_alloc ?_ _)); refine blk_put (cs := #[.int .u64 0, .int .u64 0]) ?_ 0 _ rfl; (with_reducible repeat (first | refine blk_drewN ?_ _ | refine blk_drew ?_ | refine blk_alloc ?_ _)); exact BK136.out) Tryd.underlying42 rfl (by kernel_rfl)) rfl ?_
    exact ⟨by first | rfl | (simp [errW_none, errW_some] <;> rfl) | (simp [*, errW_none, errW_some] <;> rfl), by repeat (first | (with_reducible first | exact HB.out | apply below_alloc | apply pw_below_drewN | apply below_drew1 | refine below_set ?_ GE135.out | refine below_set ?_ GE136.out) | exact HB.out)⟩
def u128_Over.f (a0_0 a0_1 a1 : Int) : Option (Int × Int × Int × Int) :=
  if U64 a0_0 ∧ U64 a0_1 ∧ U64 a1 then
    (if a1 = 0 then some (0, 0, 0, 2) else some (hiOf (val a0_0 a0_1 / a1), loOf (val a0_0 a0_1 / a1), val a0_0 a0_1 % a1, 0))
  else none
theorem over_plan (a b n : Int) (ha : U64 a) (hb : U64 b) (hn : U64 n) (k : Nat) : u128_OverP.f (k + 20) a b n = u128_Over.f a b n := by
  unfold u128_OverP.f u128_Over.f
  rw [if_pos (show U64 a ∧ U64 b ∧ U64 n from ⟨ha, hb, hn⟩)]
  by_cases h : n = 0
  · rw [if_pos h, if_pos h]
  · have hn' := hn
    obtain ⟨n0, n1⟩ := hn
    have hp : 0 < n := by omega
    have r0 := Int.emod_nonneg a h
    have r1 := Int.emod_lt_of_pos a hp
    have hq : a / n ≤ a := Int.ediv_le_self _ ha.1
    have hq0 := Int.ediv_nonneg ha.1 n0
    rw [if_neg h, if_neg h, Int.tmod_eq_emod_of_nonneg ha.1, div64_is (a % n) b n ⟨r0, by omega⟩ hb hn' r1 k, Int.tdiv_eq_ediv_of_nonneg ha.1]
    simp only [Option.bind_some]
    rw [wuu _ hq0 (by have := ha.2; omega)]
    have ea := Int.ediv_mul_add_emod a n
    have e : val a b = (a % n * 18446744073709551616 + b) + a / n * 18446744073709551616 * n := by
      unfold val
      rw [Int.mul_right_comm]
      omega
    have e1 : val a b / n = a / n * 18446744073709551616 + (a % n * 18446744073709551616 + b) / n := by
      rw [e, Int.add_mul_ediv_right _ _ h]
      omega
    have e2 : val a b % n = (a % n * 18446744073709551616 + b) % n := by
      rw [e, Int.add_mul_emod_self_right]
    have l0 := Int.ediv_nonneg (show 0 ≤ a % n * 18446744073709551616 + b by have := hb.1; omega) n0
    have l1 := Int.ediv_lt_of_lt_mul hp (show a % n * 18446744073709551616 + b < 18446744073709551616 * n by have := hb.2; omega)
    rw [e1, e2]
    obtain ⟨x1, x2⟩ := halves (a / n * 18446744073709551616 + (a % n * 18446744073709551616 + b) / n) (a / n) ((a % n * 18446744073709551616 + b) / n) ⟨l0, by omega⟩ rfl
    rw [x1, x2]
theorem u128_Over.calls (a0_0 a0_1 a1 r1 r2 r3 r4 : Int) (w : World) (h : u128_Over.f a0_0 a0_1 a1 = some (r1, r2, r3, r4)) :
    Calls Tryd.prog 132 #[.agg #[.int .u64 a0_0, .int .u64 a0_1], .int .u64 a1] w fun e w' => e = .returned (.tuple #[.agg #[.int .u64 r1, .int .u64 r2], .int .u64 r3, .int .i64 r4]) ∧ Below w.heap.size w w' := by
  have hu : U64 a0_0 ∧ U64 a0_1 ∧ U64 a1 := by
    unfold u128_Over.f at h
    split at h
    · assumption
    · cases h
  exact u128_OverP.calls 20 a0_0 a0_1 a1 r1 r2 r3 r4 w ((over_plan a0_0 a0_1 a1 hu.1 hu.2.1 hu.2.2 0).trans h)
end Go.Proofs.YtpkjpiphjdpegaaDoor.P
namespace Go.Proofs.YtpkjpiphjdpegaaDoor.P
open Go.RowKit Go.Proofs.YtpkjpiphjdpegaaDoorW.PrintWords Go.Proofs.YtpkjpiphjdpegaaDoorW.PrintLast Go.Proofs.YtpkjpiphjdpegaaDoorW.PrintMore
set_option linter.unusedVariables false
set_option linter.unusedSimpArgs false
theorem u_hiOf (n : Int) (h : 0 ≤ n) (h' : n < m128) : U64 (hiOf n) ∧ U64 (loOf n) := by unfold hiOf loOf m128 at *; constructor <;> constructor <;> omega
theorem val_halves (n : Int) : val (hiOf n) (loOf n) = n := by unfold val hiOf loOf; omega
theorem val_range (a b : Int) (ha : U64 a) (hb : U64 b) : 0 ≤ val a b ∧ val a b < m128 := by
  obtain ⟨a0, a1⟩ := ha
  obtain ⟨b0, b1⟩ := hb
  unfold val m128; omega
end Go.Proofs.YtpkjpiphjdpegaaDoor.P
namespace Go.Proofs.YtpkjpiphjdpegaaDoor.P
open Go.RowKit Go.Proofs.YtpkjpiphjdpegaaDoorW.PrintWords Go.Proofs.YtpkjpiphjdpegaaDoorW.PrintLast Go.Proofs.YtpkjpiphjdpegaaDoorW.PrintMore
set_option linter.unusedVariables false
set_option linter.unusedSimpArgs false
theorem over_num (a b n : Int) (ha : U64 a) (hb : U64 b) (hn : U64 n) (h : n ≠ 0) :
    u128_Over.f a b n = some (hiOf (val a b / n), loOf (val a b / n), val a b % n, 0) := by
  unfold u128_Over.f
  rw [if_pos (show U64 a ∧ U64 b ∧ U64 n from ⟨ha, hb, hn⟩), if_neg h]
end Go.Proofs.YtpkjpiphjdpegaaDoor.P
namespace Go.Proofs.YtpkjpiphjdpegaaDoor.P
open Go.RowKit Go.Proofs.YtpkjpiphjdpegaaDoorW.PrintWords Go.Proofs.YtpkjpiphjdpegaaDoorW.PrintLast Go.Proofs.YtpkjpiphjdpegaaDoorW.PrintMore
set_option linter.unusedVariables false
set_option linter.unusedSimpArgs false
def asc (l : List Int) : List Int := l.map (· + 48)
def dec (n : Int) : List Int := decF 38 n
theorem m39 : m128 ≤ 10 ^ 39 := by unfold m128; decide
theorem dec_facts (n : Int) (h0 : 0 ≤ n) (h1 : n < m128) : valD (dec n) = n ∧ Dig (dec n) ∧ 1 ≤ (dec n).length ∧ (dec n).length ≤ 39 := by
  have := m39
  exact ⟨dec_val 38 n, dec_dig 38 n h0 (by omega), (dec_len 38 n).1, (dec_len 38 n).2⟩
def decimal_Text.f (a0_0 a0_1 : Int) : Option ByteArray := if U64 a0_0 ∧ U64 a0_1 then some (strOfNums (asc (dec (val a0_0 a0_1)))) else none
theorem text_num (a b : Int) (ha : U64 a) (hb : U64 b) : decimal_Text.f a b = some (strOfNums (asc (dec (val a b)))) := if_pos ⟨ha, hb⟩
end Go.Proofs.YtpkjpiphjdpegaaDoor.P
namespace Go.Proofs.YtpkjpiphjdpegaaDoor.P
open Go.RowKit Go.Proofs.YtpkjpiphjdpegaaDoorW.PrintWords Go.Proofs.YtpkjpiphjdpegaaDoorW.PrintLast Go.Proofs.YtpkjpiphjdpegaaDoorW.PrintMore
set_option linter.unusedVariables false
set_option linter.unusedSimpArgs false
theorem over_calls (x y n : Int) (ha : U64 x) (hb : U64 y) (hn : U64 n) (h : n ≠ 0) (w : World) :
    Calls Tryd.prog 132 #[.agg #[.int .u64 x, .int .u64 y], .int .u64 n] w fun e w' => e = .returned (.tuple #[.agg #[.int .u64 (hiOf (val x y / n)), .int .u64 (loOf (val x y / n))], .int .u64 (val x y % n), .int .i64 0]) ∧ Below w.heap.size w w' :=
  u128_Over.calls x y n _ _ _ _ w (over_num x y n ha hb hn h)
theorem u_unit : U64 10000000000000000000 := ⟨by omega, by omega⟩
theorem set_nums (L : List Int) (i : Nat) (v : Int) : (nums .u8 L).toArray.setIfInBounds i (.int .u8 v) = (nums .u8 (L.set i v)).toArray := by
  apply Array.ext'
  rw [Array.toList_setIfInBounds]
  simp [nums, List.map_set]
theorem cell_nums (L : List Int) (i : Nat) (h : i < L.length) : (nums .u8 L).toArray[i]? = some (.int .u8 (L.getD i 0)) := by
  simp [nums, List.getElem?_eq_getElem h, List.getD_eq_getElem?_getD]
theorem dig_put (V : Int) (L : List Int) (at_ : Nat) (h39 : at_ < 39) (hl : L.length = 39) (D : ∀ i : Nat, i < 39 → ((at_ + 1 : Nat) : Int) ≤ i → L.getD i 0 = V / 10 ^ (38 - i) % 10) (v : Int) (hv : v = V / 10 ^ (38 - at_) % 10) :
    ∀ i : Nat, i < 39 → (at_ : Int) ≤ i → (L.set at_ v).getD i 0 = V / 10 ^ (38 - i) % 10 := by
  intro i h1 h2
  rw [List.getD_eq_getElem?_getD, List.getElem?_set]
  by_cases c : at_ = i
  · subst c
    rw [if_pos rfl, if_pos (by omega), Option.getD_some, hv]
  · rw [if_neg c, ← List.getD_eq_getElem?_getD]
    exact D i h1 (by omega)
set_option maxHeartbeats 4000000 in
set_option maxRecDepth 100000 in
theorem decimal_digits_calls (a b : Int) (ha : U64 a) (hb : U64 b) (w : World) :
    Calls Tryd.prog 115 #[.agg #[.int .u64 a, .int .u64 b]] w fun e w' => ∃ (g s : Nat) (L : List Int), e = .returned (.slice (some ⟨g, s, none⟩) (dec (val a b)).length (dec (val a b)).length) ∧ w'.heap[g]? = some (.cells (nums .u8 L).toArray 179 (0, 0)) ∧ w.heap.size ≤ g ∧ L.length = 39 ∧ s + (dec (val a b)).length = 39 ∧ L.drop s = dec (val a b) ∧ Below w.heap.size w w' := by
  obtain ⟨V0, V1⟩ := val_range a b ha hb
  go_enter Tryd.func115, Tryd.ntmps115
  go_wp2
  go_loopg [4] 4 (fun g v4 w' => ∃ (at_ : Int) (x y : Int) (L : List Int), v4 = .int .i64 at_ ∧ Aside0 ((at_ = 39 ∧ 3 ≤ g) ∨ (at_ = 20 ∧ 2 ≤ g) ∨ (at_ = 1 ∧ 1 ≤ g) ∨ at_ = 0) ∧ Aside0 (U64 x ∧ U64 y ∧ val x y = val a b / 10 ^ (39 - at_.toNat)) ∧ Aside0 (L.length = 39) ∧ Aside0 (∀ i : Nat, i < 39 → at_ ≤ i → L.getD i 0 = val a b / 10 ^ (38 - i) % 10) ∧ Aside0 (w'.heap[w.heap.size]? = some (.cells #[.int .u64 x, .int .u64 y] 42 (0, 0))) ∧ Aside0 (w'.heap[w.heap.size + 1]? = some (.cells (nums .u8 L).toArray 179 (0, 0))) ∧ Aside0 (Below w.heap.size w w'))
  case atStart =>
    refine ⟨39, a, b, List.replicate 39 0, rfl, ⟨.inl ⟨rfl, by omega⟩⟩, ⟨ha, hb, ?_⟩, ⟨rfl⟩, ⟨?_⟩, ⟨?_⟩, ⟨?_⟩, ⟨?_⟩⟩
    · show val a b = val a b / 10 ^ 0
      rw [Int.pow_zero, Int.ediv_one]
    · intro i h1 h2; omega
    · refine blk_alloc (blk_new w _) _
    · have e := blk_new (w.alloc (.cells #[.int .u64 a, .int .u64 b] 42)) (.cells (nums .u8 (List.replicate 39 0)).toArray 179)
      rw [World.size_alloc] at e
      exact e
    · exact below_alloc (below_alloc (Below.refl _ _) _) _
  case round =>
    obtain ⟨at_, x, y, L, rfl, C, V, hL, D, B0, B1, HB⟩ := hrel
    have cz0 : wr.cell? ⟨w.heap.size, 0, none⟩ = some (.int .u64 x) := (blk_cell B0.out 0).trans rfl
    have cz1 : wr.cell? ⟨w.heap.size, 1, none⟩ = some (.int .u64 y) := (blk_cell B0.out 1).trans rfl
    rcases C.out with ⟨rfl, c⟩ | ⟨rfl, c⟩ | ⟨rfl, c⟩ | rfl
    · clear C
      obtain ⟨go_, rfl⟩ : ∃ g, gk = g + 1 := ⟨gk - 1, by omega⟩
      go_wp2_with (first | (go_at_call 132; (with_reducible refine (over_calls x y 10000000000000000000 V.out.1 V.out.2.1 u_unit (by decide) _).mono ?_); rintro e w' ⟨rfl, hb'⟩))
      have B0' := Aside0.mk (blk_below B0.out hb')
      have B1' := Aside0.mk (blk_below B1.out hb')
      have HB' := Aside0.mk (below_step HB.out hb')
      have lt1 := blk_lt B1'.out
      obtain ⟨g5, h5⟩ : ∃ g, w'.heap.size = g := ⟨_, rfl⟩
      have hn := Aside0.mk (blk_new w' (.cells #[.int .u64 (hiOf (val x y / 10000000000000000000)), .int .u64 (loOf (val x y / 10000000000000000000))] 42))
      have qe : val x y / 10000000000000000000 = val a b / 10 ^ (39 - (20 : Int).toNat) := by
        have e1 := V.out.2.2
        have e2 : (10000000000000000000 : Int) = 10 ^ 19 := rfl
        rw [e1, e2, ← ten_split]
        rfl
      have q0 : 0 ≤ val x y / 10000000000000000000 := by
        have := (val_range x y V.out.1 V.out.2.1).1
        omega
      have q1 : val x y / 10000000000000000000 < m128 := by
        have := (val_range x y V.out.1 V.out.2.1).2
        have := (val_range x y V.out.1 V.out.2.1).1
        omega
      have uq := Aside0.mk (u_hiOf _ q0 q1)
      have re : ∀ j : Nat, j < 19 → val x y % 10000000000000000000 / 10 ^ j % 10 = val a b / 10 ^ (39 - (39 : Int).toNat + j) % 10 := by
        intro j hj
        have e2 : (10000000000000000000 : Int) = 10 ^ 19 := rfl
        rw [e2, dig_rest _ (val_range x y V.out.1 V.out.2.1).1 j hj, V.out.2.2, ← ten_split]
      have r0 : 0 ≤ val x y % 10000000000000000000 := by omega
      have r1 : val x y % 10000000000000000000 < 10000000000000000000 := by omega
      have RE := Aside0.mk re
      have QE := Aside0.mk ((val_halves _).trans qe)
      clear re qe q0 q1
      rw [h5] at hn lt1
      generalize hiOf (val x y / 10000000000000000000) = qh at *
      generalize loOf (val x y / 10000000000000000000) = ql at *
      generalize val x y % 10000000000000000000 = R at *
      have B0'' := Aside0.mk (blk_alloc B0'.out (.cells #[.int .u64 qh, .int .u64 ql] 42))
      have B1'' := Aside0.mk (blk_alloc B1'.out (.cells #[.int .u64 qh, .int .u64 ql] 42))
      have HB'' := Aside0.mk (below_alloc HB'.out (.cells #[.int .u64 qh, .int .u64 ql] 42))
      generalize hW : w'.alloc (.cells #[.int .u64 qh, .int .u64 ql] 42) = W at *
      simp only [h5]
      clear hb' B0 B1 HB B0' B1' HB' hW h5 cz0 cz1
      go_loopg [4, 6, 19] 20 (fun g v4 v6 v19 W => ∃ (j : Nat) (L : List Int), v4 = .int .i64 (39 - (j : Int)) ∧ v6 = .int .u64 (R / 10 ^ j) ∧ v19 = .int .i64 (j : Int) ∧ Aside0 (j ≤ 19 ∧ 19 ≤ j + g) ∧ Aside0 (L.length = 39) ∧ Aside0 (∀ i : Nat, i < 39 → 39 - (j : Int) ≤ i → L.getD i 0 = val a b / 10 ^ (38 - i) % 10) ∧ Aside0 (W.heap[w.heap.size]? = some (.cells #[.int .u64 x, .int .u64 y] 42 (0, 0))) ∧ Aside0 (W.heap[w.heap.size + 1]? = some (.cells (nums .u8 L).toArray 179 (0, 0))) ∧ Aside0 (W.heap[g5]? = some (.cells #[.int .u64 qh, .int .u64 ql] 42 (0, 0))) ∧ Aside0 (Below w.heap.size w W))
      case atStart =>
        refine ⟨0, L, by simp, by simp, rfl, ⟨by omega, by omega⟩, hL, ⟨?_⟩, B0'', B1'', hn, HB''⟩
        intro i h1 h2
        exact D.out i h1 (by simpa using h2)
      case round =>
        obtain ⟨j, L, rfl, rfl, rfl, J, hL, D, B0, B1, B5, HB⟩ := hrel
        by_cases c2 : j < 19
        · have c2b : decide ((j : Int) < 19) = true := decide_eq_true (by omega)
          have wj : wrap64 (39 - (j : Int) - 1) = ((39 - j - 1 : Nat) : Int) := by rw [wi _ (by omega) (by omega)]; omega
          have p0 : 0 ≤ R / 10 ^ j := Int.ediv_nonneg r0 (Int.le_of_lt (ten_pos j))
          have p1 : R / 10 ^ j ≤ R := Int.ediv_le_self _ r0
          have t10 : Int.tmod (R / 10 ^ j) 10 = R / 10 ^ j % 10 := Int.tmod_eq_emod_of_nonneg p0
          have d10 : Int.tdiv (R / 10 ^ j) 10 = R / 10 ^ (j + 1) := by rw [Int.tdiv_eq_ediv_of_nonneg p0, ten_split]; rfl
          have fz := blk_frozen B1.out (39 - j - 1)
          have cz := (blk_cell B1.out (39 - j - 1)).trans (cell_nums L _ (by rw [hL.out]; omega))
          have wq : IntKind.u64.wrap (R / 10 ^ (j + 1)) = R / 10 ^ (j + 1) := by
            rw [← d10, Int.tdiv_eq_ediv_of_nonneg p0]
            exact wu _ (by omega) (by omega)
          obtain ⟨gi, rfl⟩ : ∃ g, gk = g + 1 := ⟨gk - 1, by have := J.out; omega⟩
          go_wp2
          go_roundg gi
          case measure => omega
          case rel =>
            refine ⟨j + 1, L.set (39 - j - 1) (R / 10 ^ j % 10), ?_, rfl, ?_, ⟨?_⟩, ⟨?_⟩, ⟨?_⟩, ⟨?_⟩, ⟨?_⟩, ⟨?_⟩, ⟨?_⟩⟩
            · rw [show (39 : Int) - ((j + 1 : Nat) : Int) = 39 - (j : Int) - 1 from by omega]
            · rw [show ((j + 1 : Nat) : Int) = (j : Int) + 1 from by omega]
            · have := J.out; omega
            · rw [List.length_set]; exact hL.out
            · have := dig_put (val a b) L (39 - j - 1) (by omega) hL.out (fun i h1 h2 => D.out i h1 (by omega)) (R / 10 ^ j % 10) (by rw [RE.out j (by omega)]; congr 3; show (_ : Nat) = _; simp; omega)
              intro i h1 h2
              exact this i h1 (by omega)
            · exact blk_far B0.out (by show w.heap.size ≠ w.heap.size + 1; omega) _
            · exact blk_put B1.out _ _ (set_nums ..)
            · exact blk_far B5.out (by show g5 ≠ w.heap.size + 1; omega) _
            · exact below_set HB.out (by omega)
        · have c2b : decide ((j : Int) < 19) = false := decide_eq_false (by omega)
          obtain rfl : j = 19 := by have := J.out; omega
          have cy0 : wr.cell? ⟨g5, 0, none⟩ = some (.int .u64 qh) := (blk_cell B5.out 0).trans rfl
          have cy1 : wr.cell? ⟨g5, 1, none⟩ = some (.int .u64 ql) := (blk_cell B5.out 1).trans rfl
          have cz0 : wr.cell? ⟨w.heap.size, 0, none⟩ = some (.int .u64 x) := (blk_cell B0.out 0).trans rfl
          have cz1 : wr.cell? ⟨w.heap.size, 1, none⟩ = some (.int .u64 y) := (blk_cell B0.out 1).trans rfl
          have fz0 := blk_frozen B0.out 0
          have fz1 := blk_frozen B0.out 1
          go_wp2
          go_roundg go_
          case measure => omega
          case rel =>
            refine ⟨20, qh, ql, L, rfl, ⟨?_⟩, ⟨uq.out.1, uq.out.2, QE.out⟩, hL, ⟨?_⟩, ⟨?_⟩, ⟨?_⟩, ⟨?_⟩⟩
            · omega
            · intro i h1 h2
              exact D.out i h1 (by omega)
            · exact blk_put (blk_put B0.out 0 _ rfl) 1 _ rfl
            · exact blk_far (blk_far B1.out (by show w.heap.size + 1 ≠ w.heap.size; omega) _) (by show w.heap.size + 1 ≠ w.heap.size; omega) _
            · exact below_set (below_set HB.out (Nat.le_refl _)) (Nat.le_refl _)
    · clear C
      obtain ⟨go_, rfl⟩ : ∃ g, gk = g + 1 := ⟨gk - 1, by omega⟩
      go_wp2_with (first | (go_at_call 132; (with_reducible refine (over_calls x y 10000000000000000000 V.out.1 V.out.2.1 u_unit (by decide) _).mono ?_); rintro e w' ⟨rfl, hb'⟩))
      have B0' := Aside0.mk (blk_below B0.out hb')
      have B1' := Aside0.mk (blk_below B1.out hb')
      have HB' := Aside0.mk (below_step HB.out hb')
      have lt1 := blk_lt B1'.out
      obtain ⟨g5, h5⟩ : ∃ g, w'.heap.size = g := ⟨_, rfl⟩
      have hn := Aside0.mk (blk_new w' (.cells #[.int .u64 (hiOf (val x y / 10000000000000000000)), .int .u64 (loOf (val x y / 10000000000000000000))] 42))
      have qe : val x y / 10000000000000000000 = val a b / 10 ^ (39 - (1 : Int).toNat) := by
        have e1 := V.out.2.2
        have e2 : (10000000000000000000 : Int) = 10 ^ 19 := rfl
        rw [e1, e2, ← ten_split]
        rfl
      have q0 : 0 ≤ val x y / 10000000000000000000 := by
        have := (val_range x y V.out.1 V.out.2.1).1
        omega
      have q1 : val x y / 10000000000000000000 < m128 := by
        have := (val_range x y V.out.1 V.out.2.1).2
        have := (val_range x y V.out.1 V.out.2.1).1
        omega
      have uq := Aside0.mk (u_hiOf _ q0 q1)
      have re : ∀ j : Nat, j < 19 → val x y % 10000000000000000000 / 10 ^ j % 10 = val a b / 10 ^ (39 - (20 : Int).toNat + j) % 10 := by
        intro j hj
        have e2 : (10000000000000000000 : Int) = 10 ^ 19 := rfl
        rw [e2, dig_rest _ (val_range x y V.out.1 V.out.2.1).1 j hj, V.out.2.2, ← ten_split]
      have r0 : 0 ≤ val x y % 10000000000000000000 := by omega
      have r1 : val x y % 10000000000000000000 < 10000000000000000000 := by omega
      have RE := Aside0.mk re
      have QE := Aside0.mk ((val_halves _).trans qe)
      clear re qe q0 q1
      rw [h5] at hn lt1
      generalize hiOf (val x y / 10000000000000000000) = qh at *
      generalize loOf (val x y / 10000000000000000000) = ql at *
      generalize val x y % 10000000000000000000 = R at *
      have B0'' := Aside0.mk (blk_alloc B0'.out (.cells #[.int .u64 qh, .int .u64 ql] 42))
      have B1'' := Aside0.mk (blk_alloc B1'.out (.cells #[.int .u64 qh, .int .u64 ql] 42))
      have HB'' := Aside0.mk (below_alloc HB'.out (.cells #[.int .u64 qh, .int .u64 ql] 42))
      generalize hW : w'.alloc (.cells #[.int .u64 qh, .int .u64 ql] 42) = W at *
      simp only [h5]
      clear hb' B0 B1 HB B0' B1' HB' hW h5 cz0 cz1
      go_loopg [4, 6, 19] 20 (fun g v4 v6 v19 W => ∃ (j : Nat) (L : List Int), v4 = .int .i64 (20 - (j : Int)) ∧ v6 = .int .u64 (R / 10 ^ j) ∧ v19 = .int .i64 (j : Int) ∧ Aside0 (j ≤ 19 ∧ 19 ≤ j + g) ∧ Aside0 (L.length = 39) ∧ Aside0 (∀ i : Nat, i < 39 → 20 - (j : Int) ≤ i → L.getD i 0 = val a b / 10 ^ (38 - i) % 10) ∧ Aside0 (W.heap[w.heap.size]? = some (.cells #[.int .u64 x, .int .u64 y] 42 (0, 0))) ∧ Aside0 (W.heap[w.heap.size + 1]? = some (.cells (nums .u8 L).toArray 179 (0, 0))) ∧ Aside0 (W.heap[g5]? = some (.cells #[.int .u64 qh, .int .u64 ql] 42 (0, 0))) ∧ Aside0 (Below w.heap.size w W))
      case atStart =>
        refine ⟨0, L, by simp, by simp, rfl, ⟨by omega, by omega⟩, hL, ⟨?_⟩, B0'', B1'', hn, HB''⟩
        intro i h1 h2
        exact D.out i h1 (by simpa using h2)
      case round =>
        obtain ⟨j, L, rfl, rfl, rfl, J, hL, D, B0, B1, B5, HB⟩ := hrel
        by_cases c2 : j < 19
        · have c2b : decide ((j : Int) < 19) = true := decide_eq_true (by omega)
          have wj : wrap64 (20 - (j : Int) - 1) = ((20 - j - 1 : Nat) : Int) := by rw [wi _ (by omega) (by omega)]; omega
          have p0 : 0 ≤ R / 10 ^ j := Int.ediv_nonneg r0 (Int.le_of_lt (ten_pos j))
          have p1 : R / 10 ^ j ≤ R := Int.ediv_le_self _ r0
          have t10 : Int.tmod (R / 10 ^ j) 10 = R / 10 ^ j % 10 := Int.tmod_eq_emod_of_nonneg p0
          have d10 : Int.tdiv (R / 10 ^ j) 10 = R / 10 ^ (j + 1) := by rw [Int.tdiv_eq_ediv_of_nonneg p0, ten_split]; rfl
          have fz := blk_frozen B1.out (20 - j - 1)
          have cz := (blk_cell B1.out (20 - j - 1)).trans (cell_nums L _ (by rw [hL.out]; omega))
          have wq : IntKind.u64.wrap (R / 10 ^ (j + 1)) = R / 10 ^ (j + 1) := by
            rw [← d10, Int.tdiv_eq_ediv_of_nonneg p0]
            exact wu _ (by omega) (by omega)
          obtain ⟨gi, rfl⟩ : ∃ g, gk = g + 1 := ⟨gk - 1, by have := J.out; omega⟩
          go_wp2
          go_roundg gi
          case measure => omega
          case rel =>
            refine ⟨j + 1, L.set (20 - j - 1) (R / 10 ^ j % 10), ?_, rfl, ?_, ⟨?_⟩, ⟨?_⟩, ⟨?_⟩, ⟨?_⟩, ⟨?_⟩, ⟨?_⟩, ⟨?_⟩⟩
            · rw [show (20 : Int) - ((j + 1 : Nat) : Int) = 20 - (j : Int) - 1 from by omega]
            · rw [show ((j + 1 : Nat) : Int) = (j : Int) + 1 from by omega]
            · have := J.out; omega
            · rw [List.length_set]; exact hL.out
            · have := dig_put (val a b) L (20 - j - 1) (by omega) hL.out (fun i h1 h2 => D.out i h1 (by omega)) (R / 10 ^ j % 10) (by rw [RE.out j (by omega)]; congr 3; show (_ : Nat) = _; simp; omega)
              intro i h1 h2
              exact this i h1 (by omega)
            · exact blk_far B0.out (by show w.heap.size ≠ w.heap.size + 1; omega) _
            · exact blk_put B1.out _ _ (set_nums ..)
            · exact blk_far B5.out (by show g5 ≠ w.heap.size + 1; omega) _
            · exact below_set HB.out (by omega)
        · have c2b : decide ((j : Int) < 19) = false := decide_eq_false (by omega)
          obtain rfl : j = 19 := by have := J.out; omega
          have cy0 : wr.cell? ⟨g5, 0, none⟩ = some (.int .u64 qh) := (blk_cell B5.out 0).trans rfl
          have cy1 : wr.cell? ⟨g5, 1, none⟩ = some (.int .u64 ql) := (blk_cell B5.out 1).trans rfl
          have cz0 : wr.cell? ⟨w.heap.size, 0, none⟩ = some (.int .u64 x) := (blk_cell B0.out 0).trans rfl
          have cz1 : wr.cell? ⟨w.heap.size, 1, none⟩ = some (.int .u64 y) := (blk_cell B0.out 1).trans rfl
          have fz0 := blk_frozen B0.out 0
          have fz1 := blk_frozen B0.out 1
          go_wp2
          go_roundg go_
          case measure => omega
          case rel =>
            refine ⟨1, qh, ql, L, rfl, ⟨?_⟩, ⟨uq.out.1, uq.out.2, QE.out⟩, hL, ⟨?_⟩, ⟨?_⟩, ⟨?_⟩, ⟨?_⟩⟩
            · omega
            · intro i h1 h2
              exact D.out i h1 (by omega)
            · exact blk_put (blk_put B0.out 0 _ rfl) 1 _ rfl
            · exact blk_far (blk_far B1.out (by show w.heap.size + 1 ≠ w.heap.size; omega) _) (by show w.heap.size + 1 ≠ w.heap.size; omega) _
            · exact below_set (below_set HB.out (Nat.le_refl _)) (Nat.le_refl _)
    · clear C
      obtain ⟨go_, rfl⟩ : ∃ g, gk = g + 1 := ⟨gk - 1, by omega⟩
      go_wp2_with (first | (go_at_call 132; (with_reducible refine (over_calls x y 10000000000000000000 V.out.1 V.out.2.1 u_unit (by decide) _).mono ?_); rintro e w' ⟨rfl, hb'⟩))
      have B0' := Aside0.mk (blk_below B0.out hb')
      have B1' := Aside0.mk (blk_below B1.out hb')
      have HB' := Aside0.mk (below_step HB.out hb')
      have lt1 := blk_lt B1'.out
      obtain ⟨g5, h5⟩ : ∃ g, w'.heap.size = g := ⟨_, rfl⟩
      have hn := Aside0.mk (blk_new w' (.cells #[.int .u64 (hiOf (val x y / 10000000000000000000)), .int .u64 (loOf (val x y / 10000000000000000000))] 42))
      have qe : val x y / 10000000000000000000 = val a b / 10 ^ (39 - (0 : Int).toNat) := by
        have e1 := V.out.2.2
        have e2 : (10000000000000000000 : Int) = 10 ^ 19 := rfl
        have m := m39
        have t1 : (39 - (1 : Int).toNat) = 38 := rfl
        have t0 : (39 - (0 : Int).toNat) = 39 := rfl
        rw [t1] at e1
        rw [t0, e1, e2, ← ten_split]
        have f1 : (10 : Int) ^ 39 ≤ 10 ^ (38 + 19) := ten_mono 39 18
        rw [Int.ediv_eq_zero_of_lt V0 (by omega), Int.ediv_eq_zero_of_lt V0 (by omega)]
      have q0 : 0 ≤ val x y / 10000000000000000000 := by
        have := (val_range x y V.out.1 V.out.2.1).1
        omega
      have q1 : val x y / 10000000000000000000 < m128 := by
        have := (val_range x y V.out.1 V.out.2.1).2
        have := (val_range x y V.out.1 V.out.2.1).1
        omega
      have uq := Aside0.mk (u_hiOf _ q0 q1)
      have re : ∀ j : Nat, j < 19 → val x y % 10000000000000000000 / 10 ^ j % 10 = val a b / 10 ^ (39 - (1 : Int).toNat + j) % 10 := by
        intro j hj
        have e2 : (10000000000000000000 : Int) = 10 ^ 19 := rfl
        rw [e2, dig_rest _ (val_range x y V.out.1 V.out.2.1).1 j hj, V.out.2.2, ← ten_split]
      have r0 : 0 ≤ val x y % 10000000000000000000 := by omega
      have r1 : val x y % 10000000000000000000 < 10000000000000000000 := by omega
      have RE := Aside0.mk re
      have QE := Aside0.mk ((val_halves _).trans qe)
      clear re qe q0 q1
      rw [h5] at hn lt1
      generalize hiOf (val x y / 10000000000000000000) = qh at *
      generalize loOf (val x y / 10000000000000000000) = ql at *
      generalize val x y % 10000000000000000000 = R at *
      have B0'' := Aside0.mk (blk_alloc B0'.out (.cells #[.int .u64 qh, .int .u64 ql] 42))
      have B1'' := Aside0.mk (blk_alloc B1'.out (.cells #[.int .u64 qh, .int .u64 ql] 42))
      have HB'' := Aside0.mk (below_alloc HB'.out (.cells #[.int .u64 qh, .int .u64 ql] 42))
      generalize hW : w'.alloc (.cells #[.int .u64 qh, .int .u64 ql] 42) = W at *
      simp only [h5]
      clear hb' B0 B1 HB B0' B1' HB' hW h5 cz0 cz1
      go_loopg [4, 6, 19] 20 (fun g v4 v6 v19 W => ∃ (j : Nat) (L : List Int), v4 = .int .i64 (1 - (j : Int)) ∧ v6 = .int .u64 (R / 10 ^ j) ∧ v19 = .int .i64 (j : Int) ∧ Aside0 (j ≤ 1 ∧ 1 ≤ j + g) ∧ Aside0 (L.length = 39) ∧ Aside0 (∀ i : Nat, i < 39 → 1 - (j : Int) ≤ i → L.getD i 0 = val a b / 10 ^ (38 - i) % 10) ∧ Aside0 (W.heap[w.heap.size]? = some (.cells #[.int .u64 x, .int .u64 y] 42 (0, 0))) ∧ Aside0 (W.heap[w.heap.size + 1]? = some (.cells (nums .u8 L).toArray 179 (0, 0))) ∧ Aside0 (W.heap[g5]? = some (.cells #[.int .u64 qh, .int .u64 ql] 42 (0, 0))) ∧ Aside0 (Below w.heap.size w W))
      case atStart =>
        refine ⟨0, L, by simp, by simp, rfl, ⟨by omega, by omega⟩, hL, ⟨?_⟩, B0'', B1'', hn, HB''⟩
        intro i h1 h2
        exact D.out i h1 (by simpa using h2)
      case round =>
        obtain ⟨j, L, rfl, rfl, rfl, J, hL, D, B0, B1, B5, HB⟩ := hrel
        by_cases c2 : j < 1
        · obtain rfl : j = 0 := by omega
          obtain ⟨gi, rfl⟩ : ∃ g, gk = g + 1 := ⟨gk - 1, by have := J.out; omega⟩
          have t10 : Int.tmod R 10 = R % 10 := Int.tmod_eq_emod_of_nonneg r0
          have d10 : Int.tdiv R 10 = R / 10 := Int.tdiv_eq_ediv_of_nonneg r0
          have wq : IntKind.u64.wrap (R / 10) = R / 10 := wu _ (by omega) (by omega)
          have p : R / 10 ^ 0 = R := by rw [Int.pow_zero, Int.ediv_one]
          simp only [p]
          have fz := blk_frozen B1.out 0
          have cz := (blk_cell B1.out 0).trans (cell_nums L 0 (by rw [hL.out]; omega))
          go_wp2
          go_roundg gi
          case measure => omega
          case rel =>
            refine ⟨1, L.set 0 (R % 10), ?_, ?_, rfl, ⟨?_⟩, ⟨?_⟩, ⟨?_⟩, ⟨?_⟩, ⟨?_⟩, ⟨?_⟩, ⟨?_⟩⟩
            · rfl
            · rfl
            · omega
            · rw [List.length_set]; exact hL.out
            · have := dig_put (val a b) L 0 (by omega) hL.out (fun i h1 h2 => D.out i h1 (by omega)) (R % 10) (by have e := RE.out 0 (by omega); rw [p] at e; exact e)
              intro i h1 h2
              exact this i h1 (by omega)
            · exact blk_far B0.out (by show w.heap.size ≠ w.heap.size + 1; omega) _
            · exact blk_put B1.out _ _ (set_nums ..)
            · exact blk_far B5.out (by show g5 ≠ w.heap.size + 1; omega) _
            · exact below_set HB.out (by omega)
        · have c2b : decide ((j : Int) < 1) = false := decide_eq_false (by omega)
          obtain rfl : j = 1 := by have := J.out; omega
          have cy0 : wr.cell? ⟨g5, 0, none⟩ = some (.int .u64 qh) := (blk_cell B5.out 0).trans rfl
          have cy1 : wr.cell? ⟨g5, 1, none⟩ = some (.int .u64 ql) := (blk_cell B5.out 1).trans rfl
          have cz0 : wr.cell? ⟨w.heap.size, 0, none⟩ = some (.int .u64 x) := (blk_cell B0.out 0).trans rfl
          have cz1 : wr.cell? ⟨w.heap.size, 1, none⟩ = some (.int .u64 y) := (blk_cell B0.out 1).trans rfl
          have fz0 := blk_frozen B0.out 0
          have fz1 := blk_frozen B0.out 1
          go_wp2
          go_roundg go_
          case measure => omega
          case rel =>
            refine ⟨0, qh, ql, L, rfl, ⟨?_⟩, ⟨uq.out.1, uq.out.2, QE.out⟩, hL, ⟨?_⟩, ⟨?_⟩, ⟨?_⟩, ⟨?_⟩⟩
            · omega
            · intro i h1 h2
              exact D.out i h1 (by omega)
            · exact blk_put (blk_put B0.out 0 _ rfl) 1 _ rfl
            · exact blk_far (blk_far B1.out (by show w.heap.size + 1 ≠ w.heap.size; omega) _) (by show w.heap.size + 1 ≠ w.heap.size; omega) _
            · exact below_set (below_set HB.out (Nat.le_refl _)) (Nat.le_refl _)
    · clear C
      go_wp2
      go_loopg [8] 40 (fun g v8 W => ∃ (j : Nat), v8 = .int .i64 (j : Int) ∧ Aside0 (j ≤ 38 ∧ 38 ≤ j + g) ∧ Aside0 (valD (L.drop j) = val a b) ∧ Aside0 (W.heap[w.heap.size + 1]? = some (.cells (nums .u8 L).toArray 179 (0, 0))) ∧ Aside0 (Below w.heap.size w W))
      case atStart =>
        refine ⟨0, rfl, ⟨by omega, by omega⟩, ⟨?_⟩, B1, HB⟩
        have m := m39
        exact val_all 39 L (val a b) hL.out V0 (by omega) (fun i hi => D.out i hi (by omega))
      case round =>
        clear cz0 cz1 B1 HB
        obtain ⟨j, rfl, J, S, B1, HB⟩ := hrel
        have hj := J.out.1
        have j39 : (j : Int) ≤ 39 := by omega
        have j0 : (0 : Int) ≤ (j : Int) := by omega
        have cz := (blk_cell B1.out j).trans (cell_nums L j (by rw [hL.out]; omega))
        by_cases c2 : j < 38
        · have c2b : decide ((j : Int) < 38) = true := decide_eq_true (by omega)
          obtain ⟨z, hz⟩ : ∃ z, L.getD j 0 = z := ⟨_, rfl⟩
          rw [hz] at cz
          by_cases c3 : z = 0
          · obtain ⟨gi, rfl⟩ : ∃ g, gk = g + 1 := ⟨gk - 1, by have := J.out; omega⟩
            rw [c3] at cz
            go_wp2
            go_roundg gi
            case measure => omega
            case rel =>
              refine ⟨j + 1, ?_, ⟨?_⟩, ⟨?_⟩, B1, HB⟩
              · rw [show ((j + 1 : Nat) : Int) = (j : Int) + 1 from by omega]
              · have := J.out; omega
              · rw [val_skip L j (by rw [hL.out]; omega) (hz.trans c3)]; exact S.out
          · have c3b : (z == 0) = false := beq_eq_false_iff_ne.mpr c3
            go_wp2
            have dL : Dig (L.drop j) := by
              intro d hd
              obtain ⟨i, hi, e⟩ := List.mem_iff_getElem.1 (List.mem_of_mem_drop hd)
              have q := D.out i (by have := hL.out; omega) (by omega)
              rw [List.getD_eq_getElem?_getD, List.getElem?_eq_getElem hi] at q
              have q' : d = val a b / 10 ^ (38 - i) % 10 := e ▸ q
              omega
            have ld : (L.drop j).length = (38 - j) + 1 := by rw [List.length_drop, hL.out]; omega
            have m := m39
            have un := dec_uniq (38 - j) 38 (L.drop j) ld dL (fun _ => by
              rw [List.drop_eq_getElem_cons (by rw [hL.out]; omega)]
              intro e
              rw [List.head?_cons] at e
              apply c3
              rw [← hz, List.getD_eq_getElem?_getD, List.getElem?_eq_getElem (by rw [hL.out]; omega)]
              exact Option.some.inj e) (by rw [S.out]; omega)
            rw [S.out] at un
            have dl : (dec (val a b)).length = 39 - j := by
              show (decF 38 (val a b)).length = _
              rw [un, ld]; omega
            go_ret
            exact ⟨w.heap.size + 1, j, L, by rw [dl]; rfl, B1.out, by omega, hL.out, by rw [dl]; omega, un.symm, HB.out⟩
        · have c2b : decide ((j : Int) < 38) = false := decide_eq_false (by omega)
          go_wp2
          have dL : Dig (L.drop j) := by
            intro d hd
            obtain ⟨i, hi, e⟩ := List.mem_iff_getElem.1 (List.mem_of_mem_drop hd)
            have q := D.out i (by have := hL.out; omega) (by omega)
            rw [List.getD_eq_getElem?_getD, List.getElem?_eq_getElem hi] at q
            have q' : d = val a b / 10 ^ (38 - i) % 10 := e ▸ q
            omega
          have ld : (L.drop j).length = (38 - j) + 1 := by rw [List.length_drop, hL.out]; omega
          have m := m39
          have un := dec_uniq (38 - j) 38 (L.drop j) ld dL (fun h => by omega) (by rw [S.out]; omega)
          rw [S.out] at un
          have dl : (dec (val a b)).length = 39 - j := by
            show (decF 38 (val a b)).length = _
            rw [un, ld]; omega
          go_ret
          exact ⟨w.heap.size + 1, j, L, by rw [dl]; rfl, B1.out, by omega, hL.out, by rw [dl]; omega, un.symm, HB.out⟩
end Go.Proofs.YtpkjpiphjdpegaaDoor.P
namespace Go.Proofs.YtpkjpiphjdpegaaDoor.P
open Go.RowKit Go.Proofs.YtpkjpiphjdpegaaDoorW.PrintWords Go.Proofs.YtpkjpiphjdpegaaDoorW.PrintLast Go.Proofs.YtpkjpiphjdpegaaDoorW.PrintMore
set_option linter.unusedVariables false
set_option linter.unusedSimpArgs false
theorem drop_set (L : List Int) (s j : Nat) (v : Int) : (L.set (s + j) v).drop s = (L.drop s).set j v := by
  rw [List.drop_set, if_neg (by omega), Nat.add_sub_cancel_left]
theorem set_asc (D : List Int) (j : Nat) (hj : j < D.length) : (asc (D.take j) ++ D.drop j).set j (D.getD j 0 + 48) = asc (D.take (j + 1)) ++ D.drop (j + 1) := by
  have l : (asc (D.take j)).length = j := by simp [asc]; omega
  have e : D.getD j 0 = D[j] := by rw [List.getD_eq_getElem?_getD, List.getElem?_eq_getElem hj]; rfl
  rw [List.set_append_right _ _ (by omega), l, Nat.sub_self, List.drop_eq_getElem_cons hj, List.set_cons_zero, List.take_succ_eq_append_getElem hj, e]
  unfold asc
  rw [List.map_append, List.append_assoc]
  rfl
set_option maxHeartbeats 4000000 in
set_option maxRecDepth 100000 in
theorem decimal_Text.calls (a0_0 a0_1 : Int) (r : ByteArray) (w : World) (h : decimal_Text.f a0_0 a0_1 = some r) :
    Calls Tryd.prog 85 #[.agg #[.int .u64 a0_0, .int .u64 a0_1]] w fun e w' => e = .returned (.string r) ∧ Below w.heap.size w w' := by
  have hu : U64 a0_0 ∧ U64 a0_1 := by
    unfold decimal_Text.f at h
    split at h
    · assumption
    · cases h
  rw [text_num _ _ hu.1 hu.2] at h
  obtain rfl := Option.some.inj h
  clear h
  have D1 := dec_facts (val a0_0 a0_1) (val_range _ _ hu.1 hu.2).1 (val_range _ _ hu.1 hu.2).2
  have cl := decimal_digits_calls a0_0 a0_1 hu.1 hu.2
  generalize dec (val a0_0 a0_1) = D at *
  obtain ⟨_, dD, l0, l1⟩ := D1
  go_enter Tryd.func85, Tryd.ntmps85
  go_wp2_with (first | (go_at_call 115; (with_reducible refine (cl _).mono ?_); rintro e w' ⟨g, s, L, rfl, hg, hge, hl, hs, hd, hb⟩; rw [World.size_alloc] at hge; have HB0 := Aside0.mk (below_step (below_alloc (Below.refl _ _) _) hb); clear hb; have HG := Aside0.mk hg; clear hg))
  go_loopg [9] 40 (fun gk v9 W => ∃ (j : Nat) (L : List Int), v9 = .int .i64 (j : Int) ∧ Aside0 (j ≤ D.length ∧ D.length ≤ j + gk) ∧ Aside0 (L.length = 39) ∧ Aside0 (L.drop s = asc (D.take j) ++ D.drop j) ∧ Aside0 (W.heap[g]? = some (.cells (nums .u8 L).toArray 179 (0, 0))) ∧ Aside0 (Below w.heap.size w W))
  case atStart => exact ⟨0, L, rfl, ⟨by omega, by omega⟩, ⟨hl⟩, ⟨by rw [hd]; rfl⟩, HG, HB0⟩
  case round =>
    clear HG HB0 hd hl cl
    obtain ⟨j, L, rfl, J, hl, hd, HG, HB⟩ := hrel
    by_cases c : j < D.length
    · have cb : decide ((j : Int) < (D.length : Int)) = true := decide_eq_true (by omega)
      obtain ⟨gi, rfl⟩ : ∃ g, gk = g + 1 := ⟨gk - 1, by have := J.out; omega⟩
      have fz := blk_frozen HG.out (s + j)
      have q : L.getD (s + j) 0 = D.getD j 0 := by
        have e : L.getD (s + j) 0 = (L.drop s).getD j 0 := by rw [List.getD_eq_getElem?_getD, List.getD_eq_getElem?_getD, List.getElem?_drop]
        have l : (asc (D.take j)).length = j := by simp [asc]; omega
        rw [e, hd.out, List.getD_eq_getElem?_getD, List.getElem?_append_right (by omega), l, Nat.sub_self, List.getElem?_drop, Nat.add_zero, List.getD_eq_getElem?_getD]
      have cz := (blk_cell HG.out (s + j)).trans (cell_nums L (s + j) (by have := hl.out; omega))
      rw [q] at cz
      have dz : 0 ≤ D.getD j 0 ∧ D.getD j 0 < 10 := by
        rw [List.getD_eq_getElem?_getD, List.getElem?_eq_getElem c]
        exact dD _ (List.getElem_mem c)
      have sa := set_asc D j c
      generalize D.getD j 0 = z at *
      have wz : IntKind.u8.wrap (z + 48) = z + 48 := by rw [IntKind.wrap_u8]; omega
      go_wp2
      go_roundg gi
      case measure => omega
      case rel =>
        refine ⟨j + 1, L.set (s + j) (z + 48), ?_, ⟨?_⟩, ⟨?_⟩, ⟨?_⟩, ⟨?_⟩, ⟨?_⟩⟩
        · rw [show ((j + 1 : Nat) : Int) = (j : Int) + 1 from by omega]
        · have := J.out; omega
        · rw [List.length_set]; exact hl.out
        · rw [drop_set, hd.out, sa]
        · exact blk_put HG.out _ _ (set_nums ..)
        · exact below_set HB.out (by omega)
    · have cb : decide ((j : Int) < (D.length : Int)) = false := decide_eq_false (by omega)
      obtain rfl : j = D.length := by have := J.out; omega
      have hd' : L.drop s = asc D := by rw [hd.out, List.take_length, List.drop_length, List.append_nil]
      have la : (asc D).length = D.length := by simp [asc]
      have cv := run_convert_bytes_arg (P := Tryd.prog) wr 82 5 Tryd.underlying82 Tryd.underlying5 g s D.length D.length (asc D) la (fun i hi => by
        have e1 := (blk_cell HG.out (s + i)).trans (cell_nums L (s + i) (by have := hl.out; omega))
        rw [e1, ← hd', List.getD_eq_getElem?_getD, List.getD_eq_getElem?_getD, List.getElem?_drop]) 9 Tryd.underlying9
      go_wp2
      go_ret
      exact ⟨rfl, HB.out⟩
end Go.Proofs.YtpkjpiphjdpegaaDoor.P
namespace Go.Proofs.YtpkjpiphjdpegaaDoor.P
open Go.Shelf Go.RowKit
def sh_lays156_ren : Go.Shelf.Ren := ⟨fun | 156 => 80 | 165 => 106 | 166 => 107 | 169 => 108 | 240 => 126 | 241 => 127 | 276 => 139 | 277 => 140 | n => n, fun | 31 => 51 | 9 => 9 | 3 => 3 | 4 => 4 | 0 => 0 | 20 => 20 | 72 => 148 | 76 => 152 | 70 => 146 | 37 => 82 | 75 => 151 | 127 => 171 | 164 => 184 | 5 => 5 | 80 => 154 | n => n, fun | n => n⟩
theorem sh_lays156 : Go.Proofs.Lays.n156 Tryd.prog sh_lays156_ren := {
  mixed := by kernel_rfl
  f156 := Tryd.func80.trans (congrArg some (by kernel_rfl))
  f165 := Tryd.func106.trans (congrArg some (by kernel_rfl))
  f166 := Tryd.func107.trans (congrArg some (by kernel_rfl))
  f169 := Tryd.func108.trans (congrArg some (by kernel_rfl))
  f240 := Tryd.func126.trans (congrArg some (by kernel_rfl))
  f241 := Tryd.func127.trans (congrArg some (by kernel_rfl))
  f276 := Tryd.func139.trans (congrArg some (by kernel_rfl))
  f277 := Tryd.func140.trans (congrArg some (by kernel_rfl))
  t0 := Tryd.underlying0
  a0 := Tryd.isAgg0
  z0 := Tryd.sizeOf0
  v0 := Tryd.zeroValue0
  t3 := Tryd.underlying3
  a3 := Tryd.isAgg3
  z3 := Tryd.sizeOf3
  v3 := Tryd.zeroValue3
  t4 := Tryd.underlying4
  a4 := Tryd.isAgg4
  z4 := Tryd.sizeOf4
  v4 := Tryd.zeroValue4
  t9 := Tryd.underlying9
  a9 := Tryd.isAgg9
  z9 := Tryd.sizeOf9
  v9 := Tryd.zeroValue9
  t20 := Tryd.underlying20
  a20 := Tryd.isAgg20
  z20 := Tryd.sizeOf20
  v20 := Tryd.zeroValue20
  t31 := Tryd.underlying51
  a31 := Tryd.isAgg51
  z31 := Tryd.sizeOf51
  v31 := Tryd.zeroValue51
  t37 := Tryd.underlying82
  a37 := Tryd.isAgg82
  z37 := Tryd.sizeOf82
  v37 := Tryd.zeroValue82
  t70 := Tryd.underlying146
  a70 := Tryd.isAgg146
  z70 := Tryd.sizeOf146
  v70 := Tryd.zeroValue146
  t72 := Tryd.underlying148
  a72 := Tryd.isAgg148
  z72 := Tryd.sizeOf148
  v72 := Tryd.zeroValue148
  t75 := Tryd.underlying151
  a75 := Tryd.isAgg151
  z75 := Tryd.sizeOf151
  v75 := Tryd.zeroValue151
  t76 := Tryd.underlying152
  a76 := Tryd.isAgg152
  z76 := Tryd.sizeOf152
  v76 := Tryd.zeroValue152
  t127 := Tryd.underlying171
  a127 := Tryd.isAgg171
  z127 := Tryd.sizeOf171
  v127 := Tryd.zeroValue171
  t164 := Tryd.underlying184
  a164 := Tryd.isAgg184
  z164 := Tryd.sizeOf184
  v164 := Tryd.zeroValue184 }
theorem sh_Builder_Extra_156 : Builder.Extra Tryd.prog sh_lays156_ren := {
  sizeBuilder := by kernel_rfl
  liesBuilder := by kernel_rfl
  t5 := Tryd.underlying5
  a5 := Tryd.isAgg5
  z5 := Tryd.sizeOf5
  v5 := Tryd.zeroValue5
  infoByte := by kernel_rfl
  cellsByte := by kernel_rfl
  sizeByte := by kernel_rfl
  neB5 := by decide }
open Go.RowKit in
theorem sh_strings_Join_none (a : Option Addr) (c : Nat) (sep : ByteArray) (w : World) :
    Calls Tryd.prog 80 #[.slice a 0 c, .string sep] w fun e w' => e = .returned (.string ⟨#[]⟩) ∧ w' = w := Any.strings_Join_none sh_lays156 sh_Builder_Extra_156 a c sep w
open Go.RowKit in
theorem sh_strings_Join (bk o c : Nat) (xs : List ByteArray) (sep : ByteArray) (w : World) (hcells : ∀ (j : Nat) x, xs[j]? = some x → w.cell? ⟨bk, o + j, none⟩ = some (.string x)) (hbk : bk < w.heap.size) (hN : xs.length ≤ 140737488355328) (hcap : xs.length ≤ c) (hlen : (Lib.join (xs.map (·.data.toList)) sep.data.toList).length ≤ 140737488355328) :
    Calls Tryd.prog 80 #[.slice (some ⟨bk, o, none⟩) xs.length c, .string sep] w fun e w' => e = .returned (.string ⟨(Lib.join (xs.map (·.data.toList)) sep.data.toList).toArray⟩) ∧ Below w.heap.size w w' := Any.strings_Join sh_lays156 sh_Builder_Extra_156 bk o c xs sep w hcells hbk hN hcap hlen
end Go.Proofs.YtpkjpiphjdpegaaDoor.P
namespace Go.Proofs.YtpkjpiphjdpegaaDoor.P
open Go.Shelf Go.RowKit
def sh_lays144_ren : Go.Shelf.Ren := ⟨fun | 144 => 78 | 143 => 104 | 219 => 125 | 217 => 135 | 225 => 136 | 224 => 137 | 267 => 138 | 266 => 145 | 314 => 146 | n => n, fun | 9 => 9 | 4 => 4 | 3 => 3 | 5 => 5 | 46 => 138 | 146 => 189 | 51 => 188 | n => n, fun | 1 => 2 | n => n⟩
theorem sh_lays144 : Go.Proofs.Lays.n144 Tryd.prog sh_lays144_ren := {
  mixed := by kernel_rfl
  f143 := Tryd.func104.trans (congrArg some (by kernel_rfl))
  f144 := Tryd.func78.trans (congrArg some (by kernel_rfl))
  f217 := Tryd.func135.trans (congrArg some (by kernel_rfl))
  f219 := Tryd.func125.trans (congrArg some (by kernel_rfl))
  f224 := Tryd.func137.trans (congrArg some (by kernel_rfl))
  f225 := Tryd.func136.trans (congrArg some (by kernel_rfl))
  f266 := Tryd.func145.trans (congrArg some (by kernel_rfl))
  f267 := Tryd.func138.trans (congrArg some (by kernel_rfl))
  f314 := Tryd.func146.trans (congrArg some (by kernel_rfl))
  t3 := Tryd.underlying3
  a3 := Tryd.isAgg3
  z3 := Tryd.sizeOf3
  v3 := Tryd.zeroValue3
  t4 := Tryd.underlying4
  a4 := Tryd.isAgg4
  z4 := Tryd.sizeOf4
  v4 := Tryd.zeroValue4
  t5 := Tryd.underlying5
  a5 := Tryd.isAgg5
  z5 := Tryd.sizeOf5
  v5 := Tryd.zeroValue5
  t9 := Tryd.underlying9
  a9 := Tryd.isAgg9
  z9 := Tryd.sizeOf9
  v9 := Tryd.zeroValue9
  t46 := Tryd.underlying138
  a46 := Tryd.isAgg138
  z46 := Tryd.sizeOf138
  v46 := Tryd.zeroValue138
  t51 := Tryd.underlying188
  a51 := Tryd.isAgg188
  z51 := Tryd.sizeOf188
  v51 := Tryd.zeroValue188
  t146 := Tryd.underlying189
  a146 := Tryd.isAgg189
  z146 := Tryd.sizeOf189
  v146 := Tryd.zeroValue189
  g1 := by kernel_rfl }
open Go.RowKit Go.Lib in
theorem sh_strings_Contains_one (s : ByteArray) (c : UInt8) (w : World) :
    Calls Tryd.prog 78 #[.string s, .string ⟨#[c]⟩] w fun e w' => e = .returned (.bool (decide (0 ≤ Lib.indexByte s.data.toList c))) ∧ w' = w := Any.strings_Contains_one sh_lays144 s c w
end Go.Proofs.YtpkjpiphjdpegaaDoor.P
namespace Go.Proofs.YtpkjpiphjdpegaaDoor.P
open Go.Shelf Go.RowKit
def sh_lg79_ren : Go.Shelf.Ren := ⟨fun | 8 => 79 | 6 => 105 | n => n, fun | 22 => 51 | 23 => 9 | 25 => 85 | 4 => 4 | 3 => 3 | 0 => 0 | n => n, fun | n => n⟩
theorem sh_lg79 : Go.Proofs.SlLaysH.n8 Tryd.prog sh_lg79_ren := {
  mixed := by kernel_rfl
  f6 := ⟨Tryd.f105.name, by decide, Tryd.func105.trans (congrArg some (by kernel_rfl))⟩
  f8 := ⟨Tryd.f79.name, by decide, Tryd.func79.trans (congrArg some (by kernel_rfl))⟩
  t0 := Tryd.underlying0
  a0 := Tryd.isAgg0
  z0 := Tryd.sizeOf0
  v0 := Tryd.zeroValue0
  t3 := Tryd.underlying3
  a3 := Tryd.isAgg3
  z3 := Tryd.sizeOf3
  v3 := Tryd.zeroValue3
  t4 := Tryd.underlying4
  a4 := Tryd.isAgg4
  z4 := Tryd.sizeOf4
  v4 := Tryd.zeroValue4
  t22 := Tryd.underlying51
  a22 := Tryd.isAgg51
  z22 := Tryd.sizeOf51
  v22 := Tryd.zeroValue51
  a23 := Tryd.isAgg9
  z23 := Tryd.sizeOf9
  t25 := Tryd.underlying85
  a25 := Tryd.isAgg85
  z25 := Tryd.sizeOf85
  v25 := Tryd.zeroValue85 }
end Go.Proofs.YtpkjpiphjdpegaaDoor.P
namespace Go.Proofs.YtpkjpiphjdpegaaDoor.P
open Go.RowKit Go.Proofs.YtpkjpiphjdpegaaDoorW.PrintWords Go.Proofs.YtpkjpiphjdpegaaDoorW.PrintLast Go.Proofs.YtpkjpiphjdpegaaDoorW.PrintMore
set_option linter.unusedVariables false
set_option linter.unusedSimpArgs false
def brk (s : ByteArray) : Bool := decide (0 ≤ Lib.indexByte s.data.toList 10)
def joinL (l : List ByteArray) : ByteArray := ⟨(Lib.join (l.map (·.data.toList)) [10]).toArray⟩
def lines_Join.f (l0 : List ByteArray) : Option (ByteArray × Int) :=
  if l0.length ≤ 1000000 ∧ (Lib.join (l0.map (·.data.toList)) [10]).length ≤ 1000000000 then some (if l0.any brk = true then ((⟨#[]⟩ : ByteArray), 2) else (joinL l0, 0)) else none
theorem brk_at (w : World) : Go.Proofs.PredAt Tryd.prog 77 #[] Value.string brk w := fun W r _ => by
  unfold FnGives
  obtain ⟨b, hb⟩ : ∃ b, brk r = b := ⟨_, rfl⟩
  have C : Calls Tryd.prog 78 #[.string r, .string ⟨#[10]⟩] W fun e w' => e = .returned (.bool b) ∧ w' = W := by rw [← hb]; exact sh_strings_Contains_one r 10 W
  go_enter Tryd.func77, Tryd.ntmps77
  go_wp2_with (first | (go_at_call 78; (with_reducible refine C.mono ?_); rintro e w' ⟨rfl, rfl⟩))
  go_ret
  exact ⟨by rw [hb]; rfl, 0, rfl⟩
theorem strs_in {w : World} {A : Option Addr} {xs : List ByteArray} (h : Kd.C Kd.string w A xs.length xs) (hn : 0 < xs.length) : ∃ b off, A = some ⟨b, off, none⟩ ∧ b < w.heap.size ∧ ∀ j, j < xs.length → w.cell? ⟨b, off + j, none⟩ = some (.string xs[j]!) := by
  obtain ⟨ad, rfl, h0⟩ := Kd.at_string h 0 (by omega) (by omega)
  rw [show (0 : Int).toNat = 0 from rfl] at h0
  have e0 : ad.add 0 = ad := rfl
  rw [e0] at h0
  obtain ⟨q1, q2⟩ := cell_lt h0
  obtain ⟨b, off, sp⟩ := ad
  have q2' : sp = none := q2
  subst q2'
  refine ⟨b, off, rfl, q1, fun j hj => ?_⟩
  obtain ⟨ad', e', h1⟩ := Kd.at_string h (j : Int) (by omega) (by omega)
  obtain rfl := Option.some.inj e'
  have ea : (⟨b, off, none⟩ : Addr).add j = ⟨b, off + j, none⟩ := by
    unfold Addr.add
    by_cases z : j = 0
    · rw [if_pos z, z]; rfl
    · rw [if_neg z]
  rw [Int.toNat_natCast, ea] at h1
  rw [h1]
  unfold rdOf
  rw [Int.toNat_natCast, List.getElem!_eq_getElem?_getD, List.getD_eq_getElem?_getD]
  rfl
set_option maxHeartbeats 4000000 in
set_option maxRecDepth 100000 in
theorem lines_Join.calls (A0 : Option Addr) (c0 : Nat) (l0 : List ByteArray) (r1 : ByteArray) (r2 : Int) (w : World) (hr0 : Kd.C Kd.string w A0 l0.length l0) (hc0 : l0.length ≤ c0) (h : lines_Join.f l0 = some (r1, r2)) :
    Calls Tryd.prog 42 #[.slice A0 l0.length c0] w fun e w' => e = .returned (.tuple #[.string r1, .int .i64 r2]) ∧ Below w.heap.size w w' := by
  have hu : l0.length ≤ 1000000 ∧ (Lib.join (l0.map (·.data.toList)) [10]).length ≤ 1000000000 := by
    unfold lines_Join.f at h
    split at h
    · assumption
    · cases h
  unfold lines_Join.f at h
  rw [if_pos hu] at h
  have h' := Option.some.inj h
  clear h
  have eg := enters_of Tryd.func77 (by kernel_rfl) rfl
  have CC : Calls Tryd.prog 79 #[.slice A0 l0.length c0, .func (.func 77) #[] #[]] w fun e w' => e = .returned (.bool (l0.any brk)) ∧ ∃ q, w' = w.drewN q := by
    by_cases z : 0 < l0.length
    · obtain ⟨b, off, rfl, hb, hc⟩ := strs_in hr0 z
      have := Go.Proofs.AnyE.slices_ContainsFunc sh_lg79 Value.string brk 77 #[] eg b off l0.length c0 l0 w (brk_at w) (Nat.le_refl _) (by omega) hc
      rw [List.take_length] at this
      exact this
    · have e : l0 = [] := List.eq_nil_of_length_eq_zero (by omega)
      subst e
      refine (Go.Proofs.AnyE.slices_ContainsFunc_empty sh_lg79 A0 c0 (.func (.func 77) #[] #[]) w).mono ?_
      rintro e w' ⟨rfl, rfl⟩
      exact ⟨rfl, 0, rfl⟩
  have JJ : ∀ q, Calls Tryd.prog 80 #[.slice A0 l0.length c0, .string ⟨#[10]⟩] (w.drewN q) fun e w' => e = .returned (.string (joinL l0)) ∧ Below w.heap.size w w' := by
    intro q
    by_cases z : 0 < l0.length
    · obtain ⟨b, off, rfl, hb, hc⟩ := strs_in hr0 z
      refine (sh_strings_Join b off c0 l0 ⟨#[10]⟩ (w.drewN q) (fun j x hx => ?_) hb (by omega) hc0 (by have := hu.2; have e : (⟨#[10]⟩ : ByteArray).data.toList = [10] := rfl; rw [e]; omega)).mono ?_
      · obtain ⟨hj, e⟩ := List.getElem?_eq_some_iff.1 hx
        have := hc j hj
        rw [List.getElem!_eq_getElem?_getD, hx] at this
        exact this
      · rintro e w' ⟨rfl, hb'⟩
        exact ⟨rfl, Below.trans (pw_below_drewN (Below.refl _ w) q) hb'⟩
    · have e : l0 = [] := List.eq_nil_of_length_eq_zero (by omega)
      subst e
      refine (sh_strings_Join_none A0 c0 ⟨#[10]⟩ (w.drewN q)).mono ?_
      rintro e w' ⟨rfl, rfl⟩
      exact ⟨rfl, pw_below_drewN (Below.refl _ w) q⟩
  by_cases b : l0.any brk = true
  · rw [if_pos b] at h'
    cases h'
    rw [b] at CC
    go_enter Tryd.func42, Tryd.ntmps42
    go_wp2_with (first | (go_at_call 79; (with_reducible refine CC.mono ?_); rintro e w' ⟨rfl, q, rfl⟩))
    go_ret2
    exact ⟨rfl, pw_below_drewN (Below.refl _ w) q⟩
  · rw [if_neg b] at h'
    cases h'
    have bf : l0.any brk = false := by simpa using b
    rw [bf] at CC
    go_enter Tryd.func42, Tryd.ntmps42
    go_wp2_with (first | (go_at_call 79; (with_reducible refine CC.mono ?_); rintro e w' ⟨rfl, q, rfl⟩) | (go_at_call 80; (with_reducible refine (JJ _).mono ?_); rintro e w2 ⟨rfl, hb⟩))
    go_ret2
    exact ⟨rfl, hb⟩
end Go.Proofs.YtpkjpiphjdpegaaDoor.P
namespace Go.Proofs.YtpkjpiphjdpegaaDoor.P
open Go.Shelf Go.RowKit
def sh_lays137_ren : Go.Shelf.Ren := ⟨fun | 137 => 143 | 217 => 135 | 266 => 145 | n => n, fun | 9 => 9 | 5 => 5 | 3 => 3 | n => n, fun | n => n⟩
theorem sh_lays137 : Go.Proofs.Lays.n137 Tryd.prog sh_lays137_ren := {
  mixed := by kernel_rfl
  f137 := Tryd.func143.trans (congrArg some (by kernel_rfl))
  f217 := Tryd.func135.trans (congrArg some (by kernel_rfl))
  f266 := Tryd.func145.trans (congrArg some (by kernel_rfl))
  t3 := Tryd.underlying3
  a3 := Tryd.isAgg3
  z3 := Tryd.sizeOf3
  v3 := Tryd.zeroValue3
  t5 := Tryd.underlying5
  a5 := Tryd.isAgg5
  z5 := Tryd.sizeOf5
  v5 := Tryd.zeroValue5
  t9 := Tryd.underlying9
  a9 := Tryd.isAgg9
  z9 := Tryd.sizeOf9
  v9 := Tryd.zeroValue9 }
open Go.RowKit in
theorem sh_strings_IndexByte (s : ByteArray) (c : Int) (w : World) :
    Calls Tryd.prog 143 #[.string s, .int .u8 c] w fun e w' => e = .returned (.int .i64 (Lib.indexByte s.data.toList c.toNat.toUInt8)) ∧ w' = w := Any.strings_IndexByte sh_lays137 s c w
def sh_lays195_ren : Go.Shelf.Ren := ⟨fun | 195 => 89 | n => n, fun | 9 => 9 | 3 => 3 | 0 => 0 | 4 => 4 | n => n, fun | n => n⟩
theorem sh_lays195 : Go.Proofs.Lays.n195 Tryd.prog sh_lays195_ren := {
  mixed := by kernel_rfl
  f195 := Tryd.func89.trans (congrArg some (by kernel_rfl))
  t0 := Tryd.underlying0
  a0 := Tryd.isAgg0
  z0 := Tryd.sizeOf0
  v0 := Tryd.zeroValue0
  t3 := Tryd.underlying3
  a3 := Tryd.isAgg3
  z3 := Tryd.sizeOf3
  v3 := Tryd.zeroValue3
  t4 := Tryd.underlying4
  a4 := Tryd.isAgg4
  z4 := Tryd.sizeOf4
  v4 := Tryd.zeroValue4
  t9 := Tryd.underlying9
  a9 := Tryd.isAgg9
  z9 := Tryd.sizeOf9
  v9 := Tryd.zeroValue9 }
open Go.RowKit in
theorem sh_utf8_RuneCountInString (s : ByteArray) (w : World) (hs : s.size < 9223372036854775807) :
    Calls Tryd.prog 89 #[.string s] w fun e w' => e = .returned (.int .i64 (Lib.runeCount s)) ∧ ∃ pos, w' = w.iter s pos := Any.utf8_RuneCountInString sh_lays195 s w hs
def sh_lays151_ren : Go.Shelf.Ren := ⟨fun | 151 => 119 | 152 => 133 | 137 => 143 | 119 => 61 | 224 => 137 | 225 => 136 | 217 => 135 | 266 => 145 | n => n, fun | 9 => 9 | 21 => 21 | 4 => 4 | 3 => 3 | 5 => 5 | 0 => 0 | 46 => 138 | n => n, fun | n => n⟩
theorem sh_lays151 : Go.Proofs.Lays.n151 Tryd.prog sh_lays151_ren := {
  mixed := by kernel_rfl
  f119 := Tryd.func61.trans (congrArg some (by kernel_rfl))
  f137 := Tryd.func143.trans (congrArg some (by kernel_rfl))
  f151 := Tryd.func119.trans (congrArg some (by kernel_rfl))
  f152 := Tryd.func133.trans (congrArg some (by kernel_rfl))
  f217 := Tryd.func135.trans (congrArg some (by kernel_rfl))
  f224 := Tryd.func137.trans (congrArg some (by kernel_rfl))
  f225 := Tryd.func136.trans (congrArg some (by kernel_rfl))
  f266 := Tryd.func145.trans (congrArg some (by kernel_rfl))
  t0 := Tryd.underlying0
  a0 := Tryd.isAgg0
  z0 := Tryd.sizeOf0
  v0 := Tryd.zeroValue0
  t3 := Tryd.underlying3
  a3 := Tryd.isAgg3
  z3 := Tryd.sizeOf3
  v3 := Tryd.zeroValue3
  t4 := Tryd.underlying4
  a4 := Tryd.isAgg4
  z4 := Tryd.sizeOf4
  v4 := Tryd.zeroValue4
  t5 := Tryd.underlying5
  a5 := Tryd.isAgg5
  z5 := Tryd.sizeOf5
  v5 := Tryd.zeroValue5
  t9 := Tryd.underlying9
  a9 := Tryd.isAgg9
  z9 := Tryd.sizeOf9
  v9 := Tryd.zeroValue9
  t21 := Tryd.underlying21
  a21 := Tryd.isAgg21
  z21 := Tryd.sizeOf21
  v21 := Tryd.zeroValue21
  t46 := Tryd.underlying138
  a46 := Tryd.isAgg138
  z46 := Tryd.sizeOf138
  v46 := Tryd.zeroValue138 }
open Go.RowKit Go.Lib in
theorem sh_strings_ContainsRune_ascii (s : ByteArray) (r : Int) (w : World) (h0 : 0 ≤ r) (h1 : r < 128) :
    Calls Tryd.prog 119 #[.string s, .int .i32 r] w fun e w' => e = .returned (.bool (decide (0 ≤ Lib.indexByte s.data.toList r.toNat.toUInt8))) ∧ w' = w := Any.strings_ContainsRune_ascii sh_lays151 s r w h0 h1
end Go.Proofs.YtpkjpiphjdpegaaDoor.P
namespace Go.Proofs.YtpkjpiphjdpegaaDoor.P
open Go.RowKit Go.Proofs.YtpkjpiphjdpegaaDoorW.PrintWords Go.Proofs.YtpkjpiphjdpegaaDoorW.PrintLast Go.Proofs.YtpkjpiphjdpegaaDoorW.PrintMore
set_option linter.unusedVariables false
set_option linter.unusedSimpArgs false
abbrev signs : ByteArray := ⟨#[46, 95, 45]⟩
theorem big_byte (n : Nat) (h : 128 ≤ n) (h' : n < 256) : 128 ≤ (UInt8.ofNat n).toNat := by
  rw [UInt8.toNat_ofNat']
  omega
theorem enc_w2 (r : Int) (h0 : 128 ≤ r) (h1 : r < 2048) : ∃ a b : UInt8, Utf8.encode r = ⟨#[a, b]⟩ ∧ 128 ≤ b.toNat := by
  have v : Utf8.valid r = true := by unfold Utf8.valid; simp; omega
  refine ⟨UInt8.ofNat (0xC0 + r.toNat / 64), UInt8.ofNat (0x80 + r.toNat % 64), ?_, big_byte _ (by omega) (by omega)⟩
  unfold Utf8.encode
  simp only [v, if_true]
  rw [if_neg (by omega), if_pos (by omega)]
theorem enc_w3 (r : Int) (h0 : 2048 ≤ r) (h1 : r < 65536) (v : Utf8.valid r = true) : ∃ a b c : UInt8, Utf8.encode r = ⟨#[a, b, c]⟩ ∧ 128 ≤ c.toNat := by
  refine ⟨UInt8.ofNat (0xE0 + r.toNat / 4096), UInt8.ofNat (0x80 + r.toNat / 64 % 64), UInt8.ofNat (0x80 + r.toNat % 64), ?_, big_byte _ (by omega) (by omega)⟩
  unfold Utf8.encode
  simp only [v, if_true]
  rw [if_neg (by omega), if_neg (by omega), if_pos (by omega)]
theorem enc_w4 (r : Int) (h0 : 65536 ≤ r) (v : Utf8.valid r = true) : ∃ a b c d : UInt8, Utf8.encode r = ⟨#[a, b, c, d]⟩ := by
  refine ⟨UInt8.ofNat (0xF0 + r.toNat / 262144), UInt8.ofNat (0x80 + r.toNat / 4096 % 64), UInt8.ofNat (0x80 + r.toNat / 64 % 64), UInt8.ofNat (0x80 + r.toNat % 64), ?_⟩
  unfold Utf8.encode
  simp only [v, if_true]
  rw [if_neg (by omega), if_neg (by omega), if_neg (by omega)]
theorem index_one (b : UInt8) (h : 128 ≤ b.toNat) : Lib.indexByte [45] b = -1 := by
  have e : ¬ ((45 : UInt8) = b) := fun e => by rw [← e] at h; revert h; decide
  unfold Lib.indexByte
  rw [if_neg (by simpa using e)]
  rfl
theorem ext23 : (signs.extract 2 3).data.toList = [45] := by
  rw [ByteArray.data_extract]
  rfl
theorem ext33 : (signs.extract 3 3).data.toList = [] := by
  rw [ByteArray.data_extract]
  rfl
theorem index_nil (b : UInt8) : Lib.indexByte [] b = -1 := rfl
set_option maxHeartbeats 4000000 in
set_option maxRecDepth 100000 in
theorem indexRune_w2 (r : Int) (h0 : 128 ≤ r) (h1 : r < 2048) (w : World) : Calls Tryd.prog 133 #[.string signs, .int .i32 r] w fun e w' => e = .returned (.int .i64 (-1)) ∧ Below w.heap.size w w' := by
  obtain ⟨a, b, he, hb⟩ := enc_w2 r h0 h1
  have vr : Lib.validRune r = true := by unfold Lib.validRune; simp; omega
  have C : ∀ W, Calls Tryd.prog 61 #[.int .i32 r] W fun e w' => e = .returned (.bool true) ∧ w' = W := fun W => by have := sh_utf8_ValidRune r W; rw [vr] at this; exact this
  have I : ∀ (t : ByteArray) (x : Int) W, t.data.toList = [45] → x = (b.toNat : Int) → Calls Tryd.prog 143 #[.string t, .int .u8 x] W fun e w' => e = .returned (.int .i64 (-1)) ∧ w' = W := fun t x W ht hx => by
    have := sh_strings_IndexByte t x W
    rw [hx, show ((b.toNat : Int)).toNat.toUInt8 = b by simp, ht, index_one b hb, ← hx] at this
    exact this
  have n1 : ∀ (p1 : 1 < signs.size) (p2 : 1 < (⟨#[a, b]⟩ : ByteArray).size), (((signs[1]'p1).toNat : Int) != (((⟨#[a, b]⟩ : ByteArray)[1]'p2).toNat : Int)) = true := by
    intro p1 p2
    show ((95 : Int) != (b.toNat : Int)) = true
    simp; omega
  have r2 : IntKind.i64.wrap 2 = 2 := by decide
  have g1 : ¬ (r < 128) := by omega
  have g2 : (r == 65533) = false := by simp; omega
  have mixed : Tryd.prog.follows .mixedOrders = true := by kernel_rfl
  clear vr
  go_enter Tryd.func133, Tryd.ntmps133
  go_wp2_with (first | (go_at_call 61; (with_reducible refine (C _).mono ?_); rintro e w' ⟨rfl, rfl⟩))
  go_step3
  go_wp2
  refine wp_loop_rounds 1 ?_
  rw [rounds_succ]
  go_wp2
  go_step3
  go_wp2_with fail
  go_big_region_o
  have B1 := below_drew1 (Below.refl w'.heap.size w')
  generalize World.drew w' = w1 at B1 ⊢
  go_wp2_with fail
  go_quiet (first | (go_at_call 143; refine Calls.quiet_of_same (I _ _ _ ext23 ?_); rfl))
  go_wp2
  rw [Exit.noGoto_ret]
  try go_wp2
  try rw [Exit.noGoto_ret]
  go_ret
  exact ⟨rfl, pw_below_drewN B1 nq⟩
set_option maxHeartbeats 4000000 in
set_option maxRecDepth 100000 in
theorem indexRune_w3 (r : Int) (h0 : 2048 ≤ r) (h1 : r < 65536) (hs : r < 55296 ∨ 57344 ≤ r) (hn : r ≠ 65533) (w : World) : Calls Tryd.prog 133 #[.string signs, .int .i32 r] w fun e w' => e = .returned (.int .i64 (-1)) ∧ Below w.heap.size w w' := by
  have v : Utf8.valid r = true := by unfold Utf8.valid; simp; omega
  obtain ⟨a, b, c, he, hb⟩ := enc_w3 r h0 h1 v
  have vr : Lib.validRune r = true := by unfold Lib.validRune; simp; omega
  have C : ∀ W, Calls Tryd.prog 61 #[.int .i32 r] W fun e w' => e = .returned (.bool true) ∧ w' = W := fun W => by have := sh_utf8_ValidRune r W; rw [vr] at this; exact this
  have I : ∀ (t : ByteArray) (x : Int) W, t.data.toList = [] → x = (c.toNat : Int) → Calls Tryd.prog 143 #[.string t, .int .u8 x] W fun e w' => e = .returned (.int .i64 (-1)) ∧ w' = W := fun t x W ht hx => by
    have := sh_strings_IndexByte t x W
    rw [hx, show ((c.toNat : Int)).toNat.toUInt8 = c by simp, ht, index_nil c, ← hx] at this
    exact this
  have n1 : ∀ (p1 : 2 < signs.size) (p2 : 2 < (⟨#[a, b, c]⟩ : ByteArray).size), (((signs[2]'p1).toNat : Int) != (((⟨#[a, b, c]⟩ : ByteArray)[2]'p2).toNat : Int)) = true := by
    intro p1 p2
    show ((45 : Int) != (c.toNat : Int)) = true
    simp; omega
  have r2 : IntKind.i64.wrap 3 = 3 := by decide
  have g1 : ¬ (r < 128) := by omega
  have g2 : (r == 65533) = false := by simp; omega
  have mixed : Tryd.prog.follows .mixedOrders = true := by kernel_rfl
  clear vr
  go_enter Tryd.func133, Tryd.ntmps133
  go_wp2_with (first | (go_at_call 61; (with_reducible refine (C _).mono ?_); rintro e w' ⟨rfl, rfl⟩))
  go_step3
  go_wp2
  refine wp_loop_rounds 1 ?_
  rw [rounds_succ]
  go_wp2
  go_step3
  go_wp2_with fail
  go_big_region_o
  have B1 := below_drew1 (Below.refl w'.heap.size w')
  generalize World.drew w' = w1 at B1 ⊢
  go_wp2_with fail
  go_quiet (first | (go_at_call 143; refine Calls.quiet_of_same (I _ _ _ ext33 ?_); rfl))
  go_wp2
  rw [Exit.noGoto_ret]
  try go_wp2
  try rw [Exit.noGoto_ret]
  go_ret
  exact ⟨rfl, pw_below_drewN B1 nq⟩
set_option maxHeartbeats 4000000 in
set_option maxRecDepth 100000 in
theorem indexRune_w4 (r : Int) (h0 : 65536 ≤ r) (h1 : r ≤ 1114111) (w : World) : Calls Tryd.prog 133 #[.string signs, .int .i32 r] w fun e w' => e = .returned (.int .i64 (-1)) ∧ Below w.heap.size w w' := by
  have v : Utf8.valid r = true := by unfold Utf8.valid; simp; omega
  obtain ⟨a, b, c, d, he⟩ := enc_w4 r h0 v
  have vr : Lib.validRune r = true := by unfold Lib.validRune; simp; omega
  have C : ∀ W, Calls Tryd.prog 61 #[.int .i32 r] W fun e w' => e = .returned (.bool true) ∧ w' = W := fun W => by have := sh_utf8_ValidRune r W; rw [vr] at this; exact this
  have g1 : ¬ (r < 128) := by omega
  have g2 : (r == 65533) = false := by simp; omega
  have mixed : Tryd.prog.follows .mixedOrders = true := by kernel_rfl
  clear vr
  go_enter Tryd.func133, Tryd.ntmps133
  go_wp2_with (first | (go_at_call 61; (with_reducible refine (C _).mono ?_); rintro e w' ⟨rfl, rfl⟩))
  go_step3
  go_wp2
  refine wp_loop_rounds 1 ?_
  rw [rounds_succ]
  go_wp2
  rw [Exit.noGoto_ret]
  try go_wp2
  try rw [Exit.noGoto_ret]
  go_ret
  exact ⟨rfl, Below.refl _ _⟩
end Go.Proofs.YtpkjpiphjdpegaaDoor.P
namespace Go.Proofs.YtpkjpiphjdpegaaDoor.P
open Go.RowKit Go.Proofs.YtpkjpiphjdpegaaDoorW.PrintWords Go.Proofs.YtpkjpiphjdpegaaDoorW.PrintLast Go.Proofs.YtpkjpiphjdpegaaDoorW.PrintMore
set_option linter.unusedVariables false
set_option linter.unusedSimpArgs false
def withinR (c : Int) : Bool := decide (97 ≤ c ∧ c ≤ 122 ∨ 65 ≤ c ∧ c ≤ 90 ∨ 48 ≤ c ∧ c ≤ 57 ∨ c = 46 ∨ c = 95 ∨ c = 45 ∨ 161 ≤ c)
def mayId (s : ByteArray) : Bool := Lib.validD s.data.toList && (runesAt s s.size 0).all withinR && decide (1 ≤ (runesAt s s.size 0).length ∧ (runesAt s s.size 0).length ≤ 24)
def tag_MayId.f (a0 : ByteArray) : Option Bool := if a0.size ≤ 1000000000 then some (mayId a0) else none
theorem count_is (s : ByteArray) : ∀ n p, Lib.runeCountFrom s n p = (runesAt s n p).length
  | 0, p => rfl
  | n + 1, p => by
    rw [Lib.runeCountFrom, runesAt]
    by_cases h : p < s.size
    · rw [if_pos h, if_pos h, List.length_cons, count_is s n]; omega
    · rw [if_neg h, if_neg h]; rfl
theorem dec_signs (p : Nat) (h : p < 3) : ((Utf8.decode signs p).1 : Int) ≠ 65533 ∧ (Utf8.decode signs p).2 = 1 := by
  match p, h with
  | 0, _ => decide
  | 1, _ => decide
  | 2, _ => decide
set_option maxHeartbeats 4000000 in
set_option maxRecDepth 100000 in
theorem indexRune_fffd (w : World) : Calls Tryd.prog 133 #[.string signs, .int .i32 65533] w fun e w' => e = .returned (.int .i64 (-1)) ∧ Below w.heap.size w w' := by
  go_enter Tryd.func133, Tryd.ntmps133
  go_wp2
  go_loopg [5, 6] 3 (fun gk v5 v6 wr => ∃ p : Nat, p + gk = 3 ∧ wr.heap[w.heap.size]? = some (.stringIter signs p) ∧ Aside0 (Below w.heap.size w wr))
  case atStart => exact ⟨0, rfl, World.iter_heap w signs 0, ⟨below_alloc (Below.refl _ _) _⟩⟩
  case round =>
    obtain ⟨p, hg, hit, HB⟩ := hrel
    have hwib : w.heap.size ≤ w.heap.size := Nat.le_refl _
    have sz : signs.size = 3 := rfl
    by_cases hp : p < signs.size
    · have hnx : ∀ ty, (Instr.next (.pointer (some ⟨w.heap.size, 0, none⟩)) true ty).run Tryd.prog wr = _ := fun ty => Lib.run_next_any_at wr w.heap.size signs p ty hit hp
      obtain ⟨d1, d2⟩ := dec_signs p (by omega)
      rw [d2] at hnx
      have dn : (((Utf8.decode signs p).1 : Int) == 65533) = false := by simpa using d1
      obtain ⟨W2, hW2⟩ : ∃ W2, wr.iterAt w.heap.size signs (p + 1) = W2 := ⟨_, rfl⟩
      have HB2 : Aside0 (Below w.heap.size w W2) := ⟨by rw [← hW2]; exact Lib.below_iterAt HB.out hwib signs _⟩
      have hit2 : W2.heap[w.heap.size]? = some (.stringIter signs (p + 1)) := by rw [← hW2]; exact Lib.iterAt_heap wr w.heap.size signs p _ hit
      rw [hW2] at hnx
      clear d1 d2 hit
      go_wp2
      go_roundg (3 - (p + 1))
      case measure => omega
      case rel => exact ⟨p + 1, by omega, hit2, HB2⟩
    · have hnx : ∀ ty, (Instr.next (.pointer (some ⟨w.heap.size, 0, none⟩)) true ty).run Tryd.prog wr = _ := fun ty => Lib.run_next_end_at wr w.heap.size signs p ty hit hp
      go_wp2
      go_ret
      exact ⟨rfl, HB.out⟩
set_option maxHeartbeats 4000000 in
set_option maxRecDepth 100000 in
theorem indexRune_sur (r : Int) (h0 : 55296 ≤ r) (h1 : r < 57344) (w : World) : Calls Tryd.prog 133 #[.string signs, .int .i32 r] w fun e w' => e = .returned (.int .i64 (-1)) ∧ Below w.heap.size w w' := by
  have vr : Lib.validRune r = false := by unfold Lib.validRune; simp; omega
  have C : ∀ W, Calls Tryd.prog 61 #[.int .i32 r] W fun e w' => e = .returned (.bool false) ∧ w' = W := fun W => by have := sh_utf8_ValidRune r W; rw [vr] at this; exact this
  have g1 : ¬ (r < 128) := by omega
  have g2 : (r == 65533) = false := by simp; omega
  clear vr
  go_enter Tryd.func133, Tryd.ntmps133
  go_wp2_with (first | (go_at_call 61; (with_reducible refine (C _).mono ?_); rintro e w' ⟨rfl, rfl⟩))
  go_ret
  exact ⟨rfl, Below.refl _ _⟩
theorem indexRune_high (r : Int) (h0 : 128 ≤ r) (h1 : r ≤ 1114111) (w : World) : Calls Tryd.prog 133 #[.string signs, .int .i32 r] w fun e w' => e = .returned (.int .i64 (-1)) ∧ Below w.heap.size w w' := by
  by_cases c1 : r < 2048
  · exact indexRune_w2 r h0 c1 w
  · by_cases c2 : 55296 ≤ r ∧ r < 57344
    · exact indexRune_sur r c2.1 c2.2 w
    · by_cases c3 : r = 65533
      · rw [c3]; exact indexRune_fffd w
      · by_cases c4 : r < 65536
        · exact indexRune_w3 r (by omega) c4 (by omega) c3 w
        · exact indexRune_w4 r (by omega) h1 w
def sign (r : Int) : Bool := decide (r = 46 ∨ r = 95 ∨ r = 45)
theorem sign_ascii (r : Int) (h0 : 0 ≤ r) (h1 : r < 128) : decide (0 ≤ Lib.indexByte signs.data.toList r.toNat.toUInt8) = sign r := by
  rw [← Lib.contains_iff_indexByte]
  unfold sign
  rw [Bool.eq_iff_iff, decide_eq_true_eq]
  show (([46, 95, 45] : List UInt8).contains r.toNat.toUInt8 = true) ↔ _
  have e : ∀ k : Nat, k < 128 → ((r.toNat.toUInt8 = k.toUInt8) ↔ r = (k : Int)) := fun k hk => by
    constructor
    · intro h
      have := congrArg UInt8.toNat h
      simp only [Nat.toUInt8, UInt8.toNat_ofNat'] at this
      omega
    · intro h; rw [h]; rfl
  have e1 := e 46 (by omega)
  have e2 := e 95 (by omega)
  have e3 := e 45 (by omega)
  rw [List.contains_iff_mem]
  simp only [List.mem_cons, List.not_mem_nil, or_false]
  exact or_congr e1 (or_congr e2 e3)
set_option maxHeartbeats 4000000 in
set_option maxRecDepth 100000 in
theorem contains_is (r : Int) (h0 : 0 ≤ r) (h1 : r ≤ 1114111) (w : World) : Calls Tryd.prog 119 #[.string signs, .int .i32 r] w fun e w' => e = .returned (.bool (sign r)) ∧ Below w.heap.size w w' := by
  by_cases c : r < 128
  · have := sh_strings_ContainsRune_ascii signs r w h0 c
    rw [sign_ascii r h0 c] at this
    exact this.mono fun e w' ⟨he, hw⟩ => ⟨he, by rw [hw]; exact Below.refl _ _⟩
  · have hs : sign r = false := by unfold sign; rw [decide_eq_false]; omega
    rw [hs]
    have C := indexRune_high r (by omega) h1
    go_enter Tryd.func119, Tryd.ntmps119
    go_wp2_with (first | (go_at_call 133; (with_reducible refine (C _).mono ?_); rintro e w' ⟨rfl, hb⟩))
    go_ret
    exact ⟨by simp, hb⟩
set_option maxHeartbeats 4000000 in
set_option maxRecDepth 100000 in
theorem within_is (r : Int) (h0 : 0 ≤ r) (h1 : r ≤ 1114111) (w : World) : Calls Tryd.prog 90 #[.int .i32 r] w fun e w' => e = .returned (.bool (withinR r)) ∧ Below w.heap.size w w' := by
  have C := contains_is r h0 h1
  obtain ⟨b, hb⟩ : ∃ b, sign r = b := ⟨_, rfl⟩
  rw [hb] at C
  obtain ⟨v, hv⟩ : ∃ v, withinR r = v := ⟨_, rfl⟩
  rw [hv]
  have V := hv
  unfold withinR at V
  unfold sign at hb
  by_cases a1 : 97 ≤ r
  · by_cases a2 : r ≤ 122
    · have e : v = true := by rw [← V]; simp; omega
      subst e
      clear V hb hv
      go_enter Tryd.func90, Tryd.ntmps90
      go_wp2
      go_ret
      exact ⟨by simp, Below.refl _ _⟩
    · have q1 : ¬ r ≤ 90 := by omega
      have q2 : ¬ r ≤ 57 := by omega
      have q3 : 65 ≤ r := by omega
      have q4 : 48 ≤ r := by omega
      have eb : b = false := by rw [← hb]; simp; omega
      have e : v = decide (161 ≤ r) := by rw [← V, decide_eq_decide]; omega
      subst eb e
      clear V hb hv
      go_enter Tryd.func90, Tryd.ntmps90
      go_wp2_with (first | (go_at_call 119; (with_reducible refine (C _).mono ?_); rintro e w' ⟨rfl, hb⟩))
      go_ret
      exact ⟨by simp, hb⟩
  · by_cases a3 : 65 ≤ r
    · have q4 : 48 ≤ r := by omega
      by_cases a4 : r ≤ 90
      · have e : v = true := by rw [← V]; simp; omega
        subst e
        clear V hb hv
        go_enter Tryd.func90, Tryd.ntmps90
        go_wp2
        go_ret
        exact ⟨by simp, Below.refl _ _⟩
      · have q2 : ¬ r ≤ 57 := by omega
        have q5 : ¬ 161 ≤ r := by omega
        have e : v = b := by rw [← V, ← hb, decide_eq_decide]; omega
        subst e
        clear V hb hv
        go_enter Tryd.func90, Tryd.ntmps90
        cases v
        all_goals
          go_wp2_with (first | (go_at_call 119; (with_reducible refine (C _).mono ?_); rintro e w' ⟨rfl, hb⟩))
          go_ret
          exact ⟨by first | (simp; done) | (simp; omega), hb⟩
    · have q5 : ¬ 161 ≤ r := by omega
      by_cases a5 : 48 ≤ r
      · by_cases a6 : r ≤ 57
        · have e : v = true := by rw [← V]; simp; omega
          subst e
          clear V hb hv
          go_enter Tryd.func90, Tryd.ntmps90
          go_wp2
          go_ret
          exact ⟨by simp, Below.refl _ _⟩
        · have e : v = b := by rw [← V, ← hb, decide_eq_decide]; omega
          subst e
          clear V hb hv
          go_enter Tryd.func90, Tryd.ntmps90
          cases v
          all_goals
            go_wp2_with (first | (go_at_call 119; (with_reducible refine (C _).mono ?_); rintro e w' ⟨rfl, hb⟩))
            go_ret
            exact ⟨by first | (simp; done) | (simp; omega), hb⟩
      · have e : v = b := by rw [← V, ← hb, decide_eq_decide]; omega
        subst e
        clear V hb hv
        go_enter Tryd.func90, Tryd.ntmps90
        cases v
        all_goals
          go_wp2_with (first | (go_at_call 119; (with_reducible refine (C _).mono ?_); rintro e w' ⟨rfl, hb⟩))
          go_ret
          exact ⟨by first | (simp; done) | (simp; omega), hb⟩
set_option maxHeartbeats 4000000 in
set_option maxRecDepth 100000 in
theorem tag_MayId.calls (a0 : ByteArray) (r : Bool) (w : World) (hG : GT w) (h : tag_MayId.f a0 = some r) :
    Calls Tryd.prog 51 #[.string a0] w fun e w' => e = .returned (.bool r) ∧ Below w.heap.size w w' := by
  have hs : a0.size ≤ 1000000000 := by
    unfold tag_MayId.f at h
    split at h
    · assumption
    · cases h
  unfold tag_MayId.f at h
  rw [if_pos hs] at h
  have h' := Option.some.inj h
  clear h
  obtain ⟨n, hn⟩ : ∃ n, (runesAt a0 a0.size 0).length = n := ⟨_, rfl⟩
  have N : ∀ W, Calls Tryd.prog 89 #[.string a0] W fun e w' => e = .returned (.int .i64 (n : Int)) ∧ Below W.heap.size W w' := fun W => by
    refine (sh_utf8_RuneCountInString a0 W (by omega)).mono ?_
    rintro e w' ⟨he, pos, rfl⟩
    refine ⟨?_, below_alloc (Below.refl _ _) _⟩
    rw [he]
    unfold Lib.runeCount
    rw [count_is, hn]
  have V : ∀ W, Below w.heap.size w W → Calls Tryd.prog 58 #[.string a0] W fun e w' => e = .returned (.bool (Lib.validD a0.data.toList)) ∧ Below W.heap.size W w' := fun W hb => valid_is a0 W (by omega) (gt_below hG hb)
  unfold mayId at h'
  rw [hn] at h'
  by_cases c1 : (n : Int) < 1
  · have e : r = false := by rw [← h', decide_eq_false (show ¬ (1 ≤ n ∧ n ≤ 24) by omega), Bool.and_false]
    subst e
    clear h' V hn
    go_enter Tryd.func51, Tryd.ntmps51
    go_wp2_with (first | (go_at_call 89; (with_reducible refine (N _).mono ?_); rintro e w1 ⟨rfl, hb1⟩))
    go_ret
    exact ⟨rfl, hb1⟩
  · by_cases c2 : (24 : Int) < (n : Int)
    · have e : r = false := by rw [← h', decide_eq_false (show ¬ (1 ≤ n ∧ n ≤ 24) by omega), Bool.and_false]
      subst e
      clear h' V hn
      go_enter Tryd.func51, Tryd.ntmps51
      go_wp2_with (first | (go_at_call 89; (with_reducible refine (N _).mono ?_); rintro e w1 ⟨rfl, hb1⟩))
      go_ret
      exact ⟨rfl, hb1⟩
    · rw [decide_eq_true (show 1 ≤ n ∧ n ≤ 24 by omega), Bool.and_true] at h'
      by_cases v : Lib.validD a0.data.toList = true
      · rw [v, Bool.true_and] at h'
        rw [v] at V
        clear v
        go_enter Tryd.func51, Tryd.ntmps51
        go_wp2_with (first | (go_at_call 89; (with_reducible refine (N _).mono ?_); rintro e w1 ⟨rfl, hb1⟩) | (go_at_call 58; (with_reducible refine (V _ hb1).mono ?_); rintro e w2 ⟨rfl, hb2⟩; have hb3 := below_step hb1 hb2))
        have hwib : w.heap.size ≤ w2.heap.size := hb3.size
        go_loopg [5] a0.size (fun gk v5 wr => ∃ p : Nat, Aside0 ((runesAt a0 gk p).all withinR = r ∧ a0.size ≤ p + gk) ∧ wr.heap[w2.heap.size]? = some (.stringIter a0 p) ∧ Aside0 (Below w.heap.size w wr))
        case atStart => exact ⟨0, ⟨h', by omega⟩, World.iter_heap w2 a0 0, ⟨below_alloc hb3 _⟩⟩
        case round =>
          obtain ⟨p, HX, hit, HB⟩ := hrel
          by_cases hp : p < a0.size
          · have hnx : ∀ ty, (Instr.next (.pointer (some ⟨w2.heap.size, 0, none⟩)) true ty).run Tryd.prog wr = _ := fun ty => Lib.run_next_any_at wr w2.heap.size a0 p ty hit hp
            have hwd := wide_pos a0 p hp
            have hrl := Lib.rune_le a0 p
            obtain ⟨k1, rfl⟩ : ∃ k1, gk = k1 + 1 := ⟨gk - 1, by have := HX.out.2; omega⟩
            obtain ⟨W2, hW2⟩ : ∃ W2, wr.iterAt w2.heap.size a0 (p + (Utf8.decode a0 p).2) = W2 := ⟨_, rfl⟩
            have HB2 : Aside0 (Below w.heap.size w W2) := ⟨by rw [← hW2]; exact Lib.below_iterAt HB.out hwib a0 _⟩
            have hit2 : W2.heap[w2.heap.size]? = some (.stringIter a0 (p + (Utf8.decode a0 p).2)) := by rw [← hW2]; exact Lib.iterAt_heap wr w2.heap.size a0 p _ hit
            rw [hW2] at hnx
            have X := HX.out.1
            rw [runesAt, if_pos hp, List.all_cons] at X
            obtain ⟨cr, hcr⟩ : ∃ cr : Nat, (Utf8.decode a0 p).1 = cr := ⟨_, rfl⟩
            obtain ⟨cw, hcw⟩ : ∃ cw : Nat, (Utf8.decode a0 p).2 = cw := ⟨_, rfl⟩
            rw [hcr] at hnx hrl X
            rw [hcw] at hwd hit2 X
            have C := within_is (cr : Int) (by omega) (by omega)
            by_cases q : withinR (cr : Int) = true
            · rw [q] at C
              rw [q, Bool.true_and] at X
              have X' := Aside0.mk X
              clear X h' N V hcr hcw hit
              go_wp2_with (first | (go_at_call 90; (with_reducible refine (C _).mono ?_); rintro e w4 ⟨rfl, hb4⟩; have HB4 := Aside0.mk (below_step HB2.out hb4); have hit4 := (hb4.block w2.heap.size (Array.getElem?_eq_some_iff.1 hit2).1).trans hit2))
              go_roundg k1
              case measure => omega
              case rel => exact ⟨p + cw, ⟨X'.out, by have := HX.out.2; omega⟩, hit4, HB4⟩
            · have q : withinR (cr : Int) = false := by simpa using q
              rw [q] at C
              rw [q, Bool.false_and] at X
              subst X
              clear h' N V hcr hcw hit
              go_wp2_with (first | (go_at_call 90; (with_reducible refine (C _).mono ?_); rintro e w4 ⟨rfl, hb4⟩; have HB4 := Aside0.mk (below_step HB2.out hb4)))
              go_ret
              exact ⟨rfl, HB4.out⟩
          · have hnx : ∀ ty, (Instr.next (.pointer (some ⟨w2.heap.size, 0, none⟩)) true ty).run Tryd.prog wr = _ := fun ty => Lib.run_next_end_at wr w2.heap.size a0 p ty hit hp
            have X := HX.out.1
            rw [runesAt_end a0 gk p hp] at X
            subst X
            clear h' N V
            go_wp2
            go_ret
            exact ⟨rfl, HB.out⟩
      · have v : Lib.validD a0.data.toList = false := by simpa using v
        rw [v, Bool.false_and] at h'
        subst h'
        rw [v] at V
        clear v
        go_enter Tryd.func51, Tryd.ntmps51
        go_wp2_with (first | (go_at_call 89; (with_reducible refine (N _).mono ?_); rintro e w1 ⟨rfl, hb1⟩) | (go_at_call 58; (with_reducible refine (V _ hb1).mono ?_); rintro e w2 ⟨rfl, hb2⟩; have hb3 := below_step hb1 hb2))
        go_ret
        exact ⟨rfl, hb3⟩
end Go.Proofs.YtpkjpiphjdpegaaDoor.P
namespace Go.Proofs.YtpkjpiphjdpegaaDoor.P
open Go.RowKit Go.Proofs.YtpkjpiphjdpegaaDoorW.PrintWords Go.Proofs.YtpkjpiphjdpegaaDoorW.PrintLast Go.Proofs.YtpkjpiphjdpegaaDoorW.PrintMore
attribute [local go_sem] max2_int min2_int max_two min_two max_three min_three max_four min_four
set_option linter.unusedVariables false
set_option linter.unusedSimpArgs false
def paymasterref07_within.f (a0 : Int) : Option (Bool) := if a0 ≥ 97 then (if a0 ≤ 122 then (some true) else (if a0 ≥ 65 then (if a0 ≤ 90 then (some true) else (if a0 ≥ 48 then (if a0 ≤ 57 then (some true) else (if a0 = 46 then (some true) else (if a0 = 95 then (some true) else (if a0 = 45 then (some true) else (some (decide (a0 ≥ 161))))))) else (if a0 = 46 then (some true) else (if a0 = 95 then (some true) else (if a0 = 45 then (some true) else (some (decide (a0 ≥ 161)))))))) else (if a0 ≥ 48 then (if a0 ≤ 57 then (some true) else (if a0 = 46 then (some true) else (if a0 = 95 then (some true) else (if a0 = 45 then (some true) else (some (decide (a0 ≥ 161))))))) else (if a0 = 46 then (some true) else (if a0 = 95 then (some true) else (if a0 = 45 then (some true) else (some (decide (a0 ≥ 161))))))))) else (if a0 ≥ 65 then (if a0 ≤ 90 then (some true) else (if a0 ≥ 48 then (if a0 ≤ 57 then (some true) else (if a0 = 46 then (some true) else (if a0 = 95 then (some true) else (if a0 = 45 then (some true) else (some (decide (a0 ≥ 161))))))) else (if a0 = 46 then (some true) else (if a0 = 95 then (some true) else (if a0 = 45 then (some true) else (some (decide (a0 ≥ 161)))))))) else (if a0 ≥ 48 then (if a0 ≤ 57 then (some true) else (if a0 = 46 then (some true) else (if a0 = 95 then (some true) else (if a0 = 45 then (some true) else (some (decide (a0 ≥ 161))))))) else (if a0 = 46 then (some true) else (if a0 = 95 then (some true) else (if a0 = 45 then (some true) else (some (decide (a0 ≥ 161))))))))
set_option maxHeartbeats 8000000 in
set_option maxRecDepth 100000 in
theorem paymasterref07_within.calls (a0 : Int) (r : Bool) (w : World) (h : paymasterref07_within.f a0 = some r) :
    Calls Tryd.prog 109 #[.int .i64 a0] w fun e w' => e = .returned (.bool r) ∧ Drawn0 w w' := by
  have H : (if a0 ≥ 97 then (if a0 ≤ 122 then (some true) else (if a0 ≥ 65 then (if a0 ≤ 90 then (some true) else (if a0 ≥ 48 then (if a0 ≤ 57 then (some true) else (if a0 = 46 then (some true) else (if a0 = 95 then (some true) else (if a0 = 45 then (some true) else (some (decide (a0 ≥ 161))))))) else (if a0 = 46 then (some true) else (if a0 = 95 then (some true) else (if a0 = 45 then (some true) else (some (decide (a0 ≥ 161)))))))) else (if a0 ≥ 48 then (if a0 ≤ 57 then (some true) else (if a0 = 46 then (some true) else (if a0 = 95 then (some true) else (if a0 = 45 then (some true) else (some (decide (a0 ≥ 161))))))) else (if a0 = 46 then (some true) else (if a0 = 95 then (some true) else (if a0 = 45 then (some true) else (some (decide (a0 ≥ 161))))))))) else (if a0 ≥ 65 then (if a0 ≤ 90 then (some true) else (if a0 ≥ 48 then (if a0 ≤ 57 then (some true) else (if a0 = 46 then (some true) else (if a0 = 95 then (some true) else (if a0 = 45 then (some true) else (some (decide (a0 ≥ 161))))))) else (if a0 = 46 then (some true) else (if a0 = 95 then (some true) else (if a0 = 45 then (some true) else (some (decide (a0 ≥ 161)))))))) else (if a0 ≥ 48 then (if a0 ≤ 57 then (some true) else (if a0 = 46 then (some true) else (if a0 = 95 then (some true) else (if a0 = 45 then (some true) else (some (decide (a0 ≥ 161))))))) else (if a0 = 46 then (some true) else (if a0 = 95 then (some true) else (if a0 = 45 then (some true) else (some (decide (a0 ≥ 161))))))))) = some r := h
  clear h
  by_cases c2 : a0 ≥ 97
  · rw [if_pos c2] at H
    have c2b0 : decide (97 ≤ a0) = true := decide_eq_true c2
    clear c2
    by_cases c3 : a0 ≤ 122
    · rw [if_pos c3] at H
      have c3b0 : decide (a0 ≤ 122) = true := decide_eq_true c3
      clear c3
      obtain rfl := Option.some.inj H
      go_enter Tryd.func109, Tryd.ntmps109
      go_wp2
      go_ret
      exact ⟨by first | rfl | (simp; done) | (simp [*]; done), by repeat (first | exact Drawn0.refl _ | apply Drawn0.step)⟩
    · rw [if_neg c3] at H
      have c3b0 : decide (a0 ≤ 122) = false := decide_eq_false c3
      clear c3
      by_cases c4 : a0 ≥ 65
      · rw [if_pos c4] at H
        have c4b0 : decide (65 ≤ a0) = true := decide_eq_true c4
        clear c4
        by_cases c5 : a0 ≤ 90
        · rw [if_pos c5] at H
          have c5b0 : decide (a0 ≤ 90) = true := decide_eq_true c5
          clear c5
          obtain rfl := Option.some.inj H
          go_enter Tryd.func109, Tryd.ntmps109
          go_wp2
          go_ret
          exact ⟨by first | rfl | (simp; done) | (simp [*]; done), by repeat (first | exact Drawn0.refl _ | apply Drawn0.step)⟩
        · rw [if_neg c5] at H
          have c5b0 : decide (a0 ≤ 90) = false := decide_eq_false c5
          clear c5
          by_cases c6 : a0 ≥ 48
          · rw [if_pos c6] at H
            have c6b0 : decide (48 ≤ a0) = true := decide_eq_true c6
            clear c6
            by_cases c7 : a0 ≤ 57
            · rw [if_pos c7] at H
              have c7b0 : decide (a0 ≤ 57) = true := decide_eq_true c7
              clear c7
              obtain rfl := Option.some.inj H
              go_enter Tryd.func109, Tryd.ntmps109
              go_wp2
              go_ret
              exact ⟨by first | rfl | (simp; done) | (simp [*]; done), by repeat (first | exact Drawn0.refl _ | apply Drawn0.step)⟩
            · rw [if_neg c7] at H
              have c7b0 : decide (a0 ≤ 57) = false := decide_eq_false c7
              clear c7
              by_cases c8 : a0 = 46
              · rw [if_pos c8] at H
                have c8b0 : (a0 == 46) = true := beq_iff_eq.mpr c8
                have c8b1 : (a0 != 46) = false := bne_eq_false_iff_eq.mpr c8
                clear c8
                obtain rfl := Option.some.inj H
                go_enter Tryd.func109, Tryd.ntmps109
                go_wp2
                go_ret
                exact ⟨by first | rfl | (simp; done) | (simp [*]; done), by repeat (first | exact Drawn0.refl _ | apply Drawn0.step)⟩
              · rw [if_neg c8] at H
                have c8b0 : (a0 == 46) = false := beq_eq_false_iff_ne.mpr c8
                have c8b1 : (a0 != 46) = true := bne_iff_ne.mpr c8
                by_cases c9 : a0 = 95
                · rw [if_pos c9] at H
                  have c9b0 : (a0 == 95) = true := beq_iff_eq.mpr c9
                  have c9b1 : (a0 != 95) = false := bne_eq_false_iff_eq.mpr c9
                  clear c9
                  obtain rfl := Option.some.inj H
                  go_enter Tryd.func109, Tryd.ntmps109
                  go_wp2
                  go_ret
                  exact ⟨by first | rfl | (simp; done) | (simp [*]; done), by repeat (first | exact Drawn0.refl _ | apply Drawn0.step)⟩
                · rw [if_neg c9] at H
                  have c9b0 : (a0 == 95) = false := beq_eq_false_iff_ne.mpr c9
                  have c9b1 : (a0 != 95) = true := bne_iff_ne.mpr c9
                  by_cases c10 : a0 = 45
                  · rw [if_pos c10] at H
                    have c10b0 : (a0 == 45) = true := beq_iff_eq.mpr c10
                    have c10b1 : (a0 != 45) = false := bne_eq_false_iff_eq.mpr c10
                    clear c10
                    obtain rfl := Option.some.inj H
                    go_enter Tryd.func109, Tryd.ntmps109
                    go_wp2
                    go_ret
                    exact ⟨by first | rfl | (simp; done) | (simp [*]; done), by repeat (first | exact Drawn0.refl _ | apply Drawn0.step)⟩
                  · rw [if_neg c10] at H
                    have c10b0 : (a0 == 45) = false := beq_eq_false_iff_ne.mpr c10
                    have c10b1 : (a0 != 45) = true := bne_iff_ne.mpr c10
                    obtain rfl := Option.some.inj H
                    go_enter Tryd.func109, Tryd.ntmps109
                    go_wp2
                    go_ret
                    exact ⟨by first | rfl | (simp; done) | (simp [*]; done), by repeat (first | exact Drawn0.refl _ | apply Drawn0.step)⟩
          · rw [if_neg c6] at H
            have c6b0 : decide (48 ≤ a0) = false := decide_eq_false c6
            clear c6
            by_cases c11 : a0 = 46
            · rw [if_pos c11] at H
              have c11b0 : (a0 == 46) = true := beq_iff_eq.mpr c11
              have c11b1 : (a0 != 46) = false := bne_eq_false_iff_eq.mpr c11
              clear c11
              obtain rfl := Option.some.inj H
              go_enter Tryd.func109, Tryd.ntmps109
              go_wp2
              go_ret
              exact ⟨by first | rfl | (simp; done) | (simp [*]; done), by repeat (first | exact Drawn0.refl _ | apply Drawn0.step)⟩
            · rw [if_neg c11] at H
              have c11b0 : (a0 == 46) = false := beq_eq_false_iff_ne.mpr c11
              have c11b1 : (a0 != 46) = true := bne_iff_ne.mpr c11
              by_cases c12 : a0 = 95
              · rw [if_pos c12] at H
                have c12b0 : (a0 == 95) = true := beq_iff_eq.mpr c12
                have c12b1 : (a0 != 95) = false := bne_eq_false_iff_eq.mpr c12
                clear c12
                obtain rfl := Option.some.inj H
                go_enter Tryd.func109, Tryd.ntmps109
                go_wp2
                go_ret
                exact ⟨by first | rfl | (simp; done) | (simp [*]; done), by repeat (first | exact Drawn0.refl _ | apply Drawn0.step)⟩
              · rw [if_neg c12] at H
                have c12b0 : (a0 == 95) = false := beq_eq_false_iff_ne.mpr c12
                have c12b1 : (a0 != 95) = true := bne_iff_ne.mpr c12
                by_cases c13 : a0 = 45
                · rw [if_pos c13] at H
                  have c13b0 : (a0 == 45) = true := beq_iff_eq.mpr c13
                  have c13b1 : (a0 != 45) = false := bne_eq_false_iff_eq.mpr c13
                  clear c13
                  obtain rfl := Option.some.inj H
                  go_enter Tryd.func109, Tryd.ntmps109
                  go_wp2
                  go_ret
                  exact ⟨by first | rfl | (simp; done) | (simp [*]; done), by repeat (first | exact Drawn0.refl _ | apply Drawn0.step)⟩
                · rw [if_neg c13] at H
                  have c13b0 : (a0 == 45) = false := beq_eq_false_iff_ne.mpr c13
                  have c13b1 : (a0 != 45) = true := bne_iff_ne.mpr c13
                  obtain rfl := Option.some.inj H
                  go_enter Tryd.func109, Tryd.ntmps109
                  go_wp2
                  go_ret
                  exact ⟨by first | rfl | (simp; done) | (simp [*]; done), by repeat (first | exact Drawn0.refl _ | apply Drawn0.step)⟩
      · rw [if_neg c4] at H
        have c4b0 : decide (65 ≤ a0) = false := decide_eq_false c4
        clear c4
        by_cases c14 : a0 ≥ 48
        · rw [if_pos c14] at H
          have c14b0 : decide (48 ≤ a0) = true := decide_eq_true c14
          clear c14
          by_cases c15 : a0 ≤ 57
          · rw [if_pos c15] at H
            have c15b0 : decide (a0 ≤ 57) = true := decide_eq_true c15
            clear c15
            obtain rfl := Option.some.inj H
            go_enter Tryd.func109, Tryd.ntmps109
            go_wp2
            go_ret
            exact ⟨by first | rfl | (simp; done) | (simp [*]; done), by repeat (first | exact Drawn0.refl _ | apply Drawn0.step)⟩
          · rw [if_neg c15] at H
            have c15b0 : decide (a0 ≤ 57) = false := decide_eq_false c15
            clear c15
            by_cases c16 : a0 = 46
            · rw [if_pos c16] at H
              have c16b0 : (a0 == 46) = true := beq_iff_eq.mpr c16
              have c16b1 : (a0 != 46) = false := bne_eq_false_iff_eq.mpr c16
              clear c16
              obtain rfl := Option.some.inj H
              go_enter Tryd.func109, Tryd.ntmps109
              go_wp2
              go_ret
              exact ⟨by first | rfl | (simp; done) | (simp [*]; done), by repeat (first | exact Drawn0.refl _ | apply Drawn0.step)⟩
            · rw [if_neg c16] at H
              have c16b0 : (a0 == 46) = false := beq_eq_false_iff_ne.mpr c16
              have c16b1 : (a0 != 46) = true := bne_iff_ne.mpr c16
              by_cases c17 : a0 = 95
              · rw [if_pos c17] at H
                have c17b0 : (a0 == 95) = true := beq_iff_eq.mpr c17
                have c17b1 : (a0 != 95) = false := bne_eq_false_iff_eq.mpr c17
                clear c17
                obtain rfl := Option.some.inj H
                go_enter Tryd.func109, Tryd.ntmps109
                go_wp2
                go_ret
                exact ⟨by first | rfl | (simp; done) | (simp [*]; done), by repeat (first | exact Drawn0.refl _ | apply Drawn0.step)⟩
              · rw [if_neg c17] at H
                have c17b0 : (a0 == 95) = false := beq_eq_false_iff_ne.mpr c17
                have c17b1 : (a0 != 95) = true := bne_iff_ne.mpr c17
                by_cases c18 : a0 = 45
                · rw [if_pos c18] at H
                  have c18b0 : (a0 == 45) = true := beq_iff_eq.mpr c18
                  have c18b1 : (a0 != 45) = false := bne_eq_false_iff_eq.mpr c18
                  clear c18
                  obtain rfl := Option.some.inj H
                  go_enter Tryd.func109, Tryd.ntmps109
                  go_wp2
                  go_ret
                  exact ⟨by first | rfl | (simp; done) | (simp [*]; done), by repeat (first | exact Drawn0.refl _ | apply Drawn0.step)⟩
                · rw [if_neg c18] at H
                  have c18b0 : (a0 == 45) = false := beq_eq_false_iff_ne.mpr c18
                  have c18b1 : (a0 != 45) = true := bne_iff_ne.mpr c18
                  obtain rfl := Option.some.inj H
                  go_enter Tryd.func109, Tryd.ntmps109
                  go_wp2
                  go_ret
                  exact ⟨by first | rfl | (simp; done) | (simp [*]; done), by repeat (first | exact Drawn0.refl _ | apply Drawn0.step)⟩
        · rw [if_neg c14] at H
          have c14b0 : decide (48 ≤ a0) = false := decide_eq_false c14
          clear c14
          by_cases c19 : a0 = 46
          · rw [if_pos c19] at H
            have c19b0 : (a0 == 46) = true := beq_iff_eq.mpr c19
            have c19b1 : (a0 != 46) = false := bne_eq_false_iff_eq.mpr c19
            clear c19
            obtain rfl := Option.some.inj H
            go_enter Tryd.func109, Tryd.ntmps109
            go_wp2
            go_ret
            exact ⟨by first | rfl | (simp; done) | (simp [*]; done), by repeat (first | exact Drawn0.refl _ | apply Drawn0.step)⟩
          · rw [if_neg c19] at H
            have c19b0 : (a0 == 46) = false := beq_eq_false_iff_ne.mpr c19
            have c19b1 : (a0 != 46) = true := bne_iff_ne.mpr c19
            by_cases c20 : a0 = 95
            · rw [if_pos c20] at H
              have c20b0 : (a0 == 95) = true := beq_iff_eq.mpr c20
              have c20b1 : (a0 != 95) = false := bne_eq_false_iff_eq.mpr c20
              clear c20
              obtain rfl := Option.some.inj H
              go_enter Tryd.func109, Tryd.ntmps109
              go_wp2
              go_ret
              exact ⟨by first | rfl | (simp; done) | (simp [*]; done), by repeat (first | exact Drawn0.refl _ | apply Drawn0.step)⟩
            · rw [if_neg c20] at H
              have c20b0 : (a0 == 95) = false := beq_eq_false_iff_ne.mpr c20
              have c20b1 : (a0 != 95) = true := bne_iff_ne.mpr c20
              by_cases c21 : a0 = 45
              · rw [if_pos c21] at H
                have c21b0 : (a0 == 45) = true := beq_iff_eq.mpr c21
                have c21b1 : (a0 != 45) = false := bne_eq_false_iff_eq.mpr c21
                clear c21
                obtain rfl := Option.some.inj H
                go_enter Tryd.func109, Tryd.ntmps109
                go_wp2
                go_ret
                exact ⟨by first | rfl | (simp; done) | (simp [*]; done), by repeat (first | exact Drawn0.refl _ | apply Drawn0.step)⟩
              · rw [if_neg c21] at H
                have c21b0 : (a0 == 45) = false := beq_eq_false_iff_ne.mpr c21
                have c21b1 : (a0 != 45) = true := bne_iff_ne.mpr c21
                obtain rfl := Option.some.inj H
                go_enter Tryd.func109, Tryd.ntmps109
                go_wp2
                go_ret
                exact ⟨by first | rfl | (simp; done) | (simp [*]; done), by repeat (first | exact Drawn0.refl _ | apply Drawn0.step)⟩
  · rw [if_neg c2] at H
    have c2b0 : decide (97 ≤ a0) = false := decide_eq_false c2
    clear c2
    by_cases c22 : a0 ≥ 65
    · rw [if_pos c22] at H
      have c22b0 : decide (65 ≤ a0) = true := decide_eq_true c22
      clear c22
      by_cases c23 : a0 ≤ 90
      · rw [if_pos c23] at H
        have c23b0 : decide (a0 ≤ 90) = true := decide_eq_true c23
        clear c23
        obtain rfl := Option.some.inj H
        go_enter Tryd.func109, Tryd.ntmps109
        go_wp2
        go_ret
        exact ⟨by first | rfl | (simp; done) | (simp [*]; done), by repeat (first | exact Drawn0.refl _ | apply Drawn0.step)⟩
      · rw [if_neg c23] at H
        have c23b0 : decide (a0 ≤ 90) = false := decide_eq_false c23
        clear c23
        by_cases c24 : a0 ≥ 48
        · rw [if_pos c24] at H
          have c24b0 : decide (48 ≤ a0) = true := decide_eq_true c24
          clear c24
          by_cases c25 : a0 ≤ 57
          · rw [if_pos c25] at H
            have c25b0 : decide (a0 ≤ 57) = true := decide_eq_true c25
            clear c25
            obtain rfl := Option.some.inj H
            go_enter Tryd.func109, Tryd.ntmps109
            go_wp2
            go_ret
            exact ⟨by first | rfl | (simp; done) | (simp [*]; done), by repeat (first | exact Drawn0.refl _ | apply Drawn0.step)⟩
          · rw [if_neg c25] at H
            have c25b0 : decide (a0 ≤ 57) = false := decide_eq_false c25
            clear c25
            by_cases c26 : a0 = 46
            · rw [if_pos c26] at H
              have c26b0 : (a0 == 46) = true := beq_iff_eq.mpr c26
              have c26b1 : (a0 != 46) = false := bne_eq_false_iff_eq.mpr c26
              clear c26
              obtain rfl := Option.some.inj H
              go_enter Tryd.func109, Tryd.ntmps109
              go_wp2
              go_ret
              exact ⟨by first | rfl | (simp; done) | (simp [*]; done), by repeat (first | exact Drawn0.refl _ | apply Drawn0.step)⟩
            · rw [if_neg c26] at H
              have c26b0 : (a0 == 46) = false := beq_eq_false_iff_ne.mpr c26
              have c26b1 : (a0 != 46) = true := bne_iff_ne.mpr c26
              by_cases c27 : a0 = 95
              · rw [if_pos c27] at H
                have c27b0 : (a0 == 95) = true := beq_iff_eq.mpr c27
                have c27b1 : (a0 != 95) = false := bne_eq_false_iff_eq.mpr c27
                clear c27
                obtain rfl := Option.some.inj H
                go_enter Tryd.func109, Tryd.ntmps109
                go_wp2
                go_ret
                exact ⟨by first | rfl | (simp; done) | (simp [*]; done), by repeat (first | exact Drawn0.refl _ | apply Drawn0.step)⟩
              · rw [if_neg c27] at H
                have c27b0 : (a0 == 95) = false := beq_eq_false_iff_ne.mpr c27
                have c27b1 : (a0 != 95) = true := bne_iff_ne.mpr c27
                by_cases c28 : a0 = 45
                · rw [if_pos c28] at H
                  have c28b0 : (a0 == 45) = true := beq_iff_eq.mpr c28
                  have c28b1 : (a0 != 45) = false := bne_eq_false_iff_eq.mpr c28
                  clear c28
                  obtain rfl := Option.some.inj H
                  go_enter Tryd.func109, Tryd.ntmps109
                  go_wp2
                  go_ret
                  exact ⟨by first | rfl | (simp; done) | (simp [*]; done), by repeat (first | exact Drawn0.refl _ | apply Drawn0.step)⟩
                · rw [if_neg c28] at H
                  have c28b0 : (a0 == 45) = false := beq_eq_false_iff_ne.mpr c28
                  have c28b1 : (a0 != 45) = true := bne_iff_ne.mpr c28
                  obtain rfl := Option.some.inj H
                  go_enter Tryd.func109, Tryd.ntmps109
                  go_wp2
                  go_ret
                  exact ⟨by first | rfl | (simp; done) | (simp [*]; done), by repeat (first | exact Drawn0.refl _ | apply Drawn0.step)⟩
        · rw [if_neg c24] at H
          have c24b0 : decide (48 ≤ a0) = false := decide_eq_false c24
          clear c24
          by_cases c29 : a0 = 46
          · rw [if_pos c29] at H
            have c29b0 : (a0 == 46) = true := beq_iff_eq.mpr c29
            have c29b1 : (a0 != 46) = false := bne_eq_false_iff_eq.mpr c29
            clear c29
            obtain rfl := Option.some.inj H
            go_enter Tryd.func109, Tryd.ntmps109
            go_wp2
            go_ret
            exact ⟨by first | rfl | (simp; done) | (simp [*]; done), by repeat (first | exact Drawn0.refl _ | apply Drawn0.step)⟩
          · rw [if_neg c29] at H
            have c29b0 : (a0 == 46) = false := beq_eq_false_iff_ne.mpr c29
            have c29b1 : (a0 != 46) = true := bne_iff_ne.mpr c29
            by_cases c30 : a0 = 95
            · rw [if_pos c30] at H
              have c30b0 : (a0 == 95) = true := beq_iff_eq.mpr c30
              have c30b1 : (a0 != 95) = false := bne_eq_false_iff_eq.mpr c30
              clear c30
              obtain rfl := Option.some.inj H
              go_enter Tryd.func109, Tryd.ntmps109
              go_wp2
              go_ret
              exact ⟨by first | rfl | (simp; done) | (simp [*]; done), by repeat (first | exact Drawn0.refl _ | apply Drawn0.step)⟩
            · rw [if_neg c30] at H
              have c30b0 : (a0 == 95) = false := beq_eq_false_iff_ne.mpr c30
              have c30b1 : (a0 != 95) = true := bne_iff_ne.mpr c30
              by_cases c31 : a0 = 45
              · rw [if_pos c31] at H
                have c31b0 : (a0 == 45) = true := beq_iff_eq.mpr c31
                have c31b1 : (a0 != 45) = false := bne_eq_false_iff_eq.mpr c31
                clear c31
                obtain rfl := Option.some.inj H
                go_enter Tryd.func109, Tryd.ntmps109
                go_wp2
                go_ret
                exact ⟨by first | rfl | (simp; done) | (simp [*]; done), by repeat (first | exact Drawn0.refl _ | apply Drawn0.step)⟩
              · rw [if_neg c31] at H
                have c31b0 : (a0 == 45) = false := beq_eq_false_iff_ne.mpr c31
                have c31b1 : (a0 != 45) = true := bne_iff_ne.mpr c31
                obtain rfl := Option.some.inj H
                go_enter Tryd.func109, Tryd.ntmps109
                go_wp2
                go_ret
                exact ⟨by first | rfl | (simp; done) | (simp [*]; done), by repeat (first | exact Drawn0.refl _ | apply Drawn0.step)⟩
    · rw [if_neg c22] at H
      have c22b0 : decide (65 ≤ a0) = false := decide_eq_false c22
      clear c22
      by_cases c32 : a0 ≥ 48
      · rw [if_pos c32] at H
        have c32b0 : decide (48 ≤ a0) = true := decide_eq_true c32
        clear c32
        by_cases c33 : a0 ≤ 57
        · rw [if_pos c33] at H
          have c33b0 : decide (a0 ≤ 57) = true := decide_eq_true c33
          clear c33
          obtain rfl := Option.some.inj H
          go_enter Tryd.func109, Tryd.ntmps109
          go_wp2
          go_ret
          exact ⟨by first | rfl | (simp; done) | (simp [*]; done), by repeat (first | exact Drawn0.refl _ | apply Drawn0.step)⟩
        · rw [if_neg c33] at H
          have c33b0 : decide (a0 ≤ 57) = false := decide_eq_false c33
          clear c33
          by_cases c34 : a0 = 46
          · rw [if_pos c34] at H
            have c34b0 : (a0 == 46) = true := beq_iff_eq.mpr c34
            have c34b1 : (a0 != 46) = false := bne_eq_false_iff_eq.mpr c34
            clear c34
            obtain rfl := Option.some.inj H
            go_enter Tryd.func109, Tryd.ntmps109
            go_wp2
            go_ret
            exact ⟨by first | rfl | (simp; done) | (simp [*]; done), by repeat (first | exact Drawn0.refl _ | apply Drawn0.step)⟩
          · rw [if_neg c34] at H
            have c34b0 : (a0 == 46) = false := beq_eq_false_iff_ne.mpr c34
            have c34b1 : (a0 != 46) = true := bne_iff_ne.mpr c34
            by_cases c35 : a0 = 95
            · rw [if_pos c35] at H
              have c35b0 : (a0 == 95) = true := beq_iff_eq.mpr c35
              have c35b1 : (a0 != 95) = false := bne_eq_false_iff_eq.mpr c35
              clear c35
              obtain rfl := Option.some.inj H
              go_enter Tryd.func109, Tryd.ntmps109
              go_wp2
              go_ret
              exact ⟨by first | rfl | (simp; done) | (simp [*]; done), by repeat (first | exact Drawn0.refl _ | apply Drawn0.step)⟩
            · rw [if_neg c35] at H
              have c35b0 : (a0 == 95) = false := beq_eq_false_iff_ne.mpr c35
              have c35b1 : (a0 != 95) = true := bne_iff_ne.mpr c35
              by_cases c36 : a0 = 45
              · rw [if_pos c36] at H
                have c36b0 : (a0 == 45) = true := beq_iff_eq.mpr c36
                have c36b1 : (a0 != 45) = false := bne_eq_false_iff_eq.mpr c36
                clear c36
                obtain rfl := Option.some.inj H
                go_enter Tryd.func109, Tryd.ntmps109
                go_wp2
                go_ret
                exact ⟨by first | rfl | (simp; done) | (simp [*]; done), by repeat (first | exact Drawn0.refl _ | apply Drawn0.step)⟩
              · rw [if_neg c36] at H
                have c36b0 : (a0 == 45) = false := beq_eq_false_iff_ne.mpr c36
                have c36b1 : (a0 != 45) = true := bne_iff_ne.mpr c36
                obtain rfl := Option.some.inj H
                go_enter Tryd.func109, Tryd.ntmps109
                go_wp2
                go_ret
                exact ⟨by first | rfl | (simp; done) | (simp [*]; done), by repeat (first | exact Drawn0.refl _ | apply Drawn0.step)⟩
      · rw [if_neg c32] at H
        have c32b0 : decide (48 ≤ a0) = false := decide_eq_false c32
        clear c32
        by_cases c37 : a0 = 46
        · rw [if_pos c37] at H
          have c37b0 : (a0 == 46) = true := beq_iff_eq.mpr c37
          have c37b1 : (a0 != 46) = false := bne_eq_false_iff_eq.mpr c37
          clear c37
          obtain rfl := Option.some.inj H
          go_enter Tryd.func109, Tryd.ntmps109
          go_wp2
          go_ret
          exact ⟨by first | rfl | (simp; done) | (simp [*]; done), by repeat (first | exact Drawn0.refl _ | apply Drawn0.step)⟩
        · rw [if_neg c37] at H
          have c37b0 : (a0 == 46) = false := beq_eq_false_iff_ne.mpr c37
          have c37b1 : (a0 != 46) = true := bne_iff_ne.mpr c37
          by_cases c38 : a0 = 95
          · rw [if_pos c38] at H
            have c38b0 : (a0 == 95) = true := beq_iff_eq.mpr c38
            have c38b1 : (a0 != 95) = false := bne_eq_false_iff_eq.mpr c38
            clear c38
            obtain rfl := Option.some.inj H
            go_enter Tryd.func109, Tryd.ntmps109
            go_wp2
            go_ret
            exact ⟨by first | rfl | (simp; done) | (simp [*]; done), by repeat (first | exact Drawn0.refl _ | apply Drawn0.step)⟩
          · rw [if_neg c38] at H
            have c38b0 : (a0 == 95) = false := beq_eq_false_iff_ne.mpr c38
            have c38b1 : (a0 != 95) = true := bne_iff_ne.mpr c38
            by_cases c39 : a0 = 45
            · rw [if_pos c39] at H
              have c39b0 : (a0 == 45) = true := beq_iff_eq.mpr c39
              have c39b1 : (a0 != 45) = false := bne_eq_false_iff_eq.mpr c39
              clear c39
              obtain rfl := Option.some.inj H
              go_enter Tryd.func109, Tryd.ntmps109
              go_wp2
              go_ret
              exact ⟨by first | rfl | (simp; done) | (simp [*]; done), by repeat (first | exact Drawn0.refl _ | apply Drawn0.step)⟩
            · rw [if_neg c39] at H
              have c39b0 : (a0 == 45) = false := beq_eq_false_iff_ne.mpr c39
              have c39b1 : (a0 != 45) = true := bne_iff_ne.mpr c39
              obtain rfl := Option.some.inj H
              go_enter Tryd.func109, Tryd.ntmps109
              go_wp2
              go_ret
              exact ⟨by first | rfl | (simp; done) | (simp [*]; done), by repeat (first | exact Drawn0.refl _ | apply Drawn0.step)⟩
def paymasterref07_MayId.l0 : Nat → ByteArray → Int → Int → Option (Bool)
  | 0, _, _, _ => none
  | k + 1, x0, x3, x4 => if x4 < (x0.size : Int) then ((paymasterref07_Rune.f k x0 x4).bind fun bt381 => (if bt381.2 = 0 then (some false) else ((paymasterref07_within.f bt381.1).bind fun t383 => (if t383 = true then (paymasterref07_MayId.l0 k x0 (wrap64 (x3 + 1)) (wrap64 (x4 + bt381.2))) else (some false))))) else (if x3 ≥ 1 then (some (decide (x3 ≤ 24))) else (some false))
def paymasterref07_MayId.f (k : Nat) (a0 : ByteArray) : Option (Bool) := paymasterref07_MayId.l0 k a0 0 0
theorem paymasterref07_MayId.mono_l : ∀ k, (∀ y0 y1 y2, LeO (paymasterref07_MayId.l0 k y0 y1 y2) (paymasterref07_MayId.l0 (k + 1) y0 y1 y2))
  | 0 => fun _ _ _ r h => by simp [paymasterref07_MayId.l0] at h
  | k + 1 => by
    have ih0 := paymasterref07_MayId.mono_l k
    · intro y0 y1 y2
      unfold paymasterref07_MayId.l0
      repeat' first
      | (with_reducible exact ih0 _ _ _)
      | (with_reducible exact paymasterref07_Rune.mono _ _ _)
      | (with_reducible exact LeO.refl _)
      | (with_reducible exact LeO.none _)
      | (with_reducible refine LeO.ite ?_ ?_)
      | (with_reducible refine LeO.bind ?_ (fun _ => ?_))
      | exact ih0 _ _ _
      | exact paymasterref07_Rune.mono _ _ _
      | exact LeO.none _
      | refine LeO.ite ?_ ?_
      | refine LeO.bind ?_ (fun _ => ?_)
theorem paymasterref07_MayId.mono : ∀ a0 k, LeO (paymasterref07_MayId.f k a0) (paymasterref07_MayId.f (k + 1) a0) := by
  intro a0 k
  have ih0 := paymasterref07_MayId.mono_l k
  unfold paymasterref07_MayId.f
  repeat' first
      | (with_reducible exact ih0 _ _ _)
      | (with_reducible exact paymasterref07_Rune.mono _ _ _)
      | (with_reducible exact LeO.refl _)
      | (with_reducible exact LeO.none _)
      | (with_reducible refine LeO.ite ?_ ?_)
      | (with_reducible refine LeO.bind ?_ (fun _ => ?_))
      | exact ih0 _ _ _
      | exact paymasterref07_Rune.mono _ _ _
      | exact LeO.none _
      | refine LeO.ite ?_ ?_
      | refine LeO.bind ?_ (fun _ => ?_)
set_option maxHeartbeats 8000000 in
set_option maxRecDepth 100000 in
theorem paymasterref07_MayId.calls (k : Nat) (a0 : ByteArray) (r : Bool) (w : World) (h : paymasterref07_MayId.f k a0 = some r) :
    Calls Tryd.prog 81 #[.string a0] w fun e w' => e = .returned (.bool r) ∧ Drawn0 w w' := by
  have H : (paymasterref07_MayId.l0 k a0 0 0) = some r := h
  clear h
  have H' := Aside0.mk H
  clear H
  go_enter Tryd.func81, Tryd.ntmps81
  go_wp2
  go_loopg [3, 4] k (fun kq v3 v4 w' => ∃ (x3_1 : Int) (x4_1 : Int), v3 = .int .i64 x3_1 ∧ v4 = .int .i64 x4_1 ∧ Aside0 (paymasterref07_MayId.l0 kq a0 x3_1 x4_1 = some r) ∧ Aside0 (kq ≤ k) ∧ Drawn0 w w')
  case atStart => exact ⟨(0), (0), (by first | rfl | (simp; done) | (simp [*]; done)), (by first | rfl | (simp; done) | (simp [*]; done)), H', ⟨Nat.le_refl _⟩, by repeat (first | exact Drawn0.refl _ | apply Drawn0.step)⟩
  case round =>
    clear H'
    obtain ⟨x3_1, x4_1, rfl, rfl, HA, HK1, ⟨m1, rfl⟩⟩ := hrel
    cases gk with
    | zero => exact absurd HA.out (by simp [paymasterref07_MayId.l0])
    | succ k1 =>
      have H := HA.out
      clear HA
      simp only [paymasterref07_MayId.l0] at H
      by_cases c2 : x4_1 < (a0.size : Int)
      · rw [if_pos c2] at H
        have c2b0 : decide (x4_1 < (a0.size : Int)) = true := decide_eq_true c2
        clear c2
        replace H := Option.bind_eq_some_iff.mp H
        obtain ⟨⟨t381, t382⟩, A30, H⟩ := H
        replace H : (if t382 = 0 then (some false) else ((paymasterref07_within.f t381).bind fun t383 => (if t383 = true then (paymasterref07_MayId.l0 k1 a0 (wrap64 (x3_1 + 1)) (wrap64 (x4_1 + t382))) else (some false)))) = some r := H
        have A3 := Aside0.mk A30
        clear A30
        by_cases c4 : t382 = 0
        · rw [if_pos c4] at H
          have c4b0 : (t382 == 0) = true := beq_iff_eq.mpr c4
          have c4b1 : (t382 != 0) = false := bne_eq_false_iff_eq.mpr c4
          clear c4
          obtain rfl := Option.some.inj H
          go_wp2_with (first | ((with_reducible refine gate_callee (f := 59) rfl ?_); refine goesL_ (some 14) rfl rfl Tryd.func59 (by kernel_rfl) rfl #[.string a0, .int .i64 x4_1] rfl (by (try simp only [List.map_toArray, List.map_cons, List.map_nil]); first | done | rfl | (simp only [List.length_drop, List.length_take]; rfl)) ?_; (with_reducible refine (paymasterref07_Rune.calls k1 a0 x4_1 t381 t382 _ A3.out).mono ?_); rintro e w' ⟨rfl, ⟨nd, rfl⟩⟩; refine ⟨_, rfl, ?_⟩))
          go_ret
          exact ⟨by first | rfl | (simp; done) | (simp [*]; done), by repeat (first | exact Drawn0.refl _ | apply Drawn0.step)⟩
        · rw [if_neg c4] at H
          have c4b0 : (t382 == 0) = false := beq_eq_false_iff_ne.mpr c4
          have c4b1 : (t382 != 0) = true := bne_iff_ne.mpr c4
          replace H := Option.bind_eq_some_iff.mp H
          obtain ⟨t383, A50, H⟩ := H
          replace H : (if t383 = true then (paymasterref07_MayId.l0 k1 a0 (wrap64 (x3_1 + 1)) (wrap64 (x4_1 + t382))) else (some false)) = some r := H
          have A5 := Aside0.mk A50
          clear A50
          by_cases c6 : t383 = true
          · subst c6
            have H1 : (paymasterref07_MayId.l0 k1 a0 (wrap64 (x3_1 + 1)) (wrap64 (x4_1 + t382))) = some r := by rw [if_pos rfl] at H; exact H
            clear H
            have H := H1
            clear H1
            have H' := Aside0.mk H
            clear H
            go_wp2_with (first | ((with_reducible refine gate_callee (f := 59) rfl ?_); refine goesL_ (some 14) rfl rfl Tryd.func59 (by kernel_rfl) rfl #[.string a0, .int .i64 x4_1] rfl (by (try simp only [List.map_toArray, List.map_cons, List.map_nil]); first | done | rfl | (simp only [List.length_drop, List.length_take]; rfl)) ?_; (with_reducible refine (paymasterref07_Rune.calls k1 a0 x4_1 t381 t382 _ A3.out).mono ?_); rintro e w' ⟨rfl, ⟨nd, rfl⟩⟩; refine ⟨_, rfl, ?_⟩) | (go_at_call 109; (with_reducible refine (paymasterref07_within.calls t381 true _ A5.out).mono ?_); rintro e w' ⟨rfl, ⟨nd, rfl⟩⟩))
            go_roundg k1
            case measure => have := HK1.out; omega
            case rel => exact ⟨(wrap64 (x3_1 + 1)), (wrap64 (x4_1 + t382)), (by first | rfl | (simp; done) | (simp [*]; done)), (by first | rfl | (simp; done) | (simp [*]; done)), H', ⟨by have := HK1.out; omega⟩, by repeat (first | exact Drawn0.refl _ | apply Drawn0.step)⟩
          · replace c6 := Bool.eq_false_iff.mpr c6
            subst c6
            have H1 : (some false) = some r := by rw [if_neg (show ¬ (false = true) by decide)] at H; exact H
            clear H
            have H := H1
            clear H1
            obtain rfl := Option.some.inj H
            go_wp2_with (first | ((with_reducible refine gate_callee (f := 59) rfl ?_); refine goesL_ (some 14) rfl rfl Tryd.func59 (by kernel_rfl) rfl #[.string a0, .int .i64 x4_1] rfl (by (try simp only [List.map_toArray, List.map_cons, List.map_nil]); first | done | rfl | (simp only [List.length_drop, List.length_take]; rfl)) ?_; (with_reducible refine (paymasterref07_Rune.calls k1 a0 x4_1 t381 t382 _ A3.out).mono ?_); rintro e w' ⟨rfl, ⟨nd, rfl⟩⟩; refine ⟨_, rfl, ?_⟩) | (go_at_call 109; (with_reducible refine (paymasterref07_within.calls t381 false _ A5.out).mono ?_); rintro e w' ⟨rfl, ⟨nd, rfl⟩⟩))
            go_ret
            exact ⟨by first | rfl | (simp; done) | (simp [*]; done), by repeat (first | exact Drawn0.refl _ | apply Drawn0.step)⟩
      · rw [if_neg c2] at H
        have c2b0 : decide (x4_1 < (a0.size : Int)) = false := decide_eq_false c2
        clear c2
        by_cases c7 : x3_1 ≥ 1
        · rw [if_pos c7] at H
          have c7b0 : decide (1 ≤ x3_1) = true := decide_eq_true c7
          clear c7
          obtain rfl := Option.some.inj H
          go_wp2
          go_ret
          exact ⟨by first | rfl | (simp; done) | (simp [*]; done), by repeat (first | exact Drawn0.refl _ | apply Drawn0.step)⟩
        · rw [if_neg c7] at H
          have c7b0 : decide (1 ≤ x3_1) = false := decide_eq_false c7
          clear c7
          obtain rfl := Option.some.inj H
          go_wp2
          go_ret
          exact ⟨by first | rfl | (simp; done) | (simp [*]; done), by repeat (first | exact Drawn0.refl _ | apply Drawn0.step)⟩
end Go.Proofs.YtpkjpiphjdpegaaDoor.P
