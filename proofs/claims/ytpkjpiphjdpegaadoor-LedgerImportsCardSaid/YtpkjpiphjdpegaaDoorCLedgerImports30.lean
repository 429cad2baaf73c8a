/- A program of this session wrote this text out of the session's own texts. (part 30 of 45) -/
import Derived.Shelf.Utf8.RuneCount
import Derived.Shelf.Strings.Runes
import Derived.Shelf.Small.Strs
import Derived.Shelf.Strings.Search1
import Derived.Test.YtpkjpiphjdpegaaDoorProg
namespace Go.Proofs.YtpkjpiphjdpegaaDoor.P
open Go.Shelf Go.RowKit
def sh_lays137_ren : Go.Shelf.Ren := ⟨fun | 137 => 143 | 217 => 135 | 266 => 145 | n => n, fun | 9 => 9 | 5 => 5 | 3 => 3 | n => n, fun | n => n⟩
theorem sh_lays137 : Go.Proofs.Lays.n137 Tryd.prog sh_lays137_ren := {
 mixed := by kernel_rfl
 f137 := Tryd.func143.trans (congrArg some (by kernel_rfl))
 f217 := Tryd.func135.trans (congrArg some (by kernel_rfl))
 f266 := Tryd.func145.trans (congrArg some (by kernel_rfl))
 t3 := Tryd.underlying3
 a3 := Tryd.isAgg3
 z3 := Tryd.sizeOf3
 v3 := Tryd.zeroValue3
 t5 := Tryd.underlying5
 a5 := Tryd.isAgg5
 z5 := Tryd.sizeOf5
 v5 := Tryd.zeroValue5
 t9 := Tryd.underlying9
 a9 := Tryd.isAgg9
 z9 := Tryd.sizeOf9
 v9 := Tryd.zeroValue9 }
open Go.RowKit in
theorem sh_strings_IndexByte (s : ByteArray) (c : Int) (w : World) :
  Calls Tryd.prog 143 #[.string s, .int .u8 c] w fun e w' => e = .returned (.int .i64 (Lib.indexByte s.data.toList c.toNat.toUInt8)) ∧ w' = w := Any.strings_IndexByte sh_lays137 s c w
def sh_lays195_ren : Go.Shelf.Ren := ⟨fun | 195 => 89 | n => n, fun | 9 => 9 | 3 => 3 | 0 => 0 | 4 => 4 | n => n, fun | n => n⟩
theorem sh_lays195 : Go.Proofs.Lays.n195 Tryd.prog sh_lays195_ren := {
 mixed := by kernel_rfl
 f195 := Tryd.func89.trans (congrArg some (by kernel_rfl))
 t0 := Tryd.underlying0
 a0 := Tryd.isAgg0
 z0 := Tryd.sizeOf0
 v0 := Tryd.zeroValue0
 t3 := Tryd.underlying3
 a3 := Tryd.isAgg3
 z3 := Tryd.sizeOf3
 v3 := Tryd.zeroValue3
 t4 := Tryd.underlying4
 a4 := Tryd.isAgg4
 z4 := Tryd.sizeOf4
 v4 := Tryd.zeroValue4
 t9 := Tryd.underlying9
 a9 := Tryd.isAgg9
 z9 := Tryd.sizeOf9
 v9 := Tryd.zeroValue9 }
open Go.RowKit in
theorem sh_utf8_RuneCountInString (s : ByteArray) (w : World) (hs : s.size < 9223372036854775807) :
  Calls Tryd.prog 89 #[.string s] w fun e w' => e = .returned (.int .i64 (Lib.runeCount s)) ∧ ∃ pos, w' = w.iter s pos := Any.utf8_RuneCountInString sh_lays195 s w hs
def sh_lays151_ren : Go.Shelf.Ren := ⟨fun | 151 => 119 | 152 => 133 | 137 => 143 | 119 => 61 | 224 => 137 | 225 => 136 | 217 => 135 | 266 => 145 | n => n, fun | 9 => 9 | 21 => 21 | 4 => 4 | 3 => 3 | 5 => 5 | 0 => 0 | 46 => 138 | n => n, fun | n => n⟩
theorem sh_lays151 : Go.Proofs.Lays.n151 Tryd.prog sh_lays151_ren := {
 mixed := by kernel_rfl
 f119 := Tryd.func61.trans (congrArg some (by kernel_rfl))
 f137 := Tryd.func143.trans (congrArg some (by kernel_rfl))
 f151 := Tryd.func119.trans (congrArg some (by kernel_rfl))
 f152 := Tryd.func133.trans (congrArg some (by kernel_rfl))
 f217 := Tryd.func135.trans (congrArg some (by kernel_rfl))
 f224 := Tryd.func137.trans (congrArg some (by kernel_rfl))
 f225 := Tryd.func136.trans (congrArg some (by kernel_rfl))
 f266 := Tryd.func145.trans (congrArg some (by kernel_rfl))
 t0 := Tryd.underlying0
 a0 := Tryd.isAgg0
 z0 := Tryd.sizeOf0
 v0 := Tryd.zeroValue0
 t3 := Tryd.underlying3
 a3 := Tryd.isAgg3
 z3 := Tryd.sizeOf3
 v3 := Tryd.zeroValue3
 t4 := Tryd.underlying4
 a4 := Tryd.isAgg4
 z4 := Tryd.sizeOf4
 v4 := Tryd.zeroValue4
 t5 := Tryd.underlying5
 a5 := Tryd.isAgg5
 z5 := Tryd.sizeOf5
 v5 := Tryd.zeroValue5
 t9 := Tryd.underlying9
 a9 := Tryd.isAgg9
 z9 := Tryd.sizeOf9
 v9 := Tryd.zeroValue9
 t21 := Tryd.underlying21
 a21 := Tryd.isAgg21
 z21 := Tryd.sizeOf21
 v21 := Tryd.zeroValue21
 t46 := Tryd.underlying138
 a46 := Tryd.isAgg138
 z46 := Tryd.sizeOf138
 v46 := Tryd.zeroValue138 }
open Go.RowKit Go.Lib in
theorem sh_strings_ContainsRune_ascii (s : ByteArray) (r : Int) (w : World) (h0 : 0 ≤ r) (h1 : r < 128) :
  Calls Tryd.prog 119 #[.string s, .int .i32 r] w fun e w' => e = .returned (.bool (decide (0 ≤ Lib.indexByte s.data.toList r.toNat.toUInt8))) ∧ w' = w := Any.strings_ContainsRune_ascii sh_lays151 s r w h0 h1
end Go.Proofs.YtpkjpiphjdpegaaDoor.P
