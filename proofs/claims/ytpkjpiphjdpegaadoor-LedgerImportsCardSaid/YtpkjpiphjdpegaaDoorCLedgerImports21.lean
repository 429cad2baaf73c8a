/- A program of this session wrote this text out of the session's own texts. (part 21 of 45) -/
import Derived.Shelf.Strings.Search2
import Derived.Test.YtpkjpiphjdpegaaDoorProg
namespace Go.Proofs.YtpkjpiphjdpegaaDoor.P
open Go.Shelf Go.RowKit
def sh_lays219_ren : Go.Shelf.Ren := ⟨fun | 219 => 125 | 217 => 135 | 225 => 136 | 224 => 137 | 267 => 138 | 266 => 145 | 314 => 146 | n => n, fun | 9 => 9 | 3 => 3 | 4 => 4 | 5 => 5 | 46 => 138 | 146 => 189 | 51 => 188 | n => n, fun | 1 => 2 | n => n⟩
theorem sh_lays219 : Go.Proofs.Lays.n219 Tryd.prog sh_lays219_ren := {
 mixed := by kernel_rfl
 f217 := Tryd.func135.trans (congrArg some (by kernel_rfl))
 f219 := Tryd.func125.trans (congrArg some (by kernel_rfl))
 f224 := Tryd.func137.trans (congrArg some (by kernel_rfl))
 f225 := Tryd.func136.trans (congrArg some (by kernel_rfl))
 f266 := Tryd.func145.trans (congrArg some (by kernel_rfl))
 f267 := Tryd.func138.trans (congrArg some (by kernel_rfl))
 f314 := Tryd.func146.trans (congrArg some (by kernel_rfl))
 t3 := Tryd.underlying3
 a3 := Tryd.isAgg3
 z3 := Tryd.sizeOf3
 v3 := Tryd.zeroValue3
 t4 := Tryd.underlying4
 a4 := Tryd.isAgg4
 z4 := Tryd.sizeOf4
 v4 := Tryd.zeroValue4
 t5 := Tryd.underlying5
 a5 := Tryd.isAgg5
 z5 := Tryd.sizeOf5
 v5 := Tryd.zeroValue5
 t9 := Tryd.underlying9
 a9 := Tryd.isAgg9
 z9 := Tryd.sizeOf9
 v9 := Tryd.zeroValue9
 t46 := Tryd.underlying138
 a46 := Tryd.isAgg138
 z46 := Tryd.sizeOf138
 v46 := Tryd.zeroValue138
 t51 := Tryd.underlying188
 a51 := Tryd.isAgg188
 z51 := Tryd.sizeOf188
 v51 := Tryd.zeroValue188
 t146 := Tryd.underlying189
 a146 := Tryd.isAgg189
 z146 := Tryd.sizeOf189
 v146 := Tryd.zeroValue189
 g1 := by kernel_rfl }
open Go.RowKit Go.Lib in
theorem sh_stringslite_Index_one (s : ByteArray) (c : UInt8) (w : World) :
  Calls Tryd.prog 125 #[.string s, .string ⟨#[c]⟩] w fun e w' => e = .returned (.int .i64 (Lib.indexByte s.data.toList c)) ∧ w' = w := Any.stringslite_Index_one sh_lays219 s c w
end Go.Proofs.YtpkjpiphjdpegaaDoor.P
