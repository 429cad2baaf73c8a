/- A program of this session wrote this text out of the session's own texts. (part 17 of 25) -/
import Derived.Shelf.SlicesQ.IndexFunc
import Derived.Ground.SlgfProg
import Derived.Lib.SliceRun
import Derived.Test.YtpkjpiphjdpegaaProg
namespace Go.Proofs.Ytpkjpiphjdpegaa.P
open Go.Shelf Go.RowKit
def sh_lg111_ren : Go.Shelf.Ren := ⟨fun | 6 => 111 | n => n, fun | 22 => 80 | 23 => 83 | 25 => 134 | 3 => 3 | 0 => 0 | 4 => 4 | n => n, fun | n => n⟩
theorem sh_lg111 : Go.Proofs.SlLaysH0.n6 Try.prog sh_lg111_ren := {
  mixed := by kernel_rfl
  f6 := ⟨Try.f111.name, by decide, Try.func111.trans (congrArg some (by kernel_rfl))⟩
  t0 := Try.underlying0
  a0 := Try.isAgg0
  z0 := Try.sizeOf0
  v0 := Try.zeroValue0
  t3 := Try.underlying3
  a3 := Try.isAgg3
  z3 := Try.sizeOf3
  v3 := Try.zeroValue3
  t4 := Try.underlying4
  a4 := Try.isAgg4
  z4 := Try.sizeOf4
  v4 := Try.zeroValue4
  t22 := Try.underlying80
  a22 := Try.isAgg80
  z22 := Try.sizeOf80
  v22 := Try.zeroValue80
  t25 := Try.underlying134
  a25 := Try.isAgg134
  z25 := Try.sizeOf134
  v25 := Try.zeroValue134 }
end Go.Proofs.Ytpkjpiphjdpegaa.P
