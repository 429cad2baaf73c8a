/- A program of this session wrote this text out of the session's own texts. (part 13 of 25) -/
import Derived.Ground.SlsfProg
import Derived.Shelf.SlLaysF0
import Derived.Shelf.SlGeneric
import Derived.Test.YtpkjpiphjdpegaaProg
namespace Go.Proofs.Ytpkjpiphjdpegaa.P
open Go.Shelf
def sh_lf130_ren : Go.Shelf.Ren := ⟨fun | 20 => 130 | n => n, fun | 24 => 83 | 22 => 80 | 3 => 3 | 25 => 136 | 4 => 4 | 0 => 0 | n => n, fun | n => n⟩
theorem sh_lf130 : Go.Proofs.SlLaysF0.n20 Try.prog sh_lf130_ren := {
  mixed := by kernel_rfl
  f20 := ⟨Try.f130.name, by decide, Try.func130.trans (congrArg some (by kernel_rfl))⟩
  t0 := Try.underlying0
  a0 := Try.isAgg0
  z0 := Try.sizeOf0
  v0 := Try.zeroValue0
  t3 := Try.underlying3
  a3 := Try.isAgg3
  z3 := Try.sizeOf3
  v3 := Try.zeroValue3
  t4 := Try.underlying4
  a4 := Try.isAgg4
  z4 := Try.sizeOf4
  v4 := Try.zeroValue4
  t22 := Try.underlying80
  a22 := Try.isAgg80
  z22 := Try.sizeOf80
  v22 := Try.zeroValue80
  t25 := Try.underlying136
  a25 := Try.isAgg136
  z25 := Try.sizeOf136
  v25 := Try.zeroValue136 }
end Go.Proofs.Ytpkjpiphjdpegaa.P
