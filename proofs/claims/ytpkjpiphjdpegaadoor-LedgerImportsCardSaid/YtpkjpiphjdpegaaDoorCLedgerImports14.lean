/- A program of this session wrote this text out of the session's own texts. (part 14 of 45) -/
import Derived.Test.YtpkjpiphjdpegaaDoorCLedgerImportsQ
import Derived.Ground.SlsfProg
import Derived.Shelf.SlLaysF0
import Derived.Shelf.SlGeneric
import Derived.Test.YtpkjpiphjdpegaaDoorProg
namespace Go.Proofs.YtpkjpiphjdpegaaDoor.P
open Go.Shelf
def sh_lf122_ren : Go.Shelf.Ren := ⟨fun | 20 => 122 | n => n, fun | 24 => 44 | 22 => 34 | 3 => 3 | 25 => 104 | 4 => 4 | 0 => 0 | n => n, fun | n => n⟩
theorem sh_lf122 : Go.Proofs.SlLaysF0.n20 Tryd.prog sh_lf122_ren := {
 mixed := by kernel_rfl
 f20 := ⟨Tryd.f122.name, zvz, Tryd.func122.trans (congrArg some (by kernel_rfl))⟩
 t0 := Tryd.underlying0
 a0 := Tryd.isAgg0
 z0 := Tryd.sizeOf0
 v0 := Tryd.zeroValue0
 t3 := Tryd.underlying3
 a3 := Tryd.isAgg3
 z3 := Tryd.sizeOf3
 v3 := Tryd.zeroValue3
 t4 := Tryd.underlying4
 a4 := Tryd.isAgg4
 z4 := Tryd.sizeOf4
 v4 := Tryd.zeroValue4
 t22 := Tryd.underlying34
 a22 := Tryd.isAgg34
 z22 := Tryd.sizeOf34
 v22 := Tryd.zeroValue34
 t25 := Tryd.underlying104
 a25 := Tryd.isAgg104
 z25 := Tryd.sizeOf104
 v25 := Tryd.zeroValue104 }
end Go.Proofs.YtpkjpiphjdpegaaDoor.P
