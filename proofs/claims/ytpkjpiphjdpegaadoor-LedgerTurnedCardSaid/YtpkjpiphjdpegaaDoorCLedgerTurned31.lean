/- A program of this session wrote this text out of the session's own texts. (part 31 of 44) -/
import Derived.Test.YtpkjpiphjdpegaaDoorCLedgerTurned24
import Derived.Test.YtpkjpiphjdpegaaDoorCLedgerTurned26
import Derived.Lib.IndexAny
namespace Go.Proofs.YtpkjpiphjdpegaaDoor.P
open Go.RowKit Go.Proofs.YtpkjpiphjdpegaaDoorW.PrintWords Go.Proofs.YtpkjpiphjdpegaaDoorW.PrintLast Go.Proofs.YtpkjpiphjdpegaaDoorW.PrintMore
set_option linter.unusedVariables false
set_option linter.unusedSimpArgs false
theorem brk_clean (h : List UInt8) : brk (mk h) = false ↔ ∀ b ∈ h, b ≠ 10 := by
  unfold brk
  rw [mk_list, ← Lib.contains_iff_indexByte]
  simp only [← Bool.not_eq_true, List.contains_iff_mem]
  exact ⟨fun q b hb e => q (e ▸ hb), fun q e => q 10 e rfl⟩
theorem joinB_cons (h : List UInt8) (r : List (List UInt8)) : Lib.join (h :: r) [10] = h ++ Lib.joinTail [10] r := Lib.join_cons ..
theorem tail_cons (y : List UInt8) (r : List (List UInt8)) : Lib.joinTail [10] (y :: r) = 10 :: (y ++ Lib.joinTail [10] r) := rfl
theorem split_join : ∀ (r : List (List UInt8)) (h : List UInt8), (∀ x ∈ h :: r, ∀ b ∈ x, b ≠ 10) → splitB (Lib.join (h :: r) [10]) = h :: r
  | [], h, c => by rw [joinB_cons]; show splitB (h ++ []) = [h]; rw [List.append_nil]; exact splitB_one h (c h (List.mem_cons_self ..))
  | y :: r, h, c => by
    rw [joinB_cons, tail_cons, splitB_app, splitB_one h (c h (List.mem_cons_self ..)), ← joinB_cons, split_join r y fun x hx => c x (List.mem_cons_of_mem _ hx)]
    rfl
theorem join_f (l : List ByteArray) (h1 : l.length ≤ 1000000) (h2 : (Lib.join (l.map (·.data.toList)) [10]).length ≤ 1000000000) : lines_Join.f l = some (if l.any brk = true then ((⟨#[]⟩ : ByteArray), 2) else (joinL l, 0)) := if_pos ⟨h1, h2⟩
end Go.Proofs.YtpkjpiphjdpegaaDoor.P
