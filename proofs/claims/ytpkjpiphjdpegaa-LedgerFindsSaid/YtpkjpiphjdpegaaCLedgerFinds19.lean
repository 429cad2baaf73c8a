/- A program of this session wrote this text out of the session's own texts. (part 19 of 25) -/
import Derived.Test.YtpkjpiphjdpegaaCLedgerFinds1
import Derived.Test.YtpkjpiphjdpegaaCLedgerFinds4
import Derived.Test.YtpkjpiphjdpegaaCLedgerFinds17
import Derived.Test.YtpkjpiphjdpegaaCLedgerFinds18
namespace Go.Proofs.Ytpkjpiphjdpegaa.P
open Go.RowKit Go.Proofs.YtpkjpiphjdpegaaW.PrintWords Go.Proofs.YtpkjpiphjdpegaaW.PrintLast Go.Proofs.YtpkjpiphjdpegaaW.PrintMore
set_option linter.unusedVariables false
set_option linter.unusedSimpArgs false
def cells83 (x : S83) : List Value := [.string x.f0, .int .u64 x.f1.f0, .int .u64 x.f1.f1]
instance : Inhabited S83 := ⟨⟨⟨#[]⟩, ⟨0, 0⟩⟩⟩
def isId (id : ByteArray) (x : S83) : Bool := x.f0.toList == id.toList
def ledger_place.f (l0 : List S83) (a1 : ByteArray) : Option Int := if l0.length ≤ 1000000 then some (Lib.idxBy (fun _ y => isId a1 y) l0 default) else none
theorem id_pred (id : ByteArray) (B : Nat) (w : World) (hB : B < w.heap.size) (hcell : w.cell? ⟨B, 0, none⟩ = some (.string id)) :
    Go.Proofs.PredBelow Try.prog 112 #[.pointer (some ⟨B, 0, none⟩)] (fun x => .agg (cells83 x).toArray) (isId id) w := fun W x hb => by
  have hc : W.cell? ⟨B, 0, none⟩ = some (.string id) := (hb.cell (p := ⟨B, 0, none⟩) hB).trans hcell
  have hBW : B < W.heap.size := Nat.lt_of_lt_of_le hB hb.size
  have hne : B ≠ W.heap.size := by omega
  obtain ⟨b, hb2⟩ : ∃ b, isId id x = b := ⟨_, rfl⟩
  have hb3 : (x.f0.toList == id.toList) = b := hb2
  rw [hb2]
  show Calls Try.prog 112 #[.agg #[.string x.f0, .int .u64 x.f1.f0, .int .u64 x.f1.f1], .pointer (some ⟨B, 0, none⟩)] W _
  go_enter Try.func112, Try.ntmps112
  go_wp2
  all_goals (go_ret; exact ⟨rfl, below_alloc hb _⟩)
theorem rows_in {w : World} {A : Option Addr} {xs : List S83} (h : k83.C w A xs.length xs) (hn : 0 < xs.length) : ∃ b off, A = some ⟨b, off, none⟩ ∧ b < w.heap.size ∧ ∀ j, j < xs.length → ∀ i v, (cells83 xs[j]!)[i]? = some v → w.cell? ⟨b, off + j * 3 + i, none⟩ = some v := by
  obtain ⟨_, _, h2⟩ := h
  obtain ⟨ad, rfl, hc⟩ := h2 hn
  have all : ∀ j, j < xs.length → ∀ i v, (cells83 xs[j]!)[i]? = some v → w.cell? (ad.add (j * 3 + i)) = some v := by
    intro j hj i v hv
    have e : xs[j]? = some xs[j]! := by rw [List.getElem!_eq_getElem?_getD, List.getElem?_eq_getElem hj]; rfl
    obtain ⟨cs, hl, hk, hcs⟩ := hc j _ e
    have := k83_open hk
    subst this
    exact hcs i v hv
  have h0 := all 0 hn 0 (.string xs[0]!.f0) rfl
  have e0 : ad.add (0 * 3 + 0) = ad := rfl
  rw [e0] at h0
  obtain ⟨q1, q2⟩ := cell_lt h0
  obtain ⟨b, off, sp⟩ := ad
  have q2' : sp = none := q2
  subst q2'
  refine ⟨b, off, rfl, q1, fun j hj i v hv => ?_⟩
  have := all j hj i v hv
  have ea : (⟨b, off, none⟩ : Addr).add (j * 3 + i) = ⟨b, off + j * 3 + i, none⟩ := by
    unfold Addr.add
    by_cases z : j * 3 + i = 0
    · rw [if_pos z]
      have z1 : j = 0 := by omega
      have z2 : i = 0 := by omega
      rw [z1, z2]
      rfl
    · rw [if_neg z, ← Nat.add_assoc]
  rw [ea] at this
  exact this
set_option maxHeartbeats 4000000 in
set_option maxRecDepth 100000 in
theorem ledger_place.calls (A0 : Option Addr) (c0 : Nat) (l0 : List S83) (a1 : ByteArray) (r : Int) (w : World) (hr0 : Kd.C k83 w A0 l0.length l0) (hc0 : l0.length ≤ c0) (h : ledger_place.f l0 a1 = some r) :
    Calls Try.prog 97 #[.slice A0 l0.length c0, .string a1] w fun e w' => e = .returned (.int .i64 r) ∧ Below w.heap.size w w' := by
  have hu : l0.length ≤ 1000000 := by
    unfold ledger_place.f at h
    split at h
    · assumption
    · cases h
  unfold ledger_place.f at h
  rw [if_pos hu] at h
  have hr := Option.some.inj h
  clear h
  have eg := enters_of Try.func112 (by kernel_rfl) rfl
  have CC : Calls Try.prog 111 #[.slice A0 l0.length c0, .func (.func 112) #[] #[.pointer (some ⟨w.heap.size, 0, none⟩)]] (w.alloc (.cells #[.string a1] 9)) fun e w' => e = .returned (.int .i64 r) ∧ Below w.heap.size w w' := by
    have W0 := below_alloc (Below.refl w.heap.size w) (.cells #[.string a1] 9)
    by_cases z : 0 < l0.length
    · obtain ⟨b, off, rfl, hb, hc⟩ := rows_in hr0 z
      have := Go.Proofs.AnyQ.slices_IndexFunc sh_lg111 3 Try.isAgg83 Try.sizeOf83 cells83 (fun _ => rfl) (isId a1) 112 #[.pointer (some ⟨w.heap.size, 0, none⟩)] eg b off l0.length c0 l0 (w.alloc (.cells #[.string a1] 9)) (id_pred a1 w.heap.size _ (by simp) (by simp)) (Nat.le_refl _) (by omega) (by simp; omega) (fun j hj i v hi => Lib.cell?_alloc_some _ (hc j hj i v hi))
      rw [List.take_length, hr] at this
      refine this.mono ?_
      rintro e w' ⟨rfl, hb'⟩
      exact ⟨rfl, below_step W0 hb'⟩
    · have e : l0 = [] := List.eq_nil_of_length_eq_zero (by omega)
      subst e
      have hr' : r = -1 := by rw [← hr]; rfl
      subst hr'
      clear hr hu hc0 hr0 eg
      show Calls Try.prog 111 #[.slice A0 0 c0, .func (.func 112) #[] #[.pointer (some ⟨w.heap.size, 0, none⟩)]] _ _
      go_enter Try.func111, Try.ntmps111
      go_wp2
      refine wp_loop_rounds 1 ?_
      rw [rounds_succ]
      go_wp2
      go_ret
      exact ⟨rfl, W0⟩
  go_enter Try.func97, Try.ntmps97
  go_wp2_with (first | (go_at_call 111; (with_reducible refine CC.mono ?_); rintro e w' ⟨rfl, hb⟩))
  go_ret
  exact ⟨rfl, hb⟩
end Go.Proofs.Ytpkjpiphjdpegaa.P
