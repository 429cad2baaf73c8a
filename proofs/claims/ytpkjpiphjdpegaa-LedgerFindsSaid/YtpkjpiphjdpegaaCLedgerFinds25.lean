/- A program of this session wrote this text out of the session's own texts. (part 25 of 25) -/
import Derived.Test.YtpkjpiphjdpegaaCLedgerFinds7
import Derived.Test.YtpkjpiphjdpegaaCLedgerFinds8
import Derived.Test.YtpkjpiphjdpegaaCLedgerFinds24
import Derived.Test.YtpkjpiphjdpegaaRows
import Derived.WalkKit
import Derived.ProofKit
import Derived.OpenShut
import Derived.ShutString
import Derived.ChangeOld
import Derived.Below
import Derived.SizedLaws
namespace Go.Proofs.Ytpkjpiphjdpegaa.ledgerFinds
open Go.ChangeShapes Go.WideShapes Go.ChangeAt Go.RowKit Go.Proofs.Ytpkjpiphjdpegaa.P
open Go.ChangeMaps (open_string shut_string)
set_option linter.unusedVariables false
theorem own : ownKnob Try.prog.godebug = none := by kernel_rfl
theorem laidOut : laidOutB Try.prog = true := by kernel_rfl
set_option maxRecDepth 100000 in
theorem lifted (os : Os) (started : os.Started) (H : Type) (enc : TypeId × Value → H) :
    ReturnsInHanded {} Try.checked os 18 .any (Rows.ledgerFindsSpec.pre6 enc Try.prog Try.f18 Rows.ledgerFindsRow.domain false) (Rows.ledgerFindsSpec.post enc Try.prog Try.f18 false true false false) := by
  refine returnsInHanded_of_change_sized (C := Try.checked) own started (by kernel_rfl) Try.func18
    (ChangeSpec.witness6 (enc := enc) (C := Try.checked) false ⟨#[], #[.slice none 0 0, .slice none 0 0, .string ByteArray.empty], []⟩ 8 (by kernel_rfl) (by kernel_rfl) (by kernel_rfl) (by kernel_rfl)) ?_
  intro W base args ds gs before hval0 hW hcnd hsz0 _
  have hval : ∀ (j : Nat) t v, Try.f18.params[j]? = some t → args[j]? = some v → Value.okWide Try.prog W .any base t v := hval0
  have hW' := hW
  obtain ⟨p, q, hA0, hV, rfl, hfz, hnd⟩ := hW
  have hA : DataW.TrodAll enc Try.prog W 0 (fun _ => true) true Try.f18.params.toList args.toList ds p := hA0
  rw [Try.params18] at hA hval
  have hAll := hA
  obtain ⟨v0, vs0, d0, ds0, p0, q0, hargs, rfl, rfl, h0, r0⟩ := trodAll_cons hA
  obtain ⟨v1, vs1, d1, ds1, p1, q1, rfl, rfl, rfl, h1, r1⟩ := trodAll_cons r0
  obtain ⟨v2, vs2, d2, ds2, p2, q2, rfl, rfl, rfl, h2, r2⟩ := trodAll_cons r1
  obtain ⟨rfl, rfl, rfl⟩ := trodAll_nil r2
  obtain rfl : args = #[v0, v1, v2] := by cases args; simp_all
  obtain ⟨rfl, rfl⟩ := trodVars_none hV
  obtain ⟨A0, c0, l0, rfl, hc0, hr0, g0⟩ := arg_row83 (hval 0 80 v0 rfl rfl) h0
  obtain ⟨A1, c1, l1, rfl, hc1, hr1, g1⟩ := arg_row83 (hval 1 80 v1 rfl rfl) h1
  obtain ⟨a2, rfl, g2⟩ := arg_string (hval 2 9 v2 rfl rfl) h2
  clear hA0 hval0 hsz0
  refine (ledgerFinds_walk (w := W) A0 c0 l0 hr0 hc0 g0 A1 c1 l1 hr1 hc1 g1 a2 g2).mono fun e W' ⟨he, bel⟩ => ?_
  subst he
  exact ⟨_, rfl, _, _, _, [], _, [], hW', trodAll_mk1 (shut_bool Try.underlying4 _), args_back laidOut bel (by kernel_rfl) hAll, rfl, bel.frame _, fun h => by cases h⟩
theorem both {a b : Bool} (h : a = true) (k : b = true) : (a && b) = true := by rw [h, k]; rfl
theorem c0 : (Rows.ledgerFindsRow.wf (OpenSpec.ofChange Rows.ledgerFindsSpec)) = true := by kernel_rfl
theorem c1 : (laidOutB Try.prog) = true := by kernel_rfl
theorem c2 : (mapsRowed Try.prog) = true := by kernel_rfl
theorem c3 : (Try.f18.params.all (Try.prog.readableRec ·)) = true := by kernel_rfl
theorem c4 : (namedTie Try.prog Rows.ledgerFindsRow.named Rows.ledgerFindsSpec.vars) = true := by kernel_rfl
theorem c5 : ((Rows.ledgerFindsRow.stops == [])) = true := by kernel_rfl
theorem c6 : ((Try.prog.stops == [])) = true := by kernel_rfl
theorem c7 : ((Rows.ledgerFindsRow.knobs == [])) = true := by kernel_rfl
theorem c8 : ((Try.prog.stopKnobs == [])) = true := by kernel_rfl
theorem c9 : ((Rows.ledgerFindsRow.inPlace == Try.prog.inPlace 18)) = true := by kernel_rfl
theorem c10 : ((Rows.ledgerFindsRow.unfollowed == Try.prog.unfollowed 18)) = true := by kernel_rfl
theorem c11 : ((Rows.ledgerFindsRow.recurses == Try.prog.recurses 18)) = true := by kernel_rfl
theorem c12 : ((Rows.ledgerFindsRow.named == Try.prog.varsNamed 18)) = true := by kernel_rfl
theorem c13 : ((Rows.ledgerFindsRow.maps == (Try.f18.params.toList ++ Rows.ledgerFindsSpec.plain.varTypes Try.prog).any (Try.prog.mapsRec ·))) = true := by kernel_rfl
theorem c14 : ((Rows.ledgerFindsRow.ifaces == (Try.f18.params.toList ++ Rows.ledgerFindsSpec.plain.varTypes Try.prog).any (Try.prog.ifacesRec ·))) = true := by kernel_rfl
theorem c15 : ((Rows.ledgerFindsRow.mapsOut == Try.prog.mapsAmong Try.f18.resultTypes.toList)) = true := by kernel_rfl
theorem c16 : ((Rows.ledgerFindsRow.loops == (Try.f18.params.toList ++ Rows.ledgerFindsSpec.plain.varTypes Try.prog).any (Try.prog.loopsFrom ·))) = true := by kernel_rfl
theorem c17 : ((Rows.ledgerFindsRow.wideKeys == (Try.f18.params.toList ++ Rows.ledgerFindsSpec.plain.varTypes Try.prog ++ Try.f18.resultTypes.toList).any (Try.prog.wideKeysFrom ·))) = true := by kernel_rfl
theorem c18 : (Rows.ledgerFindsSpec.vars.all (Try.prog.varReadable ·)) = true := by kernel_rfl
theorem c19 : (Try.f18.resultTypes.all (fun t => Try.prog.readableRec t && decide (t < Try.prog.types.size))) = true := by kernel_rfl
theorem c20 : ((Rows.ledgerFindsRow.ifacesOut == Try.f18.resultTypes.toList.any (Try.prog.ifacesRec ·))) = true := by kernel_rfl
theorem c21 : ((Rows.ledgerFindsRow.loopsOut == Try.f18.resultTypes.toList.any (Try.prog.loopsFrom ·))) = true := by kernel_rfl
theorem c22 : ((Rows.ledgerFindsRow.plainKeys == Try.prog.plainKeys)) = true := by kernel_rfl
theorem c23 : (Rows.ledgerFindsRow.shortTexts.isNone) = true := by kernel_rfl
theorem c24 : (Try.prog.stopsHeard) = true := by kernel_rfl
theorem c25 : (Try.prog.mayEnter) = true := Facts.mayEnter
theorem c26 : ((Rows.ledgerFindsRow.lifted == Try.prog.liftsFinal)) = true := by rw [Facts.liftsFinal]; kernel_rfl
theorem c27 : ((Try.prog.make == some Rows.ledgerFindsRow.make)) = true := by rw [Facts.make]; kernel_rfl
theorem c28 : ((Rows.ledgerFindsRow.kinds == (if Rows.ledgerFindsRow.domain.isEmpty then [] else Try.f18.params.toList.map fun t => match Try.prog.underlying t with | some (.int k) => some k | _ => none))) = true := by kernel_rfl
theorem c29 : ((Rows.ledgerFindsRow.pinned == Rows.ledgerFindsRow.pinnedBy)) = true := by kernel_rfl
theorem c30 : ((Rows.ledgerFindsRow.veiled == (Try.f18.params.toList ++ Rows.ledgerFindsSpec.plain.varTypes Try.prog ++ Try.f18.resultTypes.toList).any (Try.prog.veiledRec ·))) = true := by kernel_rfl
theorem c31 : (Rows.ledgerFindsRow.veiledFits Try.prog Try.f18.params.toList (Try.f18.params.toList ++ Rows.ledgerFindsSpec.plain.varTypes Try.prog ++ Try.f18.resultTypes.toList)) = true := by kernel_rfl
set_option maxRecDepth 100000 in
theorem closed : joinedFacts Try.prog 18 Try.f18 Rows.ledgerFindsSpec Rows.ledgerFindsRow = true := by
  unfold joinedFacts
  exact both (both (both (both (both (both (both (both (both (both (both (both (both (both (both (both (both (both (both (both (both (both (both (both (both (both (both (both (both (both (both (c0) c1) c2) c3) c4) c5) c6) c7) c8) c9) c10) c11) c12) c13) c14) c15) c16) c17) c18) c19) c20) c21) c22) c23) c24) c25) c26) c27) c28) c29) c30) c31
theorem over : Rows.ledgerFindsRow.holds Try.pinned (OpenSpec.ofChange Rows.ledgerFindsSpec) :=
  OpenClaim.holds_of_wide 18 Try.f18 rfl rfl rfl rfl rfl rfl rfl ⟨rfl, rfl, rfl, rfl, rfl⟩ rfl rfl rfl rfl rfl (by kernel_rfl) Try.func18 closed
    (of_decide_eq_true (by kernel_rfl)) (by unfold Func.isWrapper; first | (rw [if_pos (by decide +kernel)]; kernel_rfl) | (rw [if_neg (by decide +kernel)]; exact ⟨rfl, rfl⟩))
    (fun os started H enc _ => lifted os started H enc)
end Go.Proofs.Ytpkjpiphjdpegaa.ledgerFinds
namespace Go.Proofs.Ytpkjpiphjdpegaa
theorem ledgerFinds_holds : Rows.LedgerFindsSaid := ledgerFinds.over
end Go.Proofs.Ytpkjpiphjdpegaa
