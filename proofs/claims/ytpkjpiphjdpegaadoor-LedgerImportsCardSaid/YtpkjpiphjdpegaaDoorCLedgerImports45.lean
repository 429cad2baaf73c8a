/- A program of this session wrote this text out of the session's own texts. (part 45 of 45) -/
import Derived.Test.YtpkjpiphjdpegaaDoorCLedgerImports8
import Derived.Test.YtpkjpiphjdpegaaDoorCLedgerImports9
import Derived.Test.YtpkjpiphjdpegaaDoorCLedgerImports11
import Derived.Test.YtpkjpiphjdpegaaDoorCLedgerImports44
import Derived.Test.YtpkjpiphjdpegaaDoorRows
import Derived.Test.YtpkjpiphjdpegaaDoorTie
import Derived.Test.YtpkjpiphjdpegaaDoorCards
import Derived.SevenTiedAt
import Derived.WalkKit
import Derived.ProofKit
import Derived.OpenShut
import Derived.ShutString
import Derived.ChangeOld
import Derived.Below
import Derived.SizedLaws
namespace Go.Proofs.YtpkjpiphjdpegaaDoor.ledgerImports
open Go.ChangeShapes Go.WideShapes Go.ChangeAt Go.RowKit Go.Proofs.YtpkjpiphjdpegaaDoor.P
open Go.ChangeMaps (open_string shut_string)
set_option linter.unusedVariables false
set_option maxRecDepth 100000 in
theorem lifted (os : Os) (started : os.Started) (H : Type) (enc : TypeId × Value → H) :
  ReturnsInHanded {} Tryd.checked os 12 .any (fun w args => (Rows.ledgerImportsSpec.pre enc Tryd.prog Tryd.f12 Rows.ledgerImportsRow.domain false w args ∧ laidMetH Tryd.prog laid w) ∧ sizedMet enc Tryd.prog Tryd.f12 (OpenSpec.ofChange Rows.ledgerImportsSpec) false w args) (Rows.ledgerImportsSpec.post enc Tryd.prog Tryd.f12 false true false false) := by
 refine returnsInHanded_of_change_and (C := Tryd.checked) (X := fun w _ => laidMetH Tryd.prog laid w) (fun _ _ _ hh h => h.of_heap hh) own started (by kernel_rfl) Tryd.func12
  (ChangeSpec.witness_shaped (enc := enc) (C := Tryd.checked) (os := os) (X := fun w _ => laidMetH Tryd.prog laid w) false (World.laidAll Tryd.prog os laid) #[.string ByteArray.empty, .int .i64 0, .bool false] 8 (World.laidAll_os _ _ _) (World.shaped_of_ZipB (by kernel_rfl) (by kernel_rfl)) (by kernel_rfl) (by kernel_rfl) (by kernel_rfl) (laid_met os _)) ?_
 intro W base args ds gs before hval0 hW _ _ hL _; have hval : ∀ (j : Nat) t v, Tryd.f12.params[j]? = some t → args[j]? = some v → Value.okWide Tryd.prog W .any base t v := hval0; have hW' := hW; obtain ⟨p, q, hA0, hV, rfl, hfz, hnd⟩ := hW; have hA : DataW.TrodAll enc Tryd.prog W 0 (fun _ => true) true Tryd.f12.params.toList args.toList ds p := hA0; rw [Tryd.params12] at hA hval; have hAll := hA; obtain ⟨v0, vs0, d0, ds0, p0, q0, hargs, rfl, rfl, h0, r0⟩ := trodAll_cons hA; obtain ⟨v1, vs1, d1, ds1, p1, q1, rfl, rfl, rfl, h1, r1⟩ := trodAll_cons r0; obtain ⟨v2, vs2, d2, ds2, p2, q2, rfl, rfl, rfl, h2, r2⟩ := trodAll_cons r1; obtain ⟨rfl, rfl, rfl⟩ := trodAll_nil r2; obtain rfl : args = #[v0, v1, v2] := by cases args; simp_all
 obtain ⟨rfl, rfl⟩ := trodVars_none hV; obtain ⟨a0, rfl, g0⟩ := arg_string (hval 0 9 v0 rfl rfl) h0; obtain ⟨a1, rfl, g1⟩ := arg_int Tryd.underlying3 (hval 1 3 v1 rfl rfl) h1; obtain ⟨a2, rfl, _, _⟩ := open_bool Tryd.underlying4 (hval 2 4 v2 rfl rfl) h2; clear hA0 hval0; refine (ledgerImports_walk (w := W) a0 g0 a1 g1 a2 (gt_of hL)).mono fun e W' ⟨he, bel⟩ => ?_
 subst he; exact ⟨_, rfl, _, _, _, [], _, [], hW', trodAll_mk1 (shut_bool Tryd.underlying4 _), args_back laidOut bel (by kernel_rfl) hAll, rfl, bel.frame _, fun h => by cases h⟩
theorem both {a b : Bool} (h : a = true) (k : b = true) : (a && b) = true := by rw [h, k]; rfl
theorem c0 : (Rows.ledgerImportsRow.wf (OpenSpec.ofChange Rows.ledgerImportsSpec)) = true := by kernel_rfl
theorem c1 : (laidOutB Tryd.prog) = true := by kernel_rfl
theorem c2 : (mapsRowed Tryd.prog) = true := by kernel_rfl
theorem c3 : (Tryd.f12.params.all (Tryd.prog.readableRec ·)) = true := by kernel_rfl
theorem c4 : (namedTie Tryd.prog Rows.ledgerImportsRow.named Rows.ledgerImportsSpec.vars) = true := by kernel_rfl
theorem c5 : ((Rows.ledgerImportsRow.stops == [])) = true := by kernel_rfl
theorem c6 : ((Tryd.prog.stops == [])) = true := by kernel_rfl
theorem c7 : ((Rows.ledgerImportsRow.knobs == [])) = true := by kernel_rfl
theorem c8 : ((Tryd.prog.stopKnobs == [])) = true := by kernel_rfl
theorem c9 : ((Rows.ledgerImportsRow.inPlace == Tryd.prog.inPlace 12)) = true := by kernel_rfl
theorem c10 : ((Rows.ledgerImportsRow.unfollowed == Tryd.prog.unfollowed 12)) = true := by kernel_rfl
theorem c11 : ((Rows.ledgerImportsRow.recurses == Tryd.prog.recurses 12)) = true := by kernel_rfl
theorem c12 : ((Rows.ledgerImportsRow.named == Tryd.prog.varsNamed 12)) = true := by kernel_rfl
theorem c13 : ((Rows.ledgerImportsRow.maps == (Tryd.f12.params.toList ++ Rows.ledgerImportsSpec.plain.varTypes Tryd.prog).any (Tryd.prog.mapsRec ·))) = true := by kernel_rfl
theorem c14 : ((Rows.ledgerImportsRow.ifaces == (Tryd.f12.params.toList ++ Rows.ledgerImportsSpec.plain.varTypes Tryd.prog).any (Tryd.prog.ifacesRec ·))) = true := by kernel_rfl
theorem c15 : ((Rows.ledgerImportsRow.mapsOut == Tryd.prog.mapsAmong Tryd.f12.resultTypes.toList)) = true := by kernel_rfl
theorem c16 : ((Rows.ledgerImportsRow.loops == (Tryd.f12.params.toList ++ Rows.ledgerImportsSpec.plain.varTypes Tryd.prog).any (Tryd.prog.loopsFrom ·))) = true := by kernel_rfl
theorem c17 : ((Rows.ledgerImportsRow.wideKeys == (Tryd.f12.params.toList ++ Rows.ledgerImportsSpec.plain.varTypes Tryd.prog ++ Tryd.f12.resultTypes.toList).any (Tryd.prog.wideKeysFrom ·))) = true := by kernel_rfl
theorem c18 : (Rows.ledgerImportsSpec.vars.all (Tryd.prog.varReadable ·)) = true := by kernel_rfl
theorem c19 : (Tryd.f12.resultTypes.all (fun t => Tryd.prog.readableRec t && decide (t < Tryd.prog.types.size))) = true := by kernel_rfl
theorem c20 : ((Rows.ledgerImportsRow.ifacesOut == Tryd.f12.resultTypes.toList.any (Tryd.prog.ifacesRec ·))) = true := by kernel_rfl
theorem c21 : ((Rows.ledgerImportsRow.loopsOut == Tryd.f12.resultTypes.toList.any (Tryd.prog.loopsFrom ·))) = true := by kernel_rfl
theorem c22 : ((Rows.ledgerImportsRow.plainKeys == Tryd.prog.plainKeys)) = true := by kernel_rfl
theorem c23 : (Rows.ledgerImportsRow.shortTexts.isNone) = true := by kernel_rfl
theorem c24 : (Tryd.prog.stopsHeard) = true := by kernel_rfl
theorem c25 : (Tryd.prog.mayEnter) = true := Facts.mayEnter
theorem c26 : ((Rows.ledgerImportsRow.lifted == Tryd.prog.liftsFinal)) = true := by rw [Facts.liftsFinal]; kernel_rfl
theorem c27 : ((Tryd.prog.make == some Rows.ledgerImportsRow.make)) = true := by rw [Facts.make]; kernel_rfl
theorem c28 : ((Rows.ledgerImportsRow.kinds == (if Rows.ledgerImportsRow.domain.isEmpty then [] else Tryd.f12.params.toList.map fun t => match Tryd.prog.underlying t with | some (.int k) => some k | _ => none))) = true := by kernel_rfl
theorem c29 : ((Rows.ledgerImportsRow.pinned == Rows.ledgerImportsRow.pinnedBy)) = true := by kernel_rfl
theorem c30 : ((Rows.ledgerImportsRow.veiled == (Tryd.f12.params.toList ++ Rows.ledgerImportsSpec.plain.varTypes Tryd.prog ++ Tryd.f12.resultTypes.toList).any (Tryd.prog.veiledRec ·))) = true := by kernel_rfl
theorem c31 : (Rows.ledgerImportsRow.veiledFits Tryd.prog Tryd.f12.params.toList (Tryd.f12.params.toList ++ Rows.ledgerImportsSpec.plain.varTypes Tryd.prog ++ Tryd.f12.resultTypes.toList)) = true := by kernel_rfl
set_option maxRecDepth 100000 in
theorem closed : joinedFacts Tryd.prog 12 Tryd.f12 Rows.ledgerImportsSpec Rows.ledgerImportsRow = true := by
 unfold joinedFacts; exact both (both (both (both (both (both (both (both (both (both (both (both (both (both (both (both (both (both (both (both (both (both (both (both (both (both (both (both (both (both (both (c0) c1) c2) c3) c4) c5) c6) c7) c8) c9) c10) c11) c12) c13) c14) c15) c16) c17) c18) c19) c20) c21) c22) c23) c24) c25) c26) c27) c28) c29) c30) c31
theorem over : Rows.ledgerImportsRow.holds Tryd.pinned (OpenSpec.ofChange Rows.ledgerImportsSpec) :=
 OpenClaim.holds_of_wide 12 Tryd.f12 rfl rfl rfl rfl rfl rfl rfl ⟨rfl, rfl, rfl, rfl, rfl⟩ rfl rfl rfl rfl rfl (by kernel_rfl) Tryd.func12 closed
  (of_decide_eq_true (by kernel_rfl)) (by unfold Func.isWrapper; first | (rw [if_pos (by decide +kernel)]; kernel_rfl) | (rw [if_neg (by decide +kernel)]; exact ⟨rfl, rfl⟩))
  (fun os started H enc _ => lifted os started H enc)
end Go.Proofs.YtpkjpiphjdpegaaDoor.ledgerImports
namespace Go.Proofs.YtpkjpiphjdpegaaDoor
theorem ledgerImports_row_holds : Rows.LedgerImportsSaid := ledgerImports.over
theorem ledgerImports_holds : Rows.LedgerImportsCardSaid :=
 Claim7.holds_tied_plain_at .later [] [.data, .pinned] true (true, "8ed4f517d9b640979c9642b29f1471ad540af19eb7dd2a85df80f51153cdfa49") false
  ledgerImports_row_holds (fun _ h => by cases h) (by kernel_rfl) (fun _ h => by cases h) ledgerImports_row_tie rfl ⟨rfl, rfl⟩ Facts.mainIs rfl
  (fun f fn hf hfn => by
   obtain rfl : f = 12 := Option.some.inj ((show Tryd.prog.funcNamed "paymaster/paymasterlaw11.LedgerImports" = some 12 by kernel_rfl).symm.trans hf) |>.symm
   obtain rfl : fn = Tryd.f12 := (Option.some.inj (Tryd.func12.symm.trans hfn)).symm
   exact ⟨(by kernel_rfl), fun j t ht => by
    rw [Tryd.params12] at ht; have hm : t ∈ [9, 3, 4] := by simpa using Array.mem_of_getElem? ht
    have hall : ([9, 3, 4].all fun u => !Tryd.prog.wantsStandIn u) = true := by kernel_rfl
    exact (show Tryd.prog.wantsStandIn t = false by simpa using List.all_eq_true.1 hall t hm)⟩)
  (by kernel_rfl)
end Go.Proofs.YtpkjpiphjdpegaaDoor
