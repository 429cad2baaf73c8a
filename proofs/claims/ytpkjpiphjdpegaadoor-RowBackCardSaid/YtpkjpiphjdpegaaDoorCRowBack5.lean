/- A program of this session wrote this text out of the session's own texts. (part 5 of 5) -/
import Derived.Test.YtpkjpiphjdpegaaDoorCRowBack4
namespace Go.Proofs.YtpkjpiphjdpegaaDoor.P
open Go.RowKit Go.Proofs.YtpkjpiphjdpegaaDoorW.PrintWords Go.Proofs.YtpkjpiphjdpegaaDoorW.PrintLast Go.Proofs.YtpkjpiphjdpegaaDoorW.PrintMore
set_option linter.unusedVariables false
set_option linter.unusedSimpArgs false
theorem rowText_good (id : ByteArray) (a b : Int) (m : mayId id = true) : rowText id a b = (lineB id a b, 0) := by
  unfold rowText lineB
  rw [if_pos m]
theorem rowText_bad (id : ByteArray) (a b : Int) (m : ¬ mayId id = true) : rowText id a b = ((⟨#[]⟩ : ByteArray), 101) := by
  unfold rowText
  rw [if_neg m]
theorem rowBack_j2 (s : ByteArray) (hs : s.size ≤ 1000000) (k : Nat) : paymasterlaw10_RowBack.j2 (k + 1) s = some true := by
  have e : s.data.toList.length = s.size := Array.length_toList
  have p := parse_is s.data.toList (by omega)
  rw [mk_of] at p
  rw [paymasterlaw10_RowBack.j2, p, Option.bind_some]
  by_cases z : (parseRow s.data.toList).2.2.2 = 0
  · obtain ⟨h1, h2, h3, h4⟩ := parse_line _ z
    have hz := (mayId_one _ h4).2
    rw [if_pos z, text_is _ _ _ (by omega) h2 h3, Option.bind_some, h1, if_pos rfl, mk_of]
    simp
  · obtain ⟨h1, h2⟩ := parse_bad _ z
    generalize hg : (parseRow s.data.toList).2.2.2 = c at z h1 h2
    rw [h1]
    dsimp only
    rw [if_neg z, if_pos (by simp [toList_eq])]
    rcases h2 with h2 | h2 | h2
    · rw [if_pos h2]
    · rw [if_neg (by omega), if_pos h2]
    · rw [if_neg (by omega), if_neg (by omega), h2]; rfl
theorem rowBack_pure (id : ByteArray) (a b : Int) (s : ByteArray) (ha : U64 a) (hb : U64 b) : ∃ k, paymasterlaw10_RowBack.f k id a b s = some true := by
  refine ⟨1000, ?_⟩
  unfold paymasterlaw10_RowBack.f
  rw [awake10_up _ (by omega), Option.bind_some, if_pos rfl]
  by_cases h1 : (id.size : Int) > 200
  · rw [if_pos h1, paymasterlaw10_RowBack.j0, if_pos rfl]
  · rw [if_neg h1, paymasterlaw10_RowBack.j0]
    by_cases h2 : (s.size : Int) > 300
    · rw [decide_eq_true h2, if_pos rfl]
    · rw [decide_eq_false h2, if_neg (show ¬ (false = true) by decide), text_is id a b (by omega) ha hb, Option.bind_some, mayId_f id (by omega), Option.bind_some]
      by_cases m : mayId id = true
      · have ls := line_size id a b m ha hb
        have e : (lineB id a b).data.toList.length = (lineB id a b).size := Array.length_toList
        have p := parse_is (lineB id a b).data.toList (by omega)
        rw [mk_of, line_parse id a b m ha hb] at p
        have al : allL (lineB id a b) = [lineOf 1 (lineB id a b).data.toList] := by
          unfold allL
          rw [line_split id a b m ha hb]
          rfl
        have o := of_is 1 (lineB id a b).data.toList (by omega)
        rw [line_kind id a b m, line_wrong id a b m ha hb, line_one id a b m ha hb] at o
        rw [rowText_good id a b m]
        dsimp only
        rw [m, if_neg (by decide), if_pos rfl, paymasterlaw10_RowBack.j1, if_neg (by decide), if_pos rfl, p, Option.bind_some, all_f _ (by omega), Option.bind_some, al, if_pos rfl]
        dsimp only
        rw [if_neg (by simp), if_pos (by rfl), if_pos (by simp)]
        have r0 : rd_T56 [lineOf 1 (lineB id a b).data.toList] 0 = lineOf 1 (lineB id a b).data.toList := rfl
        rw [r0]
        have f0 : (lineOf 1 (lineB id a b).data.toList).f0 = 1 := rfl
        have f1 : (lineOf 1 (lineB id a b).data.toList).f1 = mk (lineB id a b).data.toList := rfl
        have f2 : (lineOf 1 (lineB id a b).data.toList).f2 = 2 := line_kind id a b m
        have f3 : (lineOf 1 (lineB id a b).data.toList).f3 = 0 := line_wrong id a b m ha hb
        rw [f0, f1, f2, f3, if_pos rfl, if_pos rfl, o, Option.bind_some]
        dsimp only
        rw [if_pos rfl, if_pos rfl, if_neg (by simp)]
        exact rowBack_j2 s (by omega) _
      · rw [rowText_bad id a b m]
        have mf : mayId id = false := by simpa using m
        dsimp only
        rw [mf, if_neg (by decide), if_neg (by decide), if_pos rfl, paymasterlaw10_RowBack.j1, if_neg (by simp [toList_eq]), if_neg (by decide)]
        exact rowBack_j2 s (by omega) _
theorem rowBack_walk {w : World} (a0_0 : ByteArray) (a0_1 a0_2 : Int) (g0_0 : a0_0.size ≤ 9223372036854775807) (g0_1 : U64 a0_1) (g0_2 : U64 a0_2) (a1 : ByteArray) (g1 : a1.size ≤ 9223372036854775807) (hG : GT w) :
    Calls Tryd.prog 13 #[.agg #[.string a0_0, .int .u64 a0_1, .int .u64 a0_2], .string a1] w fun e w' => e = .returned (.bool true) ∧ Below w.heap.size w w' := by
  obtain ⟨k, hk⟩ := rowBack_pure a0_0 a0_1 a0_2 a1 g0_1 g0_2
  exact paymasterlaw10_RowBack.calls k a0_0 a0_1 a0_2 a1 true w hG hk
end Go.Proofs.YtpkjpiphjdpegaaDoor.P
namespace Go.Proofs.YtpkjpiphjdpegaaDoor.rowBack
open Go.ChangeShapes Go.WideShapes Go.ChangeAt Go.RowKit Go.Proofs.YtpkjpiphjdpegaaDoor.P
open Go.ChangeMaps (open_string shut_string)
set_option linter.unusedVariables false
set_option maxRecDepth 100000 in
theorem lifted (os : Os) (started : os.Started) (H : Type) (enc : TypeId × Value → H) :
    ReturnsInHanded {} Tryd.checked os 13 .any (fun w args => (Rows.rowBackSpec.pre enc Tryd.prog Tryd.f13 Rows.rowBackRow.domain false w args ∧ laidMetH Tryd.prog laid w) ∧ sizedMet enc Tryd.prog Tryd.f13 (OpenSpec.ofChange Rows.rowBackSpec) false w args) (Rows.rowBackSpec.post enc Tryd.prog Tryd.f13 false true false false) := by
  refine returnsInHanded_of_change_and (C := Tryd.checked) (X := fun w _ => laidMetH Tryd.prog laid w) (fun _ _ _ hh h => h.of_heap hh) own started (by kernel_rfl) Tryd.func13
    (ChangeSpec.witness_shaped (enc := enc) (C := Tryd.checked) (os := os) (X := fun w _ => laidMetH Tryd.prog laid w) false (World.laidAll Tryd.prog os laid) #[.agg #[.string ByteArray.empty, .int .u64 0, .int .u64 0], .string ByteArray.empty] 8 (World.laidAll_os _ _ _) (World.shaped_of_ZipB (by kernel_rfl) (by kernel_rfl)) (by kernel_rfl) (by kernel_rfl) (by kernel_rfl) (laid_met os _)) ?_
  intro W base args ds gs before hval0 hW _ _ hL _
  have hval : ∀ (j : Nat) t v, Tryd.f13.params[j]? = some t → args[j]? = some v → Value.okWide Tryd.prog W .any base t v := hval0
  have hW' := hW
  obtain ⟨p, q, hA0, hV, rfl, hfz, hnd⟩ := hW
  have hA : DataW.TrodAll enc Tryd.prog W 0 (fun _ => true) true Tryd.f13.params.toList args.toList ds p := hA0
  rw [Tryd.params13] at hA hval
  have hAll := hA
  obtain ⟨v0, vs0, d0, ds0, p0, q0, hargs, rfl, rfl, h0, r0⟩ := trodAll_cons hA
  obtain ⟨v1, vs1, d1, ds1, p1, q1, rfl, rfl, rfl, h1, r1⟩ := trodAll_cons r0
  obtain ⟨rfl, rfl, rfl⟩ := trodAll_nil r1
  obtain rfl : args = #[v0, v1] := by cases args; simp_all
  obtain ⟨rfl, rfl⟩ := trodVars_none hV
  obtain ⟨a0_0, a0_1, a0_2, rfl, g0_0, g0_1, g0_2⟩ := arg_44 (hval 0 44 v0 rfl rfl) h0
  obtain ⟨a1, rfl, g1⟩ := arg_string (hval 1 9 v1 rfl rfl) h1
  clear hA0 hval0
  refine (rowBack_walk (w := W) a0_0 a0_1 a0_2 g0_0 g0_1 g0_2 a1 g1 (gt_of hL)).mono fun e W' ⟨he, bel⟩ => ?_
  subst he
  exact ⟨_, rfl, _, _, _, [], _, [], hW', trodAll_mk1 (shut_bool Tryd.underlying4 _), args_back laidOut bel (by kernel_rfl) hAll, rfl, bel.frame _, fun h => by cases h⟩
theorem both {a b : Bool} (h : a = true) (k : b = true) : (a && b) = true := by rw [h, k]; rfl
theorem c0 : (Rows.rowBackRow.wf (OpenSpec.ofChange Rows.rowBackSpec)) = true := by kernel_rfl
theorem c1 : (laidOutB Tryd.prog) = true := by kernel_rfl
theorem c2 : (mapsRowed Tryd.prog) = true := by kernel_rfl
theorem c3 : (Tryd.f13.params.all (Tryd.prog.readableRec ·)) = true := by kernel_rfl
theorem c4 : (namedTie Tryd.prog Rows.rowBackRow.named Rows.rowBackSpec.vars) = true := by kernel_rfl
theorem c5 : ((Rows.rowBackRow.stops == [])) = true := by kernel_rfl
theorem c6 : ((Tryd.prog.stops == [])) = true := by kernel_rfl
theorem c7 : ((Rows.rowBackRow.knobs == [])) = true := by kernel_rfl
theorem c8 : ((Tryd.prog.stopKnobs == [])) = true := by kernel_rfl
theorem c9 : ((Rows.rowBackRow.inPlace == Tryd.prog.inPlace 13)) = true := by kernel_rfl
theorem c10 : ((Rows.rowBackRow.unfollowed == Tryd.prog.unfollowed 13)) = true := by kernel_rfl
theorem c11 : ((Rows.rowBackRow.recurses == Tryd.prog.recurses 13)) = true := by kernel_rfl
theorem c12 : ((Rows.rowBackRow.named == Tryd.prog.varsNamed 13)) = true := by kernel_rfl
theorem c13 : ((Rows.rowBackRow.maps == (Tryd.f13.params.toList ++ Rows.rowBackSpec.plain.varTypes Tryd.prog).any (Tryd.prog.mapsRec ·))) = true := by kernel_rfl
theorem c14 : ((Rows.rowBackRow.ifaces == (Tryd.f13.params.toList ++ Rows.rowBackSpec.plain.varTypes Tryd.prog).any (Tryd.prog.ifacesRec ·))) = true := by kernel_rfl
theorem c15 : ((Rows.rowBackRow.mapsOut == Tryd.prog.mapsAmong Tryd.f13.resultTypes.toList)) = true := by kernel_rfl
theorem c16 : ((Rows.rowBackRow.loops == (Tryd.f13.params.toList ++ Rows.rowBackSpec.plain.varTypes Tryd.prog).any (Tryd.prog.loopsFrom ·))) = true := by kernel_rfl
theorem c17 : ((Rows.rowBackRow.wideKeys == (Tryd.f13.params.toList ++ Rows.rowBackSpec.plain.varTypes Tryd.prog ++ Tryd.f13.resultTypes.toList).any (Tryd.prog.wideKeysFrom ·))) = true := by kernel_rfl
theorem c18 : (Rows.rowBackSpec.vars.all (Tryd.prog.varReadable ·)) = true := by kernel_rfl
theorem c19 : (Tryd.f13.resultTypes.all (fun t => Tryd.prog.readableRec t && decide (t < Tryd.prog.types.size))) = true := by kernel_rfl
theorem c20 : ((Rows.rowBackRow.ifacesOut == Tryd.f13.resultTypes.toList.any (Tryd.prog.ifacesRec ·))) = true := by kernel_rfl
theorem c21 : ((Rows.rowBackRow.loopsOut == Tryd.f13.resultTypes.toList.any (Tryd.prog.loopsFrom ·))) = true := by kernel_rfl
theorem c22 : ((Rows.rowBackRow.plainKeys == Tryd.prog.plainKeys)) = true := by kernel_rfl
theorem c23 : (Rows.rowBackRow.shortTexts.isNone) = true := by kernel_rfl
theorem c24 : (Tryd.prog.stopsHeard) = true := by kernel_rfl
theorem c25 : (Tryd.prog.mayEnter) = true := Facts.mayEnter
theorem c26 : ((Rows.rowBackRow.lifted == Tryd.prog.liftsFinal)) = true := by rw [Facts.liftsFinal]; kernel_rfl
theorem c27 : ((Tryd.prog.make == some Rows.rowBackRow.make)) = true := by rw [Facts.make]; kernel_rfl
theorem c28 : ((Rows.rowBackRow.kinds == (if Rows.rowBackRow.domain.isEmpty then [] else Tryd.f13.params.toList.map fun t => match Tryd.prog.underlying t with | some (.int k) => some k | _ => none))) = true := by kernel_rfl
theorem c29 : ((Rows.rowBackRow.pinned == Rows.rowBackRow.pinnedBy)) = true := by kernel_rfl
theorem c30 : ((Rows.rowBackRow.veiled == (Tryd.f13.params.toList ++ Rows.rowBackSpec.plain.varTypes Tryd.prog ++ Tryd.f13.resultTypes.toList).any (Tryd.prog.veiledRec ·))) = true := by kernel_rfl
theorem c31 : (Rows.rowBackRow.veiledFits Tryd.prog Tryd.f13.params.toList (Tryd.f13.params.toList ++ Rows.rowBackSpec.plain.varTypes Tryd.prog ++ Tryd.f13.resultTypes.toList)) = true := by kernel_rfl
set_option maxRecDepth 100000 in
theorem closed : joinedFacts Tryd.prog 13 Tryd.f13 Rows.rowBackSpec Rows.rowBackRow = true := by
  unfold joinedFacts
  exact both (both (both (both (both (both (both (both (both (both (both (both (both (both (both (both (both (both (both (both (both (both (both (both (both (both (both (both (both (both (both (c0) c1) c2) c3) c4) c5) c6) c7) c8) c9) c10) c11) c12) c13) c14) c15) c16) c17) c18) c19) c20) c21) c22) c23) c24) c25) c26) c27) c28) c29) c30) c31
theorem over : Rows.rowBackRow.holds Tryd.pinned (OpenSpec.ofChange Rows.rowBackSpec) :=
  OpenClaim.holds_of_wide 13 Tryd.f13 rfl rfl rfl rfl rfl rfl rfl ⟨rfl, rfl, rfl, rfl, rfl⟩ rfl rfl rfl rfl rfl (by kernel_rfl) Tryd.func13 closed
    (of_decide_eq_true (by kernel_rfl)) (by unfold Func.isWrapper; first | (rw [if_pos (by decide +kernel)]; kernel_rfl) | (rw [if_neg (by decide +kernel)]; exact ⟨rfl, rfl⟩))
    (fun os started H enc _ => lifted os started H enc)
end Go.Proofs.YtpkjpiphjdpegaaDoor.rowBack
namespace Go.Proofs.YtpkjpiphjdpegaaDoor
theorem rowBack_row_holds : Rows.RowBackSaid := rowBack.over
theorem rowBack_holds : Rows.RowBackCardSaid :=
  Claim7.holds_tied_plain_at .later [] [.data, .pinned] true (true, "8ed4f517d9b640979c9642b29f1471ad540af19eb7dd2a85df80f51153cdfa49") false
    rowBack_row_holds (fun _ h => by cases h) (by kernel_rfl) (fun _ h => by cases h) rowBack_row_tie rfl ⟨rfl, rfl⟩ Facts.mainIs rfl
    (fun f fn hf hfn => by
      obtain rfl : f = 13 := Option.some.inj ((show Tryd.prog.funcNamed "paymaster/paymasterlaw10.RowBack" = some 13 by kernel_rfl).symm.trans hf) |>.symm
      obtain rfl : fn = Tryd.f13 := (Option.some.inj (Tryd.func13.symm.trans hfn)).symm
      exact ⟨by kernel_rfl, fun j t ht => by
        rw [Tryd.params13] at ht
        have hm : t ∈ [44, 9] := by simpa using Array.mem_of_getElem? ht
        have hall : ([44, 9].all fun u => !Tryd.prog.wantsStandIn u) = true := by kernel_rfl
        exact (show Tryd.prog.wantsStandIn t = false by simpa using List.all_eq_true.1 hall t hm)⟩)
    (by kernel_rfl)
end Go.Proofs.YtpkjpiphjdpegaaDoor
