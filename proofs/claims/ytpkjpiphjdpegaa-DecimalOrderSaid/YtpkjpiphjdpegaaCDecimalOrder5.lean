/- A program of this session wrote this text out of the session's own texts. (part 5 of 5) -/
import Derived.Test.YtpkjpiphjdpegaaCDecimalOrder4
namespace Go.Proofs.Ytpkjpiphjdpegaa.P
open Go.RowKit Go.Proofs.YtpkjpiphjdpegaaW.PrintWords Go.Proofs.YtpkjpiphjdpegaaW.PrintLast Go.Proofs.YtpkjpiphjdpegaaW.PrintMore
set_option linter.unusedVariables false
set_option linter.unusedSimpArgs false
theorem less_dig : ∀ l r : List Int, l.length = r.length → Dig l → Dig r → Op.bytesLess (Lib.bytesOf (asc l)) (Lib.bytesOf (asc r)) = decide (valD l < valD r)
  | [], [], _, _, _ => rfl
  | [], _ :: _, h, _, _ => by simp at h
  | _ :: _, [], h, _, _ => by simp at h
  | x :: xs, y :: ys, h, hx, hy => by
    have hl : xs.length = ys.length := by simpa using h
    have dx : Dig xs := fun z hz => hx z (List.mem_cons_of_mem _ hz)
    have dy : Dig ys := fun z hz => hy z (List.mem_cons_of_mem _ hz)
    have ih := less_dig xs ys hl dx dy
    obtain ⟨a0, a1⟩ := valD_range xs dx
    obtain ⟨b0, b1⟩ := valD_range ys dy
    have px := hx x (List.mem_cons_self ..)
    have py := hy y (List.mem_cons_self ..)
    have bx : isByte (x + 48) := ⟨by omega, by omega⟩
    have by' : isByte (y + 48) := ⟨by omega, by omega⟩
    have e : Op.bytesLess (Lib.bytesOf (asc (x :: xs))) (Lib.bytesOf (asc (y :: ys))) = (decide (UInt8.ofNat (x + 48).toNat < UInt8.ofNat (y + 48).toNat) || (UInt8.ofNat (x + 48).toNat == UInt8.ofNat (y + 48).toNat && Op.bytesLess (Lib.bytesOf (asc xs)) (Lib.bytesOf (asc ys)))) := rfl
    rw [e, ih, byte_eq _ _ bx by', valD_cons, valD_cons]
    simp only [byte_lt _ _ bx by', hl]
    rw [hl] at a1
    have p := ten_pos ys.length
    generalize (10 : Int) ^ ys.length = M at *
    rw [Bool.eq_iff_iff]
    simp only [Bool.or_eq_true, Bool.and_eq_true, decide_eq_true_eq]
    rcases Int.lt_trichotomy x y with h1 | h1 | h1
    · have := Int.mul_le_mul_of_nonneg_right (show x + 1 ≤ y by omega) (show 0 ≤ M by omega)
      rw [Int.add_mul, Int.one_mul] at this
      constructor
      · intro _
        omega
      · intro _
        exact .inl (by omega)
    · subst h1
      constructor
      · rintro (h | ⟨_, h⟩) <;> omega
      · intro h
        exact .inr ⟨rfl, by omega⟩
    · have := Int.mul_le_mul_of_nonneg_right (show y + 1 ≤ x by omega) (show 0 ≤ M by omega)
      rw [Int.add_mul, Int.one_mul] at this
      constructor
      · rintro (h | ⟨h, _⟩) <;> omega
      · intro h
        omega
theorem decimalOrder_pure (a b c d : Int) (ha : U64 a) (hb : U64 b) (hc : U64 c) (hd : U64 d) : paymasterlaw02_DecimalOrder.f 200 a b c d = some true := by
  obtain ⟨v0, v1⟩ := val_range a b ha hb
  obtain ⟨w0, w1⟩ := val_range c d hc hd
  have m := m39
  obtain ⟨e1, d1, l1, n1⟩ := dec_facts (val a b) v0 v1
  obtain ⟨e2, d2, l2, n2⟩ := dec_facts (val c d) w0 w1
  have cm : u128_Cmp.f 200 a b c d = some (cmpI (val a b) (val c d)) := u128_Cmp_is 197 a b c d ha hb hc hd
  have lt : decide (cmpI (val a b) (val c d) < 0) = decide (val a b < val c d) := by
    unfold cmpI
    by_cases h : val a b < val c d
    · rw [if_pos h, decide_eq_true h]; rfl
    · rw [if_neg h, decide_eq_false h]
      by_cases h' : val a b = val c d
      · rw [if_pos h']; rfl
      · rw [if_neg h']; rfl
  have s1 : (strOfNums (asc (dec (val a b)))).size = (dec (val a b)).length := by rw [strOfNums_size]; simp [asc]
  have s2 : (strOfNums (asc (dec (val c d)))).size = (dec (val c d)).length := by rw [strOfNums_size]; simp [asc]
  have same : ((strOfNums (asc (dec (val a b)))).toList == (strOfNums (asc (dec (val c d)))).toList) = (a == c && b == d) := by
    rw [Bool.eq_iff_iff, beq_iff_eq, Bool.and_eq_true, beq_iff_eq, beq_iff_eq]
    constructor
    · intro e
      have e' : strOfNums (asc (dec (val a b))) = strOfNums (asc (dec (val c d))) := by
        apply ByteArray.ext
        apply Array.ext'
        rw [Lib.toList_data, Lib.toList_data] at e
        exact e
      have e'' := str_inj _ _ (asc_byte _ d1) (asc_byte _ d2) e'
      have e3 : dec (val a b) = dec (val c d) := by rw [← unasc_asc (dec (val a b)), e'', unasc_asc]
      exact val_inj hb hd (by rw [← e1, e3, e2])
    · rintro ⟨rfl, rfl⟩
      rfl
  unfold paymasterlaw02_DecimalOrder.f
  rw [awake2, Option.bind_some, if_pos rfl, text_num a b ha hb, Option.bind_some, text_num c d hc hd, Option.bind_some, s1, s2, cm, digits_num a b ha hb, same]
  have less1 := dec_less 38 (val a b) (val c d) v0 (by omega) (by omega)
  have less2 := dec_less 38 (val c d) (val a b) w0 (by omega) (by omega)
  have hx : decF 38 (val a b) = dec (val a b) := rfl
  have hy : decF 38 (val c d) = dec (val c d) := rfl
  rw [hx, hy] at less1 less2
  by_cases g1 : ((dec (val a b)).length : Int) < (dec (val c d)).length
  · rw [if_pos g1, Option.bind_some, lt, decide_eq_true (less1 (by omega)), if_pos (show (true == true) = true from rfl), if_pos (by simp), Option.bind_some]
    simp
  · rw [if_neg g1]
    by_cases g2 : ((dec (val a b)).length : Int) = (dec (val c d)).length
    · rw [if_pos g2, Option.bind_some, lt, Lib.strOfNums_toList, Lib.strOfNums_toList, less_dig _ _ (by omega) d1 d2, e1, e2, if_pos (by simp), if_pos (by simp), Option.bind_some]
      simp
    · rw [if_neg g2, Option.bind_some, lt, decide_eq_false (by have := less2 (by omega); omega), if_pos (show (false == false) = true from rfl), if_pos (by simp), Option.bind_some]
      simp
theorem decimalOrder_walk {w : World} (a b : Int) (ha : U64 a) (hb : U64 b) (c d : Int) (hc : U64 c) (hd : U64 d) :
    Calls Try.prog 23 #[.agg #[.int .u64 a, .int .u64 b], .agg #[.int .u64 c, .int .u64 d]] w fun e w' => e = .returned (.bool true) ∧ Below w.heap.size w w' :=
  paymasterlaw02_DecimalOrder.calls 200 a b c d true w (decimalOrder_pure a b c d ha hb hc hd)
end Go.Proofs.Ytpkjpiphjdpegaa.P
namespace Go.Proofs.Ytpkjpiphjdpegaa.decimalOrder
open Go.ChangeShapes Go.WideShapes Go.ChangeAt Go.RowKit Go.Proofs.Ytpkjpiphjdpegaa.P
open Go.ChangeMaps (open_string shut_string)
set_option linter.unusedVariables false
theorem own : ownKnob Try.prog.godebug = none := by kernel_rfl
theorem laidOut : laidOutB Try.prog = true := by kernel_rfl
set_option maxRecDepth 100000 in
theorem lifted (os : Os) (started : os.Started) (H : Type) (enc : TypeId × Value → H) :
    ReturnsInHanded {} Try.checked os 23 .any (Rows.decimalOrderSpec.pre6 enc Try.prog Try.f23 Rows.decimalOrderRow.domain false) (Rows.decimalOrderSpec.post enc Try.prog Try.f23 false true false false) := by
  refine returnsInHanded_of_change_sized (C := Try.checked) own started (by kernel_rfl) Try.func23
    (ChangeSpec.witness6 (enc := enc) (C := Try.checked) false ⟨#[], #[.agg #[.int .u64 0, .int .u64 0], .agg #[.int .u64 0, .int .u64 0]], []⟩ 8 (by kernel_rfl) (by kernel_rfl) (by kernel_rfl) (by kernel_rfl)) ?_
  intro W base args ds gs before hval0 hW hcnd hsz0 _
  have hval : ∀ (j : Nat) t v, Try.f23.params[j]? = some t → args[j]? = some v → Value.okWide Try.prog W .any base t v := hval0
  have hW' := hW
  obtain ⟨p, q, hA0, hV, rfl, hfz, hnd⟩ := hW
  have hA : DataW.TrodAll enc Try.prog W 0 (fun _ => true) true Try.f23.params.toList args.toList ds p := hA0
  rw [Try.params23] at hA hval
  have hAll := hA
  obtain ⟨v0, vs0, d0, ds0, p0, q0, hargs, rfl, rfl, h0, r0⟩ := trodAll_cons hA
  obtain ⟨v1, vs1, d1, ds1, p1, q1, rfl, rfl, rfl, h1, r1⟩ := trodAll_cons r0
  obtain ⟨rfl, rfl, rfl⟩ := trodAll_nil r1
  obtain rfl : args = #[v0, v1] := by cases args; simp_all
  obtain ⟨rfl, rfl⟩ := trodVars_none hV
  obtain ⟨a0_0, a0_1, rfl, g0_0, g0_1⟩ := arg_25 (hval 0 25 v0 rfl rfl) h0
  obtain ⟨a1_0, a1_1, rfl, g1_0, g1_1⟩ := arg_25 (hval 1 25 v1 rfl rfl) h1
  clear hA0 hval0 hsz0
  refine (decimalOrder_walk (w := W) a0_0 a0_1 g0_0 g0_1 a1_0 a1_1 g1_0 g1_1).mono fun e W' ⟨he, bel⟩ => ?_
  subst he
  exact ⟨_, rfl, _, _, _, [], _, [], hW', trodAll_mk1 (shut_bool Try.underlying4 _), args_back laidOut bel (by kernel_rfl) hAll, rfl, bel.frame _, fun h => by cases h⟩
theorem both {a b : Bool} (h : a = true) (k : b = true) : (a && b) = true := by rw [h, k]; rfl
theorem c0 : (Rows.decimalOrderRow.wf (OpenSpec.ofChange Rows.decimalOrderSpec)) = true := by kernel_rfl
theorem c1 : (laidOutB Try.prog) = true := by kernel_rfl
theorem c2 : (mapsRowed Try.prog) = true := by kernel_rfl
theorem c3 : (Try.f23.params.all (Try.prog.readableRec ·)) = true := by kernel_rfl
theorem c4 : (namedTie Try.prog Rows.decimalOrderRow.named Rows.decimalOrderSpec.vars) = true := by kernel_rfl
theorem c5 : ((Rows.decimalOrderRow.stops == [])) = true := by kernel_rfl
theorem c6 : ((Try.prog.stops == [])) = true := by kernel_rfl
theorem c7 : ((Rows.decimalOrderRow.knobs == [])) = true := by kernel_rfl
theorem c8 : ((Try.prog.stopKnobs == [])) = true := by kernel_rfl
theorem c9 : ((Rows.decimalOrderRow.inPlace == Try.prog.inPlace 23)) = true := by kernel_rfl
theorem c10 : ((Rows.decimalOrderRow.unfollowed == Try.prog.unfollowed 23)) = true := by kernel_rfl
theorem c11 : ((Rows.decimalOrderRow.recurses == Try.prog.recurses 23)) = true := by kernel_rfl
theorem c12 : ((Rows.decimalOrderRow.named == Try.prog.varsNamed 23)) = true := by kernel_rfl
theorem c13 : ((Rows.decimalOrderRow.maps == (Try.f23.params.toList ++ Rows.decimalOrderSpec.plain.varTypes Try.prog).any (Try.prog.mapsRec ·))) = true := by kernel_rfl
theorem c14 : ((Rows.decimalOrderRow.ifaces == (Try.f23.params.toList ++ Rows.decimalOrderSpec.plain.varTypes Try.prog).any (Try.prog.ifacesRec ·))) = true := by kernel_rfl
theorem c15 : ((Rows.decimalOrderRow.mapsOut == Try.prog.mapsAmong Try.f23.resultTypes.toList)) = true := by kernel_rfl
theorem c16 : ((Rows.decimalOrderRow.loops == (Try.f23.params.toList ++ Rows.decimalOrderSpec.plain.varTypes Try.prog).any (Try.prog.loopsFrom ·))) = true := by kernel_rfl
theorem c17 : ((Rows.decimalOrderRow.wideKeys == (Try.f23.params.toList ++ Rows.decimalOrderSpec.plain.varTypes Try.prog ++ Try.f23.resultTypes.toList).any (Try.prog.wideKeysFrom ·))) = true := by kernel_rfl
theorem c18 : (Rows.decimalOrderSpec.vars.all (Try.prog.varReadable ·)) = true := by kernel_rfl
theorem c19 : (Try.f23.resultTypes.all (fun t => Try.prog.readableRec t && decide (t < Try.prog.types.size))) = true := by kernel_rfl
theorem c20 : ((Rows.decimalOrderRow.ifacesOut == Try.f23.resultTypes.toList.any (Try.prog.ifacesRec ·))) = true := by kernel_rfl
theorem c21 : ((Rows.decimalOrderRow.loopsOut == Try.f23.resultTypes.toList.any (Try.prog.loopsFrom ·))) = true := by kernel_rfl
theorem c22 : ((Rows.decimalOrderRow.plainKeys == Try.prog.plainKeys)) = true := by kernel_rfl
theorem c23 : (Rows.decimalOrderRow.shortTexts.isNone) = true := by kernel_rfl
theorem c24 : (Try.prog.stopsHeard) = true := by kernel_rfl
theorem c25 : (Try.prog.mayEnter) = true := Facts.mayEnter
theorem c26 : ((Rows.decimalOrderRow.lifted == Try.prog.liftsFinal)) = true := by rw [Facts.liftsFinal]; kernel_rfl
theorem c27 : ((Try.prog.make == some Rows.decimalOrderRow.make)) = true := by rw [Facts.make]; kernel_rfl
theorem c28 : ((Rows.decimalOrderRow.kinds == (if Rows.decimalOrderRow.domain.isEmpty then [] else Try.f23.params.toList.map fun t => match Try.prog.underlying t with | some (.int k) => some k | _ => none))) = true := by kernel_rfl
theorem c29 : ((Rows.decimalOrderRow.pinned == Rows.decimalOrderRow.pinnedBy)) = true := by kernel_rfl
theorem c30 : ((Rows.decimalOrderRow.veiled == (Try.f23.params.toList ++ Rows.decimalOrderSpec.plain.varTypes Try.prog ++ Try.f23.resultTypes.toList).any (Try.prog.veiledRec ·))) = true := by kernel_rfl
theorem c31 : (Rows.decimalOrderRow.veiledFits Try.prog Try.f23.params.toList (Try.f23.params.toList ++ Rows.decimalOrderSpec.plain.varTypes Try.prog ++ Try.f23.resultTypes.toList)) = true := by kernel_rfl
set_option maxRecDepth 100000 in
theorem closed : joinedFacts Try.prog 23 Try.f23 Rows.decimalOrderSpec Rows.decimalOrderRow = true := by
  unfold joinedFacts
  exact both (both (both (both (both (both (both (both (both (both (both (both (both (both (both (both (both (both (both (both (both (both (both (both (both (both (both (both (both (both (both (c0) c1) c2) c3) c4) c5) c6) c7) c8) c9) c10) c11) c12) c13) c14) c15) c16) c17) c18) c19) c20) c21) c22) c23) c24) c25) c26) c27) c28) c29) c30) c31
theorem over : Rows.decimalOrderRow.holds Try.pinned (OpenSpec.ofChange Rows.decimalOrderSpec) :=
  OpenClaim.holds_of_wide 23 Try.f23 rfl rfl rfl rfl rfl rfl rfl ⟨rfl, rfl, rfl, rfl, rfl⟩ rfl rfl rfl rfl rfl (by kernel_rfl) Try.func23 closed
    (of_decide_eq_true (by kernel_rfl)) (by unfold Func.isWrapper; first | (rw [if_pos (by decide +kernel)]; kernel_rfl) | (rw [if_neg (by decide +kernel)]; exact ⟨rfl, rfl⟩))
    (fun os started H enc _ => lifted os started H enc)
end Go.Proofs.Ytpkjpiphjdpegaa.decimalOrder
namespace Go.Proofs.Ytpkjpiphjdpegaa
theorem decimalOrder_holds : Rows.DecimalOrderSaid := decimalOrder.over
end Go.Proofs.Ytpkjpiphjdpegaa
