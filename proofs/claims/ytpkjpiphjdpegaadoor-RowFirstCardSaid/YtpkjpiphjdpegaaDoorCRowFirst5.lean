/- A program of this session wrote this text out of the session's own texts. (part 5 of 5) -/
import Derived.Test.YtpkjpiphjdpegaaDoorCRowFirst4
namespace Go.Proofs.YtpkjpiphjdpegaaDoor.P
open Go.RowKit Go.Proofs.YtpkjpiphjdpegaaDoorW.PrintWords Go.Proofs.YtpkjpiphjdpegaaDoorW.PrintLast Go.Proofs.YtpkjpiphjdpegaaDoorW.PrintMore
set_option linter.unusedVariables false
set_option linter.unusedSimpArgs false
def fineB (h : List UInt8) : Bool := decide ((oneB h).2.2.2.2 = 0)
def rowB (h : List UInt8) : S44 := ⟨(oneB h).1, ⟨(oneB h).2.1, (oneB h).2.2.1⟩⟩
def rowsB (h : List UInt8) : List S44 := if (oneB h).2.2.2.2 = 0 then (if (oneB h).2.2.2.1 = true then [rowB h] else []) else []
def rowsF (L : List (List UInt8)) : List S44 := L.flatMap rowsB
def firstE : Int → List (List UInt8) → Int × Int
  | _, [] => (0, 0)
  | n, h :: r => if (oneB h).2.2.2.2 = 0 then firstE (n + 1) r else (n, (oneB h).2.2.2.2)
theorem firstE_zero : ∀ (L : List (List UInt8)) (n : Int), (firstE n L).2 = 0 → firstE n L = (0, 0)
  | [], n, _ => rfl
  | h :: L, n, e => by
    rw [firstE] at e ⊢
    by_cases c : (oneB h).2.2.2.2 = 0
    · rw [if_pos c] at e ⊢
      exact firstE_zero L _ e
    · rw [if_neg c] at e
      exact absurd e c
theorem rowsL_is : ∀ (L : List (List UInt8)) (n : Int) (acc : List S44), rowsL n acc L = if (firstE n L).2 = 0 then (acc ++ rowsF L, 0, 0) else ([], firstE n L)
  | [], n, acc => by
    rw [rowsL, firstE, if_pos rfl]
    show _ = (acc ++ [], 0, 0)
    rw [List.append_nil]
  | h :: L, n, acc => by
    rw [rowsL, firstE]
    have fl : rowsF (h :: L) = rowsB h ++ rowsF L := List.flatMap_cons
    by_cases c : (oneB h).2.2.2.2 = 0
    · rw [if_pos c, if_pos c, fl]
      unfold rowsB
      rw [if_pos c]
      by_cases z : (oneB h).2.2.2.1 = true
      · rw [if_pos z, if_pos z, rowsL_is L (n + 1)]
        split
        · rw [List.append_assoc]; rfl
        · rfl
      · rw [if_neg z, if_neg z, rowsL_is L (n + 1), List.nil_append]
    · rw [if_neg c, if_neg c, if_neg c]
theorem fine_first : ∀ (L : List (List UInt8)) (n : Int), (firstE n (L.filter fineB)).2 = 0
  | [], n => rfl
  | h :: L, n => by
    rw [List.filter_cons]
    by_cases c : (oneB h).2.2.2.2 = 0
    · rw [if_pos (by unfold fineB; exact decide_eq_true c), firstE, if_pos c]
      exact fine_first L _
    · rw [if_neg (by unfold fineB; simpa using c)]
      exact fine_first L _
theorem fine_rows : ∀ (L : List (List UInt8)), rowsF (L.filter fineB) = rowsF L
  | [] => rfl
  | h :: L => by
    have fl : rowsF (h :: L) = rowsB h ++ rowsF L := List.flatMap_cons
    rw [List.filter_cons, fl]
    by_cases c : (oneB h).2.2.2.2 = 0
    · rw [if_pos (by unfold fineB; exact decide_eq_true c)]
      have fl2 : rowsF (h :: L.filter fineB) = rowsB h ++ rowsF (L.filter fineB) := List.flatMap_cons
      rw [fl2, fine_rows L]
    · rw [if_neg (by unfold fineB; simpa using c), fine_rows L]
      unfold rowsB
      rw [if_neg c, List.nil_append]
theorem one_flag (h : List UInt8) (c : ¬ (oneB h).2.2.2.2 = 0) : (oneB h).2.2.2.1 = false := by
  unfold oneB at c ⊢
  by_cases w : wrongOf h = 0
  · rw [if_pos w] at c ⊢
    by_cases q : kindOf h = 2
    · rw [if_pos q] at c ⊢
      show ((parseRow h).2.2.2 == 0) = false
      simpa using c
    · rw [if_neg q]
  · rw [if_neg w]
theorem first_l0 (s : ByteArray) (L : List (List UInt8)) (hl : L.length ≤ 3000) (hz : ∀ h ∈ L, h.length ≤ 3000) (k : Nat) : ∀ (t i : Nat) (x3 : List ByteArray) (x4 : List S44) (x5 x6 : Int), i + t = L.length → x3.length ≤ i → x4.length ≤ i → (x5 = 0 → x6 = 0) →
    paymasterlaw10_RowFirst.l0 (k + 1 + 3 * t) s x3 x4 x5 x6 (linesL 1 L) (i : Int) =
      paymasterlaw10_RowFirst.l0 (k + 1) s (x3 ++ ((L.drop i).filter fineB).map mk) (x4 ++ rowsF (L.drop i)) (if x5 = 0 then (firstE ((i : Int) + 1) (L.drop i)).1 else x5) (if x5 = 0 then (firstE ((i : Int) + 1) (L.drop i)).2 else x6) (linesL 1 L) (L.length : Int)
  | 0, i, x3, x4, x5, x6, h, h3, h4, h5 => by
    obtain rfl : i = L.length := by omega
    rw [List.drop_length]
    have e1 : (if x5 = 0 then (firstE ((L.length : Int) + 1) []).1 else x5) = x5 := by
      by_cases c : x5 = 0
      · rw [if_pos c, c]; rfl
      · rw [if_neg c]
    have e2 : (if x5 = 0 then (firstE ((L.length : Int) + 1) []).2 else x6) = x6 := by
      by_cases c : x5 = 0
      · rw [if_pos c, h5 c]; rfl
      · rw [if_neg c]
    rw [e1, e2]
    show _ = paymasterlaw10_RowFirst.l0 (k + 1) s (x3 ++ []) (x4 ++ []) x5 x6 (linesL 1 L) (L.length : Int)
    rw [List.append_nil, List.append_nil]
  | t + 1, i, x3, x4, x5, x6, h, h3, h4, h5 => by
    have hi : i < L.length := by omega
    have nx : L.drop i = L[i] :: L.drop (i + 1) := List.drop_eq_getElem_cons hi
    have hm : L[i] ∈ L := List.getElem_mem hi
    have gd : L.getD i [] = L[i] := by rw [List.getD_eq_getElem?_getD, List.getElem?_eq_getElem hi]; rfl
    have r := rd_line L i hi
    rw [gd] at r
    have w1 : wrap64 ((i : Int) + 1) = ((i + 1 : Nat) : Int) := by rw [wrapI _ (by omega) (by omega)]; push_cast; rfl
    have f0 : (lineOf ((i : Int) + 1) L[i]).f0 = (i : Int) + 1 := rfl
    have f1 : (lineOf ((i : Int) + 1) L[i]).f1 = mk L[i] := rfl
    have f2 : (lineOf ((i : Int) + 1) L[i]).f2 = kindOf L[i] := rfl
    have f3 : (lineOf ((i : Int) + 1) L[i]).f3 = wrongOf L[i] := rfl
    have hb := hz _ hm
    have fl : rowsF (L[i] :: L.drop (i + 1)) = rowsB L[i] ++ rowsF (L.drop (i + 1)) := List.flatMap_cons
    conv => lhs; rw [show k + 1 + 3 * (t + 1) = (((k + 1 + 3 * t) + 1) + 1) + 1 by omega, paymasterlaw10_RowFirst.l0, linesL_len, if_pos (show (i : Int) < (L.length : Int) by omega), if_pos (show (0 : Int) ≤ (i : Int) by omega), r, f0, f1, f2, f3, of_is _ _ (by omega), Option.bind_some]
    rw [nx, List.filter_cons, fl, firstE]
    by_cases c : (oneB L[i]).2.2.2.2 = 0
    · have fb : fineB L[i] = true := decide_eq_true c
      rw [if_pos c, paymasterlaw10_RowFirst.j1, if_neg (by decide), paymasterlaw10_RowFirst.j2, if_pos c, if_pos (show (0 : Int) ≤ (i : Int) by omega), linesL_len, if_pos (show (i : Int) < (L.length : Int) by omega), if_pos (by omega), Option.bind_some, r, f1, if_pos fb, if_pos c, List.map_cons, w1]
      unfold rowsB
      rw [if_pos c]
      by_cases z : (oneB L[i]).2.2.2.1 = true
      · rw [if_pos z, if_pos z, if_pos (by omega), first_l0 s L hl hz k t (i + 1) _ _ _ _ (by omega) (by rw [List.length_append, List.length_singleton]; omega) (by rw [List.length_append, List.length_singleton]; omega) h5, List.append_assoc, List.append_assoc]
        push_cast
        rfl
      · rw [if_neg z, if_neg z, first_l0 s L hl hz k t (i + 1) _ _ _ _ (by omega) (by rw [List.length_append, List.length_singleton]; omega) (by omega) h5, List.append_assoc, List.nil_append]
        push_cast
        rfl
    · have fb : ¬ fineB L[i] = true := by unfold fineB; simpa using c
      have zf := one_flag _ c
      rw [if_neg c, if_neg fb, if_neg c]
      unfold rowsB
      rw [if_neg c, List.nil_append]
      by_cases z : x5 = 0
      · have zb : (x5 == 0) = true := by simpa using z
        rw [zb, paymasterlaw10_RowFirst.j1, if_pos rfl, paymasterlaw10_RowFirst.j2, if_neg c, zf, if_neg (by decide), w1, first_l0 s L hl hz k t (i + 1) _ _ _ _ (by omega) (by omega) (by omega) (by omega), if_neg (by omega), if_neg (by omega), if_pos z, if_pos z]
        push_cast
        rfl
      · have zb : (x5 == 0) = false := by simpa using z
        rw [zb, paymasterlaw10_RowFirst.j1, if_neg (by decide), paymasterlaw10_RowFirst.j2, if_neg c, zf, if_neg (by decide), w1, first_l0 s L hl hz k t (i + 1) _ _ _ _ (by omega) (by omega) (by omega) h5, if_neg z, if_neg z, if_neg z, if_neg z]
theorem first_j3 (L : List (List UInt8)) (hl : L.length ≤ 3000) (hz : ∀ h ∈ L, h.length ≤ 3000) (hc : ∀ h ∈ L, ∀ b ∈ h, b ≠ 10) (k : Nat) (hk : 9000000 ≤ k) : paymasterlaw10_RowFirst.j3 (k + 1) ((L.filter fineB).map mk) (rowsF L) false = some true := by
  have fl : (L.filter fineB).length ≤ L.length := List.length_filter_le ..
  have fm : ∀ h ∈ L.filter fineB, h ∈ L := fun h hh => (List.mem_filter.1 hh).1
  have jl := join_lenN 3000 ((L.filter fineB).map mk) (by
    intro x hx
    obtain ⟨h, hh, rfl⟩ := List.mem_map.1 hx
    rw [mk_size]
    exact hz h (fm h hh))
  rw [List.length_map] at jl
  have nb : ((L.filter fineB).map mk).any brk = false := by
    rw [List.any_eq_false]
    intro x hx
    obtain ⟨h, hh, rfl⟩ := List.mem_map.1 hx
    rw [Bool.not_eq_true, brk_clean]
    exact hc h (fm h hh)
  have jf := join_f ((L.filter fineB).map mk) (by rw [List.length_map]; omega) (by omega)
  rw [nb, if_neg (by decide), joinL_mk] at jf
  rw [texts_mk] at jl
  rw [paymasterlaw10_RowFirst.j3, if_neg (by decide), jf, Option.bind_some]
  dsimp only
  have ra : row_All.f (mk (Lib.join (L.filter fineB) [10])) = some (rowsF L, 0, 0) := by
    unfold row_All.f
    rw [mk_size, if_pos (by omega), mk_list]
    cases q : L.filter fineB with
    | nil =>
      have e : rowsF L = [] := by rw [← fine_rows, q]; rfl
      have s0 : splitB (Lib.join [] [10]) = [[]] := rfl
      rw [e, s0, rowsL, one_empty]
      dsimp only
      rw [if_pos rfl, if_neg (by decide), rowsL]
    | cons y r =>
      have cl : ∀ x ∈ y :: r, ∀ b ∈ x, b ≠ 10 := by
        intro x hx
        rw [← q] at hx
        exact hc x (fm x hx)
      have z := fine_first L 1
      rw [split_join r y cl, ← q, rowsL_is, if_pos z, List.nil_append, fine_rows]
  have rl : (rowsF L).length ≤ L.length := by
    clear ra jf nb jl fl fm hz hc hl
    induction L with
    | nil => exact Nat.le_refl _
    | cons h L ih =>
      have fl : rowsF (h :: L) = rowsB h ++ rowsF L := List.flatMap_cons
      have : (rowsB h).length ≤ 1 := by
        unfold rowsB
        split
        · split <;> simp
        · simp
      rw [fl, List.length_append, List.length_cons]
      omega
  rw [ra, Option.bind_some]
  dsimp only
  rw [if_pos rfl, if_pos rfl, if_pos rfl, same44_is _ (by omega) k (by omega), Option.bind_some]
theorem rowFirst_pure (s : ByteArray) : ∃ k, paymasterlaw10_RowFirst.f k s = some true := by
  refine ⟨9000002 + 1 + 3 * (splitB s.data.toList).length, ?_⟩
  unfold paymasterlaw10_RowFirst.f
  rw [awake10_up _ (by omega), Option.bind_some, if_pos rfl]
  by_cases c : (s.size : Int) > 2000
  · rw [if_pos c]
  · have e : s.data.toList.length = s.size := Array.length_toList
    have sl := splitB_len s.data.toList
    have hz : ∀ h ∈ splitB s.data.toList, h.length ≤ 3000 := fun h hh => by have := splitB_size _ h hh; omega
    have hc := splitB_clean s.data.toList
    rw [if_neg c, all_f s (by omega), Option.bind_some]
    have fs := first_l0 s (splitB s.data.toList) (by omega) hz 9000002 (splitB s.data.toList).length 0 [] [] 0 0 (by omega) (Nat.le_refl _) (Nat.le_refl _) (fun h => h)
    rw [List.drop_zero, if_pos rfl, if_pos rfl, List.nil_append, List.nil_append] at fs
    refine fs.trans ?_
    have rf : row_All.f s = some (rowsL 1 [] (splitB s.data.toList)) := by
      unfold row_All.f
      rw [if_pos (by omega)]
    have J := first_j3 (splitB s.data.toList) (by omega) hz hc 9000001 (by omega)
    rw [paymasterlaw10_RowFirst.l0, linesL_len, if_neg (by omega), rf, Option.bind_some, rowsL_is]
    have n0 : ((0 : Nat) : Int) + 1 = 1 := rfl
    rw [n0]
    by_cases z : (firstE 1 (splitB s.data.toList)).2 = 0
    · have z2 := firstE_zero _ _ z
      rw [if_pos z, z2]
      dsimp only
      rw [if_pos rfl, if_pos rfl, if_pos rfl]
      exact J
    · rw [if_neg z, if_pos rfl, if_pos rfl, if_neg z]
      exact J
theorem rowFirst_walk {w : World} (a0 : ByteArray) (g0 : a0.size ≤ 9223372036854775807) (hG : GT w) :
    Calls Tryd.prog 15 #[.string a0] w fun e w' => e = .returned (.bool true) ∧ Below w.heap.size w w' := by
  obtain ⟨k, hk⟩ := rowFirst_pure a0
  exact paymasterlaw10_RowFirst.calls k a0 true w hG hk
end Go.Proofs.YtpkjpiphjdpegaaDoor.P
namespace Go.Proofs.YtpkjpiphjdpegaaDoor.rowFirst
open Go.ChangeShapes Go.WideShapes Go.ChangeAt Go.RowKit Go.Proofs.YtpkjpiphjdpegaaDoor.P
open Go.ChangeMaps (open_string shut_string)
set_option linter.unusedVariables false
set_option maxRecDepth 100000 in
theorem lifted (os : Os) (started : os.Started) (H : Type) (enc : TypeId × Value → H) :
    ReturnsInHanded {} Tryd.checked os 15 .any (fun w args => (Rows.rowFirstSpec.pre enc Tryd.prog Tryd.f15 Rows.rowFirstRow.domain false w args ∧ laidMetH Tryd.prog laid w) ∧ sizedMet enc Tryd.prog Tryd.f15 (OpenSpec.ofChange Rows.rowFirstSpec) false w args) (Rows.rowFirstSpec.post enc Tryd.prog Tryd.f15 false true false false) := by
  refine returnsInHanded_of_change_and (C := Tryd.checked) (X := fun w _ => laidMetH Tryd.prog laid w) (fun _ _ _ hh h => h.of_heap hh) own started (by kernel_rfl) Tryd.func15
    (ChangeSpec.witness_shaped (enc := enc) (C := Tryd.checked) (os := os) (X := fun w _ => laidMetH Tryd.prog laid w) false (World.laidAll Tryd.prog os laid) #[.string ByteArray.empty] 8 (World.laidAll_os _ _ _) (World.shaped_of_ZipB (by kernel_rfl) (by kernel_rfl)) (by kernel_rfl) (by kernel_rfl) (by kernel_rfl) (laid_met os _)) ?_
  intro W base args ds gs before hval0 hW _ _ hL _
  have hval : ∀ (j : Nat) t v, Tryd.f15.params[j]? = some t → args[j]? = some v → Value.okWide Tryd.prog W .any base t v := hval0
  have hW' := hW
  obtain ⟨p, q, hA0, hV, rfl, hfz, hnd⟩ := hW
  have hA : DataW.TrodAll enc Tryd.prog W 0 (fun _ => true) true Tryd.f15.params.toList args.toList ds p := hA0
  rw [Tryd.params15] at hA hval
  have hAll := hA
  obtain ⟨v0, vs0, d0, ds0, p0, q0, hargs, rfl, rfl, h0, r0⟩ := trodAll_cons hA
  obtain ⟨rfl, rfl, rfl⟩ := trodAll_nil r0
  obtain rfl : args = #[v0] := by cases args; simp_all
  obtain ⟨rfl, rfl⟩ := trodVars_none hV
  obtain ⟨a0, rfl, g0⟩ := arg_string (hval 0 9 v0 rfl rfl) h0
  clear hA0 hval0
  refine (rowFirst_walk (w := W) a0 g0 (gt_of hL)).mono fun e W' ⟨he, bel⟩ => ?_
  subst he
  exact ⟨_, rfl, _, _, _, [], _, [], hW', trodAll_mk1 (shut_bool Tryd.underlying4 _), args_back laidOut bel (by kernel_rfl) hAll, rfl, bel.frame _, fun h => by cases h⟩
theorem both {a b : Bool} (h : a = true) (k : b = true) : (a && b) = true := by rw [h, k]; rfl
theorem c0 : (Rows.rowFirstRow.wf (OpenSpec.ofChange Rows.rowFirstSpec)) = true := by kernel_rfl
theorem c1 : (laidOutB Tryd.prog) = true := by kernel_rfl
theorem c2 : (mapsRowed Tryd.prog) = true := by kernel_rfl
theorem c3 : (Tryd.f15.params.all (Tryd.prog.readableRec ·)) = true := by kernel_rfl
theorem c4 : (namedTie Tryd.prog Rows.rowFirstRow.named Rows.rowFirstSpec.vars) = true := by kernel_rfl
theorem c5 : ((Rows.rowFirstRow.stops == [])) = true := by kernel_rfl
theorem c6 : ((Tryd.prog.stops == [])) = true := by kernel_rfl
theorem c7 : ((Rows.rowFirstRow.knobs == [])) = true := by kernel_rfl
theorem c8 : ((Tryd.prog.stopKnobs == [])) = true := by kernel_rfl
theorem c9 : ((Rows.rowFirstRow.inPlace == Tryd.prog.inPlace 15)) = true := by kernel_rfl
theorem c10 : ((Rows.rowFirstRow.unfollowed == Tryd.prog.unfollowed 15)) = true := by kernel_rfl
theorem c11 : ((Rows.rowFirstRow.recurses == Tryd.prog.recurses 15)) = true := by kernel_rfl
theorem c12 : ((Rows.rowFirstRow.named == Tryd.prog.varsNamed 15)) = true := by kernel_rfl
theorem c13 : ((Rows.rowFirstRow.maps == (Tryd.f15.params.toList ++ Rows.rowFirstSpec.plain.varTypes Tryd.prog).any (Tryd.prog.mapsRec ·))) = true := by kernel_rfl
theorem c14 : ((Rows.rowFirstRow.ifaces == (Tryd.f15.params.toList ++ Rows.rowFirstSpec.plain.varTypes Tryd.prog).any (Tryd.prog.ifacesRec ·))) = true := by kernel_rfl
theorem c15 : ((Rows.rowFirstRow.mapsOut == Tryd.prog.mapsAmong Tryd.f15.resultTypes.toList)) = true := by kernel_rfl
theorem c16 : ((Rows.rowFirstRow.loops == (Tryd.f15.params.toList ++ Rows.rowFirstSpec.plain.varTypes Tryd.prog).any (Tryd.prog.loopsFrom ·))) = true := by kernel_rfl
theorem c17 : ((Rows.rowFirstRow.wideKeys == (Tryd.f15.params.toList ++ Rows.rowFirstSpec.plain.varTypes Tryd.prog ++ Tryd.f15.resultTypes.toList).any (Tryd.prog.wideKeysFrom ·))) = true := by kernel_rfl
theorem c18 : (Rows.rowFirstSpec.vars.all (Tryd.prog.varReadable ·)) = true := by kernel_rfl
theorem c19 : (Tryd.f15.resultTypes.all (fun t => Tryd.prog.readableRec t && decide (t < Tryd.prog.types.size))) = true := by kernel_rfl
theorem c20 : ((Rows.rowFirstRow.ifacesOut == Tryd.f15.resultTypes.toList.any (Tryd.prog.ifacesRec ·))) = true := by kernel_rfl
theorem c21 : ((Rows.rowFirstRow.loopsOut == Tryd.f15.resultTypes.toList.any (Tryd.prog.loopsFrom ·))) = true := by kernel_rfl
theorem c22 : ((Rows.rowFirstRow.plainKeys == Tryd.prog.plainKeys)) = true := by kernel_rfl
theorem c23 : (Rows.rowFirstRow.shortTexts.isNone) = true := by kernel_rfl
theorem c24 : (Tryd.prog.stopsHeard) = true := by kernel_rfl
theorem c25 : (Tryd.prog.mayEnter) = true := Facts.mayEnter
theorem c26 : ((Rows.rowFirstRow.lifted == Tryd.prog.liftsFinal)) = true := by rw [Facts.liftsFinal]; kernel_rfl
theorem c27 : ((Tryd.prog.make == some Rows.rowFirstRow.make)) = true := by rw [Facts.make]; kernel_rfl
theorem c28 : ((Rows.rowFirstRow.kinds == (if Rows.rowFirstRow.domain.isEmpty then [] else Tryd.f15.params.toList.map fun t => match Tryd.prog.underlying t with | some (.int k) => some k | _ => none))) = true := by kernel_rfl
theorem c29 : ((Rows.rowFirstRow.pinned == Rows.rowFirstRow.pinnedBy)) = true := by kernel_rfl
theorem c30 : ((Rows.rowFirstRow.veiled == (Tryd.f15.params.toList ++ Rows.rowFirstSpec.plain.varTypes Tryd.prog ++ Tryd.f15.resultTypes.toList).any (Tryd.prog.veiledRec ·))) = true := by kernel_rfl
theorem c31 : (Rows.rowFirstRow.veiledFits Tryd.prog Tryd.f15.params.toList (Tryd.f15.params.toList ++ Rows.rowFirstSpec.plain.varTypes Tryd.prog ++ Tryd.f15.resultTypes.toList)) = true := by kernel_rfl
set_option maxRecDepth 100000 in
theorem closed : joinedFacts Tryd.prog 15 Tryd.f15 Rows.rowFirstSpec Rows.rowFirstRow = true := by
  unfold joinedFacts
  exact both (both (both (both (both (both (both (both (both (both (both (both (both (both (both (both (both (both (both (both (both (both (both (both (both (both (both (both (both (both (both (c0) c1) c2) c3) c4) c5) c6) c7) c8) c9) c10) c11) c12) c13) c14) c15) c16) c17) c18) c19) c20) c21) c22) c23) c24) c25) c26) c27) c28) c29) c30) c31
theorem over : Rows.rowFirstRow.holds Tryd.pinned (OpenSpec.ofChange Rows.rowFirstSpec) :=
  OpenClaim.holds_of_wide 15 Tryd.f15 rfl rfl rfl rfl rfl rfl rfl ⟨rfl, rfl, rfl, rfl, rfl⟩ rfl rfl rfl rfl rfl (by kernel_rfl) Tryd.func15 closed
    (of_decide_eq_true (by kernel_rfl)) (by unfold Func.isWrapper; first | (rw [if_pos (by decide +kernel)]; kernel_rfl) | (rw [if_neg (by decide +kernel)]; exact ⟨rfl, rfl⟩))
    (fun os started H enc _ => lifted os started H enc)
end Go.Proofs.YtpkjpiphjdpegaaDoor.rowFirst
namespace Go.Proofs.YtpkjpiphjdpegaaDoor
theorem rowFirst_row_holds : Rows.RowFirstSaid := rowFirst.over
theorem rowFirst_holds : Rows.RowFirstCardSaid :=
  Claim7.holds_tied_plain_at .later [] [.data, .pinned] true (true, "8ed4f517d9b640979c9642b29f1471ad540af19eb7dd2a85df80f51153cdfa49") false
    rowFirst_row_holds (fun _ h => by cases h) (by kernel_rfl) (fun _ h => by cases h) rowFirst_row_tie rfl ⟨rfl, rfl⟩ Facts.mainIs rfl
    (fun f fn hf hfn => by
      obtain rfl : f = 15 := Option.some.inj ((show Tryd.prog.funcNamed "paymaster/paymasterlaw10.RowFirst" = some 15 by kernel_rfl).symm.trans hf) |>.symm
      obtain rfl : fn = Tryd.f15 := (Option.some.inj (Tryd.func15.symm.trans hfn)).symm
      exact ⟨by kernel_rfl, fun j t ht => by
        rw [Tryd.params15] at ht
        have hm : t ∈ [9] := by simpa using Array.mem_of_getElem? ht
        have hall : ([9].all fun u => !Tryd.prog.wantsStandIn u) = true := by kernel_rfl
        exact (show Tryd.prog.wantsStandIn t = false by simpa using List.all_eq_true.1 hall t hm)⟩)
    (by kernel_rfl)
end Go.Proofs.YtpkjpiphjdpegaaDoor
