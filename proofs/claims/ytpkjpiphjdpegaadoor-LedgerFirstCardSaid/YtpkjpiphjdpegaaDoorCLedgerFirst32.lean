/- A program of this session wrote this text out of the session's own texts. (part 32 of 45) -/
import Derived.Test.YtpkjpiphjdpegaaDoorCLedgerFirst21
import Derived.Test.YtpkjpiphjdpegaaDoorCLedgerFirst23
import Derived.Test.YtpkjpiphjdpegaaDoorCLedgerFirst31
import Derived.WalkMore
namespace Go.Proofs.YtpkjpiphjdpegaaDoor.P
open Go.RowKit Go.Shelf Go.Proofs.YtpkjpiphjdpegaaDoor.RF Go.Proofs.YtpkjpiphjdpegaaDoorW.PrintWords
attribute [local go_sem] Oper.semAt_some
set_option linter.unusedVariables false
set_option linter.unusedSimpArgs false
def ofX (x : S56) : ByteArray × Int × Int × Bool × Int := oneB x.f1.data.toList
def rowX (x : S56) : S44 := ⟨(ofX x).1, ⟨(ofX x).2.1, (ofX x).2.2.1⟩⟩
def accX : List S56 → List S44
  | [] => []
  | x :: r => if (ofX x).2.2.2.1 = true then rowX x :: accX r else accX r
theorem accX_snoc : ∀ (p : List S56) (x : S56), accX (p ++ [x]) = if (ofX x).2.2.2.1 = true then accX p ++ [rowX x] else accX p
  | [], x => by rw [List.nil_append, accX]; rfl
  | y :: p, x => by
    rw [List.cons_append, accX, accX, accX_snoc p x]
    by_cases c : (ofX y).2.2.2.1 = true
    · rw [if_pos c, if_pos c]; split <;> rfl
    · rw [if_neg c, if_neg c]
theorem accX_len : ∀ p : List S56, (accX p).length ≤ p.length
  | [] => Nat.le_refl _
  | x :: p => by
    have := accX_len p
    rw [accX]
    split <;> simp <;> omega
theorem rowsL_ok : ∀ (L : List (List UInt8)) (n : Int) (acc : List S44), (∀ x ∈ linesL n L, (ofX x).2.2.2.2 = 0) → rowsL n acc L = (acc ++ accX (linesL n L), 0, 0)
  | [], n, acc, _ => by rw [rowsL, linesL, accX, List.append_nil]
  | h :: L, n, acc, c => by
    have c0 : (oneB h).2.2.2.2 = 0 := c (lineOf n h) (List.mem_cons_self ..)
    have ih := fun acc => rowsL_ok L (n + 1) acc fun x hx => c x (List.mem_cons_of_mem _ hx)
    rw [rowsL, linesL, accX, if_pos c0]
    have e : (ofX (lineOf n h)).2.2.2.1 = (oneB h).2.2.2.1 := rfl
    rw [e]
    by_cases q : (oneB h).2.2.2.1 = true
    · rw [if_pos q, if_pos q, ih, List.append_assoc]; rfl
    · rw [if_neg q, if_neg q, ih]
theorem rowsL_bad : ∀ (L : List (List UInt8)) (n : Int) (acc : List S44) (p : List S56) (x : S56) (r : List S56), linesL n L = p ++ x :: r → (∀ y ∈ p, (ofX y).2.2.2.2 = 0) → (ofX x).2.2.2.2 ≠ 0 → rowsL n acc L = ([], x.f0, (ofX x).2.2.2.2)
  | [], n, acc, p, x, r, e, _, _ => by rw [linesL] at e; cases p <;> cases e
  | h :: L, n, acc, p, x, r, e, hp, hx => by
    rw [linesL] at e
    cases p with
    | nil =>
      rw [List.nil_append] at e
      obtain ⟨rfl, e2⟩ := List.cons.inj e
      have c : ¬ (oneB h).2.2.2.2 = 0 := hx
      rw [rowsL, if_neg c]
      rfl
    | cons y p =>
      rw [List.cons_append] at e
      obtain ⟨rfl, e2⟩ := List.cons.inj e
      have c0 : (oneB h).2.2.2.2 = 0 := hp _ (List.mem_cons_self ..)
      have ih := fun acc => rowsL_bad L (n + 1) acc p x r e2 (fun z hz => hp z (List.mem_cons_of_mem _ hz)) hx
      rw [rowsL, if_pos c0]
      by_cases q : (oneB h).2.2.2.1 = true
      · rw [if_pos q, ih]
      · rw [if_neg q, ih]
theorem line_mem : ∀ (L : List (List UInt8)) (n : Int) (x : S56), x ∈ linesL n L → ∃ m h, h ∈ L ∧ x = lineOf m h
  | [], n, x, h => by cases h
  | h :: L, n, x, hx => by
    rw [linesL] at hx
    rcases List.mem_cons.1 hx with rfl | hx
    · exact ⟨n, h, List.mem_cons_self .., rfl⟩
    · obtain ⟨m, g, hg, e⟩ := line_mem L (n + 1) x hx
      exact ⟨m, g, List.mem_cons_of_mem _ hg, e⟩
theorem of_line (s : ByteArray) (hs : s.size ≤ 1000000000) (x : S56) (hx : x ∈ allL s) : row_Of.f x.f0 x.f1 x.f2 x.f3 = some (ofX x) := by
  obtain ⟨m, h, hh, rfl⟩ := line_mem _ _ _ hx
  have e : s.data.toList.length = s.size := Array.length_toList
  have := splitB_size _ h hh
  show row_Of.f m (mk h) (kindOf h) (wrongOf h) = some (oneB h)
  exact of_is m h (by omega)
def row_All.f (a0 : ByteArray) : Option (List S44 × Int × Int) := if a0.size ≤ 1000000000 then some (rowsL 1 [] (splitB a0.data.toList)) else none
def CoR (B Bx n₀ : Nat) (w : World) (f : List S56 → List S44) (pre : List S56) (W : World) : Prop :=
  (∃ v, Boxed W B 34 v ∧ Kd.R k44 44 W n₀ (fun k => k ≠ Bx) v (f pre)) ∧ Below n₀ w W
theorem coR_ab (B Bx n₀ : Nat) (w : World) (f : List S56 → List S44) (hn : n₀ ≤ w.heap.size) (hx : n₀ ≤ Bx) (hB : n₀ ≤ B) (hne : B ≠ Bx) (C : Nat) (hC : n₀ ≤ C) : AbX Bx C (CoR B Bx n₀ w f) := by
  rintro s W W' row ⟨⟨v, hv, hr⟩, hb⟩ hg hrow
  have key : ∀ (k : Nat) cells t, W.heap[k]? = some (.cells cells t (0, 0)) → k ≠ Bx → some k ≠ row := fun k cells t hk hkx e => by
    rcases hrow k e.symm with h | ⟨_, o, ho, hc⟩
    · exact hkx h
    · rw [hk] at ho; cases ho; cases hc
  refine ⟨⟨v, hv.kept hg (key B _ _ hv hne), Kd.R_grown2 hr rfl hg fun k e e' => ?_⟩, abX_below hn hC hx () W W' row hb hg hrow⟩
  obtain ⟨cells, hk⟩ := Kd.R_typed hr k e'.symm
  exact key k _ _ hk (hr.1 k e'.symm) e.symm
theorem res3 (tmps : Array Value) (w : World) (B B' B'' : Nat) (h1 : tmps[2]? = some (.pointer (some ⟨B, 0, none⟩))) (h2 : tmps[3]? = some (.pointer (some ⟨B', 0, none⟩))) (h3 : tmps[4]? = some (.pointer (some ⟨B'', 0, none⟩))) {x y z : Value} (q1 : Boxed w B 34 x) (q2 : Boxed w B' 3 y) (q3 : Boxed w B'' 23 z) :
    (results Tryd.f45 tmps).run Tryd.prog w = .ok (.tuple #[x, y, z]) w := by
  have hr : Tryd.f45.results = #[.cell 2 34, .cell 3 3, .cell 4 23] := rfl
  have c1 := q1.cell
  have c2 := q2.cell
  have c3 := q3.cell
  have g1 : tmps[2]?.getD undef = .pointer (some ⟨B, 0, none⟩) := by rw [h1]; rfl
  have g2 : tmps[3]?.getD undef = .pointer (some ⟨B', 0, none⟩) := by rw [h2]; rfl
  have g3 : tmps[4]?.getD undef = .pointer (some ⟨B'', 0, none⟩) := by rw [h3]; rfl
  simp [results, hr, g1, g2, g3, asAddr, go_sem, c1, c2, c3]
theorem callsIn_round {P : Program} {l n f : Nat} {args : Array Value} {w : World} {Q : Ending → World → Prop} (h : Calls P f args w Q) : CallsIn (Fence.wide.inRound l) n P f args w Q := callsIn_wide.2 h
def InvR (n0 : Nat) (w W0 : World) (pre : List S56) (W : World) : Prop :=
  ((Boxed W n0 34 (.slice none 0 0) ∧ Boxed W (n0 + 1) 3 (.int .i64 0) ∧ Boxed W (n0 + 2) 23 (.int .i64 0)) ∧ CoR (n0 + 3) (n0 + 4) n0 w accX pre W ∧ W0.heap.size ≤ W.heap.size) ∧ ∀ x ∈ pre, (ofX x).2.2.2.2 = 0
def InvX (n0 : Nat) (w : World) (c : Code) (pre : List S56) (W : World) : Prop :=
  c = .ret ∧ ∃ p x, pre = p ++ [x] ∧ (∀ y ∈ p, (ofX y).2.2.2.2 = 0) ∧ (ofX x).2.2.2.2 ≠ 0 ∧ Boxed W n0 34 (.slice none 0 0) ∧ Boxed W (n0 + 1) 3 (.int .i64 x.f0) ∧ Boxed W (n0 + 2) 23 (.int .i64 (ofX x).2.2.2.2) ∧ Below n0 w W
set_option maxHeartbeats 4000000 in
set_option maxRecDepth 100000 in
theorem rowAll_is (s : ByteArray) (hs : s.size ≤ 1000000000) (w : World) (hG : GT w) :
    CallsIn Fence.wide 5 Tryd.prog 45 #[.string s] w fun e W' => ∃ v, e = .returned (.tuple #[v, .int .i64 (rowsL 1 [] (splitB s.data.toList)).2.1, .int .i64 (rowsL 1 [] (splitB s.data.toList)).2.2]) ∧ Kd.R k44 44 W' w.heap.size (fun _ => True) v (rowsL 1 [] (splitB s.data.toList)).1 ∧ Below w.heap.size w W' := by
  have mixed : Tryd.prog.follows .mixedOrders = true := by kernel_rfl
  refine callsIn_of_wp_marks Tryd.func45 rfl trivial ?_ rfl
  simp only [Tryd.ntmps45, List.size_toArray, List.length_cons, List.length_nil, Nat.reduceAdd, Nat.reduceSub, Array.replicate_succ, Array.replicate_zero, List.push_toArray, List.append_toArray, List.nil_append, List.cons_append]
  refine wpIn_wide.2 ?_
  go_wp2
  go_step3
  go_wp2
  go_step3
  go_wp2_with (first | (go_at_call 38; (with_reducible refine (each_call s _).mono ?_); rintro e W1 ⟨rfl, rfl⟩))
  have b2 := (((((Boxed.new w 34 (.slice none 0 0)).alloc (.cells #[.int .i64 0] 3)).alloc (.cells #[.int .i64 0] 23)).alloc (.cells #[.slice none 0 0] 34)).alloc (.cells #[.string s] 9))
  have b3 := ((((Boxed.new (w.alloc (.cells #[.slice none 0 0] 34)) 3 (.int .i64 0)).alloc (.cells #[.int .i64 0] 23)).alloc (.cells #[.slice none 0 0] 34)).alloc (.cells #[.string s] 9))
  have b4 := (((Boxed.new ((w.alloc (.cells #[.slice none 0 0] 34)).alloc (.cells #[.int .i64 0] 3)) 23 (.int .i64 0)).alloc (.cells #[.slice none 0 0] 34)).alloc (.cells #[.string s] 9))
  have b5 := ((Boxed.new (((w.alloc (.cells #[.slice none 0 0] 34)).alloc (.cells #[.int .i64 0] 3)).alloc (.cells #[.int .i64 0] 23)) 34 (.slice none 0 0)).alloc (.cells #[.string s] 9))
  have bX := Boxed.new ((((w.alloc (.cells #[.slice none 0 0] 34)).alloc (.cells #[.int .i64 0] 3)).alloc (.cells #[.int .i64 0] 23)).alloc (.cells #[.slice none 0 0] 34)) 9 (.string s)
  simp only [World.size_alloc] at b3 b4 b5 bX
  have hB1 : Below w.heap.size w (((((w.alloc (.cells #[.slice none 0 0] 34)).alloc (.cells #[.int .i64 0] 3)).alloc (.cells #[.int .i64 0] 23)).alloc (.cells #[.slice none 0 0] 34)).alloc (.cells #[.string s] 9)) := below_alloc (below_alloc (below_alloc (below_alloc (below_alloc (Below.refl _ _) _) _) _) _) _
  have hsz : (((((w.alloc (.cells #[.slice none 0 0] 34)).alloc (.cells #[.int .i64 0] 3)).alloc (.cells #[.int .i64 0] 23)).alloc (.cells #[.slice none 0 0] 34)).alloc (.cells #[.string s] 9)).heap.size = w.heap.size + 5 := by simp
  obtain ⟨W0, hW0⟩ : ∃ W0, (((((w.alloc (.cells #[.slice none 0 0] 34)).alloc (.cells #[.int .i64 0] 3)).alloc (.cells #[.int .i64 0] 23)).alloc (.cells #[.slice none 0 0] 34)).alloc (.cells #[.string s] 9)) = W0 := ⟨_, rfl⟩
  rw [hW0] at b2 b3 b4 b5 bX hB1 hsz ⊢
  clear hW0
  refine (wpIn_wide (n := 5)).1 ?_
  refine range_own (Bx := w.heap.size + 4) (by omega) rfl (by omega) (gf := 73) (lb := #[.pointer (some ⟨w.heap.size + 4, 0, none⟩)]) rfl trivial (enters_of Tryd.func73 (by kernel_rfl) rfl)
    (each_stops2 4 (by omega) (w.heap.size + 4) w.heap.size s hs W0 w hG (Nat.le_refl _) hB1 (by omega) (by omega) bX)
    (fun h k => ⟨h.1.trans k.1, k.2.trans h.2⟩) (fun W l o o' hl ho hc hw => ⟨(Below.refl _ W).grown (grownBy_putObj' W l o') (by have := (Array.getElem?_eq_some_iff.1 ho).1; omega) (fun k e => by cases e; omega), World.putObj_heap_other (by omega)⟩) (Below.refl _ _) (fun _ => rfl)
    (fun pre W => InvR w.heap.size w W0 (pre.map Subtype.val) W)
    (fun c pre W => InvX w.heap.size w c (pre.map Subtype.val) W)
    (fun q => (AbX.and (AbX.and (AbX.and (boxed_ab _ _ _ _ (fun _ => .slice none 0 0) (by omega)) (AbX.and (boxed_ab _ _ _ _ (fun _ => .int .i64 0) (by omega)) (boxed_ab _ _ _ _ (fun _ => .int .i64 0) (by omega)))) (AbX.and (coR_ab _ _ _ _ _ (Nat.le_refl _) (by omega) (by omega) (by omega) _ (by omega)) (abX_size _ _ _))) (abX_pure _ _ (fun pre : List S56 => ∀ x ∈ pre, (ofX x).2.2.2.2 = 0)) : AbX (w.heap.size + 4) W0.heap.size (InvR w.heap.size w W0)) (q.map Subtype.val))
    (fun c s' W W' row hh hg hr => by
      obtain ⟨rfl, p, x, e1, e2, e3, e4, e5, e6, e7⟩ := hh
      exact ⟨rfl, p, x, e1, e2, e3, boxed_ab (β := Unit) _ W0.heap.size _ _ (fun _ => .slice none 0 0) (by omega) () W W' row e4 hg hr, boxed_ab (β := Unit) _ W0.heap.size _ _ (fun _ => .int .i64 x.f0) (by omega) () W W' row e5 hg hr,
        boxed_ab (β := Unit) _ W0.heap.size _ _ (fun _ => .int .i64 (ofX x).2.2.2.2) (by omega) () W W' row e6 hg hr, abX_below (β := Unit) (Nat.le_refl _) (by omega) (by omega) () W W' row e7 hg hr⟩)
    ⟨⟨⟨b2, b3, b4⟩, ⟨⟨_, b5, Kd.R_nil _ _ _ _ _⟩, hB1⟩, Nat.le_refl _⟩, by simp⟩
    (fun x a' W => ∃ Bv, w.heap.size + 4 < Bv ∧ W.heap[Bv]? = some (.cells (lineC x.1) 56 (0, 0)) ∧ a' = { tmps := #[.string s, undef, .pointer (some ⟨w.heap.size, 0, none⟩), .pointer (some ⟨w.heap.size + 1, 0, none⟩), .pointer (some ⟨w.heap.size + 2, 0, none⟩), .pointer (some ⟨w.heap.size + 3, 0, none⟩), .pointer (some ⟨Bv, 0, none⟩), undef, undef, undef, .string s, .func (.func 73) #[] #[.pointer (some ⟨w.heap.size + 4, 0, none⟩)], lineV x.1, undef, undef, undef, undef, undef, undef, undef, undef, undef, undef, undef, undef, undef, undef, undef, undef, undef, undef, undef, undef], defers := [] })
    (fun x a' s' W W' row hs hg hr => by
      obtain ⟨Bv, q1, q2, q3⟩ := hs
      exact ⟨Bv, q1, abX_block (β := Unit) (b := Bv) (Bx := w.heap.size + 4) (B := W0.heap.size) (fun _ => .cells (lineC x.1) 56 (0, 0)) (fun _ => rfl) (by omega) () W W' row q2 hg hr, q3⟩)
    ?assign ?body ?done ?stop
  case assign =>
    intro l pre x W K hi hK
    unfold lineV at hK ⊢
    gi_wp2
    obtain ⟨⟨⟨i1, i2, i3⟩, i5, i6⟩, i4⟩ := hi
    exact hK _ _ ((KeepsOthers.alloc _ _).from _) ⟨(Below.refl _ W).alloc (by omega) _, (World.grownBy_alloc W _ none).block (w.heap.size + 4) (by omega) (by simp)⟩
      ⟨⟨⟨i1.alloc _, i2.alloc _, i3.alloc _⟩, (coR_ab _ _ _ _ _ (Nat.le_refl _) (by omega) (by omega) (by omega) W0.heap.size (by omega)).alloc _ i5, by simp; omega⟩, i4⟩ ⟨W.heap.size, by omega, World.alloc_heap_new W _, rfl⟩
  case body =>
    rintro l pre ⟨x, hm⟩ a' W hl ⟨r, hr⟩ ⟨⟨⟨i1, i2, i3⟩, ⟨⟨v, hv, hO⟩, hBel⟩, i6⟩, i4⟩ ⟨Bv, hBv, hcv, rfl⟩ hlen
    have hOf := of_line s hs x hm
    obtain ⟨⟨r1, r2, r3, r4, r5⟩, ho⟩ : ∃ o, ofX x = o := ⟨_, rfl⟩
    rw [ho] at hOf
    have C := row_Of.calls x.f0 x.f1 x.f2 x.f3 r1 r2 r3 r4 r5 W (gt_same hG (Nat.le_refl _) hBel) hOf
    dsimp only at hcv
    have c0 : W.cell? ⟨Bv, 0, none⟩ = some (.int .i64 x.f0) := by simp [World.cell?, hcv, lineC]
    have c1 : W.cell? ⟨Bv, 1, none⟩ = some (.string x.f1) := by simp [World.cell?, hcv, lineC]
    have c2 : W.cell? ⟨Bv, 2, none⟩ = some (.int .u8 x.f2) := by simp [World.cell?, hcv, lineC]
    have c3 : W.cell? ⟨Bv, 3, none⟩ = some (.int .i64 x.f3) := by simp [World.cell?, hcv, lineC]
    dsimp only [lineV]
    have hBv' : Bv < W.heap.size := (Array.getElem?_eq_some_iff.1 hcv).1
    have hsn : ∀ f : S56 → Prop, (∀ y ∈ pre.map Subtype.val, f y) → f x → ∀ y ∈ (pre ++ [(⟨x, hm⟩ : LineIn s)]).map Subtype.val, f y := by
      intro f h1 h2 y hy
      rw [List.map_append] at hy
      rcases List.mem_append.1 hy with h | h
      · exact h1 y h
      · simp at h; rw [h]; exact h2
    by_cases z : r5 = 0
    · have z1 : (r5 != 0) = false := by simp [z]
      subst z
      cases r4 with
      | false =>
        gi_wp2_with (first | (refine ⟨trivial, ?_⟩; gi_at_call 43; refine (callsIn_round C).mono ?_; rintro e W1 ⟨rfl, hb1⟩; have k1 := (i1.kept (grown_below hb1 none) (by simp)).alloc (.cells #[.string r1, .int .u64 r2, .int .u64 r3] 44); have k2 := (i2.kept (grown_below hb1 none) (by simp)).alloc (.cells #[.string r1, .int .u64 r2, .int .u64 r3] 44); have k3 := (i3.kept (grown_below hb1 none) (by simp)).alloc (.cells #[.string r1, .int .u64 r2, .int .u64 r3] 44); have kv := (hv.kept (grown_below hb1 none) (by simp)).alloc (.cells #[.string r1, .int .u64 r2, .int .u64 r3] 44); have k1c := k1.cell; have k1f := k1.frozen; have k2c := k2.cell; have k2f := k2.frozen; have k3c := k3.cell; have k3f := k3.frozen; have kvc := kv.cell; have kvf := kv.frozen; have d0 : (W1.alloc (.cells #[.string r1, .int .u64 r2, .int .u64 r3] 44)).cell? ⟨Bv, 0, none⟩ = some (.int .i64 x.f0) := (((below_alloc hb1 _).cell (p := ⟨Bv, 0, none⟩) hBv').trans c0); have hB2 := below_alloc hb1 (.cells #[.string r1, .int .u64 r2, .int .u64 r3] 44)))
        refine ⟨((KeepsOthers.of_grownBy (grown_below hb1 none) (fun j o ej => by cases ej)).trans (KeepsOthers.alloc _ _)).from _, ⟨hB2.mono (by have := hBel.size; omega), hB2.block _ (by omega)⟩, ⟨⟨⟨k1, k2, k3⟩, ?_, by simp; have := hb1.size; omega⟩, hsn (fun y => (ofX y).2.2.2.2 = 0) i4 (by rw [ho])⟩⟩
        refine ⟨⟨v, kv, ?_⟩, hBel.trans (hB2.mono (by have := hBel.size; omega))⟩
        rw [List.map_append, List.map_cons, List.map_nil, accX_snoc, if_neg (by rw [ho]; exact Bool.false_ne_true)]
        exact Kd.R_alloc (Kd.R_below hO hb1) _
      | true =>
        obtain ⟨i0, hi, hz0, hz1, hz2⟩ := info_parts info44
        gi_wp2_with (first | (refine ⟨trivial, ?_⟩; gi_at_call 43; refine (callsIn_round C).mono ?_; rintro e W1 ⟨rfl, hb1⟩; have k1 := (i1.kept (grown_below hb1 none) (by simp)).alloc (.cells #[.string r1, .int .u64 r2, .int .u64 r3] 44); have k2 := (i2.kept (grown_below hb1 none) (by simp)).alloc (.cells #[.string r1, .int .u64 r2, .int .u64 r3] 44); have k3 := (i3.kept (grown_below hb1 none) (by simp)).alloc (.cells #[.string r1, .int .u64 r2, .int .u64 r3] 44); have kv := (hv.kept (grown_below hb1 none) (by simp)).alloc (.cells #[.string r1, .int .u64 r2, .int .u64 r3] 44); have k1c := k1.cell; have k1f := k1.frozen; have k2c := k2.cell; have k2f := k2.frozen; have k3c := k3.cell; have k3f := k3.frozen; have kvc := kv.cell; have kvf := kv.frozen; have d0 : (W1.alloc (.cells #[.string r1, .int .u64 r2, .int .u64 r3] 44)).cell? ⟨Bv, 0, none⟩ = some (.int .i64 x.f0) := (((below_alloc hb1 _).cell (p := ⟨Bv, 0, none⟩) hBv').trans c0); have hB2 := below_alloc hb1 (.cells #[.string r1, .int .u64 r2, .int .u64 r3] 44)) | (gi_at_builtin; apply Classical.byContradiction; intro hNOT))
        apply hNOT
        clear hNOT
        have hO3 := Kd.R_alloc (Kd.R_alloc (Kd.R_below hO hb1) (.cells #[.string r1, .int .u64 r2, .int .u64 r3] 44)) (.cells #[.string r1, .int .u64 r2, .int .u64 r3] 44)
        obtain ⟨h00, inner, hown, hreps⟩ := hO3
        have hcn := cells_new (W1.alloc (.cells #[.string r1, .int .u64 r2, .int .u64 r3] 44)) #[.string r1, .int .u64 r2, .int .u64 r3] 44
        simp only [World.size_alloc] at hcn
        have hal := accX_len (pre.map Subtype.val)
        rw [List.length_map] at hal
        have hlen2 : (allL s).length ≤ 1000000001 := by
          have e1 := linesL_len (splitB s.data.toList) 1
          have e2 := splitB_len s.data.toList
          have e3 : s.data.toList.length = s.size := by simp
          unfold allL
          omega
        refine wpListIn_append_own_at _ rfl _ _ 34 rfl w.heap.size 44 i0 _ 3 32 Tryd.underlying34 hi hz0 hz1 hz2 rfl (by decide) _ _ _ rfl hown ⟨W1.heap.size + 1, 0, none⟩ 1 1 _ rfl rfl hcn (by simp [Value.oneCell']) (by unfold maxLen; omega) (by omega) (by simp; have := hb1.size; omega) ?_
        intro v' w1 hown' hgrow _ hat
        obtain ⟨g', cap', rfl⟩ := ownsRow_succ hown'
        have hO3 := Kd.R_alloc (Kd.R_alloc (Kd.R_below hO hb1) (.cells #[.string r1, .int .u64 r2, .int .u64 r3] 44)) (.cells #[.string r1, .int .u64 r2, .int .u64 r3] 44)
        have kv3 := kv.alloc (.cells #[.string r1, .int .u64 r2, .int .u64 r3] 44)
        have k13 := k1.alloc (.cells #[.string r1, .int .u64 r2, .int .u64 r3] 44)
        have k23 := k2.alloc (.cells #[.string r1, .int .u64 r2, .int .u64 r3] 44)
        have k33 := k3.alloc (.cells #[.string r1, .int .u64 r2, .int .u64 r3] 44)
        have hv1' := kv3.kept hgrow (Kd.R_ne hO3 kv3 (by decide))
        have h11' := k13.kept hgrow (Kd.R_ne hO3 k13 (by decide))
        have h21' := k23.kept hgrow (Kd.R_ne hO3 k23 (by decide))
        have h31' := k33.kept hgrow (Kd.R_ne hO3 k33 (by decide))
        have hc1 := hv1'.cell
        have hfr1 := hv1'.frozen
        have hO1 : Kd.R k44 44 w1 w.heap.size (fun k => k ≠ w.heap.size + 4) _ (accX (pre.map Subtype.val) ++ [(⟨r1, ⟨r2, r3⟩⟩ : S44)]) :=
          Kd.R_appended h00 hreps (k44_mkM _ w.heap.size (fun _ => False) (⟨r1, ⟨r2, r3⟩⟩ : S44)) (fun _ hk => hk.elim) (fun k hk => by simp at hk; have := hb1.size; omega) hown' hgrow (hat.imp_right fun h => ⟨_, h, Nat.le_refl _⟩)
        have hBv2 : some (w.heap.size + 3) ≠ (Value.slice (some ⟨g', 0, none⟩) ((accX (pre.map Subtype.val)).length + 1) cap').ownBlock := Kd.R_ne hO1 hv1' (by decide)
        have hty := Kd.R_typed hO3
        have hbs := Kd.R_base hO
        have hbx : some (w.heap.size + 4) ≠ v.ownBlock := fun e => hO.1 (w.heap.size + 4) e.symm rfl
        have hsz1 := hgrow.size
        have hsz2 := hb1.size
        have hB3 : Below w.heap.size W1 (w1.setCell ⟨w.heap.size + 3, 0, none⟩ (.slice (some ⟨g', 0, none⟩) ((accX (pre.map Subtype.val)).length + 1) cap')) :=
          (((((Below.refl w.heap.size W1).alloc (by omega) _).alloc (by simp; omega) _).grown hgrow (by simp; omega) (fun j ej => hbs j ej)).setCell (p := ⟨w.heap.size + 3, 0, none⟩) (by simp) _)
        have hB4 := (hb1.mono (show w.heap.size ≤ W.heap.size by omega)).trans hB3
        gi_wp2
        refine ⟨?_, ⟨hB4, ?_⟩, ⟨⟨⟨?_, ?_, ?_⟩, ⟨⟨_, hv1'.set _, ?_⟩, hBel.trans hB4⟩, ?_⟩, hsn (fun y => (ofX y).2.2.2.2 = 0) i4 (by rw [ho])⟩⟩
        · refine (((((KeepsOthers.of_grownBy (grown_below hb1 none) (fun j o ej => by cases ej)).trans (KeepsOthers.alloc W1 _)).trans (KeepsOthers.alloc _ _)).trans (KeepsOthers.of_grownBy hgrow fun j o ej hj => ?_)).trans (KeepsOthers.setCell _ _ _)).from _
          obtain ⟨cells, hk⟩ := hty j ej
          have hj' := hk.symm.trans hj
          cases hj'
          rfl
        · rw [Below.heap_setCell _ _ _ _ (by simp), hgrow.block (w.heap.size + 4) (by simp; omega) hbx]
          exact ((World.grownBy_alloc _ _ none).block (w.heap.size + 4) (by simp; omega) (by simp)).trans (((World.grownBy_alloc W1 _ none).block (w.heap.size + 4) (by omega) (by simp)).trans (hb1.block _ (by omega)))
        · exact h11'.other (by omega) _
        · exact h21'.other (by omega) _
        · exact h31'.other (by omega) _
        · have e9 : accX ((pre ++ [(⟨x, hm⟩ : LineIn s)]).map Subtype.val) = accX (pre.map Subtype.val) ++ [(⟨r1, ⟨r2, r3⟩⟩ : S44)] := by
            rw [List.map_append, List.map_cons, List.map_nil, accX_snoc, if_pos (by rw [ho])]
            unfold rowX
            rw [ho]
          show Kd.R k44 44 _ _ _ _ (accX ((pre ++ [(⟨x, hm⟩ : LineIn s)]).map Subtype.val))
          rw [e9]
          exact Kd.R_grown2 hO1 rfl (grownBy_setCell' w1 (w.heap.size + 3) _) (fun k e => by cases e; exact hBv2)
        · simp; simp at hsz1; omega
    · have z1 : (r5 != 0) = true := by simp [z]
      gi_wp2_with (first | (refine ⟨trivial, ?_⟩; gi_at_call 43; refine (callsIn_round C).mono ?_; rintro e W1 ⟨rfl, hb1⟩; have k1 := (i1.kept (grown_below hb1 none) (by simp)).alloc (.cells #[.string r1, .int .u64 r2, .int .u64 r3] 44); have k2 := (i2.kept (grown_below hb1 none) (by simp)).alloc (.cells #[.string r1, .int .u64 r2, .int .u64 r3] 44); have k3 := (i3.kept (grown_below hb1 none) (by simp)).alloc (.cells #[.string r1, .int .u64 r2, .int .u64 r3] 44); have kv := (hv.kept (grown_below hb1 none) (by simp)).alloc (.cells #[.string r1, .int .u64 r2, .int .u64 r3] 44); have k1c := k1.cell; have k1f := k1.frozen; have k2c := k2.cell; have k2f := k2.frozen; have k3c := k3.cell; have k3f := k3.frozen; have kvc := kv.cell; have kvf := kv.frozen; have d0 : (W1.alloc (.cells #[.string r1, .int .u64 r2, .int .u64 r3] 44)).cell? ⟨Bv, 0, none⟩ = some (.int .i64 x.f0) := (((below_alloc hb1 _).cell (p := ⟨Bv, 0, none⟩) hBv').trans c0); have hB2 := below_alloc hb1 (.cells #[.string r1, .int .u64 r2, .int .u64 r3] 44)))
      gi_region_with_o fail
      all_goals gi_wp2
      all_goals exact ⟨((((((KeepsOthers.of_grownBy (grown_below hb1 none) (fun j o ej => by cases ej)).trans (KeepsOthers.alloc W1 _)).trans (KeepsOthers.setCell _ _ _)).trans (KeepsOthers.setCell _ _ _)).trans (KeepsOthers.setCell _ _ _)).trans (KeepsOthers.drew _)).from _, rfl, pre.map Subtype.val, x, by simp, i4, by rw [ho]; exact z,
        (((k1.set _).other (by omega) _).other (by omega) _), (((k2.other (by omega) _).set _).other (by omega) _), by rw [ho]; exact (((k3.other (by omega) _).other (by omega) _).set _),
        hBel.trans ((hB2.mono (by have := hBel.size; omega)).trans (((((Below.refl w.heap.size _).setCell (p := ⟨w.heap.size, 0, none⟩) (Nat.le_refl _) _).setCell (p := ⟨w.heap.size + 1, 0, none⟩) (by simp) _).setCell (p := ⟨w.heap.size + 2, 0, none⟩) (by simp) _).drew))⟩
  case done =>
    rintro D ys W hD hys ⟨⟨⟨i1, i2, i3⟩, ⟨⟨v, hv, hO⟩, hBel⟩, i6⟩, i4⟩ hK
    rw [hys] at hO i4
    have hres := rowsL_ok (splitB s.data.toList) 1 [] i4
    rw [List.nil_append] at hres
    obtain ⟨Ao, co, rfl⟩ := Kd.R_slice hO
    have j1 := i1.cell
    have j2 := i1.frozen
    have j3 := i2.cell
    have j4 := i2.frozen
    have j5 := i3.cell
    have j6 := i3.frozen
    have j7 := hv.cell
    have j8 := hv.frozen
    go_wp2
    rw [Exit.noGoto_ret]
    have k1 := (((i1.set (.slice Ao (accX (allL s)).length co)).other (B' := w.heap.size + 1) (by omega) (.int .i64 0)).other (B' := w.heap.size + 2) (by omega) (.int .i64 0))
    have k2 := (((i2.other (B' := w.heap.size) (by omega) (.slice Ao (accX (allL s)).length co)).set (.int .i64 0)).other (B' := w.heap.size + 2) (by omega) (.int .i64 0))
    have k3 := (((i3.other (B' := w.heap.size) (by omega) (.slice Ao (accX (allL s)).length co)).other (B' := w.heap.size + 1) (by omega) (.int .i64 0)).set (.int .i64 0))
    have r1 := Kd.R_grown2 hO rfl (grownBy_setCell' W w.heap.size (.slice Ao (accX (allL s)).length co)) (fun k e => by cases e; exact Kd.R_ne hO i1 (by decide))
    have m2 := (i2.other (B' := w.heap.size) (by omega) (.slice Ao (accX (allL s)).length co))
    have r2 := Kd.R_grown2 r1 rfl (grownBy_setCell' _ (w.heap.size + 1) (.int .i64 0)) (fun k e => by cases e; exact Kd.R_ne r1 m2 (by decide))
    have m3 := (i3.other (B' := w.heap.size) (by omega) (.slice Ao (accX (allL s)).length co)).other (B' := w.heap.size + 1) (by omega) (.int .i64 0)
    have r3 := Kd.R_grown2 r2 rfl (grownBy_setCell' _ (w.heap.size + 2) (.int .i64 0)) (fun k e => by cases e; exact Kd.R_ne r2 m3 (by decide))
    have hb := (((Below.refl w.heap.size W).setCell (p := ⟨w.heap.size, 0, none⟩) (Nat.le_refl _) (.slice Ao (accX (allL s)).length co)).setCell (p := ⟨w.heap.size + 1, 0, none⟩) (by simp) (.int .i64 0)).setCell (p := ⟨w.heap.size + 2, 0, none⟩) (by simp) (.int .i64 0)
    have hK2 : (((W.setCell ⟨w.heap.size, 0, none⟩ (.slice Ao (accX (allL s)).length co)).setCell ⟨w.heap.size + 1, 0, none⟩ (.int .i64 0)).setCell ⟨w.heap.size + 2, 0, none⟩ (.int .i64 0)).heap[D]? = some (.deferred (some [])) := by
      rw [Below.heap_setCell _ _ _ _ (by simp; omega), Below.heap_setCell _ _ _ _ (by simp; omega), Below.heap_setCell _ _ _ _ (by simp; omega)]; exact hK
    have q1 := k1.kept (grownBy_putObj' _ D (.deferred none)) (by simp; omega)
    have q2 := k2.kept (grownBy_putObj' _ D (.deferred none)) (by simp; omega)
    have q3 := k3.kept (grownBy_putObj' _ D (.deferred none)) (by simp; omega)
    refine ⟨by simp, .inl ⟨_, _, rfl, run_takeDeferred hK2, ?_⟩⟩
    refine ⟨_, res3 _ _ _ _ _ rfl rfl rfl q1 q2 q3, ?_⟩
    rw [hres]
    refine ⟨_, rfl, ?_, ?_⟩
    · refine Kd.R_mono (Kd.R_grown2 r3 rfl (grownBy_putObj' _ D _) fun k e e' => ?_) (fun _ _ => trivial)
      cases e
      obtain ⟨cells, hk⟩ := Kd.R_typed r3 D e'.symm
      rw [hK2] at hk
      cases hk
    · exact (hBel.trans hb).trans ((Below.refl _ _).grown (grownBy_putObj' _ D _) (by have := i1.lt; simp; omega) (fun k e => by cases e; omega))
  case stop =>
    rintro D c pre W hD hp ⟨rfl, p, x, e1, e2, e3, e4, e5, e6, e7⟩ hK
    have hres : rowsL 1 [] (splitB s.data.toList) = ([], x.f0, (ofX x).2.2.2.2) := by
      obtain ⟨r, hr⟩ := hp
      refine rowsL_bad (splitB s.data.toList) 1 [] p x r ?_ e2 e3
      show allL s = _
      rw [← hr, e1, List.append_assoc]
      rfl
    refine wpIn_wide.2 ?_
    go_wp2
    rw [Exit.noGoto_ret]
    have q1 := e4.kept (grownBy_putObj' _ D (.deferred none)) (by simp; omega)
    have q2 := e5.kept (grownBy_putObj' _ D (.deferred none)) (by simp; omega)
    have q3 := e6.kept (grownBy_putObj' _ D (.deferred none)) (by simp; omega)
    refine ⟨by simp, .inl ⟨_, _, rfl, run_takeDeferred hK, ?_⟩⟩
    refine ⟨_, res3 _ _ _ _ _ rfl rfl rfl q1 q2 q3, ?_⟩
    rw [hres]
    exact ⟨_, rfl, Kd.R_nil _ _ _ _ _, e7.trans ((Below.refl _ W).grown (grownBy_putObj' W D _) (by have := e4.lt; omega) (fun k e => by cases e; omega))⟩
theorem row_All.calls (a0 : ByteArray) (r1 : List S44) (r2 r3 : Int) (w : World) (hG : GT w) (h : row_All.f a0 = some (r1, r2, r3)) :
    Calls Tryd.prog 45 #[.string a0] w fun e w' => ∃ v0_ : Value, e = .returned (.tuple #[v0_, .int .i64 r2, .int .i64 r3]) ∧ Kd.R k44 44 w' w.heap.size (fun _ => True) v0_ r1 ∧ Below w.heap.size w w' := by
  unfold row_All.f at h
  split at h
  · rename_i hs
    have e := Option.some.inj h
    have := callsIn_wide.1 (rowAll_is a0 hs w hG)
    rw [e] at this
    exact this
  · cases h
end Go.Proofs.YtpkjpiphjdpegaaDoor.P
