/- A program of this session wrote this text out of the session's own texts. (part 41 of 45) -/
import Derived.Test.YtpkjpiphjdpegaaDoorCLedgerImportsQ
import Derived.Test.YtpkjpiphjdpegaaDoorCLedgerImports35
import Derived.Test.YtpkjpiphjdpegaaDoorCLedgerImports40
namespace Go.Proofs.YtpkjpiphjdpegaaDoor.P
open Go.RowKit Go.Shelf Go.Proofs.YtpkjpiphjdpegaaDoor.RF Go.Proofs.YtpkjpiphjdpegaaDoorW.PrintWords
open Go.Proofs.YtpkjpiphjdpegaaDoor.Z
attribute [local go_sem] Oper.semAt_some
set_option linter.unusedVariables false
set_option linter.unusedSimpArgs false
def errX (most : Int) (acc : List S44) (x : S56) : Int := if (ofX x).2.2.2.2 = 0 then (if (ofX x).2.2.2.1 = true then putErr most acc (rowX x) else 0) else (ofX x).2.2.2.2
def addX (x : S56) : List S44 := if (ofX x).2.2.2.1 = true then [rowX x] else []
def impX (most : Int) : List S44 → List S56 → List S44 × Int × Int
 | acc, [] => (acc, 0, 0)
 | acc, x :: r => if errX most acc x = 0 then impX most (acc ++ addX x) r else ([], x.f0, errX most acc x)
theorem impX_lines (most : Int) : ∀ (L : List (List UInt8)) (n : Int) (acc : List S44), impX most acc (linesL n L) = impL most n acc L
 | [], _, _ => rfl
 | h :: L, n, acc => by
  rw [linesL, impX, impL_cons]; have e1 : errX most acc (lineOf n h) = lineE most acc h := rfl; have e2 : addX (lineOf n h) = rowQ h := rfl; rw [e1, e2]
  by_cases c : lineE most acc h = 0
  ·rw [if_pos c, if_pos c, impX_lines most L (n + 1)]
  ·rw [if_neg c, if_neg c]; rfl
theorem impX_app (most : Int) : ∀ (p q : List S56) (acc : List S44), impX most acc (p ++ q) = if (impX most acc p).2.2 = 0 then impX most (impX most acc p).1 q else impX most acc p
 | [], q, acc => by rw [List.nil_append, impX, if_pos rfl]
 | x :: p, q, acc => by
  rw [List.cons_append, impX, impX]
  by_cases c : errX most acc x = 0
  ·rw [if_pos c, if_pos c, impX_app most p q]
  ·rw [if_neg c, if_neg c, if_neg c]
def rowsSo (most : Int) (p : List S56) : List S44 := (impX most [] p).1
def wellX (most : Int) (p : List S56) : Prop := (impX most [] p).2.2 = 0 ∧ Good most (rowsSo most p) ∧ ∀ y ∈ rowsSo most p, okA y
theorem well_nil {most : Int} (h : 0 ≤ most) : wellX most [] := ⟨rfl, good_nil h, fun y hy => by cases hy⟩
theorem well_snoc {most : Int} {p : List S56} {x : S56} (h : wellX most p) (e : errX most (rowsSo most p) x = 0) (hx : ∀ y ∈ addX x, okA y) : wellX most (p ++ [x]) ∧ rowsSo most (p ++ [x]) = rowsSo most p ++ addX x := by
 obtain ⟨h1, h2, h3⟩ := h
 have k : impX most [] (p ++ [x]) = (rowsSo most p ++ addX x, 0, 0) := by
  rw [impX_app, if_pos h1, impX]; show (if errX most (rowsSo most p) x = 0 then _ else _) = _; rw [if_pos e]; rfl
 have k1 : rowsSo most (p ++ [x]) = rowsSo most p ++ addX x := by
  show (impX most [] (p ++ [x])).1 = _; rw [k]
 refine ⟨⟨by rw [k], ?_, ?_⟩, k1⟩
 ·rw [k1]; unfold errX at e; unfold addX
  by_cases c : (ofX x).2.2.2.2 = 0
  ·rw [if_pos c] at e
   by_cases z : (ofX x).2.2.2.1 = true
   ·rw [if_pos z] at e ⊢; exact (put_ok h2).1 e
   ·rw [if_neg z, List.append_nil]; exact h2
  ·rw [if_neg c] at e; exact absurd e c
 ·rw [k1]; intro y hy
  rcases List.mem_append.1 hy with q | q
  ·exact h3 y q
  ·exact hx y q
theorem bad_snoc {most : Int} {p : List S56} {x : S56} (h : wellX most p) (e : errX most (rowsSo most p) x ≠ 0) (r : List S56) : impX most [] (p ++ x :: r) = ([], x.f0, errX most (rowsSo most p) x) := by
 rw [impX_app, if_pos h.1, impX]; show (if errX most (rowsSo most p) x = 0 then _ else _) = _; rw [if_neg e]; rfl
theorem impX_ok (most : Int) : ∀ (p : List S56) (acc : List S44), (impX most acc p).2.2 = 0 → impX most acc p = ((impX most acc p).1, 0, 0)
 | [], acc, _ => rfl
 | x :: p, acc, h => by
  rw [impX] at h ⊢
  by_cases c : errX most acc x = 0
  ·rw [if_pos c] at h ⊢; exact impX_ok most p _ h
  ·rw [if_neg c] at h; exact absurd h c
theorem sub44 (t : TypeId) (h : 44 ≠ t) : ∀ q, q ∈ 44 :: k44.E → q ≠ t := fun q hq => by
 rcases List.mem_cons.1 hq with rfl | e
 ·exact h
 ·rw [show k44.E = [] from rfl] at e; cases e
theorem addX_ok (s : ByteArray) (x : S56) (hx : x ∈ allL s) : ∀ y ∈ addX x, okA y ∧ y.f0.size ≤ 96 := by
 obtain ⟨m, h, _, rfl⟩ := line_mem _ _ _ hx; intro y hy; obtain ⟨a, b⟩ := rowQ_is h y hy; exact ⟨b, (mayId_one _ a).2⟩
def BoI (most : Int) (n0 Bx Pb B : Nat) (p : List S56) (W : World) : Prop := Book n0 Bx Pb B most (rowsSo most p) W
theorem boI_ab (most : Int) (n0 Bx Pb B C : Nat) (h1 : Pb ≠ Bx) (h2 : B ≠ Bx) (h3 : Pb < C) (h4 : B < C) : AbX Bx C (BoI most n0 Bx Pb B) := by
 intro s W W' row hs hg hrow; refine book_grown hs hg ?_ ?_ fun k hk ⟨cs, hc⟩ e => ?_
 ·intro e
  rcases hrow Pb e.symm with h | ⟨h, _⟩
  ·exact h1 h
  ·omega
 ·intro e
  rcases hrow B e.symm with h | ⟨h, _⟩
  ·exact h2 h
  ·omega
 ·rcases hrow k e.symm with h | ⟨_, o, ho, hno⟩
  ·exact hk h
  ·rw [hc] at ho; cases ho; cases hno
theorem opened_m (h : Nat) (hh : h ≤ 10) (most : Int) (hm : ((2 ^ h : Nat) : Int) = most) (w : World) :
  Calls Tryd.prog 69 #[.int .i64 (h : Int)] w fun e w' => e = .returned (.tuple #[.pointer (some ⟨w.heap.size + 1, 0, none⟩), .int .i64 0]) ∧
   w' = (w.alloc (.map #[] 0)).alloc (.cells #[.int .i64 most, .slice none 0 0, .map (some w.heap.size), .int .u64 0, .int .u64 0] 113) := by
 rw [← hm]; exact opened_good h hh w
def impW (most : Int) (s : ByteArray) (w : World) : World :=
 ((((((w.alloc (.cells #[.slice none 0 0] 34)).alloc (.cells #[.int .i64 0] 3)).alloc (.cells #[.int .i64 0] 23)).alloc (.map #[] 0)).alloc (.cells #[.int .i64 most, .slice none 0 0, .map (some (w.heap.size + 1 + 1 + 1)), .int .u64 0, .int .u64 0] 113)).alloc (.cells #[.pointer (some ⟨w.heap.size + 1 + 1 + 1 + 1, 0, none⟩)] 107)).alloc (.cells #[.string s] 9)
theorem impW_facts (most : Int) (s : ByteArray) (w : World) :
  (impW most s w).heap.size = w.heap.size + 7 ∧ Below w.heap.size w (impW most s w) ∧ Boxed (impW most s w) w.heap.size 34 (.slice none 0 0) ∧ Boxed (impW most s w) (w.heap.size + 1) 3 (.int .i64 0) ∧ Boxed (impW most s w) (w.heap.size + 1 + 1) 23 (.int .i64 0) ∧
   Boxed (impW most s w) (w.heap.size + 1 + 1 + 1 + 1 + 1) 107 (.pointer (some ⟨w.heap.size + 1 + 1 + 1 + 1, 0, none⟩)) ∧ Boxed (impW most s w) (w.heap.size + 1 + 1 + 1 + 1 + 1 + 1) 9 (.string s) ∧ Book w.heap.size (w.heap.size + 1 + 1 + 1 + 1 + 1 + 1) (w.heap.size + 1 + 1 + 1 + 1) (w.heap.size + 1 + 1 + 1) most [] (impW most s w) := by
 unfold impW; obtain ⟨w3, hw3⟩ : ∃ w3, (((w.alloc (.cells #[.slice none 0 0] 34)).alloc (.cells #[.int .i64 0] 3)).alloc (.cells #[.int .i64 0] 23)) = w3 := ⟨_, rfl⟩
 have s3 : w3.heap.size = w.heap.size + 3 := by rw [← hw3]; simp
 have b3 : Below w.heap.size w w3 := by rw [← hw3]; exact zRe (zRe (zRe (Below.refl _ _) _) _) _
 have q0 : w3.heap[w.heap.size]? = some (.cells #[.slice none 0 0] 34 (0, 0)) := by rw [← hw3]; exact zRf (zRf (blk_new w _) _) _
 have q1 : w3.heap[w.heap.size + 1]? = some (.cells #[.int .i64 0] 3 (0, 0)) := by
  rw [← hw3]; have := blk_new (w.alloc (.cells #[.slice none 0 0] 34)) (.cells #[.int .i64 0] 3); rw [World.size_alloc] at this; exact zRf this _
 have q2 : w3.heap[w.heap.size + 2]? = some (.cells #[.int .i64 0] 23 (0, 0)) := by
  rw [← hw3]; have := blk_new ((w.alloc (.cells #[.slice none 0 0] 34)).alloc (.cells #[.int .i64 0] 3)) (.cells #[.int .i64 0] 23); rw [World.size_alloc, World.size_alloc] at this; exact this
 rw [hw3]; clear hw3; have bk := book_opened w.heap.size (w.heap.size + 6) most w3 zv1; rw [s3] at bk; obtain ⟨w5, hw5⟩ : ∃ w5, ((w3.alloc (.map #[] 0)).alloc (.cells #[.int .i64 most, .slice none 0 0, .map (some (w.heap.size + 3)), .int .u64 0, .int .u64 0] 113)) = w5 := ⟨_, rfl⟩
 have s5 : w5.heap.size = w.heap.size + 5 := by rw [← hw5]; simp [s3]
 have b5 : Below w3.heap.size w3 w5 := by rw [← hw5]; exact zRe (zRe (Below.refl _ _) _) _
 rw [hw5] at bk; show ((((w3.alloc (.map #[] 0)).alloc (.cells #[.int .i64 most, .slice none 0 0, .map (some (w.heap.size + 3)), .int .u64 0, .int .u64 0] 113)).alloc (.cells #[.pointer (some ⟨w.heap.size + 4, 0, none⟩)] 107)).alloc (.cells #[.string s] 9)).heap.size = _ ∧ _; rw [hw5]; clear hw5; have n5 := blk_new w5 (.cells #[.pointer (some ⟨w.heap.size + 4, 0, none⟩)] 107); have n6 := blk_new (w5.alloc (.cells #[.pointer (some ⟨w.heap.size + 4, 0, none⟩)] 107)) (.cells #[.string s] 9); rw [World.size_alloc, s5] at n6; rw [s5] at n5; have b57 : Below w5.heap.size w5 ((w5.alloc (.cells #[.pointer (some ⟨w.heap.size + 4, 0, none⟩)] 107)).alloc (.cells #[.string s] 9)) := zRe (zRe (Below.refl _ _) _) _; have bl := fun (o : Obj) (k : Nat) (h : w3.heap[k]? = some o) => zRc (zRc h b5) b57
 exact ⟨by simp [s5], (b3.trans (b5.mono zv1)).trans (b57.mono zv1), bl _ _ q0, bl _ _ q1, bl _ _ q2, zRf n5 _, n6, book_below bk b57⟩
def InvI (n0 : Nat) (most : Int) (w W0 : World) (pre : List S56) (W : World) : Prop :=
 ((Boxed W n0 34 (.slice none 0 0) ∧ Boxed W (n0 + 1) 3 (.int .i64 0) ∧ Boxed W (n0 + 1 + 1) 23 (.int .i64 0) ∧ Boxed W (n0 + 1 + 1 + 1 + 1 + 1) 107 (.pointer (some ⟨n0 + 1 + 1 + 1 + 1, 0, none⟩))) ∧
  BoI most n0 (n0 + 1 + 1 + 1 + 1 + 1 + 1) (n0 + 1 + 1 + 1 + 1) (n0 + 1 + 1 + 1) pre W ∧ Below n0 w W ∧ W0.heap.size ≤ W.heap.size) ∧ wellX most pre
def InvY (n0 : Nat) (most : Int) (w : World) (c : Code) (pre : List S56) (W : World) : Prop :=
 c = .ret ∧ ∃ p x, pre = p ++ [x] ∧ wellX most p ∧ errX most (rowsSo most p) x ≠ 0 ∧ Boxed W n0 34 (.slice none 0 0) ∧ Boxed W (n0 + 1) 3 (.int .i64 x.f0) ∧ Boxed W (n0 + 1 + 1) 23 (.int .i64 (errX most (rowsSo most p) x)) ∧ Below n0 w W
theorem res32 (tmps : Array Value) (w : World) (B B' B'' : Nat) (h1 : tmps[4]? = some (.pointer (some ⟨B, 0, none⟩))) (h2 : tmps[5]? = some (.pointer (some ⟨B', 0, none⟩))) (h3 : tmps[6]? = some (.pointer (some ⟨B'', 0, none⟩))) {x y z : Value} (q1 : Boxed w B 34 x) (q2 : Boxed w B' 3 y) (q3 : Boxed w B'' 23 z) :
  (results Tryd.f32 tmps).run Tryd.prog w = .ok (.tuple #[x, y, z]) w := by
 have hr : Tryd.f32.results = #[.cell 4 34, .cell 5 3, .cell 6 23] := rfl; have c1 := q1.cell; have c2 := q2.cell; have c3 := q3.cell; have g1 : tmps[4]?.getD undef = .pointer (some ⟨B, 0, none⟩) := by rw [h1]; rfl
 have g2 : tmps[5]?.getD undef = .pointer (some ⟨B', 0, none⟩) := by rw [h2]; rfl
 have g3 : tmps[6]?.getD undef = .pointer (some ⟨B'', 0, none⟩) := by rw [h3]; rfl
 simp [results, hr, g1, g2, g3, asAddr, go_sem, c1, c2, c3]
theorem invI_ab (n0 : Nat) (most : Int) (w W0 : World) (hn : n0 ≤ w.heap.size) (h0 : n0 + 7 ≤ W0.heap.size) : AbX (n0 + 1 + 1 + 1 + 1 + 1 + 1) W0.heap.size (InvI n0 most w W0) :=
 AbX.and (AbX.and (AbX.and (boxed_ab _ _ _ _ (fun _ => .slice none 0 0) zv1) (AbX.and (boxed_ab _ _ _ _ (fun _ => .int .i64 0) zv1) (AbX.and (boxed_ab _ _ _ _ (fun _ => .int .i64 0) zv1) (boxed_ab _ _ _ _ (fun _ => .pointer (some ⟨n0 + 1 + 1 + 1 + 1, 0, none⟩)) zv1))))
  (AbX.and (boI_ab most n0 _ _ _ _ zv1 zv1 zv1 zv1) (AbX.and (abX_below hn zv1 zv1) (abX_size _ _ _)))) (abX_pure _ _ (wellX most))
set_option maxHeartbeats 4000000 in
set_option maxRecDepth 100000 in
theorem import_is (s : ByteArray) (hs : s.size ≤ 65536) (h : Nat) (hh : h ≤ 10) (w : World) (hG : GT w) :
  CallsIn Fence.wide 5 Tryd.prog 32 #[.string s, .int .i64 (h : Int)] w fun e W' => ∃ v, e = .returned (.tuple #[v, .int .i64 (impX ((2 ^ h : Nat) : Int) [] (allL s)).2.1, .int .i64 (impX ((2 ^ h : Nat) : Int) [] (allL s)).2.2]) ∧ Kd.R k44 44 W' w.heap.size (fun _ => True) v (sortL rowKey (impX ((2 ^ h : Nat) : Int) [] (allL s)).1) ∧ Below w.heap.size w W' := by
 have mixed : Tryd.prog.follows .mixedOrders = true := by kernel_rfl
 have hlen : decide ((65536 : Int) < (s.size : Int)) = false := decide_eq_false zv1; refine callsIn_of_wp_marks Tryd.func32 rfl trivial ?_ rfl; simp only [Tryd.ntmps32, List.size_toArray, List.length_cons, List.length_nil, Nat.reduceAdd, Nat.reduceSub, Array.replicate_succ, Array.replicate_zero, List.push_toArray, List.append_toArray, List.nil_append, List.cons_append]; refine wpIn_wide.2 ?_; obtain ⟨most, hmost⟩ : ∃ m : Int, ((2 ^ h : Nat) : Int) = m := ⟨_, rfl⟩
 have hm0 : 0 ≤ most := by rw [← hmost]; exact Int.natCast_nonneg _
 have hm1 : most ≤ 1024 := by
  rw [← hmost]; have q : h = 0 ∨ h = 1 ∨ h = 2 ∨ h = 3 ∨ h = 4 ∨ h = 5 ∨ h = 6 ∨ h = 7 ∨ h = 8 ∨ h = 9 ∨ h = 10 := by omega
  rcases q with rfl | rfl | rfl | rfl | rfl | rfl | rfl | rfl | rfl | rfl | rfl <;> decide
 rw [hmost]; have HM := Aside0.mk hmost; clear hmost
 go_wp2_with (first | (go_at_call 69; (with_reducible refine (opened_m h hh most HM.out _).mono ?_); rintro e W1 ⟨rfl, rfl⟩) | (go_at_call 38; (with_reducible refine (each_call s _).mono ?_); rintro e W1 ⟨rfl, rfl⟩))
 obtain ⟨f1, f2, f3, f4, f5, f6, f7, f8⟩ := impW_facts most s w; change Code.wp _ _ _ _ (impW most s w); generalize impW most s w = W0 at *; refine (wpIn_wide (n := 5)).1 ?_
 refine range_own (Bx := w.heap.size + 1 + 1 + 1 + 1 + 1 + 1) zv1 rfl zv1 (gf := 73) (lb := #[.pointer (some ⟨w.heap.size + 1 + 1 + 1 + 1 + 1 + 1, 0, none⟩)]) rfl trivial (enters_of Tryd.func73 (by kernel_rfl) rfl)
  (each_stops2 4 zv1 (w.heap.size + 1 + 1 + 1 + 1 + 1 + 1) w.heap.size s zv1 W0 w hG (Nat.le_refl _) f2 zv1 zv1 f7)
  (fun h k => ⟨h.1.trans k.1, k.2.trans h.2⟩) (fun W l o o' hl ho hc hw => ⟨(Below.refl _ W).grown (grownBy_putObj' W l o') (by have := (Array.getElem?_eq_some_iff.1 ho).1; omega) (fun k e => by cases e; omega), World.putObj_heap_other zv1⟩) (Below.refl _ _) (fun _ => rfl)
  (fun pre W => InvI w.heap.size most w W0 (pre.map Subtype.val) W)
  (fun c pre W => InvY w.heap.size most w c (pre.map Subtype.val) W)
  (fun q => (invI_ab w.heap.size most w W0 (Nat.le_refl _) zv1) (q.map Subtype.val))
  (fun c s' W W' row hh hg hr => by
   obtain ⟨rfl, p, x, e1, e2, e3, e4, e5, e6, e7⟩ := hh
   exact ⟨rfl, p, x, e1, e2, e3, boxed_ab (β := Unit) _ W0.heap.size _ _ (fun _ => .slice none 0 0) zv1 () W W' row e4 hg hr, boxed_ab (β := Unit) _ W0.heap.size _ _ (fun _ => .int .i64 x.f0) zv1 () W W' row e5 hg hr,
    boxed_ab (β := Unit) _ W0.heap.size _ _ (fun _ => .int .i64 (errX most (rowsSo most p) x)) zv1 () W W' row e6 hg hr, abX_below (β := Unit) (Nat.le_refl _) zv1 zv1 () W W' row e7 hg hr⟩)
  ⟨⟨⟨f3, f4, f5, f6⟩, f8, f2, Nat.le_refl _⟩, well_nil hm0⟩
  (fun x a' W => ∃ Bv, w.heap.size + 1 + 1 + 1 + 1 + 1 + 1 < Bv ∧ W.heap[Bv]? = some (.cells (lineC x.1) 56 (0, 0)) ∧ a' = { tmps := #[.string s, .int .i64 (h : Int), undef, undef, .pointer (some ⟨w.heap.size, 0, none⟩), .pointer (some ⟨w.heap.size + 1, 0, none⟩), .pointer (some ⟨w.heap.size + 1 + 1, 0, none⟩), .pointer (some ⟨w.heap.size + 1 + 1 + 1 + 1 + 1, 0, none⟩), .int .i64 0, .pointer (some ⟨Bv, 0, none⟩), undef, undef, undef, .tuple #[.pointer (some ⟨w.heap.size + 1 + 1 + 1 + 1, 0, none⟩), .int .i64 0], .int .i64 (h : Int), .tuple #[.pointer (some ⟨w.heap.size + 1 + 1 + 1 + 1, 0, none⟩), .int .i64 0], .pointer (some ⟨w.heap.size + 1 + 1 + 1 + 1, 0, none⟩), .int .i64 0, .bool false, .int .i64 0, .bool false, undef, .bool false, .string s, .int .i64 (s.size : Int), .bool false, .string s, .func (.func 73) #[] #[.pointer (some ⟨w.heap.size + 1 + 1 + 1 + 1 + 1 + 1, 0, none⟩)], lineV x.1, undef, undef, undef, undef, undef, undef, undef, undef, undef, undef, undef, undef, undef, undef, undef, undef, undef, undef, undef, undef, undef, undef, undef, undef], defers := [] })
  (fun x a' s' W W' row hs hg hr => by
   obtain ⟨Bv, q1, q2, q3⟩ := hs
   exact ⟨Bv, q1, abX_block (β := Unit) (b := Bv) (Bx := w.heap.size + 1 + 1 + 1 + 1 + 1 + 1) (B := W0.heap.size) (fun _ => .cells (lineC x.1) 56 (0, 0)) (fun _ => rfl) zv1 () W W' row q2 hg hr, q3⟩)
  ?assign ?body ?done ?stop
 case assign =>
  intro l pre x W K hi hK; unfold lineV at hK ⊢; gi_wp2; obtain ⟨⟨⟨i1, i2, i3, i4⟩, hBk, hBel, i6⟩, hw⟩ := hi
  exact hK _ _ ((KeepsOthers.alloc _ _).from _) ⟨(Below.refl _ W).alloc zv1 _, (World.grownBy_alloc W _ none).block (w.heap.size + 1 + 1 + 1 + 1 + 1 + 1) zv1 zv10⟩
   ⟨⟨⟨i1.alloc _, i2.alloc _, i3.alloc _, i4.alloc _⟩, book_below hBk (zRe (Below.refl _ _) _), hBel.alloc zv1 _, zv27⟩, hw⟩ ⟨W.heap.size, zv1, blk_new W _, rfl⟩
 case body =>
  rintro l pre ⟨x, hm⟩ a' W hl ⟨r, hr⟩ ⟨⟨⟨i1, i2, i3, i4⟩, hBk, hBel, i6⟩, hw⟩ ⟨Bv, hBv, hcv, rfl⟩ hlen2; have hOf := of_line s zv1 x hm; have hax := addX_ok s x hm; obtain ⟨⟨r1, r2, r3, r4, r5⟩, ho⟩ : ∃ o, ofX x = o := ⟨_, rfl⟩
  rw [ho] at hOf; have C := row_Of.calls x.f0 x.f1 x.f2 x.f3 r1 r2 r3 r4 r5 W (gt_same hG (Nat.le_refl _) hBel) hOf; dsimp only at hcv; have c0 : W.cell? ⟨Bv, 0, none⟩ = some (.int .i64 x.f0) := by simp [World.cell?, hcv, lineC]
  have c1 : W.cell? ⟨Bv, 1, none⟩ = some (.string x.f1) := by simp [World.cell?, hcv, lineC]
  have c2 : W.cell? ⟨Bv, 2, none⟩ = some (.int .u8 x.f2) := by simp [World.cell?, hcv, lineC]
  have c3 : W.cell? ⟨Bv, 3, none⟩ = some (.int .i64 x.f3) := by simp [World.cell?, hcv, lineC]
  dsimp only [lineV]; have hBv' : Bv < W.heap.size := (Array.getElem?_eq_some_iff.1 hcv).1; have hmap : (pre ++ [(⟨x, hm⟩ : LineIn s)]).map Subtype.val = pre.map Subtype.val ++ [x] := by rw [List.map_append]; rfl
  have hWsz : w.heap.size + 1 + 1 + 1 + 1 + 1 + 1 < W.heap.size := by omega
  obtain ⟨p, hp⟩ : ∃ p, pre.map Subtype.val = p := ⟨_, rfl⟩
  rw [hp] at hBk hw hmap; have HMAP := Aside0.mk hmap; have HW := Aside0.mk hw; have HBK := Aside0.mk hBk; have HBEL := Aside0.mk hBel; have HO := Aside0.mk ho; have HAX := Aside0.mk hax; clear hmap hw hBk hBel ho hax hp hOf hcv
  by_cases z : r5 = 0
  ·subst z; cases r4 with
   | false =>
    gi_wp2_with (first | (refine ⟨trivial, ?_⟩; gi_at_call 43; refine (callsIn_round C).mono ?_; rintro e W1 ⟨rfl, hb1⟩; have k1 := (i1.kept (zRp hb1 none) zv10).alloc (.cells #[.string r1, .int .u64 r2, .int .u64 r3] 44); have k1c := k1.cell; have k1f := k1.frozen; have k2 := (i2.kept (zRp hb1 none) zv10).alloc (.cells #[.string r1, .int .u64 r2, .int .u64 r3] 44); have k2c := k2.cell; have k2f := k2.frozen; have k3 := (i3.kept (zRp hb1 none) zv10).alloc (.cells #[.string r1, .int .u64 r2, .int .u64 r3] 44); have k3c := k3.cell; have k3f := k3.frozen; have k4 := (i4.kept (zRp hb1 none) zv10).alloc (.cells #[.string r1, .int .u64 r2, .int .u64 r3] 44); have k4c := k4.cell; have k4f := k4.frozen; have d0 : (W1.alloc (.cells #[.string r1, .int .u64 r2, .int .u64 r3] 44)).cell? ⟨Bv, 0, none⟩ = some (.int .i64 x.f0) := (((zRe hb1 _).cell (p := ⟨Bv, 0, none⟩) hBv').trans c0); have hB2 := zRe hb1 (.cells #[.string r1, .int .u64 r2, .int .u64 r3] 44)))
    obtain ⟨w1, w2⟩ := well_snoc HW.out (show errX most (rowsSo most p) x = 0 by unfold errX; rw [HO.out]; rfl) (fun y hy => (HAX.out y hy).1); have e0 : addX x = [] := by unfold addX; rw [HO.out]; rfl
    rw [e0, List.append_nil] at w2; refine ⟨((KeepsOthers.of_grownBy (zRp hb1 none) (fun j o ej => by cases ej)).trans (KeepsOthers.alloc _ _)).from _, ⟨hB2.mono zv1, hB2.block _ zv1⟩, ?_⟩; show InvI w.heap.size most w W0 ((pre ++ [(⟨x, hm⟩ : LineIn s)]).map Subtype.val) _; rw [HMAP.out]; refine ⟨⟨⟨k1, k2, k3, k4⟩, ?_, HBEL.out.trans (hB2.mono zv1), (by have := hB2.size; omega)⟩, w1⟩; unfold BoI; rw [w2]; exact book_below HBK.out hB2
   | true =>
    have rx : rowX x = ⟨r1, ⟨r2, r3⟩⟩ := by unfold rowX; rw [HO.out]
    have e0 : addX x = [⟨r1, ⟨r2, r3⟩⟩] := by unfold addX; rw [HO.out, rx]; rfl
    obtain ⟨ok1, sz1⟩ := HAX.out ⟨r1, ⟨r2, r3⟩⟩ (by rw [e0]; exact List.mem_singleton.2 rfl); have ee : errX most (rowsSo most p) x = putErr most (rowsSo most p) ⟨r1, ⟨r2, r3⟩⟩ := by unfold errX; rw [HO.out, rx]; rfl
    obtain ⟨pe, hpe⟩ : ∃ pe, putErr most (rowsSo most p) ⟨r1, ⟨r2, r3⟩⟩ = pe := ⟨_, rfl⟩
    have hgl := HW.out.2.1.len; have HP := Aside0.mk (And.intro hpe (And.intro ok1 (And.intro (show (⟨r1, ⟨r2, r3⟩⟩ : S44).f0.size ≤ maxLen by unfold maxLen; omega) (And.intro (sumOf_ge _ HW.out.2.2) (And.intro HW.out.2.1.sum (show (rowsSo most p).length ≤ 100000 by omega)))))); have HE := Aside0.mk (And.intro ee e0); clear rx e0 ok1 sz1 ee hpe hgl
    gi_wp2_with (first | (refine ⟨trivial, ?_⟩; gi_at_call 43; refine (callsIn_round C).mono ?_; rintro e W1 ⟨rfl, hb1⟩; have k1 := (i1.kept (zRp hb1 none) zv10).alloc (.cells #[.string r1, .int .u64 r2, .int .u64 r3] 44); have k1c := k1.cell; have k1f := k1.frozen; have k2 := (i2.kept (zRp hb1 none) zv10).alloc (.cells #[.string r1, .int .u64 r2, .int .u64 r3] 44); have k2c := k2.cell; have k2f := k2.frozen; have k3 := (i3.kept (zRp hb1 none) zv10).alloc (.cells #[.string r1, .int .u64 r2, .int .u64 r3] 44); have k3c := k3.cell; have k3f := k3.frozen; have k4 := (i4.kept (zRp hb1 none) zv10).alloc (.cells #[.string r1, .int .u64 r2, .int .u64 r3] 44); have k4c := k4.cell; have k4f := k4.frozen; have d0 : (W1.alloc (.cells #[.string r1, .int .u64 r2, .int .u64 r3] 44)).cell? ⟨Bv, 0, none⟩ = some (.int .i64 x.f0) := (((zRe hb1 _).cell (p := ⟨Bv, 0, none⟩) hBv').trans c0); have hB2 := zRe hb1 (.cells #[.string r1, .int .u64 r2, .int .u64 r3] 44)))
    refine ⟨trivial, ?_⟩; refine (callsIn_round (put_e (y := ⟨r1, ⟨r2, r3⟩⟩) HP.out.1 (book_below HBK.out hB2) (by have := hB2.size; omega) (by have := hB2.size; omega) HP.out.2.2.2.2.2 HP.out.2.2.2.1 HP.out.2.2.2.2.1 HP.out.2.1 HP.out.2.2.1)).mono ?_; rintro e W3 ⟨rfl, hp3⟩
    by_cases z : pe = 0
    ·subst z; obtain ⟨g1, g2, g3⟩ := hp3.out.2 rfl; have G := Aside0.mk (And.intro g1 (And.intro g2 g3)); clear hp3 g1 g2 g3
     gi_wp2_with fail
     obtain ⟨g1, g2, g3⟩ := G.out; obtain ⟨w1, w2⟩ := well_snoc HW.out (show errX most (rowsSo most p) x = 0 by rw [HE.out.1, HP.out.1]) (fun y hy => (HAX.out y hy).1); rw [HE.out.2] at w2; have hb3 := (hB2.mono (show w.heap.size ≤ W.heap.size by omega)).trans g1; have q1 := hB2.size; refine ⟨(((KeepsOthers.of_grownBy (zRp hb1 none) (fun j o ej => by cases ej)).trans (KeepsOthers.alloc _ _)).from _).trans (kept_from g2 zv1 zv1), ⟨hb3, (kept_bx g2 zv1 zv1 zv1).trans (hB2.block _ zv1)⟩, ?_⟩; show InvI w.heap.size most w W0 ((pre ++ [(⟨x, hm⟩ : LineIn s)]).map Subtype.val) _; rw [HMAP.out]; refine ⟨⟨⟨kept_boxed g2 k1 zv1 zv1 zvz, kept_boxed g2 k2 zv1 zv1 zvz, kept_boxed g2 k3 zv1 zv1 zvz, kept_boxed g2 k4 zv1 zv1 zvz⟩, ?_, HBEL.out.trans hb3, (by have := g2.1; omega)⟩, w1⟩; unfold BoI; rw [w2]; exact g3
    ·have zb : (pe != 0) = true := by simp [z]
     have g1 := hp3.out.1 z; have m1 := k1.kept (zRp g1 none) zv10; have m2 := k2.kept (zRp g1 none) zv10; have m3 := k3.kept (zRp g1 none) zv10; have m1c := m1.cell; have m1f := m1.frozen; have m2c := m2.cell; have m2f := m2.frozen; have m3c := m3.cell; have m3f := m3.frozen; have d1 : W3.cell? ⟨Bv, 0, none⟩ = some (.int .i64 x.f0) := (g1.cell (p := ⟨Bv, 0, none⟩) (by have := hB2.size; show Bv < _; omega)).trans d0; have Z := Aside0.mk z; clear hp3 z
     gi_wp2_with fail
     gi_region_with_o fail
     all_goals gi_wp2
     all_goals exact ⟨(((((((KeepsOthers.of_grownBy (zRp hb1 none) (fun j o ej => by cases ej)).trans (KeepsOthers.alloc W1 _)).trans (KeepsOthers.of_grownBy (zRp g1 none) (fun j o ej => by cases ej))).trans (KeepsOthers.setCell _ _ _)).trans (KeepsOthers.setCell _ _ _)).trans (KeepsOthers.setCell _ _ _)).trans (KeepsOthers.drew _)).from _, rfl, p, x, HMAP.out, HW.out, by rw [HE.out.1, HP.out.1]; exact Z.out,
      (((m1.set _).other zv1 _).other zv1 _), (((m2.other zv1 _).set _).other zv1 _), by rw [HE.out.1, HP.out.1]; exact (((m3.other zv1 _).other zv1 _).set _),
      HBEL.out.trans (((hB2.trans (g1.mono hB2.size)).mono zv1).trans (((((Below.refl w.heap.size _).setCell (p := ⟨w.heap.size, 0, none⟩) (Nat.le_refl _) _).setCell (p := ⟨w.heap.size + 1, 0, none⟩) zv10 _).setCell (p := ⟨w.heap.size + 1 + 1, 0, none⟩) zv3p _).drew))⟩
  ·have z1 : (r5 != 0) = true := by simp [z]
   have z2 : (r5 == 0) = false := by simp [z]
   have Z := Aside0.mk z; clear z
   gi_wp2_with (first | (refine ⟨trivial, ?_⟩; gi_at_call 43; refine (callsIn_round C).mono ?_; rintro e W1 ⟨rfl, hb1⟩; have k1 := (i1.kept (zRp hb1 none) zv10).alloc (.cells #[.string r1, .int .u64 r2, .int .u64 r3] 44); have k1c := k1.cell; have k1f := k1.frozen; have k2 := (i2.kept (zRp hb1 none) zv10).alloc (.cells #[.string r1, .int .u64 r2, .int .u64 r3] 44); have k2c := k2.cell; have k2f := k2.frozen; have k3 := (i3.kept (zRp hb1 none) zv10).alloc (.cells #[.string r1, .int .u64 r2, .int .u64 r3] 44); have k3c := k3.cell; have k3f := k3.frozen; have k4 := (i4.kept (zRp hb1 none) zv10).alloc (.cells #[.string r1, .int .u64 r2, .int .u64 r3] 44); have k4c := k4.cell; have k4f := k4.frozen; have d0 : (W1.alloc (.cells #[.string r1, .int .u64 r2, .int .u64 r3] 44)).cell? ⟨Bv, 0, none⟩ = some (.int .i64 x.f0) := (((zRe hb1 _).cell (p := ⟨Bv, 0, none⟩) hBv').trans c0); have hB2 := zRe hb1 (.cells #[.string r1, .int .u64 r2, .int .u64 r3] 44)))
   gi_region_with_o fail
   all_goals gi_wp2
   all_goals
    have ee : errX most (rowsSo most p) x = r5 := by unfold errX; rw [HO.out]; exact if_neg Z.out
    exact ⟨((((((KeepsOthers.of_grownBy (zRp hb1 none) (fun j o ej => by cases ej)).trans (KeepsOthers.alloc W1 _)).trans (KeepsOthers.setCell _ _ _)).trans (KeepsOthers.setCell _ _ _)).trans (KeepsOthers.setCell _ _ _)).trans (KeepsOthers.drew _)).from _, rfl, p, x, HMAP.out, HW.out, by rw [ee]; exact Z.out,
     (((k1.set _).other zv1 _).other zv1 _), (((k2.other zv1 _).set _).other zv1 _), by rw [ee]; exact (((k3.other zv1 _).other zv1 _).set _),
     HBEL.out.trans ((hB2.mono zv1).trans (((((Below.refl w.heap.size _).setCell (p := ⟨w.heap.size, 0, none⟩) (Nat.le_refl _) _).setCell (p := ⟨w.heap.size + 1, 0, none⟩) zv10 _).setCell (p := ⟨w.heap.size + 1 + 1, 0, none⟩) zv3p _).drew))⟩
 case done =>
  rintro D ys W hD hys ⟨⟨⟨i1, i2, i3, i4⟩, hBk, hBel, i6⟩, hw⟩ hK; rw [hys] at hBk hw; have hres := impX_ok most (allL s) [] hw.1; obtain ⟨rows, hrows⟩ : ∃ r, rowsSo most (allL s) = r := ⟨_, rfl⟩
  unfold BoI at hBk; rw [hrows] at hBk
  have hrl : rows.length ≤ 1000000 := by
   have := hw.2.1.len; rw [hrows] at this; omega
  have hr1 : (impX most [] (allL s)).1 = rows := hrows; rw [hr1] at hres; obtain ⟨_, _, _, ⟨v, hv, hR⟩, _⟩ := hBk; obtain ⟨A, c, rfl⟩ := Kd.R_slice hR; unfold bookO at hv; have rd := Kd.R_reads' hR; have j1 := i4.cell; have j2 : W.cell? ⟨w.heap.size + 1 + 1 + 1 + 1, 1, none⟩ = some (.slice A rows.length c) := (zRa hv 1).trans rfl; have HRES := Aside0.mk hres; have HRD := Aside0.mk rd; have HRL := Aside0.mk hrl; have HBEL := Aside0.mk hBel; clear hres rd hrl hw hrows hr1 hv hR hys hBel
  go_wp2_with (first | (go_at_call 27; (with_reducible refine (row_Sort.calls _ _ rows _ _ HRD.out.2.2 HRD.out.2.1 (sort_f rows HRL.out)).mono ?_); rintro e W1 ⟨v1, rfl, hR1, hb1⟩; obtain ⟨Ao, co, ev⟩ := Kd.R_slice hR1; subst ev; have l1 := i1.kept (zRp hb1 none) zv10; have l2 := i2.kept (zRp hb1 none) zv10; have l3 := i3.kept (zRp hb1 none) zv10; have l1c := l1.cell; have l1f := l1.frozen; have l2c := l2.cell; have l2f := l2.frozen; have l3c := l3.cell; have l3f := l3.frozen))
  try rw [Exit.noGoto_ret]
  have hKD : W1.heap[D]? = some (.deferred (some [])) := zRc hK hb1; have hsz1 := hb1.size; have hDl := blk_lt hK; have k1 := (((l1.set (.slice Ao (sortL rowKey rows).length co)).other (B' := w.heap.size + 1) zv1 (.int .i64 0)).other (B' := w.heap.size + 1 + 1) zv1 (.int .i64 0))
  have k2 := (((l2.other (B' := w.heap.size) zv1 (.slice Ao (sortL rowKey rows).length co)).set (.int .i64 0)).other (B' := w.heap.size + 1 + 1) zv1 (.int .i64 0))
  have k3 := (((l3.other (B' := w.heap.size) zv1 (.slice Ao (sortL rowKey rows).length co)).other (B' := w.heap.size + 1) zv1 (.int .i64 0)).set (.int .i64 0))
  have r0 := Kd.R_lower hR1 (show w.heap.size ≤ W.heap.size by omega); have r1 := Kd.R_set r0 l1 (sub44 34 zvz) 0 (.slice Ao (sortL rowKey rows).length co); have r2 := Kd.R_set r1 (l2.other (B' := w.heap.size) zv1 (.slice Ao (sortL rowKey rows).length co)) (sub44 3 zvz) 0 (.int .i64 0); have r3 := Kd.R_set r2 ((l3.other (B' := w.heap.size) zv1 (.slice Ao (sortL rowKey rows).length co)).other (B' := w.heap.size + 1) zv1 (.int .i64 0)) (sub44 23 zvz) 0 (.int .i64 0); have hb := (((Below.refl w.heap.size W1).setCell (p := ⟨w.heap.size, 0, none⟩) (Nat.le_refl _) (.slice Ao (sortL rowKey rows).length co)).setCell (p := ⟨w.heap.size + 1, 0, none⟩) zv10 (.int .i64 0)).setCell (p := ⟨w.heap.size + 1 + 1, 0, none⟩) zv3p (.int .i64 0)
  have hK2 : (((W1.setCell ⟨w.heap.size, 0, none⟩ (.slice Ao (sortL rowKey rows).length co)).setCell ⟨w.heap.size + 1, 0, none⟩ (.int .i64 0)).setCell ⟨w.heap.size + 1 + 1, 0, none⟩ (.int .i64 0)).heap[D]? = some (.deferred (some [])) := by
   rw [Below.heap_setCell _ _ _ _ (by show D ≠ w.heap.size + 1 + 1; omega), Below.heap_setCell _ _ _ _ (by show D ≠ w.heap.size + 1; omega), Below.heap_setCell _ _ _ _ (by show D ≠ w.heap.size; omega)]; exact hKD
  have q1 := k1.kept (grownBy_putObj' _ D (.deferred none)) zv3b; have q2 := k2.kept (grownBy_putObj' _ D (.deferred none)) zv3b; have q3 := k3.kept (grownBy_putObj' _ D (.deferred none)) zv3b; refine ⟨by simp, .inl ⟨_, _, rfl, run_takeDeferred hK2, ?_⟩⟩; refine ⟨_, res32 _ _ _ _ _ rfl rfl rfl q1 q2 q3, ?_⟩; rw [HRES.out]; refine ⟨_, rfl, ?_, ?_⟩
  ·refine Kd.R_mono (Kd.R_grown2 r3 rfl (grownBy_putObj' _ D _) fun k e e' => ?_) (fun _ _ => trivial); cases e; obtain ⟨cells, hk⟩ := Kd.R_typed r3 D e'.symm; rw [hK2] at hk; cases hk
  ·exact ((HBEL.out.trans (hb1.mono zv1)).trans hb).trans ((Below.refl _ _).grown (grownBy_putObj' _ D _) (by have := k1.lt; omega) (fun k e => by cases e; omega))
 case stop =>
  rintro D c pre W hD hp ⟨rfl, p, x, e1, e2, e3, e4, e5, e6, e7⟩ hK
  have hres : impX most [] (allL s) = ([], x.f0, errX most (rowsSo most p) x) := by
   obtain ⟨r, hr⟩ := hp; rw [← hr, e1, List.append_assoc]; exact bad_snoc e2 e3 r
  refine wpIn_wide.2 ?_; go_wp2; try rw [Exit.noGoto_ret]
  have hDl := blk_lt hK; have q1 := e4.kept (grownBy_putObj' _ D (.deferred none)) zv3b; have q2 := e5.kept (grownBy_putObj' _ D (.deferred none)) zv3b; have q3 := e6.kept (grownBy_putObj' _ D (.deferred none)) zv3b; refine ⟨by simp, .inl ⟨_, _, rfl, run_takeDeferred hK, ?_⟩⟩; refine ⟨_, res32 _ _ _ _ _ rfl rfl rfl q1 q2 q3, ?_⟩; rw [hres]; exact ⟨_, rfl, Kd.R_nil _ _ _ _ _, e7.trans ((Below.refl _ W).grown (grownBy_putObj' W D _) (by have := e4.lt; omega) (fun k e => by cases e; omega))⟩
theorem three_boxes (x y z : Value) (w : World) : Boxed (((w.alloc (.cells #[x] 34)).alloc (.cells #[y] 3)).alloc (.cells #[z] 23)) w.heap.size 34 x ∧ Boxed (((w.alloc (.cells #[x] 34)).alloc (.cells #[y] 3)).alloc (.cells #[z] 23)) (w.heap.size + 1) 3 y ∧ Boxed (((w.alloc (.cells #[x] 34)).alloc (.cells #[y] 3)).alloc (.cells #[z] 23)) (w.heap.size + 1 + 1) 23 z := by
 have b1 := blk_new w (.cells #[x] 34); have b2 := blk_new (w.alloc (.cells #[x] 34)) (.cells #[y] 3); have b3 := blk_new ((w.alloc (.cells #[x] 34)).alloc (.cells #[y] 3)) (.cells #[z] 23); rw [World.size_alloc] at b2; rw [World.size_alloc, World.size_alloc] at b3; exact ⟨zRf (zRf b1 _) _, zRf b2 _, b3⟩
set_option maxHeartbeats 4000000 in
set_option maxRecDepth 100000 in
theorem import_high (s : ByteArray) (h : Int) (hb : h < 0 ∨ 10 < h) (w : World) :
  CallsIn Fence.wide 5 Tryd.prog 32 #[.string s, .int .i64 h] w fun e W' => ∃ v, e = .returned (.tuple #[v, .int .i64 0, .int .i64 120]) ∧ Kd.R k44 44 W' w.heap.size (fun _ => True) v [] ∧ Below w.heap.size w W' := by
 have mixed : Tryd.prog.follows .mixedOrders = true := by kernel_rfl
 refine callsIn_of_wp_marks Tryd.func32 rfl trivial ?_ rfl; simp only [Tryd.ntmps32, List.size_toArray, List.length_cons, List.length_nil, Nat.reduceAdd, Nat.reduceSub, Array.replicate_succ, Array.replicate_zero, List.push_toArray, List.append_toArray, List.nil_append, List.cons_append]; refine wpIn_wide.2 ?_
 go_wp2_with (first | (go_at_call 69; (with_reducible refine (opened_bad h hb _).mono ?_); rintro e W1 ⟨rfl, rfl⟩))
 obtain ⟨q1, q2, q3⟩ := three_boxes (.slice none 0 0) (.int .i64 0) (.int .i64 120) w; exact ⟨_, res32 _ _ _ _ _ rfl rfl rfl (q1.alloc _) (q2.alloc _) (q3.alloc _), _, rfl, Kd.R_nil _ _ _ _ _, zRe (zRe (zRe (zRe (Below.refl _ _) _) _) _) _⟩
set_option maxHeartbeats 4000000 in
set_option maxRecDepth 100000 in
theorem import_long (s : ByteArray) (hs : 65536 < s.size) (h : Nat) (hh : h ≤ 10) (w : World) :
  CallsIn Fence.wide 5 Tryd.prog 32 #[.string s, .int .i64 (h : Int)] w fun e W' => ∃ v, e = .returned (.tuple #[v, .int .i64 0, .int .i64 3]) ∧ Kd.R k44 44 W' w.heap.size (fun _ => True) v [] ∧ Below w.heap.size w W' := by
 have mixed : Tryd.prog.follows .mixedOrders = true := by kernel_rfl
 have hlen : decide ((65536 : Int) < (s.size : Int)) = true := decide_eq_true zv1; refine callsIn_of_wp_marks Tryd.func32 rfl trivial ?_ rfl; simp only [Tryd.ntmps32, List.size_toArray, List.length_cons, List.length_nil, Nat.reduceAdd, Nat.reduceSub, Array.replicate_succ, Array.replicate_zero, List.push_toArray, List.append_toArray, List.nil_append, List.cons_append]; refine wpIn_wide.2 ?_; obtain ⟨most, hmost⟩ : ∃ m : Int, ((2 ^ h : Nat) : Int) = m := ⟨_, rfl⟩
 have HM := Aside0.mk hmost; clear hmost
 go_wp2_with (first | (go_at_call 69; (with_reducible refine (opened_m h hh most HM.out _).mono ?_); rintro e W1 ⟨rfl, rfl⟩))
 obtain ⟨q1, q2, q3⟩ := three_boxes (.slice none 0 0) (.int .i64 0) (.int .i64 3) w; exact ⟨_, res32 _ _ _ _ _ rfl rfl rfl (((q1.alloc _).alloc _).alloc _) (((q2.alloc _).alloc _).alloc _) (((q3.alloc _).alloc _).alloc _), _, rfl, Kd.R_nil _ _ _ _ _, zRe (zRe (zRe (zRe (zRe (zRe (Below.refl _ _) _) _) _) _) _) _⟩
theorem ledger_Import.calls (a0 : ByteArray) (a1 : Int) (r1 : List S44) (r2 r3 : Int) (w : World) (hG : GT w) (h : ledger_Import.f a0 a1 = some (r1, r2, r3)) :
  Calls Tryd.prog 32 #[.string a0, .int .i64 a1] w fun e w' => ∃ v0_ : Value, e = .returned (.tuple #[v0_, .int .i64 r2, .int .i64 r3]) ∧ Kd.R k44 44 w' w.heap.size (fun _ => True) v0_ r1 ∧ Below w.heap.size w w' := by
 unfold ledger_Import.f at h
 split at h
 ·rename_i hc
  have e := Option.some.inj h
  by_cases hb : a1 < 0 ∨ 10 < a1
  ·rw [importOf_bad a0 a1 hb] at e; obtain ⟨rfl, e2⟩ := Prod.mk.inj e; obtain ⟨rfl, rfl⟩ := Prod.mk.inj e2; exact callsIn_wide.1 (import_high a0 a1 hb w)
  ·obtain ⟨m, rfl⟩ : ∃ m : Nat, a1 = (m : Int) := ⟨a1.toNat, zv1⟩
   by_cases hs : 65536 < a0.size
   ·unfold importOf at e; rw [if_neg hb, if_pos hs] at e; obtain ⟨rfl, e2⟩ := Prod.mk.inj e; obtain ⟨rfl, rfl⟩ := Prod.mk.inj e2; exact callsIn_wide.1 (import_long a0 hs m zv1 w)
   ·rw [importOf_ok a0 _ hb zv1, Int.toNat_natCast, ← impX_lines] at e; obtain ⟨rfl, e2⟩ := Prod.mk.inj e; have q := callsIn_wide.1 (import_is a0 zv1 m zv1 w hG); unfold allL at q; rw [e2] at q; exact q
 ·cases h
end Go.Proofs.YtpkjpiphjdpegaaDoor.P
