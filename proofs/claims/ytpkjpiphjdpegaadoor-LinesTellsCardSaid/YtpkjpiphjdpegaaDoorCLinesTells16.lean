/- A program of this session wrote this text out of the session's own texts. (part 16 of 20) -/
import Derived.Test.YtpkjpiphjdpegaaDoorCLinesTells15
namespace Go.Proofs.YtpkjpiphjdpegaaDoor.P
open Go.RowKit Go.Shelf Go.Proofs.YtpkjpiphjdpegaaDoor.RF Go.Proofs.YtpkjpiphjdpegaaDoorW.PrintWords
attribute [local go_sem] Oper.semAt_some
set_option linter.unusedVariables false
set_option linter.unusedSimpArgs false
def checkL : List S56 → Int × Int
  | [] => (0, 0)
  | x :: r => if x.f3 = 0 then checkL r else (x.f0, x.f3)
theorem checkL_none : ∀ l : List S56, (∀ x ∈ l, x.f3 = 0) → checkL l = (0, 0)
  | [], _ => rfl
  | x :: r, h => by rw [checkL, if_pos (h x (List.mem_cons_self ..)), checkL_none r fun y hy => h y (List.mem_cons_of_mem _ hy)]
theorem checkL_some : ∀ (p : List S56) (x : S56) (r : List S56), (∀ y ∈ p, y.f3 = 0) → x.f3 ≠ 0 → checkL (p ++ x :: r) = (x.f0, x.f3)
  | [], x, r, _, hx => by rw [List.nil_append, checkL, if_neg hx]
  | y :: p, x, r, h, hx => by rw [List.cons_append, checkL, if_pos (h y (List.mem_cons_self ..)), checkL_some p x r (fun z hz => h z (List.mem_cons_of_mem _ hz)) hx]
def lines_Check.f (a0 : ByteArray) : Option (Int × Int) := if a0.size ≤ 1000000000 then some (checkL (allL a0)) else none
theorem boxed_ab {β : Type} (Bx B b : Nat) (t : TypeId) (f : β → Value) (hne : b ≠ Bx) : AbX Bx B (fun (s : β) W => Boxed W b t (f s)) :=
  abX_block (fun s => .cells #[f s] t (0, 0)) (fun _ => rfl) hne
theorem cells2 (tmps : Array Value) (w : World) (B B' : Nat) (h1 : tmps[2]? = some (.pointer (some ⟨B, 0, none⟩))) (h2 : tmps[3]? = some (.pointer (some ⟨B', 0, none⟩))) {x y : Value} (q1 : Boxed w B 3 x) (q2 : Boxed w B' 23 y) :
    (results Tryd.f39 tmps).run Tryd.prog w = .ok (.tuple #[x, y]) w := by
  have hr : Tryd.f39.results = #[.cell 2 3, .cell 3 23] := rfl
  have c1 := q1.cell
  have c2 := q2.cell
  have g1 : tmps[2]?.getD undef = .pointer (some ⟨B, 0, none⟩) := by rw [h1]; rfl
  have g2 : tmps[3]?.getD undef = .pointer (some ⟨B', 0, none⟩) := by rw [h2]; rfl
  simp [results, hr, g1, g2, asAddr, go_sem, c1, c2]
set_option maxHeartbeats 4000000 in
set_option maxRecDepth 100000 in
theorem check_in (n : Nat) (hn : 5 ≤ n) (s : ByteArray) (hs : s.size ≤ 1000000000) (w : World) (hG : GT w) :
    CallsIn Fence.wide n Tryd.prog 39 #[.string s] w fun e W' => e = .returned (.tuple #[.int .i64 (checkL (allL s)).1, .int .i64 (checkL (allL s)).2]) ∧ Below w.heap.size w W' := by
  have h1 : 1 ≤ n := by omega
  have mixed : Tryd.prog.follows .mixedOrders = true := by kernel_rfl
  refine callsIn_of_wp_marks Tryd.func39 rfl trivial ?_ rfl
  simp only [Tryd.ntmps39, List.size_toArray, List.length_cons, List.length_nil, Nat.reduceAdd, Nat.reduceSub, Array.replicate_succ, Array.replicate_zero, List.push_toArray, List.append_toArray, List.nil_append, List.cons_append]
  gi_wp2_with (first | (refine ⟨trivial, ?_⟩; gi_at_call 38; refine (each_in _ s _).mono ?_; rintro e w' ⟨rfl, rfl⟩))
  have b2 := Boxed.new w 3 (.int .i64 0)
  have b3 := Boxed.new (w.alloc (.cells #[.int .i64 0] 3)) 23 (.int .i64 0)
  have bX := Boxed.new ((w.alloc (.cells #[.int .i64 0] 3)).alloc (.cells #[.int .i64 0] 23)) 9 (.string s)
  have b2' := (b2.alloc (.cells #[.int .i64 0] 23)).alloc (.cells #[.string s] 9)
  have b3' := b3.alloc (.cells #[.string s] 9)
  simp only [World.size_alloc] at b3 b3' bX
  have hB1 : Below w.heap.size w (((w.alloc (.cells #[.int .i64 0] 3)).alloc (.cells #[.int .i64 0] 23)).alloc (.cells #[.string s] 9)) := (((Below.refl _ w).alloc (Nat.le_refl _) _).alloc (by simp) _).alloc (by simp; omega) _
  have hsz : (((w.alloc (.cells #[.int .i64 0] 3)).alloc (.cells #[.int .i64 0] 23)).alloc (.cells #[.string s] 9)).heap.size = w.heap.size + 3 := by simp
  obtain ⟨W0, hW0⟩ : ∃ W0, (((w.alloc (.cells #[.int .i64 0] 3)).alloc (.cells #[.int .i64 0] 23)).alloc (.cells #[.string s] 9)) = W0 := ⟨_, rfl⟩
  rw [hW0] at b2' b3' bX hB1 hsz ⊢
  clear b2 b3 hW0
  refine range_own (Bx := w.heap.size + 2) (by omega) rfl h1 (gf := 73) (lb := #[.pointer (some ⟨w.heap.size + 2, 0, none⟩)]) rfl trivial (enters_of Tryd.func73 (by kernel_rfl) rfl)
    (each_stops (n - 1) (by omega) (w.heap.size + 2) w.heap.size s hs W0 w hG (Nat.le_refl _) hB1 (by omega) (by omega) bX)
    (fun h k => ⟨h.1.trans k.1, k.2.trans h.2⟩) (fun W l o o' hl ho hc hw => ⟨(Below.refl _ W).grown (grownBy_putObj' W l o') (by have := (Array.getElem?_eq_some_iff.1 ho).1; omega) (fun k e => by cases e; omega), World.putObj_heap_other (by omega)⟩) (Below.refl _ _) (fun _ => rfl)
    (fun pre W => (Boxed W w.heap.size 3 (.int .i64 0) ∧ Boxed W (w.heap.size + 1) 23 (.int .i64 0) ∧ Below w.heap.size w W ∧ W0.heap.size ≤ W.heap.size) ∧ ∀ x ∈ pre, x.f3 = 0)
    (fun c pre W => (c = .ret ∧ ∃ p x, pre = p ++ [x] ∧ (∀ y ∈ p, y.f3 = 0) ∧ x.f3 ≠ 0 ∧ Boxed W w.heap.size 3 (.int .i64 x.f0) ∧ Boxed W (w.heap.size + 1) 23 (.int .i64 x.f3) ∧ Below w.heap.size w W))
    (AbX.and (AbX.and (boxed_ab _ _ _ _ (fun _ => .int .i64 0) (by omega)) (AbX.and (boxed_ab _ _ _ _ (fun _ => .int .i64 0) (by omega)) (AbX.and (abX_below (Nat.le_refl _) (by omega) (by omega)) (abX_size _ _ _)))) (abX_pure _ _ (fun pre : List S56 => ∀ x ∈ pre, x.f3 = 0)))
    (fun c s' W W' row hh hg hr => by
      obtain ⟨rfl, p, x, e1, e2, e3, e4, e5, e6⟩ := hh
      exact ⟨rfl, p, x, e1, e2, e3, boxed_ab (β := Unit) _ W0.heap.size _ _ (fun _ => .int .i64 x.f0) (by omega) () W W' row e4 hg hr, boxed_ab (β := Unit) _ W0.heap.size _ _ (fun _ => .int .i64 x.f3) (by omega) () W W' row e5 hg hr, abX_below (β := Unit) (Nat.le_refl _) (by omega) (by omega) () W W' row e6 hg hr⟩)
    ⟨⟨b2', b3', hB1, Nat.le_refl _⟩, by simp⟩
    (fun x a' W => ∃ Bv, w.heap.size + 2 < Bv ∧ W.heap[Bv]? = some (.cells (lineC x) 56 (0, 0)) ∧ a' = { tmps := #[.string s, undef, .pointer (some ⟨w.heap.size, 0, none⟩), .pointer (some ⟨w.heap.size + 1, 0, none⟩), .pointer (some ⟨Bv, 0, none⟩), .string s, .func (.func 73) #[] #[.pointer (some ⟨w.heap.size + 2, 0, none⟩)], lineV x, undef, undef, undef, undef, undef, undef, undef], defers := [] })
    (fun x a' s' W W' row hs hg hr => by
      obtain ⟨Bv, q1, q2, q3⟩ := hs
      exact ⟨Bv, q1, abX_block (β := Unit) (b := Bv) (Bx := w.heap.size + 2) (B := W0.heap.size) (fun _ => .cells (lineC x) 56 (0, 0)) (fun _ => rfl) (by omega) () W W' row q2 hg hr, q3⟩)
    ?assign ?body ?done ?stop
  case assign =>
    intro l pre x W K hi hK
    unfold lineV at hK ⊢
    gi_wp2
    obtain ⟨⟨i1, i2, i3, i5⟩, i4⟩ := hi
    exact hK _ _ ((KeepsOthers.alloc _ _).from _) ⟨(Below.refl _ W).alloc (by omega) _, (World.grownBy_alloc W _ none).block (w.heap.size + 2) (by omega) (by simp)⟩
      ⟨⟨i1.alloc _, i2.alloc _, i3.alloc (by omega) _, by simp; omega⟩, i4⟩ ⟨W.heap.size, by omega, World.alloc_heap_new W _, rfl⟩
  case body =>
    rintro l pre x a' W hl ⟨r, hr⟩ ⟨⟨i1, i2, i3, i5⟩, i4⟩ ⟨Bv, hBv, hcv, rfl⟩ hlen
    have c0 : W.cell? ⟨Bv, 0, none⟩ = some (.int .i64 x.f0) := by simp [World.cell?, hcv, lineC]
    have c3 : W.cell? ⟨Bv, 3, none⟩ = some (.int .i64 x.f3) := by simp [World.cell?, hcv, lineC]
    have j1 := i1.cell
    have j2 := i1.frozen
    have j3 := i2.cell
    have j4 := i2.frozen
    unfold lineV
    by_cases hz : x.f3 = 0
    · have hz1 : (x.f3 != 0) = false := by simp [hz]
      gi_wp2
      exact ⟨KeepsFrom.refl _ _, ⟨Below.refl _ _, rfl⟩, ⟨i1, i2, i3, i5⟩, fun y hy => by
        rcases List.mem_append.1 hy with h | h
        · exact i4 y h
        · rw [List.mem_singleton.1 h]; exact hz⟩
    · have hz1 : (x.f3 != 0) = true := by simp [hz]
      gi_wp2
      gi_region_with_o fail
      all_goals gi_wp2
      all_goals exact ⟨(((KeepsOthers.setCell _ _ _).trans (KeepsOthers.setCell _ _ _)).trans (KeepsOthers.drew _)).from _, rfl, pre, x, rfl, i4, hz,
        ((i1.set _).other (by omega) _), ((i2.other (by omega) _).set _), i3.trans ((((Below.refl _ W).setCell (p := ⟨w.heap.size, 0, none⟩) (Nat.le_refl _) _).setCell (p := ⟨w.heap.size + 1, 0, none⟩) (by simp) _).drew)⟩
  case done =>
    rintro D ys W hD rfl ⟨⟨i1, i2, i3, i5⟩, i4⟩ hK
    have j1 := i1.cell
    have j2 := i1.frozen
    have j3 := i2.cell
    have j4 := i2.frozen
    gi_wp2
    rw [checkL_none _ i4]
    have k1 := (i1.set (.int .i64 0)).other (B' := w.heap.size + 1) (by omega) (.int .i64 0)
    have k2 := (i2.other (B' := w.heap.size) (by omega) (.int .i64 0)).set (.int .i64 0)
    have hK2 : ((W.setCell ⟨w.heap.size, 0, none⟩ (.int .i64 0)).setCell ⟨w.heap.size + 1, 0, none⟩ (.int .i64 0)).heap[D]? = some (.deferred (some [])) := by
      rw [Below.heap_setCell _ _ _ _ (by simp; omega), Below.heap_setCell _ _ _ _ (by simp; omega)]; exact hK
    have q1 := k1.kept (grownBy_putObj' _ D (.deferred none)) (by simp; omega)
    have q2 := k2.kept (grownBy_putObj' _ D (.deferred none)) (by simp; omega)
    refine ⟨by simp, .inl ⟨_, _, rfl, run_takeDeferred hK2, ?_⟩⟩
    refine ⟨_, cells2 _ _ _ _ rfl rfl q1 q2, rfl, ?_⟩
    exact i3.trans (((((Below.refl w.heap.size W).setCell (p := ⟨w.heap.size, 0, none⟩) (Nat.le_refl _) _).setCell (p := ⟨w.heap.size + 1, 0, none⟩) (by simp) _)).grown (grownBy_putObj' _ D _) (by have := i1.lt; simp; omega) (fun k e => by cases e; omega))
  case stop =>
    rintro D c pre W hD hp ⟨rfl, p, x, e1, e2, e3, e4, e5, e6⟩ hK
    gi_wp2
    have q1 := e4.kept (grownBy_putObj' _ D (.deferred none)) (by simp; omega)
    have q2 := e5.kept (grownBy_putObj' _ D (.deferred none)) (by simp; omega)
    have hc : checkL (allL s) = (x.f0, x.f3) := by
      obtain ⟨r, hr⟩ := hp
      rw [← hr, e1, List.append_assoc]
      exact checkL_some p x r e2 e3
    rw [hc]
    refine ⟨by simp, .inl ⟨_, _, rfl, run_takeDeferred hK, ?_⟩⟩
    refine ⟨_, cells2 _ _ _ _ rfl rfl q1 q2, rfl, ?_⟩
    exact e6.trans ((Below.refl _ W).grown (grownBy_putObj' W D _) (by have := e4.lt; omega) (fun k e => by cases e; omega))
theorem lines_Check.calls (a0 : ByteArray) (r1 r2 : Int) (w : World) (hG : GT w) (h : lines_Check.f a0 = some (r1, r2)) :
    Calls Tryd.prog 39 #[.string a0] w fun e w' => e = .returned (.tuple #[.int .i64 r1, .int .i64 r2]) ∧ Below w.heap.size w w' := by
  unfold lines_Check.f at h
  split at h
  · rename_i hs
    have e := Option.some.inj h
    have := callsIn_wide.1 (check_in 5 (by omega) a0 hs w hG)
    rw [e] at this
    exact this
  · cases h
end Go.Proofs.YtpkjpiphjdpegaaDoor.P
