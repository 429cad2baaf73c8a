/- A program of this session wrote this text out of the session's own texts. (part 15 of 20) -/
import Derived.Test.YtpkjpiphjdpegaaDoorCLinesTells13
import Derived.Maps.OwnIn
namespace Go.Proofs.YtpkjpiphjdpegaaDoor.P
open Go.RowKit Go.Shelf Go.Proofs.YtpkjpiphjdpegaaDoor.RF Go.Proofs.YtpkjpiphjdpegaaDoorW.PrintWords
attribute [local go_sem] Oper.semAt_some
set_option linter.unusedVariables false
set_option linter.unusedSimpArgs false
def lineC (x : S56) : Array Value := #[.int .i64 x.f0, .string x.f1, .int .u8 x.f2, .int .i64 x.f3]
theorem cells_new (W : World) (cs : Array Value) (t : TypeId) : ∀ (j : Nat) u, cs.toList[j]? = some u → (W.alloc (.cells cs t)).cell? ((⟨W.heap.size, 0, none⟩ : Addr).add j) = some u := by
  intro j u hj
  have ea : (⟨W.heap.size, 0, none⟩ : Addr).add j = ⟨W.heap.size, j, none⟩ := by
    unfold Addr.add
    by_cases z : j = 0
    · rw [if_pos z, z]
    · rw [if_neg z, Nat.zero_add]
  have hn : (W.alloc (.cells cs t)).heap[W.heap.size]? = some (.cells cs t) := World.alloc_heap_new W _
  rw [ea]
  unfold World.cell?
  simp only [hn]
  simpa using hj
def CoI (B Bx n₀ : Nat) (w : World) (pre : List S56) (W : World) : Prop :=
  (∃ v, Boxed W B 53 v ∧ Kd.R k56 56 W n₀ (fun k => k ≠ Bx) v pre) ∧ Below n₀ w W
theorem coI_ab (B Bx n₀ : Nat) (w : World) (hn : n₀ ≤ w.heap.size) (hx : n₀ ≤ Bx) (hB : n₀ ≤ B) (hne : B ≠ Bx) (C : Nat) (hC : n₀ ≤ C) : AbX Bx C (CoI B Bx n₀ w) := by
  rintro s W W' row ⟨⟨v, hv, hr⟩, hb⟩ hg hrow
  have key : ∀ (k : Nat) cells t, W.heap[k]? = some (.cells cells t (0, 0)) → k ≠ Bx → some k ≠ row := fun k cells t hk hkx e => by
    rcases hrow k e.symm with h | ⟨_, o, ho, hc⟩
    · exact hkx h
    · rw [hk] at ho; cases ho; cases hc
  refine ⟨⟨v, hv.kept hg (key B _ _ hv hne), Kd.R_grown2 hr rfl hg fun k e e' => ?_⟩, abX_below hn hC hx () W W' row hb hg hrow⟩
  obtain ⟨cells, hk⟩ := Kd.R_typed hr k e'.symm
  exact key k _ _ hk (hr.1 k e'.symm) e.symm
theorem info56 : (Tryd.prog.info? 56).map (fun i => (i.zero, i.size, i.bytes)) = some (some (.agg #[.int .i64 0, .string ⟨#[]⟩, .int .u8 0, .int .i64 0]), 4, 40) := by kernel_rfl
set_option maxHeartbeats 4000000 in
set_option maxRecDepth 100000 in
theorem appendSeq_in (n : Nat) (hn : 3 ≤ n) (Bx n₀ : Nat) (s : ByteArray) (hs : s.size ≤ 1000000000) (w w0 : World) (hG : GT w0) (h0 : w0.heap.size ≤ n₀) (hb0 : Below n₀ w0 w) (hxB : n₀ ≤ Bx) (hlt : Bx < w.heap.size)
    (hBx : Boxed w Bx 9 (.string s)) :
    CallsIn Fence.wide n Tryd.prog 101 #[.slice none 0 0, .func (.func 73) #[] #[.pointer (some ⟨Bx, 0, none⟩)]] w fun e W' => ∃ v, e = .returned v ∧ Kd.R k56 56 W' n₀ (fun k => k ≠ Bx) v (allL s) ∧ Below n₀ w W' := by
  have h1 : 1 ≤ n := by omega
  refine callsIn_of_wp_marks Tryd.func101 rfl trivial ?_ rfl
  simp only [Tryd.ntmps101, List.size_toArray, List.length_cons, List.length_nil, Nat.reduceAdd, Nat.reduceSub, Array.replicate_succ, Array.replicate_zero, List.push_toArray, List.append_toArray, List.nil_append, List.cons_append]
  gi_wp2
  have bB := Boxed.new w 53 (.slice none 0 0)
  have hbx1 := hBx.alloc (.cells #[.slice none 0 0] 53)
  have hB1 : Below n₀ w (w.alloc (.cells #[.slice none 0 0] 53)) := (Below.refl n₀ w).alloc (by omega) _
  refine range_own (Bx := Bx) (by simp; omega) rfl h1 (gf := 73) (lb := #[.pointer (some ⟨Bx, 0, none⟩)]) rfl trivial (enters_of Tryd.func73 (by kernel_rfl) rfl)
    (each_stops (n - 1) (by omega) Bx n₀ s hs _ w0 hG h0 (hb0.trans hB1) hxB (by simp; omega) hbx1)
    (fun h k => ⟨h.1.trans k.1, k.2.trans h.2⟩) (fun W l o o' hl ho hc hw => ⟨(Below.refl n₀ W).grown (grownBy_putObj' W l o') (by have := (Array.getElem?_eq_some_iff.1 ho).1; simp at hl; omega) (fun k e => by cases e; simp at hl; omega), World.putObj_heap_other (by simp at hl; omega)⟩) (Below.refl _ _) (fun _ => rfl)
    (CoI w.heap.size Bx n₀ w)
    (fun _ _ _ => False)
    (coI_ab _ _ _ _ (by omega) hxB (by omega) (by omega) _ (by simp; omega)) (fun _ => abX_false _ _)
    ⟨⟨_, bB, Kd.R_nil _ _ _ _ _⟩, hB1⟩
    (fun x a' W => ∃ Bv, w.heap.size < Bv ∧ W.heap[Bv]? = some (.cells (lineC x) 56 (0, 0)) ∧ a' = { tmps := #[.slice none 0 0, .func (.func 73) #[] #[.pointer (some ⟨Bx, 0, none⟩)], .pointer (some ⟨w.heap.size, 0, none⟩), undef, .slice none 0 0, .pointer (some ⟨Bv, 0, none⟩), .func (.func 73) #[] #[.pointer (some ⟨Bx, 0, none⟩)], lineV x, undef, undef, undef, undef, undef], defers := [] })
    (fun x a' s W W' row hs hg hr => by
      obtain ⟨Bv, q1, q2, q3⟩ := hs
      exact ⟨Bv, q1, abX_block (β := Unit) (b := Bv) (Bx := Bx) (B := (w.alloc (.cells #[.slice none 0 0] 53)).heap.size) (fun _ => .cells (lineC x) 56 (0, 0)) (fun _ => rfl) (by omega) () W W' row q2 hg hr, q3⟩)
    ?assign ?body ?done ?stop
  case assign =>
    intro l pre x W K hi hK
    unfold lineV at hK ⊢
    gi_wp2
    have hBW : n₀ ≤ W.heap.size := by have := hi.2.size; omega
    have hxW : Bx < W.heap.size := by have := hi.2.size; obtain ⟨⟨v, q, _⟩, _⟩ := hi; have := q.lt; omega
    have hwW : w.heap.size < W.heap.size := by obtain ⟨⟨v, q, _⟩, _⟩ := hi; exact q.lt
    exact hK _ _ ((KeepsOthers.alloc _ _).from _) ⟨(Below.refl _ W).alloc hBW _, (World.grownBy_alloc W _ none).block Bx hxW (by simp)⟩
      ((coI_ab _ _ _ _ (by omega) hxB (by omega) (by omega) n₀ (Nat.le_refl _)).alloc _ hi) ⟨W.heap.size, hwW, World.alloc_heap_new W _, rfl⟩
  case body =>
    rintro l pre x a' W hl ⟨r, hr⟩ ⟨⟨v, hv, hO⟩, hBel⟩ ⟨Bv, hBv, hcv, rfl⟩ hlen
    have hv1 := hv.cell
    have hf1 := hv.frozen
    have hlen2 : (allL s).length ≤ 1000000001 := by
      have e1 := linesL_len (splitB s.data.toList) 1
      have e2 := splitB_len s.data.toList
      have e3 : s.data.toList.length = s.size := by simp
      unfold allL
      omega
    have c0 : W.cell? ⟨Bv, 0, none⟩ = some (.int .i64 x.f0) := by simp [World.cell?, hcv, lineC]
    have c1 : W.cell? ⟨Bv, 1, none⟩ = some (.string x.f1) := by simp [World.cell?, hcv, lineC]
    have c2 : W.cell? ⟨Bv, 2, none⟩ = some (.int .u8 x.f2) := by simp [World.cell?, hcv, lineC]
    have c3 : W.cell? ⟨Bv, 3, none⟩ = some (.int .i64 x.f3) := by simp [World.cell?, hcv, lineC]
    unfold lineV
    obtain ⟨i0, hi, hz0, hz1, hz2⟩ := info_parts info56
    have hW : n₀ ≤ W.heap.size := by have := hBel.size; omega
    have hWB : Bx < W.heap.size := by have := hv.lt; omega
    have hBv' : Bv < W.heap.size := (Array.getElem?_eq_some_iff.1 hcv).1
    obtain ⟨h00, inner, hown, hreps⟩ := Kd.R_alloc hO (.cells (lineC x) 56)
    have hcn := cells_new W (lineC x) 56
    unfold lineC at hown hcn
    gi_wp2_with (gi_at_builtin; apply Classical.byContradiction; intro hNOT)
    apply hNOT
    clear hNOT
    refine wpListIn_append_own_at _ rfl _ _ 53 rfl n₀ 56 i0 _ 4 40 Tryd.underlying53 hi hz0 hz1 hz2 rfl (by decide) _ _ _ rfl hown ⟨W.heap.size, 0, none⟩ 1 1 _ rfl rfl hcn (by simp [Value.oneCell']) (by unfold maxLen; omega) (by omega) (by simp; omega) ?_
    intro v' w1 hown' hgrow _ hat
    obtain ⟨g', cap', rfl⟩ := ownsRow_succ hown'
    have hBlk : some w.heap.size ≠ v.ownBlock := Kd.R_ne hO hv (by decide)
    have hv1' : Boxed w1 w.heap.size 53 v := (hv.alloc _).kept hgrow hBlk
    have hc1 := hv1'.cell
    have hfr1 := hv1'.frozen
    have hO1 : Kd.R k56 56 w1 n₀ (fun k => k ≠ Bx) _ (pre ++ [x]) :=
      Kd.R_appended h00 hreps (k56_mkM _ n₀ (fun _ => False) x) (fun _ hk => hk.elim) (fun k hk => by simp at hk; omega) hown' hgrow (hat.imp_right fun h => ⟨_, h, Nat.le_refl _⟩)
    have hB2 : some w.heap.size ≠ (Value.slice (some ⟨g', 0, none⟩) (pre.length + 1) cap').ownBlock := Kd.R_ne hO1 hv1' (by decide)
    have hty := Kd.R_typed (Kd.R_alloc hO (.cells (lineC x) 56))
    have hbs := Kd.R_base hO
    have hbx : some Bx ≠ v.ownBlock := fun e => hO.1 Bx e.symm rfl
    have hsz1 := hgrow.size
    gi_wp2
    refine ⟨?_, ⟨?_, ?_⟩, ⟨⟨_, hv1'.set _, ?_⟩, ?_⟩⟩
    · refine (((KeepsOthers.alloc W _).trans (KeepsOthers.of_grownBy hgrow fun j o ej hj => ?_)).trans (KeepsOthers.setCell _ _ _)).from _
      obtain ⟨cells, hk⟩ := hty j ej
      have hj' := hk.symm.trans hj
      cases hj'
      rfl
    · exact (((Below.refl n₀ W).alloc hW _).grown hgrow (by simp; omega) (fun j ej => hbs j ej)).setCell (p := ⟨w.heap.size, 0, none⟩) (by simp; omega) _
    · rw [Below.heap_setCell _ _ _ _ (by simp; omega), hgrow.block Bx (by simp; omega) hbx]
      exact (World.grownBy_alloc W _ none).block Bx hWB (by simp)
    · exact Kd.R_grown2 hO1 rfl (grownBy_setCell' w1 w.heap.size _) (fun k e => by cases e; exact hB2)
    · exact hBel.trans ((((Below.refl n₀ W).alloc hW _).grown hgrow (by simp; omega) (fun j ej => hbs j ej)).setCell (p := ⟨w.heap.size, 0, none⟩) (by simp; omega) _)
  case done =>
    rintro D ys W _ rfl ⟨⟨v, hv, hO⟩, hBel⟩ hK
    have hv1 := hv.cell
    have hf1 := hv.frozen
    gi_wp2
    refine ⟨by simp, .inl ⟨_, _, rfl, run_takeDeferred hK, ?_⟩⟩
    refine ⟨_, results_tmp rfl _ _ _, ⟨_, rfl, ?_, ?_⟩⟩
    · refine Kd.R_grown2 hO rfl (grownBy_putObj' W D _) fun k e e' => ?_
      cases e
      obtain ⟨cells, hk⟩ := Kd.R_typed hO D e'.symm
      rw [hK] at hk
      cases hk
    · exact hBel.trans ((Below.refl n₀ W).grown (grownBy_putObj' W D _) (by have := hBel.size; omega) (fun k e => by cases e; rename_i hD; simp at hD; omega))
  case stop =>
    rintro D c pre W _ _ h _
    exact h.elim
def lines_All.f (a0 : ByteArray) : Option (List S56) := if a0.size ≤ 1000000000 then some (allL a0) else none
theorem each_call (s : ByteArray) (w : World) : Calls Tryd.prog 38 #[.string s] w fun e w' => e = .returned (.func (.func 73) #[] #[.pointer (some ⟨w.heap.size, 0, none⟩)]) ∧ w' = w.alloc (.cells #[.string s] 9) :=
  callsIn_wide.1 (each_in 5 s w)
theorem collect_call (Bx n₀ : Nat) (s : ByteArray) (hs : s.size ≤ 1000000000) (w w0 : World) (hG : GT w0) (h0 : w0.heap.size ≤ n₀) (hb0 : Below n₀ w0 w) (hxB : n₀ ≤ Bx) (hlt : Bx < w.heap.size)
    (hBx : Boxed w Bx 9 (.string s)) :
    Calls Tryd.prog 71 #[.func (.func 73) #[] #[.pointer (some ⟨Bx, 0, none⟩)]] w fun e W' => ∃ v, e = .returned v ∧ Kd.R k56 56 W' n₀ (fun k => k ≠ Bx) v (allL s) ∧ Below n₀ w W' := by
  have C := callsIn_wide.1 (appendSeq_in 5 (by omega) Bx n₀ s hs w w0 hG h0 hb0 hxB hlt hBx)
  go_enter Tryd.func71, Tryd.ntmps71
  go_wp2_with (first | (go_at_call 101; (with_reducible refine C.mono ?_); rintro e W1 ⟨v, rfl, hR, hb⟩))
  go_ret
  exact ⟨_, rfl, hR, hb⟩
theorem lines_All.calls (a0 : ByteArray) (r : List S56) (w : World) (hG : GT w) (h : lines_All.f a0 = some r) :
    Calls Tryd.prog 34 #[.string a0] w fun e w' => ∃ v0_ : Value, e = .returned v0_ ∧ Kd.R k56 56 w' w.heap.size (fun _ => True) v0_ r ∧ Below w.heap.size w w' := by
  unfold lines_All.f at h
  split at h
  · rename_i hs
    obtain rfl := Option.some.inj h
    have hB := (Below.refl w.heap.size w).alloc (Nat.le_refl _) (.cells #[.string a0] 9)
    have C := collect_call w.heap.size w.heap.size a0 hs (w.alloc (.cells #[.string a0] 9)) w hG (Nat.le_refl _) hB (Nat.le_refl _) (by simp) (Boxed.new w 9 _)
    go_enter Tryd.func34, Tryd.ntmps34
    go_wp2_with (first | (go_at_call 38; (with_reducible refine (each_call a0 _).mono ?_); rintro e W1 ⟨rfl, rfl⟩) | (go_at_call 71; (with_reducible refine C.mono ?_); rintro e W1 ⟨v, rfl, hR, hb⟩))
    go_ret
    exact ⟨_, rfl, Kd.R_mono hR (fun _ _ => trivial), hB.trans hb⟩
  · cases h
end Go.Proofs.YtpkjpiphjdpegaaDoor.P
