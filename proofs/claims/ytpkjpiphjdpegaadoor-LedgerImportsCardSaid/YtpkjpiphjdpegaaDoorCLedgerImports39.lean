/- A program of this session wrote this text out of the session's own texts. (part 39 of 45) -/
import Derived.Test.YtpkjpiphjdpegaaDoorCLedgerImportsQ
import Derived.Test.YtpkjpiphjdpegaaDoorCLedgerImports38
namespace Go.Proofs.YtpkjpiphjdpegaaDoor.P
open Go.RowKit Go.Proofs.YtpkjpiphjdpegaaDoor.RF Go.Proofs.YtpkjpiphjdpegaaDoorW.PrintWords Go.Proofs.YtpkjpiphjdpegaaDoorW.PrintLast Go.Proofs.YtpkjpiphjdpegaaDoorW.PrintMore
open Go.Maps
set_option linter.unusedVariables false
set_option linter.unusedSimpArgs false
theorem cellA {w : World} {p : Addr} {v : Value} (o : Obj) (h : w.cell? p = some v) : (w.alloc o).cell? p = some v := (World.cell?_alloc_some _ _ _ (by rw [h]; rfl)).trans h
theorem cellD {w : World} {p : Addr} {v : Value} (h : w.cell? p = some v) : w.drew.cell? p = some v := h
theorem twice_b (Bb Pb Br B : Nat) (rows : List S44) (s : ByteArray) (hs : s.size ≤ maxLen) (w : World) (h0 : w.cell? ⟨Bb, 0, none⟩ = some (.pointer (some ⟨Pb, 0, none⟩))) (h1 : w.cell? ⟨Pb, 2, none⟩ = some (.map (some B))) (h2 : w.cell? ⟨Br, 0, none⟩ = some (.string s)) (hm : IdMap B rows w) :
  Calls Tryd.prog 99 #[.pointer (some ⟨Bb, 0, none⟩), .pointer (some ⟨Br, 0, none⟩)] w fun e w' => e = .returned (.bool (idIn rows s)) ∧ ∃ q, w' = w.drewN q := by
 obtain ⟨n, D, ho, _, _, hat⟩ := hm; refine (twice_is Bb Pb Br B n D s hs w h0 h1 h2 ho).mono ?_; rintro e w' ⟨c, hc, rfl, q, rfl⟩; rw [hat s] at hc; injection hc with hc
 injection hc with _ hc
 refine ⟨?_, q, rfl⟩; rw [← hc]; cases idIn rows s <;> rfl
def PutA (W0 : World) (Bn Be : Nat) (hi lo e : Int) (W : World) : Prop :=
 W.heap[Bn]? = some (.cells #[.int .u64 hi, .int .u64 lo] 42 (0, 0)) ∧ W.heap[Be]? = some (.cells #[.int .i64 e] 23 (0, 0)) ∧ Bn ≠ Be ∧ W0.heap.size ≤ Bn ∧ W0.heap.size ≤ Be ∧ Below W0.heap.size W0 W
def W2 (Pb : Nat) (id : ByteArray) (ya yb : Int) (W : World) : World := (W.alloc (.cells #[.pointer (some ⟨Pb, 0, none⟩)] 107)).alloc (.cells #[.string id, .int .u64 ya, .int .u64 yb] 44)
theorem w2_size (Pb : Nat) (id : ByteArray) (ya yb : Int) (W : World) : (W2 Pb id ya yb W).heap.size = W.heap.size + 2 := by simp [W2]
theorem w2_0 (Pb : Nat) (id : ByteArray) (ya yb : Int) (W : World) : (W2 Pb id ya yb W).heap[W.heap.size]? = some (.cells #[.pointer (some ⟨Pb, 0, none⟩)] 107 (0, 0)) := zRf (MapKept.heap_alloc W _).1 _
theorem w2_1 (Pb : Nat) (id : ByteArray) (ya yb : Int) (W : World) : (W2 Pb id ya yb W).heap[W.heap.size + 1]? = some (.cells #[.string id, .int .u64 ya, .int .u64 yb] 44 (0, 0)) := by
 have := (MapKept.heap_alloc (W.alloc (.cells #[.pointer (some ⟨Pb, 0, none⟩)] 107)) (.cells #[.string id, .int .u64 ya, .int .u64 yb] 44)).1
 rwa [World.size_alloc] at this
theorem w2_below (Pb : Nat) (id : ByteArray) (ya yb : Int) (W : World) : Below W.heap.size W (W2 Pb id ya yb W) := zRe (zRe (Below.refl _ _) _) _
theorem idx143_0 (a b c d e f : Value) (W : World) : (Instr.index 143 (.agg #[a, b, c, d, e, f]) (.int .i64 0)).run Tryd.prog W = .ok (.agg #[a, b]) W := by
 simp [Instr.index, run_underlying Tryd.underlying143, asIntOf, go_sem]
theorem idx143_1 (a b c d e f : Value) (W : World) : (Instr.index 143 (.agg #[a, b, c, d, e, f]) (.int .i64 1)).run Tryd.prog W = .ok (.agg #[c, d]) W := by
 simp [Instr.index, run_underlying Tryd.underlying143, asIntOf, go_sem]
theorem idx143_2 (a b c d e f : Value) (W : World) : (Instr.index 143 (.agg #[a, b, c, d, e, f]) (.int .i64 2)).run Tryd.prog W = .ok (.agg #[e, f]) W := by
 simp [Instr.index, run_underlying Tryd.underlying143, asIntOf, go_sem]
def PutPost (n0 Bx Pb B : Nat) (most : Int) (rows : List S44) (y : S44) (W : World) (e : Ending) (W' : World) : Prop :=
 e = .returned (.int .i64 (putErr most rows y)) ∧ (putErr most rows y ≠ 0 → Below W.heap.size W W') ∧ (putErr most rows y = 0 → Below n0 W W' ∧ Kept Bx Pb B W W' ∧ Book n0 Bx Pb B most (rows ++ [y]) W')
theorem post_bad {n0 Bx Pb B : Nat} {most : Int} {rows : List S44} {y : S44} {W W' : World} {k : Int} (h : putErr most rows y = k) (hk : k ≠ 0) (hb : Below W.heap.size W W') : PutPost n0 Bx Pb B most rows y W (.returned (.int .i64 k)) W' :=
 ⟨by rw [h], fun _ => hb, fun q => absurd (h.symm.trans q) hk⟩
theorem post_good {n0 Bx Pb B : Nat} {most : Int} {rows : List S44} {y : S44} {W W' : World} (h : putErr most rows y = 0) (h1 : Below n0 W W') (h2 : Kept Bx Pb B W W') (h3 : Book n0 Bx Pb B most (rows ++ [y]) W') : PutPost n0 Bx Pb B most rows y W (.returned (.int .i64 0)) W' :=
 ⟨by rw [h], fun q => absurd h q, fun _ => ⟨h1, h2, h3⟩⟩
def PutC (n0 Bx Pb B Bb Br Bn : Nat) (most : Int) (s : Int) (hi' lo' : Int) (rows : List S44) (y : S44) (w3 wx : World) : Prop :=
 (∃ v', wx.heap[Pb]? = some (bookO most v' B s) ∧ Kd.R k44 44 wx n0 (fun k => k ≠ Bx) v' (rows ++ [y])) ∧ IdMap B rows wx ∧
  wx.heap[Bb]? = some (.cells #[.pointer (some ⟨Pb, 0, none⟩)] 107 (0, 0)) ∧ wx.heap[Br]? = some (.cells #[.string y.f0, .int .u64 y.f1.f0, .int .u64 y.f1.f1] 44 (0, 0)) ∧ wx.heap[Bn]? = some (.cells #[.int .u64 hi', .int .u64 lo'] 42 (0, 0)) ∧ Below n0 w3 wx ∧ Kept Bx Pb B w3 wx
theorem idMap_grown {B : Nat} {rows : List S44} {X Y : World} {row : Option Nat} (h : IdMap B rows X) (hg : X.grownBy Y row) (hr : some B ≠ row) : IdMap B rows Y := by
 obtain ⟨n, D, ho, a, b, c⟩ := h; exact ⟨n, D, ho.kept hg hr, a, b, c⟩
theorem cellG {w w1 : World} {row : Option Nat} {p : Addr} {v : Value} (hg : w.grownBy w1 row) (h : w.cell? p = some v) (hne : some p.block ≠ row) : w1.cell? p = some v := (hg.cell_far p (World.block_lt_of_cell? w p h) hne).trans h
theorem setG (w : World) (b j : Nat) (v : Value) : w.grownBy (w.setCell ⟨b, j, none⟩ v) (some b) :=
 ⟨rfl, rfl, rfl, (KeepsWalks.setCell w _ v).size, fun k _ hk => Below.heap_setCell _ _ _ k (fun e => hk (by rw [e]))⟩
theorem map_block {B : Nat} {rows : List S44} {w : World} (h : IdMap B rows w) : ∃ es cl, w.heap[B]? = some (.map es cl) := by
 obtain ⟨n, D, ⟨es, cl, hb, _⟩, _⟩ := h; exact ⟨es, cl, hb⟩
theorem idMap_put {B : Nat} {rows : List S44} {Y : World} {n : Nat} {D : DataW Unit} {y : S44} (ho : Y.ownsMap Tryd.prog 9 (plainElem Tryd.prog 3) B (n + 1) (D.put (.string y.f0.data.toList) (.lit (.int .i64 1)))) (hn : n ≤ rows.length) (hm : Go.Maps.IsMap D)
  (hat : ∀ s : ByteArray, D.atKey (.string s.data.toList) (.lit (.int .i64 0)) = .lit (.int .i64 (if idIn rows s = true then 1 else 0))) : IdMap B (rows ++ [y]) Y := by
 refine ⟨n + 1, _, ho, by rw [List.length_append, List.length_singleton]; omega, hm.put _ _, fun s => ?_⟩; rw [idIn_snoc]
 by_cases e : y.f0.data.toList = s.data.toList
 ·have e0 := atKey_put_same (D := D) (k := .string y.f0.data.toList) hm (show WideAt.IsKeyLit (.string y.f0.data.toList) from trivial) (.lit (.int .i64 1)) (.lit (.int .i64 0)); rw [← e, e0, toList_eq, toList_eq, e]; simp
 ·have e2 : (y.f0.toList == s.toList) = false := by rw [toList_eq, toList_eq]; simpa using e
  rw [atKey_put_other (fun q => e (by injection q with q; exact q.symm)), hat s, e2, Bool.or_false]
set_option maxRecDepth 100000 in
set_option maxHeartbeats 8000000 in
theorem put_is (n0 Bx Pb B : Nat) (most : Int) (rows : List S44) (y : S44) (W : World) (hb : Book n0 Bx Pb B most rows W) (hn0 : n0 ≤ W.heap.size) (hx : Bx < W.heap.size) (hl : rows.length ≤ 100000) (hs0 : 0 ≤ sumOf rows) (hs1 : sumOf rows < m128) (hy : okA y) (hys : y.f0.size ≤ maxLen) :
  Calls Tryd.prog 70 #[.pointer (some ⟨Pb, 0, none⟩), .agg #[.string y.f0, .int .u64 y.f1.f0, .int .u64 y.f1.f1]] W (PutPost n0 Bx Pb B most rows y W) := by
 obtain ⟨hp0, hB0, hPB, ⟨v, hP, HR⟩, hM⟩ := hb; obtain ⟨A, c, rfl⟩ := Kd.R_slice HR; unfold bookO at hP; have hlt : Pb < W.heap.size := (Array.getElem?_eq_some_iff.1 hP).1
 obtain ⟨hi', lo', er, hA, hok⟩ : ∃ hi' lo' er, u128_Add.f (hiOf (sumOf rows)) (loOf (sumOf rows)) y.f1.f0 y.f1.f1 = some (hi', lo', er) ∧ ((sumOf rows + amtR y < m128 ∧ er = 0 ∧ hi' = hiOf (sumOf rows + amtR y) ∧ lo' = loOf (sumOf rows + amtR y)) ∨ (¬ sumOf rows + amtR y < m128 ∧ er = 10)) := by
  have u := u_hiOf (sumOf rows) hs0 hs1; have am : amtR y = val y.f1.f0 y.f1.f1 := rfl; rw [add_num _ _ _ _ u.1 u.2 hy.1 hy.2, val_halves, ← am]
  by_cases c : sumOf rows + amtR y < m128
  ·rw [if_pos c]; exact ⟨_, _, _, rfl, .inl ⟨c, rfl, rfl, rfl⟩⟩
  ·rw [if_neg c]; exact ⟨_, _, _, rfl, .inr ⟨c, rfl⟩⟩
 obtain ⟨hiS, hhi⟩ : ∃ x, hiOf (sumOf rows) = x := ⟨_, rfl⟩
 obtain ⟨loS, hlo⟩ : ∃ x, loOf (sumOf rows) = x := ⟨_, rfl⟩
 rw [hhi, hlo] at hP hA; obtain ⟨b1, h1⟩ : ∃ b : Bool, ((rows.length : Int) == most) = b := ⟨_, rfl⟩
 obtain ⟨b2, h2⟩ : ∃ b : Bool, idIn rows y.f0 = b := ⟨_, rfl⟩
 have HP := Aside0.mk hP; have HOK := Aside0.mk hok; have HA := Aside0.mk hA; have HS0 := Aside0.mk hs0; have HS1 := Aside0.mk hs1; have HH := Aside0.mk hhi; have HL := Aside0.mk hlo; have HB1 := Aside0.mk h1; have HB2 := Aside0.mk h2; clear hP hok hA hs0 hs1 hhi hlo h1 h2; go_enter Tryd.func70, Tryd.ntmps70
 go_upto_region 1 with fail
 change Code.wp _ _ _ _ (W2 Pb y.f0 y.f1.f0 y.f1.f1 W)
 go_cut [5, 6] (fun c5 c6 wx => ∃ Bn Be, c5 = .pointer (some ⟨Bn, 0, none⟩) ∧ c6 = .pointer (some ⟨Be, 0, none⟩) ∧ PutA (W2 Pb y.f0 y.f1.f0 y.f1.f1 W) Bn Be hi' lo' er wx)
 case first =>
  have hs2 := w2_size Pb y.f0 y.f1.f0 y.f1.f1 W; have z0 := w2_0 Pb y.f0 y.f1.f0 y.f1.f1 W; have z1 := w2_1 Pb y.f0 y.f1.f0 y.f1.f1 W; have zP := ((w2_below Pb y.f0 y.f1.f0 y.f1.f1 W).block Pb hlt).trans HP.out; generalize W2 Pb y.f0 y.f1.f0 y.f1.f1 W = W0 at *; have q0 : W0.cell? ⟨W.heap.size, 0, none⟩ = some (.pointer (some ⟨Pb, 0, none⟩)) := (zRa z0 0).trans rfl; have q1 : W0.cell? ⟨Pb, 3, none⟩ = some (.int .u64 hiS) := (zRa zP 3).trans rfl; have q2 : W0.cell? ⟨Pb, 4, none⟩ = some (.int .u64 loS) := (zRa zP 4).trans rfl; have q3 : W0.cell? ⟨W.heap.size + 1, 1, none⟩ = some (.int .u64 y.f1.f0) := (zRa z1 1).trans rfl; have q4 : W0.cell? ⟨W.heap.size + 1, 2, none⟩ = some (.int .u64 y.f1.f1) := (zRa z1 2).trans rfl; clear z0 z1 zP hs2 HP HOK HS0 HS1 HH HL HB1 HB2 HR hM hlt hx hn0 hl
  go_region_held3 (fun w' => w'.cell? ⟨W.heap.size, 0, none⟩ = some (.pointer (some ⟨Pb, 0, none⟩)) ∧ w'.cell? ⟨Pb, 3, none⟩ = some (.int .u64 hiS) ∧ w'.cell? ⟨Pb, 4, none⟩ = some (.int .u64 loS) ∧ w'.cell? ⟨W.heap.size + 1, 1, none⟩ = some (.int .u64 y.f1.f0) ∧ w'.cell? ⟨W.heap.size + 1, 2, none⟩ = some (.int .u64 y.f1.f1))
   (refine ⟨?_, ?_, ?_, ?_, ?_⟩ <;> (repeat (with_reducible first | assumption | refine cellA _ ?_ | refine cellD ?_)))
   ((go_at_call 97; (with_reducible refine (add_exact _ _ _ _ _ _ _ _ HA.out).mono ?_); rintro e W5 ⟨rfl, o1, o2, o3, rfl⟩))
  all_goals (go_wp2_with fail)
  all_goals go_meet
  all_goals
   refine ⟨_, _, rfl, rfl, ?_, ?_, zv1, zv1, zv1, ?_⟩
   ·refine zRk ?_; repeat (first | (focus (refine blk_new_at _ _ _ ?_; simp; done)) | refine zRf ?_ _)
   ·refine zRk ?_; repeat (first | (focus (refine blk_new_at _ _ _ ?_; simp; done)) | refine zRf ?_ _)
   ·exact zRj (zRe (zRe (zRe (zRe (zRe (Below.refl _ _) _) _) _) _) _)
 case rest =>
  obtain ⟨Bn, Be, rfl, rfl, hBn, hBe, hne, hl1, hl2, hbel⟩ := hcut; rw [w2_size] at hl1 hl2 hbel; have hs2 := w2_size Pb y.f0 y.f1.f0 y.f1.f1 W; have z0 := (hbel.block W.heap.size zv1).trans (w2_0 Pb y.f0 y.f1.f0 y.f1.f1 W); have z1 := (hbel.block (W.heap.size + 1) zv1).trans (w2_1 Pb y.f0 y.f1.f0 y.f1.f1 W); have zP := (hbel.block Pb zv1).trans (((w2_below Pb y.f0 y.f1.f0 y.f1.f1 W).block Pb hlt).trans HP.out); have hbw : Below W.heap.size W wc := (w2_below Pb y.f0 y.f1.f0 y.f1.f1 W).trans (hbel.mono zv1); have hsz := hbel.size; rw [hs2] at hsz; clear hbel hs2; generalize W2 Pb y.f0 y.f1.f0 y.f1.f1 W = W2x at *; clear W2x
  go_wp2_with fail
  have i0 := idx143_0 (.func (.func 98) #[] #[.pointer (some ⟨W.heap.size, 0, none⟩)]) (.int .i64 111) (.func (.func 99) #[] #[.pointer (some ⟨W.heap.size, 0, none⟩), .pointer (some ⟨W.heap.size + 1, 0, none⟩)]) (.int .i64 110) (.func (.func 100) #[] #[.pointer (some ⟨Be, 0, none⟩)]) (.int .i64 112); have i1 := idx143_1 (.func (.func 98) #[] #[.pointer (some ⟨W.heap.size, 0, none⟩)]) (.int .i64 111) (.func (.func 99) #[] #[.pointer (some ⟨W.heap.size, 0, none⟩), .pointer (some ⟨W.heap.size + 1, 0, none⟩)]) (.int .i64 110) (.func (.func 100) #[] #[.pointer (some ⟨Be, 0, none⟩)]) (.int .i64 112); have i2 := idx143_2 (.func (.func 98) #[] #[.pointer (some ⟨W.heap.size, 0, none⟩)]) (.int .i64 111) (.func (.func 99) #[] #[.pointer (some ⟨W.heap.size, 0, none⟩), .pointer (some ⟨W.heap.size + 1, 0, none⟩)]) (.int .i64 110) (.func (.func 100) #[] #[.pointer (some ⟨Be, 0, none⟩)]) (.int .i64 112); refine wp_loop_rounds 4 ?_; rw [rounds_succ]
  go_wp2_with fail
  refine (full_is W.heap.size Pb A rows.length c most _ ((zRa (zRf z0 _) 0).trans rfl) ((zRa (zRf zP _) 1).trans rfl) ((zRa (zRf zP _) 0).trans rfl)).mono ?_; rintro e W3 ⟨rfl, q1, rfl⟩; rw [HB1.out]; cases b1 with
  | true =>
   go_wp2_with fail
   go_ret; exact post_bad (by unfold putErr; rw [if_pos (by have := HB1.out; simpa using this)]) zvz (zRh (zRe hbw _) _)
  | false =>
   have nm : ¬ (rows.length : Int) = most := by have := HB1.out; simpa using this
   clear HB1; have Z0 := zRv (zRf z0 (.cells #[.func (.func 98) #[] #[.pointer (some ⟨W.heap.size, 0, none⟩)], .int .i64 111] 142)) q1; have Z1 := zRv (zRf z1 (.cells #[.func (.func 98) #[] #[.pointer (some ⟨W.heap.size, 0, none⟩)], .int .i64 111] 142)) q1; have ZP := zRv (zRf zP (.cells #[.func (.func 98) #[] #[.pointer (some ⟨W.heap.size, 0, none⟩)], .int .i64 111] 142)) q1; have ZN := zRv (zRf hBn (.cells #[.func (.func 98) #[] #[.pointer (some ⟨W.heap.size, 0, none⟩)], .int .i64 111] 142)) q1; have ZE := zRv (zRf hBe (.cells #[.func (.func 98) #[] #[.pointer (some ⟨W.heap.size, 0, none⟩)], .int .i64 111] 142)) q1; have ZB := zRh (zRe hbw (.cells #[.func (.func 98) #[] #[.pointer (some ⟨W.heap.size, 0, none⟩)], .int .i64 111] 142)) q1
   go_wp2_with fail
   clear z0 z1 zP hBn hBe hbw hsz i0; obtain ⟨w1, hw1⟩ : ∃ w1, (wc.alloc (.cells #[.func (.func 98) #[] #[.pointer (some ⟨W.heap.size, 0, none⟩)], .int .i64 111] 142)).drewN q1 = w1 := ⟨_, rfl⟩
   rw [hw1] at Z0 Z1 ZP ZN ZE ZB ⊢; clear hw1; have hM1 := idMap_grown hM (zRp ZB none) zv10; rw [rounds_succ]
   go_wp2_with fail
   refine (twice_b W.heap.size Pb (W.heap.size + 1) B rows y.f0 hys _ ((zRa (zRf Z0 _) 0).trans rfl) ((zRa (zRf ZP _) 2).trans rfl) ((zRa (zRf Z1 _) 0).trans rfl) (idMap_grown hM1 (World.grownBy_alloc w1 _ none) zv10)).mono ?_; rintro e W3 ⟨rfl, q2, rfl⟩; rw [HB2.out]; cases b2 with
   | true =>
    go_wp2_with fail
    go_ret; exact post_bad (by unfold putErr; rw [if_neg nm, if_pos HB2.out]) zvz (zRh (zRe ZB _) _)
   | false =>
    have nt : ¬ idIn rows y.f0 = true := by rw [HB2.out]; decide
    have Y0 := zRv (zRf Z0 (.cells #[.func (.func 99) #[] #[.pointer (some ⟨W.heap.size, 0, none⟩), .pointer (some ⟨W.heap.size + 1, 0, none⟩)], .int .i64 110] 142)) q2; have Y1 := zRv (zRf Z1 (.cells #[.func (.func 99) #[] #[.pointer (some ⟨W.heap.size, 0, none⟩), .pointer (some ⟨W.heap.size + 1, 0, none⟩)], .int .i64 110] 142)) q2; have YP := zRv (zRf ZP (.cells #[.func (.func 99) #[] #[.pointer (some ⟨W.heap.size, 0, none⟩), .pointer (some ⟨W.heap.size + 1, 0, none⟩)], .int .i64 110] 142)) q2; have YN := zRv (zRf ZN (.cells #[.func (.func 99) #[] #[.pointer (some ⟨W.heap.size, 0, none⟩), .pointer (some ⟨W.heap.size + 1, 0, none⟩)], .int .i64 110] 142)) q2; have YE := zRv (zRf ZE (.cells #[.func (.func 99) #[] #[.pointer (some ⟨W.heap.size, 0, none⟩), .pointer (some ⟨W.heap.size + 1, 0, none⟩)], .int .i64 110] 142)) q2; have YB := zRh (zRe ZB (.cells #[.func (.func 99) #[] #[.pointer (some ⟨W.heap.size, 0, none⟩), .pointer (some ⟨W.heap.size + 1, 0, none⟩)], .int .i64 110] 142)) q2
    go_wp2_with fail
    clear Z0 Z1 ZP ZN ZE ZB hM1 i1; obtain ⟨w2, hw2⟩ : ∃ w2, (w1.alloc (.cells #[.func (.func 99) #[] #[.pointer (some ⟨W.heap.size, 0, none⟩), .pointer (some ⟨W.heap.size + 1, 0, none⟩)], .int .i64 110] 142)).drewN q2 = w2 := ⟨_, rfl⟩
    rw [hw2] at Y0 Y1 YP YN YE YB ⊢; clear hw2; rw [rounds_succ]
    go_wp2_with fail
    refine (over_is Be er _ ((zRa (zRf YE _) 0).trans rfl)).mono ?_; rintro e W3 ⟨rfl, rfl⟩
    rcases HOK.out with ⟨ok, rfl, rfl, rfl⟩ | ⟨nok, rfl⟩
    ·have X0 := zRf Y0 (.cells #[.func (.func 100) #[] #[.pointer (some ⟨Be, 0, none⟩)], .int .i64 112] 142); have X1 := zRf Y1 (.cells #[.func (.func 100) #[] #[.pointer (some ⟨Be, 0, none⟩)], .int .i64 112] 142); have XP := zRf YP (.cells #[.func (.func 100) #[] #[.pointer (some ⟨Be, 0, none⟩)], .int .i64 112] 142); have XN := zRf YN (.cells #[.func (.func 100) #[] #[.pointer (some ⟨Be, 0, none⟩)], .int .i64 112] 142); have XB := zRe YB (.cells #[.func (.func 100) #[] #[.pointer (some ⟨Be, 0, none⟩)], .int .i64 112] 142)
     go_wp2_with fail
     clear Y0 Y1 YP YN YE YB i2 HOK HA; obtain ⟨w3, hw3⟩ : ∃ w3, (w2.alloc (.cells #[.func (.func 100) #[] #[.pointer (some ⟨Be, 0, none⟩)], .int .i64 112] 142)) = w3 := ⟨_, rfl⟩
     rw [hw3] at X0 X1 XP XN XB ⊢; clear hw3; rw [rounds_succ]
     go_wp2_with fail
     have hR3 := Kd.R_below HR XB; have hM3 := idMap_grown hM (zRp XB none) zv10; have hsz3 := XB.size; have ln := blk_lt XN; have l1 := blk_lt X1; have ne0 : some W.heap.size ≠ (Value.slice A rows.length c).ownBlock := Kd.R_ne hR3 X0 zvz; have ne1 : some (W.heap.size + 1) ≠ (Value.slice A rows.length c).ownBlock := fun e => by have := Kd.R_lt HR _ e.symm; omega
     have neP : some Pb ≠ (Value.slice A rows.length c).ownBlock := Kd.R_ne hR3 XP zvz; have neN : some Bn ≠ (Value.slice A rows.length c).ownBlock := Kd.R_ne hR3 XN zvz
     have neB : some B ≠ (Value.slice A rows.length c).ownBlock := fun e => by
      obtain ⟨cs, hc⟩ := Kd.R_typed hR3 B e.symm; obtain ⟨es, cl, hm⟩ := map_block hM3; rw [hm] at hc; cases hc
     have HNE := Aside0.mk (And.intro ne0 (And.intro ne1 (And.intro neP (And.intro neN neB)))); have HR3 := Aside0.mk hR3; have HM3 := Aside0.mk hM3; have HTY := Aside0.mk (Kd.R_typed hR3); have HX := Aside0.mk (And.intro X0 (And.intro X1 (And.intro XP (And.intro XN XB)))); have HMB := Aside0.mk (show B < W.heap.size by obtain ⟨es, cl, hm⟩ := map_block hM; exact blk_lt hm); have HNM := Aside0.mk nm; have HNT := Aside0.mk nt; have HOKK := Aside0.mk ok; clear nm nt ok ne0 ne1 neP neN neB hR3 hM3 hM HR
     go_cut [42] (fun c42 wx => PutC n0 Bx Pb B W.heap.size (W.heap.size + 1) Bn most (sumOf rows) (hiOf (sumOf rows + amtR y)) (loOf (sumOf rows + amtR y)) rows y w3 wx)
     case first =>
      have q0 : w3.cell? ⟨W.heap.size, 0, none⟩ = some (.pointer (some ⟨Pb, 0, none⟩)) := (zRa X0 0).trans rfl; have r0 : w3.cell? ⟨W.heap.size + 1, 0, none⟩ = some (.string y.f0) := (zRa X1 0).trans rfl; have r1 : w3.cell? ⟨W.heap.size + 1, 1, none⟩ = some (.int .u64 y.f1.f0) := (zRa X1 1).trans rfl; have r2 : w3.cell? ⟨W.heap.size + 1, 2, none⟩ = some (.int .u64 y.f1.f1) := (zRa X1 2).trans rfl; have p1 : w3.cell? ⟨Pb, 1, none⟩ = some (.slice A rows.length c) := (zRa XP 1).trans rfl; have pf : w3.frozen? ⟨Pb, 1, none⟩ = false := zRb XP 1; have m0 : w3.heap.size ≠ W.heap.size := by omega
      have m1 : w3.heap.size ≠ W.heap.size + 1 := by omega
      have m2 : w3.heap.size ≠ Pb := by omega
      have m3 : W.heap.size ≠ Pb := by omega
      have m4 : W.heap.size + 1 ≠ Pb := by omega
      obtain ⟨h00, inner, hown', hreps⟩ := Kd.R_drew (Kd.R_alloc HR3.out (.cells #[.string y.f0, .int .u64 y.f1.f0, .int .u64 y.f1.f1] 44)); have p1a : (w3.alloc (.cells #[.string y.f0, .int .u64 y.f1.f0, .int .u64 y.f1.f1] 44)).cell? ⟨Pb, 1, none⟩ = some (.slice A rows.length c) := cellA _ p1; have q0a : (w3.alloc (.cells #[.string y.f0, .int .u64 y.f1.f0, .int .u64 y.f1.f1] 44)).cell? ⟨W.heap.size, 0, none⟩ = some (.pointer (some ⟨Pb, 0, none⟩)) := cellA _ q0
      have hnews : ∀ j u, ([.string y.f0, .int .u64 y.f1.f0, .int .u64 y.f1.f1] : List Value)[j]? = some u → (w3.alloc (.cells #[.string y.f0, .int .u64 y.f1.f0, .int .u64 y.f1.f1] 44)).drew.cell? ((⟨w3.heap.size, 0, none⟩ : Addr).add j) = some u :=
       World.news_of_block (w := (w3.alloc (.cells #[.string y.f0, .int .u64 y.f1.f0, .int .u64 y.f1.f1] 44)).drew) (cs := #[.string y.f0, .int .u64 y.f1.f0, .int .u64 y.f1.f1]) (t := 44) (fr := (0, 0)) (blk_new w3 _)
      have hone : ∀ u ∈ ([.string y.f0, .int .u64 y.f1.f0, .int .u64 y.f1.f1] : List Value), u.oneCell' = true := by simp [Value.oneCell']
      have h63 : rows.length + 1 ≤ maxLen := by unfold maxLen; omega
      have hbytes : (rows.length + 1) * 32 ≤ 140737488355328 := by omega
      have hbase : n0 ≤ (w3.alloc (.cells #[.string y.f0, .int .u64 y.f1.f0, .int .u64 y.f1.f1] 44)).drew.heap.size := by show n0 ≤ (w3.alloc _).heap.size; rw [World.size_alloc]; omega
      have hH : (w3.alloc (.cells #[.string y.f0, .int .u64 y.f1.f0, .int .u64 y.f1.f1] 44)).drew.heap.size = w3.heap.size + 1 := by show (w3.alloc _).heap.size = _; rw [World.size_alloc]
      obtain ⟨i0, hi, hz0, hz1, hz2⟩ := info_parts info44; have HREPS := Aside0.mk hreps; have H00 := Aside0.mk h00; clear hreps h00 X0 X1 XP XN
      go_region_law
       ((refine step_append_lies _ zvv (.tmp 39) (.tmp 41) 34 zvv n0 44 i0 _ 3 32 Tryd.underlying34 hi hz0 hz1 hz2 zvv zvz (.slice A rows.length c) rows.length inner zvv hown' ⟨w3.heap.size, 0, none⟩ 1 1 [.string y.f0, .int .u64 y.f1.f0, .int .u64 y.f1.f1] zvv zvv hnews hone zvz h63 hbytes hbase (w3.heap.size + 1) hH ?_; intro g cap w4 hown4 hg hat hlt4; have pw := cellG hg (cellD (cellA _ p1)) HNE.out.2.2.1; have pfw : w4.frozen? ⟨Pb, 1, none⟩ = false := zRb (zRt (zRk (zRf HX.out.2.2.1 _)) hg HNE.out.2.2.1) 1; have q0w := cellG hg (cellD (cellA _ q0)) HNE.out.1))
      all_goals (go_wp2_with fail)
      all_goals go_meet
      all_goals
       have zP4 := zRt (zRk (zRf HX.out.2.2.1 (.cells #[.string y.f0, .int .u64 y.f1.f0, .int .u64 y.f1.f1] 44))) hg HNE.out.2.2.1
       have hO1 : Kd.R k44 44 w4 n0 (fun k => k ≠ Bx) (.slice (some ⟨g, 0, none⟩) (rows.length + 1) cap) (rows ++ [y]) :=
        Kd.R_appended H00.out HREPS.out (k44_mkM _ n0 (fun _ => False) y) (fun _ hk => hk.elim) (fun k hk => by have hk' : (w3.alloc (.cells #[.string y.f0, .int .u64 y.f1.f0, .int .u64 y.f1.f1] 44)).heap.size ≤ k := hk; rw [World.size_alloc] at hk'; omega) hown4 hg (hat.imp (fun h => h.symm) fun h => ⟨g, rfl, (by show (w3.alloc (.cells #[.string y.f0, .int .u64 y.f1.f0, .int .u64 y.f1.f1] 44)).heap.size ≤ g; rw [World.size_alloc]; omega)⟩)
       have hsub : ∀ q, q ∈ 44 :: k44.E → q ≠ 113 := fun q hq => by
        rcases List.mem_cons.1 hq with rfl | e
        ·decide
        ·rw [show k44.E = [] from rfl] at e; cases e
       have hle : n0 ≤ w3.heap.size := by omega
       have hbA : Below w3.heap.size w3 (w3.alloc (.cells #[.string y.f0, .int .u64 y.f1.f0, .int .u64 y.f1.f1] 44)).drew := zRj (zRe (Below.refl _ w3) _); have hMA : IdMap B rows (w3.alloc (.cells #[.string y.f0, .int .u64 y.f1.f0, .int .u64 y.f1.f1] 44)).drew := idMap_grown HM3.out (zRp hbA none) zv10; refine ⟨⟨_, ?_, Kd.R_set hO1 zP4 hsub 1 _⟩, idMap_grown (idMap_grown hMA hg HNE.out.2.2.2.2) (setG w4 Pb 1 _) (fun e => hPB (Option.some.inj e).symm), zRr (zRt (zRk (zRf HX.out.1 (.cells #[.string y.f0, .int .u64 y.f1.f0, .int .u64 y.f1.f1] 44))) hg HNE.out.1) m3 _, zRr (zRt (zRk (zRf HX.out.2.1 (.cells #[.string y.f0, .int .u64 y.f1.f0, .int .u64 y.f1.f1] 44))) hg HNE.out.2.1) m4 _, zRr (zRt (zRk (zRf HX.out.2.2.2.1 (.cells #[.string y.f0, .int .u64 y.f1.f0, .int .u64 y.f1.f1] 44))) hg HNE.out.2.2.2.1) (by show Bn ≠ Pb; omega) _, ?_, ?_⟩
       ·unfold bookO; rw [HH.out, HL.out]; exact zRm zP4 1 _ rfl
       ·exact ((hbA.mono hle).grown hg hbase (fun k e => Kd.R_base HR3.out k e)).setCell (p := ⟨Pb, 1, none⟩) hp0 _
       ·refine kept_trans (kept_below hbA) (kept_trans (kept_grown hg fun k e => .inr (.inr ?_)) (kept_set w4 1 _)); obtain ⟨cs, hc⟩ := HTY.out k e; exact ⟨H00.out k e, cs, zRk (zRf hc _)⟩
     case rest =>
      clear X0 X1 XP XN; obtain ⟨⟨v', XP', HR'⟩, hM', X0', X1', XN', XB', XK'⟩ := hcut; have hsz4 := XB'.size; obtain ⟨es0, cl0, hmb⟩ := map_block hM'; unfold bookO at XP'; obtain ⟨nm', D, ho, hnn, hmp, hat⟩ := hM'; have ho9 : wc.drew.ownsMap Tryd.prog 9 (plainElem Tryd.prog 3) B nm' D := ho; have hk := Go.WideMaps.keyOf_string_mk Tryd.underlying9 hys; obtain ⟨c9, hrun, hc9, _⟩ := ho9.lookup_int law9 Tryd.underlying111 Tryd.underlying3 (zero3 _) hk
      have hc0 : c9 = 0 := by
       rw [hat y.f0, HB2.out] at hc9; injection hc9 with q
       injection q with _ q
       exact q.symm
      subst hc0; obtain ⟨w9, hupd, how9, hg9⟩ := ho9.update law9 Tryd.underlying111 (show nm' < maxLen by unfold maxLen; omega) hk (plainElem_int Tryd.underlying3 (a := 1) zvz); have hw1 : IntKind.i64.wrap 1 = 1 := by decide
      rw [← hw1] at hupd; clear hw1
      have hBlt : B < W.heap.size := by
       have := HMB.out; omega
      have nb0 : some W.heap.size ≠ some B := by intro e; cases e; omega
      have nb1 : some (W.heap.size + 1) ≠ some B := by intro e; cases e; omega
      have nbP : some Pb ≠ some B := by intro e; cases e; exact hPB rfl
      have nbN : some Bn ≠ some B := by intro e; cases e; omega
      have q0 : wc.cell? ⟨W.heap.size, 0, none⟩ = some (.pointer (some ⟨Pb, 0, none⟩)) := (zRa X0' 0).trans rfl; have r0 : wc.cell? ⟨W.heap.size + 1, 0, none⟩ = some (.string y.f0) := (zRa X1' 0).trans rfl; have p2 : wc.cell? ⟨Pb, 2, none⟩ = some (.map (some B)) := (zRa XP' 2).trans rfl; have n0 := zRt (zRk X0') hg9 nb0; have nP := zRt (zRk XP') hg9 nbP; have nN := zRt (zRk XN') hg9 nbN; have t0 : w9.cell? ⟨W.heap.size, 0, none⟩ = some (.pointer (some ⟨Pb, 0, none⟩)) := (zRa n0 0).trans rfl; have t1 : w9.cell? ⟨Bn, 0, none⟩ = some (.int .u64 (hiOf (sumOf rows + amtR y))) := (zRa nN 0).trans rfl; have t2 : w9.cell? ⟨Bn, 1, none⟩ = some (.int .u64 (loOf (sumOf rows + amtR y))) := (zRa nN 1).trans rfl; have t3 : w9.cell? ⟨Pb, 3, none⟩ = some (.int .u64 (hiOf (sumOf rows))) := (zRa nP 3).trans rfl; have t4 : w9.cell? ⟨Pb, 4, none⟩ = some (.int .u64 (loOf (sumOf rows))) := (zRa nP 4).trans rfl; have t5 : w9.frozen? ⟨Pb, 3, none⟩ = false := zRb nP 3; have t6 : w9.frozen? ⟨Pb, 4, none⟩ = false := zRb nP 4; have HX' := Aside0.mk (And.intro X0' (And.intro X1' (And.intro XP' (And.intro XN' (And.intro XB' (And.intro XK' HR')))))); have HO9 := Aside0.mk how9; have HAT := Aside0.mk hat; have HMBK := Aside0.mk hmb; have HNP := Aside0.mk nP; clear X0' X1' XP' XN' XB' XK' HR' how9 hat ho ho9 n0 nP nN hmb hc9
      go_wp2_with fail
      go_region_held3 (fun w' => w'.cell? ⟨W.heap.size, 0, none⟩ = some (.pointer (some ⟨Pb, 0, none⟩)) ∧ w'.cell? ⟨W.heap.size + 1, 0, none⟩ = some (.string y.f0) ∧ w'.cell? ⟨Pb, 2, none⟩ = some (.map (some B)))
       (refine ⟨?_, ?_, ?_⟩ <;> (repeat (with_reducible first | assumption | refine cellG hg9 ?_ (by assumption) | refine cellA _ ?_ | refine cellD ?_)))
       (fail)
      all_goals (go_wp2_with fail)
      go_ret; obtain ⟨X0', X1', XP', XN', XB', XK', HR'⟩ := HX'.out
      have hsub : ∀ q, q ∈ 44 :: k44.E → q ≠ 113 := fun q hq => by
       rcases List.mem_cons.1 hq with rfl | e
       ·decide
       ·rw [show k44.E = [] from rfl] at e; cases e
      have R9 := rows_grown (Kd.R_drew HR') hg9 (fun k _ ⟨cs, hc⟩ e => by
       cases e; have q := HMBK.out.symm.trans (show wc.heap[B]? = some (.cells cs 44 (0, 0)) from hc)
       cases q)
      have hBP : some B ≠ some Pb := fun e => nbP e.symm
      refine post_good (by unfold putErr; rw [if_neg HNM.out, if_neg HNT.out, if_pos HOKK.out]) ?_ ?_ ⟨hp0, hB0, hPB, ⟨v', ?_, Kd.R_set (Kd.R_set R9 HNP.out hsub 3 _) (zRm HNP.out 3 _ rfl) hsub 4 _⟩, idMap_grown (idMap_grown (idMap_put HO9.out hnn hmp HAT.out) (setG w9 Pb 3 _) hBP) (setG _ Pb 4 _) hBP⟩
      ·have hle : n0 ≤ wc.drew.heap.size := by show n0 ≤ wc.heap.size; omega
       exact ((((((XB.mono hn0).trans XB').drew).grown hg9 hle (fun k e => by cases e; exact hB0)).setCell (p := ⟨Pb, 3, none⟩) hp0 _).setCell (p := ⟨Pb, 4, none⟩) hp0 _)
      ·have kb : Kept Bx Pb B wc.drew w9 := kept_grown hg9 fun k e => .inr (.inl (Option.some.inj e).symm)
       have kb' : Kept Bx Pb B wc w9 := kb; exact kept_trans (kept_below XB) (kept_trans XK' (kept_trans kb' (kept_trans (kept_set w9 3 _) (kept_set _ 4 _))))
      ·unfold bookO; rw [sumOf_snoc]; exact zRm (zRm HNP.out 3 _ rfl) 4 _ rfl
    ·go_wp2_with fail
     go_ret; exact post_bad (by unfold putErr; rw [if_neg nm, if_neg nt, if_neg zv1]) zvz (zRe YB _)
end Go.Proofs.YtpkjpiphjdpegaaDoor.P
