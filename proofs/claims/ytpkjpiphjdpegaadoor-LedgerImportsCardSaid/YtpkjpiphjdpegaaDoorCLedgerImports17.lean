/- A program of this session wrote this text out of the session's own texts. (part 17 of 45) -/
import Derived.Test.YtpkjpiphjdpegaaDoorCLedgerImportsQ
import Derived.Test.YtpkjpiphjdpegaaDoorCLedgerImports4
import Derived.Test.YtpkjpiphjdpegaaDoorCLedgerImports16
import Derived.Laws.IdiomCopy
namespace Go.Proofs.YtpkjpiphjdpegaaDoor.P
open Go.RowKit Go.Proofs.YtpkjpiphjdpegaaDoorW.PrintWords Go.Proofs.YtpkjpiphjdpegaaDoorW.PrintLast Go.Proofs.YtpkjpiphjdpegaaDoorW.PrintMore
open Go.Shelf Go.Lib Go.Sort Go.Proofs Go.Proofs.YtpkjpiphjdpegaaDoor.Z
set_option linter.unusedVariables false
set_option linter.unusedSimpArgs false
attribute [local instance] inhS44
def row_Sort.f (l0 : List S44) : Option (List S44) := if l0.length ≤ 1000000 then some (sortL rowKey l0) else none
theorem run_copy_k {P : Program} (w : World) (dT sT ty elem : TypeId) (b o dLen dCap : Nat) (a : Addr) (sLen sCap k : Nat) (cs : List Value)
  (hu : P.underlying dT = some (.slice elem)) (hs : (P.info? elem).map (·.size) = some k) (hn : cs.length = Nat.min sLen dLen * k)
  (hsrc : ∀ j v, cs[j]? = some v → w.cell? (a.add j) = some v) (hc : ∀ j, j < cs.length → (w.cell? ⟨b, o + j, none⟩).isSome = true) (hf : ∀ j, j < cs.length → w.frozen? ⟨b, o + j, none⟩ = false) (h1 : ∀ v ∈ cs, v.oneCell' = true) :
  (Builtin.copy_ #[dT, sT] ty #[.slice (some ⟨b, o, none⟩) dLen dCap, .slice (some a) sLen sCap]).run P w = .ok (goInt (Nat.min sLen dLen)) (w.setCells b o cs) := by
 have hl := run_loadCells_list (P := P) w a cs hsrc; have hst := run_storeCells_cells (P := P) b o cs 0 w (by simpa using hc) (by simpa using hf) h1; cases hq : P.info? elem with
 | none => simp [hq] at hs
 | some i =>
  have hi : i.size = k := by simpa [hq] using hs
  rw [hn] at hl; have e : min sLen dLen = Nat.min sLen dLen := rfl; simp [Builtin.copy_, run_underlying hu, Builtin.lenOf, Builtin.firstCells, sizeOf, typeInfo, hq, hi, e, hl, hst]
theorem run_copy_zero {P : Program} (w : World) (dT sT ty elem : TypeId) (d a : Option Addr) (dCap sCap k : Nat) (hu : P.underlying dT = some (.slice elem)) (hs : (P.info? elem).map (·.size) = some k) :
  (Builtin.copy_ #[dT, sT] ty #[.slice d 0 dCap, .slice a 0 sCap]).run P w = .ok (goInt 0) w := by
 cases hq : P.info? elem with
 | none => simp [hq] at hs
 | some i =>
  have hl : ∀ (x : Addr), (loadCells x 0).run P w = .ok #[] w := fun x => by simpa using run_loadCells_list (P := P) w x [] zv10
  cases d <;> cases a <;> simp [Builtin.copy_, run_underlying hu, Builtin.lenOf, Builtin.firstCells, sizeOf, typeInfo, hq, storeCells, hl]
theorem size44 : (Tryd.prog.info? 44).map (·.size) = some 3 := by
 obtain ⟨i0, hi, hzz⟩ := Option.map_eq_some_iff.1 info44; simp only [Prod.mk.injEq] at hzz; rw [hi, Option.map_some, hzz.2.1]
theorem make44 (n : Nat) (hn : n ≤ 1000000) (W : World) : (Instr.makeSlice 34 (.int .i64 (n : Int)) (.int .i64 (n : Int))).run Tryd.prog W = .ok (.slice (some ⟨W.heap.size, 0, none⟩) n n) (W.alloc (.cells (madeCells #[.string ⟨#[]⟩, .int .u64 0, .int .u64 0] (n * 3)) 44)) := by
 obtain ⟨i0, hi, hzz⟩ := Option.map_eq_some_iff.1 info44; simp only [Prod.mk.injEq] at hzz; obtain ⟨hz0, hz1, hz2⟩ := hzz; have := run_make (P := Tryd.prog) W 34 44 i0 _ Tryd.underlying34 hi hz0 .i64 .i64 (n : Int) (n : Int) zv1 zv1 (by rw [hz2]; omega) zv1; rw [Int.toNat_natCast, hz1] at this; exact this
def rowsAt (l : List S44) : Array (S44 × Nat) := l.zipIdx.toArray
theorem rowsAt_size (l : List S44) : (rowsAt l).size = l.length := by simp [rowsAt]
theorem rowsAt_get (l : List S44) (i : Nat) (h : i < l.length) : (rowsAt l)[i]! = (l[i], i) := by
 rw [getElem!_pos (rowsAt l) i (by rw [rowsAt_size]; exact h)]; simp [rowsAt]
def flatR (d : Array (S44 × Nat)) : List Value := (flatK encS44 3 d).toList
theorem flatR_len (d : Array (S44 × Nat)) : (flatR d).length = d.size * 3 := by
 unfold flatR; rw [Array.length_toList, size_flatK]
theorem encS44_len (x : S44 × Nat) : (encS44 x).length = 3 := rfl
theorem encS44_get (x : S44 × Nat) (i : Nat) (h : i < 3) : ∃ v, (encS44 x)[i]! = v ∧ (encS44 x)[i]? = some v := ⟨(encS44 x)[i]!, rfl, (by rw [List.getElem!_eq_getElem?_getD, List.getElem?_eq_getElem (by rw [encS44_len]; exact h)]; rfl)⟩
theorem flatR_get (d : Array (S44 × Nat)) (j : Nat) (h : j < d.size * 3) : (flatR d)[j]? = (encS44 d[j / 3]!)[j % 3]? := by
 have e := get_flatK encS44 3 d j h; obtain ⟨v, h1, h2⟩ := encS44_get d[j / 3]! (j % 3) (Nat.mod_lt _ zv1); unfold flatR; rw [Array.getElem?_toList, h2, Array.getElem?_eq_getElem (by rw [size_flatK]; exact h)]; rw [getElem!_pos _ j (by rw [size_flatK]; exact h)] at e; rw [e, h1]
theorem encS44_one (x : S44 × Nat) : ∀ v ∈ encS44 x, v.oneCell' = true := by
 intro v hv; simp [encS44] at hv
 rcases hv with rfl | rfl | rfl <;> rfl
theorem flatR_one (d : Array (S44 × Nat)) : ∀ v ∈ flatR d, v.oneCell' = true := by
 intro v hv; obtain ⟨j, hj, e⟩ := List.getElem_of_mem hv; have hj' : j < d.size * 3 := by rw [← flatR_len]; exact hj
 have g := flatR_get d j hj'; rw [List.getElem?_eq_getElem hj, e] at g; exact encS44_one _ v (List.mem_of_getElem? g.symm)
theorem holds_of {w : World} {b : Nat} {cur : Array Value} (d : Array (S44 × Nat)) (hb : w.heap[b]? = some (.cells cur 44 (0, 0))) (hc : cur.toList = flatR d) : HoldsK encS44 3 w b 0 d := by
 intro j hj; have hj' : j < d.size * 3 := by rw [size_flatK] at hj; exact hj
 refine ⟨?_, zRb hb _⟩; rw [zRa hb, Nat.zero_add, ← Array.getElem?_toList, hc]; unfold flatR; rw [Array.getElem?_toList, Array.getElem?_eq_getElem hj, getElem!_pos _ j hj]; rfl
theorem blk_of {w : World} {b : Nat} {cur : Array Value} (d : Array (S44 × Nat)) (hb : w.heap[b]? = some (.cells cur 44 (0, 0))) (hs : cur.size = d.size * 3) (h : HoldsK encS44 3 w b 0 d) : cur.toList = flatR d := by
 apply List.ext_getElem?; intro j
 by_cases hj : j < d.size * 3
 ·have := (h j (by rw [size_flatK]; exact hj)).1; rw [zRa hb, Nat.zero_add] at this; unfold flatR; rw [Array.getElem?_toList, Array.getElem?_toList, this, Array.getElem?_eq_getElem (by rw [size_flatK]; exact hj), getElem!_pos _ j (by rw [size_flatK]; exact hj)]; rfl
 ·rw [List.getElem?_eq_none (by rw [Array.length_toList]; omega), List.getElem?_eq_none (by rw [flatR_len]; omega)]
theorem sorted_world {w W : World} {b : Nat} {cur : Array Value} {d : Array (S44 × Nat)} (hb : w.heap[b]? = some (.cells cur 44 (0, 0))) (S : SWK encS44 3 w b 0 d W) :
  Below b w W ∧ ∃ cur', W.heap[b]? = some (.cells cur' 44 (0, 0)) ∧ cur'.size = cur.size := by
 obtain ⟨q, os, rfl⟩ := S; have lt := blk_lt hb; have hh : (sortWorldK encS44 3 w b 0 q d os).heap = w.heap.modify b (onCells (putCells id 0 (flatK encS44 3 d))) ++ os := rfl; have sz : (w.heap.modify b (onCells (putCells id 0 (flatK encS44 3 d)))).size = w.heap.size := Array.size_modify; refine ⟨⟨rfl, rfl, rfl, ?_, fun k hk => ?_⟩, ?_⟩
 ·rw [hh, Array.size_append, sz]; omega
 ·rw [hh, Array.getElem?_append_left (by rw [sz]; omega), Array.getElem?_modify, if_neg zv1]
 ·refine ⟨putCells id 0 (flatK encS44 3 d) cur, ?_, (by simp [putCells])⟩; rw [hh, Array.getElem?_append_left (by rw [sz]; exact lt), Array.getElem?_modify, if_pos rfl, hb]; rfl
theorem rows_flat (d : Array (S44 × Nat)) {w : World} {base : Nat} {ok : Nat → Prop} : Reps (k44.M w base ok) 3 (d.toList.map Prod.fst) (flatR d) := by
 refine ⟨by rw [flatR_len, List.length_map, Array.length_toList], fun j p hp => ?_⟩; rw [List.getElem?_map] at hp; obtain ⟨x, hx, rfl⟩ := Option.map_eq_some_iff.1 hp; obtain ⟨hj0, hx'⟩ := List.getElem?_eq_some_iff.1 hx; have hj : j < d.size := by simpa using hj0
 have dj : d[j]! = x := by rw [getElem!_pos d j hj]; simpa using hx'
 have e : ((flatR d).drop (j * 3)).take 3 = encS44 x := by
  apply List.ext_getElem?; intro i
  by_cases hi : i < 3
  ·have q1 : (j * 3 + i) / 3 = j := by omega
   have q2 : (j * 3 + i) % 3 = i := by omega
   rw [List.getElem?_take_of_lt hi, List.getElem?_drop, flatR_get d (j * 3 + i) zv1, q1, q2, dj]
  ·rw [List.getElem?_eq_none zv3d, List.getElem?_eq_none (by rw [encS44_len]; omega)]
 rw [e]; exact k44_mkM w base ok x.1
set_option maxRecDepth 100000 in
set_option maxHeartbeats 4000000 in
theorem sort_is (A : Option Addr) (c : Nat) (l : List S44) (w : World) (hl : l.length ≤ 1000000) (hr : Kd.C k44 w A l.length l) (hc : l.length ≤ c) :
  Calls Tryd.prog 27 #[.slice A l.length c] w fun e w' => ∃ v, e = .returned v ∧ Kd.R k44 44 w' w.heap.size (fun _ => True) v (sortL rowKey l) ∧ Below w.heap.size w w' := by
 have hmk := make44 l.length hl; have e64 : ∀ args w, (callFunc 64 args).run Tryd.prog w = .ok (.enter 64 args) w := enters_of Tryd.func64 (by kernel_rfl) rfl; have eg : ∀ args w, (callFunc 65 args).run Tryd.prog w = .ok (.enter 65 args) w := enters_of Tryd.func65 (by kernel_rfl) rfl; have hs1 : (madeCells #[.string ⟨#[]⟩, .int .u64 0, .int .u64 0] (l.length * 3)).size = l.length * 3 := size_madeCells _ _; generalize madeCells #[.string ⟨#[]⟩, .int .u64 0, .int .u64 0] (l.length * 3) = mc at hmk hs1; have B1 : Below w.heap.size w (w.alloc (.cells mc 44)) := Below.alloc (Below.refl _ _) (Nat.le_refl _) _
 have hb1 : (w.alloc (.cells mc 44)).heap[w.heap.size]? = some (.cells mc 44 (0, 0)) := by
  rw [alloc_eq_grow]; show (w.heap ++ #[Obj.cells mc 44])[w.heap.size]? = _; simp
 have hmk1 := hmk w; clear hmk; generalize w.alloc (.cells mc 44) = w1 at B1 hb1 hmk1; have fl : (flatR (rowsAt l)).length = l.length * 3 := by rw [flatR_len, rowsAt_size]
 have mm : Nat.min l.length l.length = l.length := Nat.min_self _
 have hcp : (Builtin.copy_ #[34, 34] 3 #[.slice (some ⟨w.heap.size, 0, none⟩) l.length l.length, .slice A l.length c]).run Tryd.prog w1 = .ok (goInt l.length) (w1.setCells w.heap.size 0 (flatR (rowsAt l))) := by
  rcases Nat.eq_zero_or_pos l.length with h0 | hp
  ·have e : flatR (rowsAt l) = [] := List.eq_nil_of_length_eq_zero (by rw [fl, h0]); rw [e, h0]; exact run_copy_zero w1 34 34 3 44 _ A 0 c 3 Tryd.underlying34 size44
  ·obtain ⟨ad, rfl, hcell⟩ := (Kd.C_below hr B1).2.2 hp; have := run_copy_k (P := Tryd.prog) w1 34 34 3 44 w.heap.size 0 l.length l.length ad l.length c 3 (flatR (rowsAt l)) Tryd.underlying34 size44 (by rw [fl, mm]) (fun j v hv => ?_) (fun j hj => ?_) (fun j hj => zRb hb1 _) (flatR_one _)
   ·rw [this, mm]
   ·have hj : j < l.length * 3 := by
     rcases Nat.lt_or_ge j (flatR (rowsAt l)).length with h | h
     ·omega
     ·rw [List.getElem?_eq_none h] at hv; cases hv
    rw [flatR_get _ j (by rw [rowsAt_size]; exact hj), rowsAt_get l (j / 3) zv1] at hv; obtain ⟨cs, _, hK, hcs⟩ := hcell (j / 3) (l[j / 3]'zv1) (List.getElem?_eq_getElem zv1); obtain rfl := k44_open hK; have := hcs (j % 3) v hv
    rwa [show k44.sz = 3 from rfl, show j / 3 * 3 + j % 3 = j by omega] at this
   ·rw [zRa hb1, Nat.zero_add, Array.getElem?_eq_getElem zv1]; rfl
 have B2 : Below w.heap.size w (w1.setCells w.heap.size 0 (flatR (rowsAt l))) := by
  have g : ∀ (vs : List Value) (o : Nat) (W : World), Below w.heap.size w W → Below w.heap.size w (W.setCells w.heap.size o vs) := by
   intro vs
   induction vs with
   | nil => intro o W h; exact h
   | cons v r ih => intro o W h; exact ih _ _ (h.setCell (Nat.le_refl _) v)
  exact g _ _ _ B1
 obtain ⟨cur, hb2, hs2, hl2⟩ := setCells_row (flatR (rowsAt l)) 0 w1 mc hb1 zv1; rw [List.take_zero, List.nil_append, Nat.zero_add, List.drop_eq_nil_of_le (by rw [Array.length_toList]; omega), List.append_nil] at hl2; generalize w1.setCells w.heap.size 0 (flatR (rowsAt l)) = w2 at B2 hb2 hcp; have hH := holds_of (rowsAt l) hb2 hl2; have R : RowK encS44 3 w2 w.heap.size 0 (rowsAt l) := ⟨encS44_len, encS44_one, hH, blk_lt hb2⟩
 have C := sortStable_is 3 Tryd.isAgg44 Tryd.sizeOf44 encS44 rowKey (fun x y => cfS x.1.f0 y.1.f0) 65 #[] w.heap.size 0 l.length (rowsAt l) w2 R (cmpLays _ _ _ _) eg cf_key (by rw [rowsAt_size]; omega) (fun i hi => by rw [rowsAt_size] at hi; rw [rowsAt_get l i hi]) (SWK.start hH); rw [rowsAt_size] at C
 have C' : Calls Tryd.prog 64 #[.slice (some ⟨w.heap.size, 0, none⟩) l.length l.length, .func (.func 65) #[] #[]] w2 fun e w' => e = .returned (.tuple #[]) ∧ (Kd.R k44 44 w' w.heap.size (fun _ => True) (.slice (some ⟨w.heap.size, 0, none⟩) l.length l.length) (sortL rowKey l) ∧ Below w.heap.size w w') := by
  refine C.mono ?_; rintro e w4 ⟨rfl, d', S4, hP, hA⟩; have st := stable_is rowKey l d' hP hA; have ds : d'.size = l.length := by rw [hP.1, rowsAt_size]
  obtain ⟨B4, cur', hb4, hs4⟩ := sorted_world hb2 S4; have hl4 := blk_of d' hb4 zv1 (S4.holds (blk_lt hb2) hH (by rw [hP.1])); have sl : (sortL rowKey l).length = l.length := by rw [← st, List.length_map, Array.length_toList, ds]
  refine ⟨rfl, ⟨fun _ _ => trivial, flatR d', ⟨?_, .inr ⟨w.heap.size, l.length, cur', ?_, Nat.le_refl _, hb4, ?_, ?_, ?_, ?_⟩⟩, ?_⟩, B2.trans B4⟩
  ·rw [flatR_len, ds, sl]; rfl
  ·rw [sl]
  ·rw [sl]; exact Nat.le_refl _
  ·show l.length ≤ 9223372036854775807; omega
  ·rw [hs4, hs2, hs1]; rfl
  ·rw [hl4, sl]; exact List.take_of_length_le (by rw [flatR_len, ds]; exact Nat.le_refl _)
  ·rw [← st]; exact rows_flat d'
 clear C R hH hb2 hl2 hs2 B2 hb1 hs1 B1 hr fl; go_enter Tryd.func27, Tryd.ntmps27
 go_wp2_with (first | (go_at_fn 64; (with_reducible refine C'.mono ?_); rintro e w4 ⟨rfl, hR4, hB4⟩))
 go_ret; exact ⟨_, rfl, hR4, hB4⟩
theorem row_Sort.calls (A0 : Option Addr) (c0 : Nat) (l0 : List S44) (r : List S44) (w : World) (hr0 : Kd.C k44 w A0 l0.length l0) (hc0 : l0.length ≤ c0) (h : row_Sort.f l0 = some r) :
  Calls Tryd.prog 27 #[.slice A0 l0.length c0] w fun e w' => ∃ v0_ : Value, e = .returned v0_ ∧ Kd.R k44 44 w' w.heap.size (fun _ => True) v0_ r ∧ Below w.heap.size w w' := by
 unfold row_Sort.f at h
 split at h
 ·rename_i hl
  have e := Option.some.inj h; rw [← e]; exact sort_is A0 c0 l0 w hl hr0 hc0
 ·cases h
end Go.Proofs.YtpkjpiphjdpegaaDoor.P
