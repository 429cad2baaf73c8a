/- A program of this session wrote this text out of the session's own texts. (part 3 of 5) -/
import Derived.Test.YtpkjpiphjdpegaaCDecimalOrder2
namespace Go.Proofs.Ytpkjpiphjdpegaa.P
open Go.RowKit Go.Proofs.YtpkjpiphjdpegaaW.PrintWords Go.Proofs.YtpkjpiphjdpegaaW.PrintLast Go.Proofs.YtpkjpiphjdpegaaW.PrintMore
set_option linter.unusedVariables false
set_option linter.unusedSimpArgs false
theorem over_calls (x y n : Int) (ha : U64 x) (hb : U64 y) (hn : U64 n) (h : n ≠ 0) (w : World) :
    Calls Try.prog 58 #[.agg #[.int .u64 x, .int .u64 y], .int .u64 n] w fun e w' => e = .returned (.tuple #[.agg #[.int .u64 (hiOf (val x y / n)), .int .u64 (loOf (val x y / n))], .int .u64 (val x y % n), .int .i64 0]) ∧ Below w.heap.size w w' :=
  u128_Over.calls x y n _ _ _ _ w (over_num x y n ha hb hn h)
theorem u_unit : U64 10000000000000000000 := ⟨by omega, by omega⟩
theorem set_nums (L : List Int) (i : Nat) (v : Int) : (nums .u8 L).toArray.setIfInBounds i (.int .u8 v) = (nums .u8 (L.set i v)).toArray := by
  apply Array.ext'
  rw [Array.toList_setIfInBounds]
  simp [nums, List.map_set]
theorem cell_nums (L : List Int) (i : Nat) (h : i < L.length) : (nums .u8 L).toArray[i]? = some (.int .u8 (L.getD i 0)) := by
  simp [nums, List.getElem?_eq_getElem h, List.getD_eq_getElem?_getD]
theorem dig_put (V : Int) (L : List Int) (at_ : Nat) (h39 : at_ < 39) (hl : L.length = 39) (D : ∀ i : Nat, i < 39 → ((at_ + 1 : Nat) : Int) ≤ i → L.getD i 0 = V / 10 ^ (38 - i) % 10) (v : Int) (hv : v = V / 10 ^ (38 - at_) % 10) :
    ∀ i : Nat, i < 39 → (at_ : Int) ≤ i → (L.set at_ v).getD i 0 = V / 10 ^ (38 - i) % 10 := by
  intro i h1 h2
  rw [List.getD_eq_getElem?_getD, List.getElem?_set]
  by_cases c : at_ = i
  · subst c
    rw [if_pos rfl, if_pos (by omega), Option.getD_some, hv]
  · rw [if_neg c, ← List.getD_eq_getElem?_getD]
    exact D i h1 (by omega)
set_option maxHeartbeats 4000000 in
set_option maxRecDepth 100000 in
theorem decimal_digits_calls (a b : Int) (ha : U64 a) (hb : U64 b) (w : World) :
    Calls Try.prog 91 #[.agg #[.int .u64 a, .int .u64 b]] w fun e w' => ∃ (g s : Nat) (L : List Int), e = .returned (.slice (some ⟨g, s, none⟩) (dec (val a b)).length (dec (val a b)).length) ∧ w'.heap[g]? = some (.cells (nums .u8 L).toArray 124 (0, 0)) ∧ w.heap.size ≤ g ∧ L.length = 39 ∧ s + (dec (val a b)).length = 39 ∧ L.drop s = dec (val a b) ∧ Below w.heap.size w w' := by
  obtain ⟨V0, V1⟩ := val_range a b ha hb
  go_enter Try.func91, Try.ntmps91
  go_wp2
  go_loopg [4] 4 (fun g v4 w' => ∃ (at_ : Int) (x y : Int) (L : List Int), v4 = .int .i64 at_ ∧ Aside0 ((at_ = 39 ∧ 3 ≤ g) ∨ (at_ = 20 ∧ 2 ≤ g) ∨ (at_ = 1 ∧ 1 ≤ g) ∨ at_ = 0) ∧ Aside0 (U64 x ∧ U64 y ∧ val x y = val a b / 10 ^ (39 - at_.toNat)) ∧ Aside0 (L.length = 39) ∧ Aside0 (∀ i : Nat, i < 39 → at_ ≤ i → L.getD i 0 = val a b / 10 ^ (38 - i) % 10) ∧ Aside0 (w'.heap[w.heap.size]? = some (.cells #[.int .u64 x, .int .u64 y] 25 (0, 0))) ∧ Aside0 (w'.heap[w.heap.size + 1]? = some (.cells (nums .u8 L).toArray 124 (0, 0))) ∧ Aside0 (Below w.heap.size w w'))
  case atStart =>
    refine ⟨39, a, b, List.replicate 39 0, rfl, ⟨.inl ⟨rfl, by omega⟩⟩, ⟨ha, hb, ?_⟩, ⟨rfl⟩, ⟨?_⟩, ⟨?_⟩, ⟨?_⟩, ⟨?_⟩⟩
    · show val a b = val a b / 10 ^ 0
      rw [Int.pow_zero, Int.ediv_one]
    · intro i h1 h2; omega
    · refine blk_alloc (blk_new w _) _
    · have e := blk_new (w.alloc (.cells #[.int .u64 a, .int .u64 b] 25)) (.cells (nums .u8 (List.replicate 39 0)).toArray 124)
      rw [World.size_alloc] at e
      exact e
    · exact below_alloc (below_alloc (Below.refl _ _) _) _
  case round =>
    obtain ⟨at_, x, y, L, rfl, C, V, hL, D, B0, B1, HB⟩ := hrel
    have cz0 : wr.cell? ⟨w.heap.size, 0, none⟩ = some (.int .u64 x) := (blk_cell B0.out 0).trans rfl
    have cz1 : wr.cell? ⟨w.heap.size, 1, none⟩ = some (.int .u64 y) := (blk_cell B0.out 1).trans rfl
    rcases C.out with ⟨rfl, c⟩ | ⟨rfl, c⟩ | ⟨rfl, c⟩ | rfl
    · clear C
      obtain ⟨go_, rfl⟩ : ∃ g, gk = g + 1 := ⟨gk - 1, by omega⟩
      go_wp2_with (first | (go_at_call 58; (with_reducible refine (over_calls x y 10000000000000000000 V.out.1 V.out.2.1 u_unit (by decide) _).mono ?_); rintro e w' ⟨rfl, hb'⟩))
      have B0' := Aside0.mk (blk_below B0.out hb')
      have B1' := Aside0.mk (blk_below B1.out hb')
      have HB' := Aside0.mk (below_step HB.out hb')
      have lt1 := blk_lt B1'.out
      obtain ⟨g5, h5⟩ : ∃ g, w'.heap.size = g := ⟨_, rfl⟩
      have hn := Aside0.mk (blk_new w' (.cells #[.int .u64 (hiOf (val x y / 10000000000000000000)), .int .u64 (loOf (val x y / 10000000000000000000))] 25))
      have qe : val x y / 10000000000000000000 = val a b / 10 ^ (39 - (20 : Int).toNat) := by
        have e1 := V.out.2.2
        have e2 : (10000000000000000000 : Int) = 10 ^ 19 := rfl
        rw [e1, e2, ← ten_split]
        rfl
      have q0 : 0 ≤ val x y / 10000000000000000000 := by
        have := (val_range x y V.out.1 V.out.2.1).1
        omega
      have q1 : val x y / 10000000000000000000 < m128 := by
        have := (val_range x y V.out.1 V.out.2.1).2
        have := (val_range x y V.out.1 V.out.2.1).1
        omega
      have uq := Aside0.mk (u_hiOf _ q0 q1)
      have re : ∀ j : Nat, j < 19 → val x y % 10000000000000000000 / 10 ^ j % 10 = val a b / 10 ^ (39 - (39 : Int).toNat + j) % 10 := by
        intro j hj
        have e2 : (10000000000000000000 : Int) = 10 ^ 19 := rfl
        rw [e2, dig_rest _ (val_range x y V.out.1 V.out.2.1).1 j hj, V.out.2.2, ← ten_split]
      have r0 : 0 ≤ val x y % 10000000000000000000 := by omega
      have r1 : val x y % 10000000000000000000 < 10000000000000000000 := by omega
      have RE := Aside0.mk re
      have QE := Aside0.mk ((val_halves _).trans qe)
      clear re qe q0 q1
      rw [h5] at hn lt1
      generalize hiOf (val x y / 10000000000000000000) = qh at *
      generalize loOf (val x y / 10000000000000000000) = ql at *
      generalize val x y % 10000000000000000000 = R at *
      have B0'' := Aside0.mk (blk_alloc B0'.out (.cells #[.int .u64 qh, .int .u64 ql] 25))
      have B1'' := Aside0.mk (blk_alloc B1'.out (.cells #[.int .u64 qh, .int .u64 ql] 25))
      have HB'' := Aside0.mk (below_alloc HB'.out (.cells #[.int .u64 qh, .int .u64 ql] 25))
      generalize hW : w'.alloc (.cells #[.int .u64 qh, .int .u64 ql] 25) = W at *
      simp only [h5]
      clear hb' B0 B1 HB B0' B1' HB' hW h5 cz0 cz1
      go_loopg [4, 6, 19] 20 (fun g v4 v6 v19 W => ∃ (j : Nat) (L : List Int), v4 = .int .i64 (39 - (j : Int)) ∧ v6 = .int .u64 (R / 10 ^ j) ∧ v19 = .int .i64 (j : Int) ∧ Aside0 (j ≤ 19 ∧ 19 ≤ j + g) ∧ Aside0 (L.length = 39) ∧ Aside0 (∀ i : Nat, i < 39 → 39 - (j : Int) ≤ i → L.getD i 0 = val a b / 10 ^ (38 - i) % 10) ∧ Aside0 (W.heap[w.heap.size]? = some (.cells #[.int .u64 x, .int .u64 y] 25 (0, 0))) ∧ Aside0 (W.heap[w.heap.size + 1]? = some (.cells (nums .u8 L).toArray 124 (0, 0))) ∧ Aside0 (W.heap[g5]? = some (.cells #[.int .u64 qh, .int .u64 ql] 25 (0, 0))) ∧ Aside0 (Below w.heap.size w W))
      case atStart =>
        refine ⟨0, L, by simp, by simp, rfl, ⟨by omega, by omega⟩, hL, ⟨?_⟩, B0'', B1'', hn, HB''⟩
        intro i h1 h2
        exact D.out i h1 (by simpa using h2)
      case round =>
        obtain ⟨j, L, rfl, rfl, rfl, J, hL, D, B0, B1, B5, HB⟩ := hrel
        by_cases c2 : j < 19
        · have c2b : decide ((j : Int) < 19) = true := decide_eq_true (by omega)
          have wj : wrap64 (39 - (j : Int) - 1) = ((39 - j - 1 : Nat) : Int) := by rw [wi _ (by omega) (by omega)]; omega
          have p0 : 0 ≤ R / 10 ^ j := Int.ediv_nonneg r0 (Int.le_of_lt (ten_pos j))
          have p1 : R / 10 ^ j ≤ R := Int.ediv_le_self _ r0
          have t10 : Int.tmod (R / 10 ^ j) 10 = R / 10 ^ j % 10 := Int.tmod_eq_emod_of_nonneg p0
          have d10 : Int.tdiv (R / 10 ^ j) 10 = R / 10 ^ (j + 1) := by rw [Int.tdiv_eq_ediv_of_nonneg p0, ten_split]; rfl
          have fz := blk_frozen B1.out (39 - j - 1)
          have cz := (blk_cell B1.out (39 - j - 1)).trans (cell_nums L _ (by rw [hL.out]; omega))
          have wq : IntKind.u64.wrap (R / 10 ^ (j + 1)) = R / 10 ^ (j + 1) := by
            rw [← d10, Int.tdiv_eq_ediv_of_nonneg p0]
            exact wu _ (by omega) (by omega)
          obtain ⟨gi, rfl⟩ : ∃ g, gk = g + 1 := ⟨gk - 1, by have := J.out; omega⟩
          go_wp2
          go_roundg gi
          case measure => omega
          case rel =>
            refine ⟨j + 1, L.set (39 - j - 1) (R / 10 ^ j % 10), ?_, rfl, ?_, ⟨?_⟩, ⟨?_⟩, ⟨?_⟩, ⟨?_⟩, ⟨?_⟩, ⟨?_⟩, ⟨?_⟩⟩
            · rw [show (39 : Int) - ((j + 1 : Nat) : Int) = 39 - (j : Int) - 1 from by omega]
            · rw [show ((j + 1 : Nat) : Int) = (j : Int) + 1 from by omega]
            · have := J.out; omega
            · rw [List.length_set]; exact hL.out
            · have := dig_put (val a b) L (39 - j - 1) (by omega) hL.out (fun i h1 h2 => D.out i h1 (by omega)) (R / 10 ^ j % 10) (by rw [RE.out j (by omega)]; congr 3; show (_ : Nat) = _; simp; omega)
              intro i h1 h2
              exact this i h1 (by omega)
            · exact blk_far B0.out (by show w.heap.size ≠ w.heap.size + 1; omega) _
            · exact blk_put B1.out _ _ (set_nums ..)
            · exact blk_far B5.out (by show g5 ≠ w.heap.size + 1; omega) _
            · exact below_set HB.out (by omega)
        · have c2b : decide ((j : Int) < 19) = false := decide_eq_false (by omega)
          obtain rfl : j = 19 := by have := J.out; omega
          have cy0 : wr.cell? ⟨g5, 0, none⟩ = some (.int .u64 qh) := (blk_cell B5.out 0).trans rfl
          have cy1 : wr.cell? ⟨g5, 1, none⟩ = some (.int .u64 ql) := (blk_cell B5.out 1).trans rfl
          have cz0 : wr.cell? ⟨w.heap.size, 0, none⟩ = some (.int .u64 x) := (blk_cell B0.out 0).trans rfl
          have cz1 : wr.cell? ⟨w.heap.size, 1, none⟩ = some (.int .u64 y) := (blk_cell B0.out 1).trans rfl
          have fz0 := blk_frozen B0.out 0
          have fz1 := blk_frozen B0.out 1
          go_wp2
          go_roundg go_
          case measure => omega
          case rel =>
            refine ⟨20, qh, ql, L, rfl, ⟨?_⟩, ⟨uq.out.1, uq.out.2, QE.out⟩, hL, ⟨?_⟩, ⟨?_⟩, ⟨?_⟩, ⟨?_⟩⟩
            · omega
            · intro i h1 h2
              exact D.out i h1 (by omega)
            · exact blk_put (blk_put B0.out 0 _ rfl) 1 _ rfl
            · exact blk_far (blk_far B1.out (by show w.heap.size + 1 ≠ w.heap.size; omega) _) (by show w.heap.size + 1 ≠ w.heap.size; omega) _
            · exact below_set (below_set HB.out (Nat.le_refl _)) (Nat.le_refl _)
    · clear C
      obtain ⟨go_, rfl⟩ : ∃ g, gk = g + 1 := ⟨gk - 1, by omega⟩
      go_wp2_with (first | (go_at_call 58; (with_reducible refine (over_calls x y 10000000000000000000 V.out.1 V.out.2.1 u_unit (by decide) _).mono ?_); rintro e w' ⟨rfl, hb'⟩))
      have B0' := Aside0.mk (blk_below B0.out hb')
      have B1' := Aside0.mk (blk_below B1.out hb')
      have HB' := Aside0.mk (below_step HB.out hb')
      have lt1 := blk_lt B1'.out
      obtain ⟨g5, h5⟩ : ∃ g, w'.heap.size = g := ⟨_, rfl⟩
      have hn := Aside0.mk (blk_new w' (.cells #[.int .u64 (hiOf (val x y / 10000000000000000000)), .int .u64 (loOf (val x y / 10000000000000000000))] 25))
      have qe : val x y / 10000000000000000000 = val a b / 10 ^ (39 - (1 : Int).toNat) := by
        have e1 := V.out.2.2
        have e2 : (10000000000000000000 : Int) = 10 ^ 19 := rfl
        rw [e1, e2, ← ten_split]
        rfl
      have q0 : 0 ≤ val x y / 10000000000000000000 := by
        have := (val_range x y V.out.1 V.out.2.1).1
        omega
      have q1 : val x y / 10000000000000000000 < m128 := by
        have := (val_range x y V.out.1 V.out.2.1).2
        have := (val_range x y V.out.1 V.out.2.1).1
        omega
      have uq := Aside0.mk (u_hiOf _ q0 q1)
      have re : ∀ j : Nat, j < 19 → val x y % 10000000000000000000 / 10 ^ j % 10 = val a b / 10 ^ (39 - (20 : Int).toNat + j) % 10 := by
        intro j hj
        have e2 : (10000000000000000000 : Int) = 10 ^ 19 := rfl
        rw [e2, dig_rest _ (val_range x y V.out.1 V.out.2.1).1 j hj, V.out.2.2, ← ten_split]
      have r0 : 0 ≤ val x y % 10000000000000000000 := by omega
      have r1 : val x y % 10000000000000000000 < 10000000000000000000 := by omega
      have RE := Aside0.mk re
      have QE := Aside0.mk ((val_halves _).trans qe)
      clear re qe q0 q1
      rw [h5] at hn lt1
      generalize hiOf (val x y / 10000000000000000000) = qh at *
      generalize loOf (val x y / 10000000000000000000) = ql at *
      generalize val x y % 10000000000000000000 = R at *
      have B0'' := Aside0.mk (blk_alloc B0'.out (.cells #[.int .u64 qh, .int .u64 ql] 25))
      have B1'' := Aside0.mk (blk_alloc B1'.out (.cells #[.int .u64 qh, .int .u64 ql] 25))
      have HB'' := Aside0.mk (below_alloc HB'.out (.cells #[.int .u64 qh, .int .u64 ql] 25))
      generalize hW : w'.alloc (.cells #[.int .u64 qh, .int .u64 ql] 25) = W at *
      simp only [h5]
      clear hb' B0 B1 HB B0' B1' HB' hW h5 cz0 cz1
      go_loopg [4, 6, 19] 20 (fun g v4 v6 v19 W => ∃ (j : Nat) (L : List Int), v4 = .int .i64 (20 - (j : Int)) ∧ v6 = .int .u64 (R / 10 ^ j) ∧ v19 = .int .i64 (j : Int) ∧ Aside0 (j ≤ 19 ∧ 19 ≤ j + g) ∧ Aside0 (L.length = 39) ∧ Aside0 (∀ i : Nat, i < 39 → 20 - (j : Int) ≤ i → L.getD i 0 = val a b / 10 ^ (38 - i) % 10) ∧ Aside0 (W.heap[w.heap.size]? = some (.cells #[.int .u64 x, .int .u64 y] 25 (0, 0))) ∧ Aside0 (W.heap[w.heap.size + 1]? = some (.cells (nums .u8 L).toArray 124 (0, 0))) ∧ Aside0 (W.heap[g5]? = some (.cells #[.int .u64 qh, .int .u64 ql] 25 (0, 0))) ∧ Aside0 (Below w.heap.size w W))
      case atStart =>
        refine ⟨0, L, by simp, by simp, rfl, ⟨by omega, by omega⟩, hL, ⟨?_⟩, B0'', B1'', hn, HB''⟩
        intro i h1 h2
        exact D.out i h1 (by simpa using h2)
      case round =>
        obtain ⟨j, L, rfl, rfl, rfl, J, hL, D, B0, B1, B5, HB⟩ := hrel
        by_cases c2 : j < 19
        · have c2b : decide ((j : Int) < 19) = true := decide_eq_true (by omega)
          have wj : wrap64 (20 - (j : Int) - 1) = ((20 - j - 1 : Nat) : Int) := by rw [wi _ (by omega) (by omega)]; omega
          have p0 : 0 ≤ R / 10 ^ j := Int.ediv_nonneg r0 (Int.le_of_lt (ten_pos j))
          have p1 : R / 10 ^ j ≤ R := Int.ediv_le_self _ r0
          have t10 : Int.tmod (R / 10 ^ j) 10 = R / 10 ^ j % 10 := Int.tmod_eq_emod_of_nonneg p0
          have d10 : Int.tdiv (R / 10 ^ j) 10 = R / 10 ^ (j + 1) := by rw [Int.tdiv_eq_ediv_of_nonneg p0, ten_split]; rfl
          have fz := blk_frozen B1.out (20 - j - 1)
          have cz := (blk_cell B1.out (20 - j - 1)).trans (cell_nums L _ (by rw [hL.out]; omega))
          have wq : IntKind.u64.wrap (R / 10 ^ (j + 1)) = R / 10 ^ (j + 1) := by
            rw [← d10, Int.tdiv_eq_ediv_of_nonneg p0]
            exact wu _ (by omega) (by omega)
          obtain ⟨gi, rfl⟩ : ∃ g, gk = g + 1 := ⟨gk - 1, by have := J.out; omega⟩
          go_wp2
          go_roundg gi
          case measure => omega
          case rel =>
            refine ⟨j + 1, L.set (20 - j - 1) (R / 10 ^ j % 10), ?_, rfl, ?_, ⟨?_⟩, ⟨?_⟩, ⟨?_⟩, ⟨?_⟩, ⟨?_⟩, ⟨?_⟩, ⟨?_⟩⟩
            · rw [show (20 : Int) - ((j + 1 : Nat) : Int) = 20 - (j : Int) - 1 from by omega]
            · rw [show ((j + 1 : Nat) : Int) = (j : Int) + 1 from by omega]
            · have := J.out; omega
            · rw [List.length_set]; exact hL.out
            · have := dig_put (val a b) L (20 - j - 1) (by omega) hL.out (fun i h1 h2 => D.out i h1 (by omega)) (R / 10 ^ j % 10) (by rw [RE.out j (by omega)]; congr 3; show (_ : Nat) = _; simp; omega)
              intro i h1 h2
              exact this i h1 (by omega)
            · exact blk_far B0.out (by show w.heap.size ≠ w.heap.size + 1; omega) _
            · exact blk_put B1.out _ _ (set_nums ..)
            · exact blk_far B5.out (by show g5 ≠ w.heap.size + 1; omega) _
            · exact below_set HB.out (by omega)
        · have c2b : decide ((j : Int) < 19) = false := decide_eq_false (by omega)
          obtain rfl : j = 19 := by have := J.out; omega
          have cy0 : wr.cell? ⟨g5, 0, none⟩ = some (.int .u64 qh) := (blk_cell B5.out 0).trans rfl
          have cy1 : wr.cell? ⟨g5, 1, none⟩ = some (.int .u64 ql) := (blk_cell B5.out 1).trans rfl
          have cz0 : wr.cell? ⟨w.heap.size, 0, none⟩ = some (.int .u64 x) := (blk_cell B0.out 0).trans rfl
          have cz1 : wr.cell? ⟨w.heap.size, 1, none⟩ = some (.int .u64 y) := (blk_cell B0.out 1).trans rfl
          have fz0 := blk_frozen B0.out 0
          have fz1 := blk_frozen B0.out 1
          go_wp2
          go_roundg go_
          case measure => omega
          case rel =>
            refine ⟨1, qh, ql, L, rfl, ⟨?_⟩, ⟨uq.out.1, uq.out.2, QE.out⟩, hL, ⟨?_⟩, ⟨?_⟩, ⟨?_⟩, ⟨?_⟩⟩
            · omega
            · intro i h1 h2
              exact D.out i h1 (by omega)
            · exact blk_put (blk_put B0.out 0 _ rfl) 1 _ rfl
            · exact blk_far (blk_far B1.out (by show w.heap.size + 1 ≠ w.heap.size; omega) _) (by show w.heap.size + 1 ≠ w.heap.size; omega) _
            · exact below_set (below_set HB.out (Nat.le_refl _)) (Nat.le_refl _)
    · clear C
      obtain ⟨go_, rfl⟩ : ∃ g, gk = g + 1 := ⟨gk - 1, by omega⟩
      go_wp2_with (first | (go_at_call 58; (with_reducible refine (over_calls x y 10000000000000000000 V.out.1 V.out.2.1 u_unit (by decide) _).mono ?_); rintro e w' ⟨rfl, hb'⟩))
      have B0' := Aside0.mk (blk_below B0.out hb')
      have B1' := Aside0.mk (blk_below B1.out hb')
      have HB' := Aside0.mk (below_step HB.out hb')
      have lt1 := blk_lt B1'.out
      obtain ⟨g5, h5⟩ : ∃ g, w'.heap.size = g := ⟨_, rfl⟩
      have hn := Aside0.mk (blk_new w' (.cells #[.int .u64 (hiOf (val x y / 10000000000000000000)), .int .u64 (loOf (val x y / 10000000000000000000))] 25))
      have qe : val x y / 10000000000000000000 = val a b / 10 ^ (39 - (0 : Int).toNat) := by
        have e1 := V.out.2.2
        have e2 : (10000000000000000000 : Int) = 10 ^ 19 := rfl
        have m := m39
        have t1 : (39 - (1 : Int).toNat) = 38 := rfl
        have t0 : (39 - (0 : Int).toNat) = 39 := rfl
        rw [t1] at e1
        rw [t0, e1, e2, ← ten_split]
        have f1 : (10 : Int) ^ 39 ≤ 10 ^ (38 + 19) := ten_mono 39 18
        rw [Int.ediv_eq_zero_of_lt V0 (by omega), Int.ediv_eq_zero_of_lt V0 (by omega)]
      have q0 : 0 ≤ val x y / 10000000000000000000 := by
        have := (val_range x y V.out.1 V.out.2.1).1
        omega
      have q1 : val x y / 10000000000000000000 < m128 := by
        have := (val_range x y V.out.1 V.out.2.1).2
        have := (val_range x y V.out.1 V.out.2.1).1
        omega
      have uq := Aside0.mk (u_hiOf _ q0 q1)
      have re : ∀ j : Nat, j < 19 → val x y % 10000000000000000000 / 10 ^ j % 10 = val a b / 10 ^ (39 - (1 : Int).toNat + j) % 10 := by
        intro j hj
        have e2 : (10000000000000000000 : Int) = 10 ^ 19 := rfl
        rw [e2, dig_rest _ (val_range x y V.out.1 V.out.2.1).1 j hj, V.out.2.2, ← ten_split]
      have r0 : 0 ≤ val x y % 10000000000000000000 := by omega
      have r1 : val x y % 10000000000000000000 < 10000000000000000000 := by omega
      have RE := Aside0.mk re
      have QE := Aside0.mk ((val_halves _).trans qe)
      clear re qe q0 q1
      rw [h5] at hn lt1
      generalize hiOf (val x y / 10000000000000000000) = qh at *
      generalize loOf (val x y / 10000000000000000000) = ql at *
      generalize val x y % 10000000000000000000 = R at *
      have B0'' := Aside0.mk (blk_alloc B0'.out (.cells #[.int .u64 qh, .int .u64 ql] 25))
      have B1'' := Aside0.mk (blk_alloc B1'.out (.cells #[.int .u64 qh, .int .u64 ql] 25))
      have HB'' := Aside0.mk (below_alloc HB'.out (.cells #[.int .u64 qh, .int .u64 ql] 25))
      generalize hW : w'.alloc (.cells #[.int .u64 qh, .int .u64 ql] 25) = W at *
      simp only [h5]
      clear hb' B0 B1 HB B0' B1' HB' hW h5 cz0 cz1
      go_loopg [4, 6, 19] 20 (fun g v4 v6 v19 W => ∃ (j : Nat) (L : List Int), v4 = .int .i64 (1 - (j : Int)) ∧ v6 = .int .u64 (R / 10 ^ j) ∧ v19 = .int .i64 (j : Int) ∧ Aside0 (j ≤ 1 ∧ 1 ≤ j + g) ∧ Aside0 (L.length = 39) ∧ Aside0 (∀ i : Nat, i < 39 → 1 - (j : Int) ≤ i → L.getD i 0 = val a b / 10 ^ (38 - i) % 10) ∧ Aside0 (W.heap[w.heap.size]? = some (.cells #[.int .u64 x, .int .u64 y] 25 (0, 0))) ∧ Aside0 (W.heap[w.heap.size + 1]? = some (.cells (nums .u8 L).toArray 124 (0, 0))) ∧ Aside0 (W.heap[g5]? = some (.cells #[.int .u64 qh, .int .u64 ql] 25 (0, 0))) ∧ Aside0 (Below w.heap.size w W))
      case atStart =>
        refine ⟨0, L, by simp, by simp, rfl, ⟨by omega, by omega⟩, hL, ⟨?_⟩, B0'', B1'', hn, HB''⟩
        intro i h1 h2
        exact D.out i h1 (by simpa using h2)
      case round =>
        obtain ⟨j, L, rfl, rfl, rfl, J, hL, D, B0, B1, B5, HB⟩ := hrel
        by_cases c2 : j < 1
        · obtain rfl : j = 0 := by omega
          obtain ⟨gi, rfl⟩ : ∃ g, gk = g + 1 := ⟨gk - 1, by have := J.out; omega⟩
          have t10 : Int.tmod R 10 = R % 10 := Int.tmod_eq_emod_of_nonneg r0
          have d10 : Int.tdiv R 10 = R / 10 := Int.tdiv_eq_ediv_of_nonneg r0
          have wq : IntKind.u64.wrap (R / 10) = R / 10 := wu _ (by omega) (by omega)
          have p : R / 10 ^ 0 = R := by rw [Int.pow_zero, Int.ediv_one]
          simp only [p]
          have fz := blk_frozen B1.out 0
          have cz := (blk_cell B1.out 0).trans (cell_nums L 0 (by rw [hL.out]; omega))
          go_wp2
          go_roundg gi
          case measure => omega
          case rel =>
            refine ⟨1, L.set 0 (R % 10), ?_, ?_, rfl, ⟨?_⟩, ⟨?_⟩, ⟨?_⟩, ⟨?_⟩, ⟨?_⟩, ⟨?_⟩, ⟨?_⟩⟩
            · rfl
            · rfl
            · omega
            · rw [List.length_set]; exact hL.out
            · have := dig_put (val a b) L 0 (by omega) hL.out (fun i h1 h2 => D.out i h1 (by omega)) (R % 10) (by have e := RE.out 0 (by omega); rw [p] at e; exact e)
              intro i h1 h2
              exact this i h1 (by omega)
            · exact blk_far B0.out (by show w.heap.size ≠ w.heap.size + 1; omega) _
            · exact blk_put B1.out _ _ (set_nums ..)
            · exact blk_far B5.out (by show g5 ≠ w.heap.size + 1; omega) _
            · exact below_set HB.out (by omega)
        · have c2b : decide ((j : Int) < 1) = false := decide_eq_false (by omega)
          obtain rfl : j = 1 := by have := J.out; omega
          have cy0 : wr.cell? ⟨g5, 0, none⟩ = some (.int .u64 qh) := (blk_cell B5.out 0).trans rfl
          have cy1 : wr.cell? ⟨g5, 1, none⟩ = some (.int .u64 ql) := (blk_cell B5.out 1).trans rfl
          have cz0 : wr.cell? ⟨w.heap.size, 0, none⟩ = some (.int .u64 x) := (blk_cell B0.out 0).trans rfl
          have cz1 : wr.cell? ⟨w.heap.size, 1, none⟩ = some (.int .u64 y) := (blk_cell B0.out 1).trans rfl
          have fz0 := blk_frozen B0.out 0
          have fz1 := blk_frozen B0.out 1
          go_wp2
          go_roundg go_
          case measure => omega
          case rel =>
            refine ⟨0, qh, ql, L, rfl, ⟨?_⟩, ⟨uq.out.1, uq.out.2, QE.out⟩, hL, ⟨?_⟩, ⟨?_⟩, ⟨?_⟩, ⟨?_⟩⟩
            · omega
            · intro i h1 h2
              exact D.out i h1 (by omega)
            · exact blk_put (blk_put B0.out 0 _ rfl) 1 _ rfl
            · exact blk_far (blk_far B1.out (by show w.heap.size + 1 ≠ w.heap.size; omega) _) (by show w.heap.size + 1 ≠ w.heap.size; omega) _
            · exact below_set (below_set HB.out (Nat.le_refl _)) (Nat.le_refl _)
    · clear C
      go_wp2
      go_loopg [8] 40 (fun g v8 W => ∃ (j : Nat), v8 = .int .i64 (j : Int) ∧ Aside0 (j ≤ 38 ∧ 38 ≤ j + g) ∧ Aside0 (valD (L.drop j) = val a b) ∧ Aside0 (W.heap[w.heap.size + 1]? = some (.cells (nums .u8 L).toArray 124 (0, 0))) ∧ Aside0 (Below w.heap.size w W))
      case atStart =>
        refine ⟨0, rfl, ⟨by omega, by omega⟩, ⟨?_⟩, B1, HB⟩
        have m := m39
        exact val_all 39 L (val a b) hL.out V0 (by omega) (fun i hi => D.out i hi (by omega))
      case round =>
        clear cz0 cz1 B1 HB
        obtain ⟨j, rfl, J, S, B1, HB⟩ := hrel
        have hj := J.out.1
        have j39 : (j : Int) ≤ 39 := by omega
        have j0 : (0 : Int) ≤ (j : Int) := by omega
        have cz := (blk_cell B1.out j).trans (cell_nums L j (by rw [hL.out]; omega))
        by_cases c2 : j < 38
        · have c2b : decide ((j : Int) < 38) = true := decide_eq_true (by omega)
          obtain ⟨z, hz⟩ : ∃ z, L.getD j 0 = z := ⟨_, rfl⟩
          rw [hz] at cz
          by_cases c3 : z = 0
          · obtain ⟨gi, rfl⟩ : ∃ g, gk = g + 1 := ⟨gk - 1, by have := J.out; omega⟩
            rw [c3] at cz
            go_wp2
            go_roundg gi
            case measure => omega
            case rel =>
              refine ⟨j + 1, ?_, ⟨?_⟩, ⟨?_⟩, B1, HB⟩
              · rw [show ((j + 1 : Nat) : Int) = (j : Int) + 1 from by omega]
              · have := J.out; omega
              · rw [val_skip L j (by rw [hL.out]; omega) (hz.trans c3)]; exact S.out
          · have c3b : (z == 0) = false := beq_eq_false_iff_ne.mpr c3
            go_wp2
            have dL : Dig (L.drop j) := by
              intro d hd
              obtain ⟨i, hi, e⟩ := List.mem_iff_getElem.1 (List.mem_of_mem_drop hd)
              have q := D.out i (by have := hL.out; omega) (by omega)
              rw [List.getD_eq_getElem?_getD, List.getElem?_eq_getElem hi] at q
              have q' : d = val a b / 10 ^ (38 - i) % 10 := e ▸ q
              omega
            have ld : (L.drop j).length = (38 - j) + 1 := by rw [List.length_drop, hL.out]; omega
            have m := m39
            have un := dec_uniq (38 - j) 38 (L.drop j) ld dL (fun _ => by
              rw [List.drop_eq_getElem_cons (by rw [hL.out]; omega)]
              intro e
              rw [List.head?_cons] at e
              apply c3
              rw [← hz, List.getD_eq_getElem?_getD, List.getElem?_eq_getElem (by rw [hL.out]; omega)]
              exact Option.some.inj e) (by rw [S.out]; omega)
            rw [S.out] at un
            have dl : (dec (val a b)).length = 39 - j := by
              show (decF 38 (val a b)).length = _
              rw [un, ld]; omega
            go_ret
            exact ⟨w.heap.size + 1, j, L, by rw [dl]; rfl, B1.out, by omega, hL.out, by rw [dl]; omega, un.symm, HB.out⟩
        · have c2b : decide ((j : Int) < 38) = false := decide_eq_false (by omega)
          go_wp2
          have dL : Dig (L.drop j) := by
            intro d hd
            obtain ⟨i, hi, e⟩ := List.mem_iff_getElem.1 (List.mem_of_mem_drop hd)
            have q := D.out i (by have := hL.out; omega) (by omega)
            rw [List.getD_eq_getElem?_getD, List.getElem?_eq_getElem hi] at q
            have q' : d = val a b / 10 ^ (38 - i) % 10 := e ▸ q
            omega
          have ld : (L.drop j).length = (38 - j) + 1 := by rw [List.length_drop, hL.out]; omega
          have m := m39
          have un := dec_uniq (38 - j) 38 (L.drop j) ld dL (fun h => by omega) (by rw [S.out]; omega)
          rw [S.out] at un
          have dl : (dec (val a b)).length = 39 - j := by
            show (decF 38 (val a b)).length = _
            rw [un, ld]; omega
          go_ret
          exact ⟨w.heap.size + 1, j, L, by rw [dl]; rfl, B1.out, by omega, hL.out, by rw [dl]; omega, un.symm, HB.out⟩
end Go.Proofs.Ytpkjpiphjdpegaa.P
namespace Go.Proofs.Ytpkjpiphjdpegaa.P
open Go.RowKit Go.Proofs.YtpkjpiphjdpegaaW.PrintWords Go.Proofs.YtpkjpiphjdpegaaW.PrintLast Go.Proofs.YtpkjpiphjdpegaaW.PrintMore
set_option linter.unusedVariables false
set_option linter.unusedSimpArgs false
set_option maxHeartbeats 4000000 in
set_option maxRecDepth 100000 in
theorem decimal_Digits.calls (a0_0 a0_1 r : Int) (w : World) (h : decimal_Digits.f a0_0 a0_1 = some r) :
    Calls Try.prog 62 #[.agg #[.int .u64 a0_0, .int .u64 a0_1]] w fun e w' => e = .returned (.int .i64 r) ∧ Below w.heap.size w w' := by
  have hu : U64 a0_0 ∧ U64 a0_1 := by
    unfold decimal_Digits.f at h
    split at h
    · assumption
    · cases h
  rw [digits_num _ _ hu.1 hu.2] at h
  obtain rfl := Option.some.inj h
  go_enter Try.func62, Try.ntmps62
  go_wp2_with (first | (go_at_call 91; (with_reducible refine (decimal_digits_calls a0_0 a0_1 hu.1 hu.2 _).mono ?_); rintro e w' ⟨g, s, L, rfl, hg, hge, hl, hs, hd, hb⟩))
  go_ret
  exact ⟨rfl, below_step (below_alloc (Below.refl _ _) _) hb⟩
theorem digits_call' (a b : Int) (ha : U64 a) (hb : U64 b) (w : World) :
    Calls Try.prog 91 #[.agg #[.int .u64 a, .int .u64 b]] w fun e w' => ∃ g s : Nat, e = .returned (.slice (some ⟨g, s, none⟩) (dec (val a b)).length (dec (val a b)).length) ∧ (∀ i : Nat, i < (dec (val a b)).length → w'.cell? ⟨g, s + i, none⟩ = some (.int .u8 ((dec (val a b)).getD i 0))) ∧ Below w.heap.size w w' := by
  refine (decimal_digits_calls a b ha hb w).mono ?_
  rintro e w' ⟨g, s, L, rfl, hg, hge, hl, hs, hd, hb⟩
  refine ⟨g, s, rfl, fun i hi => ?_, hb⟩
  have e1 := (blk_cell hg (s + i)).trans (cell_nums L (s + i) (by omega))
  rw [e1, ← hd, List.getD_eq_getElem?_getD, List.getD_eq_getElem?_getD, List.getElem?_drop]
set_option maxHeartbeats 4000000 in
set_option maxRecDepth 100000 in
theorem decimal_Digit.calls (a0_0 a0_1 a1 r : Int) (w : World) (h : decimal_Digit.f a0_0 a0_1 a1 = some r) :
    Calls Try.prog 64 #[.agg #[.int .u64 a0_0, .int .u64 a0_1], .int .i64 a1] w fun e w' => e = .returned (.int .u8 r) ∧ Below w.heap.size w w' := by
  have hu : U64 a0_0 ∧ U64 a0_1 ∧ -9223372036854775808 ≤ a1 ∧ a1 < 9223372036854775808 := by
    unfold decimal_Digit.f at h
    split at h
    · assumption
    · cases h
  unfold decimal_Digit.f at h
  rw [if_pos hu] at h
  have D1 := dec_facts (val a0_0 a0_1) (val_range _ _ hu.1 hu.2.1).1 (val_range _ _ hu.1 hu.2.1).2
  have cl := digits_call' a0_0 a0_1 hu.1 hu.2.1
  generalize dec (val a0_0 a0_1) = D at *
  obtain ⟨_, _, l0, l1⟩ := D1
  by_cases c1 : a1 < 0
  · rw [if_pos (.inl c1)] at h
    obtain rfl := Option.some.inj h
    have c1b : decide (a1 < 0) = true := decide_eq_true c1
    clear h
    go_enter Try.func64, Try.ntmps64
    go_wp2_with (first | (go_at_call 91; (with_reducible refine (cl _).mono ?_); rintro e w' ⟨g, s, rfl, hc, hb⟩))
    go_ret
    exact ⟨rfl, below_step (below_alloc (Below.refl _ _) _) hb⟩
  · have c1b : decide (a1 < 0) = false := decide_eq_false c1
    by_cases c2 : (D.length : Int) ≤ a1
    · rw [if_pos (.inr c2)] at h
      obtain rfl := Option.some.inj h
      have c2b : decide ((D.length : Int) ≤ a1) = true := decide_eq_true c2
      clear h
      go_enter Try.func64, Try.ntmps64
      go_wp2_with (first | (go_at_call 91; (with_reducible refine (cl _).mono ?_); rintro e w' ⟨g, s, rfl, hc, hb⟩))
      go_ret
      exact ⟨rfl, below_step (below_alloc (Below.refl _ _) _) hb⟩
    · have c2b : decide ((D.length : Int) ≤ a1) = false := decide_eq_false c2
      rw [if_neg (by omega)] at h
      obtain rfl := Option.some.inj h
      clear h
      have p1 : 0 ≤ (D.length : Int) - 1 - a1 := by omega
      have p2 : (D.length : Int) - 1 - a1 < D.length := by omega
      have p3 : ((D.length : Int) - 1 - a1).toNat = D.length - 1 - a1.toNat := by omega
      go_enter Try.func64, Try.ntmps64
      go_wp2_with (first | (go_at_call 91; (with_reducible refine (cl _).mono ?_); rintro e w' ⟨g, s, rfl, hc, hb⟩; replace hc := hc (D.length - 1 - a1.toNat) (by omega)))
      go_ret
      exact ⟨rfl, below_step (below_alloc (Below.refl _ _) _) hb⟩
theorem drop_set (L : List Int) (s j : Nat) (v : Int) : (L.set (s + j) v).drop s = (L.drop s).set j v := by
  rw [List.drop_set, if_neg (by omega), Nat.add_sub_cancel_left]
theorem set_asc (D : List Int) (j : Nat) (hj : j < D.length) : (asc (D.take j) ++ D.drop j).set j (D.getD j 0 + 48) = asc (D.take (j + 1)) ++ D.drop (j + 1) := by
  have l : (asc (D.take j)).length = j := by simp [asc]; omega
  have e : D.getD j 0 = D[j] := by rw [List.getD_eq_getElem?_getD, List.getElem?_eq_getElem hj]; rfl
  rw [List.set_append_right _ _ (by omega), l, Nat.sub_self, List.drop_eq_getElem_cons hj, List.set_cons_zero, List.take_succ_eq_append_getElem hj, e]
  unfold asc
  rw [List.map_append, List.append_assoc]
  rfl
set_option maxHeartbeats 4000000 in
set_option maxRecDepth 100000 in
theorem decimal_Text.calls (a0_0 a0_1 : Int) (r : ByteArray) (w : World) (h : decimal_Text.f a0_0 a0_1 = some r) :
    Calls Try.prog 78 #[.agg #[.int .u64 a0_0, .int .u64 a0_1]] w fun e w' => e = .returned (.string r) ∧ Below w.heap.size w w' := by
  have hu : U64 a0_0 ∧ U64 a0_1 := by
    unfold decimal_Text.f at h
    split at h
    · assumption
    · cases h
  rw [text_num _ _ hu.1 hu.2] at h
  obtain rfl := Option.some.inj h
  clear h
  have D1 := dec_facts (val a0_0 a0_1) (val_range _ _ hu.1 hu.2).1 (val_range _ _ hu.1 hu.2).2
  have cl := decimal_digits_calls a0_0 a0_1 hu.1 hu.2
  generalize dec (val a0_0 a0_1) = D at *
  obtain ⟨_, dD, l0, l1⟩ := D1
  go_enter Try.func78, Try.ntmps78
  go_wp2_with (first | (go_at_call 91; (with_reducible refine (cl _).mono ?_); rintro e w' ⟨g, s, L, rfl, hg, hge, hl, hs, hd, hb⟩; rw [World.size_alloc] at hge; have HB0 := Aside0.mk (below_step (below_alloc (Below.refl _ _) _) hb); clear hb; have HG := Aside0.mk hg; clear hg))
  go_loopg [9] 40 (fun gk v9 W => ∃ (j : Nat) (L : List Int), v9 = .int .i64 (j : Int) ∧ Aside0 (j ≤ D.length ∧ D.length ≤ j + gk) ∧ Aside0 (L.length = 39) ∧ Aside0 (L.drop s = asc (D.take j) ++ D.drop j) ∧ Aside0 (W.heap[g]? = some (.cells (nums .u8 L).toArray 124 (0, 0))) ∧ Aside0 (Below w.heap.size w W))
  case atStart => exact ⟨0, L, rfl, ⟨by omega, by omega⟩, ⟨hl⟩, ⟨by rw [hd]; rfl⟩, HG, HB0⟩
  case round =>
    clear HG HB0 hd hl cl
    obtain ⟨j, L, rfl, J, hl, hd, HG, HB⟩ := hrel
    by_cases c : j < D.length
    · have cb : decide ((j : Int) < (D.length : Int)) = true := decide_eq_true (by omega)
      obtain ⟨gi, rfl⟩ : ∃ g, gk = g + 1 := ⟨gk - 1, by have := J.out; omega⟩
      have fz := blk_frozen HG.out (s + j)
      have q : L.getD (s + j) 0 = D.getD j 0 := by
        have e : L.getD (s + j) 0 = (L.drop s).getD j 0 := by rw [List.getD_eq_getElem?_getD, List.getD_eq_getElem?_getD, List.getElem?_drop]
        have l : (asc (D.take j)).length = j := by simp [asc]; omega
        rw [e, hd.out, List.getD_eq_getElem?_getD, List.getElem?_append_right (by omega), l, Nat.sub_self, List.getElem?_drop, Nat.add_zero, List.getD_eq_getElem?_getD]
      have cz := (blk_cell HG.out (s + j)).trans (cell_nums L (s + j) (by have := hl.out; omega))
      rw [q] at cz
      have dz : 0 ≤ D.getD j 0 ∧ D.getD j 0 < 10 := by
        rw [List.getD_eq_getElem?_getD, List.getElem?_eq_getElem c]
        exact dD _ (List.getElem_mem c)
      have sa := set_asc D j c
      generalize D.getD j 0 = z at *
      have wz : IntKind.u8.wrap (z + 48) = z + 48 := by rw [IntKind.wrap_u8]; omega
      go_wp2
      go_roundg gi
      case measure => omega
      case rel =>
        refine ⟨j + 1, L.set (s + j) (z + 48), ?_, ⟨?_⟩, ⟨?_⟩, ⟨?_⟩, ⟨?_⟩, ⟨?_⟩⟩
        · rw [show ((j + 1 : Nat) : Int) = (j : Int) + 1 from by omega]
        · have := J.out; omega
        · rw [List.length_set]; exact hl.out
        · rw [drop_set, hd.out, sa]
        · exact blk_put HG.out _ _ (set_nums ..)
        · exact below_set HB.out (by omega)
    · have cb : decide ((j : Int) < (D.length : Int)) = false := decide_eq_false (by omega)
      obtain rfl : j = D.length := by have := J.out; omega
      have hd' : L.drop s = asc D := by rw [hd.out, List.take_length, List.drop_length, List.append_nil]
      have la : (asc D).length = D.length := by simp [asc]
      have cv := run_convert_bytes_arg (P := Try.prog) wr 99 5 Try.underlying99 Try.underlying5 g s D.length D.length (asc D) la (fun i hi => by
        have e1 := (blk_cell HG.out (s + i)).trans (cell_nums L (s + i) (by have := hl.out; omega))
        rw [e1, ← hd', List.getD_eq_getElem?_getD, List.getD_eq_getElem?_getD, List.getElem?_drop]) 9 Try.underlying9
      go_wp2
      go_ret
      exact ⟨rfl, HB.out⟩
end Go.Proofs.Ytpkjpiphjdpegaa.P
