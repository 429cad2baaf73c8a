/- A program of this session wrote this text out of the session's own texts. (part 5 of 6) -/
import Derived.Test.YtpkjpiphjdpegaaCDecimalTexts4
namespace Go.Proofs.Ytpkjpiphjdpegaa.P
open Go.RowKit Go.Proofs.YtpkjpiphjdpegaaW.PrintWords Go.Proofs.YtpkjpiphjdpegaaW.PrintLast Go.Proofs.YtpkjpiphjdpegaaW.PrintMore
set_option linter.unusedVariables false
set_option linter.unusedSimpArgs false
theorem u_ten : U64 10 := ⟨by omega, by omega⟩
theorem refText_step (k : Nat) (a b : Int) (ha : U64 a) (hb : U64 b) : paymasterref02_Text.f (k + 180 + 1) a b = if val a b < 10 then some (strOfNums (asc [val a b])) else (paymasterref02_Text.f (k + 180) (hiOf (val a b / 10)) (loOf (val a b / 10))).bind fun t => if t.size + 1 ≤ 9223372036854775807 then some (t ++ strOfNums (asc [val a b % 10])) else none := by
  obtain ⟨v0, v1⟩ := val_range a b ha hb
  rw [paymasterref02_Text.f, refOver_is k a b 10 ha hb u_ten, over_num a b 10 ha hb u_ten (by omega), Option.bind_some, Option.bind_some]
  generalize val a b = v at *
  have e : (48 + v % 10 % 256) % 256 = v % 10 + 48 := by omega
  have s : (strOfNums [v % 10 + 48]).size = 1 := by rw [strOfNums_size]; rfl
  by_cases h : v < 10
  · have q : v / 10 = 0 := by omega
    have r : v % 10 = v := by omega
    rw [r] at e
    rw [if_pos h, q, if_pos (show (hiOf 0 == 0 && loOf 0 == 0) = true from rfl)]
    simp only [r, e]
    rfl
  · have n : (hiOf (v / 10) == 0 && loOf (v / 10) == 0) = false := by
      rw [Bool.and_eq_false_iff, beq_eq_false_iff_ne, beq_eq_false_iff_ne]
      unfold hiOf loOf
      omega
    rw [if_neg h]
    simp only [n, e, s]
    rw [if_neg (by simp)]
    rfl
theorem refText_dec : ∀ (f : Nat) (a b : Int), U64 a → U64 b → val a b < 10 ^ (f + 1) → f ≤ 100 → ∀ k, paymasterref02_Text.f (k + f + 181) a b = some (strOfNums (asc (decF f (val a b))))
  | 0, a, b, ha, hb, hv, hf, k => by
    rw [Int.pow_succ, Int.pow_zero] at hv
    refine (refText_step k a b ha hb).trans ?_
    rw [if_pos (by omega)]
    rfl
  | f + 1, a, b, ha, hb, hv, hf, k => by
    obtain ⟨v0, v1⟩ := val_range a b ha hb
    rw [Int.pow_succ] at hv
    refine (refText_step (k + f + 1) a b ha hb).trans ?_
    unfold decF
    by_cases h : val a b < 10
    · rw [if_pos h, if_pos h]
    · obtain ⟨u1, u2⟩ := u_hiOf (val a b / 10) (by omega) (by omega)
      have ih := refText_dec f _ _ u1 u2 (by rw [val_halves]; omega) (by omega) k
      rw [val_halves] at ih
      have l := (dec_len f (val a b / 10)).2
      rw [if_neg h, if_neg h, show k + f + 1 + 180 = k + f + 181 from by omega, ih, Option.bind_some, strOfNums_size, if_pos (by simp only [asc, List.length_map]; omega), str_append]
      unfold asc
      rw [List.map_append]
theorem refText_is (k : Nat) (a b : Int) (ha : U64 a) (hb : U64 b) : paymasterref02_Text.f (k + 219) a b = decimal_Text.f a b := by
  obtain ⟨v0, v1⟩ := val_range a b ha hb
  have := m39
  rw [text_num a b ha hb]
  exact refText_dec 38 a b ha hb (by omega) (by omega) k
def bad (c : Int) : Bool := decide (c < 48) || decide (c > 57)
theorem nb_drop (s : ByteArray) (i : Nat) (h : i < s.size) : (nb s).drop i = bt s (i : Int) :: (nb s).drop (i + 1) := by
  rw [List.drop_eq_getElem_cons (by rw [nb_length]; exact h), bt_nb, List.getD_eq_getElem?_getD, List.getElem?_eq_getElem (by rw [nb_length]; exact h)]
  rfl
theorem refParse_l0 (s : ByteArray) (hs : s.size ≤ 1000000000) (k : Nat) : ∀ (t i : Nat), i + t = s.size → paymasterref02_Parse.l0 (k + 1 + t) s (i : Int) 0 0 = if ((nb s).drop i).any bad = true then some (0, 0, 20) else paymasterref02_Parse.l0 (k + 1) s (s.size : Int) 0 0
  | 0, i, h => by
    obtain rfl : i = s.size := by omega
    rw [List.drop_of_length_le (by rw [nb_length]; omega)]
    rfl
  | t + 1, i, h => by
    have ih := refParse_l0 s hs k t (i + 1) (by omega)
    rw [nb_drop s i (by omega), List.any_cons]
    show paymasterref02_Parse.l0 (k + 1 + t + 1) s (i : Int) 0 0 = _
    rw [paymasterref02_Parse.l0, if_pos (by omega), if_pos (by omega)]
    by_cases h1 : bt s (i : Int) < 48
    · rw [if_pos h1, show bad (bt s (i : Int)) = true from by unfold bad; simp [h1], if_pos (by simp)]
    · rw [if_neg h1]
      by_cases h2 : bt s (i : Int) > 57
      · rw [if_pos h2, show bad (bt s (i : Int)) = true from by unfold bad; simp [h2], if_pos (by simp)]
      · rw [if_neg h2, show bad (bt s (i : Int)) = false from by unfold bad; rw [decide_eq_false h1, decide_eq_false h2]; rfl, Bool.false_or, wi _ (by omega) (by omega), show ((i : Int) + 1) = ((i + 1 : Nat) : Int) from by omega, ih]
theorem fold_ge (l : List Int) (a : Int) (ha : 0 ≤ a) (hl : Dig l) : a ≤ l.foldl (fun a d => a * 10 + d) a := by
  have h := (valD_range l hl).1
  unfold valD at h
  rw [fold_cons]
  have p := ten_pos l.length
  have : a * 1 ≤ a * 10 ^ l.length := Int.mul_le_mul_of_nonneg_left (by omega) ha
  omega
theorem refParse_l1 (s : ByteArray) (hs : s.size ≤ 1000000000) (hd : Dig (unasc (nb s))) (k : Nat) : ∀ (t i : Nat) (v : Int), i + t = s.size → 0 ≤ v → v < m128 → paymasterref02_Parse.l1 (k + 721 + t) s (i : Int) 0 0 (hiOf v) (loOf v) =
    if (unasc ((nb s).drop i)).foldl (fun a d => a * 10 + d) v < m128 then some (hiOf ((unasc ((nb s).drop i)).foldl (fun a d => a * 10 + d) v), loOf ((unasc ((nb s).drop i)).foldl (fun a d => a * 10 + d) v), 0) else some (0, 0, 10)
  | 0, i, v, h, v0, v1 => by
    rw [List.drop_of_length_le (by rw [nb_length]; omega)]
    show paymasterref02_Parse.l1 (k + 720 + 1) s (i : Int) 0 0 (hiOf v) (loOf v) = if v < m128 then _ else _
    rw [paymasterref02_Parse.l1, if_neg (by omega), if_pos v1]
    rfl
  | t + 1, i, v, h, v0, v1 => by
    have dr := nb_drop s i (by omega)
    have hd' : Dig (unasc ((nb s).drop (i + 1))) := by
      intro d h
      obtain ⟨c, hc, rfl⟩ := List.mem_map.1 h
      exact hd _ (List.mem_map.2 ⟨c, List.mem_of_mem_drop hc, rfl⟩)
    have hb : 0 ≤ bt s (i : Int) - 48 ∧ bt s (i : Int) - 48 < 10 := by
      refine hd _ (List.mem_map.2 ⟨bt s (i : Int), ?_, rfl⟩)
      refine List.mem_of_mem_drop (i := i) ?_
      rw [dr]
      exact List.mem_cons_self ..
    obtain ⟨u1, u2⟩ := u_hiOf v v0 v1
    have e : (unasc ((nb s).drop i)).foldl (fun a d => a * 10 + d) v = (unasc ((nb s).drop (i + 1))).foldl (fun a d => a * 10 + d) (v * 10 + (bt s (i : Int) - 48)) := by
      rw [dr]
      rfl
    rw [e]
    obtain ⟨D, hD⟩ : ∃ D, unasc ((nb s).drop (i + 1)) = D := ⟨_, rfl⟩
    rw [hD] at hd' ⊢
    have T := refTimes_is (k + t + 1) (hiOf v) (loOf v) 10 u1 u2 u_ten
    rw [times_num _ _ _ u1 u2 u_ten, val_halves] at T
    show paymasterref02_Parse.l1 (k + 721 + t + 1) s (i : Int) 0 0 (hiOf v) (loOf v) = _
    rw [paymasterref02_Parse.l1, if_pos (by omega), show k + 721 + t = k + t + 1 + 720 from by omega, T]
    by_cases c : v * 10 < m128
    · obtain ⟨w1, w2⟩ := u_hiOf (v * 10) (by omega) c
      have hx : U64 ((bt s (i : Int) - 48) % 256) := ⟨by omega, by omega⟩
      have A := refAdd_is (k + t + 671) (hiOf (v * 10)) (loOf (v * 10)) 0 ((bt s (i : Int) - 48) % 256) w1 w2 u0 hx
      rw [add_num _ _ _ _ w1 w2 u0 hx, val_halves, small_val, show (bt s (i : Int) - 48) % 256 = bt s (i : Int) - 48 from by omega] at A
      rw [if_pos c, Option.bind_some, if_pos rfl, if_pos (by omega), show k + t + 1 + 720 = k + t + 671 + 50 from by omega]
      simp only [show (bt s (i : Int) - 48) % 256 = bt s (i : Int) - 48 from by omega]
      rw [A]
      by_cases c2 : v * 10 + (bt s (i : Int) - 48) < m128
      · have ih := refParse_l1 s hs hd k t (i + 1) (v * 10 + (bt s (i : Int) - 48)) (by omega) (by omega) c2
        rw [if_pos c2, Option.bind_some, if_pos rfl, wi _ (by omega) (by omega), show ((i : Int) + 1) = ((i + 1 : Nat) : Int) from by omega, show k + t + 671 + 50 = k + 721 + t from by omega, ih, hD]
      · have := fold_ge D (v * 10 + (bt s (i : Int) - 48)) (by omega) hd'
        rw [if_neg c2, Option.bind_some, if_neg (by simp), if_neg (by omega)]
    · have := fold_ge D (v * 10 + (bt s (i : Int) - 48)) (by omega) hd'
      rw [if_neg c, Option.bind_some, if_neg (by simp), if_neg (by omega)]
theorem refParse_is (s : ByteArray) (hs : s.size ≤ 1000000000) (k : Nat) : paymasterref02_Parse.f (k + 2 * s.size + 723) s = decimal_Parse.f s := by
  rw [parse_num s hs]
  unfold paymasterref02_Parse.f parseOf noNum
  have e : k + 2 * s.size + 723 = (k + s.size + 723) + s.size := by omega
  have A := refParse_l0 s hs (k + s.size + 722) s.size 0 (by omega)
  rw [e]
  refine A.trans ?_
  rw [List.drop_zero]
  have hb : (nb s).any (fun c => decide (c < 48) || decide (c > 57)) = (nb s).any bad := rfl
  rw [hb]
  by_cases h1 : (nb s).any bad = true
  · rw [if_pos h1, h1, Bool.or_true, Bool.true_or, if_pos rfl]
  · have h1' : (nb s).any bad = false := by simpa using h1
    rw [if_neg h1, h1', Bool.or_false]
    have hd : Dig (unasc (nb s)) := by
      intro d hd
      obtain ⟨c, hc, rfl⟩ := List.mem_map.1 hd
      have := (List.any_eq_false.1 h1') c hc
      unfold bad at this
      simp at this
      omega
    have nl := nb_length s
    show paymasterref02_Parse.l0 (k + s.size + 722 + 1) s (s.size : Int) 0 0 = _
    rw [paymasterref02_Parse.l0, if_neg (by omega)]
    have J : ∀ fl : Bool, paymasterref02_Parse.j1 (k + s.size + 722) s fl 0 0 = if fl = true then some (0, 0, 20) else if valD (unasc (nb s)) < m128 then some (hiOf (valD (unasc (nb s))), loOf (valD (unasc (nb s))), 0) else some (0, 0, 10) := by
      intro fl
      show paymasterref02_Parse.j1 (k + s.size + 721 + 1) s fl 0 0 = _
      rw [paymasterref02_Parse.j1]
      cases fl with
      | true => rfl
      | false =>
        rw [if_neg (by simp), if_neg (by simp)]
        have L := refParse_l1 s hs hd k s.size 0 0 (by omega) (by omega) (by unfold m128; omega)
        rw [List.drop_zero] at L
        rw [show k + s.size + 721 = k + 721 + s.size from by omega]
        exact L
    have fin : ∀ fl : Bool, (if fl = true then some (0, 0, 20) else if valD (unasc (nb s)) < m128 then some (hiOf (valD (unasc (nb s))), loOf (valD (unasc (nb s))), (0 : Int)) else some (0, 0, 10)) = some (if fl = true then (0, 0, 20) else if valD (unasc (nb s)) < m128 then (hiOf (valD (unasc (nb s))), loOf (valD (unasc (nb s))), 0) else (0, 0, 10)) := by
      intro fl
      by_cases c : valD (unasc (nb s)) < m128 <;> cases fl <;> simp [c]
    by_cases h2 : (s.size : Int) = 0
    · rw [if_pos h2, J, fin]
      have : nb s = [] := List.eq_nil_of_length_eq_zero (by omega)
      rw [this]
      rfl
    · rw [if_neg h2]
      have ne : (nb s).isEmpty = false := by
        cases hn : nb s with
        | nil => rw [hn] at nl; simp at nl; omega
        | cons x t => rfl
      rw [ne, Bool.false_or]
      by_cases h3 : (s.size : Int) > 1
      · rw [if_pos h3, if_pos (by omega), J, fin, decide_eq_true (show 1 < (nb s).length by omega), Bool.true_and]
        have : (bt s 0 == 48) = ((nb s).head? == some 48) := by
          have := bt_nb s 0
          rw [show ((0 : Nat) : Int) = 0 from rfl] at this
          rw [this]
          cases hn : nb s with
          | nil => rw [hn] at nl; simp at nl; omega
          | cons x t => simp
        rw [this]
      · rw [if_neg h3, J, fin, decide_eq_false (show ¬ 1 < (nb s).length by omega), Bool.false_and]
end Go.Proofs.Ytpkjpiphjdpegaa.P
namespace Go.Proofs.Ytpkjpiphjdpegaa.P
open Go.RowKit Go.Proofs.YtpkjpiphjdpegaaW.PrintWords Go.Proofs.YtpkjpiphjdpegaaW.PrintLast Go.Proofs.YtpkjpiphjdpegaaW.PrintMore
attribute [local go_sem] max2_int min2_int max_two min_two max_three min_three max_four min_four
set_option linter.unusedVariables false
set_option linter.unusedSimpArgs false
def paymasterref02_Grouped.l0 : Nat → ByteArray → ByteArray → Int → Option (ByteArray)
  | 0, _, _, _ => none
  | k + 1, x3, x4, x5 => if x5 < (x3.size : Int) then (if x5 > 0 then (if (Int.tmod (wrap64 ((x3.size : Int) - x5)) 3) = 0 then (if x4.size + 1 ≤ 9223372036854775807 then (if 0 ≤ x5 then (if x5 ≤ (wrap64 (x5 + 1)) then (if (wrap64 (x5 + 1)) ≤ (x3.size : Int) then (if (x4 ++ (⟨#[95]⟩ : ByteArray)).size + (x3.extract (x5 : Int).toNat ((wrap64 (x5 + 1)) : Int).toNat).size ≤ 9223372036854775807 then (paymasterref02_Grouped.l0 k x3 ((x4 ++ (⟨#[95]⟩ : ByteArray)) ++ (x3.extract (x5 : Int).toNat ((wrap64 (x5 + 1)) : Int).toNat)) (wrap64 (x5 + 1))) else (none)) else (none)) else (none)) else (none)) else (none)) else (if 0 ≤ x5 then (if x5 ≤ (wrap64 (x5 + 1)) then (if (wrap64 (x5 + 1)) ≤ (x3.size : Int) then (if x4.size + (x3.extract (x5 : Int).toNat ((wrap64 (x5 + 1)) : Int).toNat).size ≤ 9223372036854775807 then (paymasterref02_Grouped.l0 k x3 (x4 ++ (x3.extract (x5 : Int).toNat ((wrap64 (x5 + 1)) : Int).toNat)) (wrap64 (x5 + 1))) else (none)) else (none)) else (none)) else (none))) else (if 0 ≤ x5 then (if x5 ≤ (wrap64 (x5 + 1)) then (if (wrap64 (x5 + 1)) ≤ (x3.size : Int) then (if x4.size + (x3.extract (x5 : Int).toNat ((wrap64 (x5 + 1)) : Int).toNat).size ≤ 9223372036854775807 then (paymasterref02_Grouped.l0 k x3 (x4 ++ (x3.extract (x5 : Int).toNat ((wrap64 (x5 + 1)) : Int).toNat)) (wrap64 (x5 + 1))) else (none)) else (none)) else (none)) else (none))) else (some x4)
def paymasterref02_Grouped.f (k : Nat) (a0_0 : Int) (a0_1 : Int) : Option (ByteArray) := (paymasterref02_Text.f k a0_0 a0_1).bind fun t1672 => (paymasterref02_Grouped.l0 k t1672 (⟨#[]⟩ : ByteArray) 0)
set_option maxHeartbeats 8000000 in
set_option maxRecDepth 100000 in
theorem paymasterref02_Grouped.calls (k : Nat) (a0_0 : Int) (a0_1 : Int) (r : ByteArray) (w : World) (h : paymasterref02_Grouped.f k a0_0 a0_1 = some r) :
    Calls Try.prog 80 #[.agg #[.int .u64 a0_0, .int .u64 a0_1]] w fun e w' => e = .returned (.string r) ∧ Below w.heap.size w w' := by
  have hu25 := Try.underlying25
  have HB := Aside0.mk (Below.refl w.heap.size w)
  have H : ((paymasterref02_Text.f k a0_0 a0_1).bind fun t1672 => (paymasterref02_Grouped.l0 k t1672 (⟨#[]⟩ : ByteArray) 0)) = some r := h
  clear h
  replace H := Option.bind_eq_some_iff.mp H
  obtain ⟨t1672, A20, H⟩ := H
  replace H : (paymasterref02_Grouped.l0 k t1672 (⟨#[]⟩ : ByteArray) 0) = some r := H
  have A2 := Aside0.mk A20
  clear A20
  have H' := Aside0.mk H
  clear H
  go_enter Try.func80, Try.ntmps80
  go_wp2_with (first | ((with_reducible refine gate_dst (N := 1) rfl ?_); (try (refine gate_guard (by rfl) ?_; dsimp only)); refine box_event ?hg (N := 1) ?hd (cs := #[.int .u64 a0_0, .int .u64 a0_1]) (t := 25) ?hr ?_; (case hd => rfl); (case hg => rfl); (case hr => first | (go_simp; done) | (go_simp; rfl)); intro gb1671 hg w3 hbox hb; have n0_ := Aside0.mk (below_step (by repeat (first | (with_reducible first | exact HB.out | apply below_alloc | apply pw_below_drewN | apply below_drew1) | exact HB.out)) hb); have n1_ := Aside0.mk (hbox); have n2_ := Aside0.mk ((by rw [hg]; exact (below_size (by repeat (first | (with_reducible first | exact HB.out | apply below_alloc | apply pw_below_drewN | apply below_drew1) | exact HB.out))) : w.heap.size ≤ gb1671)); have n3_ := Aside0.mk ((by rw [hg]; exact (below_size (by repeat (first | (with_reducible first | exact HB.out | apply below_alloc | apply pw_below_drewN | apply below_drew1) | exact HB.out))) : w.heap.size ≤ gb1671)); clear HB; have HB := n0_; have BK1671 := n1_; have GW1671 := n2_; have GE1671 := n3_; clear n0_ n1_ n2_ n3_; clear hb hbox hg; have hcz4_0 : w3.cell? ⟨gb1671, 0, none⟩ = some (.int .u64 a0_0) := (blk_cell BK1671.out 0).trans rfl; have hcz4_1 : w3.cell? ⟨gb1671, 1, none⟩ = some (.int .u64 a0_1) := (blk_cell BK1671.out 1).trans rfl; have hfz4_0 := blk_frozen BK1671.out 0; have hfz4_1 := blk_frozen BK1671.out 1) | ((with_reducible refine gate_callee (f := 63) rfl ?_); refine goesL_ (some 7) rfl rfl Try.func63 (by kernel_rfl) rfl #[.agg #[.int .u64 a0_0, .int .u64 a0_1]] rfl (by (try simp only [List.map_toArray, List.map_cons, List.map_nil]); first | done | rfl | (simp only [List.length_drop, List.length_take]; rfl)) ?_; (with_reducible refine (paymasterref02_Text.calls k a0_0 a0_1 t1672 _ A2.out).mono ?_); rintro e w5 ⟨rfl, hb⟩; refine ⟨_, rfl, ?_⟩; have n0_ := Aside0.mk (blk_below (g := gb1671) (o := .cells #[.int .u64 a0_0, .int .u64 a0_1] 25 (0, 0)) (by (with_reducible repeat (first | refine blk_drewN ?_ _ | refine blk_drew ?_ | refine blk_alloc ?_ _)); exact BK1671.out) hb); have n1_ := Aside0.mk (below_step (by repeat (first | (with_reducible first | exact HB.out | apply below_alloc | apply pw_below_drewN | apply below_drew1 | refine below_set ?_ GE1671.out) | exact HB.out)) hb); clear BK1671; clear HB; have BK1671 := n0_; have HB := n1_; clear n0_ n1_; (try clear hb); (try clear hb2); (try clear hk); (try clear hi)))
  go_loopg [4, 5] k (fun kq v4 v5 w' => ∃ (x4_1 : ByteArray) (x5_1 : Int), v4 = .string x4_1 ∧ v5 = .int .i64 x5_1 ∧ Aside0 (paymasterref02_Grouped.l0 kq t1672 x4_1 x5_1 = some r) ∧ Aside0 (kq ≤ k) ∧ Aside0 (w'.heap[gb1671]? = some (.cells #[.int .u64 a0_0, .int .u64 a0_1] 25 (0, 0))) ∧ Aside0 (Below w.heap.size w w'))
  case atStart => exact ⟨((⟨#[]⟩ : ByteArray)), (0), (by first | rfl | (simp; done) | (simp [*]; done)), (by first | rfl | (simp; done) | (simp [*]; done)), H', ⟨Nat.le_refl _⟩, ⟨by (with_reducible repeat (first | refine blk_drewN ?_ _ | refine blk_drew ?_ | refine blk_alloc ?_ _)); exact BK1671.out⟩, ⟨by repeat (first | (with_reducible first | exact HB.out | apply below_alloc | apply pw_below_drewN | apply below_drew1 | refine below_set ?_ GE1671.out) | exact HB.out)⟩⟩
  case round =>
    clear H'
    try clear p2
    try clear hcz4_0
    try clear hcz4_1
    try clear hfz4_0
    try clear hfz4_1
    obtain ⟨x4_1, x5_1, rfl, rfl, HA, HK1, BK1671, HB⟩ := hrel
    cases gk with
    | zero => exact absurd HA.out (by simp [paymasterref02_Grouped.l0])
    | succ k1 =>
      have H := HA.out
      clear HA
      simp only [paymasterref02_Grouped.l0] at H
      by_cases c6 : x5_1 < (t1672.size : Int)
      · rw [if_pos c6] at H
        have c6b0 : decide (x5_1 < (t1672.size : Int)) = true := decide_eq_true c6
        clear c6
        by_cases c7 : x5_1 > 0
        · rw [if_pos c7] at H
          have c7b0 : decide (0 < x5_1) = true := decide_eq_true c7
          clear c7
          by_cases c8 : (Int.tmod (wrap64 ((t1672.size : Int) - x5_1)) 3) = 0
          · rw [if_pos c8] at H
            have c8b0 : ((Int.tmod (wrap64 ((t1672.size : Int) - x5_1)) 3) == 0) = true := beq_iff_eq.mpr c8
            have c8b1 : ((Int.tmod (wrap64 ((t1672.size : Int) - x5_1)) 3) != 0) = false := bne_eq_false_iff_eq.mpr c8
            clear c8
            by_cases c9 : x4_1.size + 1 ≤ 9223372036854775807
            · rw [if_pos c9] at H
              have c9b0 := eq_true c9
              have c9b1 : decide (x4_1.size + 1 ≤ 9223372036854775807) = true := decide_eq_true c9
              try have c9b2 : (9223372036854775807 < x4_1.size + 1) = False := eq_false (Nat.not_lt.2 c9)
              by_cases c10 : 0 ≤ x5_1
              · rw [if_pos c10] at H
                have c10b0 := eq_true c10
                have c10b1 : decide (0 ≤ x5_1) = true := decide_eq_true c10
                clear c10
                by_cases c11 : x5_1 ≤ (wrap64 (x5_1 + 1))
                · rw [if_pos c11] at H
                  have c11b0 := eq_true c11
                  have c11b1 : decide (x5_1 ≤ (wrap64 (x5_1 + 1))) = true := decide_eq_true c11
                  by_cases c12 : (wrap64 (x5_1 + 1)) ≤ (t1672.size : Int)
                  · rw [if_pos c12] at H
                    have c12b0 := eq_true c12
                    have c12b1 : decide ((wrap64 (x5_1 + 1)) ≤ (t1672.size : Int)) = true := decide_eq_true c12
                    by_cases c13 : (x4_1 ++ (⟨#[95]⟩ : ByteArray)).size + (t1672.extract (x5_1 : Int).toNat ((wrap64 (x5_1 + 1)) : Int).toNat).size ≤ 9223372036854775807
                    · rw [if_pos c13] at H
                      have c13b0 := eq_true c13
                      have c13b1 : decide ((x4_1 ++ (⟨#[95]⟩ : ByteArray)).size + (t1672.extract (x5_1 : Int).toNat ((wrap64 (x5_1 + 1)) : Int).toNat).size ≤ 9223372036854775807) = true := decide_eq_true c13
                      try have c13b2 : (9223372036854775807 < (x4_1 ++ (⟨#[95]⟩ : ByteArray)).size + (t1672.extract (x5_1 : Int).toNat ((wrap64 (x5_1 + 1)) : Int).toNat).size) = False := eq_false (Nat.not_lt.2 c13)
                      have H' := Aside0.mk H
                      clear H
                      go_wp2
                      go_roundg k1
                      case measure => have := HK1.out; omega
                      case rel => exact ⟨((x4_1 ++ (⟨#[95]⟩ : ByteArray)) ++ (t1672.extract (x5_1 : Int).toNat ((wrap64 (x5_1 + 1)) : Int).toNat)), (wrap64 (x5_1 + 1)), (by first | rfl | (simp; done) | (simp [*]; done)), (by first | rfl | (simp; done) | (simp [*]; done)), H', ⟨by have := HK1.out; omega⟩, ⟨by (with_reducible repeat (first | refine blk_drewN ?_ _ | refine blk_drew ?_ | refine blk_alloc ?_ _)); exact BK1671.out⟩, ⟨by repeat (first | (with_reducible first | exact HB.out | apply below_alloc | apply pw_below_drewN | apply below_drew1 | refine below_set ?_ GE1671.out) | exact HB.out)⟩⟩
                    · rw [if_neg c13] at H
                      exact absurd H (by simp)
                  · rw [if_neg c12] at H
                    exact absurd H (by simp)
                · rw [if_neg c11] at H
                  exact absurd H (by simp)
              · rw [if_neg c10] at H
                exact absurd H (by simp)
            · rw [if_neg c9] at H
              exact absurd H (by simp)
          · rw [if_neg c8] at H
            have c8b0 : ((Int.tmod (wrap64 ((t1672.size : Int) - x5_1)) 3) == 0) = false := beq_eq_false_iff_ne.mpr c8
            have c8b1 : ((Int.tmod (wrap64 ((t1672.size : Int) - x5_1)) 3) != 0) = true := bne_iff_ne.mpr c8
            by_cases c14 : 0 ≤ x5_1
            · rw [if_pos c14] at H
              have c14b0 := eq_true c14
              have c14b1 : decide (0 ≤ x5_1) = true := decide_eq_true c14
              clear c14
              by_cases c15 : x5_1 ≤ (wrap64 (x5_1 + 1))
              · rw [if_pos c15] at H
                have c15b0 := eq_true c15
                have c15b1 : decide (x5_1 ≤ (wrap64 (x5_1 + 1))) = true := decide_eq_true c15
                by_cases c16 : (wrap64 (x5_1 + 1)) ≤ (t1672.size : Int)
                · rw [if_pos c16] at H
                  have c16b0 := eq_true c16
                  have c16b1 : decide ((wrap64 (x5_1 + 1)) ≤ (t1672.size : Int)) = true := decide_eq_true c16
                  by_cases c17 : x4_1.size + (t1672.extract (x5_1 : Int).toNat ((wrap64 (x5_1 + 1)) : Int).toNat).size ≤ 9223372036854775807
                  · rw [if_pos c17] at H
                    have c17b0 := eq_true c17
                    have c17b1 : decide (x4_1.size + (t1672.extract (x5_1 : Int).toNat ((wrap64 (x5_1 + 1)) : Int).toNat).size ≤ 9223372036854775807) = true := decide_eq_true c17
                    try have c17b2 : (9223372036854775807 < x4_1.size + (t1672.extract (x5_1 : Int).toNat ((wrap64 (x5_1 + 1)) : Int).toNat).size) = False := eq_false (Nat.not_lt.2 c17)
                    have H' := Aside0.mk H
                    clear H
                    go_wp2
                    go_roundg k1
                    case measure => have := HK1.out; omega
                    case rel => exact ⟨(x4_1 ++ (t1672.extract (x5_1 : Int).toNat ((wrap64 (x5_1 + 1)) : Int).toNat)), (wrap64 (x5_1 + 1)), (by first | rfl | (simp; done) | (simp [*]; done)), (by first | rfl | (simp; done) | (simp [*]; done)), H', ⟨by have := HK1.out; omega⟩, ⟨by (with_reducible repeat (first | refine blk_drewN ?_ _ | refine blk_drew ?_ | refine blk_alloc ?_ _)); exact BK1671.out⟩, ⟨by repeat (first | (with_reducible first | exact HB.out | apply below_alloc | apply pw_below_drewN | apply below_drew1 | refine below_set ?_ GE1671.out) | exact HB.out)⟩⟩
                  · rw [if_neg c17] at H
                    exact absurd H (by simp)
                · rw [if_neg c16] at H
                  exact absurd H (by simp)
              · rw [if_neg c15] at H
                exact absurd H (by simp)
            · rw [if_neg c14] at H
              exact absurd H (by simp)
        · rw [if_neg c7] at H
          have c7b0 : decide (0 < x5_1) = false := decide_eq_false c7
          clear c7
          by_cases c18 : 0 ≤ x5_1
          · rw [if_pos c18] at H
            have c18b0 := eq_true c18
            have c18b1 : decide (0 ≤ x5_1) = true := decide_eq_true c18
            clear c18
            by_cases c19 : x5_1 ≤ (wrap64 (x5_1 + 1))
            · rw [if_pos c19] at H
              have c19b0 := eq_true c19
              have c19b1 : decide (x5_1 ≤ (wrap64 (x5_1 + 1))) = true := decide_eq_true c19
              by_cases c20 : (wrap64 (x5_1 + 1)) ≤ (t1672.size : Int)
              · rw [if_pos c20] at H
                have c20b0 := eq_true c20
                have c20b1 : decide ((wrap64 (x5_1 + 1)) ≤ (t1672.size : Int)) = true := decide_eq_true c20
                by_cases c21 : x4_1.size + (t1672.extract (x5_1 : Int).toNat ((wrap64 (x5_1 + 1)) : Int).toNat).size ≤ 9223372036854775807
                · rw [if_pos c21] at H
                  have c21b0 := eq_true c21
                  have c21b1 : decide (x4_1.size + (t1672.extract (x5_1 : Int).toNat ((wrap64 (x5_1 + 1)) : Int).toNat).size ≤ 9223372036854775807) = true := decide_eq_true c21
                  try have c21b2 : (9223372036854775807 < x4_1.size + (t1672.extract (x5_1 : Int).toNat ((wrap64 (x5_1 + 1)) : Int).toNat).size) = False := eq_false (Nat.not_lt.2 c21)
                  have H' := Aside0.mk H
                  clear H
                  go_wp2
                  go_roundg k1
                  case measure => have := HK1.out; omega
                  case rel => exact ⟨(x4_1 ++ (t1672.extract (x5_1 : Int).toNat ((wrap64 (x5_1 + 1)) : Int).toNat)), (wrap64 (x5_1 + 1)), (by first | rfl | (simp; done) | (simp [*]; done)), (by first | rfl | (simp; done) | (simp [*]; done)), H', ⟨by have := HK1.out; omega⟩, ⟨by (with_reducible repeat (first | refine blk_drewN ?_ _ | refine blk_drew ?_ | refine blk_alloc ?_ _)); exact BK1671.out⟩, ⟨by repeat (first | (with_reducible first | exact HB.out | apply below_alloc | apply pw_below_drewN | apply below_drew1 | refine below_set ?_ GE1671.out) | exact HB.out)⟩⟩
                · rw [if_neg c21] at H
                  exact absurd H (by simp)
              · rw [if_neg c20] at H
                exact absurd H (by simp)
            · rw [if_neg c19] at H
              exact absurd H (by simp)
          · rw [if_neg c18] at H
            exact absurd H (by simp)
      · rw [if_neg c6] at H
        have c6b0 : decide (x5_1 < (t1672.size : Int)) = false := decide_eq_false c6
        clear c6
        obtain rfl := Option.some.inj H
        go_wp2
        go_ret
        exact ⟨by first | rfl | (simp [errW_none, errW_some] <;> rfl) | (simp [*, errW_none, errW_some] <;> rfl), by repeat (first | (with_reducible first | exact HB.out | apply below_alloc | apply pw_below_drewN | apply below_drew1 | refine below_set ?_ GE1671.out) | exact HB.out)⟩
end Go.Proofs.Ytpkjpiphjdpegaa.P
namespace Go.Proofs.Ytpkjpiphjdpegaa.P
open Go.RowKit Go.Proofs.YtpkjpiphjdpegaaW.PrintWords Go.Proofs.YtpkjpiphjdpegaaW.PrintLast Go.Proofs.YtpkjpiphjdpegaaW.PrintMore
set_option linter.unusedVariables false
set_option linter.unusedSimpArgs false
def tailG (l : List Int) : List Int := if l.length % 3 = 0 ∧ l ≠ [] then 95 :: grp 95 l else grp 95 l
theorem grp_cons (x : Int) (l : List Int) : grp 95 (x :: l) = x :: tailG l := rfl
theorem refGrouped_l0 (A : List Int) (hA : A.length ≤ 100) (k : Nat) : ∀ (l p O : List Int), p ++ l = A → O.length ≤ 2 * p.length → paymasterref02_Grouped.l0 (k + 1 + l.length) (strOfNums A) (strOfNums O) (p.length : Int) = some (strOfNums (O ++ (if p = [] then grp 95 l else tailG l)))
  | [], p, O, h, hO => by
    have : A.length = p.length := by rw [← h]; simp
    show paymasterref02_Grouped.l0 (k + 1) _ _ _ = _
    simp only [paymasterref02_Grouped.l0]
    rw [if_neg (by rw [strOfNums_size]; omega)]
    have e : (if p = [] then grp 95 ([] : List Int) else tailG []) = [] := by
      by_cases c : p = []
      · rw [if_pos c]; rfl
      · rw [if_neg c]; simp [tailG, grp]
    rw [e, List.append_nil]
  | x :: l, p, O, h, hO => by
    have lA : A.length = p.length + l.length + 1 := by rw [← h]; simp; omega
    have ih := fun O' => refGrouped_l0 A hA k l (p ++ [x]) O' (by rw [← h]; simp)
    have pl : (p ++ [x]).length = p.length + 1 := by simp
    have pn : ¬ (p ++ [x] = []) := by simp
    show paymasterref02_Grouped.l0 (k + 1 + l.length + 1) _ _ _ = _
    simp only [paymasterref02_Grouped.l0]
    have ex : (strOfNums A).extract p.length (p.length + 1) = strOfNums [x] := by rw [← h]; exact str_one p l x
    have s1 : (strOfNums [x]).size = 1 := by rw [strOfNums_size]; rfl
    have w1 : wrap64 ((p.length : Int) + 1) = ((p.length + 1 : Nat) : Int) := by rw [wi _ (by omega) (by omega)]; omega
    have sA : (strOfNums A).size = A.length := strOfNums_size A
    have sO : (strOfNums O).size = O.length := strOfNums_size O
    have un : (⟨#[95]⟩ : ByteArray) = strOfNums [95] := rfl
    rw [w1, sA, sO, un, str_append, Int.toNat_natCast, Int.toNat_natCast, ex, s1, strOfNums_size, str_append, str_append]
    rw [pl] at ih
    rw [if_pos (by omega)]
    have lO : (O ++ [95]).length = O.length + 1 := by simp
    by_cases c : p = []
    · have p0 : p.length = 0 := by rw [c]; rfl
      rw [if_neg (show ¬ (p.length : Int) > 0 by omega), if_pos (show (0 : Int) ≤ (p.length : Int) by omega), if_pos (show (p.length : Int) ≤ ((p.length + 1 : Nat) : Int) by omega), if_pos (show ((p.length + 1 : Nat) : Int) ≤ (A.length : Int) by omega), if_pos (show O.length + 1 ≤ 9223372036854775807 by omega), if_pos c]
      refine (ih (O ++ [x]) (by simp; omega)).trans ?_
      rw [if_neg pn, grp_cons]
      simp
    · have pp : 0 < p.length := List.length_pos_iff.2 c
      have ln : (A.length : Int) - (p.length : Int) = ((x :: l).length : Int) := by simp; omega
      rw [if_pos (show (p.length : Int) > 0 by omega), ln, wi _ (by omega) (by omega), Int.tmod_eq_emod_of_nonneg (by omega), if_neg c]
      by_cases d : (x :: l).length % 3 = 0
      · have t1 : tailG (x :: l) = 95 :: x :: tailG l := by rw [tailG, if_pos ⟨d, by simp⟩, grp_cons]
        rw [if_pos (show ((x :: l).length : Int) % 3 = 0 by omega), if_pos (show O.length + 1 ≤ 9223372036854775807 by omega), if_pos (show (0 : Int) ≤ (p.length : Int) by omega), if_pos (show (p.length : Int) ≤ ((p.length + 1 : Nat) : Int) by omega), if_pos (show ((p.length + 1 : Nat) : Int) ≤ (A.length : Int) by omega), lO, if_pos (show O.length + 1 + 1 ≤ 9223372036854775807 by omega)]
        refine (ih (O ++ [95] ++ [x]) (by simp; omega)).trans ?_
        rw [if_neg pn, t1]
        simp
      · have t1 : tailG (x :: l) = x :: tailG l := by
          unfold tailG
          rw [if_neg (fun q => d q.1), grp_cons]
          rfl
        rw [if_neg (show ¬ ((x :: l).length : Int) % 3 = 0 by omega), if_pos (show (0 : Int) ≤ (p.length : Int) by omega), if_pos (show (p.length : Int) ≤ ((p.length + 1 : Nat) : Int) by omega), if_pos (show ((p.length + 1 : Nat) : Int) ≤ (A.length : Int) by omega), if_pos (show O.length + 1 ≤ 9223372036854775807 by omega)]
        refine (ih (O ++ [x]) (by simp; omega)).trans ?_
        rw [if_neg pn, t1]
        simp
theorem refGrouped_is (k : Nat) (a b : Int) (ha : U64 a) (hb : U64 b) : paymasterref02_Grouped.f (k + 219) a b = decimal_Grouped.f a b := by
  obtain ⟨v0, v1⟩ := val_range a b ha hb
  obtain ⟨e, d, l0, l1⟩ := dec_facts (val a b) v0 v1
  unfold paymasterref02_Grouped.f
  rw [refText_is k a b ha hb, text_num a b ha hb, Option.bind_some, grouped_num a b ha hb]
  have la : (asc (dec (val a b))).length = (dec (val a b)).length := by simp [asc]
  have G := refGrouped_l0 (asc (dec (val a b))) (by omega) (k + 218 - (asc (dec (val a b))).length) (asc (dec (val a b))) [] [] rfl (by simp)
  rw [show k + 218 - (asc (dec (val a b))).length + 1 + (asc (dec (val a b))).length = k + 219 from by omega] at G
  exact G
end Go.Proofs.Ytpkjpiphjdpegaa.P
