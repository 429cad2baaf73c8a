/- A program of this session wrote this text out of the session's own texts. (part 6 of 6) -/
import Derived.Test.YtpkjpiphjdpegaaCDecimalTexts5
import Derived.Ground.GgwProg
import Derived.Shelf.GgClosure.StringsIndexFuncTop
import Derived.Test.YtpkjpiphjdpegaaProg
import Derived.Laws.RangeAny
import Derived.Lib.ConvBytes
import Derived.Deep.RegionWith
import Derived.Shelf.Strings.OnBuilder
import Derived.Deep.RegionLaw
import Derived.Maps.AppendAt
import Derived.Laws.OwnMore
import Derived.Test.YtpkjpiphjdpegaaRows
import Derived.WalkKit
import Derived.ProofKit
import Derived.OpenShut
import Derived.ShutString
import Derived.ChangeOld
import Derived.Below
import Derived.SizedLaws
namespace Go.Proofs.Ytpkjpiphjdpegaa.P
open Go.Shelf Go.RowKit
def shGw17_ren : Go.Shelf.Ren := ⟨fun | 17 => 101 | 15 => 116 | 20 => 123 | n => n, fun | 9 => 9 | 23 => 115 | 4 => 4 | 3 => 3 | 0 => 0 | 21 => 21 | n => n, fun | n => n⟩
theorem shGw17 : Go.Proofs.LaysGw.n17 Try.prog shGw17_ren := {
  mixed := by kernel_rfl
  f15 := Try.func116.trans (congrArg some (by kernel_rfl))
  f17 := Try.func101.trans (congrArg some (by kernel_rfl))
  f20 := Try.func123.trans (congrArg some (by kernel_rfl))
  t0 := Try.underlying0
  a0 := Try.isAgg0
  z0 := Try.sizeOf0
  v0 := Try.zeroValue0
  i0 := by kernel_rfl
  t3 := Try.underlying3
  a3 := Try.isAgg3
  z3 := Try.sizeOf3
  v3 := Try.zeroValue3
  i3 := by kernel_rfl
  t4 := Try.underlying4
  a4 := Try.isAgg4
  z4 := Try.sizeOf4
  v4 := Try.zeroValue4
  i4 := by kernel_rfl
  t9 := Try.underlying9
  a9 := Try.isAgg9
  z9 := Try.sizeOf9
  v9 := Try.zeroValue9
  i9 := by kernel_rfl
  t21 := Try.underlying21
  a21 := Try.isAgg21
  z21 := Try.sizeOf21
  v21 := Try.zeroValue21
  i21 := by kernel_rfl
  t23 := Try.underlying115
  a23 := Try.isAgg115
  z23 := Try.sizeOf115
  v23 := Try.zeroValue115
  i23 := by kernel_rfl }
open Go.RowKit Go.Lib in
theorem sh_ContainsFunc (g : Nat) (lb : Array Value) (eg : ∀ args w, (callFunc g args).run Try.prog w = .ok (.enter g args) w) (p : Nat → Bool) (s : ByteArray) (w : World) (hp : PredAt Try.prog g lb encR p w) :
    Calls Try.prog 101 #[.string s, .func (.func g) #[] lb] w fun e w' => e = .returned (.bool (decide (0 ≤ Lib.idxFunc p true s))) ∧ Below w.heap.size w w' := Any.strings_ContainsFunc shGw17 g lb eg p s w hp
end Go.Proofs.Ytpkjpiphjdpegaa.P
namespace Go.Proofs.Ytpkjpiphjdpegaa.P
open Go.RowKit Go.Proofs.YtpkjpiphjdpegaaW.PrintWords Go.Proofs.YtpkjpiphjdpegaaW.PrintLast Go.Proofs.YtpkjpiphjdpegaaW.PrintMore
set_option linter.unusedVariables false
set_option linter.unusedSimpArgs false
def odd (r : Nat) : Bool := decide (r < 48) || decide (57 < r)
theorem odd_at (w : World) : PredAt Try.prog 100 #[] encR odd w := fun W r _ => by
  unfold FnGives odd
  by_cases h1 : r < 48 <;> by_cases h2 : 57 < r
  all_goals
    have z1 : (r : Int) < 48 ↔ r < 48 := by omega
    have z2 : (57 : Int) < (r : Int) ↔ 57 < r := by omega
    go_enter Try.func100, Try.ntmps100
    go_wp2
    all_goals first | (exfalso; omega) | (go_ret; exact ⟨by simp [h1, h2], 0, rfl⟩)
def badB (c : Int) : Bool := decide (c < 48) || decide (c > 57)
theorem nb_cons (s : ByteArray) (i : Nat) (h : i < s.size) : (nb s).drop i = ((s[i]'h).toNat : Int) :: (nb s).drop (i + 1) := by
  rw [List.drop_eq_getElem_cons (by rw [nb_length]; exact h)]
  congr 1
  unfold nb
  rw [List.getElem_map, Array.getElem_toList]
  rfl
theorem odd_from (s : ByteArray) : ∀ (f pos : Nat), s.size ≤ pos + f → (0 ≤ Lib.idxFuncFrom odd true s f pos ↔ ((nb s).drop pos).any badB = true)
  | 0, pos, h => by
    rw [List.drop_of_length_le (by rw [nb_length]; omega)]
    simp [Lib.idxFuncFrom]
  | f + 1, pos, h => by
    unfold Lib.idxFuncFrom
    by_cases hp : pos < s.size
    · rw [if_pos hp, nb_cons s pos hp, List.any_cons]
      have hb := (s[pos]'hp).toNat_lt
      by_cases ha : (s[pos]'hp).toNat < 128
      · rw [decode_ascii s pos hp ha]
        show 0 ≤ (if odd (s[pos]'hp).toNat = true then (pos : Int) else Lib.idxFuncFrom odd true s f (pos + 1)) ↔ _
        have e : odd (s[pos]'hp).toNat = badB ((s[pos]'hp).toNat : Int) := by
          unfold odd badB
          generalize (s[pos]'hp).toNat = x
          rw [Bool.eq_iff_iff]
          simp only [Bool.or_eq_true, decide_eq_true_eq]
          omega
        rw [e]
        by_cases c : badB ((s[pos]'hp).toNat : Int) = true
        · rw [if_pos c, c]
          simp
        · rw [if_neg c, odd_from s f (pos + 1) (by omega)]
          simp [c]
      · have d := decode_high s pos hp (by omega)
        have c : badB ((s[pos]'hp).toNat : Int) = true := by unfold badB; simp; omega
        have o : odd (Utf8.decode s pos).1 = true := by unfold odd; simp; omega
        rw [if_pos o, c]
        simp
    · rw [if_neg hp, List.drop_of_length_le (by rw [nb_length]; omega)]
      simp
theorem odd_is (s : ByteArray) : decide (0 ≤ Lib.idxFunc odd true s) = (nb s).any badB := by
  rw [Bool.eq_iff_iff, decide_eq_true_eq]
  have := odd_from s s.size 0 (by omega)
  rw [List.drop_zero] at this
  exact this
theorem contains_odd (s : ByteArray) (w : World) : Calls Try.prog 101 #[.string s, .func (.func 100) #[] #[]] w fun e w' => e = .returned (.bool ((nb s).any badB)) ∧ Below w.heap.size w w' := by
  rw [← odd_is]
  exact sh_ContainsFunc 100 #[] (enters_of Try.func100 (by kernel_rfl) rfl) odd s w (odd_at w)
theorem of_exact (d : Int) (w : World) : Calls Try.prog 51 #[.int .u64 d] w fun e w' => e = .returned (.agg #[.int .u64 0, .int .u64 d]) ∧ ∃ o, w' = w.alloc o := by
  go_enter Try.func51, Try.ntmps51
  go_wp2
  exact bodyPost_ret (v := .agg #[.int .u64 0, .int .u64 d]) (by simp [results, Try.results51, go_sem]) rfl ⟨rfl, _, rfl⟩
set_option maxHeartbeats 1000000 in
set_option maxRecDepth 100000 in
theorem add_exact (a0_0 a0_1 a1_0 a1_1 r1 r2 r3 : Int) (w : World) (h : u128_Add.f a0_0 a0_1 a1_0 a1_1 = some (r1, r2, r3)) :
    Calls Try.prog 45 #[.agg #[.int .u64 a0_0, .int .u64 a0_1], .agg #[.int .u64 a1_0, .int .u64 a1_1]] w fun e w' => e = .returned (.tuple #[.agg #[.int .u64 r1, .int .u64 r2], .int .i64 r3]) ∧ ∃ o1 o2 o3, w' = ((w.alloc o1).alloc o2).alloc o3 := by
  have hu : U64 a0_0 ∧ U64 a0_1 ∧ U64 a1_0 ∧ U64 a1_1 := by
    unfold u128_Add.f at h
    split at h
    · assumption
    · cases h
  obtain ⟨h1, h2, h3, h4⟩ := hu
  obtain ⟨lo, c1, hi, c2, e1, e2, e3, e4, l1, l2, l3, hf⟩ := add_plan a0_0 a0_1 a1_0 a1_1 h1 h2 h3 h4
  have k1 : ∀ W : World, (callFunc 85 #[.int .u64 a0_1, .int .u64 a1_1, .int .u64 0]).run Try.prog W = .ok (.value (.tuple #[.int .u64 lo, .int .u64 c1])) W := by
    intro W
    rw [call_add64 _ _ _ h2.1 h4.1 (by omega) (by omega), e1, e2]
  have k2 : ∀ W : World, (callFunc 85 #[.int .u64 a0_0, .int .u64 a1_0, .int .u64 c1]).run Try.prog W = .ok (.value (.tuple #[.int .u64 hi, .int .u64 c2])) W := by
    intro W
    rw [call_add64 _ _ _ h1.1 h3.1 l1 l2, e3, e4]
  clear e1 e2 e3 e4 h1 h2 h3 h4 l1 l2 l3
  rcases hf with ⟨hc, hf⟩ | ⟨hc, hf⟩
  · rw [hf] at h
    simp only [Option.some.injEq, Prod.mk.injEq] at h
    obtain ⟨rfl, rfl, rfl⟩ := h
    subst hc
    clear hf
    go_enter Try.func45, Try.ntmps45
    go_wp2
    exact bodyPost_ret (v := .tuple #[.agg #[.int .u64 hi, .int .u64 lo], .int .i64 0]) (by simp [results, Try.results45, go_sem]) rfl ⟨rfl, _, _, _, rfl⟩
  · rw [hf] at h
    simp only [Option.some.injEq, Prod.mk.injEq] at h
    obtain ⟨rfl, rfl, rfl⟩ := h
    have hn : (c2 != 0) = true := by simpa using hc
    clear hf hc
    go_enter Try.func45, Try.ntmps45
    go_wp2
    exact bodyPost_ret (v := .tuple #[.agg #[.int .u64 0, .int .u64 0], .int .i64 10]) (by simp [results, Try.results45, go_sem]) rfl ⟨rfl, _, _, _, rfl⟩
theorem conv_str (W : World) (s : ByteArray) : ∃ cap W' C fr, (convert 9 99 (.string s)).run Try.prog W = .ok (.slice (some ⟨W.heap.size, 0, none⟩) s.size cap) W' ∧ Below W.heap.size W W' ∧ W'.heap[W.heap.size]? = some (.cells C 5 fr) ∧ ∀ j : Nat, j < s.size → C[j]? = some (.int .u8 (bt s (j : Int))) := by
  refine ⟨_, _, _, _, Lib.run_convert_string_bytes W 9 99 5 s Try.underlying9 Try.underlying99 Try.underlying5, ?_, Lib.bytesWorld_at_new W 5 s, fun j hj => ?_⟩
  · refine ⟨rfl, rfl, rfl, ?_, fun k hk => Lib.bytesWorld_at_old W 5 s k hk⟩
    rw [Lib.bytesWorld_size]
    omega
  · rw [← cell_of_row _ _ j _ _ _ (Lib.bytesWorld_at_new W 5 s), Lib.bytesWorld_cell W 5 s j hj]
    congr 2
    have e := bt_nb s j
    rw [e]
    unfold nb
    rw [List.getD_eq_getElem?_getD, List.getD_eq_getElem?_getD, List.getElem?_map, List.getElem?_eq_getElem (by simpa using hj)]
    rfl
theorem head48 (s : ByteArray) (h : 1 < s.size) : ((nb s).head? == some 48) = (bt s 0 == 48) := by
  have e := bt_nb s 0
  rw [show ((0 : Nat) : Int) = 0 from rfl] at e
  rw [e]
  have l := nb_length s
  cases hn : nb s with
  | nil => rw [hn] at l; simp at l; omega
  | cons x t => simp
theorem fold_up (l : List Int) (a : Int) (ha : 0 ≤ a) (hl : Dig l) : a ≤ l.foldl (fun a d => a * 10 + d) a := by
  have h := (valD_range l hl).1
  unfold valD at h
  rw [fold_cons]
  have p := ten_pos l.length
  have : a * 1 ≤ a * 10 ^ l.length := Int.mul_le_mul_of_nonneg_left (by omega) ha
  omega
theorem parse_step (x y d : Int) (hx : U64 x) (hy : U64 y) (d0 : 0 ≤ d) (d1 : d < 10) : ∃ t1 t2 t3 s1 s2 s3, u128_Times.f x y 10 = some (t1, t2, t3) ∧ u128_Add.f t1 t2 0 d = some (s1, s2, s3) ∧
    ((t3 = 0 ∧ s3 = 0 ∧ U64 s1 ∧ U64 s2 ∧ val s1 s2 = val x y * 10 + d) ∨ ((t3 ≠ 0 ∨ s3 ≠ 0) ∧ m128 ≤ val x y * 10 + d)) := by
  have vr := val_range x y hx hy
  have ud : U64 d := ⟨by omega, by omega⟩
  have z : U64 0 := ⟨by omega, by omega⟩
  by_cases c2 : val x y * 10 < m128
  · have ut := u_hiOf (val x y * 10) (by omega) c2
    by_cases c3 : val x y * 10 + d < m128
    · have un := u_hiOf (val x y * 10 + d) (by omega) c3
      refine ⟨hiOf (val x y * 10), loOf (val x y * 10), 0, hiOf (val x y * 10 + d), loOf (val x y * 10 + d), 0, ?_, ?_, .inl ⟨rfl, rfl, un.1, un.2, val_halves _⟩⟩
      · rw [times_num x y 10 hx hy ⟨by omega, by omega⟩, if_pos c2]
      · rw [add_num _ _ _ _ ut.1 ut.2 z ud, val_halves, small_val, if_pos c3]
    · refine ⟨hiOf (val x y * 10), loOf (val x y * 10), 0, 0, 0, 10, ?_, ?_, .inr ⟨.inr (by omega), by omega⟩⟩
      · rw [times_num x y 10 hx hy ⟨by omega, by omega⟩, if_pos c2]
      · rw [add_num _ _ _ _ ut.1 ut.2 z ud, val_halves, small_val, if_neg c3]
  · refine ⟨0, 0, 10, hiOf (0 + d), loOf (0 + d), 0, ?_, ?_, .inr ⟨.inl (by omega), by omega⟩⟩
    · rw [times_num x y 10 hx hy ⟨by omega, by omega⟩, if_neg c2]
    · rw [add_num _ _ _ _ z z z ud, small_val, small_val, if_pos (by unfold m128; omega)]
theorem blk_new_at (W : World) (o : Obj) (g : Nat) (h : W.heap.size = g) : (W.alloc o).heap[g]? = some o := h ▸ blk_new W o
theorem abs_world {Kx : Exit → Act → World → Prop} {e : Exit} {a : Act} {W : World} (F : World → Prop) (hF : F W) (h : ∀ W', F W' → Kx e a W') : Kx e a W := h W hF
def kept9 (w : World) (g5 g10 : Nat) (x y p q : Int) (C : Array Value) (fr : Nat × Nat) (W : World) : Prop :=
  W.heap[w.heap.size]? = some (.cells #[.int .u64 0, .int .u64 0] 25 (0, 0)) ∧ W.heap[g5]? = some (.cells #[.int .u64 x, .int .u64 y] 25 (0, 0)) ∧ W.heap[g5 + 1]? = some (.cells C 5 fr) ∧ W.heap[g10]? = some (.cells #[.int .u64 p, .int .u64 q] 25 (0, 0)) ∧ Below w.heap.size w W
set_option maxHeartbeats 4000000 in
set_option maxRecDepth 100000 in
theorem decimal_Parse.calls (a0 : ByteArray) (r1 r2 r3 : Int) (w : World) (h : decimal_Parse.f a0 = some (r1, r2, r3)) :
    Calls Try.prog 76 #[.string a0] w fun e w' => e = .returned (.tuple #[.agg #[.int .u64 r1, .int .u64 r2], .int .i64 r3]) ∧ Below w.heap.size w w' := by
  have hs : a0.size ≤ 1000000000 := by
    unfold decimal_Parse.f at h
    split at h
    · assumption
    · cases h
  rw [parse_num a0 hs] at h
  have h' := Option.some.inj h
  clear h
  unfold parseOf noNum at h'
  have co := contains_odd a0
  have bd : (nb a0).any (fun c => decide (c < 48) || decide (c > 57)) = (nb a0).any badB := rfl
  rw [bd] at h'
  have nl := nb_length a0
  by_cases z : a0.size = 0
  · have e0 : a0 = ⟨#[]⟩ := by
      apply ByteArray.ext
      exact Array.eq_empty_of_size_eq_zero z
    have en : (nb a0).isEmpty = true := by
      rw [List.eq_nil_of_length_eq_zero (show (nb a0).length = 0 by omega)]
      rfl
    rw [en, Bool.true_or, Bool.true_or, if_pos rfl] at h'
    cases h'
    subst e0
    go_enter Try.func76, Try.ntmps76
    go_wp2
    exact bodyPost_ret (v := .tuple #[.agg #[.int .u64 0, .int .u64 0], .int .i64 20]) (by simp [results, Try.results76, go_sem]) rfl ⟨rfl, below_alloc (Below.refl _ _) _⟩
  · have ne : (nb a0).isEmpty = false := by
      cases hn : nb a0 with
      | nil => rw [hn] at nl; simp at nl; omega
      | cons x t => rfl
    have s0 : (a0.toList == ([] : List UInt8)) = false := by
      rw [beq_eq_false_iff_ne]
      intro e
      rw [Lib.toList_data] at e
      have := congrArg List.length e
      simp at this
      exact z (by simp [ByteArray.size, this])
    rw [ne, Bool.false_or] at h'
    by_cases b : (nb a0).any badB = true
    · rw [b, Bool.true_or, if_pos rfl] at h'
      cases h'
      rw [b] at co
      go_enter Try.func76, Try.ntmps76
      go_wp2_with (first | (go_at_call 101; (with_reducible refine (co _).mono ?_); rintro e w' ⟨rfl, hb⟩; have BK := Aside0.mk (blk_below (blk_new w (.cells #[.int .u64 0, .int .u64 0] 25)) hb); have cz0 : w'.cell? ⟨w.heap.size, 0, none⟩ = some (.int .u64 0) := (blk_cell BK.out 0).trans rfl; have cz1 : w'.cell? ⟨w.heap.size, 1, none⟩ = some (.int .u64 0) := (blk_cell BK.out 1).trans rfl; have fz0 := blk_frozen BK.out 0; have fz1 := blk_frozen BK.out 1; have HB := Aside0.mk (below_step (below_alloc (Below.refl _ _) _) hb)))
      exact bodyPost_ret (v := .tuple #[.agg #[.int .u64 0, .int .u64 0], .int .i64 20]) (by simp [results, Try.results76, go_sem, cz0, cz1]) rfl ⟨rfl, below_set (below_set HB.out (Nat.le_refl _)) (Nat.le_refl _)⟩
    · have bf : (nb a0).any badB = false := by simpa using b
      rw [bf] at co
      rw [bf, Bool.false_or] at h'
      have p0 : 0 < a0.size := by omega
      by_cases q : 1 < a0.size ∧ bt a0 0 = 48
      · rw [decide_eq_true (show 1 < (nb a0).length by omega), head48 a0 q.1, q.2, Bool.true_and, if_pos (show ((48 : Int) == 48) = true from rfl)] at h'
        cases h'
        have l1 : decide ((1 : Int) < (a0.size : Int)) = true := decide_eq_true (by omega)
        have l0 : decide ((0 : Int) < (a0.size : Int)) = true := decide_eq_true (by omega)
        have b0 : ((a0[0]'p0).toNat : Int) = 48 := by rw [← q.2]; exact bt_at a0 0 p0
        go_enter Try.func76, Try.ntmps76
        go_wp2_with (first | (go_at_call 101; (with_reducible refine (co _).mono ?_); rintro e w' ⟨rfl, hb⟩; have BK := Aside0.mk (blk_below (blk_new w (.cells #[.int .u64 0, .int .u64 0] 25)) hb); have cz0 : w'.cell? ⟨w.heap.size, 0, none⟩ = some (.int .u64 0) := (blk_cell BK.out 0).trans rfl; have cz1 : w'.cell? ⟨w.heap.size, 1, none⟩ = some (.int .u64 0) := (blk_cell BK.out 1).trans rfl; have fz0 := blk_frozen BK.out 0; have fz1 := blk_frozen BK.out 1; have HB := Aside0.mk (below_step (below_alloc (Below.refl _ _) _) hb)))
        exact bodyPost_ret (v := .tuple #[.agg #[.int .u64 0, .int .u64 0], .int .i64 20]) (by simp [results, Try.results76, go_sem, cz0, cz1]) rfl ⟨rfl, below_set (below_set HB.out (Nat.le_refl _)) (Nat.le_refl _)⟩
      · have nz : (decide (1 < (nb a0).length) && (nb a0).head? == some 48) = false := by
          by_cases l : 1 < a0.size
          · rw [head48 a0 l]
            have : (bt a0 0 == 48) = false := by rw [beq_eq_false_iff_ne]; exact fun e => q ⟨l, e⟩
            rw [this, Bool.and_false]
          · rw [decide_eq_false (show ¬ 1 < (nb a0).length by omega), Bool.false_and]
        rw [nz, if_neg (by simp)] at h'
        have dN : Dig (unasc (nb a0)) := by
          intro d hd
          obtain ⟨c, hc, rfl⟩ := List.mem_map.1 hd
          have := (List.any_eq_false.1 bf) c hc
          unfold badB at this
          simp at this
          omega
        by_cases l : 1 < a0.size
        · have l1 : decide ((1 : Int) < (a0.size : Int)) = true := decide_eq_true (by omega)
          have l0 : decide ((0 : Int) < (a0.size : Int)) = true := decide_eq_true (by omega)
          have b0 : ((a0[0]'p0).toNat : Int) = bt a0 0 := bt_at a0 0 p0
          have b1 : (bt a0 0 == 48) = false := by rw [beq_eq_false_iff_ne]; exact fun e => q ⟨l, e⟩
          go_enter Try.func76, Try.ntmps76
          go_wp2_with (first | (go_at_call 101; (with_reducible refine (co _).mono ?_); rintro e w' ⟨rfl, hb⟩; have BK := Aside0.mk (blk_below (blk_new w (.cells #[.int .u64 0, .int .u64 0] 25)) hb); have cz0 : w'.cell? ⟨w.heap.size, 0, none⟩ = some (.int .u64 0) := (blk_cell BK.out 0).trans rfl; have cz1 : w'.cell? ⟨w.heap.size, 1, none⟩ = some (.int .u64 0) := (blk_cell BK.out 1).trans rfl; have fz0 := blk_frozen BK.out 0; have fz1 := blk_frozen BK.out 1; have HB := Aside0.mk (below_step (below_alloc (Below.refl _ _) _) hb); obtain ⟨cap, W2, C, fr, ecv, hb2, S2, SC⟩ := conv_str (w'.alloc (.cells #[.int .u64 0, .int .u64 0] 25)) a0; have R2 := Aside0.mk (blk_below (blk_alloc BK.out _) hb2); have A2 := Aside0.mk (blk_below (blk_new w' (.cells #[.int .u64 0, .int .u64 0] 25)) hb2); rw [World.size_alloc] at S2; have HB2 := Aside0.mk (below_step (below_alloc HB.out _) hb2); have lt5 := blk_lt BK.out; replace S2 := Aside0.mk S2; replace SC := Aside0.mk SC; clear hb hb2 BK cz0 cz1 fz0 fz1 HB; obtain ⟨g5, hg5⟩ : ∃ g, w'.heap.size = g := ⟨_, rfl⟩; rw [hg5] at S2 A2 lt5))
          go_loopg [33] (a0.size + 1) (fun g v33 W => ∃ (i : Nat) (x y : Int), v33 = .int .i64 (i : Int) ∧ Aside0 (i ≤ a0.size ∧ a0.size ≤ i + g) ∧ Aside0 (U64 x ∧ U64 y ∧ (unasc ((nb a0).drop i)).foldl (fun a d => a * 10 + d) (val x y) = valD (unasc (nb a0))) ∧ Aside0 (W.heap[w.heap.size]? = some (.cells #[.int .u64 0, .int .u64 0] 25 (0, 0))) ∧ Aside0 (W.heap[g5]? = some (.cells #[.int .u64 x, .int .u64 y] 25 (0, 0))) ∧ Aside0 (W.heap[g5 + 1]? = some (.cells C 5 fr)) ∧ Aside0 (Below w.heap.size w W))
          case atStart =>
            refine ⟨0, 0, 0, rfl, ⟨by omega, by omega⟩, ⟨⟨by omega, by omega⟩, ⟨by omega, by omega⟩, rfl⟩, R2, A2, S2, HB2⟩
          case round =>
            clear R2 A2 S2 HB2
            obtain ⟨i, x, y, rfl, J, V, R, A, S, HB⟩ := hrel
            have ay0 : wr.cell? ⟨g5, 0, none⟩ = some (.int .u64 x) := (blk_cell A.out 0).trans rfl
            have ay1 : wr.cell? ⟨g5, 1, none⟩ = some (.int .u64 y) := (blk_cell A.out 1).trans rfl
            have ry0 : wr.cell? ⟨w.heap.size, 0, none⟩ = some (.int .u64 0) := (blk_cell R.out 0).trans rfl
            have ry1 : wr.cell? ⟨w.heap.size, 1, none⟩ = some (.int .u64 0) := (blk_cell R.out 1).trans rfl
            have rz0 := blk_frozen R.out 0
            have rz1 := blk_frozen R.out 1
            have vr := val_range x y V.out.1 V.out.2.1
            by_cases c : i < a0.size
            · have cb : decide ((i : Int) < (a0.size : Int)) = true := decide_eq_true (by omega)
              obtain ⟨gi, rfl⟩ : ∃ g, gk = g + 1 := ⟨gk - 1, by have := J.out; omega⟩
              have cs := (cell_of_row wr (g5 + 1) i _ _ _ S.out).trans (SC.out i c)
              have dr : (nb a0).drop i = bt a0 (i : Int) :: (nb a0).drop (i + 1) := by
                rw [nb_cons a0 i c]
                congr 1
                exact bt_at a0 (i : Int) (by simpa using c)
              have fv := V.out.2.2
              rw [dr] at fv
              have hb48 : 0 ≤ bt a0 (i : Int) - 48 ∧ bt a0 (i : Int) - 48 < 10 := by
                refine dN _ (List.mem_map.2 ⟨bt a0 (i : Int), ?_, rfl⟩)
                refine List.mem_of_mem_drop (i := i) ?_
                rw [dr]
                exact List.mem_cons_self ..
              have fv' : (unasc ((nb a0).drop (i + 1))).foldl (fun a d => a * 10 + d) (val x y * 10 + (bt a0 (i : Int) - 48)) = valD (unasc (nb a0)) := fv
              have dT : Dig (unasc ((nb a0).drop (i + 1))) := fun d hd => dN d (by
                obtain ⟨q, hq, rfl⟩ := List.mem_map.1 hd
                exact List.mem_map.2 ⟨q, List.mem_of_mem_drop hq, rfl⟩)
              generalize bt a0 (i : Int) = bc at *
              have wd : IntKind.u8.wrap (bc - 48) = bc - 48 := by rw [IntKind.wrap_u8]; omega
              have wd2 : IntKind.u64.wrap (bc - 48) = bc - 48 := wu _ (by omega) (by omega)
              have wd3 : (bc - 48) % 256 = bc - 48 := by omega
              obtain ⟨d, hd⟩ : ∃ d, bc - 48 = d := ⟨_, rfl⟩
              rw [hd] at wd wd2 wd3 hb48 fv'
              have hO : u128_Of.f d = some (0, d) := rfl
              have wdd : IntKind.u64.wrap (IntKind.u8.wrap (bc - 48)) = d := by rw [hd, wd, wd2]
              clear cb fv dr hd
              obtain ⟨t1, t2, t3, s1, s2, s3, hT, hA, O⟩ := parse_step x y d V.out.1 V.out.2.1 hb48.1 hb48.2
              replace O := Aside0.mk O
              replace fv' := Aside0.mk fv'
              replace dT := Aside0.mk dT
              replace vr := Aside0.mk vr
              replace h' := Aside0.mk h'
              go_wp2_with (first
                | (go_at_call 56; (with_reducible refine (u128_Times.calls x y 10 _ _ _ _ hT).mono ?_); rintro e W3 ⟨rfl, hb3⟩; have A3 := Aside0.mk (blk_below A.out hb3); have R3 := Aside0.mk (blk_below R.out hb3); have S3 := Aside0.mk (blk_below S.out hb3); have HB3 := Aside0.mk (below_step HB.out hb3); clear hb3; clear ay0 ay1 ry0 ry1 rz0 rz1 A R S HB))
              clear cs SC hT co bd nl z ne s0 b bf nz dN wd wd2 wd3
              go_region_with (first
                | (go_at_call 51; (with_reducible refine (of_exact d _).mono ?_); rintro e W4 ⟨rfl, o0, rfl⟩)
                | (go_at_call 45; (with_reducible refine (add_exact _ _ _ _ _ _ _ _ hA).mono ?_); rintro e W5 ⟨rfl, o1, o2, o3, rfl⟩))
              all_goals
                (first
                  | (refine abs_world (kept9 w g5 (W3.heap.size + 1) x y s1 s2 C fr) ⟨blk_drew (blk_alloc (blk_alloc (blk_alloc (blk_alloc (blk_alloc (blk_alloc R3.out _) _) _) _) _) _), blk_drew (blk_alloc (blk_alloc (blk_alloc (blk_alloc (blk_alloc (blk_alloc A3.out _) _) _) _) _) _), blk_drew (blk_alloc (blk_alloc (blk_alloc (blk_alloc (blk_alloc (blk_alloc S3.out _) _) _) _) _) _), ?_, below_drew1 (below_alloc (below_alloc (below_alloc (below_alloc (below_alloc (below_alloc HB3.out _) _) _) _) _) _)⟩ ?_; (refine blk_drew ?_; repeat (first | (focus (refine blk_new_at _ _ _ ?_; simp; done)) | refine blk_alloc ?_ _)); intro W6 K9)
                  | (refine abs_world (kept9 w g5 (W3.heap.size + 1 + 1) x y s1 s2 C fr) ⟨blk_drew (blk_alloc (blk_alloc (blk_alloc (blk_alloc (blk_alloc (blk_alloc R3.out _) _) _) _) _) _), blk_drew (blk_alloc (blk_alloc (blk_alloc (blk_alloc (blk_alloc (blk_alloc A3.out _) _) _) _) _) _), blk_drew (blk_alloc (blk_alloc (blk_alloc (blk_alloc (blk_alloc (blk_alloc S3.out _) _) _) _) _) _), ?_, below_drew1 (below_alloc (below_alloc (below_alloc (below_alloc (below_alloc (below_alloc HB3.out _) _) _) _) _) _)⟩ ?_; (refine blk_drew ?_; repeat (first | (focus (refine blk_new_at _ _ _ ?_; simp; done)) | refine blk_alloc ?_ _)); intro W6 K9)
                  | (refine abs_world (kept9 w g5 (W3.heap.size + 1 + 1 + 1 + 1 + 1) x y s1 s2 C fr) ⟨blk_drew (blk_alloc (blk_alloc (blk_alloc (blk_alloc (blk_alloc (blk_alloc R3.out _) _) _) _) _) _), blk_drew (blk_alloc (blk_alloc (blk_alloc (blk_alloc (blk_alloc (blk_alloc A3.out _) _) _) _) _) _), blk_drew (blk_alloc (blk_alloc (blk_alloc (blk_alloc (blk_alloc (blk_alloc S3.out _) _) _) _) _) _), ?_, below_drew1 (below_alloc (below_alloc (below_alloc (below_alloc (below_alloc (below_alloc HB3.out _) _) _) _) _) _)⟩ ?_; (refine blk_drew ?_; repeat (first | (focus (refine blk_new_at _ _ _ ?_; simp; done)) | refine blk_alloc ?_ _)); intro W6 K9))
                clear A3 R3 S3 HB3 o0 o1 o2 o3 wdd hA
                obtain ⟨R6, A6, S6, T6, HB6⟩ := K9
                have ty0 := (blk_cell T6 0).trans (show _ = some (Value.int .u64 s1) from rfl)
                have ty1 := (blk_cell T6 1).trans (show _ = some (Value.int .u64 s2) from rfl)
                have ay0 : W6.cell? ⟨g5, 0, none⟩ = some (.int .u64 x) := (blk_cell A6 0).trans rfl
                have ay1 : W6.cell? ⟨g5, 1, none⟩ = some (.int .u64 y) := (blk_cell A6 1).trans rfl
                have az0 := blk_frozen A6 0
                have az1 := blk_frozen A6 1
                have ry0 : W6.cell? ⟨w.heap.size, 0, none⟩ = some (.int .u64 0) := (blk_cell R6 0).trans rfl
                have ry1 : W6.cell? ⟨w.heap.size, 1, none⟩ = some (.int .u64 0) := (blk_cell R6 1).trans rfl
                have rz0 := blk_frozen R6 0
                have rz1 := blk_frozen R6 1
                replace R6 := Aside0.mk R6
                replace A6 := Aside0.mk A6
                replace S6 := Aside0.mk S6
                replace HB6 := Aside0.mk HB6
                clear T6
                rcases O.out with ⟨rfl, rfl, u1, u2, ve⟩ | ⟨oe, ge⟩
                · clear O
                  go_wp2
                  go_roundg gi
                  case measure => omega
                  case rel =>
                    refine ⟨i + 1, s1, s2, ?_, ⟨?_⟩, ⟨u1, u2, ?_⟩, ⟨?_⟩, ⟨?_⟩, ⟨?_⟩, ⟨?_⟩⟩
                    · rw [show ((i + 1 : Nat) : Int) = (i : Int) + 1 from by omega]
                    · have := J.out; omega
                    · rw [ve]; exact fv'.out
                    · exact blk_far (blk_far R6.out (by show w.heap.size ≠ g5; omega) _) (by show w.heap.size ≠ g5; omega) _
                    · exact blk_put (blk_put A6.out 0 _ rfl) 1 _ rfl
                    · exact (Below.heap_setCell _ ⟨g5, 1, none⟩ _ (g5 + 1) (by show g5 + 1 ≠ g5; omega)).trans ((Below.heap_setCell _ ⟨g5, 0, none⟩ _ (g5 + 1) (by show g5 + 1 ≠ g5; omega)).trans S6.out)
                    · exact below_set (below_set HB6.out (by omega)) (by omega)
                · have big : ¬ valD (unasc (nb a0)) < m128 := by
                    rw [← fv'.out]
                    have v0 := vr.out.1
                    have d0 : 0 ≤ d := by omega
                    have := fold_up _ (val x y * 10 + d) (by omega) dT.out
                    omega
                  have hh := h'.out
                  rw [if_neg big] at hh
                  cases hh
                  clear O
                  by_cases t : t3 = 0
                  · subst t
                    have s3b : (s3 != 0) = true := by
                      rw [bne_iff_ne]
                      rcases oe with h | h
                      · exact absurd rfl h
                      · exact h
                    go_wp2
                    exact bodyPost_ret (v := .tuple #[.agg #[.int .u64 0, .int .u64 0], .int .i64 10]) (by simp [results, Try.results76, go_sem, ry0, ry1]) rfl ⟨rfl, below_set (below_set HB6.out (Nat.le_refl _)) (Nat.le_refl _)⟩
                  · have t3b : (t3 != 0) = true := bne_iff_ne.mpr t
                    go_wp2
                    exact bodyPost_ret (v := .tuple #[.agg #[.int .u64 0, .int .u64 0], .int .i64 10]) (by simp [results, Try.results76, go_sem, ry0, ry1]) rfl ⟨rfl, below_set (below_set HB6.out (Nat.le_refl _)) (Nat.le_refl _)⟩
            · have cb : decide ((i : Int) < (a0.size : Int)) = false := decide_eq_false (by omega)
              obtain rfl : i = a0.size := by have := J.out; omega
              go_wp2
              have vv : val x y = valD (unasc (nb a0)) := by
                rw [← V.out.2.2, List.drop_of_length_le (by omega)]
                rfl
              rw [← vv, if_pos vr.2, hiOf_val x y V.out.2.1, loOf_val x y V.out.2.1] at h'
              cases h'
              exact bodyPost_ret (v := .tuple #[.agg #[.int .u64 r1, .int .u64 r2], .int .i64 0]) (by simp [results, Try.results76, go_sem, ry0, ry1]) rfl ⟨rfl, below_set (below_set HB.out (Nat.le_refl _)) (Nat.le_refl _)⟩
        · have l1 : decide ((1 : Int) < (a0.size : Int)) = false := decide_eq_false (by omega)
          go_enter Try.func76, Try.ntmps76
          go_wp2_with (first | (go_at_call 101; (with_reducible refine (co _).mono ?_); rintro e w' ⟨rfl, hb⟩; have BK := Aside0.mk (blk_below (blk_new w (.cells #[.int .u64 0, .int .u64 0] 25)) hb); have cz0 : w'.cell? ⟨w.heap.size, 0, none⟩ = some (.int .u64 0) := (blk_cell BK.out 0).trans rfl; have cz1 : w'.cell? ⟨w.heap.size, 1, none⟩ = some (.int .u64 0) := (blk_cell BK.out 1).trans rfl; have fz0 := blk_frozen BK.out 0; have fz1 := blk_frozen BK.out 1; have HB := Aside0.mk (below_step (below_alloc (Below.refl _ _) _) hb); obtain ⟨cap, W2, C, fr, ecv, hb2, S2, SC⟩ := conv_str (w'.alloc (.cells #[.int .u64 0, .int .u64 0] 25)) a0; have R2 := Aside0.mk (blk_below (blk_alloc BK.out _) hb2); have A2 := Aside0.mk (blk_below (blk_new w' (.cells #[.int .u64 0, .int .u64 0] 25)) hb2); rw [World.size_alloc] at S2; have HB2 := Aside0.mk (below_step (below_alloc HB.out _) hb2); have lt5 := blk_lt BK.out; replace S2 := Aside0.mk S2; replace SC := Aside0.mk SC; clear hb hb2 BK cz0 cz1 fz0 fz1 HB; obtain ⟨g5, hg5⟩ : ∃ g, w'.heap.size = g := ⟨_, rfl⟩; rw [hg5] at S2 A2 lt5))
          go_loopg [33] (a0.size + 1) (fun g v33 W => ∃ (i : Nat) (x y : Int), v33 = .int .i64 (i : Int) ∧ Aside0 (i ≤ a0.size ∧ a0.size ≤ i + g) ∧ Aside0 (U64 x ∧ U64 y ∧ (unasc ((nb a0).drop i)).foldl (fun a d => a * 10 + d) (val x y) = valD (unasc (nb a0))) ∧ Aside0 (W.heap[w.heap.size]? = some (.cells #[.int .u64 0, .int .u64 0] 25 (0, 0))) ∧ Aside0 (W.heap[g5]? = some (.cells #[.int .u64 x, .int .u64 y] 25 (0, 0))) ∧ Aside0 (W.heap[g5 + 1]? = some (.cells C 5 fr)) ∧ Aside0 (Below w.heap.size w W))
          case atStart =>
            refine ⟨0, 0, 0, rfl, ⟨by omega, by omega⟩, ⟨⟨by omega, by omega⟩, ⟨by omega, by omega⟩, rfl⟩, R2, A2, S2, HB2⟩
          case round =>
            clear R2 A2 S2 HB2
            obtain ⟨i, x, y, rfl, J, V, R, A, S, HB⟩ := hrel
            have ay0 : wr.cell? ⟨g5, 0, none⟩ = some (.int .u64 x) := (blk_cell A.out 0).trans rfl
            have ay1 : wr.cell? ⟨g5, 1, none⟩ = some (.int .u64 y) := (blk_cell A.out 1).trans rfl
            have ry0 : wr.cell? ⟨w.heap.size, 0, none⟩ = some (.int .u64 0) := (blk_cell R.out 0).trans rfl
            have ry1 : wr.cell? ⟨w.heap.size, 1, none⟩ = some (.int .u64 0) := (blk_cell R.out 1).trans rfl
            have rz0 := blk_frozen R.out 0
            have rz1 := blk_frozen R.out 1
            have vr := val_range x y V.out.1 V.out.2.1
            by_cases c : i < a0.size
            · have cb : decide ((i : Int) < (a0.size : Int)) = true := decide_eq_true (by omega)
              obtain ⟨gi, rfl⟩ : ∃ g, gk = g + 1 := ⟨gk - 1, by have := J.out; omega⟩
              have cs := (cell_of_row wr (g5 + 1) i _ _ _ S.out).trans (SC.out i c)
              have dr : (nb a0).drop i = bt a0 (i : Int) :: (nb a0).drop (i + 1) := by
                rw [nb_cons a0 i c]
                congr 1
                exact bt_at a0 (i : Int) (by simpa using c)
              have fv := V.out.2.2
              rw [dr] at fv
              have hb48 : 0 ≤ bt a0 (i : Int) - 48 ∧ bt a0 (i : Int) - 48 < 10 := by
                refine dN _ (List.mem_map.2 ⟨bt a0 (i : Int), ?_, rfl⟩)
                refine List.mem_of_mem_drop (i := i) ?_
                rw [dr]
                exact List.mem_cons_self ..
              have fv' : (unasc ((nb a0).drop (i + 1))).foldl (fun a d => a * 10 + d) (val x y * 10 + (bt a0 (i : Int) - 48)) = valD (unasc (nb a0)) := fv
              have dT : Dig (unasc ((nb a0).drop (i + 1))) := fun d hd => dN d (by
                obtain ⟨q, hq, rfl⟩ := List.mem_map.1 hd
                exact List.mem_map.2 ⟨q, List.mem_of_mem_drop hq, rfl⟩)
              generalize bt a0 (i : Int) = bc at *
              have wd : IntKind.u8.wrap (bc - 48) = bc - 48 := by rw [IntKind.wrap_u8]; omega
              have wd2 : IntKind.u64.wrap (bc - 48) = bc - 48 := wu _ (by omega) (by omega)
              have wd3 : (bc - 48) % 256 = bc - 48 := by omega
              obtain ⟨d, hd⟩ : ∃ d, bc - 48 = d := ⟨_, rfl⟩
              rw [hd] at wd wd2 wd3 hb48 fv'
              have hO : u128_Of.f d = some (0, d) := rfl
              have wdd : IntKind.u64.wrap (IntKind.u8.wrap (bc - 48)) = d := by rw [hd, wd, wd2]
              clear cb fv dr hd
              obtain ⟨t1, t2, t3, s1, s2, s3, hT, hA, O⟩ := parse_step x y d V.out.1 V.out.2.1 hb48.1 hb48.2
              replace O := Aside0.mk O
              replace fv' := Aside0.mk fv'
              replace dT := Aside0.mk dT
              replace vr := Aside0.mk vr
              replace h' := Aside0.mk h'
              go_wp2_with (first
                | (go_at_call 56; (with_reducible refine (u128_Times.calls x y 10 _ _ _ _ hT).mono ?_); rintro e W3 ⟨rfl, hb3⟩; have A3 := Aside0.mk (blk_below A.out hb3); have R3 := Aside0.mk (blk_below R.out hb3); have S3 := Aside0.mk (blk_below S.out hb3); have HB3 := Aside0.mk (below_step HB.out hb3); clear hb3; clear ay0 ay1 ry0 ry1 rz0 rz1 A R S HB))
              clear cs SC hT co bd nl z ne s0 b bf nz dN wd wd2 wd3
              go_region_with (first
                | (go_at_call 51; (with_reducible refine (of_exact d _).mono ?_); rintro e W4 ⟨rfl, o0, rfl⟩)
                | (go_at_call 45; (with_reducible refine (add_exact _ _ _ _ _ _ _ _ hA).mono ?_); rintro e W5 ⟨rfl, o1, o2, o3, rfl⟩))
              all_goals
                (first
                  | (refine abs_world (kept9 w g5 (W3.heap.size + 1) x y s1 s2 C fr) ⟨blk_drew (blk_alloc (blk_alloc (blk_alloc (blk_alloc (blk_alloc (blk_alloc R3.out _) _) _) _) _) _), blk_drew (blk_alloc (blk_alloc (blk_alloc (blk_alloc (blk_alloc (blk_alloc A3.out _) _) _) _) _) _), blk_drew (blk_alloc (blk_alloc (blk_alloc (blk_alloc (blk_alloc (blk_alloc S3.out _) _) _) _) _) _), ?_, below_drew1 (below_alloc (below_alloc (below_alloc (below_alloc (below_alloc (below_alloc HB3.out _) _) _) _) _) _)⟩ ?_; (refine blk_drew ?_; repeat (first | (focus (refine blk_new_at _ _ _ ?_; simp; done)) | refine blk_alloc ?_ _)); intro W6 K9)
                  | (refine abs_world (kept9 w g5 (W3.heap.size + 1 + 1) x y s1 s2 C fr) ⟨blk_drew (blk_alloc (blk_alloc (blk_alloc (blk_alloc (blk_alloc (blk_alloc R3.out _) _) _) _) _) _), blk_drew (blk_alloc (blk_alloc (blk_alloc (blk_alloc (blk_alloc (blk_alloc A3.out _) _) _) _) _) _), blk_drew (blk_alloc (blk_alloc (blk_alloc (blk_alloc (blk_alloc (blk_alloc S3.out _) _) _) _) _) _), ?_, below_drew1 (below_alloc (below_alloc (below_alloc (below_alloc (below_alloc (below_alloc HB3.out _) _) _) _) _) _)⟩ ?_; (refine blk_drew ?_; repeat (first | (focus (refine blk_new_at _ _ _ ?_; simp; done)) | refine blk_alloc ?_ _)); intro W6 K9)
                  | (refine abs_world (kept9 w g5 (W3.heap.size + 1 + 1 + 1 + 1 + 1) x y s1 s2 C fr) ⟨blk_drew (blk_alloc (blk_alloc (blk_alloc (blk_alloc (blk_alloc (blk_alloc R3.out _) _) _) _) _) _), blk_drew (blk_alloc (blk_alloc (blk_alloc (blk_alloc (blk_alloc (blk_alloc A3.out _) _) _) _) _) _), blk_drew (blk_alloc (blk_alloc (blk_alloc (blk_alloc (blk_alloc (blk_alloc S3.out _) _) _) _) _) _), ?_, below_drew1 (below_alloc (below_alloc (below_alloc (below_alloc (below_alloc (below_alloc HB3.out _) _) _) _) _) _)⟩ ?_; (refine blk_drew ?_; repeat (first | (focus (refine blk_new_at _ _ _ ?_; simp; done)) | refine blk_alloc ?_ _)); intro W6 K9))
                clear A3 R3 S3 HB3 o0 o1 o2 o3 wdd hA
                obtain ⟨R6, A6, S6, T6, HB6⟩ := K9
                have ty0 := (blk_cell T6 0).trans (show _ = some (Value.int .u64 s1) from rfl)
                have ty1 := (blk_cell T6 1).trans (show _ = some (Value.int .u64 s2) from rfl)
                have ay0 : W6.cell? ⟨g5, 0, none⟩ = some (.int .u64 x) := (blk_cell A6 0).trans rfl
                have ay1 : W6.cell? ⟨g5, 1, none⟩ = some (.int .u64 y) := (blk_cell A6 1).trans rfl
                have az0 := blk_frozen A6 0
                have az1 := blk_frozen A6 1
                have ry0 : W6.cell? ⟨w.heap.size, 0, none⟩ = some (.int .u64 0) := (blk_cell R6 0).trans rfl
                have ry1 : W6.cell? ⟨w.heap.size, 1, none⟩ = some (.int .u64 0) := (blk_cell R6 1).trans rfl
                have rz0 := blk_frozen R6 0
                have rz1 := blk_frozen R6 1
                replace R6 := Aside0.mk R6
                replace A6 := Aside0.mk A6
                replace S6 := Aside0.mk S6
                replace HB6 := Aside0.mk HB6
                clear T6
                rcases O.out with ⟨rfl, rfl, u1, u2, ve⟩ | ⟨oe, ge⟩
                · clear O
                  go_wp2
                  go_roundg gi
                  case measure => omega
                  case rel =>
                    refine ⟨i + 1, s1, s2, ?_, ⟨?_⟩, ⟨u1, u2, ?_⟩, ⟨?_⟩, ⟨?_⟩, ⟨?_⟩, ⟨?_⟩⟩
                    · rw [show ((i + 1 : Nat) : Int) = (i : Int) + 1 from by omega]
                    · have := J.out; omega
                    · rw [ve]; exact fv'.out
                    · exact blk_far (blk_far R6.out (by show w.heap.size ≠ g5; omega) _) (by show w.heap.size ≠ g5; omega) _
                    · exact blk_put (blk_put A6.out 0 _ rfl) 1 _ rfl
                    · exact (Below.heap_setCell _ ⟨g5, 1, none⟩ _ (g5 + 1) (by show g5 + 1 ≠ g5; omega)).trans ((Below.heap_setCell _ ⟨g5, 0, none⟩ _ (g5 + 1) (by show g5 + 1 ≠ g5; omega)).trans S6.out)
                    · exact below_set (below_set HB6.out (by omega)) (by omega)
                · have big : ¬ valD (unasc (nb a0)) < m128 := by
                    rw [← fv'.out]
                    have v0 := vr.out.1
                    have d0 : 0 ≤ d := by omega
                    have := fold_up _ (val x y * 10 + d) (by omega) dT.out
                    omega
                  have hh := h'.out
                  rw [if_neg big] at hh
                  cases hh
                  clear O
                  by_cases t : t3 = 0
                  · subst t
                    have s3b : (s3 != 0) = true := by
                      rw [bne_iff_ne]
                      rcases oe with h | h
                      · exact absurd rfl h
                      · exact h
                    go_wp2
                    exact bodyPost_ret (v := .tuple #[.agg #[.int .u64 0, .int .u64 0], .int .i64 10]) (by simp [results, Try.results76, go_sem, ry0, ry1]) rfl ⟨rfl, below_set (below_set HB6.out (Nat.le_refl _)) (Nat.le_refl _)⟩
                  · have t3b : (t3 != 0) = true := bne_iff_ne.mpr t
                    go_wp2
                    exact bodyPost_ret (v := .tuple #[.agg #[.int .u64 0, .int .u64 0], .int .i64 10]) (by simp [results, Try.results76, go_sem, ry0, ry1]) rfl ⟨rfl, below_set (below_set HB6.out (Nat.le_refl _)) (Nat.le_refl _)⟩
            · have cb : decide ((i : Int) < (a0.size : Int)) = false := decide_eq_false (by omega)
              obtain rfl : i = a0.size := by have := J.out; omega
              go_wp2
              have vv : val x y = valD (unasc (nb a0)) := by
                rw [← V.out.2.2, List.drop_of_length_le (by omega)]
                rfl
              rw [← vv, if_pos vr.2, hiOf_val x y V.out.2.1, loOf_val x y V.out.2.1] at h'
              cases h'
              exact bodyPost_ret (v := .tuple #[.agg #[.int .u64 r1, .int .u64 r2], .int .i64 0]) (by simp [results, Try.results76, go_sem, ry0, ry1]) rfl ⟨rfl, below_set (below_set HB.out (Nat.le_refl _)) (Nat.le_refl _)⟩
end Go.Proofs.Ytpkjpiphjdpegaa.P
namespace Go.Proofs.Ytpkjpiphjdpegaa.P
open Go.Shelf Go.RowKit
def sh_lays156_ren : Go.Shelf.Ren := ⟨fun | 156 => 95 | 165 => 108 | 166 => 109 | 169 => 110 | 240 => 119 | 241 => 120 | 276 => 128 | 277 => 129 | n => n, fun | 31 => 73 | 9 => 9 | 3 => 3 | 4 => 4 | 0 => 0 | 20 => 20 | 72 => 129 | 76 => 130 | 70 => 127 | 37 => 99 | 75 => 122 | 127 => 138 | 164 => 143 | 5 => 5 | 80 => 132 | n => n, fun | n => n⟩
theorem sh_lays156 : Go.Proofs.Lays.n156 Try.prog sh_lays156_ren := {
  mixed := by kernel_rfl
  f156 := Try.func95.trans (congrArg some (by kernel_rfl))
  f165 := Try.func108.trans (congrArg some (by kernel_rfl))
  f166 := Try.func109.trans (congrArg some (by kernel_rfl))
  f169 := Try.func110.trans (congrArg some (by kernel_rfl))
  f240 := Try.func119.trans (congrArg some (by kernel_rfl))
  f241 := Try.func120.trans (congrArg some (by kernel_rfl))
  f276 := Try.func128.trans (congrArg some (by kernel_rfl))
  f277 := Try.func129.trans (congrArg some (by kernel_rfl))
  t0 := Try.underlying0
  a0 := Try.isAgg0
  z0 := Try.sizeOf0
  v0 := Try.zeroValue0
  t3 := Try.underlying3
  a3 := Try.isAgg3
  z3 := Try.sizeOf3
  v3 := Try.zeroValue3
  t4 := Try.underlying4
  a4 := Try.isAgg4
  z4 := Try.sizeOf4
  v4 := Try.zeroValue4
  t9 := Try.underlying9
  a9 := Try.isAgg9
  z9 := Try.sizeOf9
  v9 := Try.zeroValue9
  t20 := Try.underlying20
  a20 := Try.isAgg20
  z20 := Try.sizeOf20
  v20 := Try.zeroValue20
  t31 := Try.underlying73
  a31 := Try.isAgg73
  z31 := Try.sizeOf73
  v31 := Try.zeroValue73
  t37 := Try.underlying99
  a37 := Try.isAgg99
  z37 := Try.sizeOf99
  v37 := Try.zeroValue99
  t70 := Try.underlying127
  a70 := Try.isAgg127
  z70 := Try.sizeOf127
  v70 := Try.zeroValue127
  t72 := Try.underlying129
  a72 := Try.isAgg129
  z72 := Try.sizeOf129
  v72 := Try.zeroValue129
  t75 := Try.underlying122
  a75 := Try.isAgg122
  z75 := Try.sizeOf122
  v75 := Try.zeroValue122
  t76 := Try.underlying130
  a76 := Try.isAgg130
  z76 := Try.sizeOf130
  v76 := Try.zeroValue130
  t127 := Try.underlying138
  a127 := Try.isAgg138
  z127 := Try.sizeOf138
  v127 := Try.zeroValue138
  t164 := Try.underlying143
  a164 := Try.isAgg143
  z164 := Try.sizeOf143
  v164 := Try.zeroValue143 }
theorem sh_Builder_Extra_156 : Builder.Extra Try.prog sh_lays156_ren := {
  sizeBuilder := by kernel_rfl
  liesBuilder := by kernel_rfl
  t5 := Try.underlying5
  a5 := Try.isAgg5
  z5 := Try.sizeOf5
  v5 := Try.zeroValue5
  infoByte := by kernel_rfl
  cellsByte := by kernel_rfl
  sizeByte := by kernel_rfl
  neB5 := by decide }
open Go.RowKit in
open Go.RowKit in
theorem sh_strings_Join (bk o c : Nat) (xs : List ByteArray) (sep : ByteArray) (w : World) (hcells : ∀ (j : Nat) x, xs[j]? = some x → w.cell? ⟨bk, o + j, none⟩ = some (.string x)) (hbk : bk < w.heap.size) (hN : xs.length ≤ 140737488355328) (hcap : xs.length ≤ c) (hlen : (Lib.join (xs.map (·.data.toList)) sep.data.toList).length ≤ 140737488355328) :
    Calls Try.prog 95 #[.slice (some ⟨bk, o, none⟩) xs.length c, .string sep] w fun e w' => e = .returned (.string ⟨(Lib.join (xs.map (·.data.toList)) sep.data.toList).toArray⟩) ∧ Below w.heap.size w w' := Any.strings_Join sh_lays156 sh_Builder_Extra_156 bk o c xs sep w hcells hbk hN hcap hlen
end Go.Proofs.Ytpkjpiphjdpegaa.P
namespace Go.Proofs.Ytpkjpiphjdpegaa.P
open Go.RowKit Go.Proofs.YtpkjpiphjdpegaaW.PrintWords Go.Proofs.YtpkjpiphjdpegaaW.PrintLast Go.Proofs.YtpkjpiphjdpegaaW.PrintMore
set_option linter.unusedVariables false
set_option linter.unusedSimpArgs false
def strs (xs : List ByteArray) : List Value := xs.map .string
theorem own_slice {w : World} {base n : Nat} {v : Value} {xs : List Value} (h : w.ownsRow base 9 1 v n xs) : ∃ A c, v = .slice A n c := by
  rcases h.2 with ⟨rfl, rfl⟩ | ⟨g, cap, cur, rfl, _⟩
  · exact ⟨_, _, rfl⟩
  · exact ⟨_, _, rfl⟩
theorem own_heap {w W : World} {base n : Nat} {v : Value} {xs : List Value} (h : w.ownsRow base 9 1 v n xs) (e : ∀ g, v.ownBlock = some g → W.heap[g]? = w.heap[g]?) : W.ownsRow base 9 1 v n xs := by
  refine ⟨h.1, ?_⟩
  rcases h.2 with h2 | ⟨g, cap, cur, rfl, hg, hh, r⟩
  · exact .inl h2
  · exact .inr ⟨g, cap, cur, rfl, hg, (e g rfl).trans hh, r⟩
set_option maxHeartbeats 4000000 in
set_option maxRecDepth 100000 in
theorem cut_calls (n : Nat) (base B3 B4 : Nat) (s : ByteArray) (v : Value) (xs : List ByteArray) (w : World) (h3 : w.heap[B3]? = some (.cells #[.string s] 9 (0, 0))) (h4 : w.heap[B4]? = some (.cells #[v] 73 (0, 0))) (H : w.ownsRow base 9 1 v xs.length (strs xs)) (hb3 : base ≤ B3) (hb4 : base ≤ B4) (n3 : v.ownBlock ≠ some B3) (n4 : v.ownBlock ≠ some B4) (ne : B3 ≠ B4) (hn' : n ≤ s.size) (hx : xs.length ≤ 1000) :
    Calls Try.prog 102 #[.int .i64 (n : Int), .pointer (some ⟨B4, 0, none⟩), .pointer (some ⟨B3, 0, none⟩)] w fun e w' => e = .returned (.tuple #[]) ∧ ∃ v', w'.heap[B3]? = some (.cells #[.string (s.extract n s.size)] 9 (0, 0)) ∧ w'.heap[B4]? = some (.cells #[v'] 73 (0, 0)) ∧ w'.ownsRow base 9 1 v' (xs.length + 1) (strs (xs ++ [s.extract 0 n])) ∧ v'.ownBlock ≠ some B3 ∧ v'.ownBlock ≠ some B4 ∧ Below base w w' := by
  have c3 : w.cell? ⟨B3, 0, none⟩ = some (.string s) := (blk_cell h3 0).trans rfl
  have c4 : w.cell? ⟨B4, 0, none⟩ = some v := (blk_cell h4 0).trans rfl
  have f3 := blk_frozen h3 0
  have f4 := blk_frozen h4 0
  have lt3 := blk_lt h3
  have lt4 := blk_lt h4
  have hb : base ≤ w.heap.size := by omega
  have p1 : (n : Int) ≤ (s.size : Int) := by omega
  have p0 : (0 : Int) ≤ (n : Int) := by omega
  have hd := Aside0.mk (show w.drew.ownsRow base 9 1 v xs.length (strs xs) from H)
  have hB := Aside0.mk (below_drew1 (Below.refl base w))
  go_enter Try.func102, Try.ntmps102
  go_wp2
  have one : ∀ u ∈ ([.string (s.extract 0 n)] : List Value), u.oneCell' = true := fun u hu => by
    have e : u = .string (s.extract 0 n) := by simpa using hu
    subst e
    rfl
  go_region_law (rw [show (w.alloc (.cells #[.string (s.extract 0 n)] 9)).drew = w.drew.alloc (.cells #[.string (s.extract 0 n)] 9) from rfl]; refine step_append_cells (w0 := w) base (by rfl) (.tmp 4) (.tmp 8) 73 9 (.string ⟨#[]⟩) 1 16 ?ho Try.underlying73 info9 rfl (by omega) (by omega) v xs.length (strs xs) [.string (s.extract 0 n)] ?hs ?hx rfl one hd.out hB.out hb (by omega) ?_; (case ho => rfl); (case hs => simp [Act.eval, Act.put]); (case hx => simp [Act.eval, Act.put]); intro v1 w1 ho1 hb1 hg1 hv1; have h4' := Aside0.mk (blk_grown (show w.drew.heap[B4]? = _ from h4) hg1 n4.symm); have h3' := Aside0.mk (blk_grown (show w.drew.heap[B3]? = _ from h3) hg1 n3.symm); have c4' : w1.cell? ⟨B4, 0, none⟩ = some v := (blk_cell h4'.out 0).trans rfl; have c3' : w1.cell? ⟨B3, 0, none⟩ = some (.string s) := (blk_cell h3'.out 0).trans rfl; have f4' := blk_frozen h4'.out 0; have f3' := blk_frozen h3'.out 0; obtain ⟨A1, cc1, hv0⟩ := own_slice ho1; subst hv0; replace ho1 := Aside0.mk ho1; replace hb1 := Aside0.mk hb1; replace hv1 := Aside0.mk hv1; clear hg1)
  all_goals
    have ne' := ne.symm
    go_wp2
  all_goals
    have q3 : (Value.slice A1 (xs.length + 1) cc1).ownBlock ≠ some B3 := by
      rcases hv1.out with e | ⟨b, e, hb⟩
      · rw [e]; exact n3
      · rw [e]
        intro h
        have : b = B3 := Option.some.inj h
        have hb' : w.heap.size ≤ b := hb
        omega
    have q4 : (Value.slice A1 (xs.length + 1) cc1).ownBlock ≠ some B4 := by
      rcases hv1.out with e | ⟨b, e, hb⟩
      · rw [e]; exact n4
      · rw [e]
        intro h
        have : b = B4 := Option.some.inj h
        have hb' : w.heap.size ≤ b := hb
        omega
    refine bodyPost_end (v := .tuple #[]) (by simp [results, Try.results102, go_sem]) rfl ?_
    refine ⟨rfl, _, blk_put (blk_far h3'.out ne _) 0 _ rfl, blk_far (blk_put h4'.out 0 _ rfl) ne.symm _, own_heap (w := w1) ?_ ?_, q3, q4, (hb1.out.setCell hb4 _).setCell hb3 _⟩
    · have e : strs (xs ++ [s.extract 0 n]) = strs xs ++ [.string (s.extract 0 n)] := by simp [strs]
      rw [e]; exact ho1.out
    · intro g hg
      have g3 : g ≠ B3 := fun e => q3 (by rw [hg, e])
      have g4 : g ≠ B4 := fun e => q4 (by rw [hg, e])
      exact (Below.heap_setCell _ ⟨B3, 0, none⟩ _ g g3).trans (Below.heap_setCell _ ⟨B4, 0, none⟩ _ g g4)
def joinI (s : Int) : List (List Int) → List Int
  | [] => []
  | x :: r => x ++ (r.map (s :: ·)).flatten
theorem joinI_snoc (s : Int) (P : List (List Int)) (x : List Int) (h : P ≠ []) : joinI s (P ++ [x]) = joinI s P ++ s :: x := by
  cases P with
  | nil => exact absurd rfl h
  | cons y r => simp [joinI]
theorem join_is (s : Int) (P : List (List Int)) : Lib.join ((P.map strOfNums).map (·.data.toList)) (Lib.bytesOf [s]) = Lib.bytesOf (joinI s P) := by
  cases P with
  | nil => rfl
  | cons x r =>
    rw [List.map_cons, List.map_cons, Lib.join_cons]
    have t : ∀ r : List (List Int), Lib.joinTail (Lib.bytesOf [s]) ((r.map strOfNums).map (·.data.toList)) = Lib.bytesOf ((r.map (s :: ·)).flatten) := by
      intro r
      induction r with
      | nil => rfl
      | cons y r ih =>
        simp only [List.map_cons, List.flatten_cons]
        rw [show Lib.joinTail (Lib.bytesOf [s]) ((strOfNums y).data.toList :: List.map (fun x => x.data.toList) (List.map strOfNums r)) = Lib.bytesOf [s] ++ (strOfNums y).data.toList ++ Lib.joinTail (Lib.bytesOf [s]) (List.map (fun x => x.data.toList) (List.map strOfNums r)) from rfl, ih]
        simp [Lib.bytesOf, strOfNums_data]
    rw [t]
    simp [joinI, Lib.bytesOf, strOfNums_data]
theorem grp_first (A : List Int) (h : 1 ≤ A.length) : grp 95 A = A.take ((A.length - 1) % 3 + 1) ++ (if A.drop ((A.length - 1) % 3 + 1) = [] then [] else 95 :: grp 95 (A.drop ((A.length - 1) % 3 + 1))) := by
  generalize hk : (A.length - 1) % 3 + 1 = k
  have k3 : k ≤ 3 := by omega
  have kl : k ≤ A.length := by omega
  by_cases c : A.drop k = []
  · rw [if_pos c, List.append_nil]
    have : A.length ≤ k := List.drop_eq_nil_iff.1 c
    rw [List.take_of_length_le this]
    exact grp_small 95 A (by omega)
  · rw [if_neg c]
    have l1 : (A.take k).length = k := by rw [List.length_take]; omega
    have l2 : (A.drop k).length = A.length - k := by rw [List.length_drop]
    have ne : A.drop k ≠ [] := c
    have pos : 0 < (A.drop k).length := List.length_pos_iff.2 ne
    have g := grp_cut 95 (A.take k) (A.drop k) ((A.length - k) / 3 - 1) (by omega) (by omega) (by omega)
    rw [List.take_append_drop] at g
    exact g
theorem ext_take (L : List Int) (k : Nat) : (strOfNums L).extract 0 k = strOfNums (L.take k) := by rw [str_extract, List.drop_zero]
theorem ext_drop (L : List Int) (k : Nat) : (strOfNums L).extract k (strOfNums L).size = strOfNums (L.drop k) := by
  rw [str_extract, strOfNums_size, List.take_of_length_le (Nat.le_refl _)]
theorem grp_len2 : ∀ (l : List Int), (grp 95 l).length ≤ 2 * l.length
  | [] => by simp [grp]
  | x :: l => by
    have ih := grp_len2 l
    unfold grp
    by_cases c : l.length % 3 = 0 ∧ l ≠ []
    · rw [if_pos c]; simp only [List.length_cons]; omega
    · rw [if_neg c]; simp only [List.length_cons]; omega
theorem own_some {w : World} {base n : Nat} {v : Value} {xs : List Value} (h : w.ownsRow base 9 1 v n xs) (hn : 0 < n) : ∃ g c, v = .slice (some ⟨g, 0, none⟩) n c ∧ n ≤ c ∧ g < w.heap.size := by
  rcases h.2 with ⟨rfl, e⟩ | ⟨g, cap, cur, rfl, _, hh, hc, _⟩
  · omega
  · exact ⟨g, cap, rfl, hc, blk_lt hh⟩
set_option maxHeartbeats 4000000 in
set_option maxRecDepth 100000 in
theorem decimal_Grouped.calls (a0_0 a0_1 : Int) (r : ByteArray) (w : World) (h : decimal_Grouped.f a0_0 a0_1 = some r) :
    Calls Try.prog 79 #[.agg #[.int .u64 a0_0, .int .u64 a0_1]] w fun e w' => e = .returned (.string r) ∧ Below w.heap.size w w' := by
  have hu : U64 a0_0 ∧ U64 a0_1 := by
    unfold decimal_Grouped.f at h
    split at h
    · assumption
    · cases h
  rw [grouped_num _ _ hu.1 hu.2] at h
  obtain rfl := Option.some.inj h
  clear h
  have D1 := dec_facts (val a0_0 a0_1) (val_range _ _ hu.1 hu.2).1 (val_range _ _ hu.1 hu.2).2
  have hT := text_num a0_0 a0_1 hu.1 hu.2
  have la : (asc (dec (val a0_0 a0_1))).length = (dec (val a0_0 a0_1)).length := by simp [asc]
  generalize asc (dec (val a0_0 a0_1)) = A at *
  obtain ⟨_, _, l0, l1⟩ := D1
  rw [← la] at l0 l1
  clear la
  have sA : (strOfNums A).size = A.length := strOfNums_size A
  obtain ⟨hd, hhd⟩ : ∃ hd : Nat, (A.length - 1) % 3 + 1 = hd := ⟨_, rfl⟩
  have e1 : Int.tmod ((A.length : Int) - 1) 3 + 1 = (hd : Int) := by rw [Int.tmod_eq_emod_of_nonneg (by omega)]; omega
  go_enter Try.func79, Try.ntmps79
  go_wp2_with (first
    | (go_at_call 78; (with_reducible refine (decimal_Text.calls a0_0 a0_1 _ _ hT).mono ?_); rintro e w' ⟨rfl, hb⟩))
  have HB0 := Aside0.mk (below_step (below_alloc (Below.refl _ _) _) hb)
  have lt0 : w.heap.size + 1 ≤ w'.heap.size := by have := hb.size; rw [World.size_alloc] at this; exact this
  have hdl : hd ≤ A.length := by omega
  have e2 : ((A.length : Int) - 1) % 3 + 1 = (hd : Int) := by omega
  rw [e2]
  have k4 := blk_new (w'.alloc (.cells #[.string (strOfNums A)] 9)) (.cells #[.slice none 0 0] 73)
  rw [World.size_alloc] at k4
  refine (cut_calls hd w.heap.size w'.heap.size (w'.heap.size + 1) (strOfNums A) (.slice none 0 0) [] _ (blk_alloc (blk_new _ _) _) k4 (World.ownsRow_nil ..) (by omega) (by omega) (by simp [Value.ownBlock]) (by simp [Value.ownBlock]) (by omega) (by omega) (by simp)).mono ?_
  rintro e w2 ⟨rfl, v2, k3, k4, ho, n3, n4, hb2⟩
  have HB2 := Aside0.mk (Below.trans (below_alloc (below_alloc HB0.out _) _) hb2)
  rw [ext_take] at ho
  rw [ext_drop] at k3
  obtain ⟨B3, hB3⟩ : ∃ B, w'.heap.size = B := ⟨_, rfl⟩
  rw [hB3] at k3 k4 n3 n4 lt0
  have g1 := grp_first A l0
  rw [hhd] at g1
  replace g1 := Aside0.mk g1
  replace ho := Aside0.mk ho
  replace k3 := Aside0.mk k3
  replace k4 := Aside0.mk k4
  clear hb hb2 HB0 e1 e2 hT
  go_wp2
  go_loopg [] 20 (fun g W => ∃ (P : List (List Int)) (S : List Int) (v : Value) (m : Nat), Aside0 (S.length = 3 * m ∧ m ≤ g ∧ P ≠ [] ∧ P.length + m ≤ 30) ∧ Aside0 (grp 95 A = joinI 95 P ++ (if S = [] then [] else 95 :: grp 95 S)) ∧ Aside0 (W.ownsRow w.heap.size 9 1 v P.length (strs (P.map strOfNums))) ∧ Aside0 (v.ownBlock ≠ some B3 ∧ v.ownBlock ≠ some (B3 + 1)) ∧ Aside0 (W.heap[B3]? = some (.cells #[.string (strOfNums S)] 9 (0, 0))) ∧ Aside0 (W.heap[B3 + 1]? = some (.cells #[v] 73 (0, 0))) ∧ Aside0 (Below w.heap.size w W))
  case atStart =>
    refine ⟨[A.take hd], A.drop hd, v2, (A.length - hd) / 3, ⟨?_, ?_, by simp, ?_⟩, ⟨?_⟩, ho, ⟨n3, n4⟩, k3, k4, HB2⟩
    · rw [List.length_drop]; omega
    · omega
    · simp only [List.length_singleton]; omega
    · rw [g1.out]; simp [joinI]
  case round =>
    clear g1 ho k3 k4 HB2 n3 n4
    obtain ⟨P, S, v, m, F, G, HO, N, K3, K4, HB⟩ := hrel
    have c3 : wr.cell? ⟨B3, 0, none⟩ = some (.string (strOfNums S)) := (blk_cell K3.out 0).trans rfl
    have c4 : wr.cell? ⟨B3 + 1, 0, none⟩ = some v := (blk_cell K4.out 0).trans rfl
    have pl : 0 < P.length := List.length_pos_iff.2 F.out.2.2.1
    have sS : (strOfNums S).size = S.length := strOfNums_size S
    by_cases c : S = []
    · subst c
      have t0 : (strOfNums []).toList.isEmpty = true := by rw [Lib.strOfNums_toList]; rfl
      have hj := G.out
      rw [if_pos rfl, List.append_nil] at hj
      obtain ⟨gb, cap, rfl, hcap, hlt⟩ := own_some HO.out pl
      have J := sh_strings_Join gb 0 cap (P.map strOfNums) ⟨#[95]⟩ wr (fun j x hx => by
        have hjl : j < P.length := by
          have := (List.getElem?_eq_some_iff.1 hx).1
          rw [List.length_map] at this
          exact this
        rw [Nat.zero_add, HO.out.cellAt j (by omega)]
        unfold strs
        rw [List.getElem?_map, hx]
        rfl) hlt (by rw [List.length_map]; have := F.out.2.2.2; omega) (by rw [List.length_map]; exact hcap) (by
        have e := join_is 95 P
        have e' : Lib.bytesOf [95] = (⟨#[95]⟩ : ByteArray).data.toList := rfl
        rw [e'] at e
        rw [e, Lib.bytesOf_length, ← hj]
        have := grp_len2 A
        omega)
      have e := join_is 95 P
      have e' : Lib.bytesOf [95] = (⟨#[95]⟩ : ByteArray).data.toList := rfl
      rw [e'] at e
      rw [e, ← hj, List.length_map] at J
      go_wp2_with (first
        | (go_at_call 95; (with_reducible refine J.mono ?_); rintro e w5 ⟨rfl, hb5⟩))
      go_ret
      exact ⟨by rw [hj]; rfl, below_step HB.out hb5⟩
    · have t0 : (strOfNums S).toList.isEmpty = false := by
        rw [Lib.strOfNums_toList]
        cases S with
        | nil => exact absurd rfl c
        | cons x t => rfl
      obtain ⟨gi, rfl⟩ : ∃ g, gk = g + 1 := ⟨gk - 1, by have := F.out; have := List.length_pos_iff.2 c; omega⟩
      have hm : 1 ≤ m := by have := F.out; have := List.length_pos_iff.2 c; omega
      have hS3 : 3 ≤ (strOfNums S).size := by rw [sS]; have := F.out; omega
      have CC := cut_calls 3 w.heap.size B3 (B3 + 1) (strOfNums S) v (P.map strOfNums) wr K3.out K4.out (by rw [List.length_map]; exact HO.out) (by omega) (by omega) N.out.1 N.out.2 (by omega) hS3 (by rw [List.length_map]; have := F.out.2.2.2; omega)
      rw [List.length_map, ext_take, ext_drop] at CC
      change Calls Try.prog 102 #[.int .i64 3, .pointer (some ⟨B3 + 1, 0, none⟩), .pointer (some ⟨B3, 0, none⟩)] _ _ at CC
      go_wp2_with (first
        | (go_at_call 102; (with_reducible refine CC.mono ?_); rintro e w5 ⟨rfl, v5, k3, k4, ho, n3, n4, hb5⟩))
      go_roundg gi
      case measure => omega
      case rel =>
        have gf := grp_first S (by have := List.length_pos_iff.2 c; omega)
        have h3 : (S.length - 1) % 3 + 1 = 3 := by have := F.out.1; omega
        rw [h3] at gf
        refine ⟨P ++ [S.take 3], S.drop 3, v5, m - 1, ⟨?_, ?_, by simp, ?_⟩, ⟨?_⟩, ⟨?_⟩, ⟨n3, n4⟩, ⟨k3⟩, ⟨k4⟩, ⟨HB.out.trans hb5⟩⟩
        · rw [List.length_drop]; have := F.out.1; omega
        · have := F.out.2.1; omega
        · rw [List.length_append, List.length_singleton]; have := F.out.2.2.2; omega
        · rw [G.out, if_neg c, joinI_snoc 95 P _ F.out.2.2.1, gf]
          simp
        · rw [List.length_append, List.length_singleton, List.map_append]; exact ho
end Go.Proofs.Ytpkjpiphjdpegaa.P
namespace Go.Proofs.Ytpkjpiphjdpegaa.P
open Go.RowKit Go.Proofs.YtpkjpiphjdpegaaW.PrintWords Go.Proofs.YtpkjpiphjdpegaaW.PrintLast Go.Proofs.YtpkjpiphjdpegaaW.PrintMore
attribute [local go_sem] max2_int min2_int max_two min_two max_three min_three max_four min_four
set_option linter.unusedVariables false
set_option linter.unusedSimpArgs false
attribute [local go_sem high] eqA25
def paymasterlaw02_DecimalTexts.f (k : Nat) (a0_0 : Int) (a0_1 : Int) (a1 : ByteArray) : Option (Bool) := if (a1.size : Int) > 300 then (some true) else ((decimal_Parse.f a1).bind fun bt1686 => ((paymasterref02_Parse.f k a1).bind fun bt1690 => ((decimal_Text.f a0_0 a0_1).bind fun t1694 => ((paymasterref02_Text.f k a0_0 a0_1).bind fun t1695 => (if t1694.toList = t1695.toList then ((decimal_Grouped.f a0_0 a0_1).bind fun t1696 => ((paymasterref02_Grouped.f k a0_0 a0_1).bind fun t1697 => (if t1696.toList = t1697.toList then (if (bt1686.1 == bt1690.1 && (bt1686.2.1 == bt1690.2.1)) = true then (some (bt1686.2.2 == bt1690.2.2)) else (none)) else (none)))) else (none))))))
def paymasterlaw02_DecimalTexts.T5 : Bool × List (List Nat × List Nat) := (true, [([], []), ([0], [0]), ([], []), ([2, 1], [2]), ([1, 3], [1, 3]), ([4, 3], [4]), ([5], [5]), ([6, 5, 5], [5, 6]), ([5], [5]), ([8, 7, 5], [5, 8]), ([7, 9, 5], [5, 7, 9]), ([5, 10], [5, 10]), ([11, 9], [11]), ([12], [12]), ([12], [12]), ([13, 14, 12], [12, 13, 14]), ([12, 15], [12, 15]), ([16, 12], [16]), ([17], [17]), ([17], [17]), ([18, 19, 17], [17, 18, 19]), ([17, 20], [17, 20]), ([21, 17, 0, 1, 2, 3, 4, 5, 6, 7, 8, 9, 10, 11, 12, 13, 14, 15, 16, 17, 18, 19, 20, 21], [21])])
def paymasterlaw02_DecimalTexts.B5 : List Nat := [0, 1, 0, 7, 15, 31, 63, 127, 63, 511, 1023, 2047, 4095, 8191, 8191, 32767, 65535, 131071, 262143, 262143, 1048575, 2097151, 4194303]
theorem paymasterlaw02_DecimalTexts.tab5 : rtab .any (opsOf Try.f19 5) = paymasterlaw02_DecimalTexts.T5 := by kernel_rfl
theorem paymasterlaw02_DecimalTexts.bits5 : waitsOk paymasterlaw02_DecimalTexts.T5.2 paymasterlaw02_DecimalTexts.B5 = true := by kernel_rfl
set_option maxHeartbeats 8000000 in
set_option maxRecDepth 100000 in
theorem paymasterlaw02_DecimalTexts.calls (k : Nat) (a0_0 : Int) (a0_1 : Int) (a1 : ByteArray) (r : Bool) (w : World) (h : paymasterlaw02_DecimalTexts.f k a0_0 a0_1 a1 = some r) :
    Calls Try.prog 19 #[.agg #[.int .u64 a0_0, .int .u64 a0_1], .string a1] w fun e w' => e = .returned (.bool r) ∧ Below w.heap.size w w' := by
  have hu25 := Try.underlying25
  have HB := Aside0.mk (Below.refl w.heap.size w)
  have H : (if (a1.size : Int) > 300 then (some true) else ((decimal_Parse.f a1).bind fun bt1686 => ((paymasterref02_Parse.f k a1).bind fun bt1690 => ((decimal_Text.f a0_0 a0_1).bind fun t1694 => ((paymasterref02_Text.f k a0_0 a0_1).bind fun t1695 => (if t1694.toList = t1695.toList then ((decimal_Grouped.f a0_0 a0_1).bind fun t1696 => ((paymasterref02_Grouped.f k a0_0 a0_1).bind fun t1697 => (if t1696.toList = t1697.toList then (if (bt1686.1 == bt1690.1 && (bt1686.2.1 == bt1690.2.1)) = true then (some (bt1686.2.2 == bt1690.2.2)) else (none)) else (none)))) else (none))))))) = some r := h
  clear h
  by_cases c3 : (a1.size : Int) > 300
  · rw [if_pos c3] at H
    have c3b0 : decide (300 < (a1.size : Int)) = true := decide_eq_true c3
    have c3b1 : decide (300 < a1.size) = true := decide_eq_true (by omega)
    clear c3
    obtain rfl := Option.some.inj H
    go_enter Try.func19, Try.ntmps19
    go_wp2_with (first | ((with_reducible refine gate_dst (N := 2) rfl ?_); refine box_event ?hg (N := 2) ?hd (cs := #[.int .u64 a0_0, .int .u64 a0_1]) (t := 25) ?hr ?_; (case hd => rfl); (case hg => rfl); (case hr => first | (go_simp; done) | (go_simp; rfl)); intro gb1673 hg w4 hbox hb; have n0_ := Aside0.mk (below_step (by repeat (first | (with_reducible first | exact HB.out | apply below_alloc | apply pw_below_drewN | apply below_drew1) | exact HB.out)) hb); have n1_ := Aside0.mk (hbox); have n2_ := Aside0.mk ((by rw [hg]; exact (below_size (by repeat (first | (with_reducible first | exact HB.out | apply below_alloc | apply pw_below_drewN | apply below_drew1) | exact HB.out))) : w.heap.size ≤ gb1673)); have n3_ := Aside0.mk ((by rw [hg]; exact (below_size (by repeat (first | (with_reducible first | exact HB.out | apply below_alloc | apply pw_below_drewN | apply below_drew1) | exact HB.out))) : w.heap.size ≤ gb1673)); clear HB; have HB := n0_; have BK1673 := n1_; have GW1673 := n2_; have GE1673 := n3_; clear n0_ n1_ n2_ n3_; clear hb hbox hg))
    go_ret
    exact ⟨by first | rfl | (simp [errW_none, errW_some] <;> rfl) | (simp [*, errW_none, errW_some] <;> rfl), by repeat (first | (with_reducible first | exact HB.out | apply below_alloc | apply pw_below_drewN | apply below_drew1 | refine below_set ?_ GE1673.out) | exact HB.out)⟩
  · rw [if_neg c3] at H
    have c3b0 : decide (300 < (a1.size : Int)) = false := decide_eq_false c3
    have c3b1 : decide (300 < a1.size) = false := decide_eq_false (by omega)
    clear c3
    replace H := Option.bind_eq_some_iff.mp H
    obtain ⟨⟨t1686, t1687, t1688⟩, A50, H⟩ := H
    replace H : ((paymasterref02_Parse.f k a1).bind fun bt1690 => ((decimal_Text.f a0_0 a0_1).bind fun t1694 => ((paymasterref02_Text.f k a0_0 a0_1).bind fun t1695 => (if t1694.toList = t1695.toList then ((decimal_Grouped.f a0_0 a0_1).bind fun t1696 => ((paymasterref02_Grouped.f k a0_0 a0_1).bind fun t1697 => (if t1696.toList = t1697.toList then (if (t1686 == bt1690.1 && (t1687 == bt1690.2.1)) = true then (some (t1688 == bt1690.2.2)) else (none)) else (none)))) else (none))))) = some r := H
    have A5 := Aside0.mk A50
    clear A50
    replace H := Option.bind_eq_some_iff.mp H
    obtain ⟨⟨t1690, t1691, t1692⟩, A60, H⟩ := H
    replace H : ((decimal_Text.f a0_0 a0_1).bind fun t1694 => ((paymasterref02_Text.f k a0_0 a0_1).bind fun t1695 => (if t1694.toList = t1695.toList then ((decimal_Grouped.f a0_0 a0_1).bind fun t1696 => ((paymasterref02_Grouped.f k a0_0 a0_1).bind fun t1697 => (if t1696.toList = t1697.toList then (if (t1686 == t1690 && (t1687 == t1691)) = true then (some (t1688 == t1692)) else (none)) else (none)))) else (none)))) = some r := H
    have A6 := Aside0.mk A60
    clear A60
    replace H := Option.bind_eq_some_iff.mp H
    obtain ⟨t1694, A70, H⟩ := H
    replace H : ((paymasterref02_Text.f k a0_0 a0_1).bind fun t1695 => (if t1694.toList = t1695.toList then ((decimal_Grouped.f a0_0 a0_1).bind fun t1696 => ((paymasterref02_Grouped.f k a0_0 a0_1).bind fun t1697 => (if t1696.toList = t1697.toList then (if (t1686 == t1690 && (t1687 == t1691)) = true then (some (t1688 == t1692)) else (none)) else (none)))) else (none))) = some r := H
    have A7 := Aside0.mk A70
    clear A70
    replace H := Option.bind_eq_some_iff.mp H
    obtain ⟨t1695, A80, H⟩ := H
    replace H : (if t1694.toList = t1695.toList then ((decimal_Grouped.f a0_0 a0_1).bind fun t1696 => ((paymasterref02_Grouped.f k a0_0 a0_1).bind fun t1697 => (if t1696.toList = t1697.toList then (if (t1686 == t1690 && (t1687 == t1691)) = true then (some (t1688 == t1692)) else (none)) else (none)))) else (none)) = some r := H
    have A8 := Aside0.mk A80
    clear A80
    by_cases c9 : t1694.toList = t1695.toList
    · rw [if_pos c9] at H
      have c9b0 : (t1694.toList == t1695.toList) = true := beq_iff_eq.mpr c9
      have c9b1 : (t1694.toList != t1695.toList) = false := bne_eq_false_iff_eq.mpr c9
      clear c9
      replace H := Option.bind_eq_some_iff.mp H
      obtain ⟨t1696, A100, H⟩ := H
      replace H : ((paymasterref02_Grouped.f k a0_0 a0_1).bind fun t1697 => (if t1696.toList = t1697.toList then (if (t1686 == t1690 && (t1687 == t1691)) = true then (some (t1688 == t1692)) else (none)) else (none))) = some r := H
      have A10 := Aside0.mk A100
      clear A100
      replace H := Option.bind_eq_some_iff.mp H
      obtain ⟨t1697, A110, H⟩ := H
      replace H : (if t1696.toList = t1697.toList then (if (t1686 == t1690 && (t1687 == t1691)) = true then (some (t1688 == t1692)) else (none)) else (none)) = some r := H
      have A11 := Aside0.mk A110
      clear A110
      by_cases c12 : t1696.toList = t1697.toList
      · rw [if_pos c12] at H
        have c12b0 : (t1696.toList == t1697.toList) = true := beq_iff_eq.mpr c12
        have c12b1 : (t1696.toList != t1697.toList) = false := bne_eq_false_iff_eq.mpr c12
        clear c12
        by_cases c13 : (t1686 == t1690 && (t1687 == t1691)) = true
        · rw [if_pos c13] at H
          have c13b0 : (t1686 == t1690 && (t1687 == t1691)) = true := c13
          (try (have c13b1 : decide (t1686 = t1690 && (t1687 == t1691)) = true := by simpa using c13))
          (try (have c13b2 : (t1686 == t1690 && (t1687 == t1691)) = true := by simpa using c13))
          clear c13
          obtain rfl := Option.some.inj H
          go_enter Try.func19, Try.ntmps19
          try go_wp2_with (first | ((with_reducible refine gate_dst (N := 2) rfl ?_); refine box_event ?hg (N := 2) ?hd (cs := #[.int .u64 a0_0, .int .u64 a0_1]) (t := 25) ?hr ?_; (case hd => rfl); (case hg => rfl); (case hr => first | (go_simp; done) | (go_simp; rfl)); intro gb1673 hg w14 hbox hb; have n0_ := Aside0.mk (below_step (by repeat (first | (with_reducible first | exact HB.out | apply below_alloc | apply pw_below_drewN | apply below_drew1) | exact HB.out)) hb); have n1_ := Aside0.mk (hbox); have n2_ := Aside0.mk ((by rw [hg]; exact (below_size (by repeat (first | (with_reducible first | exact HB.out | apply below_alloc | apply pw_below_drewN | apply below_drew1) | exact HB.out))) : w.heap.size ≤ gb1673)); have n3_ := Aside0.mk ((by rw [hg]; exact (below_size (by repeat (first | (with_reducible first | exact HB.out | apply below_alloc | apply pw_below_drewN | apply below_drew1) | exact HB.out))) : w.heap.size ≤ gb1673)); clear HB; have HB := n0_; have BK1673 := n1_; have GW1673 := n2_; have GE1673 := n3_; clear n0_ n1_ n2_ n3_; clear hb hbox hg) | ((with_reducible refine gate_callee (f := 76) rfl ?_); refine goesL_ (some 14) rfl rfl Try.func76 (by kernel_rfl) rfl #[.string a1] rfl (by (try simp only [List.map_toArray, List.map_cons, List.map_nil]); first | done | rfl | (simp only [List.length_drop, List.length_take]; rfl)) ?_; (with_reducible refine (decimal_Parse.calls a1 t1686 t1687 t1688 _ A5.out).mono ?_); rintro e w15 ⟨rfl, hb⟩; refine ⟨_, rfl, ?_⟩; have n0_ := Aside0.mk (blk_below (g := gb1673) (o := .cells #[.int .u64 a0_0, .int .u64 a0_1] 25 (0, 0)) (by (with_reducible repeat (first | refine blk_drewN ?_ _ | refine blk_drew ?_ | refine blk_alloc ?_ _)); exact BK1673.out) hb); have n1_ := Aside0.mk (below_step (by repeat (first | (with_reducible first | exact HB.out | apply below_alloc | apply pw_below_drewN | apply below_drew1 | refine below_set ?_ GE1673.out) | exact HB.out)) hb); clear BK1673; clear HB; have BK1673 := n0_; have HB := n1_; clear n0_ n1_; (try clear hb); (try clear hb2); (try clear hk); (try clear hi)) | ((with_reducible refine gate_dst (N := 5) rfl ?_); refine box_event ?hg (N := 5) ?hd (cs := #[.int .u64 0, .int .u64 0]) (t := 25) ?hr ?_; (case hd => rfl); (case hg => rfl); (case hr => first | (go_simp; done) | (go_simp; rfl)); intro gb1689 hg w16 hbox hb; have n0_ := Aside0.mk (blk_below (g := gb1673) (o := .cells #[.int .u64 a0_0, .int .u64 a0_1] 25 (0, 0)) (by (with_reducible repeat (first | refine blk_drewN ?_ _ | refine blk_drew ?_ | refine blk_alloc ?_ _)); exact BK1673.out) hb); have n1_ := Aside0.mk (below_step (by repeat (first | (with_reducible first | exact HB.out | apply below_alloc | apply pw_below_drewN | apply below_drew1 | refine below_set ?_ GE1673.out) | exact HB.out)) hb); have n2_ := Aside0.mk (hbox); have n3_ := Aside0.mk ((by rw [hg]; exact (below_size (by repeat (first | (with_reducible first | exact HB.out | apply below_alloc | apply pw_below_drewN | apply below_drew1 | refine below_set ?_ GE1673.out) | exact HB.out))) : w.heap.size ≤ gb1689)); have n4_ := Aside0.mk ((by rw [hg]; exact (below_size (by repeat (first | (with_reducible first | exact HB.out | apply below_alloc | apply pw_below_drewN | apply below_drew1 | refine below_set ?_ GE1673.out) | exact HB.out))) : w.heap.size ≤ gb1689)); have n5_ := Aside0.mk ((by rw [hg]; exact Nat.ne_of_lt (blk_lt (g := gb1673) (o := .cells #[.int .u64 a0_0, .int .u64 a0_1] 25 (0, 0)) (by (with_reducible repeat (first | refine blk_drewN ?_ _ | refine blk_drew ?_ | refine blk_alloc ?_ _)); exact BK1673.out)) : gb1673 ≠ gb1689)); have n6_ := Aside0.mk ((by rw [hg]; exact Nat.ne_of_gt (blk_lt (g := gb1673) (o := .cells #[.int .u64 a0_0, .int .u64 a0_1] 25 (0, 0)) (by (with_reducible repeat (first | refine blk_drewN ?_ _ | refine blk_drew ?_ | refine blk_alloc ?_ _)); exact BK1673.out)) : gb1689 ≠ gb1673)); clear BK1673; clear HB; have BK1673 := n0_; have HB := n1_; have BK1689 := n2_; have GW1689 := n3_; have GE1689 := n4_; have NB1673_1689 := n5_; have NB1689_1673 := n6_; clear n0_ n1_ n2_ n3_ n4_ n5_ n6_; clear hb hbox hg; have hnb17 := NB1689_1673.out; have hnc17 := NB1673_1689.out; have hcz18_0 : w16.cell? ⟨gb1689, 0, none⟩ = some (.int .u64 0) := (blk_cell BK1689.out 0).trans rfl; have hcz18_1 : w16.cell? ⟨gb1689, 1, none⟩ = some (.int .u64 0) := (blk_cell BK1689.out 1).trans rfl; have hfz18_0 := blk_frozen BK1689.out 0; have hfz18_1 := blk_frozen BK1689.out 1) | ((with_reducible refine gate_callee (f := 77) rfl ?_); refine goesL_ (some 19) rfl rfl Try.func77 (by kernel_rfl) rfl #[.string a1] rfl (by (try simp only [List.map_toArray, List.map_cons, List.map_nil]); first | done | rfl | (simp only [List.length_drop, List.length_take]; rfl)) ?_; (with_reducible refine (paymasterref02_Parse.calls k a1 t1690 t1691 t1692 _ A6.out).mono ?_); rintro e w19 ⟨rfl, hb⟩; refine ⟨_, rfl, ?_⟩; have n0_ := Aside0.mk (blk_below (g := gb1673) (o := .cells #[.int .u64 a0_0, .int .u64 a0_1] 25 (0, 0)) (by (with_reducible repeat (first | refine blk_drewN ?_ _ | refine blk_drew ?_ | refine blk_alloc ?_ _)); refine blk_far ?_ NB1673_1689.out _; (with_reducible repeat (first | refine blk_drewN ?_ _ | refine blk_drew ?_ | refine blk_alloc ?_ _)); refine blk_far ?_ NB1673_1689.out _; (with_reducible repeat (first | refine blk_drewN ?_ _ | refine blk_drew ?_ | refine blk_alloc ?_ _)); exact BK1673.out) hb); have n1_ := Aside0.mk (blk_below (g := gb1689) (o := .cells #[.int .u64 t1686, .int .u64 t1687] 25 (0, 0)) (by (with_reducible repeat (first | refine blk_drewN ?_ _ | refine blk_drew ?_ | refine blk_alloc ?_ _)); refine blk_put (cs := #[.int .u64 t1686, .int .u64 0]) ?_ 1 _ rfl; (with_reducible repeat (first | refine blk_drewN ?_ _ | refine blk_drew ?_ | refine blk_alloc ?_ _)); refine blk_put (cs := #[.int .u64 0, .int .u64 0]) ?_ 0 _ rfl; (with_reducible repeat (first | refine blk_drewN ?_ _ | refine blk_drew ?_ | refine blk_alloc ?_ _)); exact BK1689.out) hb); have n2_ := Aside0.mk (below_step (by repeat (first | (with_reducible first | exact HB.out | apply below_alloc | apply pw_below_drewN | apply below_drew1 | refine below_set ?_ GE1673.out | refine below_set ?_ GE1689.out) | exact HB.out)) hb); clear BK1673; clear BK1689; clear HB; have BK1673 := n0_; have BK1689 := n1_; have HB := n2_; clear n0_ n1_ n2_; (try clear hb); (try clear hb2); (try clear hk); (try clear hi)) | ((with_reducible refine gate_dst (N := 7) rfl ?_); refine box_event ?hg (N := 7) ?hd (cs := #[.int .u64 0, .int .u64 0]) (t := 25) ?hr ?_; (case hd => rfl); (case hg => rfl); (case hr => first | (go_simp; done) | (go_simp; rfl)); intro gb1693 hg w20 hbox hb; have n0_ := Aside0.mk (blk_below (g := gb1673) (o := .cells #[.int .u64 a0_0, .int .u64 a0_1] 25 (0, 0)) (by (with_reducible repeat (first | refine blk_drewN ?_ _ | refine blk_drew ?_ | refine blk_alloc ?_ _)); exact BK1673.out) hb); have n1_ := Aside0.mk (blk_below (g := gb1689) (o := .cells #[.int .u64 t1686, .int .u64 t1687] 25 (0, 0)) (by (with_reducible repeat (first | refine blk_drewN ?_ _ | refine blk_drew ?_ | refine blk_alloc ?_ _)); exact BK1689.out) hb); have n2_ := Aside0.mk (below_step (by repeat (first | (with_reducible first | exact HB.out | apply below_alloc | apply pw_below_drewN | apply below_drew1 | refine below_set ?_ GE1673.out | refine below_set ?_ GE1689.out) | exact HB.out)) hb); have n3_ := Aside0.mk (hbox); have n4_ := Aside0.mk ((by rw [hg]; exact (below_size (by repeat (first | (with_reducible first | exact HB.out | apply below_alloc | apply pw_below_drewN | apply below_drew1 | refine below_set ?_ GE1673.out | refine below_set ?_ GE1689.out) | exact HB.out))) : w.heap.size ≤ gb1693)); have n5_ := Aside0.mk ((by rw [hg]; exact (below_size (by repeat (first | (with_reducible first | exact HB.out | apply below_alloc | apply pw_below_drewN | apply below_drew1 | refine below_set ?_ GE1673.out | refine below_set ?_ GE1689.out) | exact HB.out))) : w.heap.size ≤ gb1693)); have n6_ := Aside0.mk ((by rw [hg]; exact Nat.ne_of_lt (blk_lt (g := gb1673) (o := .cells #[.int .u64 a0_0, .int .u64 a0_1] 25 (0, 0)) (by (with_reducible repeat (first | refine blk_drewN ?_ _ | refine blk_drew ?_ | refine blk_alloc ?_ _)); exact BK1673.out)) : gb1673 ≠ gb1693)); have n7_ := Aside0.mk ((by rw [hg]; exact Nat.ne_of_gt (blk_lt (g := gb1673) (o := .cells #[.int .u64 a0_0, .int .u64 a0_1] 25 (0, 0)) (by (with_reducible repeat (first | refine blk_drewN ?_ _ | refine blk_drew ?_ | refine blk_alloc ?_ _)); exact BK1673.out)) : gb1693 ≠ gb1673)); have n8_ := Aside0.mk ((by rw [hg]; exact Nat.ne_of_lt (blk_lt (g := gb1689) (o := .cells #[.int .u64 t1686, .int .u64 t1687] 25 (0, 0)) (by (with_reducible repeat (first | refine blk_drewN ?_ _ | refine blk_drew ?_ | refine blk_alloc ?_ _)); exact BK1689.out)) : gb1689 ≠ gb1693)); have n9_ := Aside0.mk ((by rw [hg]; exact Nat.ne_of_gt (blk_lt (g := gb1689) (o := .cells #[.int .u64 t1686, .int .u64 t1687] 25 (0, 0)) (by (with_reducible repeat (first | refine blk_drewN ?_ _ | refine blk_drew ?_ | refine blk_alloc ?_ _)); exact BK1689.out)) : gb1693 ≠ gb1689)); clear BK1673; clear BK1689; clear HB; have BK1673 := n0_; have BK1689 := n1_; have HB := n2_; have BK1693 := n3_; have GW1693 := n4_; have GE1693 := n5_; have NB1673_1693 := n6_; have NB1693_1673 := n7_; have NB1689_1693 := n8_; have NB1693_1689 := n9_; clear n0_ n1_ n2_ n3_ n4_ n5_ n6_ n7_ n8_ n9_; clear hb hbox hg; have hnb21 := NB1693_1673.out; have hnc21 := NB1673_1693.out; have hnb22 := NB1693_1689.out; have hnc22 := NB1689_1693.out; have hcz23_0 : w20.cell? ⟨gb1693, 0, none⟩ = some (.int .u64 0) := (blk_cell BK1693.out 0).trans rfl; have hcz23_1 : w20.cell? ⟨gb1693, 1, none⟩ = some (.int .u64 0) := (blk_cell BK1693.out 1).trans rfl; have hfz23_0 := blk_frozen BK1693.out 0; have hfz23_1 := blk_frozen BK1693.out 1))
          have n0_ : Aside0 (((w20.setCell ⟨gb1693, 0, none⟩ (.int .u64 t1690)).setCell ⟨gb1693, 1, none⟩ (.int .u64 t1691)).heap[gb1673]? = some (.cells #[.int .u64 a0_0, .int .u64 a0_1] 25 (0, 0))) := ⟨by (with_reducible repeat (first | refine blk_drewN ?_ _ | refine blk_drew ?_ | refine blk_alloc ?_ _)); refine blk_far ?_ NB1673_1693.out _; (with_reducible repeat (first | refine blk_drewN ?_ _ | refine blk_drew ?_ | refine blk_alloc ?_ _)); refine blk_far ?_ NB1673_1693.out _; (with_reducible repeat (first | refine blk_drewN ?_ _ | refine blk_drew ?_ | refine blk_alloc ?_ _)); exact BK1673.out⟩
          have n1_ : Aside0 (((w20.setCell ⟨gb1693, 0, none⟩ (.int .u64 t1690)).setCell ⟨gb1693, 1, none⟩ (.int .u64 t1691)).heap[gb1689]? = some (.cells #[.int .u64 t1686, .int .u64 t1687] 25 (0, 0))) := ⟨by (with_reducible repeat (first | refine blk_drewN ?_ _ | refine blk_drew ?_ | refine blk_alloc ?_ _)); refine blk_far ?_ NB1689_1693.out _; (with_reducible repeat (first | refine blk_drewN ?_ _ | refine blk_drew ?_ | refine blk_alloc ?_ _)); refine blk_far ?_ NB1689_1693.out _; (with_reducible repeat (first | refine blk_drewN ?_ _ | refine blk_drew ?_ | refine blk_alloc ?_ _)); exact BK1689.out⟩
          have n2_ : Aside0 (((w20.setCell ⟨gb1693, 0, none⟩ (.int .u64 t1690)).setCell ⟨gb1693, 1, none⟩ (.int .u64 t1691)).heap[gb1693]? = some (.cells #[.int .u64 t1690, .int .u64 t1691] 25 (0, 0))) := ⟨by (with_reducible repeat (first | refine blk_drewN ?_ _ | refine blk_drew ?_ | refine blk_alloc ?_ _)); refine blk_put (cs := #[.int .u64 t1690, .int .u64 0]) ?_ 1 _ rfl; (with_reducible repeat (first | refine blk_drewN ?_ _ | refine blk_drew ?_ | refine blk_alloc ?_ _)); refine blk_put (cs := #[.int .u64 0, .int .u64 0]) ?_ 0 _ rfl; (with_reducible repeat (first | refine blk_drewN ?_ _ | refine blk_drew ?_ | refine blk_alloc ?_ _)); exact BK1693.out⟩
          have n3_ : Aside0 (Below w.heap.size w ((w20.setCell ⟨gb1693, 0, none⟩ (.int .u64 t1690)).setCell ⟨gb1693, 1, none⟩ (.int .u64 t1691))) := ⟨by repeat (first | (with_reducible first | exact HB.out | apply below_alloc | apply pw_below_drewN | apply below_drew1 | refine below_set ?_ GE1673.out | refine below_set ?_ GE1689.out | refine below_set ?_ GE1693.out) | exact HB.out)⟩
          (try clear BK1673)
          (try clear BK1689)
          (try clear BK1693)
          (try clear HB)
          generalize ((w20.setCell ⟨gb1693, 0, none⟩ (.int .u64 t1690)).setCell ⟨gb1693, 1, none⟩ (.int .u64 t1691)) = w24 at n0_ n1_ n2_ n3_ ⊢
          have BK1673 := n0_
          have BK1689 := n1_
          have BK1693 := n2_
          have HB := n3_
          clear n0_ n1_ n2_ n3_
          have n0_ := Aside0.mk (blk_drew BK1673.out)
          have n1_ := Aside0.mk (blk_drew BK1689.out)
          have n2_ := Aside0.mk (blk_drew BK1693.out)
          have n3_ := Aside0.mk (below_drew1 HB.out)
          clear BK1673
          clear BK1689
          clear BK1693
          clear HB
          have BK1673 := n0_
          have BK1689 := n1_
          have BK1693 := n2_
          have HB := n3_
          clear n0_ n1_ n2_ n3_
          refine start_ (n := 23) (S := fun w' => w'.cell? ⟨gb1673, 0, none⟩ = some (.int .u64 a0_0) ∧ w'.cell? ⟨gb1673, 1, none⟩ = some (.int .u64 a0_1) ∧ w'.cell? ⟨gb1689, 0, none⟩ = some (.int .u64 t1686) ∧ w'.cell? ⟨gb1689, 1, none⟩ = some (.int .u64 t1687) ∧ w'.cell? ⟨gb1693, 0, none⟩ = some (.int .u64 t1690) ∧ w'.cell? ⟨gb1693, 1, none⟩ = some (.int .u64 t1691)) (ds := []) #[false, false, false, false, false, false, false, false, false, false, false, false, false, false, false, false, false, false, false, false, false, false, false] (by kernel_rfl) rfl rfl ⟨(blk_cell BK1673.out 0).trans rfl, (blk_cell BK1673.out 1).trans rfl, (blk_cell BK1689.out 0).trans rfl, (blk_cell BK1689.out 1).trans rfl, (blk_cell BK1693.out 0).trans rfl, (blk_cell BK1693.out 1).trans rfl⟩ (fun hHeld => ?_); refine with_tabW paymasterlaw02_DecimalTexts.tab5 paymasterlaw02_DecimalTexts.bits5 (fun HT_ HW_ => ?_)
          generalize w24.drew = w25 at BK1673 BK1689 BK1693 HB hHeld ⊢
          refine take_ (i := 0) (N := some 22) (v := ?_) (a' := ?_) #[true, false, false, false, false, false, false, false, false, false, false, false, false, false, false, false, false, false, false, false, false, false, false] rfl rfl (take_ofW HT_.out HW_.out (by kernel_rfl)) (fun _ _ _ h => h) (Or.inl ⟨by rfl, ?_⟩) hHeld ?_ ?_
          rotate_left
          · rintro w' ⟨s0, s1, s2, s3, s4, s5⟩
            go_simp
            with_reducible rfl
          rotate_left
          · simp only [Act.put, List.setIfInBounds_toArray, List.set_cons_zero, List.set_cons_succ, i64_w, i32_w]
            rfl
          refine take_ (i := 2) (N := some 24) (v := ?_) (a' := ?_) #[true, false, true, false, false, false, false, false, false, false, false, false, false, false, false, false, false, false, false, false, false, false, false] rfl rfl (take_ofW HT_.out HW_.out (by kernel_rfl)) (fun _ _ _ h => h) (Or.inl ⟨by rfl, ?_⟩) hHeld ?_ ?_
          rotate_left
          · rintro w' ⟨s0, s1, s2, s3, s4, s5⟩
            go_simp
            with_reducible rfl
          rotate_left
          · simp only [Act.put, List.setIfInBounds_toArray, List.set_cons_zero, List.set_cons_succ, i64_w, i32_w]
            rfl
          refine one_ (i := 1) (N := some 23) #[true, true, true, false, false, false, false, false, false, false, false, false, false, false, false, false, false, false, false, false, false, false, false] rfl rfl (one_of HT_.out (by kernel_rfl)) (by decide) (fun K hK => ?_)
          refine goes_ Try.func78 (by kernel_rfl) rfl #[.agg #[.int .u64 a0_0, .int .u64 a0_1]] (by rfl) rfl rfl (by (try simp only [List.map_toArray, List.map_cons, List.map_nil]); first | done | rfl | (simp only [List.length_drop, List.length_take]; rfl)) ?_
          with_reducible refine (decimal_Text.calls a0_0 a0_1 t1694 _ A7.out).mono ?_
          rintro e w26 ⟨rfl, hb⟩
          refine ⟨_, rfl, ?_⟩
          have n0_ := Aside0.mk (blk_below (g := gb1673) (o := .cells #[.int .u64 a0_0, .int .u64 a0_1] 25 (0, 0)) (by (with_reducible repeat (first | refine blk_drewN ?_ _ | refine blk_drew ?_ | refine blk_alloc ?_ _)); exact BK1673.out) hb)
          have n1_ := Aside0.mk (blk_below (g := gb1689) (o := .cells #[.int .u64 t1686, .int .u64 t1687] 25 (0, 0)) (by (with_reducible repeat (first | refine blk_drewN ?_ _ | refine blk_drew ?_ | refine blk_alloc ?_ _)); exact BK1689.out) hb)
          have n2_ := Aside0.mk (blk_below (g := gb1693) (o := .cells #[.int .u64 t1690, .int .u64 t1691] 25 (0, 0)) (by (with_reducible repeat (first | refine blk_drewN ?_ _ | refine blk_drew ?_ | refine blk_alloc ?_ _)); exact BK1693.out) hb)
          have n3_ := Aside0.mk (below_step (by repeat (first | (with_reducible first | exact HB.out | apply below_alloc | apply pw_below_drewN | apply below_drew1 | refine below_set ?_ GE1673.out | refine below_set ?_ GE1689.out | refine below_set ?_ GE1693.out) | exact HB.out)) hb)
          clear BK1673
          clear BK1689
          clear BK1693
          clear HB
          have BK1673 := n0_
          have BK1689 := n1_
          have BK1693 := n2_
          have HB := n3_
          clear n0_ n1_ n2_ n3_
          (try clear hb)
          (try clear hb2)
          (try clear hk)
          (try clear hi)
          refine hK.out _ _ ⟨(blk_cell BK1673.out 0).trans rfl, (blk_cell BK1673.out 1).trans rfl, (blk_cell BK1689.out 0).trans rfl, (blk_cell BK1689.out 1).trans rfl, (blk_cell BK1693.out 0).trans rfl, (blk_cell BK1693.out 1).trans rfl⟩ (fun hHeld => ?_)
          clear hK K
          refine norm_ (a' := ?_) ?_ ?_
          rotate_left
          · show Act.put _ (some 23) _ = _
            simp only [Act.put, List.setIfInBounds_toArray, List.set_cons_zero, List.set_cons_succ, i64_w, i32_w]
            rfl
          refine one_ (i := 3) (N := some 25) #[true, true, true, true, false, false, false, false, false, false, false, false, false, false, false, false, false, false, false, false, false, false, false] rfl rfl (one_of HT_.out (by kernel_rfl)) (by decide) (fun K hK => ?_)
          refine goes_ Try.func63 (by kernel_rfl) rfl #[.agg #[.int .u64 a0_0, .int .u64 a0_1]] (by rfl) rfl rfl (by (try simp only [List.map_toArray, List.map_cons, List.map_nil]); first | done | rfl | (simp only [List.length_drop, List.length_take]; rfl)) ?_
          with_reducible refine (paymasterref02_Text.calls k a0_0 a0_1 t1695 _ A8.out).mono ?_
          rintro e w27 ⟨rfl, hb⟩
          refine ⟨_, rfl, ?_⟩
          have n0_ := Aside0.mk (blk_below (g := gb1673) (o := .cells #[.int .u64 a0_0, .int .u64 a0_1] 25 (0, 0)) (by (with_reducible repeat (first | refine blk_drewN ?_ _ | refine blk_drew ?_ | refine blk_alloc ?_ _)); exact BK1673.out) hb)
          have n1_ := Aside0.mk (blk_below (g := gb1689) (o := .cells #[.int .u64 t1686, .int .u64 t1687] 25 (0, 0)) (by (with_reducible repeat (first | refine blk_drewN ?_ _ | refine blk_drew ?_ | refine blk_alloc ?_ _)); exact BK1689.out) hb)
          have n2_ := Aside0.mk (blk_below (g := gb1693) (o := .cells #[.int .u64 t1690, .int .u64 t1691] 25 (0, 0)) (by (with_reducible repeat (first | refine blk_drewN ?_ _ | refine blk_drew ?_ | refine blk_alloc ?_ _)); exact BK1693.out) hb)
          have n3_ := Aside0.mk (below_step (by repeat (first | (with_reducible first | exact HB.out | apply below_alloc | apply pw_below_drewN | apply below_drew1 | refine below_set ?_ GE1673.out | refine below_set ?_ GE1689.out | refine below_set ?_ GE1693.out) | exact HB.out)) hb)
          clear BK1673
          clear BK1689
          clear BK1693
          clear HB
          have BK1673 := n0_
          have BK1689 := n1_
          have BK1693 := n2_
          have HB := n3_
          clear n0_ n1_ n2_ n3_
          (try clear hb)
          (try clear hb2)
          (try clear hk)
          (try clear hi)
          refine hK.out _ _ ⟨(blk_cell BK1673.out 0).trans rfl, (blk_cell BK1673.out 1).trans rfl, (blk_cell BK1689.out 0).trans rfl, (blk_cell BK1689.out 1).trans rfl, (blk_cell BK1693.out 0).trans rfl, (blk_cell BK1693.out 1).trans rfl⟩ (fun hHeld => ?_)
          clear hK K
          refine norm_ (a' := ?_) ?_ ?_
          rotate_left
          · show Act.put _ (some 25) _ = _
            simp only [Act.put, List.setIfInBounds_toArray, List.set_cons_zero, List.set_cons_succ, i64_w, i32_w]
            rfl
          refine pure_ (i := 4) (N := some 26) (v := ?_) (a' := ?_) #[true, true, true, true, true, false, false, false, false, false, false, false, false, false, false, false, false, false, false, false, false, false, false] rfl rfl (any_of HT_.out (by kernel_rfl)) (fun _ _ _ h => h) (Or.inl ⟨by rfl, ?_⟩) ?_ ?_
          rotate_left
          · intro w'
            go_simp
            with_reducible rfl
          rotate_left
          · simp only [Act.put, List.setIfInBounds_toArray, List.set_cons_zero, List.set_cons_succ, i64_w, i32_w]
            rfl
          refine pure_ (i := 5) (N := some 27) (v := ?_) (a' := ?_) #[true, true, true, true, true, true, false, false, false, false, false, false, false, false, false, false, false, false, false, false, false, false, false] rfl rfl (any_of HT_.out (by kernel_rfl)) (fun _ _ _ h => h) (Or.inl ⟨by rfl, ?_⟩) ?_ ?_
          rotate_left
          · intro w'
            go_simp
            with_reducible rfl
          rotate_left
          · simp only [Act.put, List.setIfInBounds_toArray, List.set_cons_zero, List.set_cons_succ, i64_w, i32_w]
            rfl
          refine take_ (i := 6) (N := some 28) (v := ?_) (a' := ?_) #[true, true, true, true, true, true, true, false, false, false, false, false, false, false, false, false, false, false, false, false, false, false, false] rfl rfl (take_ofW HT_.out HW_.out (by kernel_rfl)) (fun _ _ _ h => h) (Or.inl ⟨by rfl, ?_⟩) hHeld ?_ ?_
          rotate_left
          · rintro w' ⟨s0, s1, s2, s3, s4, s5⟩
            go_simp
            with_reducible rfl
          rotate_left
          · simp only [Act.put, List.setIfInBounds_toArray, List.set_cons_zero, List.set_cons_succ, i64_w, i32_w]
            rfl
          refine take_ (i := 8) (N := some 30) (v := ?_) (a' := ?_) #[true, true, true, true, true, true, true, false, true, false, false, false, false, false, false, false, false, false, false, false, false, false, false] rfl rfl (take_ofW HT_.out HW_.out (by kernel_rfl)) (fun _ _ _ h => h) (Or.inl ⟨by rfl, ?_⟩) hHeld ?_ ?_
          rotate_left
          · rintro w' ⟨s0, s1, s2, s3, s4, s5⟩
            go_simp
            with_reducible rfl
          rotate_left
          · simp only [Act.put, List.setIfInBounds_toArray, List.set_cons_zero, List.set_cons_succ, i64_w, i32_w]
            rfl
          refine one_ (i := 7) (N := some 29) #[true, true, true, true, true, true, true, true, true, false, false, false, false, false, false, false, false, false, false, false, false, false, false] rfl rfl (one_of HT_.out (by kernel_rfl)) (by decide) (fun K hK => ?_)
          refine goes_ Try.func79 (by kernel_rfl) rfl #[.agg #[.int .u64 a0_0, .int .u64 a0_1]] (by rfl) rfl rfl (by (try simp only [List.map_toArray, List.map_cons, List.map_nil]); first | done | rfl | (simp only [List.length_drop, List.length_take]; rfl)) ?_
          with_reducible refine (decimal_Grouped.calls a0_0 a0_1 t1696 _ A10.out).mono ?_
          rintro e w28 ⟨rfl, hb⟩
          refine ⟨_, rfl, ?_⟩
          have n0_ := Aside0.mk (blk_below (g := gb1673) (o := .cells #[.int .u64 a0_0, .int .u64 a0_1] 25 (0, 0)) (by (with_reducible repeat (first | refine blk_drewN ?_ _ | refine blk_drew ?_ | refine blk_alloc ?_ _)); exact BK1673.out) hb)
          have n1_ := Aside0.mk (blk_below (g := gb1689) (o := .cells #[.int .u64 t1686, .int .u64 t1687] 25 (0, 0)) (by (with_reducible repeat (first | refine blk_drewN ?_ _ | refine blk_drew ?_ | refine blk_alloc ?_ _)); exact BK1689.out) hb)
          have n2_ := Aside0.mk (blk_below (g := gb1693) (o := .cells #[.int .u64 t1690, .int .u64 t1691] 25 (0, 0)) (by (with_reducible repeat (first | refine blk_drewN ?_ _ | refine blk_drew ?_ | refine blk_alloc ?_ _)); exact BK1693.out) hb)
          have n3_ := Aside0.mk (below_step (by repeat (first | (with_reducible first | exact HB.out | apply below_alloc | apply pw_below_drewN | apply below_drew1 | refine below_set ?_ GE1673.out | refine below_set ?_ GE1689.out | refine below_set ?_ GE1693.out) | exact HB.out)) hb)
          clear BK1673
          clear BK1689
          clear BK1693
          clear HB
          have BK1673 := n0_
          have BK1689 := n1_
          have BK1693 := n2_
          have HB := n3_
          clear n0_ n1_ n2_ n3_
          (try clear hb)
          (try clear hb2)
          (try clear hk)
          (try clear hi)
          refine hK.out _ _ ⟨(blk_cell BK1673.out 0).trans rfl, (blk_cell BK1673.out 1).trans rfl, (blk_cell BK1689.out 0).trans rfl, (blk_cell BK1689.out 1).trans rfl, (blk_cell BK1693.out 0).trans rfl, (blk_cell BK1693.out 1).trans rfl⟩ (fun hHeld => ?_)
          clear hK K
          refine norm_ (a' := ?_) ?_ ?_
          rotate_left
          · show Act.put _ (some 29) _ = _
            simp only [Act.put, List.setIfInBounds_toArray, List.set_cons_zero, List.set_cons_succ, i64_w, i32_w]
            rfl
          refine one_ (i := 9) (N := some 31) #[true, true, true, true, true, true, true, true, true, true, false, false, false, false, false, false, false, false, false, false, false, false, false] rfl rfl (one_of HT_.out (by kernel_rfl)) (by decide) (fun K hK => ?_)
          refine goes_ Try.func80 (by kernel_rfl) rfl #[.agg #[.int .u64 a0_0, .int .u64 a0_1]] (by rfl) rfl rfl (by (try simp only [List.map_toArray, List.map_cons, List.map_nil]); first | done | rfl | (simp only [List.length_drop, List.length_take]; rfl)) ?_
          with_reducible refine (paymasterref02_Grouped.calls k a0_0 a0_1 t1697 _ A11.out).mono ?_
          rintro e w29 ⟨rfl, hb⟩
          refine ⟨_, rfl, ?_⟩
          have n0_ := Aside0.mk (blk_below (g := gb1673) (o := .cells #[.int .u64 a0_0, .int .u64 a0_1] 25 (0, 0)) (by (with_reducible repeat (first | refine blk_drewN ?_ _ | refine blk_drew ?_ | refine blk_alloc ?_ _)); exact BK1673.out) hb)
          have n1_ := Aside0.mk (blk_below (g := gb1689) (o := .cells #[.int .u64 t1686, .int .u64 t1687] 25 (0, 0)) (by (with_reducible repeat (first | refine blk_drewN ?_ _ | refine blk_drew ?_ | refine blk_alloc ?_ _)); exact BK1689.out) hb)
          have n2_ := Aside0.mk (blk_below (g := gb1693) (o := .cells #[.int .u64 t1690, .int .u64 t1691] 25 (0, 0)) (by (with_reducible repeat (first | refine blk_drewN ?_ _ | refine blk_drew ?_ | refine blk_alloc ?_ _)); exact BK1693.out) hb)
          have n3_ := Aside0.mk (below_step (by repeat (first | (with_reducible first | exact HB.out | apply below_alloc | apply pw_below_drewN | apply below_drew1 | refine below_set ?_ GE1673.out | refine below_set ?_ GE1689.out | refine below_set ?_ GE1693.out) | exact HB.out)) hb)
          clear BK1673
          clear BK1689
          clear BK1693
          clear HB
          have BK1673 := n0_
          have BK1689 := n1_
          have BK1693 := n2_
          have HB := n3_
          clear n0_ n1_ n2_ n3_
          (try clear hb)
          (try clear hb2)
          (try clear hk)
          (try clear hi)
          refine hK.out _ _ ⟨(blk_cell BK1673.out 0).trans rfl, (blk_cell BK1673.out 1).trans rfl, (blk_cell BK1689.out 0).trans rfl, (blk_cell BK1689.out 1).trans rfl, (blk_cell BK1693.out 0).trans rfl, (blk_cell BK1693.out 1).trans rfl⟩ (fun hHeld => ?_)
          clear hK K
          refine norm_ (a' := ?_) ?_ ?_
          rotate_left
          · show Act.put _ (some 31) _ = _
            simp only [Act.put, List.setIfInBounds_toArray, List.set_cons_zero, List.set_cons_succ, i64_w, i32_w]
            rfl
          refine pure_ (i := 10) (N := some 32) (v := ?_) (a' := ?_) #[true, true, true, true, true, true, true, true, true, true, true, false, false, false, false, false, false, false, false, false, false, false, false] rfl rfl (any_of HT_.out (by kernel_rfl)) (fun _ _ _ h => h) (Or.inl ⟨by rfl, ?_⟩) ?_ ?_
          rotate_left
          · intro w'
            go_simp
            with_reducible rfl
          rotate_left
          · simp only [Act.put, List.setIfInBounds_toArray, List.set_cons_zero, List.set_cons_succ, i64_w, i32_w]
            rfl
          refine pure_ (i := 11) (N := some 33) (v := ?_) (a' := ?_) #[true, true, true, true, true, true, true, true, true, true, true, true, false, false, false, false, false, false, false, false, false, false, false] rfl rfl (any_of HT_.out (by kernel_rfl)) (fun _ _ _ h => h) (Or.inl ⟨by rfl, ?_⟩) ?_ ?_
          rotate_left
          · intro w'
            go_simp
            with_reducible rfl
          rotate_left
          · simp only [Act.put, List.setIfInBounds_toArray, List.set_cons_zero, List.set_cons_succ, i64_w, i32_w]
            rfl
          refine pure_ (i := 12) (N := some 34) (v := ?_) (a' := ?_) #[true, true, true, true, true, true, true, true, true, true, true, true, true, false, false, false, false, false, false, false, false, false, false] rfl rfl (any_of HT_.out (by kernel_rfl)) (fun _ _ _ h => h) (Or.inl ⟨by rfl, ?_⟩) ?_ ?_
          rotate_left
          · intro w'
            go_simp
            with_reducible rfl
          rotate_left
          · simp only [Act.put, List.setIfInBounds_toArray, List.set_cons_zero, List.set_cons_succ, i64_w, i32_w]
            rfl
          refine take_ (i := 13) (N := some 35) (v := ?_) (a' := ?_) #[true, true, true, true, true, true, true, true, true, true, true, true, true, true, false, false, false, false, false, false, false, false, false] rfl rfl (take_ofW HT_.out HW_.out (by kernel_rfl)) (fun _ _ _ h => h) (Or.inl ⟨by rfl, ?_⟩) hHeld ?_ ?_
          rotate_left
          · rintro w' ⟨s0, s1, s2, s3, s4, s5⟩
            go_simp
            with_reducible rfl
          rotate_left
          · simp only [Act.put, List.setIfInBounds_toArray, List.set_cons_zero, List.set_cons_succ, i64_w, i32_w]
            rfl
          refine take_ (i := 14) (N := some 36) (v := ?_) (a' := ?_) #[true, true, true, true, true, true, true, true, true, true, true, true, true, true, true, false, false, false, false, false, false, false, false] rfl rfl (take_ofW HT_.out HW_.out (by kernel_rfl)) (fun _ _ _ h => h) (Or.inl ⟨by rfl, ?_⟩) hHeld ?_ ?_
          rotate_left
          · rintro w' ⟨s0, s1, s2, s3, s4, s5⟩
            go_simp
            with_reducible rfl
          rotate_left
          · simp only [Act.put, List.setIfInBounds_toArray, List.set_cons_zero, List.set_cons_succ, i64_w, i32_w]
            rfl
          refine pure_ (i := 15) (N := some 37) (v := ?_) (a' := ?_) #[true, true, true, true, true, true, true, true, true, true, true, true, true, true, true, true, false, false, false, false, false, false, false] rfl rfl (any_of HT_.out (by kernel_rfl)) (fun _ _ _ h => h) (Or.inl ⟨by rfl, ?_⟩) ?_ ?_
          rotate_left
          · intro w'
            go_simp
            with_reducible rfl
          rotate_left
          · simp only [Act.put, List.setIfInBounds_toArray, List.set_cons_zero, List.set_cons_succ, i64_w, i32_w]
            rfl
          refine pure_ (i := 16) (N := some 38) (v := ?_) (a' := ?_) #[true, true, true, true, true, true, true, true, true, true, true, true, true, true, true, true, true, false, false, false, false, false, false] rfl rfl (any_of HT_.out (by kernel_rfl)) (fun _ _ _ h => h) (Or.inl ⟨by rfl, ?_⟩) ?_ ?_
          rotate_left
          · intro w'
            go_simp
            with_reducible rfl
          rotate_left
          · simp only [Act.put, List.setIfInBounds_toArray, List.set_cons_zero, List.set_cons_succ, i64_w, i32_w]
            rfl
          refine pure_ (i := 17) (N := some 39) (v := ?_) (a' := ?_) #[true, true, true, true, true, true, true, true, true, true, true, true, true, true, true, true, true, true, false, false, false, false, false] rfl rfl (any_of HT_.out (by kernel_rfl)) (fun _ _ _ h => h) (Or.inl ⟨by rfl, ?_⟩) ?_ ?_
          rotate_left
          · intro w'
            go_simp
            with_reducible rfl
          rotate_left
          · simp only [Act.put, List.setIfInBounds_toArray, List.set_cons_zero, List.set_cons_succ, i64_w, i32_w]
            rfl
          refine pure_ (i := 18) (N := some 40) (v := ?_) (a' := ?_) #[true, true, true, true, true, true, true, true, true, true, true, true, true, true, true, true, true, true, true, false, false, false, false] rfl rfl (any_of HT_.out (by kernel_rfl)) (fun _ _ _ h => h) (Or.inl ⟨by rfl, ?_⟩) ?_ ?_
          rotate_left
          · intro w'
            go_simp
            with_reducible rfl
          rotate_left
          · simp only [Act.put, List.setIfInBounds_toArray, List.set_cons_zero, List.set_cons_succ, i64_w, i32_w]
            rfl
          refine pure_ (i := 19) (N := some 41) (v := ?_) (a' := ?_) #[true, true, true, true, true, true, true, true, true, true, true, true, true, true, true, true, true, true, true, true, false, false, false] rfl rfl (any_of HT_.out (by kernel_rfl)) (fun _ _ _ h => h) (Or.inl ⟨by rfl, ?_⟩) ?_ ?_
          rotate_left
          · intro w'
            go_simp
            with_reducible rfl
          rotate_left
          · simp only [Act.put, List.setIfInBounds_toArray, List.set_cons_zero, List.set_cons_succ, i64_w, i32_w]
            rfl
          refine pure_ (i := 20) (N := some 42) (v := ?_) (a' := ?_) #[true, true, true, true, true, true, true, true, true, true, true, true, true, true, true, true, true, true, true, true, true, false, false] rfl rfl (any_of HT_.out (by kernel_rfl)) (fun _ _ _ h => h) (Or.inl ⟨by rfl, ?_⟩) ?_ ?_
          rotate_left
          · intro w'
            go_simp
            with_reducible rfl
          rotate_left
          · simp only [Act.put, List.setIfInBounds_toArray, List.set_cons_zero, List.set_cons_succ, i64_w, i32_w]
            rfl
          refine pure_ (i := 21) (N := some 43) (v := ?_) (a' := ?_) #[true, true, true, true, true, true, true, true, true, true, true, true, true, true, true, true, true, true, true, true, true, true, false] rfl rfl (any_of HT_.out (by kernel_rfl)) (fun _ _ _ h => h) (Or.inl ⟨by rfl, ?_⟩) ?_ ?_
          rotate_left
          · intro w'
            go_simp
            with_reducible rfl
          rotate_left
          · simp only [Act.put, List.setIfInBounds_toArray, List.set_cons_zero, List.set_cons_succ, i64_w, i32_w]
            rfl
          refine pure_ (i := 22) (N := some 4) (v := ?_) (a' := ?_) #[true, true, true, true, true, true, true, true, true, true, true, true, true, true, true, true, true, true, true, true, true, true, true] rfl rfl (any_of HT_.out (by kernel_rfl)) (fun _ _ _ h => h) (Or.inl ⟨by rfl, ?_⟩) ?_ ?_
          rotate_left
          · intro w'
            go_simp
            with_reducible rfl
          rotate_left
          · simp only [Act.put, List.setIfInBounds_toArray, List.set_cons_zero, List.set_cons_succ, i64_w, i32_w]
            rfl
          refine done_ (done_of HT_.out (by kernel_rfl)) ?_
          try go_wp2
          go_ret
          exact ⟨by first | rfl | (simp [errW_none, errW_some] <;> rfl) | (simp [*, errW_none, errW_some] <;> rfl), by repeat (first | (with_reducible first | exact HB.out | apply below_alloc | apply pw_below_drewN | apply below_drew1 | refine below_set ?_ GE1673.out | refine below_set ?_ GE1689.out | refine below_set ?_ GE1693.out) | exact HB.out)⟩
        · rw [if_neg c13] at H
          have c13b0 : (t1686 == t1690 && (t1687 == t1691)) = false := by simpa using c13
          (try (have c13b1 : decide (t1686 = t1690 && (t1687 == t1691)) = false := by simpa using c13))
          (try (have c13b2 : (t1686 == t1690 && (t1687 == t1691)) = false := by simpa using c13))
          (try (have c13b3 : ¬ (t1686 = t1690 && (t1687 == t1691)) := by simpa using c13))
          clear c13
          exact absurd H (by simp)
      · rw [if_neg c12] at H
        have c12b0 : (t1696.toList == t1697.toList) = false := beq_eq_false_iff_ne.mpr c12
        have c12b1 : (t1696.toList != t1697.toList) = true := bne_iff_ne.mpr c12
        exact absurd H (by simp)
    · rw [if_neg c9] at H
      have c9b0 : (t1694.toList == t1695.toList) = false := beq_eq_false_iff_ne.mpr c9
      have c9b1 : (t1694.toList != t1695.toList) = true := bne_iff_ne.mpr c9
      exact absurd H (by simp)
end Go.Proofs.Ytpkjpiphjdpegaa.P
namespace Go.Proofs.Ytpkjpiphjdpegaa.P
open Go.RowKit Go.Proofs.YtpkjpiphjdpegaaW.PrintWords Go.Proofs.YtpkjpiphjdpegaaW.PrintLast Go.Proofs.YtpkjpiphjdpegaaW.PrintMore
set_option linter.unusedVariables false
set_option linter.unusedSimpArgs false
theorem decimalTexts_pure (a b : Int) (s : ByteArray) (ha : U64 a) (hb : U64 b) : paymasterlaw02_DecimalTexts.f 1400 a b s = some true := by
  unfold paymasterlaw02_DecimalTexts.f
  by_cases h : (s.size : Int) > 300
  · rw [if_pos h]
  have P : paymasterref02_Parse.f 1400 s = decimal_Parse.f s := by
    have := refParse_is s (by omega) (677 - 2 * s.size)
    rw [show 677 - 2 * s.size + 2 * s.size + 723 = 1400 from by omega] at this
    exact this
  have X : paymasterref02_Text.f 1400 a b = decimal_Text.f a b := refText_is 1181 a b ha hb
  have G : paymasterref02_Grouped.f 1400 a b = decimal_Grouped.f a b := refGrouped_is 1181 a b ha hb
  rw [if_neg h, P, X, G, parse_num s (by omega), text_num a b ha hb, grouped_num a b ha hb, Option.bind_some, Option.bind_some, Option.bind_some, Option.bind_some, if_pos rfl, Option.bind_some, Option.bind_some, if_pos rfl, if_pos (by simp)]
  simp
theorem decimalTexts_walk {w : World} (a b : Int) (ha : U64 a) (hb : U64 b) (s : ByteArray) (gs : s.size ≤ 9223372036854775807) :
    Calls Try.prog 19 #[.agg #[.int .u64 a, .int .u64 b], .string s] w fun e w' => e = .returned (.bool true) ∧ Below w.heap.size w w' :=
  paymasterlaw02_DecimalTexts.calls 1400 a b s true w (decimalTexts_pure a b s ha hb)
end Go.Proofs.Ytpkjpiphjdpegaa.P
namespace Go.Proofs.Ytpkjpiphjdpegaa.decimalTexts
open Go.ChangeShapes Go.WideShapes Go.ChangeAt Go.RowKit Go.Proofs.Ytpkjpiphjdpegaa.P
open Go.ChangeMaps (open_string shut_string)
set_option linter.unusedVariables false
theorem own : ownKnob Try.prog.godebug = none := by kernel_rfl
theorem laidOut : laidOutB Try.prog = true := by kernel_rfl
set_option maxRecDepth 100000 in
theorem lifted (os : Os) (started : os.Started) (H : Type) (enc : TypeId × Value → H) :
    ReturnsInHanded {} Try.checked os 19 .any (Rows.decimalTextsSpec.pre6 enc Try.prog Try.f19 Rows.decimalTextsRow.domain false) (Rows.decimalTextsSpec.post enc Try.prog Try.f19 false true false false) := by
  refine returnsInHanded_of_change_sized (C := Try.checked) own started (by kernel_rfl) Try.func19
    (ChangeSpec.witness6 (enc := enc) (C := Try.checked) false ⟨#[], #[.agg #[.int .u64 0, .int .u64 0], .string ByteArray.empty], []⟩ 8 (by kernel_rfl) (by kernel_rfl) (by kernel_rfl) (by kernel_rfl)) ?_
  intro W base args ds gs before hval0 hW hcnd hsz0 _
  have hval : ∀ (j : Nat) t v, Try.f19.params[j]? = some t → args[j]? = some v → Value.okWide Try.prog W .any base t v := hval0
  have hW' := hW
  obtain ⟨p, q, hA0, hV, rfl, hfz, hnd⟩ := hW
  have hA : DataW.TrodAll enc Try.prog W 0 (fun _ => true) true Try.f19.params.toList args.toList ds p := hA0
  rw [Try.params19] at hA hval
  have hAll := hA
  obtain ⟨v0, vs0, d0, ds0, p0, q0, hargs, rfl, rfl, h0, r0⟩ := trodAll_cons hA
  obtain ⟨v1, vs1, d1, ds1, p1, q1, rfl, rfl, rfl, h1, r1⟩ := trodAll_cons r0
  obtain ⟨rfl, rfl, rfl⟩ := trodAll_nil r1
  obtain rfl : args = #[v0, v1] := by cases args; simp_all
  obtain ⟨rfl, rfl⟩ := trodVars_none hV
  obtain ⟨a0_0, a0_1, rfl, g0_0, g0_1⟩ := arg_25 (hval 0 25 v0 rfl rfl) h0
  obtain ⟨a1, rfl, g1⟩ := arg_string (hval 1 9 v1 rfl rfl) h1
  clear hA0 hval0 hsz0
  refine (decimalTexts_walk (w := W) a0_0 a0_1 g0_0 g0_1 a1 g1).mono fun e W' ⟨he, bel⟩ => ?_
  subst he
  exact ⟨_, rfl, _, _, _, [], _, [], hW', trodAll_mk1 (shut_bool Try.underlying4 _), args_back laidOut bel (by kernel_rfl) hAll, rfl, bel.frame _, fun h => by cases h⟩
theorem both {a b : Bool} (h : a = true) (k : b = true) : (a && b) = true := by rw [h, k]; rfl
theorem c0 : (Rows.decimalTextsRow.wf (OpenSpec.ofChange Rows.decimalTextsSpec)) = true := by kernel_rfl
theorem c1 : (laidOutB Try.prog) = true := by kernel_rfl
theorem c2 : (mapsRowed Try.prog) = true := by kernel_rfl
theorem c3 : (Try.f19.params.all (Try.prog.readableRec ·)) = true := by kernel_rfl
theorem c4 : (namedTie Try.prog Rows.decimalTextsRow.named Rows.decimalTextsSpec.vars) = true := by kernel_rfl
theorem c5 : ((Rows.decimalTextsRow.stops == [])) = true := by kernel_rfl
theorem c6 : ((Try.prog.stops == [])) = true := by kernel_rfl
theorem c7 : ((Rows.decimalTextsRow.knobs == [])) = true := by kernel_rfl
theorem c8 : ((Try.prog.stopKnobs == [])) = true := by kernel_rfl
theorem c9 : ((Rows.decimalTextsRow.inPlace == Try.prog.inPlace 19)) = true := by kernel_rfl
theorem c10 : ((Rows.decimalTextsRow.unfollowed == Try.prog.unfollowed 19)) = true := by kernel_rfl
theorem c11 : ((Rows.decimalTextsRow.recurses == Try.prog.recurses 19)) = true := by kernel_rfl
theorem c12 : ((Rows.decimalTextsRow.named == Try.prog.varsNamed 19)) = true := by kernel_rfl
theorem c13 : ((Rows.decimalTextsRow.maps == (Try.f19.params.toList ++ Rows.decimalTextsSpec.plain.varTypes Try.prog).any (Try.prog.mapsRec ·))) = true := by kernel_rfl
theorem c14 : ((Rows.decimalTextsRow.ifaces == (Try.f19.params.toList ++ Rows.decimalTextsSpec.plain.varTypes Try.prog).any (Try.prog.ifacesRec ·))) = true := by kernel_rfl
theorem c15 : ((Rows.decimalTextsRow.mapsOut == Try.prog.mapsAmong Try.f19.resultTypes.toList)) = true := by kernel_rfl
theorem c16 : ((Rows.decimalTextsRow.loops == (Try.f19.params.toList ++ Rows.decimalTextsSpec.plain.varTypes Try.prog).any (Try.prog.loopsFrom ·))) = true := by kernel_rfl
theorem c17 : ((Rows.decimalTextsRow.wideKeys == (Try.f19.params.toList ++ Rows.decimalTextsSpec.plain.varTypes Try.prog ++ Try.f19.resultTypes.toList).any (Try.prog.wideKeysFrom ·))) = true := by kernel_rfl
theorem c18 : (Rows.decimalTextsSpec.vars.all (Try.prog.varReadable ·)) = true := by kernel_rfl
theorem c19 : (Try.f19.resultTypes.all (fun t => Try.prog.readableRec t && decide (t < Try.prog.types.size))) = true := by kernel_rfl
theorem c20 : ((Rows.decimalTextsRow.ifacesOut == Try.f19.resultTypes.toList.any (Try.prog.ifacesRec ·))) = true := by kernel_rfl
theorem c21 : ((Rows.decimalTextsRow.loopsOut == Try.f19.resultTypes.toList.any (Try.prog.loopsFrom ·))) = true := by kernel_rfl
theorem c22 : ((Rows.decimalTextsRow.plainKeys == Try.prog.plainKeys)) = true := by kernel_rfl
theorem c23 : (Rows.decimalTextsRow.shortTexts.isNone) = true := by kernel_rfl
theorem c24 : (Try.prog.stopsHeard) = true := by kernel_rfl
theorem c25 : (Try.prog.mayEnter) = true := Facts.mayEnter
theorem c26 : ((Rows.decimalTextsRow.lifted == Try.prog.liftsFinal)) = true := by rw [Facts.liftsFinal]; kernel_rfl
theorem c27 : ((Try.prog.make == some Rows.decimalTextsRow.make)) = true := by rw [Facts.make]; kernel_rfl
theorem c28 : ((Rows.decimalTextsRow.kinds == (if Rows.decimalTextsRow.domain.isEmpty then [] else Try.f19.params.toList.map fun t => match Try.prog.underlying t with | some (.int k) => some k | _ => none))) = true := by kernel_rfl
theorem c29 : ((Rows.decimalTextsRow.pinned == Rows.decimalTextsRow.pinnedBy)) = true := by kernel_rfl
theorem c30 : ((Rows.decimalTextsRow.veiled == (Try.f19.params.toList ++ Rows.decimalTextsSpec.plain.varTypes Try.prog ++ Try.f19.resultTypes.toList).any (Try.prog.veiledRec ·))) = true := by kernel_rfl
theorem c31 : (Rows.decimalTextsRow.veiledFits Try.prog Try.f19.params.toList (Try.f19.params.toList ++ Rows.decimalTextsSpec.plain.varTypes Try.prog ++ Try.f19.resultTypes.toList)) = true := by kernel_rfl
set_option maxRecDepth 100000 in
theorem closed : joinedFacts Try.prog 19 Try.f19 Rows.decimalTextsSpec Rows.decimalTextsRow = true := by
  unfold joinedFacts
  exact both (both (both (both (both (both (both (both (both (both (both (both (both (both (both (both (both (both (both (both (both (both (both (both (both (both (both (both (both (both (both (c0) c1) c2) c3) c4) c5) c6) c7) c8) c9) c10) c11) c12) c13) c14) c15) c16) c17) c18) c19) c20) c21) c22) c23) c24) c25) c26) c27) c28) c29) c30) c31
theorem over : Rows.decimalTextsRow.holds Try.pinned (OpenSpec.ofChange Rows.decimalTextsSpec) :=
  OpenClaim.holds_of_wide 19 Try.f19 rfl rfl rfl rfl rfl rfl rfl ⟨rfl, rfl, rfl, rfl, rfl⟩ rfl rfl rfl rfl rfl (by kernel_rfl) Try.func19 closed
    (of_decide_eq_true (by kernel_rfl)) (by unfold Func.isWrapper; first | (rw [if_pos (by decide +kernel)]; kernel_rfl) | (rw [if_neg (by decide +kernel)]; exact ⟨rfl, rfl⟩))
    (fun os started H enc _ => lifted os started H enc)
end Go.Proofs.Ytpkjpiphjdpegaa.decimalTexts
namespace Go.Proofs.Ytpkjpiphjdpegaa
theorem decimalTexts_holds : Rows.DecimalTextsSaid := decimalTexts.over
end Go.Proofs.Ytpkjpiphjdpegaa
